/- Lemmas for this claim's walk: no condition of their own. -/
import Derived.Test.YthlffcaaifpdeaaVaJ15
import Derived.Test.YthlffcaaifpdeaaVaJ17
import Derived.Test.YthlffcaaifpdeaaVaQx13
namespace Go.Proofs.Ythlffcaaifpdeaa.Q
open Go.RowKit Go.Proofs.YthlffcaaifpdeaaW.PrintWords Go.Proofs.YthlffcaaifpdeaaW.PrintLast Go.Proofs.YthlffcaaifpdeaaW.PrintMore
attribute [local go_sem] max2_int min2_int max_two min_two max_three min_three max_four min_four
set_option linter.unusedVariables false
set_option linter.unusedSimpArgs false
def skerryref12_Choose.pick (m : Int) (bs : List (List Int)) : List Int := bs.foldl (fun best b => if m ≤ (b.length : Int) ∧ best.length < b.length then b else best) []
def skerryref12_Choose.f (l0 : List Int) (a1 : Int) : Option (List Int) := (skerryref12_Buckets.f l0).bind fun bs => if bs.length ≤ 1000000 ∧ (bs.all fun b => decide (b.length ≤ 1000000)) = true then some (skerryref12_Choose.pick (mx a1 2) bs) else none
theorem skerryref12_Choose.pick_snoc (m : Int) (bs : List (List Int)) (b : List Int) : skerryref12_Choose.pick m (bs ++ [b]) = if m ≤ (b.length : Int) ∧ (skerryref12_Choose.pick m bs).length < b.length then b else skerryref12_Choose.pick m bs := by unfold skerryref12_Choose.pick; rw [List.foldl_append]; rfl
theorem skerryref12_Choose.elem {w W : World} {v : Value} {bs : List (List Int)} (hB : Below w.heap.size w W) (h : Kd.S (Kd.slice 3 (Kd.int .i64)) 22 W w.heap.size (fun _ => True) v bs) (j : Nat) (hj : j < bs.length) :
  ∃ g c A1 c1, v = .slice (some ⟨g, 0, none⟩) bs.length c ∧ W.cell? ⟨g, j, none⟩ = some (.slice A1 bs[j].length c1) ∧ Kd.R (Kd.int .i64) 3 W w.heap.size (fun _ => True) (.slice A1 bs[j].length c1) bs[j] := by
 have hR := Kd.S_R h
 obtain ⟨g, c, e, h1, h2, cells, h3⟩ := Kd.R_form hR (by omega)
 subst e
 obtain ⟨cs, c1, c2, c3, c4⟩ := Kd.R_elem hR [] (j : Int) (by omega) (by omega)
 rw [Int.toNat_natCast] at c2 c3
 rw [List.getD_eq_getElem?_getD, List.getElem?_eq_getElem hj, Option.getD_some] at c2
 obtain ⟨u, rfl, hu⟩ := c2
 obtain ⟨A1, d1, rfl⟩ := Kd.R_slice hu
 have c5 := c3 0 _ rfl
 rw [show j * (Kd.slice 3 (Kd.int .i64)).sz + 0 = j from Nat.mul_one j] at c5
 exact ⟨g, c, A1, d1, rfl, c5, Kd.R_mono hu (fun _ _ => trivial)⟩
set_option maxHeartbeats 1000000 in
set_option maxRecDepth 100000 in
theorem skerryref12_Choose.calls (A0 : Option Addr) (c0 : Nat) (l0 : List Int) (a1 : Int) (r : List Int) (w : World) (hr0 : Kd.C (Kd.int .i64) w A0 l0.length l0) (hc0 : l0.length ≤ c0) (h : skerryref12_Choose.f l0 a1 = some r) :
  Calls Try.prog 12 #[.slice A0 l0.length c0, .int .i64 a1] w fun e w' => ∃ v0_ : Value, e = .returned (v0_) ∧ Kd.R (Kd.int .i64) 3 w' w.heap.size (fun _ => True) v0_ r ∧ Below w.heap.size w w' := by
 obtain ⟨bs, hb, h2⟩ := Option.bind_eq_some_iff.1 h
 split at h2
 case isFalse => cases h2
 rename_i hbl
 obtain ⟨hl, hall⟩ := hbl
 have HR := Lib.hid (Option.some.inj h2)
 have HALL := Lib.hid (fun b (hx : b ∈ bs) => show b.length ≤ 1000000 from of_decide_eq_true (List.all_eq_true.1 hall b hx))
 have HC := Lib.hid (skerryref12_Buckets.calls A0 c0 l0 bs w hr0 hc0 hb)
 clear h hb h2 hall hr0
 obtain ⟨m, hm⟩ : ∃ m, mx a1 2 = m := ⟨_, rfl⟩
 rw [hm] at HR
 have HM := Lib.hid hm
 clear hm
 have hmx : m = if a1 < 2 then 2 else a1 := by rw [← HM.out]; unfold mx; rfl
 clear HM
 by_cases ha : a1 < 2
 ·
  rw [if_pos ha] at hmx
  subst hmx
  go_enter Try.func12, Try.ntmps12
  go_wp2_with (go_at_call 9; (with_reducible refine HC.out.mono ?_); rintro e w1 ⟨v0, rfl, hs, hb⟩; obtain ⟨A, c, rfl⟩ := Kd.S_slice hs; have HS := Lib.hid hs; have HB := Lib.hid hb; clear hs hb)
  go_loopg [5, 13] bs.length (fun gk v5 v13 wr => ∃ j : Nat, v13 = .int .i64 j ∧ Aside0 (w1 = wr) ∧ Aside0 (j ≤ bs.length ∧ bs.length - j ≤ gk) ∧ ∃ (best : List Int) (A2 : Option Addr) (c2 : Nat), v5 = .slice A2 best.length c2 ∧ Aside0 (best = skerryref12_Choose.pick (2 : Int) (bs.take j) ∧ best.length ≤ 1000000) ∧ Aside0 (Kd.R (Kd.int .i64) 3 w1 w.heap.size (fun _ => True) (.slice A2 best.length c2) best))
  case atStart => exact ⟨0, rfl, ⟨rfl⟩, ⟨by omega, by omega⟩, [], none, 0, rfl, ⟨by simp [skerryref12_Choose.pick], by simp⟩, ⟨Kd.R_nil _ _ _ _ _⟩⟩
  case round =>
   obtain ⟨j, rfl, HW, HJ, best, A2, c2, rfl, HP, HR2⟩ := hrel
   obtain rfl := HW.out
   by_cases hj : j < bs.length
   rotate_left
   ·
    have hz : ¬ (j : Int) < (bs.length : Int) := by omega
    have he : j = bs.length := by have := HJ.out.1; omega
    have HP2 := Lib.hid (show best = r by rw [← HR.out, HP.out.1, he, List.take_length])
    clear HP HJ he
    go_wp2
    go_ret
    exact ⟨_, rfl, HP2.out ▸ HR2.out, HB.out⟩
   have hz : (j : Int) < (bs.length : Int) := by omega
   have hz0 : (0 : Int) ≤ (j : Int) := by omega
   obtain ⟨g, c', A1, d1, e1, hx0, hR1⟩ := skerryref12_Choose.elem HB.out HS.out j hj
   injection e1 with e2 e3 e4
   subst e2 e4
   have HR1 := Lib.hid hR1
   have hx : bs[j].length ≤ 1000000 := HALL.out _ (List.getElem_mem hj)
   have HP2 := Lib.hid (show skerryref12_Choose.pick (2 : Int) (bs.take (j + 1)) = if (2 : Int) ≤ (bs[j].length : Int) ∧ best.length < bs[j].length then bs[j] else best by rw [List.take_succ_eq_append_getElem hj, skerryref12_Choose.pick_snoc, HP.out.1])
   generalize bs[j] = b at hx0 HR1 hx HP2
   have hbl := HP.out.2
   clear hR1
   by_cases h1 : (2 : Int) ≤ (b.length : Int)
   rotate_left
   ·
    have HH := Lib.hid (show ¬ ((2 : Int) ≤ (b.length : Int) ∧ best.length < b.length) from fun h => h1 h.1)
    go_wp2
    go_roundg (bs.length - (j + 1))
    case measure => have := HJ.out; omega
    case rel => exact ⟨j + 1, by go_num, ⟨rfl⟩, ⟨by omega, Nat.le_refl _⟩, best, A2, c2, rfl, ⟨by rw [HP2.out, if_neg HH.out], hbl⟩, ⟨HR2.out⟩⟩
   by_cases h2 : best.length < b.length
   ·
    have HH := Lib.hid (And.intro h1 h2)
    go_wp2
    go_roundg (bs.length - (j + 1))
    case measure => have := HJ.out; omega
    case rel => exact ⟨j + 1, by go_num, ⟨rfl⟩, ⟨by omega, Nat.le_refl _⟩, b, A1, d1, rfl, ⟨by rw [HP2.out, if_pos HH.out], hx⟩, ⟨HR1.out⟩⟩
   ·
    have HH := Lib.hid (show ¬ ((2 : Int) ≤ (b.length : Int) ∧ best.length < b.length) from fun h => h2 h.2)
    have h3 : decide (best.length < b.length) = false := decide_eq_false h2
    go_wp2
    go_roundg (bs.length - (j + 1))
    case measure => have := HJ.out; omega
    case rel => exact ⟨j + 1, by go_num, ⟨rfl⟩, ⟨by omega, Nat.le_refl _⟩, best, A2, c2, rfl, ⟨by rw [HP2.out, if_neg HH.out], hbl⟩, ⟨HR2.out⟩⟩
 ·
  rw [if_neg ha] at hmx
  subst hmx
  have ha2 : ¬ m < 2 := ha
  go_enter Try.func12, Try.ntmps12
  go_wp2_with (go_at_call 9; (with_reducible refine HC.out.mono ?_); rintro e w1 ⟨v0, rfl, hs, hb⟩; obtain ⟨A, c, rfl⟩ := Kd.S_slice hs; have HS := Lib.hid hs; have HB := Lib.hid hb; clear hs hb)
  go_loopg [5, 13] bs.length (fun gk v5 v13 wr => ∃ j : Nat, v13 = .int .i64 j ∧ Aside0 (w1 = wr) ∧ Aside0 (j ≤ bs.length ∧ bs.length - j ≤ gk) ∧ ∃ (best : List Int) (A2 : Option Addr) (c2 : Nat), v5 = .slice A2 best.length c2 ∧ Aside0 (best = skerryref12_Choose.pick m (bs.take j) ∧ best.length ≤ 1000000) ∧ Aside0 (Kd.R (Kd.int .i64) 3 w1 w.heap.size (fun _ => True) (.slice A2 best.length c2) best))
  case atStart => exact ⟨0, rfl, ⟨rfl⟩, ⟨by omega, by omega⟩, [], none, 0, rfl, ⟨by simp [skerryref12_Choose.pick], by simp⟩, ⟨Kd.R_nil _ _ _ _ _⟩⟩
  case round =>
   obtain ⟨j, rfl, HW, HJ, best, A2, c2, rfl, HP, HR2⟩ := hrel
   obtain rfl := HW.out
   by_cases hj : j < bs.length
   rotate_left
   ·
    have hz : ¬ (j : Int) < (bs.length : Int) := by omega
    have he : j = bs.length := by have := HJ.out.1; omega
    have HP2 := Lib.hid (show best = r by rw [← HR.out, HP.out.1, he, List.take_length])
    clear HP HJ he
    go_wp2
    go_ret
    exact ⟨_, rfl, HP2.out ▸ HR2.out, HB.out⟩
   have hz : (j : Int) < (bs.length : Int) := by omega
   have hz0 : (0 : Int) ≤ (j : Int) := by omega
   obtain ⟨g, c', A1, d1, e1, hx0, hR1⟩ := skerryref12_Choose.elem HB.out HS.out j hj
   injection e1 with e2 e3 e4
   subst e2 e4
   have HR1 := Lib.hid hR1
   have hx : bs[j].length ≤ 1000000 := HALL.out _ (List.getElem_mem hj)
   have HP2 := Lib.hid (show skerryref12_Choose.pick m (bs.take (j + 1)) = if m ≤ (bs[j].length : Int) ∧ best.length < bs[j].length then bs[j] else best by rw [List.take_succ_eq_append_getElem hj, skerryref12_Choose.pick_snoc, HP.out.1])
   generalize bs[j] = b at hx0 HR1 hx HP2
   have hbl := HP.out.2
   clear hR1
   by_cases h1 : m ≤ (b.length : Int)
   rotate_left
   ·
    have HH := Lib.hid (show ¬ (m ≤ (b.length : Int) ∧ best.length < b.length) from fun h => h1 h.1)
    go_wp2
    go_roundg (bs.length - (j + 1))
    case measure => have := HJ.out; omega
    case rel => exact ⟨j + 1, by go_num, ⟨rfl⟩, ⟨by omega, Nat.le_refl _⟩, best, A2, c2, rfl, ⟨by rw [HP2.out, if_neg HH.out], hbl⟩, ⟨HR2.out⟩⟩
   by_cases h2 : best.length < b.length
   ·
    have HH := Lib.hid (And.intro h1 h2)
    go_wp2
    go_roundg (bs.length - (j + 1))
    case measure => have := HJ.out; omega
    case rel => exact ⟨j + 1, by go_num, ⟨rfl⟩, ⟨by omega, Nat.le_refl _⟩, b, A1, d1, rfl, ⟨by rw [HP2.out, if_pos HH.out], hx⟩, ⟨HR1.out⟩⟩
   ·
    have HH := Lib.hid (show ¬ (m ≤ (b.length : Int) ∧ best.length < b.length) from fun h => h2 h.2)
    have h3 : decide (best.length < b.length) = false := decide_eq_false h2
    go_wp2
    go_roundg (bs.length - (j + 1))
    case measure => have := HJ.out; omega
    case rel => exact ⟨j + 1, by go_num, ⟨rfl⟩, ⟨by omega, Nat.le_refl _⟩, best, A2, c2, rfl, ⟨by rw [HP2.out, if_neg HH.out], hbl⟩, ⟨HR2.out⟩⟩
end Go.Proofs.Ythlffcaaifpdeaa.Q
