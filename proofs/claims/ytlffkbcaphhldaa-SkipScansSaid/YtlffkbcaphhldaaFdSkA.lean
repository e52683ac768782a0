/- Lemmas for this claim's walk: no condition of their own. -/
import Derived.Test.YtlffkbcaphhldaaFdSL
import Derived.BigQuiet
import Derived.Deep.QuietTactic
import Derived.Shelf.SlicesE.Clone
import Derived.Deep.MidRow
import Derived.WalkLawsBesides
import Derived.WalkSpells
import Derived.Lib.Hide
import Derived.Deep.DeepFit
import Derived.Outline
namespace Go.Proofs.Ytlffkbcaphhldaa.Q
open Go.RowKit Go.Proofs.YtlffkbcaphhldaaW.PrintWords Go.Proofs.YtlffkbcaphhldaaW.PrintLast Go.Proofs.YtlffkbcaphhldaaW.PrintMore
attribute [local go_sem] max2_int min2_int max_two min_two max_three min_three max_four min_four
set_option linter.unusedVariables false
set_option linter.unusedSimpArgs false
open Go.Lib Go.Proofs.Ytlffkbcaphhldaa.Sk Go.Proofs.Ytlffkbcaphhldaa.Pl Go.Proofs.Ytlffkbcaphhldaa.Ord Go.Proofs.Ytlffkbcaphhldaa.Nm
theorem made_yes (l b : Nat) (u1 u2 : Value) (w : World) (hb : w.heap[l]? = some (.cells #[.pointer (some ⟨b, 0, none⟩), u1, u2] 67 (0, 0))) :
  Calls Try.prog 28 #[.pointer (some ⟨l, 0, none⟩)] w fun e w' => e = .returned (.bool true) ∧ w = w' := by
 have c0 := (blk_cell hb 0).trans (show _ = some (Value.pointer (some ⟨b, 0, none⟩)) from rfl)
 clear hb
 go_enter Try.func28, Try.ntmps28
 go_wp2
 go_ret
 exact ⟨rfl, rfl⟩
theorem len_calls (base l : Nat) (T : List Tw) (A : Option Addr) (c : Nat) (lv : List Int) (w : World) (h : SL w base l T A c lv) :
  Calls Try.prog 16 #[.pointer (some ⟨l, 0, none⟩)] w fun e w' => e = .returned (.int .i64 ((T.length - 1 : Nat) : Int)) ∧ w = w' := by
 have c2 := (blk_cell h.box 2).trans (show _ = some (Value.int .i64 ((T.length - 1 : Nat) : Int)) from rfl)
 have HM := Lib.hid (made_yes l _ _ _ w h.box)
 clear h
 go_enter Try.func16, Try.ntmps16
 go_wp2_with (go_at_call 28; (with_reducible refine HM.out.mono ?_); rintro e w1 ⟨rfl, rfl⟩)
 go_ret
 exact ⟨rfl, rfl⟩
theorem height_calls (l n c : Nat) (u0 : Value) (A : Option Addr) (lv : List Int) (w : World) (hb : w.heap[l]? = some (.cells #[u0, .slice A lv.length c, .int .i64 (n : Int)] 67 (0, 0))) (hC : (Kd.int .i64).C w A lv.length lv) (hn : n ≤ 1000000) (hl : lv.length ≤ 1000000) :
  Calls Try.prog 32 #[.pointer (some ⟨l, 0, none⟩)] w fun e w' => e = .returned (.int .i64 (htv lv n)) ∧ Below w.heap.size w w' := by
 have c1 := (blk_cell hb 1).trans (show _ = some (Value.slice A lv.length c) from rfl)
 have c2 := (blk_cell hb 2).trans (show _ = some (Value.int .i64 (n : Int)) from rfl)
 have HT := Lib.hid (rfl : htv lv n = htv lv n)
 by_cases h0 : lv = []
 ·
  subst h0
  clear hb hC
  have e0 : htv [] n = 1 := rfl
  rw [e0]
  go_enter Try.func32, Try.ntmps32
  go_wp2
  go_ret
  exact ⟨rfl, Below.refl _ _⟩
 ·
  have hp : 0 < lv.length := List.length_pos_iff.2 h0
  obtain ⟨j, hj⟩ : ∃ j : Nat, n % lv.length = j := ⟨_, rfl⟩
  have hjl : j < lv.length := hj ▸ Nat.mod_lt _ hp
  have e0 : htv lv n = min (max (lv.getD j 0) 1) 8 := by unfold htv; rw [if_neg h0, hj]
  have hz : (n : Int).tmod (lv.length : Int) = (j : Int) := by rw [← hj]; rfl
  rw [e0]
  obtain ⟨ad, rfl, hx⟩ := Kd.at_int hC (j : Int) (by omega) (by omega)
  rw [show rd lv (j : Int) = lv.getD j 0 by unfold rd; simp, Int.toNat_natCast] at hx
  obtain ⟨x, hx0⟩ : ∃ x, lv.getD j 0 = x := ⟨_, rfl⟩
  rw [hx0] at hx ⊢
  have q1 : (j : Int) < (lv.length : Int) := by omega
  have q0 : (0 : Int) ≤ (j : Int) := by omega
  have q2 : ((lv.length : Int) == 0) = false := by simp; exact h0
  have q3 : ((lv.length : Int) != 0) = true := by simp; exact h0
  have q4 : (0 : Int) < (lv.length : Int) := by omega
  clear hj hjl e0 hb hC hp HT hx0
  go_enter Try.func32, Try.ntmps32
  go_wp2
  go_quiet (fail)
  go_wp2
  all_goals
   go_ret
   exact ⟨congrArg (fun z => Ending.returned (Value.int .i64 z)) (by omega), by first | exact Below.refl _ _ | exact pw_below_drewN (Below.refl _ _) _⟩
def cloneI_ren : Go.Shelf.Ren := ⟨fun | 41 => 27 | n => n, fun | 4 => 4 | 22 => 22 | 23 => 3 | n => n, fun | n => n⟩
theorem cloneI_lays : Go.Proofs.SlLaysE0.n41 Try.prog cloneI_ren := {
 mixed := by kernel_rfl
 f41 := ⟨Try.f27.name, by decide, Try.func27.trans (congrArg some (by kernel_rfl))⟩
 t4 := Try.underlying4
 a4 := Try.isAgg4
 z4 := Try.sizeOf4
 v4 := Try.zeroValue4
 t22 := Try.underlying22
 a22 := Try.isAgg22
 z22 := Try.sizeOf22
 v22 := Try.zeroValue22 }
theorem cloneI_none (ad : Addr) (c : Nat) (w : World) : Calls Try.prog 27 #[.slice (some ad) 0 c] w fun e w' => ∃ v0_ : Value, e = .returned (v0_) ∧ Kd.R (Kd.int .i64) 3 w' w.heap.size (fun _ => True) v0_ [] ∧ Below w.heap.size w w' := by
 have q22 : ∀ (w : World) (a : Option Addr) (n c n' c' : Nat), (binOp .eql 22 (.slice a n c) (.slice none n' c')).run Try.prog w = .ok (.bool a.isNone) w := fun w a n c n' c' => Lib.run_eql_slice_nil w _ _ a n c n' c' Try.underlying22
 go_enter Try.func27, Try.ntmps27
 go_wp2
 go_ret
 refine ⟨_, rfl, ⟨fun _ _ => trivial, [], ⟨rfl, .inr ⟨w.heap.size, 0, #[], rfl, Nat.le_refl _, by show (w.heap.push _)[w.heap.size]? = _; simp, Nat.le_refl _, by unfold maxLen; omega, rfl, rfl⟩⟩, Reps.none _ _⟩, (Below.refl _ _).alloc (Nat.le_refl _) _⟩
theorem cloneI_calls (A0 : Option Addr) (c0 : Nat) (l0 : List Int) (w : World) (hr0 : (Kd.int .i64).C w A0 l0.length l0) (hc0 : l0.length ≤ c0) (hbig : l0.length ≤ 1000000) :
  Calls Try.prog 27 #[.slice A0 l0.length c0] w fun e w' => ∃ v0_ : Value, e = .returned (v0_) ∧ Kd.R (Kd.int .i64) 3 w' w.heap.size (fun _ => True) v0_ l0 ∧ Below w.heap.size w w' := by
 cases A0 with
 | none =>
  have h0 : l0.length = 0 := Nat.eq_zero_of_not_pos fun hp => by obtain ⟨ad, e, _⟩ := hr0.2.2 hp; cases e
  obtain rfl := List.eq_nil_of_length_eq_zero h0
  refine (Go.Proofs.AnyE.slices_Clone_nil cloneI_lays 0 c0 w).mono ?_
  rintro e w' ⟨rfl, rfl⟩
  exact ⟨_, rfl, Kd.R_nil _ _ _ _ _, Below.refl _ _⟩
 | some ad =>
  rcases Nat.eq_zero_or_pos l0.length with h0 | hp
  ·
   obtain rfl := List.eq_nil_of_length_eq_zero h0
   exact cloneI_none ad c0 w
  ·
   obtain ⟨ad', e, hce⟩ := hr0.2.2 hp
   obtain rfl : ad = ad' := Option.some.inj e
   have hcell : ∀ (j : Nat) (u : Value), (l0.map (Value.int .i64))[j]? = some u → w.cell? (ad.add j) = some u := by
    intro j u hu
    rw [List.getElem?_map] at hu
    obtain ⟨x, hx, rfl⟩ := Option.map_eq_some_iff.1 hu
    obtain ⟨c, hc1, hc2, hc3⟩ := hce j x hx
    obtain rfl : c = [.int .i64 x] := hc2
    have h3 := hc3 0 _ rfl
    rw [show j * (Kd.int .i64).sz + 0 = j from Nat.mul_one j] at h3
    exact h3
   have hone : ∀ u ∈ l0.map (Value.int .i64), u.oneCell' = true := fun u hu => by
    obtain ⟨x, _, rfl⟩ := List.mem_map.1 hu
    rfl
   obtain ⟨b, o, s⟩ := ad
   have hs : s = none := by
    obtain ⟨u, hu⟩ : ∃ u, (l0.map (Value.int .i64))[0]? = some u := ⟨_, List.getElem?_eq_getElem (by rw [List.length_map]; omega)⟩
    have := hcell 0 u hu
    cases s with
    | none => rfl
    | some q => simp [World.cell?, Addr.add] at this; split at this <;> simp at this
   subst hs
   have hinfo := info3
   obtain ⟨i0, hi, hz⟩ := Option.map_eq_some_iff.1 hinfo
   simp only [Prod.mk.injEq] at hz
   obtain ⟨hz0, hz1, hz2⟩ := hz
   refine (Go.Proofs.AnyE.slices_Clone cloneI_lays i0 _ 1 8 hi hz0 hz1 hz2 (by rfl) (by omega) Try.sizeOf3 b o l0.length c0 (l0.map (Value.int .i64)) w (by rw [List.length_map]; omega) hr0.2.1 (by omega) (fun j u hu => by have := hcell j u hu; by_cases hj : j = 0 <;> simpa [Addr.add, hj] using this) hone).mono ?_
   rintro e w' ⟨v', rfl, hown, _, hb⟩
   exact ⟨v', rfl, Kd.R_of_own hown (fun _ _ => trivial), hb⟩
def T0 (b : Nat) : List Tw := [⟨b, zc, 8⟩]
theorem T0_mem {w : World} {b : Nat} (h : w.heap[b]? = some (.cells (twr zc 8 fun _ => none) 72 (0, 0))) : Mem w (T0 b) := by
 refine ⟨fun p hp => ?_, fun p hp => ?_, fun p q hp hq _ => ?_, rfl, Nat.one_pos⟩
 ·
  obtain rfl : p = 0 := by simp [T0] at hp; exact hp
  exact h
 ·
  obtain rfl : p = 0 := by simp [T0] at hp; exact hp
  exact ⟨show 1 ≤ 8 by decide, show 8 ≤ 8 by decide⟩
 ·
  have h1 : p < 1 := hp
  have h2 : q < 1 := hq
  omega
theorem new_calls (A0 : Option Addr) (c0 : Nat) (lv : List Int) (w : World) (hr0 : (Kd.int .i64).C w A0 lv.length lv) (hc0 : lv.length ≤ c0) (hbig : lv.length ≤ 1000000) :
  Calls Try.prog 10 #[.slice A0 lv.length c0] w fun e w' => ∃ (l b : Nat) (A : Option Addr) (c : Nat), e = .returned (.pointer (some ⟨l, 0, none⟩)) ∧ SL w' w.heap.size l (T0 b) A c lv ∧ Below w.heap.size w w' := by
 have HC := Lib.hid (cloneI_calls A0 c0 lv (w.alloc (.cells #[.string ⟨#[]⟩, .string ⟨#[]⟩, .int .i64 0, .string ⟨#[]⟩, .int .i64 0, .bool false, .int .i64 0, .int .i64 0, .int .i64 0, .string ⟨#[]⟩, .int .i64 8, .pointer none, .pointer none, .pointer none, .pointer none, .pointer none, .pointer none, .pointer none, .pointer none] 72)) (Kd.C_alloc hr0 _) hc0 hbig)
 clear hr0 hc0 hbig
 go_enter Try.func10, Try.ntmps10
 go_wp2_with (go_at_call 27; (with_reducible refine HC.out.mono ?_); rintro e w1 ⟨v1, rfl, ho, hb⟩; obtain ⟨A1, c1, rfl⟩ := Kd.R_slice ho; have HO := Lib.hid ho; have HB := Lib.hid hb; clear ho hb)
 go_ret
 have hs : w.heap.size ≤ w1.heap.size := by have := HB.out.size; simp at this; omega
 have hb1 : Below w.heap.size w w1 := below_step (below_alloc (Below.refl _ _) _) HB.out
 refine ⟨w1.heap.size, w.heap.size, A1, c1, rfl, ⟨heap_new_ _ _, T0_mem (blk_alloc (blk_below (heap_new_ w _) HB.out) _), List.Pairwise.nil, ?_, hs, fun p hp => ?_⟩, below_alloc hb1 _⟩
 ·
  exact Kd.R_alloc (Kd.R_lower HO.out (by simp)) _
 ·
  obtain rfl : p = 0 := by simp [T0] at hp; exact hp
  exact Nat.le_refl _
end Go.Proofs.Ytlffkbcaphhldaa.Q
