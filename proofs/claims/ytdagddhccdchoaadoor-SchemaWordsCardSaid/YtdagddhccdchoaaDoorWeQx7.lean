/- Lemmas for this claim's walk: no condition of their own. -/
import Derived.Test.YtdagddhccdchoaaDoorWeSq
import Derived.Test.YtdagddhccdchoaaDoorWeSortedS
import Derived.Test.YtdagddhccdchoaaDoorWeJ0
import Derived.Deep.RegionHeld3
import Derived.BigRegion
import Derived.Lib.RowBridge
import Derived.Test.YtdagddhccdchoaaDoorWeJ10
import Derived.Test.YtdagddhccdchoaaDoorWeQx3
namespace Go.Proofs.YtdagddhccdchoaaDoor.Q
open Go.RowKit Go.Proofs.YtdagddhccdchoaaDoorW.PrintWords Go.Proofs.YtdagddhccdchoaaDoorW.PrintLast Go.Proofs.YtdagddhccdchoaaDoorW.PrintMore
attribute [local go_sem] max2_int min2_int max_two min_two max_three min_three max_four min_four
set_option linter.unusedVariables false
set_option linter.unusedSimpArgs false
theorem ret_tb_ {a b : Bool} (h : a = b) : Ending.returned (.bool a) = .returned (.bool b) := by rw [h]
set_option maxHeartbeats 1000000 in
theorem idxS (g : Nat) (cb : Array Value) (eg : ∀ args w, (callFunc g args).run Tryd.prog w = .ok (.enter g args) w) (p : ByteArray → Bool) (A : Option Addr) (c : Nat) (l : List ByteArray) (w : World) (hC : Kd.string.C w A l.length l)
  (hP : ∀ (W : World) (x : ByteArray), x ∈ l → Below w.heap.size w W → Calls Tryd.prog g (#[.string x] ++ cb) W fun e w' => e = .returned (.bool (p x)) ∧ Below W.heap.size W w') :
  Calls Tryd.prog 45 #[.slice A l.length c, .func (.func g) #[] cb] w fun e w' => (∃ i : Int, e = .returned (.int .i64 i) ∧ decide (0 ≤ i) = l.any p) ∧ Below w.heap.size w w' := by
 have HC := Lib.hid hC
 have HP := Lib.hid hP
 have hm := hC.2.1
 clear hC hP
 go_enter Tryd.func45, Tryd.ntmps45
 go_wp2_with fail
 go_loopg [8] l.length (fun gk v8 wr => ∃ i : Nat, v8 = .int .i64 i ∧ Aside0 (i ≤ l.length ∧ l.length - i ≤ gk ∧ (l.take i).any p = false) ∧ Aside0 (Below w.heap.size w wr))
 case atStart => exact ⟨0, rfl, ⟨Nat.zero_le _, by omega, rfl⟩, ⟨Below.refl _ _⟩⟩
 case round =>
  obtain ⟨i, rfl, HI, HB⟩ := hrel
  by_cases hi : i < l.length
  rotate_left
  ·
   have hz : ¬ (i : Int) < (l.length : Int) := by omega
   obtain rfl : i = l.length := by have := HI.out.1; omega
   have HA := Lib.hid (show l.any p = false by have := HI.out.2.2; rwa [List.take_length] at this)
   go_wp2_with fail
   go_ret
   exact ⟨⟨_, rfl, by rw [HA.out]; rfl⟩, HB.out⟩
  have hz : (i : Int) < (l.length : Int) := by omega
  have hz0 : (0 : Int) ≤ (i : Int) := by omega
  obtain ⟨ad, e1, hx0⟩ := Kd.at_string (Kd.C_below HC.out HB.out) (i : Int) hz0 hz
  subst e1
  rw [Int.toNat_natCast] at hx0
  have hx : rdOf ByteArray.empty l (i : Int) = l[i] := by unfold rdOf; rw [Int.toNat_natCast, List.getD_eq_getElem?_getD, List.getElem?_eq_getElem hi]; rfl
  rw [hx] at hx0
  have HCL := Lib.hid (HP.out wr l[i] (List.getElem_mem hi) HB.out)
  have HTK := Lib.hid (show (l.take (i + 1)).any p = p l[i] by rw [List.take_succ_eq_append_getElem hi, List.any_append, HI.out.2.2]; simp)
  have HDR := Lib.hid (show p l[i] = true → l.any p = true from fun h => List.any_eq_true.2 ⟨_, List.getElem_mem hi, h⟩)
  generalize l[i] = x at hx0 HCL HTK HDR
  clear hx
  cases hp : p x with
  | true =>
   rw [hp] at HCL HDR
   have HDR2 := Lib.hid (HDR.out rfl)
   clear hp HTK HDR
   go_wp2_with (go_at_fn g; (with_reducible refine HCL.out.mono ?_); rintro e w1 ⟨rfl, hb⟩; have HB1 := Lib.hid hb; clear hb)
   go_ret
   exact ⟨⟨_, rfl, by rw [HDR2.out]; exact decide_eq_true hz0⟩, below_step HB.out HB1.out⟩
  | false =>
   rw [hp] at HCL HTK
   clear hp HDR
   go_wp2_with (go_at_fn g; (with_reducible refine HCL.out.mono ?_); rintro e w1 ⟨rfl, hb⟩; have HB1 := Lib.hid hb; clear hb)
   go_roundg (l.length - (i + 1))
   case measure => have := HI.out; omega
   case rel => exact ⟨i + 1, by go_num, ⟨by omega, Nat.le_refl _, HTK.out⟩, ⟨below_step HB.out HB1.out⟩⟩
theorem conS (g : Nat) (cb : Array Value) (eg : ∀ args w, (callFunc g args).run Tryd.prog w = .ok (.enter g args) w) (p : ByteArray → Bool) (A : Option Addr) (c : Nat) (l : List ByteArray) (w : World) (hC : Kd.string.C w A l.length l)
  (hP : ∀ (W : World) (x : ByteArray), x ∈ l → Below w.heap.size w W → Calls Tryd.prog g (#[.string x] ++ cb) W fun e w' => e = .returned (.bool (p x)) ∧ Below W.heap.size W w') :
  Calls Tryd.prog 30 #[.slice A l.length c, .func (.func g) #[] cb] w fun e w' => e = .returned (.bool (l.any p)) ∧ Below w.heap.size w w' := by
 have H := Lib.hid (idxS g cb eg p A c l w hC hP)
 clear hC hP
 go_enter Tryd.func30, Tryd.ntmps30
 go_wp2_with (go_at_call 45; (with_reducible refine H.out.mono ?_); rintro e w1 ⟨⟨i, rfl, hi⟩, hb⟩; have HI := Lib.hid hi; have HB := Lib.hid hb; clear hi hb)
 all_goals go_ret
 all_goals exact ⟨ret_tb_ (by rw [← HI.out]), HB.out⟩
set_option maxHeartbeats 1000000 in
theorem idxC (g : Nat) (cb : Array Value) (eg : ∀ args w, (callFunc g args).run Tryd.prog w = .ok (.enter g args) w) (p : S29 → Bool) (A : Option Addr) (c : Nat) (l : List S29) (w : World) (hC : Kd.C k29 w A l.length l)
  (hP : ∀ (W : World) (x : S29), x ∈ l → Below w.heap.size w W → Calls Tryd.prog g (#[.agg #[.string x.f0, .int .i64 x.f1]] ++ cb) W fun e w' => e = .returned (.bool (p x)) ∧ Below W.heap.size W w') :
  Calls Tryd.prog 46 #[.slice A l.length c, .func (.func g) #[] cb] w fun e w' => (∃ i : Int, e = .returned (.int .i64 i) ∧ decide (0 ≤ i) = l.any p) ∧ Below w.heap.size w w' := by
 have HC := Lib.hid hC
 have HP := Lib.hid hP
 have hm := hC.2.1
 clear hC hP
 go_enter Tryd.func46, Tryd.ntmps46
 go_wp2_with fail
 go_loopg [8] l.length (fun gk v8 wr => ∃ i : Nat, v8 = .int .i64 i ∧ Aside0 (i ≤ l.length ∧ l.length - i ≤ gk ∧ (l.take i).any p = false) ∧ Aside0 (Below w.heap.size w wr))
 case atStart => exact ⟨0, rfl, ⟨Nat.zero_le _, by omega, rfl⟩, ⟨Below.refl _ _⟩⟩
 case round =>
  obtain ⟨i, rfl, HI, HB⟩ := hrel
  by_cases hi : i < l.length
  rotate_left
  ·
   have hz : ¬ (i : Int) < (l.length : Int) := by omega
   obtain rfl : i = l.length := by have := HI.out.1; omega
   have HA := Lib.hid (show l.any p = false by have := HI.out.2.2; rwa [List.take_length] at this)
   go_wp2_with fail
   go_ret
   exact ⟨⟨_, rfl, by rw [HA.out]; rfl⟩, HB.out⟩
  have hz : (i : Int) < (l.length : Int) := by omega
  have hz0 : (0 : Int) ≤ (i : Int) := by omega
  obtain ⟨ad, e1, hx0, hx1⟩ := at_T29 (Kd.C_below HC.out HB.out) (i : Int) hz0 hz
  subst e1
  rw [Int.toNat_natCast] at hx0 hx1
  have hx : rd_T29 l (i : Int) = l[i] := by unfold rd_T29; rw [Int.toNat_natCast, List.getD_eq_getElem?_getD, List.getElem?_eq_getElem hi]; rfl
  rw [hx] at hx0 hx1
  have HCL := Lib.hid (HP.out wr l[i] (List.getElem_mem hi) HB.out)
  have HTK := Lib.hid (show (l.take (i + 1)).any p = p l[i] by rw [List.take_succ_eq_append_getElem hi, List.any_append, HI.out.2.2]; simp)
  have HDR := Lib.hid (show p l[i] = true → l.any p = true from fun h => List.any_eq_true.2 ⟨_, List.getElem_mem hi, h⟩)
  generalize l[i] = x at hx0 hx1 HCL HTK HDR
  clear hx
  cases hp : p x with
  | true =>
   rw [hp] at HCL HDR
   have HDR2 := Lib.hid (HDR.out rfl)
   clear hp HTK HDR
   go_wp2_with (go_at_fn g; (with_reducible refine HCL.out.mono ?_); rintro e w1 ⟨rfl, hb⟩; have HB1 := Lib.hid hb; clear hb)
   go_ret
   exact ⟨⟨_, rfl, by rw [HDR2.out]; exact decide_eq_true hz0⟩, below_step HB.out HB1.out⟩
  | false =>
   rw [hp] at HCL HTK
   clear hp HDR
   go_wp2_with (go_at_fn g; (with_reducible refine HCL.out.mono ?_); rintro e w1 ⟨rfl, hb⟩; have HB1 := Lib.hid hb; clear hb)
   go_roundg (l.length - (i + 1))
   case measure => have := HI.out; omega
   case rel => exact ⟨i + 1, by go_num, ⟨by omega, Nat.le_refl _, HTK.out⟩, ⟨below_step HB.out HB1.out⟩⟩
theorem conC (g : Nat) (cb : Array Value) (eg : ∀ args w, (callFunc g args).run Tryd.prog w = .ok (.enter g args) w) (p : S29 → Bool) (A : Option Addr) (c : Nat) (l : List S29) (w : World) (hC : Kd.C k29 w A l.length l)
  (hP : ∀ (W : World) (x : S29), x ∈ l → Below w.heap.size w W → Calls Tryd.prog g (#[.agg #[.string x.f0, .int .i64 x.f1]] ++ cb) W fun e w' => e = .returned (.bool (p x)) ∧ Below W.heap.size W w') :
  Calls Tryd.prog 34 #[.slice A l.length c, .func (.func g) #[] cb] w fun e w' => e = .returned (.bool (l.any p)) ∧ Below w.heap.size w w' := by
 have H := Lib.hid (idxC g cb eg p A c l w hC hP)
 clear hC hP
 go_enter Tryd.func34, Tryd.ntmps34
 go_wp2_with (go_at_call 46; (with_reducible refine H.out.mono ?_); rintro e w1 ⟨⟨i, rfl, hi⟩, hb⟩; have HI := Lib.hid hi; have HB := Lib.hid hb; clear hi hb)
 all_goals go_ret
 all_goals exact ⟨ret_tb_ (by rw [← HI.out]), HB.out⟩
def badKind (c : S29) : Bool := !decide (c.f1 = 1) && !decide (c.f1 = 2)
theorem tab1 (x : S29) (W : World) : Calls Tryd.prog 27 #[.agg #[.string x.f0, .int .i64 x.f1]] W fun e w' => e = .returned (.bool (badKind x)) ∧ Below W.heap.size W w' := by
 obtain ⟨x0, x1⟩ := x
 unfold badKind
 dsimp only
 by_cases h1 : x1 = 1
 ·
  subst h1
  go_enter Tryd.func27, Tryd.ntmps27
  go_wp2
  go_ret
  exact ⟨ret_tb_ (by simp), (Below.refl _ W).alloc (Nat.le_refl _) _⟩
 ·
  have b1 : (x1 == 1) = false := by simpa using h1
  have c1 : (x1 != 1) = true := by simpa using h1
  by_cases h2 : x1 = 2
  ·
   subst h2
   go_enter Tryd.func27, Tryd.ntmps27
   go_wp2
   go_ret
   exact ⟨ret_tb_ (by simp), (Below.refl _ W).alloc (Nat.le_refl _) _⟩
  ·
   have b2 : (x1 == 2) = false := by simpa using h2
   have c2 : (x1 != 2) = true := by simpa using h2
   have e : (!decide (x1 = 1) && !decide (x1 = 2)) = true := by simp [h1, h2]
   rw [e]
   clear e h1 h2
   go_enter Tryd.func27, Tryd.ntmps27
   go_wp2
   go_ret
   exact ⟨ret_tb_ (by first | rfl | simp [*]), (Below.refl _ W).alloc (Nat.le_refl _) _⟩
theorem tab2 (B0 : Nat) (t0 t1 t2 : ByteArray) (v3 : Value) (W : World) (hB : W.heap[B0]? = some (.cells #[.string t0, .string t1, .string t2, v3] 26 (0, 0))) :
  Calls Tryd.prog 28 #[.pointer (some ⟨B0, 0, none⟩)] W fun e w' => e = .returned (.bool (!nameS t0)) ∧ Below W.heap.size W w' := by
 have c0 := (blk_cell hB 0).trans (show _ = some _ from rfl)
 have HN := Lib.hid (schema_Name.calls t0 (nameS t0) W rfl)
 go_enter Tryd.func28, Tryd.ntmps28
 go_wp2_with (go_at_call 9; (with_reducible refine HN.out.mono ?_); rintro e w1 ⟨rfl, hb⟩; have HB := Lib.hid hb; clear hb)
 go_ret
 exact ⟨rfl, HB.out⟩
theorem tab31 (x : ByteArray) (W : World) : Calls Tryd.prog 31 #[.string x] W fun e w' => e = .returned (.bool (!nameS x)) ∧ Below W.heap.size W w' := by
 have HN := Lib.hid (schema_Name.calls x (nameS x) W rfl)
 go_enter Tryd.func31, Tryd.ntmps31
 go_wp2_with (go_at_call 9; (with_reducible refine HN.out.mono ?_); rintro e w1 ⟨rfl, hb⟩; have HB := Lib.hid hb; clear hb)
 go_ret
 exact ⟨rfl, HB.out⟩
theorem tab3 (B1 : Nat) (A : Option Addr) (c : Nat) (ns : List ByteArray) (W : World) (hB : W.cell? ⟨B1, 0, none⟩ = some (.slice A ns.length c)) (hC : Kd.string.C W A ns.length ns) :
  Calls Tryd.prog 29 #[.pointer (some ⟨B1, 0, none⟩)] W fun e w' => e = .returned (.bool (ns.any fun x => !nameS x)) ∧ Below W.heap.size W w' := by
 have HN := Lib.hid (conS 31 #[] (enters_of Tryd.func31 (by kernel_rfl) rfl) (fun x => !nameS x) A c ns W hC (fun W x _ _ => tab31 x W))
 go_enter Tryd.func29, Tryd.ntmps29
 go_wp2_with (go_at_call 30; (with_reducible refine HN.out.mono ?_); rintro e w1 ⟨rfl, hb⟩; have HB := Lib.hid hb; clear hb)
 go_ret
 exact ⟨rfl, HB.out⟩
theorem tab4 (B0 : Nat) (t0 t1 t2 : ByteArray) (A : Option Addr) (n c : Nat) (W : World) (hB : W.heap[B0]? = some (.cells #[.string t0, .string t1, .string t2, .slice A n c] 26 (0, 0))) :
  Calls Tryd.prog 32 #[.pointer (some ⟨B0, 0, none⟩)] W fun e w' => e = .returned (.bool (decide (n = 0) || decide (6 < n))) ∧ w' = W := by
 have c0 := (blk_cell hB 3).trans (show _ = some _ from rfl)
 rcases Nat.eq_zero_or_pos n with h0 | h0
 ·
  subst h0
  go_enter Tryd.func32, Tryd.ntmps32
  go_wp2
  go_ret
  exact ⟨ret_tb_ (by simp), rfl⟩
 ·
  have b0 : ((n : Int) == 0) = false := by simpa using (by omega : n ≠ 0)
  have e : (decide (n = 0) || decide (6 < n)) = decide ((6 : Int) < (n : Int)) := by
   rw [decide_eq_false (by omega : ¬ n = 0), Bool.false_or]
   exact decide_eq_decide.2 (by omega)
  rw [e]
  clear e
  by_cases h6 : (6 : Int) < (n : Int)
  ·
   rw [decide_eq_true h6]
   go_enter Tryd.func32, Tryd.ntmps32
   go_wp2
   go_ret
   exact ⟨rfl, rfl⟩
  ·
   rw [decide_eq_false h6]
   have h7 : decide ((6 : Int) < (n : Int)) = false := decide_eq_false h6
   go_enter Tryd.func32, Tryd.ntmps32
   go_wp2
   go_ret
   exact ⟨rfl, rfl⟩
theorem tab4b (B0 : Nat) (t0 t1 t2 : ByteArray) (A : Option Addr) (n c : Nat) (W : World) (hB : W.heap[B0]? = some (.cells #[.string t0, .string t1, .string t2, .slice A n c] 26 (0, 0))) :
  Calls Tryd.prog 32 #[.pointer (some ⟨B0, 0, none⟩)] W fun e w' => e = .returned (.bool (decide (n = 0) || decide (6 < n))) ∧ Below W.heap.size W w' :=
 (tab4 B0 t0 t1 t2 A n c W hB).mono fun e w' h => ⟨h.1, by rw [h.2]; exact Below.refl _ _⟩
theorem tab5 (B0 B2 : Nat) (t0 t1 t2 : ByteArray) (A : Option Addr) (c : Nat) (l : List (S29)) (W : World) (hB : W.heap[B0]? = some (.cells #[.string t0, .string t1, .string t2, .slice A l.length c] 26 (0, 0)))
  (hB2 : W.cell? ⟨B2, 0, none⟩ = some (.func (.func 27) #[] #[])) (hC : Kd.C k29 W A l.length l) :
  Calls Tryd.prog 33 #[.pointer (some ⟨B0, 0, none⟩), .pointer (some ⟨B2, 0, none⟩)] W fun e w' => e = .returned (.bool (l.any badKind)) ∧ Below W.heap.size W w' := by
 have c0 := (blk_cell hB 3).trans (show _ = some _ from rfl)
 have HN := Lib.hid (conC 27 #[] (enters_of Tryd.func27 (by kernel_rfl) rfl) badKind A c l W hC (fun W x _ _ => tab1 x W))
 go_enter Tryd.func33, Tryd.ntmps33
 go_wp2_with (go_at_call 34; (with_reducible refine HN.out.mono ?_); rintro e w1 ⟨rfl, hb⟩; have HB := Lib.hid hb; clear hb)
 go_ret
 exact ⟨rfl, HB.out⟩
def twice (ns : List ByteArray) : Bool := decide ((Lib.compact (Srt.srtS ns)).length < ns.length)
theorem values_stepS (A : Option Addr) (n c : Nat) (w : World) : Calls Tryd.prog 38 #[.slice A n c] w fun e w' => ∃ Bs : Nat, e = .returned (.func (.func 49) #[] #[.pointer (some ⟨Bs, 0, none⟩)]) ∧ Bs < w'.heap.size ∧ w'.cell? ⟨Bs, 0, none⟩ = some (.slice A n c) ∧ Below w.heap.size w w' :=
 (Srt.values_callS A n c w).mono fun e w' ⟨he, hw⟩ => ⟨w.heap.size, he, by rw [hw]; simp, by rw [hw]; exact (blk_cell (blk_new _ _) 0).trans rfl, by rw [hw]; exact below_alloc (Below.refl _ _) _⟩
theorem compact_le (ys : List (List UInt8)) : (Lib.compact ys).length ≤ ys.length := Lib.compact_length_le ys
set_option maxHeartbeats 1000000 in
theorem tab6 (B1 : Nat) (A : Option Addr) (c : Nat) (ns : List ByteArray) (W : World) (hB : W.cell? ⟨B1, 0, none⟩ = some (.slice A ns.length c)) (hC : Kd.string.C W A ns.length ns) (hN : ns.length ≤ 7000000000000) :
  Calls Tryd.prog 35 #[.pointer (some ⟨B1, 0, none⟩)] W fun e w' => e = .returned (.bool (twice ns)) ∧ Below W.heap.size W w' := by
 have hlt : B1 < W.heap.size := World.block_lt_of_cell? W _ hB
 have hm : ns.length ≤ 9223372036854775807 := by omega
 have HC := Lib.hid hC
 have HB := Lib.hid hB
 have HN := Lib.hid hN
 have hle : (Lib.compact (Srt.srtS ns)).length ≤ 9223372036854775807 := by
  have h1 := compact_le (Srt.srtS ns)
  have h2 : (Srt.srtS ns).length = ns.length := by unfold Srt.srtS; simp
  omega
 clear hC hN
 unfold twice
 obtain ⟨m, hm2⟩ : ∃ m, (Lib.compact (Srt.srtS ns)).length = m := ⟨_, rfl⟩
 have HM := Lib.hid hm2
 rw [hm2] at hle ⊢
 clear hm2
 go_enter Tryd.func35, Tryd.ntmps35
 go_wp2_with fail
 go_region_held3 (fun w' => w'.cell? ⟨B1, 0, none⟩ = some (.slice A ns.length c)) (first | go_keep | exact q1 | exact q2 | exact q3) (first | (go_at_call 38; (with_reducible refine (values_stepS _ _ _ _).mono ?_); rintro e w1 ⟨Bs, rfl, h1, h2, hb⟩; have hb' : Below W.heap.size W w1 := ⟨hb.os, hb.tape, hb.output, hb.size, hb.block⟩; have H1 := Lib.hid (And.intro h1 (And.intro h2 hb')); have q1 := (hb'.cell (p := ⟨B1, 0, none⟩) hlt).trans HB.out; clear h1 h2 hb hb') | (go_at_call 37; (with_reducible refine (Srt.sorted_callS Bs A c ns _ H1.out.1 H1.out.2.1 (Kd.C_below HC.out H1.out.2.2) HN.out).mono ?_); rintro e w2 ⟨v2, rfl, ho, hb⟩; have hb' := below_step H1.out.2.2 hb; have H2 := Lib.hid (And.intro ho (And.intro H1.out.2.2.size hb')); have q2 := (hb'.cell (p := ⟨B1, 0, none⟩) hlt).trans HB.out; clear ho hb hb') | (go_at_call 36; (with_reducible refine (Srt.compact_call _ v2 _ _ _ H2.out.1 HN.out).mono ?_); rintro e w3 ⟨⟨A3, c3, he⟩, hb⟩; rw [HM.out] at he; subst he; have hb' := H2.out.2.2.trans (hb.mono H2.out.2.1); have H3 := Lib.hid hb'; have q3 := (hb'.cell (p := ⟨B1, 0, none⟩) hlt).trans HB.out; clear hb hb'))
 go_wp2
 go_ret
 exact ⟨rfl, H3.out⟩
def tabNames (t1 t2 : ByteArray) (l : List (S29)) : List ByteArray := t1 :: t2 :: l.map fun c => c.f0
def tabE (t0 t1 t2 : ByteArray) (l : List (S29)) : Int := if nameS t0 = false then 3 else if ((tabNames t1 t2 l).any fun x => !nameS x) = true then 3 else if (decide (l.length = 0) || decide (6 < l.length)) = true then 2 else if l.any badKind = true then 2 else if twice (tabNames t1 t2 l) = true then 5 else 0
theorem infoStr : (Tryd.prog.info? 9).map (fun i => (i.zero, i.size, i.bytes)) = some (some (.string ⟨#[]⟩), 1, 16) := by kernel_rfl
structure TS (w : World) (t0 t1 t2 : ByteArray) (A : Option Addr) (n c : Nat) (v : Value) (ns : List ByteArray) (W : World) : Prop where
 b0 : W.heap[w.heap.size]? = some (.cells #[.string t0, .string t1, .string t2, .slice A n c] 26 (0, 0))
 nb : W.heap[w.heap.size + 2]? = some (.cells #[v] 27 (0, 0))
 row : Kd.R Kd.string 9 W w.heap.size (fun k => k ≠ w.heap.size ∧ k ≠ w.heap.size + 2) v ns
 bel : Below w.heap.size w W
theorem TS.alloc {w : World} {t0 t1 t2 : ByteArray} {A : Option Addr} {n c : Nat} {v : Value} {ns : List ByteArray} {W : World} (h : TS w t0 t1 t2 A n c v ns W) (o : Obj) : TS w t0 t1 t2 A n c v ns (W.alloc o) := ⟨blk_alloc h.b0 o, blk_alloc h.nb o, Kd.R_alloc h.row o, below_alloc h.bel o⟩
theorem TS.below {w : World} {t0 t1 t2 : ByteArray} {A : Option Addr} {n c : Nat} {v : Value} {ns : List ByteArray} {W W1 : World} (h : TS w t0 t1 t2 A n c v ns W) (hb : Below W.heap.size W W1) : TS w t0 t1 t2 A n c v ns W1 := ⟨(hb.block _ (blk_lt h.b0)).trans h.b0, (hb.block _ (blk_lt h.nb)).trans h.nb, Kd.R_below h.row hb, below_step h.bel hb⟩
theorem TS.put {w : World} {t0 t1 t2 : ByteArray} {A : Option Addr} {n c : Nat} {v v1 : Value} {ns ns1 : List ByteArray} {W w1 : World} (h : TS w t0 t1 t2 A n c v ns W) (hg : W.grownBy w1 v.ownBlock) (hb : Below w.heap.size w w1) (ho : Kd.R Kd.string 9 w1 w.heap.size (fun k => k ≠ w.heap.size ∧ k ≠ w.heap.size + 2) v1 ns1) :
  w1.heap[w.heap.size + 2]? = some (.cells #[v] 27 (0, 0)) ∧ TS w t0 t1 t2 A n c v1 ns1 (w1.setCell ⟨w.heap.size + 2, 0, none⟩ v1) := by
 have h1 := blk_grown h.nb hg (fun e => (h.row.1 _ e.symm).2 rfl)
 have h0 := blk_grown h.b0 hg (fun e => (h.row.1 _ e.symm).1 rfl)
 exact ⟨h1, blk_far h0 (p := ⟨w.heap.size + 2, 0, none⟩) (by simp) v1, blk_put h1 0 v1 rfl, Kd.R_far ho (p := ⟨w.heap.size + 2, 0, none⟩) (fun k hk => hk.2) v1, below_set hb (by omega)⟩
theorem TS.start (w : World) (t0 t1 t2 : ByteArray) (A : Option Addr) (n c : Nat) : TS w t0 t1 t2 A n c (.slice (some ⟨w.heap.size + 1, 0, none⟩) 2 2) [t1, t2] (((w.alloc (.cells #[.string t0, .string t1, .string t2, .slice A n c] 26)).alloc (.cells #[.string t1, .string t2] 9)).alloc (.cells #[.slice (some ⟨w.heap.size + 1, 0, none⟩) 2 2] 27)) := by
 refine ⟨blk_alloc (blk_alloc (blk_new _ _) _) _, ?_, ?_, below_alloc (below_alloc (below_alloc (Below.refl _ _) _) _) _⟩
 ·
  have := blk_new ((w.alloc (.cells #[.string t0, .string t1, .string t2, .slice A n c] 26)).alloc (.cells #[.string t1, .string t2] 9)) (.cells #[.slice (some ⟨w.heap.size + 1, 0, none⟩) 2 2] 27)
  rwa [World.size_alloc, World.size_alloc] at this
 ·
  refine Kd.R_alloc (Kd.R_of_own (h1 := fun _ => rfl) ?_ (fun k hk => ?_)) _
  ·
   have := World.ownsRow_lit (base := w.heap.size) (e := 9) (size := 1) (w.alloc (.cells #[.string t0, .string t1, .string t2, .slice A n c] 26)) #[.string t1, .string t2] 2 (by rw [World.size_alloc]; omega) (by simp [maxLen]) (by simp)
   rw [World.size_alloc] at this
   exact this
  ·
   have : w.heap.size + 1 = k := by simpa [Value.ownBlock] using hk
   omega
theorem tabNames_take (t1 t2 : ByteArray) (l : List (S29)) (i : Nat) (hi : i < l.length) : tabNames t1 t2 (l.take (i + 1)) = tabNames t1 t2 (l.take i) ++ [l[i].f0] := by
 unfold tabNames; rw [List.take_succ_eq_append_getElem hi, List.map_append]; rfl
theorem tabNames_len (t1 t2 : ByteArray) (l : List (S29)) : (tabNames t1 t2 l).length = l.length + 2 := by unfold tabNames; simp
structure QS (w : World) (t0 t1 t2 : ByteArray) (A : Option Addr) (n c K S : Nat) (v : Value) (ns : List ByteArray) (W : World) : Prop where
 ts : TS w t0 t1 t2 A n c v ns W
 kb : W.heap[K]? = some (.cells #[.func (.func 27) #[] #[]] 58 (0, 0))
 sb : W.heap[S]? = some (.cells #[.func (.func 28) #[] #[.pointer (some ⟨w.heap.size, 0, none⟩)], .int .i64 3, .func (.func 29) #[] #[.pointer (some ⟨w.heap.size + 1 + 1, 0, none⟩)], .int .i64 3, .func (.func 32) #[] #[.pointer (some ⟨w.heap.size, 0, none⟩)], .int .i64 2, .func (.func 33) #[] #[.pointer (some ⟨w.heap.size, 0, none⟩), .pointer (some ⟨K, 0, none⟩)], .int .i64 2, .func (.func 35) #[] #[.pointer (some ⟨w.heap.size + 1 + 1, 0, none⟩)], .int .i64 5] 59 (0, 0))
theorem QS.below {w : World} {t0 t1 t2 : ByteArray} {A : Option Addr} {n c K S : Nat} {v : Value} {ns : List ByteArray} {W W1 : World} (h : QS w t0 t1 t2 A n c K S v ns W) (hb : Below W.heap.size W W1) : QS w t0 t1 t2 A n c K S v ns W1 := ⟨h.ts.below hb, (hb.block _ (blk_lt h.kb)).trans h.kb, (hb.block _ (blk_lt h.sb)).trans h.sb⟩
def schema_Table.f (a0_0 : ByteArray) (a0_1 : ByteArray) (a0_2 : ByteArray) (l0_3 : List (S29)) : Option Int := if l0_3.length ≤ 6000000000000 then some (tabE a0_0 a0_1 a0_2 l0_3) else none
set_option maxHeartbeats 2000000 in
set_option maxRecDepth 100000 in
theorem schema_Table.calls (t0 : ByteArray) (t1 : ByteArray) (t2 : ByteArray) (A : Option Addr) (c : Nat) (l : List (S29)) (r : Int) (w : World) (hr : Kd.C k29 w A l.length l) (hc : l.length ≤ c) (h : schema_Table.f t0 t1 t2 l = some r) :
  Calls Tryd.prog 15 #[.agg #[.string t0, .string t1, .string t2, .slice A l.length c]] w fun e w' => e = .returned (.int .i64 r) ∧ Below w.heap.size w w' := by
 unfold schema_Table.f at h
 split at h
 case isFalse => cases h
 rename_i hN
 have HE := Lib.hid (Option.some.inj h)
 have HR := Lib.hid hr
 have hst := fun (fn : Fn) (p q : Array Value) (a : Addr) (m : Mode) (w : World) => run_store Tryd.prog w a (.func fn p q) m rfl
 clear h hr hc
 go_enter Tryd.func15, Tryd.ntmps15
 go_upto_region 2 with fail
 have HT := Lib.hid (TS.start w t0 t1 t2 A l.length c)
 have c3 := (blk_cell HT.out.b0 3).trans (show _ = some _ from rfl)
 have hl0 : (((w.alloc (.cells #[.string t0, .string t1, .string t2, .slice A l.length c] 26)).alloc (.cells #[.string t1, .string t2] 9)).alloc (.cells #[.slice (some ⟨w.heap.size + 1, 0, none⟩) 2 2] 27)).heap.size = w.heap.size + 3 := by simp
 generalize ((w.alloc (.cells #[.string t0, .string t1, .string t2, .slice A l.length c] 26)).alloc (.cells #[.string t1, .string t2] 9)).alloc (.cells #[.slice (some ⟨w.heap.size + 1, 0, none⟩) 2 2] 27) = W0 at HT c3 hl0 ⊢
 go_wp2_with fail
 go_loopg [5, 18] l.length (fun gk v5 v18 wr => ∃ (i : Nat) (A6 : Option Addr) (c6 : Nat), v18 = .int .i64 i ∧ Aside0 (i ≤ l.length ∧ l.length - i ≤ gk) ∧ Aside0 (TS w t0 t1 t2 A l.length c (.slice A6 (i + 2) c6) (tabNames t1 t2 (l.take i)) wr))
 case atStart => exact ⟨0, _, _, rfl, ⟨by omega, by omega⟩, ⟨HT.out⟩⟩
 case round =>
  obtain ⟨i, A6, c6, rfl, HI, HT⟩ := hrel
  by_cases hi : i < l.length
  ·
   have hz : (i : Int) < (l.length : Int) := by omega
   have hz0 : (0 : Int) ≤ (i : Int) := by omega
   obtain ⟨ad, e1, hx0, hx1⟩ := at_T29 (Kd.C_below HR.out HT.out.bel) (i : Int) hz0 hz
   subst e1
   rw [Int.toNat_natCast] at hx0 hx1
   have hx : rd_T29 l (i : Int) = l[i] := by unfold rd_T29; rw [Int.toNat_natCast, List.getD_eq_getElem?_getD, List.getElem?_eq_getElem hi]; rfl
   rw [hx] at hx0 hx1
   have HTN := Lib.hid (tabNames_take t1 t2 l i hi)
   have HTL := Lib.hid (tabNames_len t1 t2 (l.take i))
   have HLEN := Lib.hid (show ∀ z, (tabNames t1 t2 (l.take i) ++ [z]).length = i + 1 + 2 from fun z => by rw [List.length_append, HTL.out, List.length_take]; simp; omega)
   have HLEN := Lib.hid (show ∀ z, (tabNames t1 t2 (l.take i) ++ [z]).length = i + 1 + 2 from fun z => by rw [List.length_append, HTL.out, List.length_take]; simp; omega)
   have HLEN := Lib.hid (show ∀ z, (tabNames t1 t2 (l.take i) ++ [z]).length = i + 1 + 2 from fun z => by rw [List.length_append, HTL.out, List.length_take]; simp; omega)
   generalize l[i] = x at hx0 hx1 HTN
   obtain ⟨x0, x1⟩ := x
   dsimp only at hx0 hx1 HTN
   clear hx
   have HT2 := Lib.hid (HT.out.alloc (.cells #[.string x0, .int .i64 x1] 29))
   have n0 := (blk_cell HT2.out.nb 0).trans (show _ = some _ from rfl)
   have hlt := blk_lt HT.out.nb
   go_upto_region 6 with ((with_reducible refine gate_builtin (b := .append) (xs := #[.tmp 22, .tmp 25]) rfl ?_); at_builtin; go_loud (refine Kd.R_append Kd.string (w0 := w) w.heap.size rfl (.tmp 22) (.tmp 25) 27 9 (.string ⟨#[]⟩) 16 rfl Tryd.underlying27 infoStr rfl (by decide) (by omega) (.slice A6 (i + 2) c6) (tabNames t1 t2 (l.take i)) x0 [.string x0] (fun k => k ≠ w.heap.size ∧ k ≠ w.heap.size + 2) (fun _ => False) rfl (by first | (go_simp; done) | (go_simp; rfl)) rfl (fun _ hk => hk.elim) ?aF HT2.out.row HT2.out.bel HT2.out.bel.size ?aL ?_); (case aF => exact fun k hk => by have := blk_lt HT2.out.nb; exact ⟨by omega, by omega⟩); (case aL => rw [HTL.out, List.length_take]; omega); intro v1 w1 ho hb hg hat; obtain ⟨A7, c7, ev⟩ := Kd.R_slice ho; rw [HLEN.out] at ev; subst ev; have hp := HT2.out.put hg hb ho; have m0 := (blk_cell hp.1 0).trans (show _ = some _ from rfl); have m1 := blk_frozen hp.1 0; have HT3 := Lib.hid hp.2; clear ho hb hg hat hp)
   go_wp2_with fail
   go_roundg (l.length - (i + 1))
   case measure => have := HI.out; omega
   case rel =>
    have h := HT3.out
    rw [← HTN.out] at h
    exact ⟨i + 1, A7, c7, by go_num, ⟨by omega, Nat.le_refl _⟩, ⟨h⟩⟩
  ·
   have hz : ¬ (i : Int) < (l.length : Int) := by omega
   obtain rfl : i = l.length := by have := HI.out.1; omega
   rw [List.take_length] at HT
   obtain ⟨ns, hns⟩ : ∃ ns, tabNames t1 t2 l = ns := ⟨_, rfl⟩
   have hnl : ns.length = l.length + 2 := by rw [← hns]; exact tabNames_len t1 t2 l
   have HNS := Lib.hid hns
   rw [hns, ← hnl] at HT
   have HNL := Lib.hid hnl
   clear hns hnl
   have HQ0 := Lib.hid (show QS w t0 t1 t2 A l.length c wr.heap.size (wr.heap.size + 1) (.slice A6 ns.length c6) ns ((wr.alloc (.cells #[.func (.func 27) #[] #[]] 58)).alloc (.cells #[.func (.func 28) #[] #[.pointer (some ⟨w.heap.size, 0, none⟩)], .int .i64 3, .func (.func 29) #[] #[.pointer (some ⟨w.heap.size + 1 + 1, 0, none⟩)], .int .i64 3, .func (.func 32) #[] #[.pointer (some ⟨w.heap.size, 0, none⟩)], .int .i64 2, .func (.func 33) #[] #[.pointer (some ⟨w.heap.size, 0, none⟩), .pointer (some ⟨wr.heap.size, 0, none⟩)], .int .i64 2, .func (.func 35) #[] #[.pointer (some ⟨w.heap.size + 1 + 1, 0, none⟩)], .int .i64 5] 59)) from
    ⟨(HT.out.alloc _).alloc _, blk_alloc (blk_new _ _) _, by have := blk_new (wr.alloc (.cells #[.func (.func 27) #[] #[]] 58)) (.cells #[.func (.func 28) #[] #[.pointer (some ⟨w.heap.size, 0, none⟩)], .int .i64 3, .func (.func 29) #[] #[.pointer (some ⟨w.heap.size + 1 + 1, 0, none⟩)], .int .i64 3, .func (.func 32) #[] #[.pointer (some ⟨w.heap.size, 0, none⟩)], .int .i64 2, .func (.func 33) #[] #[.pointer (some ⟨w.heap.size, 0, none⟩), .pointer (some ⟨wr.heap.size, 0, none⟩)], .int .i64 2, .func (.func 35) #[] #[.pointer (some ⟨w.heap.size + 1 + 1, 0, none⟩)], .int .i64 5] 59); rwa [World.size_alloc] at this⟩)
   have HNE := Lib.hid (show tabE t0 t1 t2 l = if nameS t0 = false then 3 else if (ns.any fun x => !nameS x) = true then 3 else if (decide (l.length = 0) || decide (6 < l.length)) = true then 2 else if l.any badKind = true then 2 else if twice ns = true then 5 else 0 by unfold tabE; rw [HNS.out])
   rw [HE.out] at HNE
   obtain ⟨kk, hkk⟩ : ∃ kk, wr.heap.size = kk := ⟨_, rfl⟩
   have HKK := Lib.hid hkk
   clear hkk
   go_upto_region 9 with fail
   obtain ⟨wo, rfl⟩ : ∃ wo : World, wo = wr := ⟨_, rfl⟩
   go_wp2_with fail
   go_loopg [9, 41] 5 (fun gk v9 v41 wx => ∃ j : Nat, v41 = .int .i64 j ∧ Aside0 (j ≤ 5 ∧ 5 - j ≤ gk ∧ (0 < j → nameS t0 = true) ∧ (1 < j → (ns.any fun x => !nameS x) = false) ∧ (2 < j → (decide (l.length = 0) || decide (6 < l.length)) = false) ∧ (3 < j → l.any badKind = false) ∧ (4 < j → twice ns = false)) ∧ Aside0 (QS w t0 t1 t2 A l.length c wo.heap.size (wo.heap.size + 1) (.slice A6 ns.length c6) ns wx))
   case atStart => exact ⟨0, rfl, ⟨by omega, by omega, fun h => absurd h (by omega), fun h => absurd h (by omega), fun h => absurd h (by omega), fun h => absurd h (by omega), fun h => absurd h (by omega)⟩, ⟨HQ0.out⟩⟩
   case round =>
    obtain ⟨j, rfl, HJ, HQ⟩ := hrel
    rcases (by have := HJ.out.1; omega : j = 0 ∨ j = 1 ∨ j = 2 ∨ j = 3 ∨ j = 4 ∨ j = 5) with rfl | rfl | rfl | rfl | rfl | rfl
    ·
     have y0 := (blk_cell HQ.out.sb 0).trans (show _ = some _ from rfl)
     have y1 := (blk_cell HQ.out.sb 1).trans (show _ = some _ from rfl)
     have HAL := Lib.hid (below_alloc (Below.refl _ wr) (.cells #[.func (.func 28) #[] #[.pointer (some ⟨w.heap.size, 0, none⟩)], .int .i64 3] 59))
     have HQ1 := Lib.hid (HQ.out.below HAL.out)
     have eg : ∀ args w, (callFunc 28 args).run Tryd.prog w = .ok (.enter 28 args) w := enters_of Tryd.func28 (by kernel_rfl) rfl
     have HCON := Lib.hid (tab2 w.heap.size t0 t1 t2 _ _ (HQ1.out.ts.b0))
     have HYES := Lib.hid (show nameS t0 = false → r = 3 from fun hb => by rw [HNE.out, if_pos hb])
     have HNO := Lib.hid (show nameS t0 = true → nameS t0 = true from id)
     obtain ⟨b, hb⟩ : ∃ b, nameS t0 = b := ⟨_, rfl⟩
     rw [hb] at HCON HYES HNO
     have HB := Lib.hid hb
     clear hb
     cases b with
     | false =>
      obtain rfl := HYES.out rfl
      go_wp2_with (go_at_fn 28; (with_reducible refine HCON.out.mono ?_); rintro e w1 ⟨rfl, hb1⟩; have z1 := (hb1.cell (p := ⟨wr.heap.size, 1, none⟩) (by simp)).trans ((blk_cell (blk_new wr _) 1).trans (show _ = some _ from rfl)); have HB1 := Lib.hid (below_step HAL.out hb1); clear hb1)
      go_ret
      exact ⟨rfl, below_step HQ.out.ts.bel HB1.out⟩
     | true =>
      go_wp2_with (go_at_fn 28; (with_reducible refine HCON.out.mono ?_); rintro e w1 ⟨rfl, hb1⟩; have HB1 := Lib.hid (below_step HAL.out hb1); clear hb1)
      go_roundg 4
      case measure => have := HJ.out.2.1; omega
      case rel => exact ⟨1, rfl, ⟨by omega, by omega, fun _ => HB.out, fun h => absurd h (by omega), fun h => absurd h (by omega), fun h => absurd h (by omega), fun h => absurd h (by omega)⟩, ⟨HQ.out.below HB1.out⟩⟩
    ·
     have y0 := (blk_cell HQ.out.sb 2).trans (show _ = some _ from rfl)
     have y1 := (blk_cell HQ.out.sb 3).trans (show _ = some _ from rfl)
     have HAL := Lib.hid (below_alloc (Below.refl _ wr) (.cells #[.func (.func 29) #[] #[.pointer (some ⟨w.heap.size + 1 + 1, 0, none⟩)], .int .i64 3] 59))
     have HQ1 := Lib.hid (HQ.out.below HAL.out)
     have eg : ∀ args w, (callFunc 29 args).run Tryd.prog w = .ok (.enter 29 args) w := enters_of Tryd.func29 (by kernel_rfl) rfl
     have HCON := Lib.hid (tab3 (w.heap.size + 2) A6 c6 ns _ ((blk_cell HQ1.out.ts.nb 0).trans rfl) (Kd.R_reads' HQ1.out.ts.row).2.2)
     have HYES := Lib.hid (show (ns.any fun x => !nameS x) = true → r = 3 from fun hb => by rw [HNE.out, if_neg (by rw [(HJ.out.2.2.1 (by omega))]; decide), if_pos hb])
     have HNO := Lib.hid (show (ns.any fun x => !nameS x) = false → (ns.any fun x => !nameS x) = false from id)
     obtain ⟨b, hb⟩ : ∃ b, (ns.any fun x => !nameS x) = b := ⟨_, rfl⟩
     rw [hb] at HCON HYES HNO
     have HB := Lib.hid hb
     clear hb
     cases b with
     | true =>
      obtain rfl := HYES.out rfl
      go_wp2_with (go_at_fn 29; (with_reducible refine HCON.out.mono ?_); rintro e w1 ⟨rfl, hb1⟩; have z1 := (hb1.cell (p := ⟨wr.heap.size, 1, none⟩) (by simp)).trans ((blk_cell (blk_new wr _) 1).trans (show _ = some _ from rfl)); have HB1 := Lib.hid (below_step HAL.out hb1); clear hb1)
      go_ret
      exact ⟨rfl, below_step HQ.out.ts.bel HB1.out⟩
     | false =>
      go_wp2_with (go_at_fn 29; (with_reducible refine HCON.out.mono ?_); rintro e w1 ⟨rfl, hb1⟩; have HB1 := Lib.hid (below_step HAL.out hb1); clear hb1)
      go_roundg 3
      case measure => have := HJ.out.2.1; omega
      case rel => exact ⟨2, rfl, ⟨by omega, by omega, fun _ => (HJ.out.2.2.1 (by omega)), fun _ => HB.out, fun h => absurd h (by omega), fun h => absurd h (by omega), fun h => absurd h (by omega)⟩, ⟨HQ.out.below HB1.out⟩⟩
    ·
     have y0 := (blk_cell HQ.out.sb 4).trans (show _ = some _ from rfl)
     have y1 := (blk_cell HQ.out.sb 5).trans (show _ = some _ from rfl)
     have HAL := Lib.hid (below_alloc (Below.refl _ wr) (.cells #[.func (.func 32) #[] #[.pointer (some ⟨w.heap.size, 0, none⟩)], .int .i64 2] 59))
     have HQ1 := Lib.hid (HQ.out.below HAL.out)
     have eg : ∀ args w, (callFunc 32 args).run Tryd.prog w = .ok (.enter 32 args) w := enters_of Tryd.func32 (by kernel_rfl) rfl
     have HCON := Lib.hid (tab4b w.heap.size t0 t1 t2 A l.length c _ HQ1.out.ts.b0)
     have HYES := Lib.hid (show (decide (l.length = 0) || decide (6 < l.length)) = true → r = 2 from fun hb => by rw [HNE.out, if_neg (by rw [(HJ.out.2.2.1 (by omega))]; decide), if_neg (by rw [(HJ.out.2.2.2.1 (by omega))]; decide), if_pos hb])
     have HNO := Lib.hid (show (decide (l.length = 0) || decide (6 < l.length)) = false → (decide (l.length = 0) || decide (6 < l.length)) = false from id)
     obtain ⟨b, hb⟩ : ∃ b, (decide (l.length = 0) || decide (6 < l.length)) = b := ⟨_, rfl⟩
     rw [hb] at HCON HYES HNO
     have HB := Lib.hid hb
     clear hb
     cases b with
     | true =>
      obtain rfl := HYES.out rfl
      go_wp2_with (go_at_fn 32; (with_reducible refine HCON.out.mono ?_); rintro e w1 ⟨rfl, hb1⟩; have z1 := (hb1.cell (p := ⟨wr.heap.size, 1, none⟩) (by simp)).trans ((blk_cell (blk_new wr _) 1).trans (show _ = some _ from rfl)); have HB1 := Lib.hid (below_step HAL.out hb1); clear hb1)
      go_ret
      exact ⟨rfl, below_step HQ.out.ts.bel HB1.out⟩
     | false =>
      go_wp2_with (go_at_fn 32; (with_reducible refine HCON.out.mono ?_); rintro e w1 ⟨rfl, hb1⟩; have HB1 := Lib.hid (below_step HAL.out hb1); clear hb1)
      go_roundg 2
      case measure => have := HJ.out.2.1; omega
      case rel => exact ⟨3, rfl, ⟨by omega, by omega, fun _ => (HJ.out.2.2.1 (by omega)), fun _ => (HJ.out.2.2.2.1 (by omega)), fun _ => HB.out, fun h => absurd h (by omega), fun h => absurd h (by omega)⟩, ⟨HQ.out.below HB1.out⟩⟩
    ·
     have y0 := (blk_cell HQ.out.sb 6).trans (show _ = some _ from rfl)
     have y1 := (blk_cell HQ.out.sb 7).trans (show _ = some _ from rfl)
     have HAL := Lib.hid (below_alloc (Below.refl _ wr) (.cells #[.func (.func 33) #[] #[.pointer (some ⟨w.heap.size, 0, none⟩), .pointer (some ⟨wo.heap.size, 0, none⟩)], .int .i64 2] 59))
     have HQ1 := Lib.hid (HQ.out.below HAL.out)
     have eg : ∀ args w, (callFunc 33 args).run Tryd.prog w = .ok (.enter 33 args) w := enters_of Tryd.func33 (by kernel_rfl) rfl
     have HCON := Lib.hid (tab5 w.heap.size wo.heap.size t0 t1 t2 A c l _ HQ1.out.ts.b0 ((blk_cell HQ1.out.kb 0).trans rfl) (Kd.C_below HR.out HQ1.out.ts.bel))
     have HYES := Lib.hid (show l.any badKind = true → r = 2 from fun hb => by rw [HNE.out, if_neg (by rw [(HJ.out.2.2.1 (by omega))]; decide), if_neg (by rw [(HJ.out.2.2.2.1 (by omega))]; decide), if_neg (by rw [(HJ.out.2.2.2.2.1 (by omega))]; decide), if_pos hb])
     have HNO := Lib.hid (show l.any badKind = false → l.any badKind = false from id)
     obtain ⟨b, hb⟩ : ∃ b, (l.any badKind) = b := ⟨_, rfl⟩
     rw [hb] at HCON HYES HNO
     have HB := Lib.hid hb
     clear hb
     cases b with
     | true =>
      obtain rfl := HYES.out rfl
      go_wp2_with (go_at_fn 33; (with_reducible refine HCON.out.mono ?_); rintro e w1 ⟨rfl, hb1⟩; have z1 := (hb1.cell (p := ⟨wr.heap.size, 1, none⟩) (by simp)).trans ((blk_cell (blk_new wr _) 1).trans (show _ = some _ from rfl)); have HB1 := Lib.hid (below_step HAL.out hb1); clear hb1)
      go_ret
      exact ⟨rfl, below_step HQ.out.ts.bel HB1.out⟩
     | false =>
      go_wp2_with (go_at_fn 33; (with_reducible refine HCON.out.mono ?_); rintro e w1 ⟨rfl, hb1⟩; have HB1 := Lib.hid (below_step HAL.out hb1); clear hb1)
      go_roundg 1
      case measure => have := HJ.out.2.1; omega
      case rel => exact ⟨4, rfl, ⟨by omega, by omega, fun _ => (HJ.out.2.2.1 (by omega)), fun _ => (HJ.out.2.2.2.1 (by omega)), fun _ => (HJ.out.2.2.2.2.1 (by omega)), fun _ => HB.out, fun h => absurd h (by omega)⟩, ⟨HQ.out.below HB1.out⟩⟩
    ·
     have y0 := (blk_cell HQ.out.sb 8).trans (show _ = some _ from rfl)
     have y1 := (blk_cell HQ.out.sb 9).trans (show _ = some _ from rfl)
     have HAL := Lib.hid (below_alloc (Below.refl _ wr) (.cells #[.func (.func 35) #[] #[.pointer (some ⟨w.heap.size + 1 + 1, 0, none⟩)], .int .i64 5] 59))
     have HQ1 := Lib.hid (HQ.out.below HAL.out)
     have eg : ∀ args w, (callFunc 35 args).run Tryd.prog w = .ok (.enter 35 args) w := enters_of Tryd.func35 (by kernel_rfl) rfl
     have HCON := Lib.hid (tab6 (w.heap.size + 2) A6 c6 ns _ ((blk_cell HQ1.out.ts.nb 0).trans rfl) (Kd.R_reads' HQ1.out.ts.row).2.2 (by rw [HNL.out]; omega))
     have HYES := Lib.hid (show twice ns = true → r = 5 from fun hb => by rw [HNE.out, if_neg (by rw [(HJ.out.2.2.1 (by omega))]; decide), if_neg (by rw [(HJ.out.2.2.2.1 (by omega))]; decide), if_neg (by rw [(HJ.out.2.2.2.2.1 (by omega))]; decide), if_neg (by rw [(HJ.out.2.2.2.2.2.1 (by omega))]; decide), if_pos hb])
     have HNO := Lib.hid (show twice ns = false → twice ns = false from id)
     obtain ⟨b, hb⟩ : ∃ b, (twice ns) = b := ⟨_, rfl⟩
     rw [hb] at HCON HYES HNO
     have HB := Lib.hid hb
     clear hb
     cases b with
     | true =>
      obtain rfl := HYES.out rfl
      go_wp2_with (go_at_fn 35; (with_reducible refine HCON.out.mono ?_); rintro e w1 ⟨rfl, hb1⟩; have z1 := (hb1.cell (p := ⟨wr.heap.size, 1, none⟩) (by simp)).trans ((blk_cell (blk_new wr _) 1).trans (show _ = some _ from rfl)); have HB1 := Lib.hid (below_step HAL.out hb1); clear hb1)
      go_ret
      exact ⟨rfl, below_step HQ.out.ts.bel HB1.out⟩
     | false =>
      go_wp2_with (go_at_fn 35; (with_reducible refine HCON.out.mono ?_); rintro e w1 ⟨rfl, hb1⟩; have HB1 := Lib.hid (below_step HAL.out hb1); clear hb1)
      go_roundg 0
      case measure => have := HJ.out.2.1; omega
      case rel => exact ⟨5, rfl, ⟨by omega, by omega, fun _ => (HJ.out.2.2.1 (by omega)), fun _ => (HJ.out.2.2.2.1 (by omega)), fun _ => (HJ.out.2.2.2.2.1 (by omega)), fun _ => (HJ.out.2.2.2.2.2.1 (by omega)), fun _ => HB.out⟩, ⟨HQ.out.below HB1.out⟩⟩
    ·
     have HRV := Lib.hid (show r = 0 by rw [HNE.out, if_neg (by rw [HJ.out.2.2.1 (by omega)]; decide), if_neg (by rw [HJ.out.2.2.2.1 (by omega)]; decide), if_neg (by rw [HJ.out.2.2.2.2.1 (by omega)]; decide), if_neg (by rw [HJ.out.2.2.2.2.2.1 (by omega)]; decide), if_neg (by rw [HJ.out.2.2.2.2.2.2 (by omega)]; decide)])
     obtain rfl := HRV.out
     go_wp2_with fail
     go_ret
     exact ⟨rfl, HQ.out.ts.bel⟩
end Go.Proofs.YtdagddhccdchoaaDoor.Q
