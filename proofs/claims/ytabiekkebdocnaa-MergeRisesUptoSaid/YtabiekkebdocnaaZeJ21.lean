/- Lemmas for this claim's walk: no condition of their own. -/
import Derived.Test.YtabiekkebdocnaaZeSq
import Derived.Test.YtabiekkebdocnaaZeSortS
import Derived.Test.YtabiekkebdocnaaZeJ13
import Derived.Test.YtabiekkebdocnaaZeJ0
import Derived.Test.YtabiekkebdocnaaZeQx7
import Derived.Test.YtabiekkebdocnaaZeQx6
import Derived.Test.YtabiekkebdocnaaZeJ16
import Derived.Test.YtabiekkebdocnaaZeQx5
import Derived.Test.YtabiekkebdocnaaZeQx0
namespace Go.Proofs.Ytabiekkebdocnaa.Q
open Go.RowKit Go.Proofs.YtabiekkebdocnaaW.PrintWords Go.Proofs.YtabiekkebdocnaaW.PrintLast Go.Proofs.YtabiekkebdocnaaW.PrintMore
attribute [local go_sem] max2_int min2_int max_two min_two max_three min_three max_four min_four
set_option linter.unusedVariables false
set_option linter.unusedSimpArgs false
open Go.Proofs.Ytabiekkebdocnaa.Ord
instance instS29 : Inhabited S39 := ⟨z39⟩
def cmpK (x y : S33) : Int := lex (fun a b : S33 => cs a.f0 b.f0) (lex (fun a b => cs a.f1 b.f1) (lex (fun a b => ci a.f2 b.f2) (fun a b => cs a.f3 b.f3))) x y
theorem cmpK_cmp : Cmp3 cmpK := (cs_cmp.on (fun a : S33 => a.f0)).lex ((cs_cmp.on (fun a : S33 => a.f1)).lex ((ci_cmp.on (fun a : S33 => a.f2)).lex (cs_cmp.on (fun a : S33 => a.f3))))
theorem compare_int_ (a b : Int) : cmp_Compare_int.f a b = some (ci a b) := by
 unfold cmp_Compare_int.f cmp_isNaN_int.f ci
 simp only [Option.bind_some, bne_self_eq_false, Bool.false_eq_true, if_false]
 repeat' split
 all_goals first | rfl | omega
theorem compare_string_ (a b : ByteArray) : cmp_Compare_string.f a b = some (cs a b) := by
 unfold cmp_Compare_string.f cmp_isNaN_string.f cs cl
 simp only [Option.bind_some, bne_self_eq_false, Bool.false_eq_true, if_false]
 repeat' split
 all_goals rfl
theorem first_four (k : Nat) (hk : 6 ≤ k) (a b c d : Int) : key_first.f k [a, b, c, d] = some (if a = 0 then (if b = 0 then (if c = 0 then d else c) else b) else a) := by
 obtain ⟨k, rfl⟩ : ∃ m, k = m + 6 := ⟨k - 6, by omega⟩
 unfold key_first.f slices_IndexFunc_int_int.f
 by_cases h0 : a = 0 <;> by_cases h1 : b = 0 <;> by_cases h2 : c = 0 <;> by_cases h3 : d = 0 <;>
  simp [slices_IndexFunc_int_int.l0, key_first_1.f, rd, h0, h1, h2, h3, wrap64]
theorem key_Cmp_f (k : Nat) (hk : 6 ≤ k) (x y : S33) : key_Cmp.f k x.f0 x.f1 x.f2 x.f3 y.f0 y.f1 y.f2 y.f3 = some (cmpK x y) := by
 unfold key_Cmp.f
 simp only [compare_string_, compare_int_, Option.bind_some, first_four k hk]
 rfl
def cmpC (x y : S39) : Int := cmpK x.f0 y.f0
theorem norm1_f (k : Nat) (hk : 6 ≤ k) (x y : S39) : cell_Norm_1.f k x.f0.f0 x.f0.f1 x.f0.f2 x.f0.f3 x.f1.f0 x.f1.f1 x.f1.f2 x.f1.f3.f0 x.f1.f3.f1 x.f1.f3.f2 y.f0.f0 y.f0.f1 y.f0.f2 y.f0.f3 y.f1.f0 y.f1.f1 y.f1.f2 y.f1.f3.f0 y.f1.f3.f1 y.f1.f3.f2 = some (cmpC x y) := by
 unfold cell_Norm_1.f
 rw [key_Cmp_f k hk x.f0 y.f0]; rfl
def ltC (x y : S39) : Bool := ltOf cmpC x y
theorem ltC_ord : Srt.WOrd (ltOf cmpC) := ⟨fun x y h => by
  have h1 : cmpC x y < 0 := of_decide_eq_true h
  have := cmpK_cmp.anti x.f0 y.f0
  exact decide_eq_false (by unfold cmpC at *; omega), fun x y z h1 h2 => by
  have h3 : ¬ cmpC y x < 0 := of_decide_eq_false h1
  have h4 : ¬ cmpC z y < 0 := of_decide_eq_false h2
  have a1 := cmpK_cmp.anti y.f0 x.f0
  have a2 := cmpK_cmp.anti z.f0 y.f0
  have a3 := cmpK_cmp.anti z.f0 x.f0
  have := cmpK_cmp.trans x.f0 y.f0 z.f0
  exact decide_eq_false (by unfold cmpC at *; omega)⟩
def encC (x : S39) : List Value := [.string x.f0.f0, .string x.f0.f1, .int .i64 x.f0.f2, .string x.f0.f3, .int .i64 x.f1.f0, .bool x.f1.f1, .int .i64 x.f1.f2, .int .i64 x.f1.f3.f0, .int .i64 x.f1.f3.f1, .string x.f1.f3.f2]
theorem sortL : Srt.L Try.prog 10 := {
 mixed := by kernel_rfl
 t0 := Try.underlying0
 a0 := Try.isAgg0
 z0 := Try.sizeOf0
 v0 := Try.zeroValue0
 t3 := Try.underlying3
 a3 := Try.isAgg3
 z3 := Try.sizeOf3
 v3 := Try.zeroValue3
 t4 := Try.underlying4
 a4 := Try.isAgg4
 z4 := Try.sizeOf4
 v4 := Try.zeroValue4
 t45 := Try.underlying90
 a45 := Try.isAgg90
 z45 := Try.sizeOf90
 v45 := Try.zeroValue90
 t22 := Try.underlying25
 a22 := Try.isAgg25
 z22 := Try.sizeOf25
 v22 := Try.zeroValue25
 t25 := Try.underlying70
 a25 := Try.isAgg70
 z25 := Try.sizeOf70
 v25 := Try.zeroValue70
 aE := Try.isAgg39
 zE := Try.sizeOf39
 fI := Try.func66
 fW := Try.func71
 fR := Try.func69
 fM := Try.func67
 fS := Try.func57 }
def api_Cell_57.f (k : Nat) (l0 : List (S39)) (a1 : Int) : Option (List (S39)) := if a1 = (l0.length : Int) ∧ l0.length < 1152921504606846976 then some (Srt.isort ltC l0) else none
theorem isort_len {α : Type} (lt : α → α → Bool) (H : Srt.WOrd lt) (l : List α) : (Srt.isort lt l).length = l.length := (Srt.isort_stab H l).length
theorem api_Cell_57.calls (k : Nat) (P0_ : Nat → Prop) (u9000_ : Value) (l0 : List (S39)) (a1 : Int) (r : List (S39)) (w0 w : World) (hB : Below w0.heap.size w0 w) (ho0 : Kd.R k39 39 w w0.heap.size P0_ u9000_ l0) (h : api_Cell_57.f k l0 a1 = some r) :
  Calls Try.prog 57 #[u9000_, .int .i64 a1, .func (.func 42) #[] #[]] w fun e w' => e = .returned (.tuple #[]) ∧ Kd.R k39 39 w' w0.heap.size (fun k_ => (P0_ k_ ∨ w.heap.size ≤ k_)) u9000_ r ∧ Below w0.heap.size w0 w' ∧ Kept w w' (fun k_ => P0_ k_) := by
 unfold api_Cell_57.f at h
 split at h
 ·
  rename_i hc
  obtain rfl := Option.some.inj h
  obtain ⟨rfl, hN⟩ := hc
  obtain ⟨A, c, rfl⟩ := Kd.R_slice ho0
  cases l0 with
  | nil =>
   refine (Srt.stb0 sortL A c _ _).mono ?_
   rintro e w' ⟨rfl, rfl⟩
   exact ⟨rfl, Kd.R_mono ho0 (fun k hk => .inl hk), hB, Kept.refl _ _⟩
  | cons x l =>
   obtain ⟨inner, ho⟩ := Kd.R_own ho0
   rcases ho.2 with ⟨h1, _⟩ | ⟨g, cap, cur, h1, _⟩
   ·
    cases h1
   ·
    injection h1 with a1 a2 a3
    subst a1 a3
    have hk : ∀ x, (encC x).length = k39.sz := fun _ => rfl
    have hM : ∀ w base ok x cs, k39.M w base ok x cs → cs = encC x := fun w base ok x cs hx => k39_openM hx
    obtain ⟨hH, hlt, hge, hok⟩ := Srt.R_holds hk hM ho0
    have R : RowK encC 10 w g 0 (x :: l).toArray := ⟨fun _ => rfl, fun x v hv => by simp [encC] at hv; rcases hv with rfl | rfl | rfl | rfl | rfl | rfl | rfl | rfl | rfl | rfl <;> rfl, hH, hlt⟩
    have hN' : (x :: l).toArray.size < 1152921504606846976 := by simpa using hN
    have hC : Srt.CmpB Try.prog 42 #[] encC 10 cmpC w g 0 (x :: l).toArray.size := fun W dk hs hS x y => cell_Norm_1.calls 6 x.f0.f0 x.f0.f1 x.f0.f2 x.f0.f3 x.f1.f0 x.f1.f1 x.f1.f2 x.f1.f3.f0 x.f1.f3.f1 x.f1.f3.f2 y.f0.f0 y.f0.f1 y.f0.f2 y.f0.f3 y.f1.f0 y.f1.f1 y.f1.f2 y.f1.f3.f0 y.f1.f3.f1 y.f1.f3.f2 (cmpC x y) W (norm1_f 6 (Nat.le_refl _) x y)
    have hz : (x :: l).length = (x :: l).toArray.size := by simp
    have hS := Srt.stb (w0 := w) (w := w) (cap := c) (cb := #[]) sortL R hN' (enters_of Try.func42 (by kernel_rfl) rfl) hC ltC_ord (x :: l) hz (Srt.SWB.start hH) _ rfl
    rw [← hz] at hS
    refine hS.mono ?_
    rintro e w' ⟨rfl, r, hr, hW⟩
    rw [List.nil_append, List.append_nil] at hW
    have er : r = Srt.isort ltC (x :: l) := hr.isort ltC_ord
    subst er
    refine ⟨rfl, Kd.R_mono (Srt.R_rewritten hk hM (fun w base ok x => k39_mkM w base ok x) ho0 hW hr.length) (fun k hk => .inl hk), ⟨hW.os.trans hB.os, hW.tape.trans hB.tape, hW.output.trans hB.output, Nat.le_trans hB.size hW.size, fun i hi => (hW.other i (Nat.lt_of_lt_of_le hi hB.size) (by omega)).trans (hB.block i hi)⟩, hW.size, fun i hi hn => hW.other i hi (fun e => hn (e ▸ hok))⟩
 ·
  cases h
end Go.Proofs.Ytabiekkebdocnaa.Q
namespace Go.Proofs.Ytabiekkebdocnaa.Q
open Go.RowKit Go.Proofs.YtabiekkebdocnaaW.PrintWords Go.Proofs.YtabiekkebdocnaaW.PrintLast Go.Proofs.YtabiekkebdocnaaW.PrintMore
attribute [local go_sem] max2_int min2_int max_two min_two max_three min_three max_four min_four
set_option linter.unusedVariables false
set_option linter.unusedSimpArgs false
def api_Cell_41.f (k : Nat) (l0 : List (S39))  : Option ((List (S39))) := (api_Cell_57.f k l0 (l0.length : Int)).bind fun t186 => (some t186)
set_option maxHeartbeats 8000000 in
set_option maxRecDepth 100000 in
theorem api_Cell_41.calls (k : Nat) (P0_ : Nat → Prop) (u9000_ : Value) (l0 : List (S39))  (r : List (S39)) (w0 w : World) (hB : Below w0.heap.size w0 w) (ho0 : Kd.R k39 39 w w0.heap.size P0_ u9000_ l0) (h : api_Cell_41.f k l0 = some r) :
  Calls Try.prog 41 #[u9000_, .func (.func 42) #[] #[]] w fun e w' => e = .returned (.tuple #[]) ∧ Kd.R k39 39 w' w0.heap.size (fun k_ => (P0_ k_ ∨ w.heap.size ≤ k_)) u9000_ r ∧ Below w0.heap.size w0 w' ∧ Kept w w' (fun k_ => P0_ k_) := by
 have HO0 := Aside0.mk (show Kd.R k39 39 w w0.heap.size (fun k_ => (P0_ k_ ∨ w.heap.size ≤ k_)) u9000_ l0 from Kd.R_mono ho0 (fun k_ hk => (.inl hk)))
 have HK := Aside0.mk (Kept.refl w (fun k_ => P0_ k_))
 have HW0 := Aside0.mk hB.size
 have HB := Aside0.mk hB
 clear hB
 have H : ((api_Cell_57.f k l0 (l0.length : Int)).bind fun t186 => (some t186)) = some r := h
 clear h
 replace H := Option.bind_eq_some_iff.mp H
 obtain ⟨t186, A30, H⟩ := H
 have A3 := Aside0.mk A30
 clear A30
 obtain rfl := Option.some.inj H
 obtain ⟨Ao4, co4, eo4⟩ := Kd.R_slice HO0.out
 subst eo4
 go_enter Try.func41, Try.ntmps41
 go_wp2_with (first | ((with_reducible refine gate_callee (f := 57) rfl ?_); refine goesL_ (some 8) rfl rfl Try.func57 (by kernel_rfl) rfl #[.slice Ao4 l0.length co4, .int .i64 (l0.length : Int), .func (.func 42) #[] #[]] rfl (by (try simp only [mT_, mC_, mN_]); first | done | rfl) ?_; (with_reducible refine (api_Cell_57.calls k (fun k_ => some k_ = (.slice Ao4 l0.length co4 : Value).ownBlock) (.slice Ao4 l0.length co4) l0 (l0.length : Int)  t186 w0 _ ?side1 ?side2 A3.out).mono ?_); (case side1 => repeat (first | (with_reducible first | exact HB.out | apply bA_ | apply bN_ | apply bD_) | exact HB.out)); (case side2 => exact Kd.R_tight rfl HO0.out); rintro e w5 ⟨rfl, hy0, hb, hkp⟩; refine ⟨_, rfl, ?_⟩; replace HK := Aside0.mk (Kept.then_ (S := (fun k_ => P0_ k_)) (by repeat (first | (with_reducible first | exact HK.out | apply Kept.alloc | apply Kept.drewN | apply Kept.drew) | exact HK.out)) hkp (fun k_ hs_ => (fun e_ => (HO0.out.1 k_ e_.symm)) hs_)); replace HO0 := Aside0.mk (Kd.R_reok rfl hy0 (fun k_ e_ => HO0.out.1 k_ e_)); replace HB := Aside0.mk (hb); (try clear hb); (try clear hkp); (try clear hy0)))
 first | go_end0 | ((try simp only [Exit.inBlock, Exit.then]); refine bodyPost_ret (results_none rfl _ _ _) rfl ?_)
 exact ⟨by first | rfl | (simp <;> rfl) | (simp [*] <;> rfl), krW HO0, kwW HB, by repeat (first | (with_reducible first | exact HK.out | apply Kept.alloc | apply Kept.drewN | apply Kept.drew) | exact HK.out)⟩
end Go.Proofs.Ytabiekkebdocnaa.Q
