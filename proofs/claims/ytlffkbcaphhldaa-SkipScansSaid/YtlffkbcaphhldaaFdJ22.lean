/- The order of keys. -/
import Derived.Test.YtlffkbcaphhldaaFdQx9
import Derived.Test.YtlffkbcaphhldaaFdJ0
import Derived.Test.YtlffkbcaphhldaaFdOpenZ
import Derived.Test.YtlffkbcaphhldaaFdPWeigh
namespace Go.Proofs.Ytlffkbcaphhldaa.Q
open Go.RowKit Go.Proofs.YtlffkbcaphhldaaW.PrintWords Go.Proofs.Ytlffkbcaphhldaa.Ord
set_option linter.unusedVariables false
set_option linter.unusedSimpArgs false
def cmpK (x y : S31) : Int := lex (fun a b : S31 => cs a.f0 b.f0) (lex (fun a b => cs a.f1 b.f1) (lex (fun a b => ci a.f2 b.f2) (fun a b => cs a.f3 b.f3))) x y
theorem cmpK_cmp : Cmp3 cmpK := (cs_cmp.on (fun a : S31 => a.f0)).lex ((cs_cmp.on (fun a : S31 => a.f1)).lex ((ci_cmp.on (fun a : S31 => a.f2)).lex (cs_cmp.on (fun a : S31 => a.f3))))
theorem compare_int_ (a b : Int) : cmp_Compare_int.f a b = some (ci a b) := by
 unfold cmp_Compare_int.f cmp_isNaN_int.f ci
 simp only [Option.bind_some, bne_self_eq_false, Bool.false_eq_true, if_false]
 repeat' split
 all_goals first | rfl | omega
theorem compare_string_ (a b : ByteArray) : cmp_Compare_string.f a b = some (cs a b) := by
 unfold cmp_Compare_string.f cmp_isNaN_string.f cs cl
 simp only [Option.bind_some, bne_self_eq_false, Bool.false_eq_true, if_false]
 repeat' split
 all_goals rfl
theorem first_four (k : Nat) (hk : 6 ≤ k) (a b c d : Int) : key_first.f k [a, b, c, d] = some (if a = 0 then (if b = 0 then (if c = 0 then d else c) else b) else a) := by
 obtain ⟨k, rfl⟩ : ∃ m, k = m + 6 := ⟨k - 6, by omega⟩
 unfold key_first.f slices_IndexFunc_int_int.f
 by_cases h0 : a = 0 <;> by_cases h1 : b = 0 <;> by_cases h2 : c = 0 <;> by_cases h3 : d = 0 <;>
  simp [slices_IndexFunc_int_int.l0, key_first_1.f, rd, h0, h1, h2, h3, wrap64]
theorem key_Cmp_f (k : Nat) (hk : 6 ≤ k) (x y : S31) : key_Cmp.f k x.f0 x.f1 x.f2 x.f3 y.f0 y.f1 y.f2 y.f3 = some (cmpK x y) := by
 unfold key_Cmp.f
 simp only [compare_string_, compare_int_, Option.bind_some, first_four k hk]
 rfl
end Go.Proofs.Ytlffkbcaphhldaa.Q
namespace Go.Proofs.Ytlffkbcaphhldaa.Opn
open Go.RowKit Go.Proofs.YtlffkbcaphhldaaW.PrintWords Go.ChangeShapes Go.WideShapes
open Go.Proofs.Ytlffkbcaphhldaa.Q
set_option linter.unusedVariables false
set_option linter.unusedSimpArgs false
def WK (x : S31) : Prop := x.f0.size ≤ 140737488351232 ∧ x.f1.size ≤ 140737488351232 ∧ (Lit.int .i64 x.f2).wf = true ∧ x.f3.size ≤ 140737488351232
def WV (x : S33) : Prop := (Lit.int .i64 x.f0).wf = true ∧ (Lit.int .i64 x.f1).wf = true ∧ x.f2.size ≤ 140737488351232
def WVer (x : S35) : Prop := (Lit.int .i64 x.f0).wf = true ∧ True ∧ (Lit.int .i64 x.f2).wf = true ∧ WV x.f3
def WC (x : S37) : Prop := WK x.f0 ∧ WVer x.f1
theorem z31 : OpensZ Try.prog 31 k31 WK :=
 OpensZ.struct (f := fun x : S31 => (x.f0, x.f1, x.f2, x.f3)) Try.underlying31 (by kernel_rfl)
  (OpensFZ.cons (OpensZ.string Try.underlying9) rfl (by kernel_rfl) (OpensFZ.cons (OpensZ.string Try.underlying9) rfl (by kernel_rfl)
   (OpensFZ.cons (OpensZ.int Try.underlying3) rfl (by kernel_rfl) (OpensFZ.one (OpensZ.string Try.underlying9) rfl (by kernel_rfl)))))
  (fun y => ⟨y.1, y.2.1, y.2.2.1, y.2.2.2⟩) (fun _ => rfl)
theorem z33 : OpensZ Try.prog 33 k33 WV :=
 OpensZ.struct (f := fun x : S33 => (x.f0, x.f1, x.f2)) Try.underlying33 (by kernel_rfl)
  (OpensFZ.cons (OpensZ.int Try.underlying3) rfl (by kernel_rfl) (OpensFZ.cons (OpensZ.int Try.underlying3) rfl (by kernel_rfl) (OpensFZ.one (OpensZ.string Try.underlying9) rfl (by kernel_rfl))))
  (fun y => ⟨y.1, y.2.1, y.2.2⟩) (fun _ => rfl)
theorem z35 : OpensZ Try.prog 35 k35 WVer :=
 OpensZ.struct (f := fun x : S35 => (x.f0, x.f1, x.f2, x.f3)) Try.underlying35 (by kernel_rfl)
  (OpensFZ.cons (OpensZ.int Try.underlying3) rfl (by kernel_rfl) (OpensFZ.cons (OpensZ.bool Try.underlying4) rfl (by kernel_rfl) (OpensFZ.cons (OpensZ.int Try.underlying3) rfl (by kernel_rfl) (OpensFZ.one z33 rfl (by kernel_rfl)))))
  (fun y => ⟨y.1, y.2.1, y.2.2.1, y.2.2.2⟩) (fun _ => rfl)
theorem z37 : OpensZ Try.prog 37 k37 WC :=
 OpensZ.struct (f := fun x : S37 => (x.f0, x.f1)) Try.underlying37 (by kernel_rfl)
  (OpensFZ.cons z31 rfl (by kernel_rfl) (OpensFZ.one z35 rfl (by kernel_rfl))) (fun y => ⟨y.1, y.2⟩) (fun _ => rfl)
end Go.Proofs.Ytlffkbcaphhldaa.Opn
namespace Go.Proofs.Ytlffkbcaphhldaa.Pl
open Go Go.RowKit Go.Proofs.YtlffkbcaphhldaaW.PrintWords Go.Proofs.Ytlffkbcaphhldaa.Q Go.Proofs.Ytlffkbcaphhldaa.Opn
set_option linter.unusedVariables false
set_option linter.unusedSimpArgs false
theorem WC.fine {c : S37} (h : WC c) : FineC c := ⟨h.1.1, h.1.2.1, h.1.2.2.2, h.2.2.2.2.2.2⟩
theorem len_of {n : Nat} (h : n * 112 ≤ 140737488351232) : n ≤ 1256584717421 := by omega
end Go.Proofs.Ytlffkbcaphhldaa.Pl
namespace Go.Proofs.Ytlffkbcaphhldaa.Opn
open Go.RowKit Go.Proofs.YtlffkbcaphhldaaW.PrintWords Go.ChangeShapes Go.WideShapes
open Go.Proofs.Ytlffkbcaphhldaa.Q
set_option linter.unusedVariables false
set_option linter.unusedSimpArgs false
structure SEnds where
 f0 : S31
 f1 : S31
 f2 : Int
def k49 : Kd SEnds := Kd.iso (Kd.pair k31 (Kd.pair k31 (Kd.int .i64))) (fun x : SEnds => (x.f0, x.f1, x.f2))
theorem k49_open {w : World} {x : SEnds} {cs : List Value} (h : k49.K w x cs) : cs = [.string x.f0.f0, .string x.f0.f1, .int .i64 x.f0.f2, .string x.f0.f3, .string x.f1.f0, .string x.f1.f1, .int .i64 x.f1.f2, .string x.f1.f3, .int .i64 x.f2] := by
 obtain ⟨_, _, rfl, s0, ⟨_, _, rfl, s1, rfl⟩⟩ := h
 obtain rfl := k31_open s0
 obtain rfl := k31_open s1
 exact rfl
theorem z49 : OpensZ Try.prog 49 k49 (fun x => WK x.f0 ∧ WK x.f1 ∧ (Lit.int .i64 x.f2).wf = true) :=
 OpensZ.struct (f := fun x : SEnds => (x.f0, x.f1, x.f2)) Try.underlying49 (by kernel_rfl)
  (OpensFZ.cons z31 rfl (by kernel_rfl) (OpensFZ.cons z31 rfl (by kernel_rfl) (OpensFZ.one (OpensZ.int Try.underlying3) rfl (by kernel_rfl)))) (fun y => ⟨y.1, y.2.1, y.2.2⟩) (fun _ => rfl)
end Go.Proofs.Ytlffkbcaphhldaa.Opn
