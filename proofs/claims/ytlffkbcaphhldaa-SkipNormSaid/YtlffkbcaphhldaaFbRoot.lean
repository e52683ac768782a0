/- SkipNorm: it answers true, whatever the input, and its arguments read as they did. No condition beyond the row's own. -/
import Derived.Test.YtlffkbcaphhldaaRows
import Derived.Test.YtlffkbcaphhldaaFbWNorm
import Derived.Test.YtlffkbcaphhldaaFbJ21
import Derived.WalkKit
import Derived.ProofKit
import Derived.OpenShut
import Derived.ShutString
import Derived.ChangeOld
import Derived.Below
import Derived.SizedLaws
import Derived.Handed
namespace Go.Proofs.Ytlffkbcaphhldaa.skipNorm
open Go.ChangeShapes Go.WideShapes Go.ChangeAt Go.RowKit
open Go.ChangeMaps (open_string shut_string)
open Go.Proofs.Ytlffkbcaphhldaa.Opn Go.Proofs.Ytlffkbcaphhldaa.Q
set_option linter.unusedVariables false
theorem own : ownKnob Try.prog.godebug = none := by kernel_rfl
theorem laidOut : laidOutB Try.prog = true := by kernel_rfl
set_option maxRecDepth 100000 in
theorem lifted (os : Os) (started : os.Started) (H : Type) (enc : TypeId × Value → H) :
  ReturnsInHanded {} Try.checked os 3 .any (Rows.skipNormSpec.pre6 enc Try.prog Try.f3 Rows.skipNormRow.domain false) (Rows.skipNormSpec.post enc Try.prog Try.f3 false true false false) := by
 refine returnsInHanded_of_change_sized (C := Try.checked) own started (by kernel_rfl) Try.func3
  (ChangeSpec.witness6 (enc := enc) (C := Try.checked) false ⟨#[], #[.slice none 0 0, .slice none 0 0], []⟩ 8 (by kernel_rfl) (by kernel_rfl) (by kernel_rfl) (by kernel_rfl)) ?_
 intro W base args ds gs before hval0 hW hcnd hsz0 _
 have hsz1 : (DataW.weightsEach Try.prog (Try.f3.params.toList ++ Rows.skipNormSpec.plain.varTypes Try.prog) (ds ++ gs)).all (· ≤ reachBytes) = true := hsz0
 have hval : ∀ (j : Nat) t v, Try.f3.params[j]? = some t → args[j]? = some v → Value.okWide Try.prog W .any base t v := hval0
 have hW' := hW
 obtain ⟨p, q, hA0, hV, rfl, hfz, hnd⟩ := hW
 have hA : DataW.TrodAll enc Try.prog W 0 (fun _ => true) true Try.f3.params.toList args.toList ds p := hA0
 rw [Try.params3] at hA hval hsz1
 obtain ⟨v0, vs0, d0, ds0, p0, q0, hargs, rfl, rfl, h0, r0⟩ := trodAll_cons hA
 obtain ⟨v1, vs1, d1, ds1, p1, q1, rfl, rfl, rfl, h1, r1⟩ := trodAll_cons r0
 obtain ⟨rfl, rfl, rfl⟩ := trodAll_nil r1
 obtain rfl : args = #[v0, v1] := by cases args; simp_all
 obtain ⟨rfl, rfl⟩ := trodVars_none hV
 have k0 := h0
 have lt0 : ∀ x ∈ p0, x.block < W.heap.size := by obtain ⟨m, hm⟩ := k0; exact DataW.trod_lt m _ _ _ hm
 obtain ⟨A0, c0, x0, rfl, hc0, hx0, w0, b0, m0⟩ := open_sliceZ (B := 8) Try.underlying22 (by kernel_rfl) (by kernel_rfl) (OpensZ.int Try.underlying3) (hval 0 22 v0 rfl rfl) h0 (weights_arg hsz1 (i := 0) rfl rfl)
 have k1 := h1
 have lt1 : ∀ x ∈ p1, x.block < W.heap.size := by obtain ⟨m, hm⟩ := k1; exact DataW.trod_lt m _ _ _ hm
 obtain ⟨A1, c1, x1, rfl, hc1, hx1, w1, b1, m1⟩ := open_sliceZ (B := 112) Try.underlying23 (by kernel_rfl) (by kernel_rfl) z37 (hval 1 23 v1 rfl rfl) h1 (weights_arg hsz1 (i := 1) rfl rfl)
 clear hA0 hval0 hsz0
 obtain ⟨kk, hk⟩ := (⟨(), ⟨⟨fun c hc => Pl.WC.fine (w1 c hc), Pl.len_of b1⟩, rfl⟩⟩ : ∃ _ : Unit, InC x1 ∧ true = true)
 refine (walkNorm  A0 c0 x0 A1 c1 x1 true W hx0 hc0 hx1 hc1 hk).mono fun e W' ⟨he, bel⟩ => ?_
 subst he
 exact ⟨_, rfl, _, _, _, [], _, [], hW', trodAll_mk1 (shut_bool Try.underlying4 _), (trodAll_cons_mk (Below.trod laidOut (by kernel_rfl) (of_decide_eq_true (by kernel_rfl)) k0 bel lt0) (trodAll_cons_mk (Below.trod laidOut (by kernel_rfl) (of_decide_eq_true (by kernel_rfl)) k1 bel lt1) trodAll_mk0)), rfl, bel.frame _, fun h => by cases h⟩
theorem over : Rows.skipNormRow.holds Try.pinned (OpenSpec.ofChange Rows.skipNormSpec) :=
 OpenClaim.holds_of_wide 3 Try.f3 rfl rfl rfl rfl rfl rfl rfl ⟨rfl, rfl, rfl, rfl, rfl⟩ rfl rfl rfl rfl rfl (by kernel_rfl) Try.func3 (by kernel_rfl)
  (of_decide_eq_true (by kernel_rfl)) (by unfold Func.isWrapper; first | (rw [if_pos (by decide +kernel)]; kernel_rfl) | (rw [if_neg (by decide +kernel)]; exact ⟨rfl, rfl⟩))
  (fun os started H enc _ => lifted os started H enc)
theorem proved : Rows.SkipNormSaid := over
#print axioms proved
end Go.Proofs.Ytlffkbcaphhldaa.skipNorm
namespace Go.Proofs.Ytlffkbcaphhldaa
theorem skipNorm_holds : Rows.SkipNormSaid := skipNorm.proved
end Go.Proofs.Ytlffkbcaphhldaa
