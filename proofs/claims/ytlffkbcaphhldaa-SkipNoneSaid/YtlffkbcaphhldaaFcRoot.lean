/- SkipNone: it answers true, whatever the input, and its arguments read as they did. No condition beyond the row's own. -/
import Derived.Test.YtlffkbcaphhldaaRows
import Derived.Test.YtlffkbcaphhldaaFcWNone
import Derived.Test.YtlffkbcaphhldaaFcJ25
import Derived.Test.YtlffkbcaphhldaaFcJ17
import Derived.WalkKit
import Derived.ProofKit
import Derived.OpenShut
import Derived.ShutString
import Derived.ChangeOld
import Derived.Below
import Derived.SizedLaws
import Derived.Handed
namespace Go.Proofs.Ytlffkbcaphhldaa.skipNone
open Go.ChangeShapes Go.WideShapes Go.ChangeAt Go.RowKit
open Go.ChangeMaps (open_string shut_string)
open Go.Proofs.Ytlffkbcaphhldaa.Opn Go.Proofs.Ytlffkbcaphhldaa.Q
set_option linter.unusedVariables false
theorem own : ownKnob Try.prog.godebug = none := by kernel_rfl
theorem laidOut : laidOutB Try.prog = true := by kernel_rfl
set_option maxRecDepth 100000 in
theorem lifted (os : Os) (started : os.Started) (H : Type) (enc : TypeId × Value → H) :
  ReturnsInHanded {} Try.checked os 7 .any (Rows.skipNoneSpec.pre6 enc Try.prog Try.f7 Rows.skipNoneRow.domain false) (Rows.skipNoneSpec.post enc Try.prog Try.f7 false true false false) := by
 refine returnsInHanded_of_change_sized (C := Try.checked) own started (by kernel_rfl) Try.func7
  (ChangeSpec.witness6 (enc := enc) (C := Try.checked) false ⟨#[], #[.agg #[.string ByteArray.empty, .string ByteArray.empty, .int .i64 0, .string ByteArray.empty, .int .i64 0, .bool false, .int .i64 0, .int .i64 0, .int .i64 0, .string ByteArray.empty]], []⟩ 8 (by kernel_rfl) (by kernel_rfl) (by kernel_rfl) (by kernel_rfl)) ?_
 intro W base args ds gs before hval0 hW hcnd hsz0 _
 have hsz1 : (DataW.weightsEach Try.prog (Try.f7.params.toList ++ Rows.skipNoneSpec.plain.varTypes Try.prog) (ds ++ gs)).all (· ≤ reachBytes) = true := hsz0
 have hval : ∀ (j : Nat) t v, Try.f7.params[j]? = some t → args[j]? = some v → Value.okWide Try.prog W .any base t v := hval0
 have hW' := hW
 obtain ⟨p, q, hA0, hV, rfl, hfz, hnd⟩ := hW
 have hA : DataW.TrodAll enc Try.prog W 0 (fun _ => true) true Try.f7.params.toList args.toList ds p := hA0
 rw [Try.params7] at hA hval hsz1
 obtain ⟨v0, vs0, d0, ds0, p0, q0, hargs, rfl, rfl, h0, r0⟩ := trodAll_cons hA
 obtain ⟨rfl, rfl, rfl⟩ := trodAll_nil r0
 obtain rfl : args = #[v0] := by cases args; simp_all
 obtain ⟨rfl, rfl⟩ := trodVars_none hV
 have k0 := h0
 have lt0 : ∀ x ∈ p0, x.block < W.heap.size := by obtain ⟨m, hm⟩ := k0; exact DataW.trod_lt m _ _ _ hm
 obtain ⟨x0, cs0, rfl, hx0, w0⟩ := open_structZ z37 Try.underlying37 (hval 0 37 v0 rfl rfl) h0 (weights_arg hsz1 (i := 0) rfl rfl)
 obtain rfl := k37_open hx0
 clear hA0 hval0 hsz0
 obtain ⟨kk, hk⟩ := (⟨(), rfl⟩ : ∃ _ : Unit, true = true)
 refine (walkNone  x0.f0.f0 x0.f0.f1 x0.f0.f2 x0.f0.f3 x0.f1.f0 x0.f1.f1 x0.f1.f2 x0.f1.f3.f0 x0.f1.f3.f1 x0.f1.f3.f2 true W  hk).mono fun e W' ⟨he, bel⟩ => ?_
 subst he
 exact ⟨_, rfl, _, _, _, [], _, [], hW', trodAll_mk1 (shut_bool Try.underlying4 _), (trodAll_cons_mk (Below.trod laidOut (by kernel_rfl) (of_decide_eq_true (by kernel_rfl)) k0 bel lt0) trodAll_mk0), rfl, bel.frame _, fun h => by cases h⟩
theorem over : Rows.skipNoneRow.holds Try.pinned (OpenSpec.ofChange Rows.skipNoneSpec) :=
 OpenClaim.holds_of_wide 7 Try.f7 rfl rfl rfl rfl rfl rfl rfl ⟨rfl, rfl, rfl, rfl, rfl⟩ rfl rfl rfl rfl rfl (by kernel_rfl) Try.func7 (by kernel_rfl)
  (of_decide_eq_true (by kernel_rfl)) (by unfold Func.isWrapper; first | (rw [if_pos (by decide +kernel)]; kernel_rfl) | (rw [if_neg (by decide +kernel)]; exact ⟨rfl, rfl⟩))
  (fun os started H enc _ => lifted os started H enc)
theorem proved : Rows.SkipNoneSaid := over
#print axioms proved
end Go.Proofs.Ytlffkbcaphhldaa.skipNone
namespace Go.Proofs.Ytlffkbcaphhldaa
theorem skipNone_holds : Rows.SkipNoneSaid := skipNone.proved
end Go.Proofs.Ytlffkbcaphhldaa
