/- MergeParts: it answers true, whatever the input, and its arguments read as they did. No condition beyond the row's own. -/
import Derived.Test.YtabiekkebdocnaaRows
import Derived.Test.YtabiekkebdocnaaZbWParts
import Derived.Test.YtabiekkebdocnaaZbOZ
import Derived.WalkKit
import Derived.ProofKit
import Derived.OpenShut
import Derived.ShutString
import Derived.ChangeOld
import Derived.Below
import Derived.SizedLaws
import Derived.Handed
namespace Go.Proofs.Ytabiekkebdocnaa.mergeParts
open Go.ChangeShapes Go.WideShapes Go.ChangeAt Go.RowKit
open Go.ChangeMaps (open_string shut_string)
open Go.Proofs.Ytabiekkebdocnaa.Opn Go.Proofs.Ytabiekkebdocnaa.Q
set_option linter.unusedVariables false
theorem own : ownKnob Try.prog.godebug = none := by kernel_rfl
theorem laidOut : laidOutB Try.prog = true := by kernel_rfl
set_option maxRecDepth 100000 in
theorem lifted (os : Os) (started : os.Started) (H : Type) (enc : TypeId × Value → H) :
  ReturnsInHanded {} Try.checked os 6 .any (Rows.mergePartsSpec.pre6 enc Try.prog Try.f6 Rows.mergePartsRow.domain false) (Rows.mergePartsSpec.post enc Try.prog Try.f6 false true false false) := by
 refine returnsInHanded_of_change_sized (C := Try.checked) own started (by kernel_rfl) Try.func6
  (ChangeSpec.witness6 (enc := enc) (C := Try.checked) false ⟨#[], #[.slice none 0 0], []⟩ 8 (by kernel_rfl) (by kernel_rfl) (by kernel_rfl) (by kernel_rfl)) ?_
 intro W base args ds gs before hval0 hW hcnd hsz0 _
 have hsz1 : (DataW.weightsEach Try.prog (Try.f6.params.toList ++ Rows.mergePartsSpec.plain.varTypes Try.prog) (ds ++ gs)).all (· ≤ reachBytes) = true := hsz0
 have hval : ∀ (j : Nat) t v, Try.f6.params[j]? = some t → args[j]? = some v → Value.okWide Try.prog W .any base t v := hval0
 have hW' := hW
 obtain ⟨p, q, hA0, hV, rfl, hfz, hnd⟩ := hW
 have hA : DataW.TrodAll enc Try.prog W 0 (fun _ => true) true Try.f6.params.toList args.toList ds p := hA0
 rw [Try.params6] at hA hval hsz1
 obtain ⟨v0, vs0, d0, ds0, p0, q0, hargs, rfl, rfl, h0, r0⟩ := trodAll_cons hA
 obtain ⟨rfl, rfl, rfl⟩ := trodAll_nil r0
 obtain rfl : args = #[v0] := by cases args; simp_all
 obtain ⟨rfl, rfl⟩ := trodVars_none hV
 have k0 := h0
 have lt0 : ∀ x ∈ p0, x.block < W.heap.size := by obtain ⟨m, hm⟩ := k0; exact DataW.trod_lt m _ _ _ hm
 obtain ⟨A0, c0, x0, rfl, hc0, hx0, w0, b0, m0⟩ := open_sliceZ (B := 112) Try.underlying25 (by kernel_rfl) (by kernel_rfl) z39 (hval 0 25 v0 rfl rfl) h0 (weights_arg hsz1 (i := 0) rfl rfl)
 clear hA0 hval0 hsz0
 obtain ⟨kk, hk⟩ := (⟨(), ⟨⟨w0, Pl.len_of b0⟩, rfl⟩⟩ : ∃ _ : Unit, In x0 ∧ true = true)
 refine (walkParts  A0 c0 x0 true W hx0 hc0 hk).mono fun e W' ⟨he, bel⟩ => ?_
 subst he
 exact ⟨_, rfl, _, _, _, [], _, [], hW', trodAll_mk1 (shut_bool Try.underlying4 _), (trodAll_cons_mk (Below.trod laidOut (by kernel_rfl) (of_decide_eq_true (by kernel_rfl)) k0 bel lt0) trodAll_mk0), rfl, bel.frame _, fun h => by cases h⟩
theorem over : Rows.mergePartsRow.holds Try.pinned (OpenSpec.ofChange Rows.mergePartsSpec) :=
 OpenClaim.holds_of_wide 6 Try.f6 rfl rfl rfl rfl rfl rfl rfl ⟨rfl, rfl, rfl, rfl, rfl⟩ rfl rfl rfl rfl rfl (by kernel_rfl) Try.func6 (by kernel_rfl)
  (of_decide_eq_true (by kernel_rfl)) (by unfold Func.isWrapper; first | (rw [if_pos (by decide +kernel)]; kernel_rfl) | (rw [if_neg (by decide +kernel)]; exact ⟨rfl, rfl⟩))
  (fun os started H enc _ => lifted os started H enc)
theorem proved : Rows.MergePartsSaid := over
#print axioms proved
end Go.Proofs.Ytabiekkebdocnaa.mergeParts
namespace Go.Proofs.Ytabiekkebdocnaa
theorem mergeParts_holds : Rows.MergePartsSaid := mergeParts.proved
end Go.Proofs.Ytabiekkebdocnaa
