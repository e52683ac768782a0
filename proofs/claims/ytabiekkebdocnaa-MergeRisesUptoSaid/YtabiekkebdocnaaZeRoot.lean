/- MergeRises: it answers true, whatever the input of the bound's bulk, and its arguments read as they did. -/
import Derived.Test.YtabiekkebdocnaaRows
import Derived.Test.YtabiekkebdocnaaZeWRises
import Derived.Test.YtabiekkebdocnaaZeJ19
import Derived.WalkKit
import Derived.ProofKit
import Derived.OpenShut
import Derived.ShutString
import Derived.ChangeOld
import Derived.Below
import Derived.SizedLaws
import Derived.Handed
import Derived.JoinedCond
import Derived.Deep.CondSized
namespace Go.Proofs.Ytabiekkebdocnaa.mergeRises
open Go.ChangeShapes Go.WideShapes Go.ChangeAt Go.RowKit
open Go.ChangeMaps (open_string shut_string)
open Go.Proofs.Ytabiekkebdocnaa.Opn Go.Proofs.Ytabiekkebdocnaa.Q
set_option linter.unusedVariables false
theorem own : ownKnob Try.prog.godebug = none := by kernel_rfl
theorem laidOut : laidOutB Try.prog = true := by kernel_rfl
set_option maxRecDepth 100000 in
theorem lifted (os : Os) (started : os.Started) (H : Type) (enc : TypeId × Value → H) (F : Stop.Interp) :
  ReturnsInHanded {} Try.checked os 4 .any ((Rows.OpenSpec.upto Rows.mergeRisesSpec).pre6 enc Try.prog Try.f4 Rows.mergeRisesUptoRow.domain false) (((Rows.OpenSpec.upto Rows.mergeRisesSpec).at F).post enc Try.prog Try.f4 false true false false) := by
 refine returnsInHanded_of_cond_sized (C := Try.checked) (s := Rows.OpenSpec.upto Rows.mergeRisesSpec) (k := Rows.uptoSmall) rfl own started (by kernel_rfl) Try.func4
  (OpenSpec.witness (enc := enc) (C := Try.checked) (s := Rows.OpenSpec.upto Rows.mergeRisesSpec) (k := Rows.uptoSmall) rfl false ⟨#[], #[.slice none 0 0], []⟩ 8 (by kernel_rfl) (by kernel_rfl) (by kernel_rfl) (by kernel_rfl)
   (x := ([.nil], [], [])) (by kernel_rfl) rfl (by kernel_rfl)) ?_
 intro W base args ds gs before hval0 hW hcnd hupto hsz0 _
 have hsz1 : (DataW.weightsEach Try.prog (Try.f4.params.toList ++ Rows.mergeRisesSpec.plain.varTypes Try.prog) (ds ++ gs)).all (· ≤ reachBytes) = true := hsz0
 have hval : ∀ (j : Nat) t v, Try.f4.params[j]? = some t → args[j]? = some v → Value.okWide Try.prog W .any base t v := hval0
 have hW' := hW
 obtain ⟨p, q, hA0, hV, rfl, hfz, hnd⟩ := hW
 have hA : DataW.TrodAll enc Try.prog W 0 (fun _ => true) true Try.f4.params.toList args.toList ds p := hA0
 rw [Try.params4] at hA hval hsz1
 obtain ⟨v0, vs0, d0, ds0, p0, q0, hargs, rfl, rfl, h0, r0⟩ := trodAll_cons hA
 obtain ⟨rfl, rfl, rfl⟩ := trodAll_nil r0
 obtain rfl : args = #[v0] := by cases args; simp_all
 obtain ⟨rfl, rfl⟩ := trodVars_none hV
 have hb : Rows.uptoBulk d0 ≤ 1048576 := by have h := bulk_bound hupto; simp only [List.append_nil, Rows.uptoBulkAll] at h; omega
 have k0 := h0
 have lt0 : ∀ x ∈ p0, x.block < W.heap.size := by obtain ⟨m, hm⟩ := k0; exact DataW.trod_lt m _ _ _ hm
 obtain ⟨A0, c0, x0, rfl, hc0, hx0, w0, b0, m0, u0⟩ := open_sliceM (B := 24) Try.underlying22 (by kernel_rfl) (by kernel_rfl) (OpensM.slice (B := 112) Try.underlying25 (by kernel_rfl) (by kernel_rfl) (OpensM.of z39)) (hval 0 22 v0 rfl rfl) h0 (weights_arg hsz1 (i := 0) rfl rfl)
 clear hA0 hval0 hsz0
 obtain ⟨kk, hk⟩ := (⟨(), ⟨fun l hl => (w0 l hl).1, by rw [sum_lists] at u0; omega⟩, rfl⟩ : ∃ _ : Unit, Ins x0 ∧ true = true)
 refine (walkRises  A0 c0 x0 true W hx0 hc0 hk).mono fun e W' ⟨he, bel⟩ => ?_
 subst he
 exact ⟨_, rfl, _, _, _, [], _, [], hW', trodAll_mk1 (shut_bool Try.underlying4 _), (trodAll_cons_mk (Below.trod laidOut (by kernel_rfl) (of_decide_eq_true (by kernel_rfl)) k0 bel lt0) trodAll_mk0), rfl, bel.frame _, fun h => by cases h⟩
theorem over : Rows.MergeRisesUptoSaid :=
 OpenClaim.holds_of_cond 4 Try.f4 rfl rfl rfl rfl rfl rfl rfl ⟨rfl, rfl, rfl, rfl, rfl⟩ rfl rfl rfl rfl rfl (by kernel_rfl) Try.func4 (by kernel_rfl)
  (of_decide_eq_true (by kernel_rfl)) (by unfold Func.isWrapper; first | (rw [if_pos (by decide +kernel)]; kernel_rfl) | (rw [if_neg (by decide +kernel)]; exact ⟨rfl, rfl⟩))
  (fun os started H enc _ F => lifted os started H enc F)
theorem proved : Rows.MergeRisesUptoSaid := over
#print axioms proved
end Go.Proofs.Ytabiekkebdocnaa.mergeRises
namespace Go.Proofs.Ytabiekkebdocnaa
theorem mergeRises_holds : Rows.MergeRisesUptoSaid := mergeRises.proved
end Go.Proofs.Ytabiekkebdocnaa
