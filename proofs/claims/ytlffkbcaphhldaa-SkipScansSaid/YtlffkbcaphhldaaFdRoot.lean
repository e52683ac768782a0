/- SkipScans: it answers true, whatever the input, and its arguments read as they did. No condition beyond the row's own. -/
import Derived.Test.YtlffkbcaphhldaaRows
import Derived.Test.YtlffkbcaphhldaaFdWScans
import Derived.Test.YtlffkbcaphhldaaFdJ22
import Derived.WalkKit
import Derived.ProofKit
import Derived.OpenShut
import Derived.ShutString
import Derived.ChangeOld
import Derived.Below
import Derived.SizedLaws
import Derived.Handed
namespace Go.Proofs.Ytlffkbcaphhldaa.skipScans
open Go.ChangeShapes Go.WideShapes Go.ChangeAt Go.RowKit
open Go.ChangeMaps (open_string shut_string)
open Go.Proofs.Ytlffkbcaphhldaa.Opn Go.Proofs.Ytlffkbcaphhldaa.Q
set_option linter.unusedVariables false
theorem own : ownKnob Try.prog.godebug = none := by kernel_rfl
theorem laidOut : laidOutB Try.prog = true := by kernel_rfl
set_option maxRecDepth 100000 in
theorem lifted (os : Os) (started : os.Started) (H : Type) (enc : TypeId × Value → H) :
  ReturnsInHanded {} Try.checked os 5 .any (Rows.skipScansSpec.pre6 enc Try.prog Try.f5 Rows.skipScansRow.domain false) (Rows.skipScansSpec.post enc Try.prog Try.f5 false true false false) := by
 refine returnsInHanded_of_change_sized (C := Try.checked) own started (by kernel_rfl) Try.func5
  (ChangeSpec.witness6 (enc := enc) (C := Try.checked) false ⟨#[], #[.slice none 0 0, .agg #[.string ByteArray.empty, .string ByteArray.empty, .int .i64 0, .string ByteArray.empty, .string ByteArray.empty, .string ByteArray.empty, .int .i64 0, .string ByteArray.empty, .int .i64 0], .agg #[.string ByteArray.empty, .string ByteArray.empty, .int .i64 0, .string ByteArray.empty]], []⟩ 8 (by kernel_rfl) (by kernel_rfl) (by kernel_rfl) (by kernel_rfl)) ?_
 intro W base args ds gs before hval0 hW hcnd hsz0 _
 have hsz1 : (DataW.weightsEach Try.prog (Try.f5.params.toList ++ Rows.skipScansSpec.plain.varTypes Try.prog) (ds ++ gs)).all (· ≤ reachBytes) = true := hsz0
 have hval : ∀ (j : Nat) t v, Try.f5.params[j]? = some t → args[j]? = some v → Value.okWide Try.prog W .any base t v := hval0
 have hW' := hW
 obtain ⟨p, q, hA0, hV, rfl, hfz, hnd⟩ := hW
 have hA : DataW.TrodAll enc Try.prog W 0 (fun _ => true) true Try.f5.params.toList args.toList ds p := hA0
 rw [Try.params5] at hA hval hsz1
 obtain ⟨v0, vs0, d0, ds0, p0, q0, hargs, rfl, rfl, h0, r0⟩ := trodAll_cons hA
 obtain ⟨v1, vs1, d1, ds1, p1, q1, rfl, rfl, rfl, h1, r1⟩ := trodAll_cons r0
 obtain ⟨v2, vs2, d2, ds2, p2, q2, rfl, rfl, rfl, h2, r2⟩ := trodAll_cons r1
 obtain ⟨rfl, rfl, rfl⟩ := trodAll_nil r2
 obtain rfl : args = #[v0, v1, v2] := by cases args; simp_all
 obtain ⟨rfl, rfl⟩ := trodVars_none hV
 have k0 := h0
 have lt0 : ∀ x ∈ p0, x.block < W.heap.size := by obtain ⟨m, hm⟩ := k0; exact DataW.trod_lt m _ _ _ hm
 obtain ⟨A0, c0, x0, rfl, hc0, hx0, w0, b0, m0⟩ := open_sliceZ (B := 112) Try.underlying23 (by kernel_rfl) (by kernel_rfl) z37 (hval 0 23 v0 rfl rfl) h0 (weights_arg hsz1 (i := 0) rfl rfl)
 have k1 := h1
 have lt1 : ∀ x ∈ p1, x.block < W.heap.size := by obtain ⟨m, hm⟩ := k1; exact DataW.trod_lt m _ _ _ hm
 obtain ⟨x1, cs1, rfl, hx1, w1⟩ := open_structZ z49 Try.underlying49 (hval 1 49 v1 rfl rfl) h1 (weights_arg hsz1 (i := 1) rfl rfl)
 obtain rfl := k49_open hx1
 have k2 := h2
 have lt2 : ∀ x ∈ p2, x.block < W.heap.size := by obtain ⟨m, hm⟩ := k2; exact DataW.trod_lt m _ _ _ hm
 obtain ⟨x2, cs2, rfl, hx2, w2⟩ := open_structZ z31 Try.underlying31 (hval 2 31 v2 rfl rfl) h2 (weights_arg hsz1 (i := 2) rfl rfl)
 obtain rfl := k31_open hx2
 clear hA0 hval0 hsz0
 obtain ⟨kk, hk⟩ := (⟨(), ⟨⟨fun c hc => Pl.WC.fine (w0 c hc), Pl.len_of b0⟩, rfl⟩⟩ : ∃ _ : Unit, InC x0 ∧ true = true)
 refine (walkScans  A0 c0 x0 x1.f0.f0 x1.f0.f1 x1.f0.f2 x1.f0.f3 x1.f1.f0 x1.f1.f1 x1.f1.f2 x1.f1.f3 x1.f2 x2.f0 x2.f1 x2.f2 x2.f3 true W hx0 hc0 hk).mono fun e W' ⟨he, bel⟩ => ?_
 subst he
 exact ⟨_, rfl, _, _, _, [], _, [], hW', trodAll_mk1 (shut_bool Try.underlying4 _), (trodAll_cons_mk (Below.trod laidOut (by kernel_rfl) (of_decide_eq_true (by kernel_rfl)) k0 bel lt0) (trodAll_cons_mk (Below.trod laidOut (by kernel_rfl) (of_decide_eq_true (by kernel_rfl)) k1 bel lt1) (trodAll_cons_mk (Below.trod laidOut (by kernel_rfl) (of_decide_eq_true (by kernel_rfl)) k2 bel lt2) trodAll_mk0))), rfl, bel.frame _, fun h => by cases h⟩
theorem over : Rows.skipScansRow.holds Try.pinned (OpenSpec.ofChange Rows.skipScansSpec) :=
 OpenClaim.holds_of_wide 5 Try.f5 rfl rfl rfl rfl rfl rfl rfl ⟨rfl, rfl, rfl, rfl, rfl⟩ rfl rfl rfl rfl rfl (by kernel_rfl) Try.func5 (by kernel_rfl)
  (of_decide_eq_true (by kernel_rfl)) (by unfold Func.isWrapper; first | (rw [if_pos (by decide +kernel)]; kernel_rfl) | (rw [if_neg (by decide +kernel)]; exact ⟨rfl, rfl⟩))
  (fun os started H enc _ => lifted os started H enc)
theorem proved : Rows.SkipScansSaid := over
#print axioms proved
end Go.Proofs.Ytlffkbcaphhldaa.skipScans
namespace Go.Proofs.Ytlffkbcaphhldaa
theorem skipScans_holds : Rows.SkipScansSaid := skipScans.proved
end Go.Proofs.Ytlffkbcaphhldaa
