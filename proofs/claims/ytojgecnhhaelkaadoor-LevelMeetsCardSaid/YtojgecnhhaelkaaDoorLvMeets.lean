/- LevelMeets: whatever the numbers of copies, the two levels and the two sets of replicas: levels meet just if any so many of the one and any so many of the other have one in common. No condition beyond the row's own (level.names as the program's text lays it, tied). -/
import Derived.Test.YtojgecnhhaelkaaDoorRows
import Derived.Test.YtojgecnhhaelkaaDoorCards
import Derived.Test.YtojgecnhhaelkaaDoorTie
import Derived.Test.YtojgecnhhaelkaaDoorLvN
import Derived.Test.YtojgecnhhaelkaaDoorLvM1
import Derived.Test.YtojgecnhhaelkaaDoorLvM2
import Derived.Test.YtojgecnhhaelkaaDoorLvM3
import Derived.Test.YtojgecnhhaelkaaDoorLvM4
import Derived.Test.YtojgecnhhaelkaaDoorLvM5
import Derived.Test.YtojgecnhhaelkaaDoorLvM6
import Derived.Test.YtojgecnhhaelkaaDoorLvM7
import Derived.Test.YtojgecnhhaelkaaDoorLvM8
import Derived.Lib.SmallJoins
import Derived.ChangeOld
import Derived.Carry
namespace Go.Proofs.YtojgecnhhaelkaaDoor.LvMeets
open Go.ChangeShapes Go.WideShapes Go.ChangeAt Go.RowKit
open Go.Proofs.YtojgecnhhaelkaaDoor.LvN

theorem walk (r s c p q : Int) (w : World) (hN : NamesAt w) (hp : 0 ≤ p) (hq : 0 ≤ q) (hc0 : 0 ≤ c) (hr0 : 0 ≤ r) (hs0 : 0 ≤ s) :
    Calls Tryd.prog 4 #[.int .u64 r, .int .u64 s, .agg #[.int .u64 c, .int .u64 p, .int .u64 q]] w fun e w' => e = .returned (.bool true) ∧ Below w.heap.size w w' := by
  have hr : r % 3 = 0 ∨ r % 3 = 1 ∨ r % 3 = 2 := by omega
  have hs : s % 3 = 0 ∨ s % 3 = 1 ∨ s % 3 = 2 := by omega
  have hc : c % 8 = 0 ∨ c % 8 = 1 ∨ c % 8 = 2 ∨ c % 8 = 3 ∨ c % 8 = 4 ∨ c % 8 = 5 ∨ c % 8 = 6 ∨ c % 8 = 7 := by omega
  rcases hc with hc | hc | hc | hc | hc | hc | hc | hc <;> rcases hr with hr | hr | hr <;> rcases hs with hs | hs | hs
  · exact meets_1_1_1 r s c p q w hN hr hs hc hp hq hc0 hr0 hs0
  · exact meets_1_1_2 r s c p q w hN hr hs hc hp hq hc0 hr0 hs0
  · exact meets_1_1_3 r s c p q w hN hr hs hc hp hq hc0 hr0 hs0
  · exact meets_1_2_1 r s c p q w hN hr hs hc hp hq hc0 hr0 hs0
  · exact meets_1_2_2 r s c p q w hN hr hs hc hp hq hc0 hr0 hs0
  · exact meets_1_2_3 r s c p q w hN hr hs hc hp hq hc0 hr0 hs0
  · exact meets_1_3_1 r s c p q w hN hr hs hc hp hq hc0 hr0 hs0
  · exact meets_1_3_2 r s c p q w hN hr hs hc hp hq hc0 hr0 hs0
  · exact meets_1_3_3 r s c p q w hN hr hs hc hp hq hc0 hr0 hs0
  · exact meets_2_1_1 r s c p q w hN hr hs hc hp hq hc0 hr0 hs0
  · exact meets_2_1_2 r s c p q w hN hr hs hc hp hq hc0 hr0 hs0
  · exact meets_2_1_3 r s c p q w hN hr hs hc hp hq hc0 hr0 hs0
  · exact meets_2_2_1 r s c p q w hN hr hs hc hp hq hc0 hr0 hs0
  · exact meets_2_2_2 r s c p q w hN hr hs hc hp hq hc0 hr0 hs0
  · exact meets_2_2_3 r s c p q w hN hr hs hc hp hq hc0 hr0 hs0
  · exact meets_2_3_1 r s c p q w hN hr hs hc hp hq hc0 hr0 hs0
  · exact meets_2_3_2 r s c p q w hN hr hs hc hp hq hc0 hr0 hs0
  · exact meets_2_3_3 r s c p q w hN hr hs hc hp hq hc0 hr0 hs0
  · exact meets_3_1_1 r s c p q w hN hr hs hc hp hq hc0 hr0 hs0
  · exact meets_3_1_2 r s c p q w hN hr hs hc hp hq hc0 hr0 hs0
  · exact meets_3_1_3 r s c p q w hN hr hs hc hp hq hc0 hr0 hs0
  · exact meets_3_2_1 r s c p q w hN hr hs hc hp hq hc0 hr0 hs0
  · exact meets_3_2_2 r s c p q w hN hr hs hc hp hq hc0 hr0 hs0
  · exact meets_3_2_3 r s c p q w hN hr hs hc hp hq hc0 hr0 hs0
  · exact meets_3_3_1 r s c p q w hN hr hs hc hp hq hc0 hr0 hs0
  · exact meets_3_3_2 r s c p q w hN hr hs hc hp hq hc0 hr0 hs0
  · exact meets_3_3_3 r s c p q w hN hr hs hc hp hq hc0 hr0 hs0
  · exact meets_4_1_1 r s c p q w hN hr hs hc hp hq hc0 hr0 hs0
  · exact meets_4_1_2 r s c p q w hN hr hs hc hp hq hc0 hr0 hs0
  · exact meets_4_1_3 r s c p q w hN hr hs hc hp hq hc0 hr0 hs0
  · exact meets_4_2_1 r s c p q w hN hr hs hc hp hq hc0 hr0 hs0
  · exact meets_4_2_2 r s c p q w hN hr hs hc hp hq hc0 hr0 hs0
  · exact meets_4_2_3 r s c p q w hN hr hs hc hp hq hc0 hr0 hs0
  · exact meets_4_3_1 r s c p q w hN hr hs hc hp hq hc0 hr0 hs0
  · exact meets_4_3_2 r s c p q w hN hr hs hc hp hq hc0 hr0 hs0
  · exact meets_4_3_3 r s c p q w hN hr hs hc hp hq hc0 hr0 hs0
  · exact meets_5_1_1 r s c p q w hN hr hs hc hp hq hc0 hr0 hs0
  · exact meets_5_1_2 r s c p q w hN hr hs hc hp hq hc0 hr0 hs0
  · exact meets_5_1_3 r s c p q w hN hr hs hc hp hq hc0 hr0 hs0
  · exact meets_5_2_1 r s c p q w hN hr hs hc hp hq hc0 hr0 hs0
  · exact meets_5_2_2 r s c p q w hN hr hs hc hp hq hc0 hr0 hs0
  · exact meets_5_2_3 r s c p q w hN hr hs hc hp hq hc0 hr0 hs0
  · exact meets_5_3_1 r s c p q w hN hr hs hc hp hq hc0 hr0 hs0
  · exact meets_5_3_2 r s c p q w hN hr hs hc hp hq hc0 hr0 hs0
  · exact meets_5_3_3 r s c p q w hN hr hs hc hp hq hc0 hr0 hs0
  · exact meets_6_1_1 r s c p q w hN hr hs hc hp hq hc0 hr0 hs0
  · exact meets_6_1_2 r s c p q w hN hr hs hc hp hq hc0 hr0 hs0
  · exact meets_6_1_3 r s c p q w hN hr hs hc hp hq hc0 hr0 hs0
  · exact meets_6_2_1 r s c p q w hN hr hs hc hp hq hc0 hr0 hs0
  · exact meets_6_2_2 r s c p q w hN hr hs hc hp hq hc0 hr0 hs0
  · exact meets_6_2_3 r s c p q w hN hr hs hc hp hq hc0 hr0 hs0
  · exact meets_6_3_1 r s c p q w hN hr hs hc hp hq hc0 hr0 hs0
  · exact meets_6_3_2 r s c p q w hN hr hs hc hp hq hc0 hr0 hs0
  · exact meets_6_3_3 r s c p q w hN hr hs hc hp hq hc0 hr0 hs0
  · exact meets_7_1_1 r s c p q w hN hr hs hc hp hq hc0 hr0 hs0
  · exact meets_7_1_2 r s c p q w hN hr hs hc hp hq hc0 hr0 hs0
  · exact meets_7_1_3 r s c p q w hN hr hs hc hp hq hc0 hr0 hs0
  · exact meets_7_2_1 r s c p q w hN hr hs hc hp hq hc0 hr0 hs0
  · exact meets_7_2_2 r s c p q w hN hr hs hc hp hq hc0 hr0 hs0
  · exact meets_7_2_3 r s c p q w hN hr hs hc hp hq hc0 hr0 hs0
  · exact meets_7_3_1 r s c p q w hN hr hs hc hp hq hc0 hr0 hs0
  · exact meets_7_3_2 r s c p q w hN hr hs hc hp hq hc0 hr0 hs0
  · exact meets_7_3_3 r s c p q w hN hr hs hc hp hq hc0 hr0 hs0
  · exact meets_8_1_1 r s c p q w hN hr hs hc hp hq hc0 hr0 hs0
  · exact meets_8_1_2 r s c p q w hN hr hs hc hp hq hc0 hr0 hs0
  · exact meets_8_1_3 r s c p q w hN hr hs hc hp hq hc0 hr0 hs0
  · exact meets_8_2_1 r s c p q w hN hr hs hc hp hq hc0 hr0 hs0
  · exact meets_8_2_2 r s c p q w hN hr hs hc hp hq hc0 hr0 hs0
  · exact meets_8_2_3 r s c p q w hN hr hs hc hp hq hc0 hr0 hs0
  · exact meets_8_3_1 r s c p q w hN hr hs hc hp hq hc0 hr0 hs0
  · exact meets_8_3_2 r s c p q w hN hr hs hc hp hq hc0 hr0 hs0
  · exact meets_8_3_3 r s c p q w hN hr hs hc hp hq hc0 hr0 hs0

theorem laidOut : laidOutB Tryd.prog = true := by kernel_rfl
set_option maxRecDepth 100000 in
theorem lifted (os : Os) (started : os.Started) (H : Type) (enc : TypeId × Value → H) :
    ReturnsInHanded {} Tryd.checked os 4 .any (fun w args => (Rows.levelMeetsSpec.pre enc Tryd.prog Tryd.f4 [] false w args ∧ laidMetH Tryd.prog laid w) ∧ sizedMet enc Tryd.prog Tryd.f4 (OpenSpec.ofChange Rows.levelMeetsSpec) false w args)
      (Rows.levelMeetsSpec.post enc Tryd.prog Tryd.f4 false true false false) := by
  refine returnsInHanded_of_change_and (C := Tryd.checked) (X := fun w _ => laidMetH Tryd.prog laid w) (fun _ _ _ hh h => h.of_heap hh) own started (by kernel_rfl) Tryd.func4
    (ChangeSpec.witness_shaped (enc := enc) (C := Tryd.checked) (os := os) (X := fun w _ => laidMetH Tryd.prog laid w) false (World.doorLaid Tryd.prog 400 os) #[.int .u64 0, .int .u64 0, .agg #[.int .u64 0, .int .u64 0, .int .u64 0]] 8 rfl (World.shaped_of_RefB (by kernel_rfl) (by kernel_rfl)) (by kernel_rfl) (by kernel_rfl) (by kernel_rfl) (door_met os _)) ?_
  intro W base args ds gs before hval0 hW _ _ hL _
  have hval : ∀ (j : Nat) t v, Tryd.f4.params[j]? = some t → args[j]? = some v → Value.okWide Tryd.prog W .any base t v := hval0
  have hW' := hW
  obtain ⟨p, q, hA0, hV, rfl, hfz, hnd⟩ := hW
  have hA : DataW.TrodAll enc Tryd.prog W 0 (fun _ => true) true Tryd.f4.params.toList args.toList ds p := hA0
  rw [Tryd.params4] at hA hval
  obtain ⟨v0, v1, v2, d0, d1, d2, p0, p1, p2, rfl, rfl, rfl, h0, h1, h2⟩ := trodAll_three hA
  obtain ⟨rfl, rfl⟩ := trodVars_none hV
  obtain ⟨a0, rfl, rfl, rfl, w0⟩ := open_int Tryd.underlying27 (hval 0 27 v0 rfl rfl) h0
  obtain ⟨a1, rfl, rfl, rfl, w1⟩ := open_int Tryd.underlying27 (hval 1 27 v1 rfl rfl) h1
  have k2 := h2
  have lt2 : ∀ x ∈ p2, x.block < W.heap.size := by obtain ⟨m, hm⟩ := k2; exact DataW.trod_lt m _ _ _ hm
  obtain ⟨x0, x1, x2, y0, y1, y2, m, rfl, hd, hpp, g0, g1, g2⟩ := Go.Joins.open_agg3 Tryd.underlying29 (by kernel_rfl) (by kernel_rfl) (hval 2 29 v2 rfl rfl) h2
  obtain ⟨c, e0, _, u0⟩ := DataW.trod_int (k := .u64) Tryd.underlying27 g0
  obtain ⟨pp, e1, _, u1⟩ := DataW.trod_int (k := .u64) Tryd.underlying27 g1
  obtain ⟨qq, e2, _, u2⟩ := DataW.trod_int (k := .u64) Tryd.underlying27 g2
  obtain rfl : x0 = .int .u64 c := by simpa using e0
  obtain rfl : x1 = .int .u64 pp := by simpa using e1
  obtain rfl : x2 = .int .u64 qq := by simpa using e2
  have b0 := bounds_u64 w0; have b1 := bounds_u64 w1; have b2 := bounds_u64 u0; have b3 := bounds_u64 u1; have b4 := bounds_u64 u2
  clear hA0 hval0
  refine (walk a0 a1 c pp qq W (of_laid hL) (by omega) (by omega) (by omega) (by omega) (by omega)).mono fun e W' ⟨he, bel⟩ => ?_
  subst he
  exact ⟨_, rfl, _, _, _, [], _, [], hW', trodAll_mk1 (shut_bool Tryd.underlying4 _), (trodAll_cons_mk (shut_int Tryd.underlying27 w0) (trodAll_cons_mk (shut_int Tryd.underlying27 w1) (trodAll_cons_mk (Below.trod laidOut (by kernel_rfl) (of_decide_eq_true (by kernel_rfl)) k2 bel lt2) trodAll_mk0))), rfl, bel.frame _, fun h => by cases h⟩

theorem row_holds : Rows.LevelMeetsSaid :=
  OpenClaim.holds_of_wide 4 Tryd.f4 rfl rfl rfl rfl rfl rfl rfl ⟨rfl, rfl, rfl, rfl, rfl⟩ rfl rfl rfl rfl rfl (by kernel_rfl) Tryd.func4 (by kernel_rfl)
    (of_decide_eq_true (by kernel_rfl)) (by unfold Func.isWrapper; first | (rw [if_pos (by decide +kernel)]; kernel_rfl) | (rw [if_neg (by decide +kernel)]; exact ⟨rfl, rfl⟩))
    (fun os started H enc _ => lifted os started H enc)

theorem card_holds : Rows.LevelMeetsCardSaid :=
  Claim7.holds_tied_plain_at .later [] [.widerDeep] true (true, "8f9d02c5014dd031f66e0c690530f054f9c26e0b053035af7d44b54231309309") false
    row_holds (fun _ h => by cases h) (by kernel_rfl) (fun _ h => by cases h) levelMeets_row_tie rfl ⟨rfl, rfl⟩ (by kernel_rfl) rfl
    (fun f fn hf hfn => by
      obtain rfl : f = 4 := Option.some.inj ((show Tryd.prog.funcNamed "skerry/skerrylaw16.LevelMeets" = some 4 by kernel_rfl).symm.trans hf) |>.symm
      obtain rfl : fn = Tryd.f4 := (Option.some.inj (Tryd.func4.symm.trans hfn)).symm
      exact ⟨by kernel_rfl, fun j t ht => by
        rw [Tryd.params4] at ht
        have hm : t ∈ [27, 27, 29] := by simpa using Array.mem_of_getElem? ht
        have hall : ([27, 27, 29].all fun u => !Tryd.prog.wantsStandIn u) = true := by kernel_rfl
        exact (show Tryd.prog.wantsStandIn t = false by simpa using List.all_eq_true.1 hall t hm)⟩)
    (by kernel_rfl)
#print axioms card_holds
end Go.Proofs.YtojgecnhhaelkaaDoor.LvMeets
