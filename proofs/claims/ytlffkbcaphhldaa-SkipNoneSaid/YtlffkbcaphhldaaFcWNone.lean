/- Lemmas for this claim's walk: no condition of their own. -/
import Derived.Test.YtlffkbcaphhldaaFcQx6
import Derived.Test.YtlffkbcaphhldaaFcSkLv
import Derived.Test.YtlffkbcaphhldaaFcSkNone
import Derived.Deep.MidRow
import Derived.WalkLawsBesides
import Derived.WalkSpells
import Derived.Lib.Hide
import Derived.Deep.DeepFit
import Derived.Outline
namespace Go.Proofs.Ytlffkbcaphhldaa.Q
open Go.RowKit Go.Proofs.YtlffkbcaphhldaaW.PrintWords Go.Proofs.YtlffkbcaphhldaaW.PrintLast Go.Proofs.YtlffkbcaphhldaaW.PrintMore
attribute [local go_sem] max2_int min2_int max_two min_two max_three min_three max_four min_four
set_option linter.unusedVariables false
set_option linter.unusedSimpArgs false
open Go.Lib Go.Proofs.Ytlffkbcaphhldaa.Sk Go.Proofs.Ytlffkbcaphhldaa.Pl Go.Proofs.Ytlffkbcaphhldaa.Ord Go.Proofs.Ytlffkbcaphhldaa.Nm Go.Proofs.Ytlffkbcaphhldaa.Rh
attribute [local go_sem] Oper.semAt_some
theorem idx68a (a b : Value) (w : World) : (Instr.index 68 (.agg #[a, b]) (.int .i64 0)).run Try.prog w = .ok a w := by kernel_rfl
theorem idx68b (a b : Value) (w : World) : (Instr.index 68 (.agg #[a, b]) (.int .i64 1)).run Try.prog w = .ok b w := by kernel_rfl
attribute [local go_sem high] idx68a idx68b
structure NI (w : World) (x : Cl) (W : World) : Prop where
 bx : W.heap[w.heap.size]? = some (.cells (ca x) 37 (0, 0))
 nn : Non W (some ⟨w.heap.size + 1, 0, none⟩)
 bel : Below w.heap.size w W
theorem NI.below {w : World} {x : Cl} {A B : World} (h : NI w x A) (hb : Below A.heap.size A B) : NI w x B :=
 ⟨blk_below h.bx hb, h.nn.below hb, below_step h.bel hb⟩
theorem NI.drew {w : World} {x : Cl} {A : World} (h : NI w x A) : NI w x A.drew := h.below (below_drew (Below.refl _ _))
theorem NI.non {w : World} {x : Cl} {A : World} (h : NI w x A) {p : Option Addr} (hp : p = none ∨ p = some ⟨w.heap.size + 1, 0, none⟩) : Non A p := by
 rcases hp with rfl | rfl
 ·
  exact .inl rfl
 ·
  exact h.nn
set_option maxHeartbeats 4000000 in
set_option maxRecDepth 100000 in
theorem walkNone (a0 a1 : ByteArray) (a2 : Int) (a3 : ByteArray) (a4 : Int) (a5 : Bool) (a6 a7 a8 : Int) (a9 : ByteArray) (b : Bool) (w : World) (h : b = true) :
  Calls Try.prog 7 #[.agg #[.string a0, .string a1, .int .i64 a2, .string a3, .int .i64 a4, .bool a5, .int .i64 a6, .int .i64 a7, .int .i64 a8, .string a9]] w fun e w' => e = .returned (.bool b) ∧ Below w.heap.size w w' := by
 subst h
 obtain ⟨x, hx⟩ : ∃ x : Cl, x = ⟨⟨a0, a1, a2, a3⟩, ⟨a4, a5, a6, ⟨a7, a8, a9⟩⟩⟩ := ⟨_, rfl⟩
 obtain rfl : a0 = x.f0.f0 := by rw [hx]
 obtain rfl : a1 = x.f0.f1 := by rw [hx]
 obtain rfl : a2 = x.f0.f2 := by rw [hx]
 obtain rfl : a3 = x.f0.f3 := by rw [hx]
 obtain rfl : a4 = x.f1.f0 := by rw [hx]
 obtain rfl : a5 = x.f1.f1 := by rw [hx]
 obtain rfl : a6 = x.f1.f2 := by rw [hx]
 obtain rfl : a7 = x.f1.f3.f0 := by rw [hx]
 obtain rfl : a8 = x.f1.f3.f1 := by rw [hx]
 obtain rfl : a9 = x.f1.f3.f2 := by rw [hx]
 clear hx
 have HLV := Lib.hid lives_calls
 have HN0 := Lib.hid (show NI w x ((w.alloc (.cells (ca x) 37)).alloc (.cells #[.pointer none, .slice none 0 0, .int .i64 0] 67)) from
  ⟨blk_alloc (heap_new_ w _) _, .inr ⟨w.heap.size + 1, _, _, rfl, by have h := heap_new_ (w.alloc (.cells (ca x) 37)) (.cells #[.pointer none, .slice none 0 0, .int .i64 0] 67); simp only [World.size_alloc] at h; exact h⟩, below_alloc (below_alloc (Below.refl _ _) _) _⟩)
 go_enter Try.func7, Try.ntmps7
 go_wp2_with fail
 go_loopg [5, 6, 7, 9] 2 (fun gj v5 v6 v7 v9 wr => ∃ i : Nat, v9 = .int .i64 i ∧ Aside0 (i ≤ 2 ∧ 2 - i ≤ gj) ∧ Aside0 (NI w x wr))
 case atStart => exact ⟨0, rfl, ⟨Nat.zero_le _, by omega⟩, ⟨HN0.out⟩⟩
 case round =>
  clear HN0
  obtain ⟨i, rfl, HI, HN⟩ := hrel
  by_cases hil : i < 2
  ·
   obtain ⟨p, hp, hi⟩ : ∃ p : Option Addr, (p = none ∨ p = some ⟨w.heap.size + 1, 0, none⟩) ∧ (i = 0 ∧ p = none ∨ i = 1 ∧ p = some ⟨w.heap.size + 1, 0, none⟩) := by
    obtain rfl | rfl : i = 0 ∨ i = 1 := by omega
    ·
     exact ⟨none, .inl rfl, .inl ⟨rfl, rfl⟩⟩
    ·
     exact ⟨_, .inr rfl, .inr ⟨rfl, rfl⟩⟩
   have HP := Lib.hid hp
   have q1 : (i : Int) < 2 := by omega
   have hix : (Instr.index 68 (.agg #[.pointer none, .pointer (some ⟨w.heap.size + 1, 0, none⟩)]) (.int .i64 (i : Int))).run Try.prog wr = .ok (.pointer p) wr := by
    rcases hi with ⟨rfl, rfl⟩ | ⟨rfl, rfl⟩
    ·
     exact idx68a _ _ _
    ·
     exact idx68b _ _ _
   have e0 := (blk_cell HN.out.bx 0).trans (show _ = some (Value.string x.f0.f0) from rfl)
   have e1 := (blk_cell HN.out.bx 1).trans (show _ = some (Value.string x.f0.f1) from rfl)
   have e2 := (blk_cell HN.out.bx 2).trans (show _ = some (Value.int .i64 x.f0.f2) from rfl)
   have e3 := (blk_cell HN.out.bx 3).trans (show _ = some (Value.string x.f0.f3) from rfl)
   clear hp hi
   go_upto_region 6 with (go_at_call 13; (with_reducible refine (get_none p x.f0 wr (HN.out.non HP.out)).mono ?_); rintro e w1 ⟨rfl, hb⟩; have HN1 := Lib.hid (HN.out.below hb); clear hb)
   obtain ⟨w6, hw6⟩ : ∃ w6, w1.alloc (.cells #[.int .i64 z35.f0, .bool z35.f1, .int .i64 z35.f2, .int .i64 z35.f3.f0, .int .i64 z35.f3.f1, .string z35.f3.f2] 35) = w6 := ⟨_, rfl⟩
   have HN6 := Lib.hid (show NI w x w6 from hw6 ▸ HN1.out.below (below_alloc (Below.refl _ _) _))
   have HN := Lib.hid HN6.out.drew
   have e0 := (blk_cell HN.out.bx 0).trans (show _ = some (Value.string x.f0.f0) from rfl)
   have e1 := (blk_cell HN.out.bx 1).trans (show _ = some (Value.string x.f0.f1) from rfl)
   have e2 := (blk_cell HN.out.bx 2).trans (show _ = some (Value.int .i64 x.f0.f2) from rfl)
   have e3 := (blk_cell HN.out.bx 3).trans (show _ = some (Value.string x.f0.f3) from rfl)
   have e4 := (blk_cell HN.out.bx 4).trans (show _ = some (Value.int .i64 x.f1.f0) from rfl)
   have e5 := (blk_cell HN.out.bx 5).trans (show _ = some (Value.bool x.f1.f1) from rfl)
   have e6 := (blk_cell HN.out.bx 6).trans (show _ = some (Value.int .i64 x.f1.f2) from rfl)
   have e7 := (blk_cell HN.out.bx 7).trans (show _ = some (Value.int .i64 x.f1.f3.f0) from rfl)
   have e8 := (blk_cell HN.out.bx 8).trans (show _ = some (Value.int .i64 x.f1.f3.f1) from rfl)
   have e9 := (blk_cell HN.out.bx 9).trans (show _ = some (Value.string x.f1.f3.f2) from rfl)
   rw [hw6]
   clear hw6 hix HN1
   go_region_with (first | (go_at_call 11; (with_reducible refine (put_none p x _ (HN.out.non HP.out)).mono ?_); rintro e w7 ⟨rfl, hb⟩; have HN := Lib.hid (HN.out.below hb); have e0 := (blk_cell HN.out.bx 0).trans (show _ = some (Value.string x.f0.f0) from rfl); have e1 := (blk_cell HN.out.bx 1).trans (show _ = some (Value.string x.f0.f1) from rfl); have e2 := (blk_cell HN.out.bx 2).trans (show _ = some (Value.int .i64 x.f0.f2) from rfl); have e3 := (blk_cell HN.out.bx 3).trans (show _ = some (Value.string x.f0.f3) from rfl); clear hb) | (go_at_call 16; (with_reducible refine (len_none p _ (HN.out.non HP.out)).mono ?_); rintro e w7 ⟨rfl, rfl⟩) | (go_at_call 15; (with_reducible refine (all_none p _ (HN.out.non HP.out)).mono ?_); rintro e w7 ⟨rfl, hb⟩; have HN := Lib.hid (HN.out.below hb); have e0 := (blk_cell HN.out.bx 0).trans (show _ = some (Value.string x.f0.f0) from rfl); have e1 := (blk_cell HN.out.bx 1).trans (show _ = some (Value.string x.f0.f1) from rfl); have e2 := (blk_cell HN.out.bx 2).trans (show _ = some (Value.int .i64 x.f0.f2) from rfl); have e3 := (blk_cell HN.out.bx 3).trans (show _ = some (Value.string x.f0.f3) from rfl); clear hb) | (go_at_call 18; (with_reducible refine (his_none p _ (HN.out.non HP.out)).mono ?_); rintro e w7 ⟨rfl, hb⟩; have HN := Lib.hid (HN.out.below hb); have e0 := (blk_cell HN.out.bx 0).trans (show _ = some (Value.string x.f0.f0) from rfl); have e1 := (blk_cell HN.out.bx 1).trans (show _ = some (Value.string x.f0.f1) from rfl); have e2 := (blk_cell HN.out.bx 2).trans (show _ = some (Value.int .i64 x.f0.f2) from rfl); have e3 := (blk_cell HN.out.bx 3).trans (show _ = some (Value.string x.f0.f3) from rfl); clear hb) | (go_at_call 20; (with_reducible refine (show Calls Try.prog 20 #[.pointer p, .agg #[.string ⟨#[]⟩, .string ⟨#[]⟩, .int .i64 0, .string ⟨#[]⟩], .agg (ka x.f0), .int .i64 (-1)] _ _ from gather_none p ⟨⟨#[]⟩, ⟨#[]⟩, 0, ⟨#[]⟩⟩ x.f0 (-1) _ (HN.out.non HP.out)).mono ?_); rintro e w7 ⟨Ag, cg, rfl, hb⟩; have HN := Lib.hid (HN.out.below hb); have e0 := (blk_cell HN.out.bx 0).trans (show _ = some (Value.string x.f0.f0) from rfl); have e1 := (blk_cell HN.out.bx 1).trans (show _ = some (Value.string x.f0.f1) from rfl); have e2 := (blk_cell HN.out.bx 2).trans (show _ = some (Value.int .i64 x.f0.f2) from rfl); have e3 := (blk_cell HN.out.bx 3).trans (show _ = some (Value.string x.f0.f3) from rfl); clear hb))
   all_goals
    go_wp2_with fail
    go_roundg (2 - (i + 1))
    case measure => have := HI.out; omega
    case rel => exact ⟨i + 1, by go_num, ⟨by omega, Nat.le_refl _⟩, ⟨HN.out⟩⟩
  ·
   have q1 : ¬ (i : Int) < 2 := by omega
   go_wp2_with (go_at_call 9; (with_reducible refine (HLV.out _).mono ?_); rintro e w2 ⟨rfl, hb⟩; have HB2 := Lib.hid (below_step HN.out.bel hb); clear hb)
   go_ret
   exact ⟨rfl, HB2.out⟩
end Go.Proofs.Ytlffkbcaphhldaa.Q
