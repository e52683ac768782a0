/- Lemmas for this claim's walk: no condition of their own. -/
import Derived.Test.YtfaogccfiklinaaDoorKdSq
import Derived.Test.YtfaogccfiklinaaDoorKdQx0
import Derived.Test.YtfaogccfiklinaaDoorKdJ12
import Derived.Test.YtfaogccfiklinaaDoorKdQx26
import Derived.Test.YtfaogccfiklinaaDoorKdQx27
import Derived.Test.YtfaogccfiklinaaDoorKdQx28
namespace Go.Proofs.YtfaogccfiklinaaDoor.Q
open Go.RowKit Go.Proofs.YtfaogccfiklinaaDoorW.PrintWords Go.Proofs.YtfaogccfiklinaaDoorW.PrintLast Go.Proofs.YtfaogccfiklinaaDoorW.PrintMore
attribute [local go_sem] max2_int min2_int max_two min_two max_three min_three max_four min_four
set_option linter.unusedVariables false
set_option linter.unusedSimpArgs false
attribute [local go_sem high] eqA23
def skerrylaw18_LexerQuotes.f (k : Nat) (a0 : ByteArray) : Option (Bool) := if (a0.size : Int) > 150 then ((skerrylaw18_lives.f k).bind fun t470 => (some t470)) else ((lexer_Quote.f k a0).bind fun t471 => ((lexer_Lex.f k t471).bind fun bt472 => (if (a0.size : Int) > 64 then (if bt472.2.2 = 11 then (if 0 ≤ 64 then (if 64 ≤ (a0.size : Int) then ((lexer_Quote.f k (a0.extract 0 64)).bind fun t477 => (if bt472.2.1 = (wrap64 ((t477.size : Int) - 1)) then ((skerrylaw18_lives.f k).bind fun t478 => (some t478)) else (none))) else (none)) else (none)) else (none)) else (if bt472.2.2 = 0 then (if (bt472.1.length : Int) = 2 then (if 0 < (bt472.1.length : Int) then (if ((rd_T25 bt472.1 0).f0) = 4 then (if (((rd_T25 bt472.1 0).f2.f0) == 2 && (((rd_T25 bt472.1 0).f2.f1) == 0 && ((((rd_T25 bt472.1 0).f2.f2).toList) == a0.toList))) = true then (if ((rd_T25 bt472.1 0).f4) = (t471.size : Int) then ((skerrylaw18_lives.f k).bind fun t482 => (some t482)) else (none)) else (none)) else (none)) else (none)) else (none)) else (none)))))
set_option maxHeartbeats 8000000 in
set_option maxRecDepth 100000 in
theorem skerrylaw18_LexerQuotes.calls (k : Nat) (a0 : ByteArray) (r : Bool) (w : World) (h : skerrylaw18_LexerQuotes.f k a0 = some r) :
  Calls Tryd.prog 8 #[.string a0] w fun e w' => e = .returned (.bool r) ∧ Below w.heap.size w w' := by
 have hu23 := Tryd.underlying23
 have HB := Aside0.mk (Below.refl w.heap.size w)
 have H : (if (a0.size : Int) > 150 then ((skerrylaw18_lives.f k).bind fun t470 => (some t470)) else ((lexer_Quote.f k a0).bind fun t471 => ((lexer_Lex.f k t471).bind fun bt472 => (if (a0.size : Int) > 64 then (if bt472.2.2 = 11 then (if 0 ≤ 64 then (if 64 ≤ (a0.size : Int) then ((lexer_Quote.f k (a0.extract 0 64)).bind fun t477 => (if bt472.2.1 = (wrap64 ((t477.size : Int) - 1)) then ((skerrylaw18_lives.f k).bind fun t478 => (some t478)) else (none))) else (none)) else (none)) else (none)) else (if bt472.2.2 = 0 then (if (bt472.1.length : Int) = 2 then (if 0 < (bt472.1.length : Int) then (if ((rd_T25 bt472.1 0).f0) = 4 then (if (((rd_T25 bt472.1 0).f2.f0) == 2 && (((rd_T25 bt472.1 0).f2.f1) == 0 && ((((rd_T25 bt472.1 0).f2.f2).toList) == a0.toList))) = true then (if ((rd_T25 bt472.1 0).f4) = (t471.size : Int) then ((skerrylaw18_lives.f k).bind fun t482 => (some t482)) else (none)) else (none)) else (none)) else (none)) else (none)) else (none)))))) = some r := h
 clear h
 by_cases c2 : (a0.size : Int) > 150
 ·
  rw [if_pos c2] at H
  have c2b0 : decide (150 < (a0.size : Int)) = true := decide_eq_true c2
  have c2b1 : decide (150 < a0.size) = true := decide_eq_true (by omega)
  clear c2
  replace H := Option.bind_eq_some_iff.mp H
  obtain ⟨t470, A30, H⟩ := H
  have A3 := Aside0.mk A30
  clear A30
  obtain rfl := Option.some.inj H
  go_enter Tryd.func8, Tryd.ntmps8
  go_wp2_with (first | ((with_reducible refine gate_callee (f := 12) rfl ?_); refine goesL_ (some 10) rfl rfl Tryd.func12 (by kernel_rfl) rfl #[] rfl (by (try simp only [mT_, mC_, mN_]); first | done | rfl) ?_; (with_reducible refine (skerrylaw18_lives.calls k  t470 _ A3.out).mono ?_); rintro e w4 ⟨rfl, hb⟩; refine ⟨_, rfl, ?_⟩; replace HB := Aside0.mk (below_step (kwW HB) hb); (try clear hb); (try clear hb2); (try clear hk); (try clear hi)))
  go_ret
  exact ⟨by first | rfl | (simp <;> rfl) | (simp [*] <;> rfl), kwW HB⟩
 ·
  rw [if_neg c2] at H
  have c2b0 : decide (150 < (a0.size : Int)) = false := decide_eq_false c2
  have c2b1 : decide (150 < a0.size) = false := decide_eq_false (by omega)
  clear c2
  replace H := Option.bind_eq_some_iff.mp H
  obtain ⟨t471, A50, H⟩ := H
  have A5 := Aside0.mk A50
  clear A50
  replace H := Option.bind_eq_some_iff.mp H
  obtain ⟨⟨t472, t473, t474⟩, A60, H⟩ := H
  have A6 := Aside0.mk A60
  clear A60
  by_cases c7 : (a0.size : Int) > 64
  ·
   rw [if_pos c7] at H
   have c7b0 : decide (64 < (a0.size : Int)) = true := decide_eq_true c7
   have c7b1 : decide (64 < a0.size) = true := decide_eq_true (by omega)
   clear c7
   by_cases c8 : t474 = 11
   rotate_left
   ·
    rw [if_neg c8] at H
    exact absurd H (by simp)
   rw [if_pos c8] at H
   have c8b0 : (t474 == 11) = true := beq_iff_eq.mpr c8
   have c8b1 : (t474 != 11) = false := bne_eq_false_iff_eq.mpr c8
   clear c8
   by_cases c9 : 0 ≤ 64
   rotate_left
   ·
    rw [if_neg c9] at H
    exact absurd H (by simp)
   rw [if_pos c9] at H
   have c9b0 := eq_true c9
   have c9b1 : decide (0 ≤ 64) = true := decide_eq_true c9
   clear c9
   by_cases c10 : 64 ≤ (a0.size : Int)
   rotate_left
   ·
    rw [if_neg c10] at H
    exact absurd H (by simp)
   rw [if_pos c10] at H
   have c10b0 := eq_true c10
   have c10b1 : decide (64 ≤ (a0.size : Int)) = true := decide_eq_true c10
   clear c10
   replace H := Option.bind_eq_some_iff.mp H
   obtain ⟨t477, A110, H⟩ := H
   have A11 := Aside0.mk A110
   clear A110
   by_cases c12 : t473 = (wrap64 ((t477.size : Int) - 1))
   rotate_left
   ·
    rw [if_neg c12] at H
    exact absurd H (by simp)
   rw [if_pos c12] at H
   have c12b0 : (t473 == (wrap64 ((t477.size : Int) - 1))) = true := beq_iff_eq.mpr c12
   have c12b1 : (t473 != (wrap64 ((t477.size : Int) - 1))) = false := bne_eq_false_iff_eq.mpr c12
   clear c12
   replace H := Option.bind_eq_some_iff.mp H
   obtain ⟨t478, A130, H⟩ := H
   have A13 := Aside0.mk A130
   clear A130
   obtain rfl := Option.some.inj H
   go_enter Tryd.func8, Tryd.ntmps8
   go_wp2_with (first | ((with_reducible refine gate_callee (f := 16) rfl ?_); refine goesL_ (some 12) rfl rfl Tryd.func16 (by kernel_rfl) rfl #[.string a0] rfl (by (try simp only [mT_, mC_, mN_]); first | done | rfl) ?_; (with_reducible refine (lexer_Quote.calls k a0 t471 _ A5.out).mono ?_); rintro e w14 ⟨rfl, hb⟩; refine ⟨_, rfl, ?_⟩; replace HB := Aside0.mk (below_step (kwW HB) hb); (try clear hb); (try clear hb2); (try clear hk); (try clear hi)) | ((with_reducible refine gate_callee (f := 13) rfl ?_); refine goesL_ (some 15) rfl rfl Tryd.func13 (by kernel_rfl) rfl #[.string t471] rfl (by (try simp only [mT_, mC_, mN_]); first | done | rfl) ?_; (with_reducible refine (lexer_Lex.calls k t471 t472 t473 t474 _ A6.out).mono ?_); rintro e w15 ⟨v475, rfl, ho0, hb⟩; refine ⟨_, rfl, ?_⟩; have HO476 := Aside0.mk (Kd.R_lower ho0 (bZ_ (kwW HB))); replace HB := Aside0.mk (below_step (kwW HB) hb); (try clear hb); (try clear hb2); (try clear hk); (try clear hi); (try clear ho0)) | (go_at_call 16; (with_reducible refine (lexer_Quote.calls k (a0.extract 0 64) t477 _ A11.out).mono ?_); rintro e w16 ⟨rfl, hb⟩; replace HO476 := kR HO476 hb; replace HB := Aside0.mk (below_step (kwW HB) hb); (try clear hb); (try clear hb2); (try clear hk); (try clear hi)) | (go_at_call 12; (with_reducible refine (skerrylaw18_lives.calls k  t478 _ A13.out).mono ?_); rintro e w17 ⟨rfl, hb⟩; replace HO476 := kR HO476 hb; replace HB := Aside0.mk (below_step (kwW HB) hb); (try clear hb); (try clear hb2); (try clear hk); (try clear hi)))
   go_ret
   exact ⟨by first | rfl | (simp <;> rfl) | (simp [*] <;> rfl), kwW HB⟩
  ·
   rw [if_neg c7] at H
   have c7b0 : decide (64 < (a0.size : Int)) = false := decide_eq_false c7
   have c7b1 : decide (64 < a0.size) = false := decide_eq_false (by omega)
   clear c7
   by_cases c18 : t474 = 0
   rotate_left
   ·
    rw [if_neg c18] at H
    exact absurd H (by simp)
   rw [if_pos c18] at H
   have c18b0 : (t474 == 0) = true := beq_iff_eq.mpr c18
   have c18b1 : (t474 != 0) = false := bne_eq_false_iff_eq.mpr c18
   clear c18
   by_cases c19 : (t472.length : Int) = 2
   rotate_left
   ·
    rw [if_neg c19] at H
    exact absurd H (by simp)
   rw [if_pos c19] at H
   have c19b0 : ((t472.length : Int) == 2) = true := beq_iff_eq.mpr c19
   have c19b1 : ((t472.length : Int) != 2) = false := bne_eq_false_iff_eq.mpr c19
   clear c19
   by_cases c20 : 0 < (t472.length : Int)
   rotate_left
   ·
    rw [if_neg c20] at H
    exact absurd H (by simp)
   rw [if_pos c20] at H
   have c20b0 : decide (0 < (t472.length : Int)) = true := decide_eq_true c20
   have c20b1 : decide (0 < t472.length) = true := decide_eq_true (by omega)
   clear c20
   by_cases c21 : ((rd_T25 t472 0).f0) = 4
   rotate_left
   ·
    rw [if_neg c21] at H
    exact absurd H (by simp)
   rw [if_pos c21] at H
   have c21b0 : (((rd_T25 t472 0).f0) == 4) = true := beq_iff_eq.mpr c21
   have c21b1 : (((rd_T25 t472 0).f0) != 4) = false := bne_eq_false_iff_eq.mpr c21
   clear c21
   by_cases c22 : (((rd_T25 t472 0).f2.f0) == 2 && (((rd_T25 t472 0).f2.f1) == 0 && ((((rd_T25 t472 0).f2.f2).toList) == a0.toList))) = true
   rotate_left
   ·
    rw [if_neg c22] at H
    exact absurd H (by simp)
   rw [if_pos c22] at H
   have c22b0 : (((rd_T25 t472 0).f2.f0) == 2 && (((rd_T25 t472 0).f2.f1) == 0 && ((((rd_T25 t472 0).f2.f2).toList) == a0.toList))) = true := c22
   (try (have c22b1 : decide (((rd_T25 t472 0).f2.f0) = 2 && (((rd_T25 t472 0).f2.f1) == 0 && ((((rd_T25 t472 0).f2.f2).toList) == a0.toList))) = true := by simpa using c22))
   (try (have c22b2 : (((rd_T25 t472 0).f2.f0) == 2 && (((rd_T25 t472 0).f2.f1) == 0 && ((((rd_T25 t472 0).f2.f2).toList) == a0.toList))) = true := by simpa using c22))
   clear c22
   by_cases c23 : ((rd_T25 t472 0).f4) = (t471.size : Int)
   rotate_left
   ·
    rw [if_neg c23] at H
    exact absurd H (by simp)
   rw [if_pos c23] at H
   have c23b0 : (((rd_T25 t472 0).f4) == (t471.size : Int)) = true := beq_iff_eq.mpr c23
   have c23b1 : (((rd_T25 t472 0).f4) != (t471.size : Int)) = false := bne_eq_false_iff_eq.mpr c23
   clear c23
   replace H := Option.bind_eq_some_iff.mp H
   obtain ⟨t482, A240, H⟩ := H
   have A24 := Aside0.mk A240
   clear A240
   obtain rfl := Option.some.inj H
   go_enter Tryd.func8, Tryd.ntmps8
   go_wp2_with (first | ((with_reducible refine gate_callee (f := 16) rfl ?_); refine goesL_ (some 12) rfl rfl Tryd.func16 (by kernel_rfl) rfl #[.string a0] rfl (by (try simp only [mT_, mC_, mN_]); first | done | rfl) ?_; (with_reducible refine (lexer_Quote.calls k a0 t471 _ A5.out).mono ?_); rintro e w25 ⟨rfl, hb⟩; refine ⟨_, rfl, ?_⟩; replace HB := Aside0.mk (below_step (kwW HB) hb); (try clear hb); (try clear hb2); (try clear hk); (try clear hi)) | ((with_reducible refine gate_callee (f := 13) rfl ?_); refine goesL_ (some 15) rfl rfl Tryd.func13 (by kernel_rfl) rfl #[.string t471] rfl (by (try simp only [mT_, mC_, mN_]); first | done | rfl) ?_; (with_reducible refine (lexer_Lex.calls k t471 t472 t473 t474 _ A6.out).mono ?_); rintro e w26 ⟨v475, rfl, ho0, hb⟩; refine ⟨_, rfl, ?_⟩; have HO476 := Aside0.mk (Kd.R_lower ho0 (bZ_ (kwW HB))); replace HB := Aside0.mk (below_step (kwW HB) hb); (try clear hb); (try clear hb2); (try clear hk); (try clear hi); (try clear ho0); obtain ⟨Ao27, co27, eo27⟩ := Kd.R_slice HO476.out; subst eo27; have p479 : 0 ≤ (0 : Int) := (by omega); have q479 : 0 < (t472.length : Int) := of_decide_eq_true (by first | (with_reducible assumption) | assumption); obtain ⟨ad479, e479, hx479_0, hx479_1, hx479_2, hx479_3, hx479_4, hx479_5, hx479_6⟩ := at_T25 (Kd.R_reads' HO476.out).2.2 0 p479 q479; cases e479; have qi479 : (0 < t472.length) = True := eq_true (by omega); (try rw [show ((0 : Int)).toNat = 0 from rfl] at hx479_0); (try rw [show 0 * 7 = 0 from rfl] at hx479_0); (try rw [Addr.add_zero'] at hx479_0); (try rw [show ((0 : Int)).toNat = 0 from rfl] at hx479_1); (try rw [show 0 * 7 = 0 from rfl] at hx479_1); (try rw [Addr.add_zero'] at hx479_1); (try rw [show ((0 : Int)).toNat = 0 from rfl] at hx479_2); (try rw [show 0 * 7 = 0 from rfl] at hx479_2); (try rw [Addr.add_zero'] at hx479_2); (try rw [show ((0 : Int)).toNat = 0 from rfl] at hx479_3); (try rw [show 0 * 7 = 0 from rfl] at hx479_3); (try rw [Addr.add_zero'] at hx479_3); (try rw [show ((0 : Int)).toNat = 0 from rfl] at hx479_4); (try rw [show 0 * 7 = 0 from rfl] at hx479_4); (try rw [Addr.add_zero'] at hx479_4); (try rw [show ((0 : Int)).toNat = 0 from rfl] at hx479_5); (try rw [show 0 * 7 = 0 from rfl] at hx479_5); (try rw [Addr.add_zero'] at hx479_5); (try rw [show ((0 : Int)).toNat = 0 from rfl] at hx479_6); (try rw [show 0 * 7 = 0 from rfl] at hx479_6); (try rw [Addr.add_zero'] at hx479_6); replace p479 := eq_true p479; replace q479 := eq_true q479; have p480 : 0 ≤ (0 : Int) := (by omega); have q480 : 0 < (t472.length : Int) := of_decide_eq_true (by first | (with_reducible assumption) | assumption); obtain ⟨ad480, e480, hx480_0, hx480_1, hx480_2, hx480_3, hx480_4, hx480_5, hx480_6⟩ := at_T25 (Kd.R_reads' HO476.out).2.2 0 p480 q480; obtain rfl : ad479 = ad480 := (by injection e480); have qi480 : (0 < t472.length) = True := eq_true (by omega); (try rw [show ((0 : Int)).toNat = 0 from rfl] at hx480_0); (try rw [show 0 * 7 = 0 from rfl] at hx480_0); (try rw [Addr.add_zero'] at hx480_0); (try rw [show ((0 : Int)).toNat = 0 from rfl] at hx480_1); (try rw [show 0 * 7 = 0 from rfl] at hx480_1); (try rw [Addr.add_zero'] at hx480_1); (try rw [show ((0 : Int)).toNat = 0 from rfl] at hx480_2); (try rw [show 0 * 7 = 0 from rfl] at hx480_2); (try rw [Addr.add_zero'] at hx480_2); (try rw [show ((0 : Int)).toNat = 0 from rfl] at hx480_3); (try rw [show 0 * 7 = 0 from rfl] at hx480_3); (try rw [Addr.add_zero'] at hx480_3); (try rw [show ((0 : Int)).toNat = 0 from rfl] at hx480_4); (try rw [show 0 * 7 = 0 from rfl] at hx480_4); (try rw [Addr.add_zero'] at hx480_4); (try rw [show ((0 : Int)).toNat = 0 from rfl] at hx480_5); (try rw [show 0 * 7 = 0 from rfl] at hx480_5); (try rw [Addr.add_zero'] at hx480_5); (try rw [show ((0 : Int)).toNat = 0 from rfl] at hx480_6); (try rw [show 0 * 7 = 0 from rfl] at hx480_6); (try rw [Addr.add_zero'] at hx480_6); replace p480 := eq_true p480; replace q480 := eq_true q480; have p481 : 0 ≤ (0 : Int) := (by omega); have q481 : 0 < (t472.length : Int) := of_decide_eq_true (by first | (with_reducible assumption) | assumption); obtain ⟨ad481, e481, hx481_0, hx481_1, hx481_2, hx481_3, hx481_4, hx481_5, hx481_6⟩ := at_T25 (Kd.R_reads' HO476.out).2.2 0 p481 q481; obtain rfl : ad479 = ad481 := (by injection e481); have qi481 : (0 < t472.length) = True := eq_true (by omega); (try rw [show ((0 : Int)).toNat = 0 from rfl] at hx481_0); (try rw [show 0 * 7 = 0 from rfl] at hx481_0); (try rw [Addr.add_zero'] at hx481_0); (try rw [show ((0 : Int)).toNat = 0 from rfl] at hx481_1); (try rw [show 0 * 7 = 0 from rfl] at hx481_1); (try rw [Addr.add_zero'] at hx481_1); (try rw [show ((0 : Int)).toNat = 0 from rfl] at hx481_2); (try rw [show 0 * 7 = 0 from rfl] at hx481_2); (try rw [Addr.add_zero'] at hx481_2); (try rw [show ((0 : Int)).toNat = 0 from rfl] at hx481_3); (try rw [show 0 * 7 = 0 from rfl] at hx481_3); (try rw [Addr.add_zero'] at hx481_3); (try rw [show ((0 : Int)).toNat = 0 from rfl] at hx481_4); (try rw [show 0 * 7 = 0 from rfl] at hx481_4); (try rw [Addr.add_zero'] at hx481_4); (try rw [show ((0 : Int)).toNat = 0 from rfl] at hx481_5); (try rw [show 0 * 7 = 0 from rfl] at hx481_5); (try rw [Addr.add_zero'] at hx481_5); (try rw [show ((0 : Int)).toNat = 0 from rfl] at hx481_6); (try rw [show 0 * 7 = 0 from rfl] at hx481_6); (try rw [Addr.add_zero'] at hx481_6); replace p481 := eq_true p481; replace q481 := eq_true q481) | (go_at_call 12; (with_reducible refine (skerrylaw18_lives.calls k  t482 _ A24.out).mono ?_); rintro e w28 ⟨rfl, hb⟩; replace HO476 := kR HO476 hb; replace HB := Aside0.mk (below_step (kwW HB) hb); (try clear hb); (try clear hb2); (try clear hk); (try clear hi)))
   go_ret
   exact ⟨by first | rfl | (simp <;> rfl) | (simp [*] <;> rfl), kwW HB⟩
end Go.Proofs.YtfaogccfiklinaaDoor.Q
