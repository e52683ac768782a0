/- Lemmas for this claim's walk: no condition of their own. -/
import Derived.Test.YtfaogccfiklinaaDoorKcSq
import Derived.Test.YtfaogccfiklinaaDoorKcQx0
import Derived.Test.YtfaogccfiklinaaDoorKcQx26
import Derived.Test.YtfaogccfiklinaaDoorKcQx28
namespace Go.Proofs.YtfaogccfiklinaaDoor.Q
open Go.RowKit Go.Proofs.YtfaogccfiklinaaDoorW.PrintWords Go.Proofs.YtfaogccfiklinaaDoorW.PrintLast Go.Proofs.YtfaogccfiklinaaDoorW.PrintMore
attribute [local go_sem] max2_int min2_int max_two min_two max_three min_three max_four min_four
set_option linter.unusedVariables false
set_option linter.unusedSimpArgs false
mutual
def skerrylaw18_LexerPlaces.l0 : Nat → ByteArray → List (S25) → Int → List (S25) → Int → Int → Option (Bool)
 | 0, _, _, _, _, _, _ => none
 | k + 1, x0, x3, x6, x33, x34, x35 => if x35 < x34 then (if 0 ≤ x35 then (if x35 < (x33.length : Int) then (if ((rd_T25 x33 x35).f3) < x6 then (skerrylaw18_LexerPlaces.j1 k x0 x3 x33 x34 x35 true ((rd_T25 x33 x35).f0) ((rd_T25 x33 x35).f1) ((rd_T25 x33 x35).f2.f0) ((rd_T25 x33 x35).f2.f1) ((rd_T25 x33 x35).f2.f2) ((rd_T25 x33 x35).f3) ((rd_T25 x33 x35).f4)) else (if ((rd_T25 x33 x35).f4) < ((rd_T25 x33 x35).f3) then (skerrylaw18_LexerPlaces.j1 k x0 x3 x33 x34 x35 true ((rd_T25 x33 x35).f0) ((rd_T25 x33 x35).f1) ((rd_T25 x33 x35).f2.f0) ((rd_T25 x33 x35).f2.f1) ((rd_T25 x33 x35).f2.f2) ((rd_T25 x33 x35).f3) ((rd_T25 x33 x35).f4)) else (if ((rd_T25 x33 x35).f4) > (x0.size : Int) then (skerrylaw18_LexerPlaces.j1 k x0 x3 x33 x34 x35 true ((rd_T25 x33 x35).f0) ((rd_T25 x33 x35).f1) ((rd_T25 x33 x35).f2.f0) ((rd_T25 x33 x35).f2.f1) ((rd_T25 x33 x35).f2.f2) ((rd_T25 x33 x35).f3) ((rd_T25 x33 x35).f4)) else (if ((((rd_T25 x33 x35).f4) == ((rd_T25 x33 x35).f3)) != (((rd_T25 x33 x35).f0) == 0)) = true then (skerrylaw18_LexerPlaces.j1 k x0 x3 x33 x34 x35 true ((rd_T25 x33 x35).f0) ((rd_T25 x33 x35).f1) ((rd_T25 x33 x35).f2.f0) ((rd_T25 x33 x35).f2.f1) ((rd_T25 x33 x35).f2.f2) ((rd_T25 x33 x35).f3) ((rd_T25 x33 x35).f4)) else (skerrylaw18_LexerPlaces.j1 k x0 x3 x33 x34 x35 (((wrap64 (x35 + 1)) == (x3.length : Int)) != (((rd_T25 x33 x35).f0) == 0)) ((rd_T25 x33 x35).f0) ((rd_T25 x33 x35).f1) ((rd_T25 x33 x35).f2.f0) ((rd_T25 x33 x35).f2.f1) ((rd_T25 x33 x35).f2.f2) ((rd_T25 x33 x35).f3) ((rd_T25 x33 x35).f4)))))) else (none)) else (none)) else (if (x3.length : Int) > 0 then (if x6 = (x0.size : Int) then ((skerrylaw18_lives.f k).bind fun t422 => (some t422)) else (none)) else (none))
def skerrylaw18_LexerPlaces.j1 : Nat → ByteArray → List (S25) → List (S25) → Int → Int → Bool → Int → ByteArray → Int → Int → ByteArray → Int → Int → Option (Bool)
 | 0, _, _, _, _, _, _, _, _, _, _, _, _, _ => none
 | k + 1, x0, x3, x33, x34, x35, x79, x425000, x425001, x425002, x425003, x425004, x425005, x425006 => if x79 = true then (none) else (if x425000 = 1 then (if 0 ≤ x425005 then (if x425005 ≤ x425006 then (if x425006 ≤ (x0.size : Int) then (if (x0.extract (x425005 : Int).toNat (x425006 : Int).toNat).toList = x425001.toList then (skerrylaw18_LexerPlaces.l0 k x0 x3 x425006 x33 x34 (wrap64 (x35 + 1))) else (none)) else (none)) else (none)) else (none)) else (skerrylaw18_LexerPlaces.l0 k x0 x3 x425006 x33 x34 (wrap64 (x35 + 1))))
end
def skerrylaw18_LexerPlaces.f (k : Nat) (a0 : ByteArray) : Option (Bool) := (lexer_Lex.f k a0).bind fun bt416 => (if bt416.2.2 = 0 then (skerrylaw18_LexerPlaces.l0 k a0 bt416.1 0 bt416.1 (bt416.1.length : Int) 0) else (if (bt416.1.length : Int) = 0 then (if bt416.2.1 ≥ 0 then (if bt416.2.1 ≤ (a0.size : Int) then ((skerrylaw18_lives.f k).bind fun t421 => (some t421)) else (none)) else (none)) else (none)))
set_option maxHeartbeats 8000000 in
set_option maxRecDepth 100000 in
theorem skerrylaw18_LexerPlaces.calls (k : Nat) (a0 : ByteArray) (r : Bool) (w : World) (h : skerrylaw18_LexerPlaces.f k a0 = some r) :
  Calls Tryd.prog 5 #[.string a0] w fun e w' => e = .returned (.bool r) ∧ Below w.heap.size w w' := by
 have hu25 := Tryd.underlying25
 have HB := Aside0.mk (Below.refl w.heap.size w)
 have H : ((lexer_Lex.f k a0).bind fun bt416 => (if bt416.2.2 = 0 then (skerrylaw18_LexerPlaces.l0 k a0 bt416.1 0 bt416.1 (bt416.1.length : Int) 0) else (if (bt416.1.length : Int) = 0 then (if bt416.2.1 ≥ 0 then (if bt416.2.1 ≤ (a0.size : Int) then ((skerrylaw18_lives.f k).bind fun t421 => (some t421)) else (none)) else (none)) else (none)))) = some r := h
 clear h
 replace H := Option.bind_eq_some_iff.mp H
 obtain ⟨⟨t416, t417, t418⟩, A20, H⟩ := H
 have A2 := Aside0.mk A20
 clear A20
 by_cases c3 : t418 = 0
 rotate_left
 ·
  rw [if_neg c3] at H
  have c3b0 : (t418 == 0) = false := beq_eq_false_iff_ne.mpr c3
  have c3b1 : (t418 != 0) = true := bne_iff_ne.mpr c3
  by_cases c33 : (t416.length : Int) = 0
  rotate_left
  ·
   rw [if_neg c33] at H
   exact absurd H (by simp)
  rw [if_pos c33] at H
  have c33b0 : ((t416.length : Int) == 0) = true := beq_iff_eq.mpr c33
  have c33b1 : ((t416.length : Int) != 0) = false := bne_eq_false_iff_eq.mpr c33
  clear c33
  by_cases c34 : t417 ≥ 0
  rotate_left
  ·
   rw [if_neg c34] at H
   exact absurd H (by simp)
  rw [if_pos c34] at H
  have c34b0 : decide (0 ≤ t417) = true := decide_eq_true c34
  clear c34
  by_cases c35 : t417 ≤ (a0.size : Int)
  rotate_left
  ·
   rw [if_neg c35] at H
   exact absurd H (by simp)
  rw [if_pos c35] at H
  have c35b0 : decide (t417 ≤ (a0.size : Int)) = true := decide_eq_true c35
  clear c35
  replace H := Option.bind_eq_some_iff.mp H
  obtain ⟨t421, A360, H⟩ := H
  have A36 := Aside0.mk A360
  clear A360
  obtain rfl := Option.some.inj H
  go_enter Tryd.func5, Tryd.ntmps5
  go_wp2_with (first | (go_at_call 13; (with_reducible refine (lexer_Lex.calls k a0 t416 t417 t418 _ A2.out).mono ?_); rintro e w37 ⟨v419, rfl, ho0, hb⟩; have HO420 := Aside0.mk (Kd.R_lower ho0 (bZ_ (kwW HB))); replace HB := Aside0.mk (below_step (kwW HB) hb); (try clear hb); (try clear hb2); (try clear hk); (try clear hi); (try clear ho0); obtain ⟨Ao38, co38, eo38⟩ := Kd.R_slice HO420.out; subst eo38) | (go_at_call 12; (with_reducible refine (skerrylaw18_lives.calls k  t421 _ A36.out).mono ?_); rintro e w39 ⟨rfl, hb⟩; replace HO420 := kR HO420 hb; replace HB := Aside0.mk (below_step (kwW HB) hb); (try clear hb); (try clear hb2); (try clear hk); (try clear hi)))
  repeat (go_quiet (first | (go_at_call 13; (with_reducible refine (lexer_Lex.calls k a0 t416 t417 t418 _ A2.out).mono ?_); rintro e w37 ⟨v419, rfl, ho0, hb⟩; have HO420 := Aside0.mk (Kd.R_lower ho0 (bZ_ (kwW HB))); replace HB := Aside0.mk (below_step (kwW HB) hb); (try clear hb); (try clear hb2); (try clear hk); (try clear hi); (try clear ho0); obtain ⟨Ao38, co38, eo38⟩ := Kd.R_slice HO420.out; subst eo38) | (go_at_call 12; (with_reducible refine (skerrylaw18_lives.calls k  t421 _ A36.out).mono ?_); rintro e w39 ⟨rfl, hb⟩; replace HO420 := kR HO420 hb; replace HB := Aside0.mk (below_step (kwW HB) hb); (try clear hb); (try clear hb2); (try clear hk); (try clear hi))); try go_wp2_with (first | (go_at_call 13; (with_reducible refine (lexer_Lex.calls k a0 t416 t417 t418 _ A2.out).mono ?_); rintro e w37 ⟨v419, rfl, ho0, hb⟩; have HO420 := Aside0.mk (Kd.R_lower ho0 (bZ_ (kwW HB))); replace HB := Aside0.mk (below_step (kwW HB) hb); (try clear hb); (try clear hb2); (try clear hk); (try clear hi); (try clear ho0); obtain ⟨Ao38, co38, eo38⟩ := Kd.R_slice HO420.out; subst eo38) | (go_at_call 12; (with_reducible refine (skerrylaw18_lives.calls k  t421 _ A36.out).mono ?_); rintro e w39 ⟨rfl, hb⟩; replace HO420 := kR HO420 hb; replace HB := Aside0.mk (below_step (kwW HB) hb); (try clear hb); (try clear hb2); (try clear hk); (try clear hi))))
  go_ret
  exact ⟨by first | rfl | (simp <;> rfl) | (simp [*] <;> rfl), kwW HB⟩
 rw [if_pos c3] at H
 have c3b0 : (t418 == 0) = true := beq_iff_eq.mpr c3
 have c3b1 : (t418 != 0) = false := bne_eq_false_iff_eq.mpr c3
 clear c3
 have H' := Aside0.mk H
 clear H
 go_enter Tryd.func5, Tryd.ntmps5
 go_wp2_with (first | (go_at_call 13; (with_reducible refine (lexer_Lex.calls k a0 t416 t417 t418 _ A2.out).mono ?_); rintro e w4 ⟨v419, rfl, ho0, hb⟩; have HO420 := Aside0.mk (Kd.R_lower ho0 (bZ_ (kwW HB))); replace HB := Aside0.mk (below_step (kwW HB) hb); (try clear hb); (try clear hb2); (try clear hk); (try clear hi); (try clear ho0); obtain ⟨Ao5, co5, eo5⟩ := Kd.R_slice HO420.out; subst eo5))
 repeat (go_quiet (first | (go_at_call 13; (with_reducible refine (lexer_Lex.calls k a0 t416 t417 t418 _ A2.out).mono ?_); rintro e w4 ⟨v419, rfl, ho0, hb⟩; have HO420 := Aside0.mk (Kd.R_lower ho0 (bZ_ (kwW HB))); replace HB := Aside0.mk (below_step (kwW HB) hb); (try clear hb); (try clear hb2); (try clear hk); (try clear hi); (try clear ho0); obtain ⟨Ao5, co5, eo5⟩ := Kd.R_slice HO420.out; subst eo5)); try go_wp2_with (first | (go_at_call 13; (with_reducible refine (lexer_Lex.calls k a0 t416 t417 t418 _ A2.out).mono ?_); rintro e w4 ⟨v419, rfl, ho0, hb⟩; have HO420 := Aside0.mk (Kd.R_lower ho0 (bZ_ (kwW HB))); replace HB := Aside0.mk (below_step (kwW HB) hb); (try clear hb); (try clear hb2); (try clear hk); (try clear hi); (try clear ho0); obtain ⟨Ao5, co5, eo5⟩ := Kd.R_slice HO420.out; subst eo5)))
 go_loopg [6, 35] k (fun kq v6 v35 w' => ∃ (x6_1 : Int) (x35_1 : Int), v6 = .int .i64 x6_1 ∧ v35 = .int .i64 x35_1 ∧ Aside0 (skerrylaw18_LexerPlaces.l0 kq a0 t416 x6_1 t416 (t416.length : Int) x35_1 = some r) ∧ Aside0 (kq ≤ k) ∧ Aside0 (Kd.R k25 25 w' w.heap.size (fun _ => True) (.slice Ao5 t416.length co5) t416) ∧ Aside0 (Kd.R k25 25 w' w.heap.size (fun _ => True) (.slice Ao5 t416.length co5) t416) ∧ Aside0 (Below w.heap.size w w'))
 case atStart => exact ⟨(0), (0), (by first | rfl | (simp; done) | (simp [bne, *]; done)), (by first | rfl | (simp; done) | (simp [bne, *]; done)), H', ⟨Nat.le_refl _⟩, ⟨krW HO420⟩, ⟨krW HO420⟩, ⟨kwW HB⟩⟩
 case round =>
  clear H'
  try clear p2
  try clear c3
  try clear c3b0
  try clear c3b1
  try clear c5
  obtain ⟨x6_1, x35_1, rfl, rfl, HA, HK1, HO_3, HO_33, HB⟩ := hrel
  cases gk with
  | zero => exact absurd HA.out (by simp [skerrylaw18_LexerPlaces.l0])
  | succ k1 =>
   have H := HA.out
   clear HA
   simp only [skerrylaw18_LexerPlaces.l0] at H
   by_cases c6 : x35_1 < (t416.length : Int)
   rotate_left
   ·
    rw [if_neg c6] at H
    have c6b0 : decide (x35_1 < (t416.length : Int)) = false := decide_eq_false c6
    clear c6
    by_cases c29 : (t416.length : Int) > 0
    rotate_left
    ·
     rw [if_neg c29] at H
     exact absurd H (by simp)
    rw [if_pos c29] at H
    have c29b0 : decide (0 < (t416.length : Int)) = true := decide_eq_true c29
    have c29b1 : decide (0 < t416.length) = true := decide_eq_true (by omega)
    clear c29
    by_cases c30 : x6_1 = (a0.size : Int)
    rotate_left
    ·
     rw [if_neg c30] at H
     exact absurd H (by simp)
    rw [if_pos c30] at H
    have c30b0 : (x6_1 == (a0.size : Int)) = true := beq_iff_eq.mpr c30
    have c30b1 : (x6_1 != (a0.size : Int)) = false := bne_eq_false_iff_eq.mpr c30
    clear c30
    replace H := Option.bind_eq_some_iff.mp H
    obtain ⟨t422, A310, H⟩ := H
    have A31 := Aside0.mk A310
    clear A310
    obtain rfl := Option.some.inj H
    go_wp2_with (first | (go_at_call 12; (with_reducible refine (skerrylaw18_lives.calls k1  t422 _ A31.out).mono ?_); rintro e w32 ⟨rfl, hb⟩; replace HO_3 := kR HO_3 hb; replace HO_33 := kR HO_33 hb; replace HB := Aside0.mk (below_step (kwW HB) hb); (try clear hb); (try clear hb2); (try clear hk); (try clear hi)))
    repeat (go_quiet (first | (go_at_call 12; (with_reducible refine (skerrylaw18_lives.calls k1  t422 _ A31.out).mono ?_); rintro e w32 ⟨rfl, hb⟩; replace HO_3 := kR HO_3 hb; replace HO_33 := kR HO_33 hb; replace HB := Aside0.mk (below_step (kwW HB) hb); (try clear hb); (try clear hb2); (try clear hk); (try clear hi))); try go_wp2_with (first | (go_at_call 12; (with_reducible refine (skerrylaw18_lives.calls k1  t422 _ A31.out).mono ?_); rintro e w32 ⟨rfl, hb⟩; replace HO_3 := kR HO_3 hb; replace HO_33 := kR HO_33 hb; replace HB := Aside0.mk (below_step (kwW HB) hb); (try clear hb); (try clear hb2); (try clear hk); (try clear hi))))
    go_ret
    exact ⟨by first | rfl | (simp <;> rfl) | (simp [*] <;> rfl), kwW HB⟩
   rw [if_pos c6] at H
   have c6b0 : decide (x35_1 < (t416.length : Int)) = true := decide_eq_true c6
   clear c6
   by_cases c7 : 0 ≤ x35_1
   rotate_left
   ·
    rw [if_neg c7] at H
    exact absurd H (by simp)
   rw [if_pos c7] at H
   have c7b0 : decide (0 ≤ x35_1) = true := decide_eq_true c7
   clear c7
   by_cases c8 : x35_1 < (t416.length : Int)
   rotate_left
   ·
    rw [if_neg c8] at H
    exact absurd H (by simp)
   rw [if_pos c8] at H
   have c8b0 : decide (x35_1 < (t416.length : Int)) = true := decide_eq_true c8
   clear c8
   have HC9 := Aside0.mk H
   clear H
   have p423 : 0 ≤ (x35_1 : Int) := of_decide_eq_true (by first | (with_reducible assumption) | assumption)
   have q423 : x35_1 < (t416.length : Int) := of_decide_eq_true (by first | (with_reducible assumption) | assumption)
   obtain ⟨ad423, e423, hx423_0, hx423_1, hx423_2, hx423_3, hx423_4, hx423_5, hx423_6⟩ := at_T25 (Kd.R_reads' HO_33.out).2.2 x35_1 p423 q423
   cases e423
   replace p423 := eq_true p423
   replace q423 := eq_true q423
   go_upto_region 8 with (first | ((with_reducible refine gate_dst (N := 8) rfl ?_); (try (refine gate_guard (by rfl) ?_; dsimp only)); refine box_event ?hg (N := 8) ?hd (cs := #[.int .i64 0, .string (⟨#[]⟩ : ByteArray), .int .i64 0, .int .i64 0, .string (⟨#[]⟩ : ByteArray), .int .i64 0, .int .i64 0]) (t := 25) ?hr ?_; (case hd => rfl); (case hg => rfl); (case hr => first | (go_simp; done) | (go_simp; rfl)); intro gb424 hg w10 hbox hb; replace HO_3 := Aside0.mk (Kd.R_below (Kd.R_elderB (krW HO_3) gb424 (Nat.le_of_eq hg.symm)) hb); replace HO_33 := Aside0.mk (Kd.R_below (Kd.R_elderB (krW HO_33) gb424 (Nat.le_of_eq hg.symm)) hb); have BK424 := Aside0.mk (hbox); have GW424 := Aside0.mk ((by rw [hg]; exact (bZ_ (kwW HB)) : w.heap.size ≤ gb424)); replace HB := Aside0.mk (below_step (kwW HB) hb); have GE424 := GW424; clear hb hbox hg; obtain ⟨hcz11_0, hcz11_1, hcz11_2, hcz11_3, hcz11_4, hcz11_5, hcz11_6, hfz11_0, hfz11_1, hfz11_2, hfz11_3, hfz11_4, hfz11_5, hfz11_6⟩ := czf7 BK424))
   repeat (go_quiet (first | ((with_reducible refine gate_dst (N := 8) rfl ?_); (try (refine gate_guard (by rfl) ?_; dsimp only)); refine box_event ?hg (N := 8) ?hd (cs := #[.int .i64 0, .string (⟨#[]⟩ : ByteArray), .int .i64 0, .int .i64 0, .string (⟨#[]⟩ : ByteArray), .int .i64 0, .int .i64 0]) (t := 25) ?hr ?_; (case hd => rfl); (case hg => rfl); (case hr => first | (go_simp; done) | (go_simp; rfl)); intro gb424 hg w10 hbox hb; replace HO_3 := Aside0.mk (Kd.R_below (Kd.R_elderB (krW HO_3) gb424 (Nat.le_of_eq hg.symm)) hb); replace HO_33 := Aside0.mk (Kd.R_below (Kd.R_elderB (krW HO_33) gb424 (Nat.le_of_eq hg.symm)) hb); have BK424 := Aside0.mk (hbox); have GW424 := Aside0.mk ((by rw [hg]; exact (bZ_ (kwW HB)) : w.heap.size ≤ gb424)); replace HB := Aside0.mk (below_step (kwW HB) hb); have GE424 := GW424; clear hb hbox hg; obtain ⟨hcz11_0, hcz11_1, hcz11_2, hcz11_3, hcz11_4, hcz11_5, hcz11_6, hfz11_0, hfz11_1, hfz11_2, hfz11_3, hfz11_4, hfz11_5, hfz11_6⟩ := czf7 BK424)); go_upto_region 8 with (first | ((with_reducible refine gate_dst (N := 8) rfl ?_); (try (refine gate_guard (by rfl) ?_; dsimp only)); refine box_event ?hg (N := 8) ?hd (cs := #[.int .i64 0, .string (⟨#[]⟩ : ByteArray), .int .i64 0, .int .i64 0, .string (⟨#[]⟩ : ByteArray), .int .i64 0, .int .i64 0]) (t := 25) ?hr ?_; (case hd => rfl); (case hg => rfl); (case hr => first | (go_simp; done) | (go_simp; rfl)); intro gb424 hg w10 hbox hb; replace HO_3 := Aside0.mk (Kd.R_below (Kd.R_elderB (krW HO_3) gb424 (Nat.le_of_eq hg.symm)) hb); replace HO_33 := Aside0.mk (Kd.R_below (Kd.R_elderB (krW HO_33) gb424 (Nat.le_of_eq hg.symm)) hb); have BK424 := Aside0.mk (hbox); have GW424 := Aside0.mk ((by rw [hg]; exact (bZ_ (kwW HB)) : w.heap.size ≤ gb424)); replace HB := Aside0.mk (below_step (kwW HB) hb); have GE424 := GW424; clear hb hbox hg; obtain ⟨hcz11_0, hcz11_1, hcz11_2, hcz11_3, hcz11_4, hcz11_5, hcz11_6, hfz11_0, hfz11_1, hfz11_2, hfz11_3, hfz11_4, hfz11_5, hfz11_6⟩ := czf7 BK424)))
   (try simp only [Act.put, List.setIfInBounds_toArray, List.set_cons_zero, List.set_cons_succ])
   go_cut [79] (fun v79 wc => ∃ (kq : Nat) (x79_8 : Bool), v79 = .bool x79_8 ∧ Aside0 (skerrylaw18_LexerPlaces.j1 kq a0 t416 t416 (t416.length : Int) x35_1 x79_8 ((rd_T25 t416 x35_1).f0) ((rd_T25 t416 x35_1).f1) ((rd_T25 t416 x35_1).f2.f0) ((rd_T25 t416 x35_1).f2.f1) ((rd_T25 t416 x35_1).f2.f2) ((rd_T25 t416 x35_1).f3) ((rd_T25 t416 x35_1).f4) = some r) ∧ Aside0 (kq ≤ k1) ∧ Aside0 (Kd.R k25 25 wc w.heap.size (fun k_ => k_ ≠ gb424) (.slice (some ad423) t416.length co5) t416) ∧ Aside0 (Kd.R k25 25 wc w.heap.size (fun k_ => k_ ≠ gb424) (.slice (some ad423) t416.length co5) t416) ∧ Aside0 (wc.heap[gb424]? = some (.cells #[.int .i64 ((rd_T25 t416 x35_1).f0), .string ((rd_T25 t416 x35_1).f1), .int .i64 ((rd_T25 t416 x35_1).f2.f0), .int .i64 ((rd_T25 t416 x35_1).f2.f1), .string ((rd_T25 t416 x35_1).f2.f2), .int .i64 ((rd_T25 t416 x35_1).f3), .int .i64 ((rd_T25 t416 x35_1).f4)] 25 (0, 0))) ∧ Aside0 (Below w.heap.size w wc))
   case first =>
    have H := HC9.out
    clear HC9
    by_cases c12 : ((rd_T25 t416 x35_1).f3) < x6_1
    ·
     rw [if_pos c12] at H
     have c12b0 : decide (((rd_T25 t416 x35_1).f3) < x6_1) = true := decide_eq_true c12
     clear c12
     (first | rw [c12b0] | (simp only [i64_w, i32_w]; rw [c12b0]) | skip)
     have H' := Aside0.mk H
     clear H
     obtain ⟨hcz13_0, hcz13_1, hcz13_2, hcz13_3, hcz13_4, hcz13_5, hcz13_6, hfz13_0, hfz13_1, hfz13_2, hfz13_3, hfz13_4, hfz13_5, hfz13_6⟩ := czf7 BK424
     go_wp2
     repeat (go_quiet (fail); try go_wp2)
     go_meet
     case rel => exact ⟨_, (true), (by first | rfl | (simp; done) | (simp [bne, *]; done)), H', ⟨by have := HK1.out; first | omega | exact Nat.le_refl _⟩, ⟨by (with_reducible repeat (first | apply Kd.R_alloc | apply Kd.R_drewN | apply Kd.R_drew)); exact Kd.R_mono (rf7 (Kd.R_mono HO_3.out (fun k_ hk => (⟨hk, hk.2⟩ : _ ∧ k_ ≠ gb424))) (fun _ hk => hk.2)) (fun _ hk => hk.1.2)⟩, ⟨by (with_reducible repeat (first | apply Kd.R_alloc | apply Kd.R_drewN | apply Kd.R_drew)); exact Kd.R_mono (rf7 (Kd.R_mono HO_33.out (fun k_ hk => (⟨hk, hk.2⟩ : _ ∧ k_ ≠ gb424))) (fun _ hk => hk.2)) (fun _ hk => hk.1.2)⟩, ⟨by (with_reducible repeat (first | refine blk_drewN ?_ _ | refine blk_drew ?_ | refine blk_alloc ?_ _)); exact bp7 (kbW BK424)⟩, ⟨by repeat (first | (with_reducible first | exact HB.out | apply bA_ | apply bN_ | apply bD_ | refine bS_ ?_ GE424) | exact HB.out)⟩⟩
    ·
     rw [if_neg c12] at H
     have c12b0 : decide (((rd_T25 t416 x35_1).f3) < x6_1) = false := decide_eq_false c12
     clear c12
     (first | rw [c12b0] | (simp only [i64_w, i32_w]; rw [c12b0]) | skip)
     by_cases c14 : ((rd_T25 t416 x35_1).f4) < ((rd_T25 t416 x35_1).f3)
     ·
      rw [if_pos c14] at H
      have c14b0 : decide (((rd_T25 t416 x35_1).f4) < ((rd_T25 t416 x35_1).f3)) = true := decide_eq_true c14
      clear c14
      have H' := Aside0.mk H
      clear H
      obtain ⟨hcz15_0, hcz15_1, hcz15_2, hcz15_3, hcz15_4, hcz15_5, hcz15_6, hfz15_0, hfz15_1, hfz15_2, hfz15_3, hfz15_4, hfz15_5, hfz15_6⟩ := czf7 BK424
      go_wp2
      repeat (go_quiet (fail); try go_wp2)
      go_meet
      case rel => exact ⟨_, (true), (by first | rfl | (simp; done) | (simp [bne, *]; done)), H', ⟨by have := HK1.out; first | omega | exact Nat.le_refl _⟩, ⟨by (with_reducible repeat (first | apply Kd.R_alloc | apply Kd.R_drewN | apply Kd.R_drew)); exact Kd.R_mono (rf7 (Kd.R_mono HO_3.out (fun k_ hk => (⟨hk, hk.2⟩ : _ ∧ k_ ≠ gb424))) (fun _ hk => hk.2)) (fun _ hk => hk.1.2)⟩, ⟨by (with_reducible repeat (first | apply Kd.R_alloc | apply Kd.R_drewN | apply Kd.R_drew)); exact Kd.R_mono (rf7 (Kd.R_mono HO_33.out (fun k_ hk => (⟨hk, hk.2⟩ : _ ∧ k_ ≠ gb424))) (fun _ hk => hk.2)) (fun _ hk => hk.1.2)⟩, ⟨by (with_reducible repeat (first | refine blk_drewN ?_ _ | refine blk_drew ?_ | refine blk_alloc ?_ _)); exact bp7 (kbW BK424)⟩, ⟨by repeat (first | (with_reducible first | exact HB.out | apply bA_ | apply bN_ | apply bD_ | refine bS_ ?_ GE424) | exact HB.out)⟩⟩
     ·
      rw [if_neg c14] at H
      have c14b0 : decide (((rd_T25 t416 x35_1).f4) < ((rd_T25 t416 x35_1).f3)) = false := decide_eq_false c14
      clear c14
      by_cases c16 : ((rd_T25 t416 x35_1).f4) > (a0.size : Int)
      ·
       rw [if_pos c16] at H
       have c16b0 : decide ((a0.size : Int) < ((rd_T25 t416 x35_1).f4)) = true := decide_eq_true c16
       clear c16
       have H' := Aside0.mk H
       clear H
       obtain ⟨hcz17_0, hcz17_1, hcz17_2, hcz17_3, hcz17_4, hcz17_5, hcz17_6, hfz17_0, hfz17_1, hfz17_2, hfz17_3, hfz17_4, hfz17_5, hfz17_6⟩ := czf7 BK424
       go_wp2
       repeat (go_quiet (fail); try go_wp2)
       go_meet
       case rel => exact ⟨_, (true), (by first | rfl | (simp; done) | (simp [bne, *]; done)), H', ⟨by have := HK1.out; first | omega | exact Nat.le_refl _⟩, ⟨by (with_reducible repeat (first | apply Kd.R_alloc | apply Kd.R_drewN | apply Kd.R_drew)); exact Kd.R_mono (rf7 (Kd.R_mono HO_3.out (fun k_ hk => (⟨hk, hk.2⟩ : _ ∧ k_ ≠ gb424))) (fun _ hk => hk.2)) (fun _ hk => hk.1.2)⟩, ⟨by (with_reducible repeat (first | apply Kd.R_alloc | apply Kd.R_drewN | apply Kd.R_drew)); exact Kd.R_mono (rf7 (Kd.R_mono HO_33.out (fun k_ hk => (⟨hk, hk.2⟩ : _ ∧ k_ ≠ gb424))) (fun _ hk => hk.2)) (fun _ hk => hk.1.2)⟩, ⟨by (with_reducible repeat (first | refine blk_drewN ?_ _ | refine blk_drew ?_ | refine blk_alloc ?_ _)); exact bp7 (kbW BK424)⟩, ⟨by repeat (first | (with_reducible first | exact HB.out | apply bA_ | apply bN_ | apply bD_ | refine bS_ ?_ GE424) | exact HB.out)⟩⟩
      ·
       rw [if_neg c16] at H
       have c16b0 : decide ((a0.size : Int) < ((rd_T25 t416 x35_1).f4)) = false := decide_eq_false c16
       clear c16
       by_cases c18 : ((((rd_T25 t416 x35_1).f4) == ((rd_T25 t416 x35_1).f3)) != (((rd_T25 t416 x35_1).f0) == 0)) = true
       rotate_left
       ·
        rw [if_neg c18] at H
        have c18b0 : ((((rd_T25 t416 x35_1).f4) == ((rd_T25 t416 x35_1).f3)) != (((rd_T25 t416 x35_1).f0) == 0)) = false := by simpa using c18
        (try (have c18b1 : decide ((((rd_T25 t416 x35_1).f4) == ((rd_T25 t416 x35_1).f3)) = (((rd_T25 t416 x35_1).f0) == 0)) = true := by simpa using c18))
        (try (have c18b2 : ((((rd_T25 t416 x35_1).f4) == ((rd_T25 t416 x35_1).f3)) == (((rd_T25 t416 x35_1).f0) == 0)) = true := by simpa using c18))
        clear c18
        have H' := Aside0.mk H
        clear H
        obtain ⟨hcz20_0, hcz20_1, hcz20_2, hcz20_3, hcz20_4, hcz20_5, hcz20_6, hfz20_0, hfz20_1, hfz20_2, hfz20_3, hfz20_4, hfz20_5, hfz20_6⟩ := czf7 BK424
        go_wp2
        repeat (go_quiet (fail); try go_wp2)
        go_meet
        case rel => exact ⟨_, ((((wrap64 (x35_1 + 1)) == (t416.length : Int)) != (((rd_T25 t416 x35_1).f0) == 0))), (by first | rfl | (simp; done) | (simp [bne, *]; done)), H', ⟨by have := HK1.out; first | omega | exact Nat.le_refl _⟩, ⟨by (with_reducible repeat (first | apply Kd.R_alloc | apply Kd.R_drewN | apply Kd.R_drew)); exact Kd.R_mono (rf7 (Kd.R_mono HO_3.out (fun k_ hk => (⟨hk, hk.2⟩ : _ ∧ k_ ≠ gb424))) (fun _ hk => hk.2)) (fun _ hk => hk.1.2)⟩, ⟨by (with_reducible repeat (first | apply Kd.R_alloc | apply Kd.R_drewN | apply Kd.R_drew)); exact Kd.R_mono (rf7 (Kd.R_mono HO_33.out (fun k_ hk => (⟨hk, hk.2⟩ : _ ∧ k_ ≠ gb424))) (fun _ hk => hk.2)) (fun _ hk => hk.1.2)⟩, ⟨by (with_reducible repeat (first | refine blk_drewN ?_ _ | refine blk_drew ?_ | refine blk_alloc ?_ _)); exact bp7 (kbW BK424)⟩, ⟨by repeat (first | (with_reducible first | exact HB.out | apply bA_ | apply bN_ | apply bD_ | refine bS_ ?_ GE424) | exact HB.out)⟩⟩
       rw [if_pos c18] at H
       have c18b0 : ((((rd_T25 t416 x35_1).f4) == ((rd_T25 t416 x35_1).f3)) != (((rd_T25 t416 x35_1).f0) == 0)) = true := c18
       (try (have c18b1 : decide ((((rd_T25 t416 x35_1).f4) == ((rd_T25 t416 x35_1).f3)) = (((rd_T25 t416 x35_1).f0) == 0)) = false := by simpa using c18))
       (try (have c18b2 : ((((rd_T25 t416 x35_1).f4) == ((rd_T25 t416 x35_1).f3)) == (((rd_T25 t416 x35_1).f0) == 0)) = false := by simpa using c18))
       (try (have c18b3 : ¬ ((((rd_T25 t416 x35_1).f4) == ((rd_T25 t416 x35_1).f3)) = (((rd_T25 t416 x35_1).f0) == 0)) := by simpa using c18))
       clear c18
       have H' := Aside0.mk H
       clear H
       obtain ⟨hcz19_0, hcz19_1, hcz19_2, hcz19_3, hcz19_4, hcz19_5, hcz19_6, hfz19_0, hfz19_1, hfz19_2, hfz19_3, hfz19_4, hfz19_5, hfz19_6⟩ := czf7 BK424
       go_wp2
       repeat (go_quiet (fail); try go_wp2)
       go_meet
       case rel => exact ⟨_, (true), (by first | rfl | (simp; done) | (simp [bne, *]; done)), H', ⟨by have := HK1.out; first | omega | exact Nat.le_refl _⟩, ⟨by (with_reducible repeat (first | apply Kd.R_alloc | apply Kd.R_drewN | apply Kd.R_drew)); exact Kd.R_mono (rf7 (Kd.R_mono HO_3.out (fun k_ hk => (⟨hk, hk.2⟩ : _ ∧ k_ ≠ gb424))) (fun _ hk => hk.2)) (fun _ hk => hk.1.2)⟩, ⟨by (with_reducible repeat (first | apply Kd.R_alloc | apply Kd.R_drewN | apply Kd.R_drew)); exact Kd.R_mono (rf7 (Kd.R_mono HO_33.out (fun k_ hk => (⟨hk, hk.2⟩ : _ ∧ k_ ≠ gb424))) (fun _ hk => hk.2)) (fun _ hk => hk.1.2)⟩, ⟨by (with_reducible repeat (first | refine blk_drewN ?_ _ | refine blk_drew ?_ | refine blk_alloc ?_ _)); exact bp7 (kbW BK424)⟩, ⟨by repeat (first | (with_reducible first | exact HB.out | apply bA_ | apply bN_ | apply bD_ | refine bS_ ?_ GE424) | exact HB.out)⟩⟩
   case rest =>
    clear HC9
    try clear c1
    try clear p2
    try clear c3
    try clear c3b0
    try clear c3b1
    try clear p4
    try clear q4
    try clear hx4
    try clear c5
    try clear c6
    try clear c6b0
    try clear p6
    try clear c7
    try clear c7b0
    try clear c8
    try clear c8b0
    try clear c12
    try clear c12b0
    try clear c14
    try clear c14b0
    try clear c16
    try clear c16b0
    try clear c18
    try clear c18b0
    try clear c18b1
    try clear c18b2
    try clear hcz11_0
    try clear hcz11_1
    try clear hcz11_2
    try clear hcz11_3
    try clear hcz11_4
    try clear hcz11_5
    try clear hcz11_6
    try clear hcz13_0
    try clear hcz13_1
    try clear hcz13_2
    try clear hcz13_3
    try clear hcz13_4
    try clear hcz13_5
    try clear hcz13_6
    try clear hcz15_0
    try clear hcz15_1
    try clear hcz15_2
    try clear hcz15_3
    try clear hcz15_4
    try clear hcz15_5
    try clear hcz15_6
    try clear hcz17_0
    try clear hcz17_1
    try clear hcz17_2
    try clear hcz17_3
    try clear hcz17_4
    try clear hcz17_5
    try clear hcz17_6
    try clear hcz19_0
    try clear hcz19_1
    try clear hcz19_2
    try clear hcz19_3
    try clear hcz19_4
    try clear hcz19_5
    try clear hcz19_6
    try clear hcz20_0
    try clear hcz20_1
    try clear hcz20_2
    try clear hcz20_3
    try clear hcz20_4
    try clear hcz20_5
    try clear hcz20_6
    try clear hfz11_0
    try clear hfz11_1
    try clear hfz11_2
    try clear hfz11_3
    try clear hfz11_4
    try clear hfz11_5
    try clear hfz11_6
    try clear hfz13_0
    try clear hfz13_1
    try clear hfz13_2
    try clear hfz13_3
    try clear hfz13_4
    try clear hfz13_5
    try clear hfz13_6
    try clear hfz15_0
    try clear hfz15_1
    try clear hfz15_2
    try clear hfz15_3
    try clear hfz15_4
    try clear hfz15_5
    try clear hfz15_6
    try clear hfz17_0
    try clear hfz17_1
    try clear hfz17_2
    try clear hfz17_3
    try clear hfz17_4
    try clear hfz17_5
    try clear hfz17_6
    try clear hfz19_0
    try clear hfz19_1
    try clear hfz19_2
    try clear hfz19_3
    try clear hfz19_4
    try clear hfz19_5
    try clear hfz19_6
    try clear hfz20_0
    try clear hfz20_1
    try clear hfz20_2
    try clear hfz20_3
    try clear hfz20_4
    try clear hfz20_5
    try clear hfz20_6
    try clear hx423_0
    try clear hx423_1
    try clear hx423_2
    try clear hx423_3
    try clear hx423_4
    try clear hx423_5
    try clear hx423_6
    try clear p2
    try clear p423
    try clear q423
    obtain ⟨kq, x79_8, rfl, HA, HJ8, HO_3, HO_33, BK424, HB⟩ := hcut
    cases kq with
    | zero => exact absurd HA.out (by simp [skerrylaw18_LexerPlaces.j1])
    | succ kj8 =>
     have H := HA.out
     clear HA
     simp only [skerrylaw18_LexerPlaces.j1] at H
     by_cases c21 : x79_8 = true
     ·
      subst c21
      have H1 : (none) = some r := by rw [if_pos rfl] at H; exact H
      clear H
      have H := H1
      clear H1
      exact absurd H (by simp)
     ·
      replace c21 := Bool.eq_false_iff.mpr c21
      subst c21
      have H1 : (if ((rd_T25 t416 x35_1).f0) = 1 then (if 0 ≤ ((rd_T25 t416 x35_1).f3) then (if ((rd_T25 t416 x35_1).f3) ≤ ((rd_T25 t416 x35_1).f4) then (if ((rd_T25 t416 x35_1).f4) ≤ (a0.size : Int) then (if (a0.extract (((rd_T25 t416 x35_1).f3) : Int).toNat (((rd_T25 t416 x35_1).f4) : Int).toNat).toList = ((rd_T25 t416 x35_1).f1).toList then (skerrylaw18_LexerPlaces.l0 kj8 a0 t416 ((rd_T25 t416 x35_1).f4) t416 (t416.length : Int) (wrap64 (x35_1 + 1))) else (none)) else (none)) else (none)) else (none)) else (skerrylaw18_LexerPlaces.l0 kj8 a0 t416 ((rd_T25 t416 x35_1).f4) t416 (t416.length : Int) (wrap64 (x35_1 + 1)))) = some r := by rw [if_neg (show ¬ (false = true) by decide)] at H; exact H
      clear H
      have H := H1
      clear H1
      by_cases c22 : ((rd_T25 t416 x35_1).f0) = 1
      rotate_left
      ·
       rw [if_neg c22] at H
       have c22b0 : (((rd_T25 t416 x35_1).f0) == 1) = false := beq_eq_false_iff_ne.mpr c22
       have c22b1 : (((rd_T25 t416 x35_1).f0) != 1) = true := bne_iff_ne.mpr c22
       have H' := Aside0.mk H
       clear H
       obtain ⟨_, _, _, _, _, _, _, _, _, _, _, _, _, _⟩ := czf7 BK424
       go_wp2
       repeat (go_quiet (fail); try go_wp2)
       go_roundg kj8
       case measure => have := HK1.out; have := HJ8.out; omega
       case rel => exact ⟨(((rd_T25 t416 x35_1).f4)), (wrap64 (x35_1 + 1)), (by first | rfl | (simp; done) | (simp [bne, *]; done)), (by first | rfl | (simp; done) | (simp [bne, *]; done)), H', ⟨by have := HK1.out; have := HJ8.out; omega⟩, ⟨by (with_reducible repeat (first | apply Kd.R_alloc | apply Kd.R_drewN | apply Kd.R_drew)); exact Kd.R_mono HO_3.out (fun _ hk => trivial)⟩, ⟨by (with_reducible repeat (first | apply Kd.R_alloc | apply Kd.R_drewN | apply Kd.R_drew)); exact Kd.R_mono HO_33.out (fun _ hk => trivial)⟩, ⟨by repeat (first | (with_reducible first | exact HB.out | apply bA_ | apply bN_ | apply bD_ | refine bS_ ?_ GE424) | exact HB.out)⟩⟩
      rw [if_pos c22] at H
      have c22b0 : (((rd_T25 t416 x35_1).f0) == 1) = true := beq_iff_eq.mpr c22
      have c22b1 : (((rd_T25 t416 x35_1).f0) != 1) = false := bne_eq_false_iff_eq.mpr c22
      clear c22
      by_cases c23 : 0 ≤ ((rd_T25 t416 x35_1).f3)
      rotate_left
      ·
       rw [if_neg c23] at H
       exact absurd H (by simp)
      rw [if_pos c23] at H
      have c23b0 := eq_true c23
      have c23b1 : decide (0 ≤ ((rd_T25 t416 x35_1).f3)) = true := decide_eq_true c23
      clear c23
      by_cases c24 : ((rd_T25 t416 x35_1).f3) ≤ ((rd_T25 t416 x35_1).f4)
      rotate_left
      ·
       rw [if_neg c24] at H
       exact absurd H (by simp)
      rw [if_pos c24] at H
      have c24b0 := eq_true c24
      have c24b1 : decide (((rd_T25 t416 x35_1).f3) ≤ ((rd_T25 t416 x35_1).f4)) = true := decide_eq_true c24
      clear c24
      by_cases c25 : ((rd_T25 t416 x35_1).f4) ≤ (a0.size : Int)
      rotate_left
      ·
       rw [if_neg c25] at H
       exact absurd H (by simp)
      rw [if_pos c25] at H
      have c25b0 := eq_true c25
      have c25b1 : decide (((rd_T25 t416 x35_1).f4) ≤ (a0.size : Int)) = true := decide_eq_true c25
      clear c25
      by_cases c26 : (a0.extract (((rd_T25 t416 x35_1).f3) : Int).toNat (((rd_T25 t416 x35_1).f4) : Int).toNat).toList = ((rd_T25 t416 x35_1).f1).toList
      rotate_left
      ·
       rw [if_neg c26] at H
       exact absurd H (by simp)
      rw [if_pos c26] at H
      have c26b0 : ((a0.extract (((rd_T25 t416 x35_1).f3) : Int).toNat (((rd_T25 t416 x35_1).f4) : Int).toNat).toList == ((rd_T25 t416 x35_1).f1).toList) = true := beq_iff_eq.mpr c26
      have c26b1 : ((a0.extract (((rd_T25 t416 x35_1).f3) : Int).toNat (((rd_T25 t416 x35_1).f4) : Int).toNat).toList != ((rd_T25 t416 x35_1).f1).toList) = false := bne_eq_false_iff_eq.mpr c26
      clear c26
      have H' := Aside0.mk H
      clear H
      obtain ⟨_, _, _, _, _, _, _, _, _, _, _, _, _, _⟩ := czf7 BK424
      go_wp2
      repeat (go_quiet (fail); try go_wp2)
      go_roundg kj8
      case measure => have := HK1.out; have := HJ8.out; omega
      case rel => exact ⟨(((rd_T25 t416 x35_1).f4)), (wrap64 (x35_1 + 1)), (by first | rfl | (simp; done) | (simp [bne, *]; done)), (by first | rfl | (simp; done) | (simp [bne, *]; done)), H', ⟨by have := HK1.out; have := HJ8.out; omega⟩, ⟨by (with_reducible repeat (first | apply Kd.R_alloc | apply Kd.R_drewN | apply Kd.R_drew)); exact Kd.R_mono HO_3.out (fun _ hk => trivial)⟩, ⟨by (with_reducible repeat (first | apply Kd.R_alloc | apply Kd.R_drewN | apply Kd.R_drew)); exact Kd.R_mono HO_33.out (fun _ hk => trivial)⟩, ⟨by repeat (first | (with_reducible first | exact HB.out | apply bA_ | apply bN_ | apply bD_ | refine bS_ ?_ GE424) | exact HB.out)⟩⟩
end Go.Proofs.YtfaogccfiklinaaDoor.Q
