/- Lemmas for this claim's walk: no condition of their own. -/
import Derived.Test.YtfaogccfiklinaaDoorKfSq
import Derived.Test.YtfaogccfiklinaaDoorKfQx0
import Derived.Test.YtfaogccfiklinaaDoorKfJ12
import Derived.Test.YtfaogccfiklinaaDoorKfQx26
import Derived.Test.YtfaogccfiklinaaDoorKfQx28
namespace Go.Proofs.YtfaogccfiklinaaDoor.Q
open Go.RowKit Go.Proofs.YtfaogccfiklinaaDoorW.PrintWords Go.Proofs.YtfaogccfiklinaaDoorW.PrintLast Go.Proofs.YtfaogccfiklinaaDoorW.PrintMore
attribute [local go_sem] max2_int min2_int max_two min_two max_three min_three max_four min_four
set_option linter.unusedVariables false
set_option linter.unusedSimpArgs false
attribute [local go_sem high] eqA25
theorem far7 {w : World} {A : Addr} {v : Value} (h : w.cell? A = some v) (g : Nat) (hne : A.block ≠ g) (u0 u1 u2 u3 u4 u5 u6 : Value) : (((((((w.setCell ⟨g, 0, none⟩ u0).setCell ⟨g, 1, none⟩ u1).setCell ⟨g, 2, none⟩ u2).setCell ⟨g, 3, none⟩ u3).setCell ⟨g, 4, none⟩ u4).setCell ⟨g, 5, none⟩ u5).setCell ⟨g, 6, none⟩ u6).cell? A = some v :=
 (cell_far (p := ⟨g, 6, none⟩) hne u6).trans ((cell_far (p := ⟨g, 5, none⟩) hne u5).trans ((cell_far (p := ⟨g, 4, none⟩) hne u4).trans ((cell_far (p := ⟨g, 3, none⟩) hne u3).trans ((cell_far (p := ⟨g, 2, none⟩) hne u2).trans ((cell_far (p := ⟨g, 1, none⟩) hne u1).trans ((cell_far (p := ⟨g, 0, none⟩) hne u0).trans h))))))
theorem blk_far7 {w : World} {g0 : Nat} {o : Obj} (h : w.heap[g0]? = some o) (g : Nat) (hne : g0 ≠ g) (u0 u1 u2 u3 u4 u5 u6 : Value) : (((((((w.setCell ⟨g, 0, none⟩ u0).setCell ⟨g, 1, none⟩ u1).setCell ⟨g, 2, none⟩ u2).setCell ⟨g, 3, none⟩ u3).setCell ⟨g, 4, none⟩ u4).setCell ⟨g, 5, none⟩ u5).setCell ⟨g, 6, none⟩ u6).heap[g0]? = some o :=
 (Below.heap_setCell _ ⟨g, 6, none⟩ u6 g0 hne).trans ((Below.heap_setCell _ ⟨g, 5, none⟩ u5 g0 hne).trans ((Below.heap_setCell _ ⟨g, 4, none⟩ u4 g0 hne).trans ((Below.heap_setCell _ ⟨g, 3, none⟩ u3 g0 hne).trans ((Below.heap_setCell _ ⟨g, 2, none⟩ u2 g0 hne).trans ((Below.heap_setCell _ ⟨g, 1, none⟩ u1 g0 hne).trans ((Below.heap_setCell _ ⟨g, 0, none⟩ u0 g0 hne).trans h))))))
mutual
def skerrylaw18_LexerJoins.j0 : Nat → ByteArray → ByteArray → List (S25) → List (S25) → Bool → Option (Bool)
 | 0, _, _, _, _, _ => none
 | k + 1, x0, x1, x5, x8, x43 => if x43 = true then ((skerrylaw18_lives.f k).bind fun t435 => (some t435)) else (if x0.size + 1 ≤ 9223372036854775807 then (if (x0 ++ (⟨#[10]⟩ : ByteArray)).size + x1.size ≤ 9223372036854775807 then ((lexer_Lex.f k ((x0 ++ (⟨#[10]⟩ : ByteArray)) ++ x1)).bind fun bt436 => (if bt436.2.2 = 0 then (skerrylaw18_LexerJoins.j1 k x0 x5 x8 bt436.1 ((bt436.1.length : Int) != (wrap64 ((wrap64 ((x5.length : Int) + (x8.length : Int))) - 1)))) else (skerrylaw18_LexerJoins.j1 k x0 x5 x8 bt436.1 true))) else (none)) else (none))
def skerrylaw18_LexerJoins.j1 : Nat → ByteArray → List (S25) → List (S25) → List (S25) → Bool → Option (Bool)
 | 0, _, _, _, _, _ => none
 | k + 1, x0, x5, x8, x11, x66 => if x66 = true then (none) else (skerrylaw18_LexerJoins.l0 k x0 x5 x8 x11 (x11.length : Int) 0)
def skerrylaw18_LexerJoins.l0 : Nat → ByteArray → List (S25) → List (S25) → List (S25) → Int → Int → Option (Bool)
 | 0, _, _, _, _, _, _ => none
 | k + 1, x0, x5, x8, x67, x68, x69 => if x69 < x68 then (if 0 ≤ x69 then (if x69 < (x67.length : Int) then (if x69 < (wrap64 ((x5.length : Int) - 1)) then (if x69 < (x5.length : Int) then (if (!(((rd_T25 x67 x69).f0) == ((rd_T25 x5 x69).f0)) || (!((((rd_T25 x67 x69).f1).toList) == (((rd_T25 x5 x69).f1).toList)) || ((!(((rd_T25 x67 x69).f2.f0) == ((rd_T25 x5 x69).f2.f0)) || (!(((rd_T25 x67 x69).f2.f1) == ((rd_T25 x5 x69).f2.f1)) || (!((((rd_T25 x67 x69).f2.f2).toList) == (((rd_T25 x5 x69).f2.f2).toList))))) || (!(((rd_T25 x67 x69).f3) == ((rd_T25 x5 x69).f3)) || (!(((rd_T25 x67 x69).f4) == ((rd_T25 x5 x69).f4))))))) = true then (none) else (skerrylaw18_LexerJoins.l0 k x0 x5 x8 x67 x68 (wrap64 (x69 + 1)))) else (none)) else (if 0 ≤ (wrap64 ((wrap64 (x69 - (x5.length : Int))) + 1)) then (if (wrap64 ((wrap64 (x69 - (x5.length : Int))) + 1)) < (x8.length : Int) then (if (!(((rd_T25 x67 x69).f0) == ((rd_T25 x8 (wrap64 ((wrap64 (x69 - (x5.length : Int))) + 1))).f0)) || (!((((rd_T25 x67 x69).f1).toList) == (((rd_T25 x8 (wrap64 ((wrap64 (x69 - (x5.length : Int))) + 1))).f1).toList)) || ((!(((rd_T25 x67 x69).f2.f0) == ((rd_T25 x8 (wrap64 ((wrap64 (x69 - (x5.length : Int))) + 1))).f2.f0)) || (!(((rd_T25 x67 x69).f2.f1) == ((rd_T25 x8 (wrap64 ((wrap64 (x69 - (x5.length : Int))) + 1))).f2.f1)) || (!((((rd_T25 x67 x69).f2.f2).toList) == (((rd_T25 x8 (wrap64 ((wrap64 (x69 - (x5.length : Int))) + 1))).f2.f2).toList))))) || (!(((rd_T25 x67 x69).f3) == (wrap64 (((rd_T25 x8 (wrap64 ((wrap64 (x69 - (x5.length : Int))) + 1))).f3) + (wrap64 ((x0.size : Int) + 1))))) || (!(((rd_T25 x67 x69).f4) == (wrap64 (((rd_T25 x8 (wrap64 ((wrap64 (x69 - (x5.length : Int))) + 1))).f4) + (wrap64 ((x0.size : Int) + 1)))))))))) = true then (none) else (skerrylaw18_LexerJoins.l0 k x0 x5 x8 x67 x68 (wrap64 (x69 + 1)))) else (none)) else (none))) else (none)) else (none)) else ((skerrylaw18_lives.f k).bind fun t441 => (some t441))
end
def skerrylaw18_LexerJoins.f (k : Nat) (a0 : ByteArray) (a1 : ByteArray) : Option (Bool) := (lexer_Lex.f k a0).bind fun bt425 => ((lexer_Lex.f k a1).bind fun bt430 => (if bt425.2.2 = 0 then (if bt430.2.2 = 0 then (skerrylaw18_LexerJoins.j0 k a0 a1 bt425.1 bt430.1 (decide ((wrap64 ((wrap64 ((a0.size : Int) + (a1.size : Int))) + 1)) > 600))) else (skerrylaw18_LexerJoins.j0 k a0 a1 bt425.1 bt430.1 true)) else (skerrylaw18_LexerJoins.j0 k a0 a1 bt425.1 bt430.1 true)))
set_option maxHeartbeats 8000000 in
set_option maxRecDepth 100000 in
theorem skerrylaw18_LexerJoins.calls (k : Nat) (a0 : ByteArray) (a1 : ByteArray) (r : Bool) (w : World) (h : skerrylaw18_LexerJoins.f k a0 a1 = some r) :
  Calls Tryd.prog 6 #[.string a0, .string a1] w fun e w' => e = .returned (.bool r) ∧ Below w.heap.size w w' := by
 have hu25 := Tryd.underlying25
 have HB := Aside0.mk (Below.refl w.heap.size w)
 have H : ((lexer_Lex.f k a0).bind fun bt425 => ((lexer_Lex.f k a1).bind fun bt430 => (if bt425.2.2 = 0 then (if bt430.2.2 = 0 then (skerrylaw18_LexerJoins.j0 k a0 a1 bt425.1 bt430.1 (decide ((wrap64 ((wrap64 ((a0.size : Int) + (a1.size : Int))) + 1)) > 600))) else (skerrylaw18_LexerJoins.j0 k a0 a1 bt425.1 bt430.1 true)) else (skerrylaw18_LexerJoins.j0 k a0 a1 bt425.1 bt430.1 true)))) = some r := h
 clear h
 replace H := Option.bind_eq_some_iff.mp H
 obtain ⟨⟨t425, t426, t427⟩, A30, H⟩ := H
 have A3 := Aside0.mk A30
 clear A30
 replace H := Option.bind_eq_some_iff.mp H
 obtain ⟨⟨t430, t431, t432⟩, A40, H⟩ := H
 have A4 := Aside0.mk A40
 clear A40
 have HC5 := Aside0.mk H
 clear H
 go_enter Tryd.func6, Tryd.ntmps6
 go_upto_region 3 with (first | (go_at_call 13; (with_reducible refine (lexer_Lex.calls k a0 t425 t426 t427 _ A3.out).mono ?_); rintro e w6 ⟨v428, rfl, ho0, hb⟩; have HO429 := Aside0.mk (Kd.R_lower ho0 (bZ_ (kwW HB))); replace HB := Aside0.mk (below_step (kwW HB) hb); (try clear hb); (try clear hb2); (try clear hk); (try clear hi); (try clear ho0)) | (go_at_call 13; (with_reducible refine (lexer_Lex.calls k a1 t430 t431 t432 _ A4.out).mono ?_); rintro e w7 ⟨v433, rfl, ho0, hb⟩; have HO434 := Aside0.mk (Kd.R_lower (Kd.R_new' ho0 (Kd.R_lt (krW HO429))) (bZ_ (kwW HB))); replace HO429 := Aside0.mk (Kd.R_elder' (krW HO429) (Kd.R_base ho0) hb); replace HB := Aside0.mk (below_step (kwW HB) hb); (try clear hb); (try clear hb2); (try clear hk); (try clear hi); (try clear ho0)))
 repeat (go_quiet (first | (go_at_call 13; (with_reducible refine (lexer_Lex.calls k a0 t425 t426 t427 _ A3.out).mono ?_); rintro e w6 ⟨v428, rfl, ho0, hb⟩; have HO429 := Aside0.mk (Kd.R_lower ho0 (bZ_ (kwW HB))); replace HB := Aside0.mk (below_step (kwW HB) hb); (try clear hb); (try clear hb2); (try clear hk); (try clear hi); (try clear ho0)) | (go_at_call 13; (with_reducible refine (lexer_Lex.calls k a1 t430 t431 t432 _ A4.out).mono ?_); rintro e w7 ⟨v433, rfl, ho0, hb⟩; have HO434 := Aside0.mk (Kd.R_lower (Kd.R_new' ho0 (Kd.R_lt (krW HO429))) (bZ_ (kwW HB))); replace HO429 := Aside0.mk (Kd.R_elder' (krW HO429) (Kd.R_base ho0) hb); replace HB := Aside0.mk (below_step (kwW HB) hb); (try clear hb); (try clear hb2); (try clear hk); (try clear hi); (try clear ho0))); go_upto_region 3 with (first | (go_at_call 13; (with_reducible refine (lexer_Lex.calls k a0 t425 t426 t427 _ A3.out).mono ?_); rintro e w6 ⟨v428, rfl, ho0, hb⟩; have HO429 := Aside0.mk (Kd.R_lower ho0 (bZ_ (kwW HB))); replace HB := Aside0.mk (below_step (kwW HB) hb); (try clear hb); (try clear hb2); (try clear hk); (try clear hi); (try clear ho0)) | (go_at_call 13; (with_reducible refine (lexer_Lex.calls k a1 t430 t431 t432 _ A4.out).mono ?_); rintro e w7 ⟨v433, rfl, ho0, hb⟩; have HO434 := Aside0.mk (Kd.R_lower (Kd.R_new' ho0 (Kd.R_lt (krW HO429))) (bZ_ (kwW HB))); replace HO429 := Aside0.mk (Kd.R_elder' (krW HO429) (Kd.R_base ho0) hb); replace HB := Aside0.mk (below_step (kwW HB) hb); (try clear hb); (try clear hb2); (try clear hk); (try clear hi); (try clear ho0))))
 (try simp only [Act.put, List.setIfInBounds_toArray, List.set_cons_zero, List.set_cons_succ])
 go_cut [43] (fun v43 wc => ∃ (kq : Nat) (x43_4 : Bool), v43 = .bool x43_4 ∧ Aside0 (skerrylaw18_LexerJoins.j0 kq a0 a1 t425 t430 x43_4 = some r) ∧ Aside0 (kq ≤ k) ∧ Aside0 (Kd.R k25 25 wc w.heap.size (fun k_ => some k_ ≠ (v433 : Value).ownBlock) v428 t425) ∧ Aside0 (Kd.R k25 25 wc w.heap.size (fun k_ => some k_ ≠ (v428 : Value).ownBlock) v433 t430) ∧ Aside0 (Below w.heap.size w wc))
 case first =>
  have H := HC5.out
  clear HC5
  by_cases c8 : t427 = 0
  rotate_left
  ·
   rw [if_neg c8] at H
   have c8b0 : (t427 == 0) = false := beq_eq_false_iff_ne.mpr c8
   have c8b1 : (t427 != 0) = true := bne_iff_ne.mpr c8
   (first | rw [c8b0] | (simp only [i64_w, i32_w]; rw [c8b0]) | skip)
   have H' := Aside0.mk H
   clear H
   go_wp2
   repeat (go_quiet (fail); try go_wp2)
   go_meet
   case rel => exact ⟨_, (true), (by first | rfl | (simp; done) | (simp [bne, *]; done)), H', ⟨by first | omega | exact Nat.le_refl _⟩, ⟨by (with_reducible repeat (first | apply Kd.R_alloc | apply Kd.R_drewN | apply Kd.R_drew)); exact Kd.R_mono HO429.out (fun _ hk => hk.2)⟩, ⟨by (with_reducible repeat (first | apply Kd.R_alloc | apply Kd.R_drewN | apply Kd.R_drew)); exact Kd.R_mono HO434.out (fun _ hk => hk.2)⟩, ⟨kwW HB⟩⟩
  rw [if_pos c8] at H
  have c8b0 : (t427 == 0) = true := beq_iff_eq.mpr c8
  have c8b1 : (t427 != 0) = false := bne_eq_false_iff_eq.mpr c8
  clear c8
  (first | rw [c8b0] | (simp only [i64_w, i32_w]; rw [c8b0]) | skip)
  by_cases c9 : t432 = 0
  rotate_left
  ·
   rw [if_neg c9] at H
   have c9b0 : (t432 == 0) = false := beq_eq_false_iff_ne.mpr c9
   have c9b1 : (t432 != 0) = true := bne_iff_ne.mpr c9
   have H' := Aside0.mk H
   clear H
   go_wp2
   repeat (go_quiet (fail); try go_wp2)
   go_meet
   case rel => exact ⟨_, (true), (by first | rfl | (simp; done) | (simp [bne, *]; done)), H', ⟨by first | omega | exact Nat.le_refl _⟩, ⟨by (with_reducible repeat (first | apply Kd.R_alloc | apply Kd.R_drewN | apply Kd.R_drew)); exact Kd.R_mono HO429.out (fun _ hk => hk.2)⟩, ⟨by (with_reducible repeat (first | apply Kd.R_alloc | apply Kd.R_drewN | apply Kd.R_drew)); exact Kd.R_mono HO434.out (fun _ hk => hk.2)⟩, ⟨kwW HB⟩⟩
  rw [if_pos c9] at H
  have c9b0 : (t432 == 0) = true := beq_iff_eq.mpr c9
  have c9b1 : (t432 != 0) = false := bne_eq_false_iff_eq.mpr c9
  clear c9
  have H' := Aside0.mk H
  clear H
  go_wp2
  repeat (go_quiet (fail); try go_wp2)
  go_meet
  case rel => exact ⟨_, (decide ((wrap64 ((wrap64 ((a0.size : Int) + (a1.size : Int))) + 1)) > 600)), (by first | rfl | (simp; done) | (simp [bne, *]; done)), H', ⟨by first | omega | exact Nat.le_refl _⟩, ⟨by (with_reducible repeat (first | apply Kd.R_alloc | apply Kd.R_drewN | apply Kd.R_drew)); exact Kd.R_mono HO429.out (fun _ hk => hk.2)⟩, ⟨by (with_reducible repeat (first | apply Kd.R_alloc | apply Kd.R_drewN | apply Kd.R_drew)); exact Kd.R_mono HO434.out (fun _ hk => hk.2)⟩, ⟨kwW HB⟩⟩
 case rest =>
  clear HC5
  try clear p2
  try clear c6
  try clear p6
  try clear c8
  try clear c8b0
  try clear c8b1
  try clear c9
  try clear c9b0
  try clear c9b1
  obtain ⟨kq, x43_4, rfl, HA, HJ4, HO_5, HO_8, HB⟩ := hcut
  cases kq with
  | zero => exact absurd HA.out (by simp [skerrylaw18_LexerJoins.j0])
  | succ kj4 =>
   have H := HA.out
   clear HA
   simp only [skerrylaw18_LexerJoins.j0] at H
   by_cases c10 : x43_4 = true
   ·
    subst c10
    have H1 : ((skerrylaw18_lives.f kj4).bind fun t435 => (some t435)) = some r := by rw [if_pos rfl] at H; exact H
    clear H
    have H := H1
    clear H1
    replace H := Option.bind_eq_some_iff.mp H
    obtain ⟨t435, A110, H⟩ := H
    have A11 := Aside0.mk A110
    clear A110
    obtain rfl := Option.some.inj H
    go_wp2_with (first | (go_at_call 12; (with_reducible refine (skerrylaw18_lives.calls kj4  t435 _ A11.out).mono ?_); rintro e w12 ⟨rfl, hb⟩; replace HO_5 := kR HO_5 hb; replace HO_8 := kR HO_8 hb; replace HB := Aside0.mk (below_step (kwW HB) hb); (try clear hb); (try clear hb2); (try clear hk); (try clear hi)))
    repeat (go_quiet (first | (go_at_call 12; (with_reducible refine (skerrylaw18_lives.calls kj4  t435 _ A11.out).mono ?_); rintro e w12 ⟨rfl, hb⟩; replace HO_5 := kR HO_5 hb; replace HO_8 := kR HO_8 hb; replace HB := Aside0.mk (below_step (kwW HB) hb); (try clear hb); (try clear hb2); (try clear hk); (try clear hi))); try go_wp2_with (first | (go_at_call 12; (with_reducible refine (skerrylaw18_lives.calls kj4  t435 _ A11.out).mono ?_); rintro e w12 ⟨rfl, hb⟩; replace HO_5 := kR HO_5 hb; replace HO_8 := kR HO_8 hb; replace HB := Aside0.mk (below_step (kwW HB) hb); (try clear hb); (try clear hb2); (try clear hk); (try clear hi))))
    go_ret
    exact ⟨by first | rfl | (simp <;> rfl) | (simp [*] <;> rfl), kwW HB⟩
   ·
    replace c10 := Bool.eq_false_iff.mpr c10
    subst c10
    have H1 : (if a0.size + 1 ≤ 9223372036854775807 then (if (a0 ++ (⟨#[10]⟩ : ByteArray)).size + a1.size ≤ 9223372036854775807 then ((lexer_Lex.f kj4 ((a0 ++ (⟨#[10]⟩ : ByteArray)) ++ a1)).bind fun bt436 => (if bt436.2.2 = 0 then (skerrylaw18_LexerJoins.j1 kj4 a0 t425 t430 bt436.1 ((bt436.1.length : Int) != (wrap64 ((wrap64 ((t425.length : Int) + (t430.length : Int))) - 1)))) else (skerrylaw18_LexerJoins.j1 kj4 a0 t425 t430 bt436.1 true))) else (none)) else (none)) = some r := by rw [if_neg (show ¬ (false = true) by decide)] at H; exact H
    clear H
    have H := H1
    clear H1
    by_cases c13 : a0.size + 1 ≤ 9223372036854775807
    rotate_left
    ·
     rw [if_neg c13] at H
     exact absurd H (by simp)
    rw [if_pos c13] at H
    have c13b0 := eq_true c13
    have c13b1 : decide (a0.size + 1 ≤ 9223372036854775807) = true := decide_eq_true c13
    try have c13b2 : (9223372036854775807 < a0.size + 1) = False := eq_false (Nat.not_lt.2 c13)
    by_cases c14 : (a0 ++ (⟨#[10]⟩ : ByteArray)).size + a1.size ≤ 9223372036854775807
    rotate_left
    ·
     rw [if_neg c14] at H
     exact absurd H (by simp)
    rw [if_pos c14] at H
    have c14b0 := eq_true c14
    have c14b1 : decide ((a0 ++ (⟨#[10]⟩ : ByteArray)).size + a1.size ≤ 9223372036854775807) = true := decide_eq_true c14
    try have c14b2 : (9223372036854775807 < (a0 ++ (⟨#[10]⟩ : ByteArray)).size + a1.size) = False := eq_false (Nat.not_lt.2 c14)
    (try (have c14b0z := c14b0; simp only [ByteArray.size_append] at c14b0z))
    (try (have c14b1z := c14b1; simp only [ByteArray.size_append] at c14b1z))
    (try (have c14b2z := c14b2; simp only [ByteArray.size_append] at c14b2z))
    replace H := Option.bind_eq_some_iff.mp H
    obtain ⟨⟨t436, t437, t438⟩, A150, H⟩ := H
    have A15 := Aside0.mk A150
    clear A150
    have HC16 := Aside0.mk H
    clear H
    go_upto_region 6 with (first | (go_at_call 13; (with_reducible refine (lexer_Lex.calls kj4 ((a0 ++ (⟨#[10]⟩ : ByteArray)) ++ a1) t436 t437 t438 _ A15.out).mono ?_); rintro e w17 ⟨v439, rfl, ho0, hb⟩; have HO440 := Aside0.mk (Kd.R_lower (Kd.R_new' (Kd.R_new' ho0 (Kd.R_lt (krW HO_5))) (Kd.R_lt (krW HO_8))) (bZ_ (kwW HB))); replace HO_5 := Aside0.mk (Kd.R_elder' (krW HO_5) (Kd.R_base ho0) hb); replace HO_8 := Aside0.mk (Kd.R_elder' (krW HO_8) (Kd.R_base ho0) hb); replace HB := Aside0.mk (below_step (kwW HB) hb); (try clear hb); (try clear hb2); (try clear hk); (try clear hi); (try clear ho0)))
    repeat (go_quiet (first | (go_at_call 13; (with_reducible refine (lexer_Lex.calls kj4 ((a0 ++ (⟨#[10]⟩ : ByteArray)) ++ a1) t436 t437 t438 _ A15.out).mono ?_); rintro e w17 ⟨v439, rfl, ho0, hb⟩; have HO440 := Aside0.mk (Kd.R_lower (Kd.R_new' (Kd.R_new' ho0 (Kd.R_lt (krW HO_5))) (Kd.R_lt (krW HO_8))) (bZ_ (kwW HB))); replace HO_5 := Aside0.mk (Kd.R_elder' (krW HO_5) (Kd.R_base ho0) hb); replace HO_8 := Aside0.mk (Kd.R_elder' (krW HO_8) (Kd.R_base ho0) hb); replace HB := Aside0.mk (below_step (kwW HB) hb); (try clear hb); (try clear hb2); (try clear hk); (try clear hi); (try clear ho0))); go_upto_region 6 with (first | (go_at_call 13; (with_reducible refine (lexer_Lex.calls kj4 ((a0 ++ (⟨#[10]⟩ : ByteArray)) ++ a1) t436 t437 t438 _ A15.out).mono ?_); rintro e w17 ⟨v439, rfl, ho0, hb⟩; have HO440 := Aside0.mk (Kd.R_lower (Kd.R_new' (Kd.R_new' ho0 (Kd.R_lt (krW HO_5))) (Kd.R_lt (krW HO_8))) (bZ_ (kwW HB))); replace HO_5 := Aside0.mk (Kd.R_elder' (krW HO_5) (Kd.R_base ho0) hb); replace HO_8 := Aside0.mk (Kd.R_elder' (krW HO_8) (Kd.R_base ho0) hb); replace HB := Aside0.mk (below_step (kwW HB) hb); (try clear hb); (try clear hb2); (try clear hk); (try clear hi); (try clear ho0))))
    (try simp only [Act.put, List.setIfInBounds_toArray, List.set_cons_zero, List.set_cons_succ])
    go_cut [66] (fun v66 wc => ∃ (kq : Nat) (x66_15 : Bool), v66 = .bool x66_15 ∧ Aside0 (skerrylaw18_LexerJoins.j1 kq a0 t425 t430 t436 x66_15 = some r) ∧ Aside0 (kq ≤ kj4) ∧ Aside0 (Kd.R k25 25 wc w.heap.size (fun k_ => some k_ ≠ (v433 : Value).ownBlock ∧ some k_ ≠ (v439 : Value).ownBlock) v428 t425) ∧ Aside0 (Kd.R k25 25 wc w.heap.size (fun k_ => some k_ ≠ (v428 : Value).ownBlock ∧ some k_ ≠ (v439 : Value).ownBlock) v433 t430) ∧ Aside0 (Kd.R k25 25 wc w.heap.size (fun k_ => some k_ ≠ (v428 : Value).ownBlock ∧ some k_ ≠ (v433 : Value).ownBlock) v439 t436) ∧ Aside0 (Below w.heap.size w wc))
    case first =>
     have H := HC16.out
     clear HC16
     by_cases c18 : t438 = 0
     rotate_left
     ·
      rw [if_neg c18] at H
      have c18b0 : (t438 == 0) = false := beq_eq_false_iff_ne.mpr c18
      have c18b1 : (t438 != 0) = true := bne_iff_ne.mpr c18
      (first | rw [c18b0] | (simp only [i64_w, i32_w]; rw [c18b0]) | skip)
      have H' := Aside0.mk H
      clear H
      go_wp2
      repeat (go_quiet (fail); try go_wp2)
      go_meet
      case rel => exact ⟨_, (true), (by first | rfl | (simp; done) | (simp [bne, *]; done)), H', ⟨by have := HJ4.out; first | omega | exact Nat.le_refl _⟩, ⟨krW HO_5⟩, ⟨krW HO_8⟩, ⟨by (with_reducible repeat (first | apply Kd.R_alloc | apply Kd.R_drewN | apply Kd.R_drew)); exact Kd.R_mono HO440.out (fun _ hk => ⟨hk.1.2, hk.2⟩)⟩, ⟨kwW HB⟩⟩
     rw [if_pos c18] at H
     have c18b0 : (t438 == 0) = true := beq_iff_eq.mpr c18
     have c18b1 : (t438 != 0) = false := bne_eq_false_iff_eq.mpr c18
     clear c18
     (first | rw [c18b0] | (simp only [i64_w, i32_w]; rw [c18b0]) | skip)
     have H' := Aside0.mk H
     clear H
     obtain ⟨Ao19, co19, eo19⟩ := Kd.R_slice HO440.out
     subst eo19
     obtain ⟨Ao20, co20, eo20⟩ := Kd.R_slice HO_5.out
     subst eo20
     obtain ⟨Ao21, co21, eo21⟩ := Kd.R_slice HO_8.out
     subst eo21
     go_wp2
     repeat (go_quiet (fail); try go_wp2)
     go_meet
     case rel => exact ⟨_, (((t436.length : Int) != (wrap64 ((wrap64 ((t425.length : Int) + (t430.length : Int))) - 1)))), (by first | rfl | (simp; done) | (simp [bne, *]; done)), H', ⟨by have := HJ4.out; first | omega | exact Nat.le_refl _⟩, ⟨krW HO_5⟩, ⟨krW HO_8⟩, ⟨by (with_reducible repeat (first | apply Kd.R_alloc | apply Kd.R_drewN | apply Kd.R_drew)); exact Kd.R_mono HO440.out (fun _ hk => ⟨hk.1.2, hk.2⟩)⟩, ⟨kwW HB⟩⟩
    case rest =>
     clear HC16
     try clear c1
     try clear p2
     try clear c6
     try clear p6
     try clear c8
     try clear c8b0
     try clear c8b1
     try clear c9
     try clear c9b0
     try clear c9b1
     try clear c10
     try clear c13
     try clear c13b0
     try clear c13b1
     try clear c13b2
     try clear c14
     try clear c14b0
     try clear c14b1
     try clear c14b2
     try clear c18
     try clear c18b0
     try clear c18b1
     try clear p2
     try clear p6
     obtain ⟨kq, x66_15, rfl, HA, HJ15, HO_5, HO_8, HO_11, HB⟩ := hcut
     cases kq with
     | zero => exact absurd HA.out (by simp [skerrylaw18_LexerJoins.j1])
     | succ kj15 =>
      have H := HA.out
      clear HA
      simp only [skerrylaw18_LexerJoins.j1] at H
      by_cases c22 : x66_15 = true
      ·
       subst c22
       have H1 : (none) = some r := by rw [if_pos rfl] at H; exact H
       clear H
       have H := H1
       clear H1
       exact absurd H (by simp)
      ·
       replace c22 := Bool.eq_false_iff.mpr c22
       subst c22
       have H1 : (skerrylaw18_LexerJoins.l0 kj15 a0 t425 t430 t436 (t436.length : Int) 0) = some r := by rw [if_neg (show ¬ (false = true) by decide)] at H; exact H
       clear H
       have H := H1
       clear H1
       have H' := Aside0.mk H
       clear H
       obtain ⟨Ao23, co23, eo23⟩ := Kd.R_slice HO_11.out
       subst eo23
       go_wp2
       repeat (go_quiet (fail); try go_wp2)
       go_loopg [69] kj15 (fun kq v69 w' => ∃ (x69_3 : Int), v69 = .int .i64 x69_3 ∧ Aside0 (skerrylaw18_LexerJoins.l0 kq a0 t425 t430 t436 (t436.length : Int) x69_3 = some r) ∧ Aside0 (kq ≤ kj15) ∧ Aside0 (Kd.R k25 25 w' w.heap.size (fun k_ => some k_ ≠ (v433 : Value).ownBlock ∧ some k_ ≠ ((.slice Ao23 t436.length co23) : Value).ownBlock) v428 t425) ∧ Aside0 (Kd.R k25 25 w' w.heap.size (fun k_ => some k_ ≠ (v428 : Value).ownBlock ∧ some k_ ≠ ((.slice Ao23 t436.length co23) : Value).ownBlock) v433 t430) ∧ Aside0 (Kd.R k25 25 w' w.heap.size (fun k_ => some k_ ≠ (v428 : Value).ownBlock ∧ some k_ ≠ (v433 : Value).ownBlock) (.slice Ao23 t436.length co23) t436) ∧ Aside0 (Below w.heap.size w w'))
       case atStart => exact ⟨(0), (by first | rfl | (simp; done) | (simp [bne, *]; done)), H', ⟨Nat.le_refl _⟩, ⟨krW HO_5⟩, ⟨krW HO_8⟩, ⟨krW HO_11⟩, ⟨kwW HB⟩⟩
       case round =>
        clear H'
        try clear c1
        try clear c2
        try clear p2
        try clear c6
        try clear p6
        try clear c8
        try clear c8b0
        try clear c8b1
        try clear c9
        try clear c9b0
        try clear c9b1
        try clear c10
        try clear c13
        try clear c13b0
        try clear c13b1
        try clear c13b2
        try clear c14
        try clear c14b0
        try clear c14b1
        try clear c14b2
        try clear c18
        try clear c18b0
        try clear c18b1
        try clear c22
        try clear p2
        try clear p6
        obtain ⟨x69_3, rfl, HA, HK3, HO_5, HO_8, HO_67, HB⟩ := hrel
        cases gk with
        | zero => exact absurd HA.out (by simp [skerrylaw18_LexerJoins.l0])
        | succ k3 =>
         have H := HA.out
         clear HA
         simp only [skerrylaw18_LexerJoins.l0] at H
         by_cases c24 : x69_3 < (t436.length : Int)
         rotate_left
         ·
          rw [if_neg c24] at H
          have c24b0 : decide (x69_3 < (t436.length : Int)) = false := decide_eq_false c24
          clear c24
          replace H := Option.bind_eq_some_iff.mp H
          obtain ⟨t441, A450, H⟩ := H
          have A45 := Aside0.mk A450
          clear A450
          obtain rfl := Option.some.inj H
          go_wp2_with (first | (go_at_call 12; (with_reducible refine (skerrylaw18_lives.calls k3  t441 _ A45.out).mono ?_); rintro e w46 ⟨rfl, hb⟩; replace HO_5 := kR HO_5 hb; replace HO_8 := kR HO_8 hb; replace HO_67 := kR HO_67 hb; replace HB := Aside0.mk (below_step (kwW HB) hb); (try clear hb); (try clear hb2); (try clear hk); (try clear hi)))
          repeat (go_quiet (first | (go_at_call 12; (with_reducible refine (skerrylaw18_lives.calls k3  t441 _ A45.out).mono ?_); rintro e w46 ⟨rfl, hb⟩; replace HO_5 := kR HO_5 hb; replace HO_8 := kR HO_8 hb; replace HO_67 := kR HO_67 hb; replace HB := Aside0.mk (below_step (kwW HB) hb); (try clear hb); (try clear hb2); (try clear hk); (try clear hi))); try go_wp2_with (first | (go_at_call 12; (with_reducible refine (skerrylaw18_lives.calls k3  t441 _ A45.out).mono ?_); rintro e w46 ⟨rfl, hb⟩; replace HO_5 := kR HO_5 hb; replace HO_8 := kR HO_8 hb; replace HO_67 := kR HO_67 hb; replace HB := Aside0.mk (below_step (kwW HB) hb); (try clear hb); (try clear hb2); (try clear hk); (try clear hi))))
          go_ret
          exact ⟨by first | rfl | (simp <;> rfl) | (simp [*] <;> rfl), kwW HB⟩
         rw [if_pos c24] at H
         have c24b0 : decide (x69_3 < (t436.length : Int)) = true := decide_eq_true c24
         clear c24
         by_cases c25 : 0 ≤ x69_3
         rotate_left
         ·
          rw [if_neg c25] at H
          exact absurd H (by simp)
         rw [if_pos c25] at H
         have c25b0 : decide (0 ≤ x69_3) = true := decide_eq_true c25
         clear c25
         by_cases c26 : x69_3 < (t436.length : Int)
         rotate_left
         ·
          rw [if_neg c26] at H
          exact absurd H (by simp)
         rw [if_pos c26] at H
         have c26b0 : decide (x69_3 < (t436.length : Int)) = true := decide_eq_true c26
         clear c26
         by_cases c27 : x69_3 < (wrap64 ((t425.length : Int) - 1))
         ·
          rw [if_pos c27] at H
          have c27b0 : decide (x69_3 < (wrap64 ((t425.length : Int) - 1))) = true := decide_eq_true c27
          clear c27
          by_cases c28 : x69_3 < (t425.length : Int)
          rotate_left
          ·
           rw [if_neg c28] at H
           exact absurd H (by simp)
          rw [if_pos c28] at H
          have c28b0 : decide (x69_3 < (t425.length : Int)) = true := decide_eq_true c28
          clear c28
          by_cases c29 : (!(((rd_T25 t436 x69_3).f0) == ((rd_T25 t425 x69_3).f0)) || (!((((rd_T25 t436 x69_3).f1).toList) == (((rd_T25 t425 x69_3).f1).toList)) || ((!(((rd_T25 t436 x69_3).f2.f0) == ((rd_T25 t425 x69_3).f2.f0)) || (!(((rd_T25 t436 x69_3).f2.f1) == ((rd_T25 t425 x69_3).f2.f1)) || (!((((rd_T25 t436 x69_3).f2.f2).toList) == (((rd_T25 t425 x69_3).f2.f2).toList))))) || (!(((rd_T25 t436 x69_3).f3) == ((rd_T25 t425 x69_3).f3)) || (!(((rd_T25 t436 x69_3).f4) == ((rd_T25 t425 x69_3).f4))))))) = true
          ·
           rw [if_pos c29] at H
           exact absurd H (by simp)
          ·
           rw [if_neg c29] at H
           have c29b0 : (!(((rd_T25 t436 x69_3).f0) == ((rd_T25 t425 x69_3).f0)) || (!((((rd_T25 t436 x69_3).f1).toList) == (((rd_T25 t425 x69_3).f1).toList)) || ((!(((rd_T25 t436 x69_3).f2.f0) == ((rd_T25 t425 x69_3).f2.f0)) || (!(((rd_T25 t436 x69_3).f2.f1) == ((rd_T25 t425 x69_3).f2.f1)) || (!((((rd_T25 t436 x69_3).f2.f2).toList) == (((rd_T25 t425 x69_3).f2.f2).toList))))) || (!(((rd_T25 t436 x69_3).f3) == ((rd_T25 t425 x69_3).f3)) || (!(((rd_T25 t436 x69_3).f4) == ((rd_T25 t425 x69_3).f4))))))) = false := by simpa using c29
           clear c29
           have H' := Aside0.mk H
           clear H
           have p442 : 0 ≤ (x69_3 : Int) := of_decide_eq_true (by first | (with_reducible assumption) | assumption)
           have q442 : x69_3 < (t436.length : Int) := of_decide_eq_true (by first | (with_reducible assumption) | assumption)
           obtain ⟨ad442, e442, hx442_0, hx442_1, hx442_2, hx442_3, hx442_4, hx442_5, hx442_6⟩ := at_T25 (Kd.R_reads' HO_67.out).2.2 x69_3 p442 q442
           cases e442
           replace p442 := eq_true p442
           replace q442 := eq_true q442
           go_wp2_with (first | ((with_reducible refine gate_dst (N := 15) rfl ?_); (try (refine gate_guard (by rfl) ?_; dsimp only)); refine box_event ?hg (N := 15) ?hd (cs := #[.int .i64 0, .string (⟨#[]⟩ : ByteArray), .int .i64 0, .int .i64 0, .string (⟨#[]⟩ : ByteArray), .int .i64 0, .int .i64 0]) (t := 25) ?hr ?_; (case hd => rfl); (case hg => rfl); (case hr => first | (go_simp; done) | (go_simp; rfl)); intro gb443 hg w30 hbox hb; replace HO_5 := Aside0.mk (Kd.R_below (Kd.R_elderB (krW HO_5) gb443 (Nat.le_of_eq hg.symm)) hb); replace HO_8 := Aside0.mk (Kd.R_below (Kd.R_elderB (krW HO_8) gb443 (Nat.le_of_eq hg.symm)) hb); replace HO_67 := Aside0.mk (Kd.R_below (Kd.R_elderB (krW HO_67) gb443 (Nat.le_of_eq hg.symm)) hb); have BK443 := Aside0.mk (hbox); have GW443 := Aside0.mk ((by rw [hg]; exact (bZ_ (kwW HB)) : w.heap.size ≤ gb443)); replace HB := Aside0.mk (below_step (kwW HB) hb); have GE443 := GW443; clear hb hbox hg; obtain ⟨hcz31_0, hcz31_1, hcz31_2, hcz31_3, hcz31_4, hcz31_5, hcz31_6, hfz31_0, hfz31_1, hfz31_2, hfz31_3, hfz31_4, hfz31_5, hfz31_6⟩ := czf7 BK443; obtain ⟨Ao32, co32, eo32⟩ := Kd.R_slice HO_5.out; subst eo32; have p444 : 0 ≤ (x69_3 : Int) := of_decide_eq_true (by first | (with_reducible assumption) | assumption); have q444 : x69_3 < (t425.length : Int) := of_decide_eq_true (by first | (with_reducible assumption) | assumption); obtain ⟨ad444, e444, hx444_0, hx444_1, hx444_2, hx444_3, hx444_4, hx444_5, hx444_6⟩ := at_T25 (Kd.R_reads' HO_5.out).2.2 x69_3 p444 q444; cases e444; have hn444_0 : ad444.block ≠ gb443 := Kd.own_blk (fun e_ => (HO_5.out.1 gb443 e_.symm).2 rfl); have hn444_1 : ad444.block ≠ gb443 := Kd.own_blk (fun e_ => (HO_5.out.1 gb443 e_.symm).2 rfl); have hn444_2 : ad444.block ≠ gb443 := Kd.own_blk (fun e_ => (HO_5.out.1 gb443 e_.symm).2 rfl); have hn444_3 : ad444.block ≠ gb443 := Kd.own_blk (fun e_ => (HO_5.out.1 gb443 e_.symm).2 rfl); have hn444_4 : ad444.block ≠ gb443 := Kd.own_blk (fun e_ => (HO_5.out.1 gb443 e_.symm).2 rfl); have hn444_5 : ad444.block ≠ gb443 := Kd.own_blk (fun e_ => (HO_5.out.1 gb443 e_.symm).2 rfl); have hn444_6 : ad444.block ≠ gb443 := Kd.own_blk (fun e_ => (HO_5.out.1 gb443 e_.symm).2 rfl); have hz444_0 := hx444_0; replace hx444_0 := far7 hz444_0 gb443 (by first | (rw [add_block]; exact hn444_0) | (show (Addr.add _ _).block ≠ _; rw [add_block]; exact hn444_0) | exact hn444_0) (.int .i64 ((rd_T25 t436 x69_3).f0)) (.string ((rd_T25 t436 x69_3).f1)) (.int .i64 ((rd_T25 t436 x69_3).f2.f0)) (.int .i64 ((rd_T25 t436 x69_3).f2.f1)) (.string ((rd_T25 t436 x69_3).f2.f2)) (.int .i64 ((rd_T25 t436 x69_3).f3)) (.int .i64 ((rd_T25 t436 x69_3).f4)); have hy444_0 := fun (n_ : Nat) => far7 (w := w30.drewN n_) (show (w30.drewN n_).cell? _ = some _ from hz444_0) gb443 (by first | (rw [add_block]; exact hn444_0) | (show (Addr.add _ _).block ≠ _; rw [add_block]; exact hn444_0) | exact hn444_0) (.int .i64 ((rd_T25 t436 x69_3).f0)) (.string ((rd_T25 t436 x69_3).f1)) (.int .i64 ((rd_T25 t436 x69_3).f2.f0)) (.int .i64 ((rd_T25 t436 x69_3).f2.f1)) (.string ((rd_T25 t436 x69_3).f2.f2)) (.int .i64 ((rd_T25 t436 x69_3).f3)) (.int .i64 ((rd_T25 t436 x69_3).f4)); clear hz444_0; have hz444_1 := hx444_1; replace hx444_1 := far7 hz444_1 gb443 (by first | (rw [add_block]; exact hn444_1) | (show (Addr.add _ _).block ≠ _; rw [add_block]; exact hn444_1) | exact hn444_1) (.int .i64 ((rd_T25 t436 x69_3).f0)) (.string ((rd_T25 t436 x69_3).f1)) (.int .i64 ((rd_T25 t436 x69_3).f2.f0)) (.int .i64 ((rd_T25 t436 x69_3).f2.f1)) (.string ((rd_T25 t436 x69_3).f2.f2)) (.int .i64 ((rd_T25 t436 x69_3).f3)) (.int .i64 ((rd_T25 t436 x69_3).f4)); have hy444_1 := fun (n_ : Nat) => far7 (w := w30.drewN n_) (show (w30.drewN n_).cell? _ = some _ from hz444_1) gb443 (by first | (rw [add_block]; exact hn444_1) | (show (Addr.add _ _).block ≠ _; rw [add_block]; exact hn444_1) | exact hn444_1) (.int .i64 ((rd_T25 t436 x69_3).f0)) (.string ((rd_T25 t436 x69_3).f1)) (.int .i64 ((rd_T25 t436 x69_3).f2.f0)) (.int .i64 ((rd_T25 t436 x69_3).f2.f1)) (.string ((rd_T25 t436 x69_3).f2.f2)) (.int .i64 ((rd_T25 t436 x69_3).f3)) (.int .i64 ((rd_T25 t436 x69_3).f4)); clear hz444_1; have hz444_2 := hx444_2; replace hx444_2 := far7 hz444_2 gb443 (by first | (rw [add_block]; exact hn444_2) | (show (Addr.add _ _).block ≠ _; rw [add_block]; exact hn444_2) | exact hn444_2) (.int .i64 ((rd_T25 t436 x69_3).f0)) (.string ((rd_T25 t436 x69_3).f1)) (.int .i64 ((rd_T25 t436 x69_3).f2.f0)) (.int .i64 ((rd_T25 t436 x69_3).f2.f1)) (.string ((rd_T25 t436 x69_3).f2.f2)) (.int .i64 ((rd_T25 t436 x69_3).f3)) (.int .i64 ((rd_T25 t436 x69_3).f4)); have hy444_2 := fun (n_ : Nat) => far7 (w := w30.drewN n_) (show (w30.drewN n_).cell? _ = some _ from hz444_2) gb443 (by first | (rw [add_block]; exact hn444_2) | (show (Addr.add _ _).block ≠ _; rw [add_block]; exact hn444_2) | exact hn444_2) (.int .i64 ((rd_T25 t436 x69_3).f0)) (.string ((rd_T25 t436 x69_3).f1)) (.int .i64 ((rd_T25 t436 x69_3).f2.f0)) (.int .i64 ((rd_T25 t436 x69_3).f2.f1)) (.string ((rd_T25 t436 x69_3).f2.f2)) (.int .i64 ((rd_T25 t436 x69_3).f3)) (.int .i64 ((rd_T25 t436 x69_3).f4)); clear hz444_2; have hz444_3 := hx444_3; replace hx444_3 := far7 hz444_3 gb443 (by first | (rw [add_block]; exact hn444_3) | (show (Addr.add _ _).block ≠ _; rw [add_block]; exact hn444_3) | exact hn444_3) (.int .i64 ((rd_T25 t436 x69_3).f0)) (.string ((rd_T25 t436 x69_3).f1)) (.int .i64 ((rd_T25 t436 x69_3).f2.f0)) (.int .i64 ((rd_T25 t436 x69_3).f2.f1)) (.string ((rd_T25 t436 x69_3).f2.f2)) (.int .i64 ((rd_T25 t436 x69_3).f3)) (.int .i64 ((rd_T25 t436 x69_3).f4)); have hy444_3 := fun (n_ : Nat) => far7 (w := w30.drewN n_) (show (w30.drewN n_).cell? _ = some _ from hz444_3) gb443 (by first | (rw [add_block]; exact hn444_3) | (show (Addr.add _ _).block ≠ _; rw [add_block]; exact hn444_3) | exact hn444_3) (.int .i64 ((rd_T25 t436 x69_3).f0)) (.string ((rd_T25 t436 x69_3).f1)) (.int .i64 ((rd_T25 t436 x69_3).f2.f0)) (.int .i64 ((rd_T25 t436 x69_3).f2.f1)) (.string ((rd_T25 t436 x69_3).f2.f2)) (.int .i64 ((rd_T25 t436 x69_3).f3)) (.int .i64 ((rd_T25 t436 x69_3).f4)); clear hz444_3; have hz444_4 := hx444_4; replace hx444_4 := far7 hz444_4 gb443 (by first | (rw [add_block]; exact hn444_4) | (show (Addr.add _ _).block ≠ _; rw [add_block]; exact hn444_4) | exact hn444_4) (.int .i64 ((rd_T25 t436 x69_3).f0)) (.string ((rd_T25 t436 x69_3).f1)) (.int .i64 ((rd_T25 t436 x69_3).f2.f0)) (.int .i64 ((rd_T25 t436 x69_3).f2.f1)) (.string ((rd_T25 t436 x69_3).f2.f2)) (.int .i64 ((rd_T25 t436 x69_3).f3)) (.int .i64 ((rd_T25 t436 x69_3).f4)); have hy444_4 := fun (n_ : Nat) => far7 (w := w30.drewN n_) (show (w30.drewN n_).cell? _ = some _ from hz444_4) gb443 (by first | (rw [add_block]; exact hn444_4) | (show (Addr.add _ _).block ≠ _; rw [add_block]; exact hn444_4) | exact hn444_4) (.int .i64 ((rd_T25 t436 x69_3).f0)) (.string ((rd_T25 t436 x69_3).f1)) (.int .i64 ((rd_T25 t436 x69_3).f2.f0)) (.int .i64 ((rd_T25 t436 x69_3).f2.f1)) (.string ((rd_T25 t436 x69_3).f2.f2)) (.int .i64 ((rd_T25 t436 x69_3).f3)) (.int .i64 ((rd_T25 t436 x69_3).f4)); clear hz444_4; have hz444_5 := hx444_5; replace hx444_5 := far7 hz444_5 gb443 (by first | (rw [add_block]; exact hn444_5) | (show (Addr.add _ _).block ≠ _; rw [add_block]; exact hn444_5) | exact hn444_5) (.int .i64 ((rd_T25 t436 x69_3).f0)) (.string ((rd_T25 t436 x69_3).f1)) (.int .i64 ((rd_T25 t436 x69_3).f2.f0)) (.int .i64 ((rd_T25 t436 x69_3).f2.f1)) (.string ((rd_T25 t436 x69_3).f2.f2)) (.int .i64 ((rd_T25 t436 x69_3).f3)) (.int .i64 ((rd_T25 t436 x69_3).f4)); have hy444_5 := fun (n_ : Nat) => far7 (w := w30.drewN n_) (show (w30.drewN n_).cell? _ = some _ from hz444_5) gb443 (by first | (rw [add_block]; exact hn444_5) | (show (Addr.add _ _).block ≠ _; rw [add_block]; exact hn444_5) | exact hn444_5) (.int .i64 ((rd_T25 t436 x69_3).f0)) (.string ((rd_T25 t436 x69_3).f1)) (.int .i64 ((rd_T25 t436 x69_3).f2.f0)) (.int .i64 ((rd_T25 t436 x69_3).f2.f1)) (.string ((rd_T25 t436 x69_3).f2.f2)) (.int .i64 ((rd_T25 t436 x69_3).f3)) (.int .i64 ((rd_T25 t436 x69_3).f4)); clear hz444_5; have hz444_6 := hx444_6; replace hx444_6 := far7 hz444_6 gb443 (by first | (rw [add_block]; exact hn444_6) | (show (Addr.add _ _).block ≠ _; rw [add_block]; exact hn444_6) | exact hn444_6) (.int .i64 ((rd_T25 t436 x69_3).f0)) (.string ((rd_T25 t436 x69_3).f1)) (.int .i64 ((rd_T25 t436 x69_3).f2.f0)) (.int .i64 ((rd_T25 t436 x69_3).f2.f1)) (.string ((rd_T25 t436 x69_3).f2.f2)) (.int .i64 ((rd_T25 t436 x69_3).f3)) (.int .i64 ((rd_T25 t436 x69_3).f4)); have hy444_6 := fun (n_ : Nat) => far7 (w := w30.drewN n_) (show (w30.drewN n_).cell? _ = some _ from hz444_6) gb443 (by first | (rw [add_block]; exact hn444_6) | (show (Addr.add _ _).block ≠ _; rw [add_block]; exact hn444_6) | exact hn444_6) (.int .i64 ((rd_T25 t436 x69_3).f0)) (.string ((rd_T25 t436 x69_3).f1)) (.int .i64 ((rd_T25 t436 x69_3).f2.f0)) (.int .i64 ((rd_T25 t436 x69_3).f2.f1)) (.string ((rd_T25 t436 x69_3).f2.f2)) (.int .i64 ((rd_T25 t436 x69_3).f3)) (.int .i64 ((rd_T25 t436 x69_3).f4)); clear hz444_6; clear hn444_0; clear hn444_1; clear hn444_2; clear hn444_3; clear hn444_4; clear hn444_5; clear hn444_6; replace p444 := eq_true p444; replace q444 := eq_true q444))
           repeat (go_quiet (first | ((with_reducible refine gate_dst (N := 15) rfl ?_); (try (refine gate_guard (by rfl) ?_; dsimp only)); refine box_event ?hg (N := 15) ?hd (cs := #[.int .i64 0, .string (⟨#[]⟩ : ByteArray), .int .i64 0, .int .i64 0, .string (⟨#[]⟩ : ByteArray), .int .i64 0, .int .i64 0]) (t := 25) ?hr ?_; (case hd => rfl); (case hg => rfl); (case hr => first | (go_simp; done) | (go_simp; rfl)); intro gb443 hg w30 hbox hb; replace HO_5 := Aside0.mk (Kd.R_below (Kd.R_elderB (krW HO_5) gb443 (Nat.le_of_eq hg.symm)) hb); replace HO_8 := Aside0.mk (Kd.R_below (Kd.R_elderB (krW HO_8) gb443 (Nat.le_of_eq hg.symm)) hb); replace HO_67 := Aside0.mk (Kd.R_below (Kd.R_elderB (krW HO_67) gb443 (Nat.le_of_eq hg.symm)) hb); have BK443 := Aside0.mk (hbox); have GW443 := Aside0.mk ((by rw [hg]; exact (bZ_ (kwW HB)) : w.heap.size ≤ gb443)); replace HB := Aside0.mk (below_step (kwW HB) hb); have GE443 := GW443; clear hb hbox hg; obtain ⟨hcz31_0, hcz31_1, hcz31_2, hcz31_3, hcz31_4, hcz31_5, hcz31_6, hfz31_0, hfz31_1, hfz31_2, hfz31_3, hfz31_4, hfz31_5, hfz31_6⟩ := czf7 BK443; obtain ⟨Ao32, co32, eo32⟩ := Kd.R_slice HO_5.out; subst eo32; have p444 : 0 ≤ (x69_3 : Int) := of_decide_eq_true (by first | (with_reducible assumption) | assumption); have q444 : x69_3 < (t425.length : Int) := of_decide_eq_true (by first | (with_reducible assumption) | assumption); obtain ⟨ad444, e444, hx444_0, hx444_1, hx444_2, hx444_3, hx444_4, hx444_5, hx444_6⟩ := at_T25 (Kd.R_reads' HO_5.out).2.2 x69_3 p444 q444; cases e444; have hn444_0 : ad444.block ≠ gb443 := Kd.own_blk (fun e_ => (HO_5.out.1 gb443 e_.symm).2 rfl); have hn444_1 : ad444.block ≠ gb443 := Kd.own_blk (fun e_ => (HO_5.out.1 gb443 e_.symm).2 rfl); have hn444_2 : ad444.block ≠ gb443 := Kd.own_blk (fun e_ => (HO_5.out.1 gb443 e_.symm).2 rfl); have hn444_3 : ad444.block ≠ gb443 := Kd.own_blk (fun e_ => (HO_5.out.1 gb443 e_.symm).2 rfl); have hn444_4 : ad444.block ≠ gb443 := Kd.own_blk (fun e_ => (HO_5.out.1 gb443 e_.symm).2 rfl); have hn444_5 : ad444.block ≠ gb443 := Kd.own_blk (fun e_ => (HO_5.out.1 gb443 e_.symm).2 rfl); have hn444_6 : ad444.block ≠ gb443 := Kd.own_blk (fun e_ => (HO_5.out.1 gb443 e_.symm).2 rfl); have hz444_0 := hx444_0; replace hx444_0 := far7 hz444_0 gb443 (by first | (rw [add_block]; exact hn444_0) | (show (Addr.add _ _).block ≠ _; rw [add_block]; exact hn444_0) | exact hn444_0) (.int .i64 ((rd_T25 t436 x69_3).f0)) (.string ((rd_T25 t436 x69_3).f1)) (.int .i64 ((rd_T25 t436 x69_3).f2.f0)) (.int .i64 ((rd_T25 t436 x69_3).f2.f1)) (.string ((rd_T25 t436 x69_3).f2.f2)) (.int .i64 ((rd_T25 t436 x69_3).f3)) (.int .i64 ((rd_T25 t436 x69_3).f4)); have hy444_0 := fun (n_ : Nat) => far7 (w := w30.drewN n_) (show (w30.drewN n_).cell? _ = some _ from hz444_0) gb443 (by first | (rw [add_block]; exact hn444_0) | (show (Addr.add _ _).block ≠ _; rw [add_block]; exact hn444_0) | exact hn444_0) (.int .i64 ((rd_T25 t436 x69_3).f0)) (.string ((rd_T25 t436 x69_3).f1)) (.int .i64 ((rd_T25 t436 x69_3).f2.f0)) (.int .i64 ((rd_T25 t436 x69_3).f2.f1)) (.string ((rd_T25 t436 x69_3).f2.f2)) (.int .i64 ((rd_T25 t436 x69_3).f3)) (.int .i64 ((rd_T25 t436 x69_3).f4)); clear hz444_0; have hz444_1 := hx444_1; replace hx444_1 := far7 hz444_1 gb443 (by first | (rw [add_block]; exact hn444_1) | (show (Addr.add _ _).block ≠ _; rw [add_block]; exact hn444_1) | exact hn444_1) (.int .i64 ((rd_T25 t436 x69_3).f0)) (.string ((rd_T25 t436 x69_3).f1)) (.int .i64 ((rd_T25 t436 x69_3).f2.f0)) (.int .i64 ((rd_T25 t436 x69_3).f2.f1)) (.string ((rd_T25 t436 x69_3).f2.f2)) (.int .i64 ((rd_T25 t436 x69_3).f3)) (.int .i64 ((rd_T25 t436 x69_3).f4)); have hy444_1 := fun (n_ : Nat) => far7 (w := w30.drewN n_) (show (w30.drewN n_).cell? _ = some _ from hz444_1) gb443 (by first | (rw [add_block]; exact hn444_1) | (show (Addr.add _ _).block ≠ _; rw [add_block]; exact hn444_1) | exact hn444_1) (.int .i64 ((rd_T25 t436 x69_3).f0)) (.string ((rd_T25 t436 x69_3).f1)) (.int .i64 ((rd_T25 t436 x69_3).f2.f0)) (.int .i64 ((rd_T25 t436 x69_3).f2.f1)) (.string ((rd_T25 t436 x69_3).f2.f2)) (.int .i64 ((rd_T25 t436 x69_3).f3)) (.int .i64 ((rd_T25 t436 x69_3).f4)); clear hz444_1; have hz444_2 := hx444_2; replace hx444_2 := far7 hz444_2 gb443 (by first | (rw [add_block]; exact hn444_2) | (show (Addr.add _ _).block ≠ _; rw [add_block]; exact hn444_2) | exact hn444_2) (.int .i64 ((rd_T25 t436 x69_3).f0)) (.string ((rd_T25 t436 x69_3).f1)) (.int .i64 ((rd_T25 t436 x69_3).f2.f0)) (.int .i64 ((rd_T25 t436 x69_3).f2.f1)) (.string ((rd_T25 t436 x69_3).f2.f2)) (.int .i64 ((rd_T25 t436 x69_3).f3)) (.int .i64 ((rd_T25 t436 x69_3).f4)); have hy444_2 := fun (n_ : Nat) => far7 (w := w30.drewN n_) (show (w30.drewN n_).cell? _ = some _ from hz444_2) gb443 (by first | (rw [add_block]; exact hn444_2) | (show (Addr.add _ _).block ≠ _; rw [add_block]; exact hn444_2) | exact hn444_2) (.int .i64 ((rd_T25 t436 x69_3).f0)) (.string ((rd_T25 t436 x69_3).f1)) (.int .i64 ((rd_T25 t436 x69_3).f2.f0)) (.int .i64 ((rd_T25 t436 x69_3).f2.f1)) (.string ((rd_T25 t436 x69_3).f2.f2)) (.int .i64 ((rd_T25 t436 x69_3).f3)) (.int .i64 ((rd_T25 t436 x69_3).f4)); clear hz444_2; have hz444_3 := hx444_3; replace hx444_3 := far7 hz444_3 gb443 (by first | (rw [add_block]; exact hn444_3) | (show (Addr.add _ _).block ≠ _; rw [add_block]; exact hn444_3) | exact hn444_3) (.int .i64 ((rd_T25 t436 x69_3).f0)) (.string ((rd_T25 t436 x69_3).f1)) (.int .i64 ((rd_T25 t436 x69_3).f2.f0)) (.int .i64 ((rd_T25 t436 x69_3).f2.f1)) (.string ((rd_T25 t436 x69_3).f2.f2)) (.int .i64 ((rd_T25 t436 x69_3).f3)) (.int .i64 ((rd_T25 t436 x69_3).f4)); have hy444_3 := fun (n_ : Nat) => far7 (w := w30.drewN n_) (show (w30.drewN n_).cell? _ = some _ from hz444_3) gb443 (by first | (rw [add_block]; exact hn444_3) | (show (Addr.add _ _).block ≠ _; rw [add_block]; exact hn444_3) | exact hn444_3) (.int .i64 ((rd_T25 t436 x69_3).f0)) (.string ((rd_T25 t436 x69_3).f1)) (.int .i64 ((rd_T25 t436 x69_3).f2.f0)) (.int .i64 ((rd_T25 t436 x69_3).f2.f1)) (.string ((rd_T25 t436 x69_3).f2.f2)) (.int .i64 ((rd_T25 t436 x69_3).f3)) (.int .i64 ((rd_T25 t436 x69_3).f4)); clear hz444_3; have hz444_4 := hx444_4; replace hx444_4 := far7 hz444_4 gb443 (by first | (rw [add_block]; exact hn444_4) | (show (Addr.add _ _).block ≠ _; rw [add_block]; exact hn444_4) | exact hn444_4) (.int .i64 ((rd_T25 t436 x69_3).f0)) (.string ((rd_T25 t436 x69_3).f1)) (.int .i64 ((rd_T25 t436 x69_3).f2.f0)) (.int .i64 ((rd_T25 t436 x69_3).f2.f1)) (.string ((rd_T25 t436 x69_3).f2.f2)) (.int .i64 ((rd_T25 t436 x69_3).f3)) (.int .i64 ((rd_T25 t436 x69_3).f4)); have hy444_4 := fun (n_ : Nat) => far7 (w := w30.drewN n_) (show (w30.drewN n_).cell? _ = some _ from hz444_4) gb443 (by first | (rw [add_block]; exact hn444_4) | (show (Addr.add _ _).block ≠ _; rw [add_block]; exact hn444_4) | exact hn444_4) (.int .i64 ((rd_T25 t436 x69_3).f0)) (.string ((rd_T25 t436 x69_3).f1)) (.int .i64 ((rd_T25 t436 x69_3).f2.f0)) (.int .i64 ((rd_T25 t436 x69_3).f2.f1)) (.string ((rd_T25 t436 x69_3).f2.f2)) (.int .i64 ((rd_T25 t436 x69_3).f3)) (.int .i64 ((rd_T25 t436 x69_3).f4)); clear hz444_4; have hz444_5 := hx444_5; replace hx444_5 := far7 hz444_5 gb443 (by first | (rw [add_block]; exact hn444_5) | (show (Addr.add _ _).block ≠ _; rw [add_block]; exact hn444_5) | exact hn444_5) (.int .i64 ((rd_T25 t436 x69_3).f0)) (.string ((rd_T25 t436 x69_3).f1)) (.int .i64 ((rd_T25 t436 x69_3).f2.f0)) (.int .i64 ((rd_T25 t436 x69_3).f2.f1)) (.string ((rd_T25 t436 x69_3).f2.f2)) (.int .i64 ((rd_T25 t436 x69_3).f3)) (.int .i64 ((rd_T25 t436 x69_3).f4)); have hy444_5 := fun (n_ : Nat) => far7 (w := w30.drewN n_) (show (w30.drewN n_).cell? _ = some _ from hz444_5) gb443 (by first | (rw [add_block]; exact hn444_5) | (show (Addr.add _ _).block ≠ _; rw [add_block]; exact hn444_5) | exact hn444_5) (.int .i64 ((rd_T25 t436 x69_3).f0)) (.string ((rd_T25 t436 x69_3).f1)) (.int .i64 ((rd_T25 t436 x69_3).f2.f0)) (.int .i64 ((rd_T25 t436 x69_3).f2.f1)) (.string ((rd_T25 t436 x69_3).f2.f2)) (.int .i64 ((rd_T25 t436 x69_3).f3)) (.int .i64 ((rd_T25 t436 x69_3).f4)); clear hz444_5; have hz444_6 := hx444_6; replace hx444_6 := far7 hz444_6 gb443 (by first | (rw [add_block]; exact hn444_6) | (show (Addr.add _ _).block ≠ _; rw [add_block]; exact hn444_6) | exact hn444_6) (.int .i64 ((rd_T25 t436 x69_3).f0)) (.string ((rd_T25 t436 x69_3).f1)) (.int .i64 ((rd_T25 t436 x69_3).f2.f0)) (.int .i64 ((rd_T25 t436 x69_3).f2.f1)) (.string ((rd_T25 t436 x69_3).f2.f2)) (.int .i64 ((rd_T25 t436 x69_3).f3)) (.int .i64 ((rd_T25 t436 x69_3).f4)); have hy444_6 := fun (n_ : Nat) => far7 (w := w30.drewN n_) (show (w30.drewN n_).cell? _ = some _ from hz444_6) gb443 (by first | (rw [add_block]; exact hn444_6) | (show (Addr.add _ _).block ≠ _; rw [add_block]; exact hn444_6) | exact hn444_6) (.int .i64 ((rd_T25 t436 x69_3).f0)) (.string ((rd_T25 t436 x69_3).f1)) (.int .i64 ((rd_T25 t436 x69_3).f2.f0)) (.int .i64 ((rd_T25 t436 x69_3).f2.f1)) (.string ((rd_T25 t436 x69_3).f2.f2)) (.int .i64 ((rd_T25 t436 x69_3).f3)) (.int .i64 ((rd_T25 t436 x69_3).f4)); clear hz444_6; clear hn444_0; clear hn444_1; clear hn444_2; clear hn444_3; clear hn444_4; clear hn444_5; clear hn444_6; replace p444 := eq_true p444; replace q444 := eq_true q444)); try go_wp2_with (first | ((with_reducible refine gate_dst (N := 15) rfl ?_); (try (refine gate_guard (by rfl) ?_; dsimp only)); refine box_event ?hg (N := 15) ?hd (cs := #[.int .i64 0, .string (⟨#[]⟩ : ByteArray), .int .i64 0, .int .i64 0, .string (⟨#[]⟩ : ByteArray), .int .i64 0, .int .i64 0]) (t := 25) ?hr ?_; (case hd => rfl); (case hg => rfl); (case hr => first | (go_simp; done) | (go_simp; rfl)); intro gb443 hg w30 hbox hb; replace HO_5 := Aside0.mk (Kd.R_below (Kd.R_elderB (krW HO_5) gb443 (Nat.le_of_eq hg.symm)) hb); replace HO_8 := Aside0.mk (Kd.R_below (Kd.R_elderB (krW HO_8) gb443 (Nat.le_of_eq hg.symm)) hb); replace HO_67 := Aside0.mk (Kd.R_below (Kd.R_elderB (krW HO_67) gb443 (Nat.le_of_eq hg.symm)) hb); have BK443 := Aside0.mk (hbox); have GW443 := Aside0.mk ((by rw [hg]; exact (bZ_ (kwW HB)) : w.heap.size ≤ gb443)); replace HB := Aside0.mk (below_step (kwW HB) hb); have GE443 := GW443; clear hb hbox hg; obtain ⟨hcz31_0, hcz31_1, hcz31_2, hcz31_3, hcz31_4, hcz31_5, hcz31_6, hfz31_0, hfz31_1, hfz31_2, hfz31_3, hfz31_4, hfz31_5, hfz31_6⟩ := czf7 BK443; obtain ⟨Ao32, co32, eo32⟩ := Kd.R_slice HO_5.out; subst eo32; have p444 : 0 ≤ (x69_3 : Int) := of_decide_eq_true (by first | (with_reducible assumption) | assumption); have q444 : x69_3 < (t425.length : Int) := of_decide_eq_true (by first | (with_reducible assumption) | assumption); obtain ⟨ad444, e444, hx444_0, hx444_1, hx444_2, hx444_3, hx444_4, hx444_5, hx444_6⟩ := at_T25 (Kd.R_reads' HO_5.out).2.2 x69_3 p444 q444; cases e444; have hn444_0 : ad444.block ≠ gb443 := Kd.own_blk (fun e_ => (HO_5.out.1 gb443 e_.symm).2 rfl); have hn444_1 : ad444.block ≠ gb443 := Kd.own_blk (fun e_ => (HO_5.out.1 gb443 e_.symm).2 rfl); have hn444_2 : ad444.block ≠ gb443 := Kd.own_blk (fun e_ => (HO_5.out.1 gb443 e_.symm).2 rfl); have hn444_3 : ad444.block ≠ gb443 := Kd.own_blk (fun e_ => (HO_5.out.1 gb443 e_.symm).2 rfl); have hn444_4 : ad444.block ≠ gb443 := Kd.own_blk (fun e_ => (HO_5.out.1 gb443 e_.symm).2 rfl); have hn444_5 : ad444.block ≠ gb443 := Kd.own_blk (fun e_ => (HO_5.out.1 gb443 e_.symm).2 rfl); have hn444_6 : ad444.block ≠ gb443 := Kd.own_blk (fun e_ => (HO_5.out.1 gb443 e_.symm).2 rfl); replace hx444_0 := (cell_far (p := ⟨gb443, 0, none⟩) (by first | (rw [add_block]; exact hn444_0) | (show (Addr.add _ _).block ≠ _; rw [add_block]; exact hn444_0) | exact hn444_0) (.int .i64 ((rd_T25 t436 x69_3).f0))).trans hx444_0; replace hx444_1 := (cell_far (p := ⟨gb443, 0, none⟩) (by first | (rw [add_block]; exact hn444_0) | (show (Addr.add _ _).block ≠ _; rw [add_block]; exact hn444_0) | exact hn444_0) (.int .i64 ((rd_T25 t436 x69_3).f0))).trans hx444_1; replace hx444_2 := (cell_far (p := ⟨gb443, 0, none⟩) (by first | (rw [add_block]; exact hn444_0) | (show (Addr.add _ _).block ≠ _; rw [add_block]; exact hn444_0) | exact hn444_0) (.int .i64 ((rd_T25 t436 x69_3).f0))).trans hx444_2; replace hx444_3 := (cell_far (p := ⟨gb443, 0, none⟩) (by first | (rw [add_block]; exact hn444_0) | (show (Addr.add _ _).block ≠ _; rw [add_block]; exact hn444_0) | exact hn444_0) (.int .i64 ((rd_T25 t436 x69_3).f0))).trans hx444_3; replace hx444_4 := (cell_far (p := ⟨gb443, 0, none⟩) (by first | (rw [add_block]; exact hn444_0) | (show (Addr.add _ _).block ≠ _; rw [add_block]; exact hn444_0) | exact hn444_0) (.int .i64 ((rd_T25 t436 x69_3).f0))).trans hx444_4; replace hx444_5 := (cell_far (p := ⟨gb443, 0, none⟩) (by first | (rw [add_block]; exact hn444_0) | (show (Addr.add _ _).block ≠ _; rw [add_block]; exact hn444_0) | exact hn444_0) (.int .i64 ((rd_T25 t436 x69_3).f0))).trans hx444_5; replace hx444_6 := (cell_far (p := ⟨gb443, 0, none⟩) (by first | (rw [add_block]; exact hn444_0) | (show (Addr.add _ _).block ≠ _; rw [add_block]; exact hn444_0) | exact hn444_0) (.int .i64 ((rd_T25 t436 x69_3).f0))).trans hx444_6; replace hx444_0 := (cell_far (p := ⟨gb443, 1, none⟩) (by first | (rw [add_block]; exact hn444_1) | (show (Addr.add _ _).block ≠ _; rw [add_block]; exact hn444_1) | exact hn444_1) (.string ((rd_T25 t436 x69_3).f1))).trans hx444_0; replace hx444_1 := (cell_far (p := ⟨gb443, 1, none⟩) (by first | (rw [add_block]; exact hn444_1) | (show (Addr.add _ _).block ≠ _; rw [add_block]; exact hn444_1) | exact hn444_1) (.string ((rd_T25 t436 x69_3).f1))).trans hx444_1; replace hx444_2 := (cell_far (p := ⟨gb443, 1, none⟩) (by first | (rw [add_block]; exact hn444_1) | (show (Addr.add _ _).block ≠ _; rw [add_block]; exact hn444_1) | exact hn444_1) (.string ((rd_T25 t436 x69_3).f1))).trans hx444_2; replace hx444_3 := (cell_far (p := ⟨gb443, 1, none⟩) (by first | (rw [add_block]; exact hn444_1) | (show (Addr.add _ _).block ≠ _; rw [add_block]; exact hn444_1) | exact hn444_1) (.string ((rd_T25 t436 x69_3).f1))).trans hx444_3; replace hx444_4 := (cell_far (p := ⟨gb443, 1, none⟩) (by first | (rw [add_block]; exact hn444_1) | (show (Addr.add _ _).block ≠ _; rw [add_block]; exact hn444_1) | exact hn444_1) (.string ((rd_T25 t436 x69_3).f1))).trans hx444_4; replace hx444_5 := (cell_far (p := ⟨gb443, 1, none⟩) (by first | (rw [add_block]; exact hn444_1) | (show (Addr.add _ _).block ≠ _; rw [add_block]; exact hn444_1) | exact hn444_1) (.string ((rd_T25 t436 x69_3).f1))).trans hx444_5; replace hx444_6 := (cell_far (p := ⟨gb443, 1, none⟩) (by first | (rw [add_block]; exact hn444_1) | (show (Addr.add _ _).block ≠ _; rw [add_block]; exact hn444_1) | exact hn444_1) (.string ((rd_T25 t436 x69_3).f1))).trans hx444_6; replace hx444_0 := (cell_far (p := ⟨gb443, 2, none⟩) (by first | (rw [add_block]; exact hn444_2) | (show (Addr.add _ _).block ≠ _; rw [add_block]; exact hn444_2) | exact hn444_2) (.int .i64 ((rd_T25 t436 x69_3).f2.f0))).trans hx444_0; replace hx444_1 := (cell_far (p := ⟨gb443, 2, none⟩) (by first | (rw [add_block]; exact hn444_2) | (show (Addr.add _ _).block ≠ _; rw [add_block]; exact hn444_2) | exact hn444_2) (.int .i64 ((rd_T25 t436 x69_3).f2.f0))).trans hx444_1; replace hx444_2 := (cell_far (p := ⟨gb443, 2, none⟩) (by first | (rw [add_block]; exact hn444_2) | (show (Addr.add _ _).block ≠ _; rw [add_block]; exact hn444_2) | exact hn444_2) (.int .i64 ((rd_T25 t436 x69_3).f2.f0))).trans hx444_2; replace hx444_3 := (cell_far (p := ⟨gb443, 2, none⟩) (by first | (rw [add_block]; exact hn444_2) | (show (Addr.add _ _).block ≠ _; rw [add_block]; exact hn444_2) | exact hn444_2) (.int .i64 ((rd_T25 t436 x69_3).f2.f0))).trans hx444_3; replace hx444_4 := (cell_far (p := ⟨gb443, 2, none⟩) (by first | (rw [add_block]; exact hn444_2) | (show (Addr.add _ _).block ≠ _; rw [add_block]; exact hn444_2) | exact hn444_2) (.int .i64 ((rd_T25 t436 x69_3).f2.f0))).trans hx444_4; replace hx444_5 := (cell_far (p := ⟨gb443, 2, none⟩) (by first | (rw [add_block]; exact hn444_2) | (show (Addr.add _ _).block ≠ _; rw [add_block]; exact hn444_2) | exact hn444_2) (.int .i64 ((rd_T25 t436 x69_3).f2.f0))).trans hx444_5; replace hx444_6 := (cell_far (p := ⟨gb443, 2, none⟩) (by first | (rw [add_block]; exact hn444_2) | (show (Addr.add _ _).block ≠ _; rw [add_block]; exact hn444_2) | exact hn444_2) (.int .i64 ((rd_T25 t436 x69_3).f2.f0))).trans hx444_6; replace hx444_0 := (cell_far (p := ⟨gb443, 3, none⟩) (by first | (rw [add_block]; exact hn444_3) | (show (Addr.add _ _).block ≠ _; rw [add_block]; exact hn444_3) | exact hn444_3) (.int .i64 ((rd_T25 t436 x69_3).f2.f1))).trans hx444_0; replace hx444_1 := (cell_far (p := ⟨gb443, 3, none⟩) (by first | (rw [add_block]; exact hn444_3) | (show (Addr.add _ _).block ≠ _; rw [add_block]; exact hn444_3) | exact hn444_3) (.int .i64 ((rd_T25 t436 x69_3).f2.f1))).trans hx444_1; replace hx444_2 := (cell_far (p := ⟨gb443, 3, none⟩) (by first | (rw [add_block]; exact hn444_3) | (show (Addr.add _ _).block ≠ _; rw [add_block]; exact hn444_3) | exact hn444_3) (.int .i64 ((rd_T25 t436 x69_3).f2.f1))).trans hx444_2; replace hx444_3 := (cell_far (p := ⟨gb443, 3, none⟩) (by first | (rw [add_block]; exact hn444_3) | (show (Addr.add _ _).block ≠ _; rw [add_block]; exact hn444_3) | exact hn444_3) (.int .i64 ((rd_T25 t436 x69_3).f2.f1))).trans hx444_3; replace hx444_4 := (cell_far (p := ⟨gb443, 3, none⟩) (by first | (rw [add_block]; exact hn444_3) | (show (Addr.add _ _).block ≠ _; rw [add_block]; exact hn444_3) | exact hn444_3) (.int .i64 ((rd_T25 t436 x69_3).f2.f1))).trans hx444_4; replace hx444_5 := (cell_far (p := ⟨gb443, 3, none⟩) (by first | (rw [add_block]; exact hn444_3) | (show (Addr.add _ _).block ≠ _; rw [add_block]; exact hn444_3) | exact hn444_3) (.int .i64 ((rd_T25 t436 x69_3).f2.f1))).trans hx444_5; replace hx444_6 := (cell_far (p := ⟨gb443, 3, none⟩) (by first | (rw [add_block]; exact hn444_3) | (show (Addr.add _ _).block ≠ _; rw [add_block]; exact hn444_3) | exact hn444_3) (.int .i64 ((rd_T25 t436 x69_3).f2.f1))).trans hx444_6; replace hx444_0 := (cell_far (p := ⟨gb443, 4, none⟩) (by first | (rw [add_block]; exact hn444_4) | (show (Addr.add _ _).block ≠ _; rw [add_block]; exact hn444_4) | exact hn444_4) (.string ((rd_T25 t436 x69_3).f2.f2))).trans hx444_0; replace hx444_1 := (cell_far (p := ⟨gb443, 4, none⟩) (by first | (rw [add_block]; exact hn444_4) | (show (Addr.add _ _).block ≠ _; rw [add_block]; exact hn444_4) | exact hn444_4) (.string ((rd_T25 t436 x69_3).f2.f2))).trans hx444_1; replace hx444_2 := (cell_far (p := ⟨gb443, 4, none⟩) (by first | (rw [add_block]; exact hn444_4) | (show (Addr.add _ _).block ≠ _; rw [add_block]; exact hn444_4) | exact hn444_4) (.string ((rd_T25 t436 x69_3).f2.f2))).trans hx444_2; replace hx444_3 := (cell_far (p := ⟨gb443, 4, none⟩) (by first | (rw [add_block]; exact hn444_4) | (show (Addr.add _ _).block ≠ _; rw [add_block]; exact hn444_4) | exact hn444_4) (.string ((rd_T25 t436 x69_3).f2.f2))).trans hx444_3; replace hx444_4 := (cell_far (p := ⟨gb443, 4, none⟩) (by first | (rw [add_block]; exact hn444_4) | (show (Addr.add _ _).block ≠ _; rw [add_block]; exact hn444_4) | exact hn444_4) (.string ((rd_T25 t436 x69_3).f2.f2))).trans hx444_4; replace hx444_5 := (cell_far (p := ⟨gb443, 4, none⟩) (by first | (rw [add_block]; exact hn444_4) | (show (Addr.add _ _).block ≠ _; rw [add_block]; exact hn444_4) | exact hn444_4) (.string ((rd_T25 t436 x69_3).f2.f2))).trans hx444_5; replace hx444_6 := (cell_far (p := ⟨gb443, 4, none⟩) (by first | (rw [add_block]; exact hn444_4) | (show (Addr.add _ _).block ≠ _; rw [add_block]; exact hn444_4) | exact hn444_4) (.string ((rd_T25 t436 x69_3).f2.f2))).trans hx444_6; replace hx444_0 := (cell_far (p := ⟨gb443, 5, none⟩) (by first | (rw [add_block]; exact hn444_5) | (show (Addr.add _ _).block ≠ _; rw [add_block]; exact hn444_5) | exact hn444_5) (.int .i64 ((rd_T25 t436 x69_3).f3))).trans hx444_0; replace hx444_1 := (cell_far (p := ⟨gb443, 5, none⟩) (by first | (rw [add_block]; exact hn444_5) | (show (Addr.add _ _).block ≠ _; rw [add_block]; exact hn444_5) | exact hn444_5) (.int .i64 ((rd_T25 t436 x69_3).f3))).trans hx444_1; replace hx444_2 := (cell_far (p := ⟨gb443, 5, none⟩) (by first | (rw [add_block]; exact hn444_5) | (show (Addr.add _ _).block ≠ _; rw [add_block]; exact hn444_5) | exact hn444_5) (.int .i64 ((rd_T25 t436 x69_3).f3))).trans hx444_2; replace hx444_3 := (cell_far (p := ⟨gb443, 5, none⟩) (by first | (rw [add_block]; exact hn444_5) | (show (Addr.add _ _).block ≠ _; rw [add_block]; exact hn444_5) | exact hn444_5) (.int .i64 ((rd_T25 t436 x69_3).f3))).trans hx444_3; replace hx444_4 := (cell_far (p := ⟨gb443, 5, none⟩) (by first | (rw [add_block]; exact hn444_5) | (show (Addr.add _ _).block ≠ _; rw [add_block]; exact hn444_5) | exact hn444_5) (.int .i64 ((rd_T25 t436 x69_3).f3))).trans hx444_4; replace hx444_5 := (cell_far (p := ⟨gb443, 5, none⟩) (by first | (rw [add_block]; exact hn444_5) | (show (Addr.add _ _).block ≠ _; rw [add_block]; exact hn444_5) | exact hn444_5) (.int .i64 ((rd_T25 t436 x69_3).f3))).trans hx444_5; replace hx444_6 := (cell_far (p := ⟨gb443, 5, none⟩) (by first | (rw [add_block]; exact hn444_5) | (show (Addr.add _ _).block ≠ _; rw [add_block]; exact hn444_5) | exact hn444_5) (.int .i64 ((rd_T25 t436 x69_3).f3))).trans hx444_6; replace hx444_0 := (cell_far (p := ⟨gb443, 6, none⟩) (by first | (rw [add_block]; exact hn444_6) | (show (Addr.add _ _).block ≠ _; rw [add_block]; exact hn444_6) | exact hn444_6) (.int .i64 ((rd_T25 t436 x69_3).f4))).trans hx444_0; replace hx444_1 := (cell_far (p := ⟨gb443, 6, none⟩) (by first | (rw [add_block]; exact hn444_6) | (show (Addr.add _ _).block ≠ _; rw [add_block]; exact hn444_6) | exact hn444_6) (.int .i64 ((rd_T25 t436 x69_3).f4))).trans hx444_1; replace hx444_2 := (cell_far (p := ⟨gb443, 6, none⟩) (by first | (rw [add_block]; exact hn444_6) | (show (Addr.add _ _).block ≠ _; rw [add_block]; exact hn444_6) | exact hn444_6) (.int .i64 ((rd_T25 t436 x69_3).f4))).trans hx444_2; replace hx444_3 := (cell_far (p := ⟨gb443, 6, none⟩) (by first | (rw [add_block]; exact hn444_6) | (show (Addr.add _ _).block ≠ _; rw [add_block]; exact hn444_6) | exact hn444_6) (.int .i64 ((rd_T25 t436 x69_3).f4))).trans hx444_3; replace hx444_4 := (cell_far (p := ⟨gb443, 6, none⟩) (by first | (rw [add_block]; exact hn444_6) | (show (Addr.add _ _).block ≠ _; rw [add_block]; exact hn444_6) | exact hn444_6) (.int .i64 ((rd_T25 t436 x69_3).f4))).trans hx444_4; replace hx444_5 := (cell_far (p := ⟨gb443, 6, none⟩) (by first | (rw [add_block]; exact hn444_6) | (show (Addr.add _ _).block ≠ _; rw [add_block]; exact hn444_6) | exact hn444_6) (.int .i64 ((rd_T25 t436 x69_3).f4))).trans hx444_5; replace hx444_6 := (cell_far (p := ⟨gb443, 6, none⟩) (by first | (rw [add_block]; exact hn444_6) | (show (Addr.add _ _).block ≠ _; rw [add_block]; exact hn444_6) | exact hn444_6) (.int .i64 ((rd_T25 t436 x69_3).f4))).trans hx444_6; (try have hy444_0 := fun (n_ : Nat) => (show (((((((((w30.drewN n_).setCell ⟨gb443, 0, none⟩ (.int .i64 ((rd_T25 t436 x69_3).f0))).setCell ⟨gb443, 1, none⟩ (.string ((rd_T25 t436 x69_3).f1))).setCell ⟨gb443, 2, none⟩ (.int .i64 ((rd_T25 t436 x69_3).f2.f0))).setCell ⟨gb443, 3, none⟩ (.int .i64 ((rd_T25 t436 x69_3).f2.f1))).setCell ⟨gb443, 4, none⟩ (.string ((rd_T25 t436 x69_3).f2.f2))).setCell ⟨gb443, 5, none⟩ (.int .i64 ((rd_T25 t436 x69_3).f3))).setCell ⟨gb443, 6, none⟩ (.int .i64 ((rd_T25 t436 x69_3).f4)))).cell? _ = some _ from hx444_0)); (try have hy444_1 := fun (n_ : Nat) => (show (((((((((w30.drewN n_).setCell ⟨gb443, 0, none⟩ (.int .i64 ((rd_T25 t436 x69_3).f0))).setCell ⟨gb443, 1, none⟩ (.string ((rd_T25 t436 x69_3).f1))).setCell ⟨gb443, 2, none⟩ (.int .i64 ((rd_T25 t436 x69_3).f2.f0))).setCell ⟨gb443, 3, none⟩ (.int .i64 ((rd_T25 t436 x69_3).f2.f1))).setCell ⟨gb443, 4, none⟩ (.string ((rd_T25 t436 x69_3).f2.f2))).setCell ⟨gb443, 5, none⟩ (.int .i64 ((rd_T25 t436 x69_3).f3))).setCell ⟨gb443, 6, none⟩ (.int .i64 ((rd_T25 t436 x69_3).f4)))).cell? _ = some _ from hx444_1)); (try have hy444_2 := fun (n_ : Nat) => (show (((((((((w30.drewN n_).setCell ⟨gb443, 0, none⟩ (.int .i64 ((rd_T25 t436 x69_3).f0))).setCell ⟨gb443, 1, none⟩ (.string ((rd_T25 t436 x69_3).f1))).setCell ⟨gb443, 2, none⟩ (.int .i64 ((rd_T25 t436 x69_3).f2.f0))).setCell ⟨gb443, 3, none⟩ (.int .i64 ((rd_T25 t436 x69_3).f2.f1))).setCell ⟨gb443, 4, none⟩ (.string ((rd_T25 t436 x69_3).f2.f2))).setCell ⟨gb443, 5, none⟩ (.int .i64 ((rd_T25 t436 x69_3).f3))).setCell ⟨gb443, 6, none⟩ (.int .i64 ((rd_T25 t436 x69_3).f4)))).cell? _ = some _ from hx444_2)); (try have hy444_3 := fun (n_ : Nat) => (show (((((((((w30.drewN n_).setCell ⟨gb443, 0, none⟩ (.int .i64 ((rd_T25 t436 x69_3).f0))).setCell ⟨gb443, 1, none⟩ (.string ((rd_T25 t436 x69_3).f1))).setCell ⟨gb443, 2, none⟩ (.int .i64 ((rd_T25 t436 x69_3).f2.f0))).setCell ⟨gb443, 3, none⟩ (.int .i64 ((rd_T25 t436 x69_3).f2.f1))).setCell ⟨gb443, 4, none⟩ (.string ((rd_T25 t436 x69_3).f2.f2))).setCell ⟨gb443, 5, none⟩ (.int .i64 ((rd_T25 t436 x69_3).f3))).setCell ⟨gb443, 6, none⟩ (.int .i64 ((rd_T25 t436 x69_3).f4)))).cell? _ = some _ from hx444_3)); (try have hy444_4 := fun (n_ : Nat) => (show (((((((((w30.drewN n_).setCell ⟨gb443, 0, none⟩ (.int .i64 ((rd_T25 t436 x69_3).f0))).setCell ⟨gb443, 1, none⟩ (.string ((rd_T25 t436 x69_3).f1))).setCell ⟨gb443, 2, none⟩ (.int .i64 ((rd_T25 t436 x69_3).f2.f0))).setCell ⟨gb443, 3, none⟩ (.int .i64 ((rd_T25 t436 x69_3).f2.f1))).setCell ⟨gb443, 4, none⟩ (.string ((rd_T25 t436 x69_3).f2.f2))).setCell ⟨gb443, 5, none⟩ (.int .i64 ((rd_T25 t436 x69_3).f3))).setCell ⟨gb443, 6, none⟩ (.int .i64 ((rd_T25 t436 x69_3).f4)))).cell? _ = some _ from hx444_4)); (try have hy444_5 := fun (n_ : Nat) => (show (((((((((w30.drewN n_).setCell ⟨gb443, 0, none⟩ (.int .i64 ((rd_T25 t436 x69_3).f0))).setCell ⟨gb443, 1, none⟩ (.string ((rd_T25 t436 x69_3).f1))).setCell ⟨gb443, 2, none⟩ (.int .i64 ((rd_T25 t436 x69_3).f2.f0))).setCell ⟨gb443, 3, none⟩ (.int .i64 ((rd_T25 t436 x69_3).f2.f1))).setCell ⟨gb443, 4, none⟩ (.string ((rd_T25 t436 x69_3).f2.f2))).setCell ⟨gb443, 5, none⟩ (.int .i64 ((rd_T25 t436 x69_3).f3))).setCell ⟨gb443, 6, none⟩ (.int .i64 ((rd_T25 t436 x69_3).f4)))).cell? _ = some _ from hx444_5)); (try have hy444_6 := fun (n_ : Nat) => (show (((((((((w30.drewN n_).setCell ⟨gb443, 0, none⟩ (.int .i64 ((rd_T25 t436 x69_3).f0))).setCell ⟨gb443, 1, none⟩ (.string ((rd_T25 t436 x69_3).f1))).setCell ⟨gb443, 2, none⟩ (.int .i64 ((rd_T25 t436 x69_3).f2.f0))).setCell ⟨gb443, 3, none⟩ (.int .i64 ((rd_T25 t436 x69_3).f2.f1))).setCell ⟨gb443, 4, none⟩ (.string ((rd_T25 t436 x69_3).f2.f2))).setCell ⟨gb443, 5, none⟩ (.int .i64 ((rd_T25 t436 x69_3).f3))).setCell ⟨gb443, 6, none⟩ (.int .i64 ((rd_T25 t436 x69_3).f4)))).cell? _ = some _ from hx444_6)); clear hn444_0; clear hn444_1; clear hn444_2; clear hn444_3; clear hn444_4; clear hn444_5; clear hn444_6; replace p444 := eq_true p444; replace q444 := eq_true q444)))
           go_roundg k3
           case measure => have := HJ4.out; have := HJ15.out; have := HK3.out; omega
           case rel => exact ⟨(wrap64 (x69_3 + 1)), (by first | rfl | (simp; done) | (simp [bne, *]; done)), H', ⟨by have := HJ4.out; have := HJ15.out; have := HK3.out; omega⟩, ⟨by (with_reducible repeat (first | apply Kd.R_alloc | apply Kd.R_drewN | apply Kd.R_drew)); exact Kd.R_mono (rf7 (Kd.R_mono HO_5.out (fun k_ hk => (⟨hk, hk.2⟩ : _ ∧ k_ ≠ gb443))) (fun _ hk => hk.2)) (fun _ hk => ⟨hk.1.1.1, hk.1.1.2⟩)⟩, ⟨by (with_reducible repeat (first | apply Kd.R_alloc | apply Kd.R_drewN | apply Kd.R_drew)); exact Kd.R_mono (rf7 (Kd.R_mono HO_8.out (fun k_ hk => (⟨hk, hk.2⟩ : _ ∧ k_ ≠ gb443))) (fun _ hk => hk.2)) (fun _ hk => ⟨hk.1.1.1, hk.1.1.2⟩)⟩, ⟨by (with_reducible repeat (first | apply Kd.R_alloc | apply Kd.R_drewN | apply Kd.R_drew)); exact Kd.R_mono (rf7 (Kd.R_mono HO_67.out (fun k_ hk => (⟨hk, hk.2⟩ : _ ∧ k_ ≠ gb443))) (fun _ hk => hk.2)) (fun _ hk => ⟨hk.1.1.1, hk.1.1.2⟩)⟩, ⟨by repeat (first | (with_reducible first | exact HB.out | apply bA_ | apply bN_ | apply bD_ | refine bS_ ?_ GE443) | exact HB.out)⟩⟩
         ·
          rw [if_neg c27] at H
          have c27b0 : decide (x69_3 < (wrap64 ((t425.length : Int) - 1))) = false := decide_eq_false c27
          clear c27
          obtain ⟨ji33, hji33⟩ : ∃ j_ : Int, (wrap64 ((wrap64 (x69_3 - (t425.length : Int))) + 1)) = j_ := ⟨_, rfl⟩
          replace H : (if 0 ≤ (ji33) then (if (ji33) < (t430.length : Int) then (if (!(((rd_T25 t436 x69_3).f0) == ((rd_T25 t430 (ji33)).f0)) || (!((((rd_T25 t436 x69_3).f1).toList) == (((rd_T25 t430 (ji33)).f1).toList)) || ((!(((rd_T25 t436 x69_3).f2.f0) == ((rd_T25 t430 (ji33)).f2.f0)) || (!(((rd_T25 t436 x69_3).f2.f1) == ((rd_T25 t430 (ji33)).f2.f1)) || (!((((rd_T25 t436 x69_3).f2.f2).toList) == (((rd_T25 t430 (ji33)).f2.f2).toList))))) || (!(((rd_T25 t436 x69_3).f3) == (wrap64 (((rd_T25 t430 (ji33)).f3) + (wrap64 ((a0.size : Int) + 1))))) || (!(((rd_T25 t436 x69_3).f4) == (wrap64 (((rd_T25 t430 (ji33)).f4) + (wrap64 ((a0.size : Int) + 1)))))))))) = true then (none) else (skerrylaw18_LexerJoins.l0 k3 a0 t425 t430 t436 (t436.length : Int) (wrap64 (x69_3 + 1)))) else (none)) else (none)) = some r := by first | (rw [hji33] at H; exact H) | (simp only [hji33] at H ⊢; exact H)
          have hji33w : (IntKind.i64.wrap ((wrap64 (x69_3 - (t425.length : Int))) + 1)) = ji33 := (i64_w _).trans hji33
          by_cases c34 : 0 ≤ (ji33)
          rotate_left
          ·
           rw [if_neg c34] at H
           exact absurd H (by simp)
          rw [if_pos c34] at H
          have c34b0 : decide (0 ≤ (ji33)) = true := decide_eq_true c34
          clear c34
          by_cases c35 : (ji33) < (t430.length : Int)
          rotate_left
          ·
           rw [if_neg c35] at H
           exact absurd H (by simp)
          rw [if_pos c35] at H
          have c35b0 : decide ((ji33) < (t430.length : Int)) = true := decide_eq_true c35
          clear c35
          by_cases c36 : (!(((rd_T25 t436 x69_3).f0) == ((rd_T25 t430 (ji33)).f0)) || (!((((rd_T25 t436 x69_3).f1).toList) == (((rd_T25 t430 (ji33)).f1).toList)) || ((!(((rd_T25 t436 x69_3).f2.f0) == ((rd_T25 t430 (ji33)).f2.f0)) || (!(((rd_T25 t436 x69_3).f2.f1) == ((rd_T25 t430 (ji33)).f2.f1)) || (!((((rd_T25 t436 x69_3).f2.f2).toList) == (((rd_T25 t430 (ji33)).f2.f2).toList))))) || (!(((rd_T25 t436 x69_3).f3) == (wrap64 (((rd_T25 t430 (ji33)).f3) + (wrap64 ((a0.size : Int) + 1))))) || (!(((rd_T25 t436 x69_3).f4) == (wrap64 (((rd_T25 t430 (ji33)).f4) + (wrap64 ((a0.size : Int) + 1)))))))))) = true
          ·
           rw [if_pos c36] at H
           exact absurd H (by simp)
          ·
           rw [if_neg c36] at H
           have c36b0 : (!(((rd_T25 t436 x69_3).f0) == ((rd_T25 t430 (ji33)).f0)) || (!((((rd_T25 t436 x69_3).f1).toList) == (((rd_T25 t430 (ji33)).f1).toList)) || ((!(((rd_T25 t436 x69_3).f2.f0) == ((rd_T25 t430 (ji33)).f2.f0)) || (!(((rd_T25 t436 x69_3).f2.f1) == ((rd_T25 t430 (ji33)).f2.f1)) || (!((((rd_T25 t436 x69_3).f2.f2).toList) == (((rd_T25 t430 (ji33)).f2.f2).toList))))) || (!(((rd_T25 t436 x69_3).f3) == (wrap64 (((rd_T25 t430 (ji33)).f3) + (wrap64 ((a0.size : Int) + 1))))) || (!(((rd_T25 t436 x69_3).f4) == (wrap64 (((rd_T25 t430 (ji33)).f4) + (wrap64 ((a0.size : Int) + 1)))))))))) = false := by simpa using c36
           clear c36
           have H' := Aside0.mk H
           clear H
           have p442 : 0 ≤ (x69_3 : Int) := of_decide_eq_true (by first | (with_reducible assumption) | assumption)
           have q442 : x69_3 < (t436.length : Int) := of_decide_eq_true (by first | (with_reducible assumption) | assumption)
           have p445 : 0 ≤ (ji33 : Int) := of_decide_eq_true (by first | (with_reducible assumption) | assumption)
           have q445 : ji33 < (t430.length : Int) := of_decide_eq_true (by first | (with_reducible assumption) | assumption)
           obtain ⟨Ao39, co39, eo39⟩ := Kd.R_slice HO_5.out
           subst eo39
           obtain ⟨Ao40, co40, eo40⟩ := Kd.R_slice HO_8.out
           subst eo40
           obtain ⟨ad442, e442, hx442_0, hx442_1, hx442_2, hx442_3, hx442_4, hx442_5, hx442_6⟩ := at_T25 (Kd.R_reads' HO_67.out).2.2 x69_3 p442 q442
           subst e442
           obtain ⟨⟨y0, y1, ⟨y2, y3, y4⟩, y5, y6⟩, hy⟩ : ∃ y, rd_T25 t436 x69_3 = y := ⟨_, rfl⟩
           obtain ⟨⟨z0, z1, ⟨z2, z3, z4⟩, z5, z6⟩, hz⟩ : ∃ z, rd_T25 t430 ji33 = z := ⟨_, rfl⟩
           rw [hy, hz] at c36b0
           simp only [hy] at hx442_0 hx442_1 hx442_2 hx442_3 hx442_4 hx442_5 hx442_6
           dsimp only at c36b0
           have HZ := Lib.hid hz
           have C36 := Lib.hid c36b0
           have P442 := Lib.hid p442
           have Q442 := Lib.hid q442
           have P445 := Lib.hid p445
           have Q445 := Lib.hid q445
           clear hy hz c36b0 p445 q445
           replace p442 := eq_true p442
           replace q442 := eq_true q442
           go_upto_region 10 with fail
           go_cut [14, 15] (fun v14 v15 wc => ∃ g : Nat, v14 = .int .i64 x69_3 ∧ v15 = .pointer (some ⟨g, 0, none⟩) ∧ Aside0 (Kd.R k25 25 wc w.heap.size (fun k_ => (some k_ ≠ ((.slice Ao40 t430.length co40) : Value).ownBlock ∧ some k_ ≠ ((.slice (some ad442) t436.length co23) : Value).ownBlock) ∧ k_ ≠ g) (.slice Ao39 t425.length co39) t425) ∧ Aside0 (Kd.R k25 25 wc w.heap.size (fun k_ => (some k_ ≠ ((.slice Ao39 t425.length co39) : Value).ownBlock ∧ some k_ ≠ ((.slice (some ad442) t436.length co23) : Value).ownBlock) ∧ k_ ≠ g) (.slice Ao40 t430.length co40) t430) ∧ Aside0 (Kd.R k25 25 wc w.heap.size (fun k_ => (some k_ ≠ ((.slice Ao39 t425.length co39) : Value).ownBlock ∧ some k_ ≠ ((.slice Ao40 t430.length co40) : Value).ownBlock) ∧ k_ ≠ g) (.slice (some ad442) t436.length co23) t436) ∧ Aside0 (wc.heap[g]? = some (.cells #[.int .i64 y0, .string y1, .int .i64 y2, .int .i64 y3, .string y4, .int .i64 y5, .int .i64 y6] 25 (0, 0))) ∧ Aside0 (w.heap.size ≤ g) ∧ Aside0 (Below w.heap.size w wc))
           case first =>
            go_wp2_with ((with_reducible refine gate_dst (N := 15) rfl ?_); (try (refine gate_guard (by rfl) ?_; dsimp only)); refine box_event ?hg (N := 15) ?hd (cs := #[.int .i64 0, .string (⟨#[]⟩ : ByteArray), .int .i64 0, .int .i64 0, .string (⟨#[]⟩ : ByteArray), .int .i64 0, .int .i64 0]) (t := 25) ?hr ?_; (case hd => rfl); (case hg => rfl); (case hr => first | (go_simp; done) | (go_simp; rfl)); intro gb443 hg w37 hbox hb; have n0_ := Aside0.mk (Kd.R_below (Kd.R_elderB (krW HO_5) gb443 (Nat.le_of_eq hg.symm)) hb); have n1_ := Aside0.mk (Kd.R_below (Kd.R_elderB (krW HO_8) gb443 (Nat.le_of_eq hg.symm)) hb); have n2_ := Aside0.mk (Kd.R_below (Kd.R_elderB (krW HO_67) gb443 (Nat.le_of_eq hg.symm)) hb); have n3_ := Aside0.mk (below_step (by repeat (first | (with_reducible first | exact HB.out | apply bA_ | apply bN_ | apply bD_ | refine below_set ?_ (Nat.zero_le _)) | exact HB.out)) hb); have n4_ := Aside0.mk hbox; have n5_ := Aside0.mk (by rw [hg]; exact below_size (by repeat (first | (with_reducible first | exact HB.out | apply bA_ | apply bN_ | apply bD_ | refine below_set ?_ (Nat.zero_le _)) | exact HB.out)) : w.heap.size ≤ gb443); clear HO_5 HO_8 HO_67 HB; have HO_5 := n0_; have HO_8 := n1_; have HO_67 := n2_; have HB := n3_; have BKn := n4_; have GWn := n5_; clear n0_ n1_ n2_ n3_ n4_ n5_ hb hbox hg; have hczgb443_0 : w37.cell? ⟨gb443, 0, none⟩ = some (.int .i64 0) := (blk_cell BKn.out 0).trans rfl; have hfzgb443_0 := blk_frozen BKn.out 0; have hczgb443_1 : w37.cell? ⟨gb443, 1, none⟩ = some (.string (⟨#[]⟩ : ByteArray)) := (blk_cell BKn.out 1).trans rfl; have hfzgb443_1 := blk_frozen BKn.out 1; have hczgb443_2 : w37.cell? ⟨gb443, 2, none⟩ = some (.int .i64 0) := (blk_cell BKn.out 2).trans rfl; have hfzgb443_2 := blk_frozen BKn.out 2; have hczgb443_3 : w37.cell? ⟨gb443, 3, none⟩ = some (.int .i64 0) := (blk_cell BKn.out 3).trans rfl; have hfzgb443_3 := blk_frozen BKn.out 3; have hczgb443_4 : w37.cell? ⟨gb443, 4, none⟩ = some (.string (⟨#[]⟩ : ByteArray)) := (blk_cell BKn.out 4).trans rfl; have hfzgb443_4 := blk_frozen BKn.out 4; have hczgb443_5 : w37.cell? ⟨gb443, 5, none⟩ = some (.int .i64 0) := (blk_cell BKn.out 5).trans rfl; have hfzgb443_5 := blk_frozen BKn.out 5; have hczgb443_6 : w37.cell? ⟨gb443, 6, none⟩ = some (.int .i64 0) := (blk_cell BKn.out 6).trans rfl; have hfzgb443_6 := blk_frozen BKn.out 6)
            go_meet
            case rel => exact ⟨gb443, rfl, rfl, ⟨by (with_reducible repeat (first | apply Kd.R_alloc | apply Kd.R_drewN | apply Kd.R_drew)); exact (rf6 (Kd.R_far (p := ⟨gb443, 0, none⟩) HO_5.out (fun _ hk => hk.2) (.int .i64 y0)) (fun _ hk => hk.2))⟩, ⟨by (with_reducible repeat (first | apply Kd.R_alloc | apply Kd.R_drewN | apply Kd.R_drew)); exact (rf6 (Kd.R_far (p := ⟨gb443, 0, none⟩) HO_8.out (fun _ hk => hk.2) (.int .i64 y0)) (fun _ hk => hk.2))⟩, ⟨by (with_reducible repeat (first | apply Kd.R_alloc | apply Kd.R_drewN | apply Kd.R_drew)); exact (rf6 (Kd.R_far (p := ⟨gb443, 0, none⟩) HO_67.out (fun _ hk => hk.2) (.int .i64 y0)) (fun _ hk => hk.2))⟩, ⟨(by (with_reducible repeat (first | refine blk_drewN ?_ _ | refine blk_drew ?_ | refine blk_alloc ?_ _)); exact bp7 (kbW BKn))⟩, GWn, ⟨(by repeat (first | (with_reducible first | exact HB.out | apply bA_ | apply bN_ | apply bD_ | refine below_set ?_ GWn.out) | exact HB.out))⟩⟩
           case rest =>
            clear hx442_0 hx442_1 hx442_2 hx442_3 hx442_4 hx442_5 hx442_6 HO_5 HO_8 HO_67 HB p442 q442
            obtain ⟨gb443, rfl, rfl, HO_5, HO_8, HO_67, BK443, GW443, HB⟩ := hcut
            obtain ⟨ad445, e445, hx445_0, hx445_1, hx445_2, hx445_3, hx445_4, hx445_5, hx445_6⟩ := at_T25 (Kd.R_reads' HO_8.out).2.2 ji33 P445.out Q445.out
            subst e445
            simp only [HZ.out] at hx445_0 hx445_1 hx445_2 hx445_3 hx445_4 hx445_5 hx445_6
            have p445 := eq_true P445.out
            have q445 := eq_true Q445.out
            go_upto_region 14 with fail
            go_cut [16] (fun v16 wc => ∃ g : Nat, v16 = .pointer (some ⟨g, 0, none⟩) ∧ Aside0 (g ≠ gb443) ∧ Aside0 (Kd.R k25 25 wc w.heap.size (fun k_ => ((some k_ ≠ ((.slice (some ad445) t430.length co40) : Value).ownBlock ∧ some k_ ≠ ((.slice (some ad442) t436.length co23) : Value).ownBlock) ∧ k_ ≠ gb443) ∧ k_ ≠ g) (.slice Ao39 t425.length co39) t425) ∧ Aside0 (Kd.R k25 25 wc w.heap.size (fun k_ => ((some k_ ≠ ((.slice Ao39 t425.length co39) : Value).ownBlock ∧ some k_ ≠ ((.slice (some ad442) t436.length co23) : Value).ownBlock) ∧ k_ ≠ gb443) ∧ k_ ≠ g) (.slice (some ad445) t430.length co40) t430) ∧ Aside0 (Kd.R k25 25 wc w.heap.size (fun k_ => ((some k_ ≠ ((.slice Ao39 t425.length co39) : Value).ownBlock ∧ some k_ ≠ ((.slice (some ad445) t430.length co40) : Value).ownBlock) ∧ k_ ≠ gb443) ∧ k_ ≠ g) (.slice (some ad442) t436.length co23) t436) ∧ Aside0 (wc.heap[gb443]? = some (.cells #[.int .i64 y0, .string y1, .int .i64 y2, .int .i64 y3, .string y4, .int .i64 y5, .int .i64 y6] 25 (0, 0))) ∧ Aside0 (wc.heap[g]? = some (.cells #[.int .i64 z0, .string z1, .int .i64 z2, .int .i64 z3, .string z4, .int .i64 z5, .int .i64 z6] 25 (0, 0))) ∧ Aside0 (w.heap.size ≤ g) ∧ Aside0 (Below w.heap.size w wc))
            case first =>
             go_wp2_with ((with_reducible refine gate_dst (N := 16) rfl ?_); (try (refine gate_guard (by rfl) ?_; dsimp only)); refine box_event ?hg (N := 16) ?hd (cs := #[.int .i64 0, .string (⟨#[]⟩ : ByteArray), .int .i64 0, .int .i64 0, .string (⟨#[]⟩ : ByteArray), .int .i64 0, .int .i64 0]) (t := 25) ?hr ?_; (case hd => rfl); (case hg => rfl); (case hr => first | (go_simp; done) | (go_simp; rfl)); intro gb446 hg w41 hbox hb; have n0_ := Aside0.mk (Kd.R_below (Kd.R_elderB (krW HO_5) gb446 (Nat.le_of_eq hg.symm)) hb); have n1_ := Aside0.mk (Kd.R_below (Kd.R_elderB (krW HO_8) gb446 (Nat.le_of_eq hg.symm)) hb); have n2_ := Aside0.mk (Kd.R_below (Kd.R_elderB (krW HO_67) gb446 (Nat.le_of_eq hg.symm)) hb); have n3_ := Aside0.mk (below_step (by repeat (first | (with_reducible first | exact HB.out | apply bA_ | apply bN_ | apply bD_ | refine below_set ?_ (Nat.zero_le _)) | exact HB.out)) hb); have n4_ := Aside0.mk hbox; have n5_ := Aside0.mk (by rw [hg]; exact below_size (by repeat (first | (with_reducible first | exact HB.out | apply bA_ | apply bN_ | apply bD_ | refine below_set ?_ (Nat.zero_le _)) | exact HB.out)) : w.heap.size ≤ gb446); have n6_ := Aside0.mk (blk_below BK443.out hb); have n7_ := Aside0.mk (by rw [hg]; exact Nat.ne_of_gt (blk_lt BK443.out) : gb446 ≠ gb443); clear BK443; have BK443 := n6_; have NB := n7_; clear n6_ n7_; clear HO_5 HO_8 HO_67 HB; have HO_5 := n0_; have HO_8 := n1_; have HO_67 := n2_; have HB := n3_; have BKn := n4_; have GWn := n5_; clear n0_ n1_ n2_ n3_ n4_ n5_ hb hbox hg; have hczgb446_0 : w41.cell? ⟨gb446, 0, none⟩ = some (.int .i64 0) := (blk_cell BKn.out 0).trans rfl; have hfzgb446_0 := blk_frozen BKn.out 0; have hczgb446_1 : w41.cell? ⟨gb446, 1, none⟩ = some (.string (⟨#[]⟩ : ByteArray)) := (blk_cell BKn.out 1).trans rfl; have hfzgb446_1 := blk_frozen BKn.out 1; have hczgb446_2 : w41.cell? ⟨gb446, 2, none⟩ = some (.int .i64 0) := (blk_cell BKn.out 2).trans rfl; have hfzgb446_2 := blk_frozen BKn.out 2; have hczgb446_3 : w41.cell? ⟨gb446, 3, none⟩ = some (.int .i64 0) := (blk_cell BKn.out 3).trans rfl; have hfzgb446_3 := blk_frozen BKn.out 3; have hczgb446_4 : w41.cell? ⟨gb446, 4, none⟩ = some (.string (⟨#[]⟩ : ByteArray)) := (blk_cell BKn.out 4).trans rfl; have hfzgb446_4 := blk_frozen BKn.out 4; have hczgb446_5 : w41.cell? ⟨gb446, 5, none⟩ = some (.int .i64 0) := (blk_cell BKn.out 5).trans rfl; have hfzgb446_5 := blk_frozen BKn.out 5; have hczgb446_6 : w41.cell? ⟨gb446, 6, none⟩ = some (.int .i64 0) := (blk_cell BKn.out 6).trans rfl; have hfzgb446_6 := blk_frozen BKn.out 6)
             go_meet
             case rel => exact ⟨gb446, rfl, NB, ⟨by (with_reducible repeat (first | apply Kd.R_alloc | apply Kd.R_drewN | apply Kd.R_drew)); exact (rf6 (Kd.R_far (p := ⟨gb446, 0, none⟩) HO_5.out (fun _ hk => hk.2) (.int .i64 z0)) (fun _ hk => hk.2))⟩, ⟨by (with_reducible repeat (first | apply Kd.R_alloc | apply Kd.R_drewN | apply Kd.R_drew)); exact (rf6 (Kd.R_far (p := ⟨gb446, 0, none⟩) HO_8.out (fun _ hk => hk.2) (.int .i64 z0)) (fun _ hk => hk.2))⟩, ⟨by (with_reducible repeat (first | apply Kd.R_alloc | apply Kd.R_drewN | apply Kd.R_drew)); exact (rf6 (Kd.R_far (p := ⟨gb446, 0, none⟩) HO_67.out (fun _ hk => hk.2) (.int .i64 z0)) (fun _ hk => hk.2))⟩, ⟨by (with_reducible repeat (first | refine blk_drewN ?_ _ | refine blk_drew ?_ | refine blk_alloc ?_ _)); exact blk_far7 BK443.out gb446 NB.out.symm (.int .i64 z0) (.string z1) (.int .i64 z2) (.int .i64 z3) (.string z4) (.int .i64 z5) (.int .i64 z6)⟩, ⟨(by (with_reducible repeat (first | refine blk_drewN ?_ _ | refine blk_drew ?_ | refine blk_alloc ?_ _)); exact bp7 (kbW BKn))⟩, GWn, ⟨(by repeat (first | (with_reducible first | exact HB.out | apply bA_ | apply bN_ | apply bD_ | refine below_set ?_ GWn.out) | exact HB.out))⟩⟩
            case rest =>
             clear hx445_0 hx445_1 hx445_2 hx445_3 hx445_4 hx445_5 hx445_6 HO_5 HO_8 HO_67 HB BK443
             obtain ⟨gb446, rfl, NB, HO_5, HO_8, HO_67, BK443, BK446, GW446, HB⟩ := hcut
             have hb1 := blk_cell BK446.out 5
             have hb2 := blk_frozen BK446.out 5
             replace hb1 := hb1.trans (show _ = some (.int .i64 z5) from rfl)
             go_upto_region 15 with fail
             go_cut [93] (fun v93 wc => Aside0 (Kd.R k25 25 wc w.heap.size (fun k_ => ((some k_ ≠ ((.slice (some ad445) t430.length co40) : Value).ownBlock ∧ some k_ ≠ ((.slice (some ad442) t436.length co23) : Value).ownBlock) ∧ k_ ≠ gb443) ∧ k_ ≠ gb446) (.slice Ao39 t425.length co39) t425) ∧ Aside0 (Kd.R k25 25 wc w.heap.size (fun k_ => ((some k_ ≠ ((.slice Ao39 t425.length co39) : Value).ownBlock ∧ some k_ ≠ ((.slice (some ad442) t436.length co23) : Value).ownBlock) ∧ k_ ≠ gb443) ∧ k_ ≠ gb446) (.slice (some ad445) t430.length co40) t430) ∧ Aside0 (Kd.R k25 25 wc w.heap.size (fun k_ => ((some k_ ≠ ((.slice Ao39 t425.length co39) : Value).ownBlock ∧ some k_ ≠ ((.slice (some ad445) t430.length co40) : Value).ownBlock) ∧ k_ ≠ gb443) ∧ k_ ≠ gb446) (.slice (some ad442) t436.length co23) t436) ∧ Aside0 (wc.heap[gb443]? = some (.cells #[.int .i64 y0, .string y1, .int .i64 y2, .int .i64 y3, .string y4, .int .i64 y5, .int .i64 y6] 25 (0, 0))) ∧ Aside0 (wc.heap[gb446]? = some (.cells #[.int .i64 z0, .string z1, .int .i64 z2, .int .i64 z3, .string z4, .int .i64 (wrap64 (z5 + wrap64 ((a0.size : Int) + 1))), .int .i64 z6] 25 (0, 0))) ∧ Aside0 (Below w.heap.size w wc))
             case first =>
              go_wp2
              go_meet
              case rel => exact ⟨⟨by (with_reducible repeat (first | apply Kd.R_alloc | apply Kd.R_drewN | apply Kd.R_drew)); exact Kd.R_far (p := ⟨gb446, 5, none⟩) HO_5.out (fun _ hk => hk.2) _⟩, ⟨by (with_reducible repeat (first | apply Kd.R_alloc | apply Kd.R_drewN | apply Kd.R_drew)); exact Kd.R_far (p := ⟨gb446, 5, none⟩) HO_8.out (fun _ hk => hk.2) _⟩, ⟨by (with_reducible repeat (first | apply Kd.R_alloc | apply Kd.R_drewN | apply Kd.R_drew)); exact Kd.R_far (p := ⟨gb446, 5, none⟩) HO_67.out (fun _ hk => hk.2) _⟩, ⟨by (with_reducible repeat (first | refine blk_drewN ?_ _ | refine blk_drew ?_ | refine blk_alloc ?_ _)); exact (Below.heap_setCell _ ⟨gb446, 5, none⟩ _ gb443 NB.out.symm).trans BK443.out⟩, ⟨by (with_reducible repeat (first | refine blk_drewN ?_ _ | refine blk_drew ?_ | refine blk_alloc ?_ _)); refine blk_put (cs := #[.int .i64 z0, .string z1, .int .i64 z2, .int .i64 z3, .string z4, .int .i64 z5, .int .i64 z6]) ?_ 5 _ rfl; (with_reducible repeat (first | refine blk_drewN ?_ _ | refine blk_drew ?_ | refine blk_alloc ?_ _)); exact BK446.out⟩, ⟨(by repeat (first | (with_reducible first | exact HB.out | apply bA_ | apply bN_ | apply bD_ | refine below_set ?_ GW446.out) | exact HB.out))⟩⟩
             case rest =>
              clear HO_5 HO_8 HO_67 BK443 BK446 HB hb1 hb2
              obtain ⟨HO_5, HO_8, HO_67, BK443, BK446, HB⟩ := hcut
              have hb1 := blk_cell BK446.out 6
              have hb2 := blk_frozen BK446.out 6
              replace hb1 := hb1.trans (show _ = some (.int .i64 z6) from rfl)
              go_upto_region 16 with fail
              go_cut [100] (fun v100 wc => Aside0 (Kd.R k25 25 wc w.heap.size (fun k_ => ((some k_ ≠ ((.slice (some ad445) t430.length co40) : Value).ownBlock ∧ some k_ ≠ ((.slice (some ad442) t436.length co23) : Value).ownBlock) ∧ k_ ≠ gb443) ∧ k_ ≠ gb446) (.slice Ao39 t425.length co39) t425) ∧ Aside0 (Kd.R k25 25 wc w.heap.size (fun k_ => ((some k_ ≠ ((.slice Ao39 t425.length co39) : Value).ownBlock ∧ some k_ ≠ ((.slice (some ad442) t436.length co23) : Value).ownBlock) ∧ k_ ≠ gb443) ∧ k_ ≠ gb446) (.slice (some ad445) t430.length co40) t430) ∧ Aside0 (Kd.R k25 25 wc w.heap.size (fun k_ => ((some k_ ≠ ((.slice Ao39 t425.length co39) : Value).ownBlock ∧ some k_ ≠ ((.slice (some ad445) t430.length co40) : Value).ownBlock) ∧ k_ ≠ gb443) ∧ k_ ≠ gb446) (.slice (some ad442) t436.length co23) t436) ∧ Aside0 (wc.heap[gb443]? = some (.cells #[.int .i64 y0, .string y1, .int .i64 y2, .int .i64 y3, .string y4, .int .i64 y5, .int .i64 y6] 25 (0, 0))) ∧ Aside0 (wc.heap[gb446]? = some (.cells #[.int .i64 z0, .string z1, .int .i64 z2, .int .i64 z3, .string z4, .int .i64 (wrap64 (z5 + wrap64 ((a0.size : Int) + 1))), .int .i64 (wrap64 (z6 + wrap64 ((a0.size : Int) + 1)))] 25 (0, 0))) ∧ Aside0 (Below w.heap.size w wc))
              case first =>
               go_wp2
               go_meet
               case rel => exact ⟨⟨by (with_reducible repeat (first | apply Kd.R_alloc | apply Kd.R_drewN | apply Kd.R_drew)); exact Kd.R_far (p := ⟨gb446, 6, none⟩) HO_5.out (fun _ hk => hk.2) _⟩, ⟨by (with_reducible repeat (first | apply Kd.R_alloc | apply Kd.R_drewN | apply Kd.R_drew)); exact Kd.R_far (p := ⟨gb446, 6, none⟩) HO_8.out (fun _ hk => hk.2) _⟩, ⟨by (with_reducible repeat (first | apply Kd.R_alloc | apply Kd.R_drewN | apply Kd.R_drew)); exact Kd.R_far (p := ⟨gb446, 6, none⟩) HO_67.out (fun _ hk => hk.2) _⟩, ⟨by (with_reducible repeat (first | refine blk_drewN ?_ _ | refine blk_drew ?_ | refine blk_alloc ?_ _)); exact (Below.heap_setCell _ ⟨gb446, 6, none⟩ _ gb443 NB.out.symm).trans BK443.out⟩, ⟨by (with_reducible repeat (first | refine blk_drewN ?_ _ | refine blk_drew ?_ | refine blk_alloc ?_ _)); refine blk_put (cs := #[.int .i64 z0, .string z1, .int .i64 z2, .int .i64 z3, .string z4, .int .i64 (wrap64 (z5 + wrap64 ((a0.size : Int) + 1))), .int .i64 z6]) ?_ 6 _ rfl; (with_reducible repeat (first | refine blk_drewN ?_ _ | refine blk_drew ?_ | refine blk_alloc ?_ _)); exact BK446.out⟩, ⟨(by repeat (first | (with_reducible first | exact HB.out | apply bA_ | apply bN_ | apply bD_ | refine below_set ?_ GW446.out) | exact HB.out))⟩⟩
              case rest =>
               clear HO_5 HO_8 HO_67 BK443 BK446 HB hb1 hb2
               obtain ⟨HO_5, HO_8, HO_67, BK443, BK446, HB⟩ := hcut
               have hcwgb443_0 : wc.cell? ⟨gb443, 0, none⟩ = some (.int .i64 y0) := (blk_cell BK443.out 0).trans rfl
               have hcwgb443_1 : wc.cell? ⟨gb443, 1, none⟩ = some (.string y1) := (blk_cell BK443.out 1).trans rfl
               have hcwgb443_2 : wc.cell? ⟨gb443, 2, none⟩ = some (.int .i64 y2) := (blk_cell BK443.out 2).trans rfl
               have hcwgb443_3 : wc.cell? ⟨gb443, 3, none⟩ = some (.int .i64 y3) := (blk_cell BK443.out 3).trans rfl
               have hcwgb443_4 : wc.cell? ⟨gb443, 4, none⟩ = some (.string y4) := (blk_cell BK443.out 4).trans rfl
               have hcwgb443_5 : wc.cell? ⟨gb443, 5, none⟩ = some (.int .i64 y5) := (blk_cell BK443.out 5).trans rfl
               have hcwgb443_6 : wc.cell? ⟨gb443, 6, none⟩ = some (.int .i64 y6) := (blk_cell BK443.out 6).trans rfl
               have hcwgb446_0 : wc.cell? ⟨gb446, 0, none⟩ = some (.int .i64 z0) := (blk_cell BK446.out 0).trans rfl
               have hcwgb446_1 : wc.cell? ⟨gb446, 1, none⟩ = some (.string z1) := (blk_cell BK446.out 1).trans rfl
               have hcwgb446_2 : wc.cell? ⟨gb446, 2, none⟩ = some (.int .i64 z2) := (blk_cell BK446.out 2).trans rfl
               have hcwgb446_3 : wc.cell? ⟨gb446, 3, none⟩ = some (.int .i64 z3) := (blk_cell BK446.out 3).trans rfl
               have hcwgb446_4 : wc.cell? ⟨gb446, 4, none⟩ = some (.string z4) := (blk_cell BK446.out 4).trans rfl
               have hcwgb446_5 : wc.cell? ⟨gb446, 5, none⟩ = some (.int .i64 (wrap64 (z5 + wrap64 ((a0.size : Int) + 1)))) := (blk_cell BK446.out 5).trans rfl
               have hcwgb446_6 : wc.cell? ⟨gb446, 6, none⟩ = some (.int .i64 (wrap64 (z6 + wrap64 ((a0.size : Int) + 1)))) := (blk_cell BK446.out 6).trans rfl
               have c36b0 := C36.out
               go_wp2
               go_roundg k3
               case measure => have := HJ4.out; have := HJ15.out; have := HK3.out; omega
               case rel => exact ⟨(wrap64 (x69_3 + 1)), (by first | rfl | (simp; done) | (simp [bne, *]; done)), H', ⟨by have := HJ4.out; have := HJ15.out; have := HK3.out; omega⟩, ⟨by (with_reducible repeat (first | apply Kd.R_alloc | apply Kd.R_drewN | apply Kd.R_drew)); exact Kd.R_mono HO_5.out (fun _ hk => hk.1.1)⟩, ⟨by (with_reducible repeat (first | apply Kd.R_alloc | apply Kd.R_drewN | apply Kd.R_drew)); exact Kd.R_mono HO_8.out (fun _ hk => hk.1.1)⟩, ⟨by (with_reducible repeat (first | apply Kd.R_alloc | apply Kd.R_drewN | apply Kd.R_drew)); exact Kd.R_mono HO_67.out (fun _ hk => hk.1.1)⟩, ⟨kwW HB⟩⟩
end Go.Proofs.YtfaogccfiklinaaDoor.Q
