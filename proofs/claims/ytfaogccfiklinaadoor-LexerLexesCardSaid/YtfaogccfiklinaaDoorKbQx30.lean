/- Lemmas for this claim's walk: no condition of their own. -/
import Derived.Test.YtfaogccfiklinaaDoorKbSq
import Derived.Test.YtfaogccfiklinaaDoorKbQx0
import Derived.Test.YtfaogccfiklinaaDoorKbQx26
import Derived.Test.YtfaogccfiklinaaDoorKbQx28
import Derived.Test.YtfaogccfiklinaaDoorKbQx29
namespace Go.Proofs.YtfaogccfiklinaaDoor.Q
open Go.RowKit Go.Proofs.YtfaogccfiklinaaDoorW.PrintWords Go.Proofs.YtfaogccfiklinaaDoorW.PrintLast Go.Proofs.YtfaogccfiklinaaDoorW.PrintMore
attribute [local go_sem] max2_int min2_int max_two min_two max_three min_three max_four min_four
set_option linter.unusedVariables false
set_option linter.unusedSimpArgs false
mutual
def skerrylaw18_LexerLexes.j0 : Nat → List (S25) → List (S29) → Bool → Option (Bool)
 | 0, _, _, _ => none
 | k + 1, x3, x6, x37 => if x37 = true then (none) else (skerrylaw18_LexerLexes.l0 k x6 x3 (x3.length : Int) 0)
def skerrylaw18_LexerLexes.l0 : Nat → List (S29) → List (S25) → Int → Int → Option (Bool)
 | 0, _, _, _, _ => none
 | k + 1, x6, x38, x39, x40 => if x40 < x39 then (if 0 ≤ x40 then (if x40 < (x38.length : Int) then (if x40 < (x6.length : Int) then ((skerrylaw18_like.f ((rd_T25 x38 x40).f0) ((rd_T25 x38 x40).f1) ((rd_T25 x38 x40).f2.f0) ((rd_T25 x38 x40).f2.f1) ((rd_T25 x38 x40).f2.f2) ((rd_T25 x38 x40).f3) ((rd_T25 x38 x40).f4) ((rd_T29 x6 x40).f0) ((rd_T29 x6 x40).f1) ((rd_T29 x6 x40).f2.f0) ((rd_T29 x6 x40).f2.f1) ((rd_T29 x6 x40).f2.f2) ((rd_T29 x6 x40).f3) ((rd_T29 x6 x40).f4)).bind fun t414 => (if t414 = true then (skerrylaw18_LexerLexes.l0 k x6 x38 x39 (wrap64 (x40 + 1))) else (none))) else (none)) else (none)) else (none)) else ((skerrylaw18_lives.f k).bind fun t415 => (some t415))
end
def skerrylaw18_LexerLexes.f (k : Nat) (a0 : ByteArray) : Option (Bool) := (lexer_Lex.f k a0).bind fun bt401 => ((skerryref18_Lex.f k a0).bind fun bt406 => (if (bt401.1.length : Int) = (bt406.1.length : Int) then (if bt401.2.1 = bt406.2.1 then (skerrylaw18_LexerLexes.j0 k bt401.1 bt406.1 (bt401.2.2 != bt406.2.2)) else (skerrylaw18_LexerLexes.j0 k bt401.1 bt406.1 true)) else (skerrylaw18_LexerLexes.j0 k bt401.1 bt406.1 true)))
set_option maxHeartbeats 8000000 in
set_option maxRecDepth 100000 in
theorem skerrylaw18_LexerLexes.calls (k : Nat) (a0 : ByteArray) (r : Bool) (w : World) (h : skerrylaw18_LexerLexes.f k a0 = some r) :
  Calls Tryd.prog 4 #[.string a0] w fun e w' => e = .returned (.bool r) ∧ Below w.heap.size w w' := by
 have hu25 := Tryd.underlying25
 have hu29 := Tryd.underlying29
 have HB := Aside0.mk (Below.refl w.heap.size w)
 have H : ((lexer_Lex.f k a0).bind fun bt401 => ((skerryref18_Lex.f k a0).bind fun bt406 => (if (bt401.1.length : Int) = (bt406.1.length : Int) then (if bt401.2.1 = bt406.2.1 then (skerrylaw18_LexerLexes.j0 k bt401.1 bt406.1 (bt401.2.2 != bt406.2.2)) else (skerrylaw18_LexerLexes.j0 k bt401.1 bt406.1 true)) else (skerrylaw18_LexerLexes.j0 k bt401.1 bt406.1 true)))) = some r := h
 clear h
 replace H := Option.bind_eq_some_iff.mp H
 obtain ⟨⟨t401, t402, t403⟩, A20, H⟩ := H
 have A2 := Aside0.mk A20
 clear A20
 replace H := Option.bind_eq_some_iff.mp H
 obtain ⟨⟨t406, t407, t408⟩, A30, H⟩ := H
 have A3 := Aside0.mk A30
 clear A30
 have HC4 := Aside0.mk H
 clear H
 go_enter Tryd.func4, Tryd.ntmps4
 go_upto_region 3 with (first | ((with_reducible refine gate_callee (f := 13) rfl ?_); refine goesL_ (some 13) rfl rfl Tryd.func13 (by kernel_rfl) rfl #[.string a0] rfl (by (try simp only [mT_, mC_, mN_]); first | done | rfl) ?_; (with_reducible refine (lexer_Lex.calls k a0 t401 t402 t403 _ A2.out).mono ?_); rintro e w5 ⟨v404, rfl, ho0, hb⟩; refine ⟨_, rfl, ?_⟩; have HO405 := Aside0.mk (Kd.R_lower ho0 (bZ_ (kwW HB))); replace HB := Aside0.mk (below_step (kwW HB) hb); (try clear hb); (try clear hb2); (try clear hk); (try clear hi); (try clear ho0)) | ((with_reducible refine gate_callee (f := 14) rfl ?_); refine goesL_ (some 19) rfl rfl Tryd.func14 (by kernel_rfl) rfl #[.string a0] rfl (by (try simp only [mT_, mC_, mN_]); first | done | rfl) ?_; (with_reducible refine (skerryref18_Lex.calls k a0 t406 t407 t408 _ A3.out).mono ?_); rintro e w6 ⟨v409, rfl, ho0, hb⟩; refine ⟨_, rfl, ?_⟩; replace HO405 := kR HO405 hb; have HO410 := Aside0.mk (Kd.R_lower ho0 (bZ_ (kwW HB))); replace HB := Aside0.mk (below_step (kwW HB) hb); (try clear hb); (try clear hb2); (try clear hk); (try clear hi); (try clear ho0)))
 (try simp only [Act.put, List.setIfInBounds_toArray, List.set_cons_zero, List.set_cons_succ])
 go_cut [37] (fun v37 wc => ∃ (kq : Nat) (x37_3 : Bool), v37 = .bool x37_3 ∧ Aside0 (skerrylaw18_LexerLexes.j0 kq t401 t406 x37_3 = some r) ∧ Aside0 (kq ≤ k) ∧ Aside0 (Kd.R k25 25 wc w.heap.size (fun _ => True) v404 t401) ∧ Aside0 (Kd.R k29 29 wc w.heap.size (fun _ => True) v409 t406) ∧ Aside0 (Below w.heap.size w wc))
 case first =>
  have H := HC4.out
  clear HC4
  by_cases c7 : (t401.length : Int) = (t406.length : Int)
  rotate_left
  ·
   rw [if_neg c7] at H
   have c7b0 : ((t401.length : Int) == (t406.length : Int)) = false := beq_eq_false_iff_ne.mpr c7
   have c7b1 : ((t401.length : Int) != (t406.length : Int)) = true := bne_iff_ne.mpr c7
   have c7b2 : (t401.length == t406.length) = false := by first | simpa using c7 | (simp at c7 ⊢; omega)
   (first | rw [c7b0] | (simp only [i64_w, i32_w]; rw [c7b0]) | skip)
   have H' := Aside0.mk H
   clear H
   obtain ⟨Ao13, co13, eo13⟩ := Kd.R_slice HO405.out
   subst eo13
   obtain ⟨Ao14, co14, eo14⟩ := Kd.R_slice HO410.out
   subst eo14
   go_wp2
   go_meet
   case rel => exact ⟨_, (true), (by first | rfl | (simp; done) | (simp [bne, *]; done)), H', ⟨by first | omega | exact Nat.le_refl _⟩, ⟨krW HO405⟩, ⟨krW HO410⟩, ⟨kwW HB⟩⟩
  rw [if_pos c7] at H
  have c7b0 : ((t401.length : Int) == (t406.length : Int)) = true := beq_iff_eq.mpr c7
  have c7b1 : ((t401.length : Int) != (t406.length : Int)) = false := bne_eq_false_iff_eq.mpr c7
  have c7b2 : (t401.length == t406.length) = true := by first | simpa using c7 | (simp at c7 ⊢; omega)
  clear c7
  (first | rw [c7b0] | (simp only [i64_w, i32_w]; rw [c7b0]) | skip)
  by_cases c8 : t402 = t407
  rotate_left
  ·
   rw [if_neg c8] at H
   have c8b0 : (t402 == t407) = false := beq_eq_false_iff_ne.mpr c8
   have c8b1 : (t402 != t407) = true := bne_iff_ne.mpr c8
   have H' := Aside0.mk H
   clear H
   obtain ⟨Ao11, co11, eo11⟩ := Kd.R_slice HO405.out
   subst eo11
   obtain ⟨Ao12, co12, eo12⟩ := Kd.R_slice HO410.out
   subst eo12
   go_wp2
   go_meet
   case rel => exact ⟨_, (true), (by first | rfl | (simp; done) | (simp [bne, *]; done)), H', ⟨by first | omega | exact Nat.le_refl _⟩, ⟨krW HO405⟩, ⟨krW HO410⟩, ⟨kwW HB⟩⟩
  rw [if_pos c8] at H
  have c8b0 : (t402 == t407) = true := beq_iff_eq.mpr c8
  have c8b1 : (t402 != t407) = false := bne_eq_false_iff_eq.mpr c8
  clear c8
  have H' := Aside0.mk H
  clear H
  obtain ⟨Ao9, co9, eo9⟩ := Kd.R_slice HO405.out
  subst eo9
  obtain ⟨Ao10, co10, eo10⟩ := Kd.R_slice HO410.out
  subst eo10
  go_wp2
  go_meet
  case rel => exact ⟨_, ((t403 != t408)), (by first | rfl | (simp; done) | (simp [bne, *]; done)), H', ⟨by first | omega | exact Nat.le_refl _⟩, ⟨krW HO405⟩, ⟨krW HO410⟩, ⟨kwW HB⟩⟩
 case rest =>
  clear HC4
  try clear c1
  try clear p2
  try clear c4
  try clear c7
  try clear c7b0
  try clear c7b1
  try clear c7b2
  try clear c8
  try clear c8b0
  try clear c8b1
  try clear c13
  try clear c14
  obtain ⟨kq, x37_3, rfl, HA, HJ3, HO_3, HO_6, HB⟩ := hcut
  cases kq with
  | zero => exact absurd HA.out (by simp [skerrylaw18_LexerLexes.j0])
  | succ kj3 =>
   have H := HA.out
   clear HA
   simp only [skerrylaw18_LexerLexes.j0] at H
   by_cases c15 : x37_3 = true
   ·
    subst c15
    have H1 : (none) = some r := by rw [if_pos rfl] at H; exact H
    clear H
    have H := H1
    clear H1
    exact absurd H (by simp)
   ·
    replace c15 := Bool.eq_false_iff.mpr c15
    subst c15
    have H1 : (skerrylaw18_LexerLexes.l0 kj3 t406 t401 (t401.length : Int) 0) = some r := by rw [if_neg (show ¬ (false = true) by decide)] at H; exact H
    clear H
    have H := H1
    clear H1
    have H' := Aside0.mk H
    clear H
    obtain ⟨Ao16, co16, eo16⟩ := Kd.R_slice HO_3.out
    subst eo16
    go_wp2
    go_loopg [40] kj3 (fun kq v40 w' => ∃ (x40_2 : Int), v40 = .int .i64 x40_2 ∧ Aside0 (skerrylaw18_LexerLexes.l0 kq t406 t401 (t401.length : Int) x40_2 = some r) ∧ Aside0 (kq ≤ kj3) ∧ Aside0 (Kd.R k29 29 w' w.heap.size (fun _ => True) v409 t406) ∧ Aside0 (Kd.R k25 25 w' w.heap.size (fun _ => True) (.slice Ao16 t401.length co16) t401) ∧ Aside0 (Below w.heap.size w w'))
    case atStart => exact ⟨(0), (by first | rfl | (simp; done) | (simp [bne, *]; done)), H', ⟨Nat.le_refl _⟩, ⟨krW HO_6⟩, ⟨krW HO_3⟩, ⟨kwW HB⟩⟩
    case round =>
     clear H'
     try clear c1
     try clear p2
     try clear c4
     try clear c7
     try clear c7b0
     try clear c7b1
     try clear c7b2
     try clear c8
     try clear c8b0
     try clear c8b1
     try clear c13
     try clear c14
     try clear c15
     try clear p2
     obtain ⟨x40_2, rfl, HA, HK2, HO_6, HO_38, HB⟩ := hrel
     cases gk with
     | zero => exact absurd HA.out (by simp [skerrylaw18_LexerLexes.l0])
     | succ k2 =>
      have H := HA.out
      clear HA
      simp only [skerrylaw18_LexerLexes.l0] at H
      by_cases c17 : x40_2 < (t401.length : Int)
      rotate_left
      ·
       rw [if_neg c17] at H
       have c17b0 : decide (x40_2 < (t401.length : Int)) = false := decide_eq_false c17
       clear c17
       replace H := Option.bind_eq_some_iff.mp H
       obtain ⟨t415, A290, H⟩ := H
       have A29 := Aside0.mk A290
       clear A290
       obtain rfl := Option.some.inj H
       go_wp2_with (first | ((with_reducible refine gate_callee (f := 12) rfl ?_); refine goesL_ (some 53) rfl rfl Tryd.func12 (by kernel_rfl) rfl #[] rfl (by (try simp only [mT_, mC_, mN_]); first | done | rfl) ?_; (with_reducible refine (skerrylaw18_lives.calls k2  t415 _ A29.out).mono ?_); rintro e w30 ⟨rfl, hb⟩; refine ⟨_, rfl, ?_⟩; replace HO_6 := kR HO_6 hb; replace HO_38 := kR HO_38 hb; replace HB := Aside0.mk (below_step (kwW HB) hb); (try clear hb); (try clear hb2); (try clear hk); (try clear hi)))
       go_ret
       exact ⟨by first | rfl | (simp <;> rfl) | (simp [*] <;> rfl), kwW HB⟩
      rw [if_pos c17] at H
      have c17b0 : decide (x40_2 < (t401.length : Int)) = true := decide_eq_true c17
      clear c17
      by_cases c18 : 0 ≤ x40_2
      rotate_left
      ·
       rw [if_neg c18] at H
       exact absurd H (by simp)
      rw [if_pos c18] at H
      have c18b0 : decide (0 ≤ x40_2) = true := decide_eq_true c18
      clear c18
      by_cases c19 : x40_2 < (t401.length : Int)
      rotate_left
      ·
       rw [if_neg c19] at H
       exact absurd H (by simp)
      rw [if_pos c19] at H
      have c19b0 : decide (x40_2 < (t401.length : Int)) = true := decide_eq_true c19
      clear c19
      by_cases c20 : x40_2 < (t406.length : Int)
      rotate_left
      ·
       rw [if_neg c20] at H
       exact absurd H (by simp)
      rw [if_pos c20] at H
      have c20b0 : decide (x40_2 < (t406.length : Int)) = true := decide_eq_true c20
      clear c20
      replace H := Option.bind_eq_some_iff.mp H
      obtain ⟨t414, A210, H⟩ := H
      have A21 := Aside0.mk A210
      clear A210
      by_cases c22 : t414 = true
      rotate_left
      ·
       replace c22 := Bool.eq_false_iff.mpr c22
       subst c22
       have H1 : (none) = some r := by rw [if_neg (show ¬ (false = true) by decide)] at H; exact H
       clear H
       have H := H1
       clear H1
       exact absurd H (by simp)
      subst c22
      have H1 : (skerrylaw18_LexerLexes.l0 k2 t406 t401 (t401.length : Int) (wrap64 (x40_2 + 1))) = some r := by rw [if_pos rfl] at H; exact H
      clear H
      have H := H1
      clear H1
      have H' := Aside0.mk H
      clear H
      have p411 : 0 ≤ (x40_2 : Int) := of_decide_eq_true (by first | (with_reducible assumption) | assumption)
      have q411 : x40_2 < (t401.length : Int) := of_decide_eq_true (by first | (with_reducible assumption) | assumption)
      obtain ⟨ad411, e411, hx411_0, hx411_1, hx411_2, hx411_3, hx411_4, hx411_5, hx411_6⟩ := at_T25 (Kd.R_reads' HO_38.out).2.2 x40_2 p411 q411
      cases e411
      replace p411 := eq_true p411
      replace q411 := eq_true q411
      try go_wp2_with (first | ((with_reducible refine gate_dst (N := 10) rfl ?_); refine box_event ?hg (N := 10) ?hd (cs := #[.int .i64 0, .string (⟨#[]⟩ : ByteArray), .int .i64 0, .int .i64 0, .string (⟨#[]⟩ : ByteArray), .int .i64 0, .int .i64 0]) (t := 25) ?hr ?_; (case hd => rfl); (case hg => rfl); (case hr => first | (go_simp; done) | (go_simp; rfl)); intro gb412 hg w23 hbox hb; replace HO_6 := kR HO_6 hb; replace HO_38 := Aside0.mk (Kd.R_below (Kd.R_elderB (krW HO_38) gb412 (Nat.le_of_eq hg.symm)) hb); have BK412 := Aside0.mk (hbox); have GW412 := Aside0.mk ((by rw [hg]; exact (bZ_ (kwW HB)) : w.heap.size ≤ gb412)); replace HB := Aside0.mk (below_step (kwW HB) hb); have GE412 := GW412; clear hb hbox hg; obtain ⟨_, _, _, _, _, _, _, _, _, _, _, _, _, _⟩ := czf7 BK412))
      have n0_ : Aside0 (Kd.R k29 29 (((((((w23.setCell ⟨gb412, 0, none⟩ (.int .i64 ((rd_T25 t401 x40_2).f0))).setCell ⟨gb412, 1, none⟩ (.string ((rd_T25 t401 x40_2).f1))).setCell ⟨gb412, 2, none⟩ (.int .i64 ((rd_T25 t401 x40_2).f2.f0))).setCell ⟨gb412, 3, none⟩ (.int .i64 ((rd_T25 t401 x40_2).f2.f1))).setCell ⟨gb412, 4, none⟩ (.string ((rd_T25 t401 x40_2).f2.f2))).setCell ⟨gb412, 5, none⟩ (.int .i64 ((rd_T25 t401 x40_2).f3))).setCell ⟨gb412, 6, none⟩ (.int .i64 ((rd_T25 t401 x40_2).f4))) w.heap.size (fun _ => True) v409 t406) := ⟨by (with_reducible repeat (first | apply Kd.R_alloc | apply Kd.R_drewN | apply Kd.R_drew)); exact Kd.R_mono (rf7 (Kd.R_types HO_6.out BK412.out (by decide)) (fun _ hk => hk.2)) (fun _ hk => trivial)⟩
      have n1_ : Aside0 (Kd.R k25 25 (((((((w23.setCell ⟨gb412, 0, none⟩ (.int .i64 ((rd_T25 t401 x40_2).f0))).setCell ⟨gb412, 1, none⟩ (.string ((rd_T25 t401 x40_2).f1))).setCell ⟨gb412, 2, none⟩ (.int .i64 ((rd_T25 t401 x40_2).f2.f0))).setCell ⟨gb412, 3, none⟩ (.int .i64 ((rd_T25 t401 x40_2).f2.f1))).setCell ⟨gb412, 4, none⟩ (.string ((rd_T25 t401 x40_2).f2.f2))).setCell ⟨gb412, 5, none⟩ (.int .i64 ((rd_T25 t401 x40_2).f3))).setCell ⟨gb412, 6, none⟩ (.int .i64 ((rd_T25 t401 x40_2).f4))) w.heap.size (fun k_ => k_ ≠ gb412) (.slice (some ad411) t401.length co16) t401) := ⟨by (with_reducible repeat (first | apply Kd.R_alloc | apply Kd.R_drewN | apply Kd.R_drew)); exact Kd.R_mono (rf7 (Kd.R_mono HO_38.out (fun k_ hk => (⟨hk, hk.2⟩ : _ ∧ k_ ≠ gb412))) (fun _ hk => hk.2)) (fun _ hk => hk.1.2)⟩
      have n2_ : Aside0 ((((((((w23.setCell ⟨gb412, 0, none⟩ (.int .i64 ((rd_T25 t401 x40_2).f0))).setCell ⟨gb412, 1, none⟩ (.string ((rd_T25 t401 x40_2).f1))).setCell ⟨gb412, 2, none⟩ (.int .i64 ((rd_T25 t401 x40_2).f2.f0))).setCell ⟨gb412, 3, none⟩ (.int .i64 ((rd_T25 t401 x40_2).f2.f1))).setCell ⟨gb412, 4, none⟩ (.string ((rd_T25 t401 x40_2).f2.f2))).setCell ⟨gb412, 5, none⟩ (.int .i64 ((rd_T25 t401 x40_2).f3))).setCell ⟨gb412, 6, none⟩ (.int .i64 ((rd_T25 t401 x40_2).f4))).heap[gb412]? = some (.cells #[.int .i64 ((rd_T25 t401 x40_2).f0), .string ((rd_T25 t401 x40_2).f1), .int .i64 ((rd_T25 t401 x40_2).f2.f0), .int .i64 ((rd_T25 t401 x40_2).f2.f1), .string ((rd_T25 t401 x40_2).f2.f2), .int .i64 ((rd_T25 t401 x40_2).f3), .int .i64 ((rd_T25 t401 x40_2).f4)] 25 (0, 0))) := ⟨by (with_reducible repeat (first | refine blk_drewN ?_ _ | refine blk_drew ?_ | refine blk_alloc ?_ _)); exact bp7 (kbW BK412)⟩
      have n3_ : Aside0 (Below w.heap.size w (((((((w23.setCell ⟨gb412, 0, none⟩ (.int .i64 ((rd_T25 t401 x40_2).f0))).setCell ⟨gb412, 1, none⟩ (.string ((rd_T25 t401 x40_2).f1))).setCell ⟨gb412, 2, none⟩ (.int .i64 ((rd_T25 t401 x40_2).f2.f0))).setCell ⟨gb412, 3, none⟩ (.int .i64 ((rd_T25 t401 x40_2).f2.f1))).setCell ⟨gb412, 4, none⟩ (.string ((rd_T25 t401 x40_2).f2.f2))).setCell ⟨gb412, 5, none⟩ (.int .i64 ((rd_T25 t401 x40_2).f3))).setCell ⟨gb412, 6, none⟩ (.int .i64 ((rd_T25 t401 x40_2).f4)))) := ⟨by repeat (first | (with_reducible first | exact HB.out | apply bA_ | apply bN_ | apply bD_ | refine bS_ ?_ GE412) | exact HB.out)⟩
      (try clear HO_6)
      (try clear HO_38)
      (try clear BK412)
      (try clear HB)
      generalize (((((((w23.setCell ⟨gb412, 0, none⟩ (.int .i64 ((rd_T25 t401 x40_2).f0))).setCell ⟨gb412, 1, none⟩ (.string ((rd_T25 t401 x40_2).f1))).setCell ⟨gb412, 2, none⟩ (.int .i64 ((rd_T25 t401 x40_2).f2.f0))).setCell ⟨gb412, 3, none⟩ (.int .i64 ((rd_T25 t401 x40_2).f2.f1))).setCell ⟨gb412, 4, none⟩ (.string ((rd_T25 t401 x40_2).f2.f2))).setCell ⟨gb412, 5, none⟩ (.int .i64 ((rd_T25 t401 x40_2).f3))).setCell ⟨gb412, 6, none⟩ (.int .i64 ((rd_T25 t401 x40_2).f4))) = w25 at n0_ n1_ n2_ n3_ ⊢
      have HO_6 := n0_
      have HO_38 := n1_
      have BK412 := n2_
      have HB := n3_
      clear n0_ n1_ n2_ n3_
      replace HO_6 := Aside0.mk (Kd.R_drew HO_6.out)
      replace HO_38 := Aside0.mk (Kd.R_drew HO_38.out)
      replace BK412 := Aside0.mk (blk_drew BK412.out)
      replace HB := Aside0.mk (below_drew1 HB.out)
      obtain ⟨Ao27, co27, eo27⟩ := Kd.R_slice HO_6.out
      (first | subst eo27 | (injection eo27 with f1_ f2_ f3_; have f4_ := f1_.symm; have f5_ := f3_.symm; clear f1_ f2_ f3_; subst f4_; subst f5_))
      have p413 : 0 ≤ (x40_2 : Int) := of_decide_eq_true (by first | (with_reducible assumption) | assumption)
      have q413 : x40_2 < (t406.length : Int) := of_decide_eq_true (by first | (with_reducible assumption) | assumption)
      obtain ⟨ad413, e413, hx413_0, hx413_1, hx413_2, hx413_3, hx413_4, hx413_5, hx413_6⟩ := at_T29 (Kd.R_reads' HO_6.out).2.2 x40_2 p413 q413
      cases e413
      replace p413 := eq_true p413
      replace q413 := eq_true q413
      refine start_ (n := 7) (S := fun w' => w'.cell? ⟨gb412, 0, none⟩ = some (.int .i64 ((rd_T25 t401 x40_2).f0)) ∧ w'.cell? ⟨gb412, 1, none⟩ = some (.string ((rd_T25 t401 x40_2).f1)) ∧ w'.cell? ⟨gb412, 2, none⟩ = some (.int .i64 ((rd_T25 t401 x40_2).f2.f0)) ∧ w'.cell? ⟨gb412, 3, none⟩ = some (.int .i64 ((rd_T25 t401 x40_2).f2.f1)) ∧ w'.cell? ⟨gb412, 4, none⟩ = some (.string ((rd_T25 t401 x40_2).f2.f2)) ∧ w'.cell? ⟨gb412, 5, none⟩ = some (.int .i64 ((rd_T25 t401 x40_2).f3)) ∧ w'.cell? ⟨gb412, 6, none⟩ = some (.int .i64 ((rd_T25 t401 x40_2).f4)) ∧ w'.cell? (ad413.add ((x40_2).toNat * 7)) = some (.int .i64 ((rd_T29 t406 x40_2).f0)) ∧ w'.cell? ⟨(ad413.add ((x40_2).toNat * 7)).block, (ad413.add ((x40_2).toNat * 7)).off + 1, none⟩ = some (.string ((rd_T29 t406 x40_2).f1)) ∧ w'.cell? ⟨(ad413.add ((x40_2).toNat * 7)).block, (ad413.add ((x40_2).toNat * 7)).off + 2, none⟩ = some (.int .i64 ((rd_T29 t406 x40_2).f2.f0)) ∧ w'.cell? ⟨(ad413.add ((x40_2).toNat * 7)).block, (ad413.add ((x40_2).toNat * 7)).off + 3, none⟩ = some (.int .i64 ((rd_T29 t406 x40_2).f2.f1)) ∧ w'.cell? ⟨(ad413.add ((x40_2).toNat * 7)).block, (ad413.add ((x40_2).toNat * 7)).off + 4, none⟩ = some (.string ((rd_T29 t406 x40_2).f2.f2)) ∧ w'.cell? ⟨(ad413.add ((x40_2).toNat * 7)).block, (ad413.add ((x40_2).toNat * 7)).off + 5, none⟩ = some (.int .i64 ((rd_T29 t406 x40_2).f3)) ∧ w'.cell? ⟨(ad413.add ((x40_2).toNat * 7)).block, (ad413.add ((x40_2).toNat * 7)).off + 6, none⟩ = some (.int .i64 ((rd_T29 t406 x40_2).f4))) (ds := []) (tf_ 0 7) (by kernel_rfl) rfl rfl ⟨(blk_cell BK412.out 0).trans rfl, (blk_cell BK412.out 1).trans rfl, (blk_cell BK412.out 2).trans rfl, (blk_cell BK412.out 3).trans rfl, (blk_cell BK412.out 4).trans rfl, (blk_cell BK412.out 5).trans rfl, (blk_cell BK412.out 6).trans rfl, hx413_0, hx413_1, hx413_2, hx413_3, hx413_4, hx413_5, hx413_6⟩ (fun hHeld => ?_)
      generalize w25.drew = w26 at HO_6 HO_38 BK412 HB hx413_0 hx413_1 hx413_2 hx413_3 hx413_4 hx413_5 hx413_6 hHeld ⊢
      refine pure_ (i := 1) (N := some 46) (v := ?_) (a' := ?_) (tb_ 2 7) rfl rfl (by kernel_rfl) (fun _ _ _ h => h) (Or.inl ⟨by rfl, ?_⟩) ?_ ?_
      rotate_left; · (intro w'; go_simp; with_reducible rfl)
      rotate_left; · (simp only [Act.put, sT_, sO_, sN_, i64_w, i32_w]; rfl)
      refine pure_ (i := 2) (N := some 47) (v := ?_) (a' := ?_) (tb_ 6 7) rfl rfl (by kernel_rfl) (fun _ _ _ h => h) (Or.inl ⟨by rfl, ?_⟩) ?_ ?_
      rotate_left; · (intro w'; go_simp; with_reducible rfl)
      rotate_left; · (simp only [Act.put, sT_, sO_, sN_, i64_w, i32_w]; rfl)
      refine pure_ (i := 3) (N := some 48) (v := ?_) (a' := ?_) (tb_ 14 7) rfl rfl (by kernel_rfl) (fun _ _ _ h => h) (Or.inl ⟨by rfl, ?_⟩) ?_ ?_
      rotate_left; · (intro w'; go_simp; with_reducible rfl)
      rotate_left; · (simp only [Act.put, sT_, sO_, sN_, i64_w, i32_w]; rfl)
      refine take_ (i := 0) (N := some 45) (v := ?_) (a' := ?_) (tf_ 4 3) rfl rfl (by kernel_rfl) (fun _ _ _ h => h) (Or.inl ⟨by rfl, ?_⟩) hHeld ?_ ?_
      rotate_left; · (rintro w' ⟨s0, s1, s2, s3, s4, s5, s6, s7, s8, s9, s10, s11, s12, s13⟩; go_simp; with_reducible rfl)
      rotate_left; · (simp only [Act.put, sT_, sO_, sN_, i64_w, i32_w]; rfl)
      refine take_ (i := 4) (N := some 49) (v := ?_) (a' := ?_) (tf_ 5 2) rfl rfl (by kernel_rfl) (fun _ _ _ h => h) (Or.inl ⟨by rfl, ?_⟩) hHeld ?_ ?_
      rotate_left; · (rintro w' ⟨s0, s1, s2, s3, s4, s5, s6, s7, s8, s9, s10, s11, s12, s13⟩; go_simp; with_reducible rfl)
      rotate_left; · (simp only [Act.put, sT_, sO_, sN_, i64_w, i32_w]; rfl)
      refine one_ (i := 5) (N := some 50) (tf_ 6 1) rfl rfl (by kernel_rfl) (by decide) (fun K hK => ?_)
      refine goes_ Tryd.func11 (by kernel_rfl) rfl #[.agg #[.int .i64 ((rd_T25 t401 x40_2).f0), .string ((rd_T25 t401 x40_2).f1), .int .i64 ((rd_T25 t401 x40_2).f2.f0), .int .i64 ((rd_T25 t401 x40_2).f2.f1), .string ((rd_T25 t401 x40_2).f2.f2), .int .i64 ((rd_T25 t401 x40_2).f3), .int .i64 ((rd_T25 t401 x40_2).f4)], .agg #[.int .i64 ((rd_T29 t406 x40_2).f0), .string ((rd_T29 t406 x40_2).f1), .int .i64 ((rd_T29 t406 x40_2).f2.f0), .int .i64 ((rd_T29 t406 x40_2).f2.f1), .string ((rd_T29 t406 x40_2).f2.f2), .int .i64 ((rd_T29 t406 x40_2).f3), .int .i64 ((rd_T29 t406 x40_2).f4)]] (by rfl) rfl rfl (by (try simp only [mT_, mC_, mN_]); first | done | rfl) ?_
      with_reducible refine (skerrylaw18_like.calls ((rd_T25 t401 x40_2).f0) ((rd_T25 t401 x40_2).f1) ((rd_T25 t401 x40_2).f2.f0) ((rd_T25 t401 x40_2).f2.f1) ((rd_T25 t401 x40_2).f2.f2) ((rd_T25 t401 x40_2).f3) ((rd_T25 t401 x40_2).f4) ((rd_T29 t406 x40_2).f0) ((rd_T29 t406 x40_2).f1) ((rd_T29 t406 x40_2).f2.f0) ((rd_T29 t406 x40_2).f2.f1) ((rd_T29 t406 x40_2).f2.f2) ((rd_T29 t406 x40_2).f3) ((rd_T29 t406 x40_2).f4) true _ A21.out).mono ?_
      rintro e w28 ⟨rfl, hb⟩
      have HS7_ := (hb.cell (World.block_lt_of_cell? _ _ (hHeld.2.2.2.2.2.2.2.1))).trans (hHeld.2.2.2.2.2.2.2.1)
      have HS8_ := (hb.cell (World.block_lt_of_cell? _ _ (hHeld.2.2.2.2.2.2.2.2.1))).trans (hHeld.2.2.2.2.2.2.2.2.1)
      have HS9_ := (hb.cell (World.block_lt_of_cell? _ _ (hHeld.2.2.2.2.2.2.2.2.2.1))).trans (hHeld.2.2.2.2.2.2.2.2.2.1)
      have HS10_ := (hb.cell (World.block_lt_of_cell? _ _ (hHeld.2.2.2.2.2.2.2.2.2.2.1))).trans (hHeld.2.2.2.2.2.2.2.2.2.2.1)
      have HS11_ := (hb.cell (World.block_lt_of_cell? _ _ (hHeld.2.2.2.2.2.2.2.2.2.2.2.1))).trans (hHeld.2.2.2.2.2.2.2.2.2.2.2.1)
      have HS12_ := (hb.cell (World.block_lt_of_cell? _ _ (hHeld.2.2.2.2.2.2.2.2.2.2.2.2.1))).trans (hHeld.2.2.2.2.2.2.2.2.2.2.2.2.1)
      have HS13_ := (hb.cell (World.block_lt_of_cell? _ _ (hHeld.2.2.2.2.2.2.2.2.2.2.2.2.2))).trans (hHeld.2.2.2.2.2.2.2.2.2.2.2.2.2)
      refine ⟨_, rfl, ?_⟩
      replace HO_6 := kR HO_6 hb
      replace HO_38 := kR HO_38 hb
      replace BK412 := kB BK412 hb
      replace HB := Aside0.mk (below_step (by repeat (first | (with_reducible first | exact HB.out | apply bA_ | apply bN_ | apply bD_ | refine bS_ ?_ GE412) | exact HB.out)) hb)
      (try clear hb)
      (try clear hb2)
      (try clear hk)
      (try clear hi)
      refine hK.out _ _ ⟨(blk_cell BK412.out 0).trans rfl, (blk_cell BK412.out 1).trans rfl, (blk_cell BK412.out 2).trans rfl, (blk_cell BK412.out 3).trans rfl, (blk_cell BK412.out 4).trans rfl, (blk_cell BK412.out 5).trans rfl, (blk_cell BK412.out 6).trans rfl, HS7_, HS8_, HS9_, HS10_, HS11_, HS12_, HS13_⟩ (fun hHeld => ?_)
      clear hK K
      refine norm_ (a' := ?_) ?_ ?_
      rotate_left
      ·
       show Act.put _ (some 50) _ = _
       simp only [Act.put, sT_, sO_, sN_, i64_w, i32_w]
       rfl
      refine pure_ (i := 6) (N := some 51) (v := ?_) (a' := ?_) (tf_ 7 0) rfl rfl (by kernel_rfl) (fun _ _ _ h => h) (Or.inl ⟨by rfl, ?_⟩) ?_ ?_
      rotate_left; · (intro w'; go_simp; with_reducible rfl)
      rotate_left; · (simp only [Act.put, sT_, sO_, sN_, i64_w, i32_w]; rfl)
      refine done_ (by kernel_rfl) ?_
      try go_wp2
      go_roundg k2
      case measure => have := HJ3.out; have := HK2.out; omega
      case rel => exact ⟨(wrap64 (x40_2 + 1)), (by first | rfl | (simp; done) | (simp [bne, *]; done)), H', ⟨by have := HJ3.out; have := HK2.out; omega⟩, ⟨krW HO_6⟩, ⟨by (with_reducible repeat (first | apply Kd.R_alloc | apply Kd.R_drewN | apply Kd.R_drew)); exact Kd.R_mono HO_38.out (fun _ hk => trivial)⟩, ⟨by repeat (first | (with_reducible first | exact HB.out | apply bA_ | apply bN_ | apply bD_ | refine bS_ ?_ GE412) | exact HB.out)⟩⟩
end Go.Proofs.YtfaogccfiklinaaDoor.Q
