/- Lemmas for this claim's walk: no condition of their own. -/
import Derived.Test.YtfaogccfiklinaaDoorKeSq
import Derived.Test.YtfaogccfiklinaaDoorKeQx0
import Derived.Test.YtfaogccfiklinaaDoorKeJ12
import Derived.Test.YtfaogccfiklinaaDoorKeQx26
import Derived.Test.YtfaogccfiklinaaDoorKeQx28
import Derived.Test.YtfaogccfiklinaaDoorKeQx33
namespace Go.Proofs.YtfaogccfiklinaaDoor.Q
open Go.RowKit Go.Proofs.YtfaogccfiklinaaDoorW.PrintWords Go.Proofs.YtfaogccfiklinaaDoorW.PrintLast Go.Proofs.YtfaogccfiklinaaDoorW.PrintMore
attribute [local go_sem] max2_int min2_int max_two min_two max_three min_three max_four min_four
set_option linter.unusedVariables false
set_option linter.unusedSimpArgs false
attribute [local go_sem high] eqA23
mutual
def skerrylaw18_LexerNumbers.j0 : Nat → Int → Int → Int → ByteArray → List (S25) → Bool → Option (Bool)
 | 0, _, _, _, _, _, _ => none
 | k + 1, x0, x1, x2, x7, x8, x46 => if x46 = true then (none) else (if x0 < 0 then (if 1 ≤ (x7.size : Int) then (skerrylaw18_LexerNumbers.j1 k x1 x2 (x7.extract 1 x7.size) x8 (⟨#[45]⟩ : ByteArray)) else (none)) else (skerrylaw18_LexerNumbers.j1 k x1 x2 x7 x8 (⟨#[]⟩ : ByteArray)))
def skerrylaw18_LexerNumbers.j1 : Nat → Int → Int → ByteArray → List (S25) → ByteArray → Option (Bool)
 | 0, _, _, _, _, _ => none
 | k + 1, x1, x2, x7, x8, x11 => skerrylaw18_LexerNumbers.l0 k x1 x2 x7 x8 x11 0
def skerrylaw18_LexerNumbers.l0 : Nat → Int → Int → ByteArray → List (S25) → ByteArray → Int → Option (Bool)
 | 0, _, _, _, _, _, _ => none
 | k + 1, x1, x2, x7, x8, x11, x12 => if x12 < (Int.tmod x1 40) then (if 1 + x7.size ≤ 9223372036854775807 then (skerrylaw18_LexerNumbers.l0 k x1 x2 ((⟨#[48]⟩ : ByteArray) ++ x7) x8 x11 (IntKind.u64.wrap (x12 + 1))) else (none)) else (skerrylaw18_LexerNumbers.l1 k x2 x7 x8 x11 0)
def skerrylaw18_LexerNumbers.l1 : Nat → Int → ByteArray → List (S25) → ByteArray → Int → Option (Bool)
 | 0, _, _, _, _, _ => none
 | k + 1, x2, x7, x8, x11, x13 => if x13 < (x7.size : Int) then (if x13 > 0 then (if 0 ≤ (IntKind.u64.wrap (Int.tmod x13 60)) then (if (Go.bits .and .u64 (shr .u64 x2 (IntKind.u64.wrap (Int.tmod x13 60))) 1) = 1 then (if x11.size + 1 ≤ 9223372036854775807 then (if 0 ≤ x13 then (if x13 ≤ (wrap64 (x13 + 1)) then (if (wrap64 (x13 + 1)) ≤ (x7.size : Int) then (if (x11 ++ (⟨#[95]⟩ : ByteArray)).size + (x7.extract (x13 : Int).toNat ((wrap64 (x13 + 1)) : Int).toNat).size ≤ 9223372036854775807 then (skerrylaw18_LexerNumbers.l1 k x2 x7 x8 ((x11 ++ (⟨#[95]⟩ : ByteArray)) ++ (x7.extract (x13 : Int).toNat ((wrap64 (x13 + 1)) : Int).toNat)) (wrap64 (x13 + 1))) else (none)) else (none)) else (none)) else (none)) else (none)) else (if 0 ≤ x13 then (if x13 ≤ (wrap64 (x13 + 1)) then (if (wrap64 (x13 + 1)) ≤ (x7.size : Int) then (if x11.size + (x7.extract (x13 : Int).toNat ((wrap64 (x13 + 1)) : Int).toNat).size ≤ 9223372036854775807 then (skerrylaw18_LexerNumbers.l1 k x2 x7 x8 (x11 ++ (x7.extract (x13 : Int).toNat ((wrap64 (x13 + 1)) : Int).toNat)) (wrap64 (x13 + 1))) else (none)) else (none)) else (none)) else (none))) else (none)) else (if 0 ≤ x13 then (if x13 ≤ (wrap64 (x13 + 1)) then (if (wrap64 (x13 + 1)) ≤ (x7.size : Int) then (if x11.size + (x7.extract (x13 : Int).toNat ((wrap64 (x13 + 1)) : Int).toNat).size ≤ 9223372036854775807 then (skerrylaw18_LexerNumbers.l1 k x2 x7 x8 (x11 ++ (x7.extract (x13 : Int).toNat ((wrap64 (x13 + 1)) : Int).toNat)) (wrap64 (x13 + 1))) else (none)) else (none)) else (none)) else (none))) else ((lexer_Lex.f k x11).bind fun bt461 => (if bt461.2.2 = 0 then (if (bt461.1.length : Int) = 2 then (if 0 < (bt461.1.length : Int) then (if 0 < (x8.length : Int) then (if (((rd_T25 bt461.1 0).f2.f0) == ((rd_T25 x8 0).f2.f0) && (((rd_T25 bt461.1 0).f2.f1) == ((rd_T25 x8 0).f2.f1) && ((((rd_T25 bt461.1 0).f2.f2).toList) == (((rd_T25 x8 0).f2.f2).toList)))) = true then (if ((rd_T25 bt461.1 0).f4) = (x11.size : Int) then ((skerrylaw18_lives.f k).bind fun t469 => (some t469)) else (none)) else (none)) else (none)) else (none)) else (none)) else (none)))
end
def skerrylaw18_LexerNumbers.f (k : Nat) (a0 : Int) (a1 : Int) (a2 : Int) : Option (Bool) := (skerryref04_Digits.f k a0).bind fun t453 => ((lexer_Lex.f k t453).bind fun bt454 => (if bt454.2.2 = 0 then (if (bt454.1.length : Int) = 2 then (if 0 < (bt454.1.length : Int) then (if ((rd_T25 bt454.1 0).f0) = 4 then (skerrylaw18_LexerNumbers.j0 k a0 a1 a2 t453 bt454.1 (!(((rd_T25 bt454.1 0).f2.f0) == 1) || (!(((rd_T25 bt454.1 0).f2.f1) == a0) || (!((((rd_T25 bt454.1 0).f2.f2).toList) == ([] : List UInt8)))))) else (skerrylaw18_LexerNumbers.j0 k a0 a1 a2 t453 bt454.1 true)) else (none)) else (skerrylaw18_LexerNumbers.j0 k a0 a1 a2 t453 bt454.1 true)) else (skerrylaw18_LexerNumbers.j0 k a0 a1 a2 t453 bt454.1 true)))
def skerrylaw18_LexerNumbers.T19 : Bool × List (List Nat × List Nat) := (true, [([], []), ([0], [0]), ([1], [1]), ([2], [2]), ([3, 2], [2, 3]), ([4, 2], [2, 4]), ([2, 5], [2, 5]), ([6, 2], [6]), ([7], [7]), ([8, 7], [7, 8]), ([9, 7], [7, 9]), ([10, 7], [7, 10]), ([7], [7]), ([12, 7], [7, 12]), ([13, 7], [7, 13]), ([14, 7], [7, 14]), ([11, 15, 7], [7, 11, 15]), ([7, 16], [7, 16]), ([17, 7], [17]), ([18], [18]), ([19, 18], [18, 19]), ([20, 18], [18, 20]), ([21, 18], [18, 21]), ([18], [18]), ([23, 18], [18, 23]), ([22, 24, 18], [18, 22, 24]), ([18, 25], [18, 25]), ([26, 18], [26]), ([27, 27], [27]), ([27, 28], [27, 28]), ([29, 28, 0, 1, 2, 3, 4, 5, 6, 7, 8, 9, 10, 11, 12, 13, 14, 15, 16, 17, 18, 19, 20, 21, 22, 23, 24, 25, 26, 27, 28, 29], [29])])
def skerrylaw18_LexerNumbers.B19 : List Nat := [0, 1, 3, 7, 15, 31, 63, 127, 255, 511, 1023, 2047, 255, 4351, 12543, 28927, 65535, 131071, 262143, 524287, 1048575, 2097151, 4194303, 524287, 8912895, 33554431, 67108863, 134217727, 268435455, 536870911, 1073741823]
theorem skerrylaw18_LexerNumbers.tab19 : rtab .any (opsOf Tryd.f7 19) = skerrylaw18_LexerNumbers.T19 := by kernel_rfl
theorem skerrylaw18_LexerNumbers.bits19 : waitsOk skerrylaw18_LexerNumbers.T19.2 skerrylaw18_LexerNumbers.B19 = true := by kernel_rfl
set_option maxHeartbeats 8000000 in
set_option maxRecDepth 100000 in
theorem skerrylaw18_LexerNumbers.calls (k : Nat) (a0 : Int) (a1 : Int) (a2 : Int) (r : Bool) (w : World) (h : skerrylaw18_LexerNumbers.f k a0 a1 a2 = some r) :
  Calls Tryd.prog 7 #[.int .i64 a0, .int .u64 a1, .int .u64 a2] w fun e w' => e = .returned (.bool r) ∧ Below w.heap.size w w' := by
 have hu23 := Tryd.underlying23
 have HB := Aside0.mk (Below.refl w.heap.size w)
 have H : ((skerryref04_Digits.f k a0).bind fun t453 => ((lexer_Lex.f k t453).bind fun bt454 => (if bt454.2.2 = 0 then (if (bt454.1.length : Int) = 2 then (if 0 < (bt454.1.length : Int) then (if ((rd_T25 bt454.1 0).f0) = 4 then (skerrylaw18_LexerNumbers.j0 k a0 a1 a2 t453 bt454.1 (!(((rd_T25 bt454.1 0).f2.f0) == 1) || (!(((rd_T25 bt454.1 0).f2.f1) == a0) || (!((((rd_T25 bt454.1 0).f2.f2).toList) == ([] : List UInt8)))))) else (skerrylaw18_LexerNumbers.j0 k a0 a1 a2 t453 bt454.1 true)) else (none)) else (skerrylaw18_LexerNumbers.j0 k a0 a1 a2 t453 bt454.1 true)) else (skerrylaw18_LexerNumbers.j0 k a0 a1 a2 t453 bt454.1 true)))) = some r := h
 clear h
 replace H := Option.bind_eq_some_iff.mp H
 obtain ⟨t453, A40, H⟩ := H
 have A4 := Aside0.mk A40
 clear A40
 replace H := Option.bind_eq_some_iff.mp H
 obtain ⟨⟨t454, t455, t456⟩, A50, H⟩ := H
 have A5 := Aside0.mk A50
 clear A50
 have HC6 := Aside0.mk H
 clear H
 go_enter Tryd.func7, Tryd.ntmps7
 go_upto_region 3 with (first | ((with_reducible refine gate_callee (f := 15) rfl ?_); refine goesL_ (some 17) rfl rfl Tryd.func15 (by kernel_rfl) rfl #[.int .i64 a0] rfl (by (try simp only [mT_, mC_, mN_]); first | done | rfl) ?_; (with_reducible refine (skerryref04_Digits.calls k a0 t453 _ A4.out).mono ?_); rintro e w7 ⟨rfl, hb⟩; refine ⟨_, rfl, ?_⟩; replace HB := Aside0.mk (below_step (kwW HB) hb); (try clear hb); (try clear hb2); (try clear hk); (try clear hi)) | ((with_reducible refine gate_callee (f := 13) rfl ?_); refine goesL_ (some 20) rfl rfl Tryd.func13 (by kernel_rfl) rfl #[.string t453] rfl (by (try simp only [mT_, mC_, mN_]); first | done | rfl) ?_; (with_reducible refine (lexer_Lex.calls k t453 t454 t455 t456 _ A5.out).mono ?_); rintro e w8 ⟨v457, rfl, ho0, hb⟩; refine ⟨_, rfl, ?_⟩; have HO458 := Aside0.mk (Kd.R_lower ho0 (bZ_ (kwW HB))); replace HB := Aside0.mk (below_step (kwW HB) hb); (try clear hb); (try clear hb2); (try clear hk); (try clear hi); (try clear ho0)))
 (try simp only [Act.put, List.setIfInBounds_toArray, List.set_cons_zero, List.set_cons_succ])
 go_cut [46] (fun v46 wc => ∃ (kq : Nat) (x46_5 : Bool), v46 = .bool x46_5 ∧ Aside0 (skerrylaw18_LexerNumbers.j0 kq a0 a1 a2 t453 t454 x46_5 = some r) ∧ Aside0 (kq ≤ k) ∧ Aside0 (Kd.R k25 25 wc w.heap.size (fun _ => True) v457 t454) ∧ Aside0 (Below w.heap.size w wc))
 case first =>
  have H := HC6.out
  clear HC6
  by_cases c9 : t456 = 0
  rotate_left
  ·
   rw [if_neg c9] at H
   have c9b0 : (t456 == 0) = false := beq_eq_false_iff_ne.mpr c9
   have c9b1 : (t456 != 0) = true := bne_iff_ne.mpr c9
   (first | rw [c9b0] | (simp only [i64_w, i32_w]; rw [c9b0]) | skip)
   have H' := Aside0.mk H
   clear H
   go_wp2
   go_meet
   case rel => exact ⟨_, (true), (by first | rfl | (simp; done) | (simp [bne, *]; done)), H', ⟨by first | omega | exact Nat.le_refl _⟩, ⟨krW HO458⟩, ⟨kwW HB⟩⟩
  rw [if_pos c9] at H
  have c9b0 : (t456 == 0) = true := beq_iff_eq.mpr c9
  have c9b1 : (t456 != 0) = false := bne_eq_false_iff_eq.mpr c9
  clear c9
  (first | rw [c9b0] | (simp only [i64_w, i32_w]; rw [c9b0]) | skip)
  by_cases c10 : (t454.length : Int) = 2
  rotate_left
  ·
   rw [if_neg c10] at H
   have c10b0 : ((t454.length : Int) == 2) = false := beq_eq_false_iff_ne.mpr c10
   have c10b1 : ((t454.length : Int) != 2) = true := bne_iff_ne.mpr c10
   have H' := Aside0.mk H
   clear H
   obtain ⟨Ao15, co15, eo15⟩ := Kd.R_slice HO458.out
   subst eo15
   go_wp2
   go_meet
   case rel => exact ⟨_, (true), (by first | rfl | (simp; done) | (simp [bne, *]; done)), H', ⟨by first | omega | exact Nat.le_refl _⟩, ⟨krW HO458⟩, ⟨kwW HB⟩⟩
  rw [if_pos c10] at H
  have c10b0 : ((t454.length : Int) == 2) = true := beq_iff_eq.mpr c10
  have c10b1 : ((t454.length : Int) != 2) = false := bne_eq_false_iff_eq.mpr c10
  clear c10
  by_cases c11 : 0 < (t454.length : Int)
  rotate_left
  ·
   rw [if_neg c11] at H
   exact absurd H (by simp)
  rw [if_pos c11] at H
  have c11b0 : decide (0 < (t454.length : Int)) = true := decide_eq_true c11
  have c11b1 : decide (0 < t454.length) = true := decide_eq_true (by omega)
  clear c11
  by_cases c12 : ((rd_T25 t454 0).f0) = 4
  rotate_left
  ·
   rw [if_neg c12] at H
   have c12b0 : (((rd_T25 t454 0).f0) == 4) = false := beq_eq_false_iff_ne.mpr c12
   have c12b1 : (((rd_T25 t454 0).f0) != 4) = true := bne_iff_ne.mpr c12
   have H' := Aside0.mk H
   clear H
   obtain ⟨Ao14, co14, eo14⟩ := Kd.R_slice HO458.out
   subst eo14
   have p459 : 0 ≤ (0 : Int) := (by omega)
   have q459 : 0 < (t454.length : Int) := of_decide_eq_true (by first | (with_reducible assumption) | assumption)
   obtain ⟨ad459, e459, hx459_0, hx459_1, hx459_2, hx459_3, hx459_4, hx459_5, hx459_6⟩ := at_T25 (Kd.R_reads' HO458.out).2.2 0 p459 q459
   cases e459
   have qi459 : (0 < t454.length) = True := eq_true (by omega)
   (try rw [show ((0 : Int)).toNat = 0 from rfl] at hx459_0)
   (try rw [show 0 * 7 = 0 from rfl] at hx459_0)
   (try rw [Addr.add_zero'] at hx459_0)
   (try rw [show ((0 : Int)).toNat = 0 from rfl] at hx459_1)
   (try rw [show 0 * 7 = 0 from rfl] at hx459_1)
   (try rw [Addr.add_zero'] at hx459_1)
   (try rw [show ((0 : Int)).toNat = 0 from rfl] at hx459_2)
   (try rw [show 0 * 7 = 0 from rfl] at hx459_2)
   (try rw [Addr.add_zero'] at hx459_2)
   (try rw [show ((0 : Int)).toNat = 0 from rfl] at hx459_3)
   (try rw [show 0 * 7 = 0 from rfl] at hx459_3)
   (try rw [Addr.add_zero'] at hx459_3)
   (try rw [show ((0 : Int)).toNat = 0 from rfl] at hx459_4)
   (try rw [show 0 * 7 = 0 from rfl] at hx459_4)
   (try rw [Addr.add_zero'] at hx459_4)
   (try rw [show ((0 : Int)).toNat = 0 from rfl] at hx459_5)
   (try rw [show 0 * 7 = 0 from rfl] at hx459_5)
   (try rw [Addr.add_zero'] at hx459_5)
   (try rw [show ((0 : Int)).toNat = 0 from rfl] at hx459_6)
   (try rw [show 0 * 7 = 0 from rfl] at hx459_6)
   (try rw [Addr.add_zero'] at hx459_6)
   replace p459 := eq_true p459
   replace q459 := eq_true q459
   go_wp2
   go_meet
   case rel => exact ⟨_, (true), (by first | rfl | (simp; done) | (simp [bne, *]; done)), H', ⟨by first | omega | exact Nat.le_refl _⟩, ⟨krW HO458⟩, ⟨kwW HB⟩⟩
  rw [if_pos c12] at H
  have c12b0 : (((rd_T25 t454 0).f0) == 4) = true := beq_iff_eq.mpr c12
  have c12b1 : (((rd_T25 t454 0).f0) != 4) = false := bne_eq_false_iff_eq.mpr c12
  clear c12
  have H' := Aside0.mk H
  clear H
  obtain ⟨Ao13, co13, eo13⟩ := Kd.R_slice HO458.out
  subst eo13
  have p459 : 0 ≤ (0 : Int) := (by omega)
  have q459 : 0 < (t454.length : Int) := of_decide_eq_true (by first | (with_reducible assumption) | assumption)
  obtain ⟨ad459, e459, hx459_0, hx459_1, hx459_2, hx459_3, hx459_4, hx459_5, hx459_6⟩ := at_T25 (Kd.R_reads' HO458.out).2.2 0 p459 q459
  cases e459
  have qi459 : (0 < t454.length) = True := eq_true (by omega)
  (try rw [show ((0 : Int)).toNat = 0 from rfl] at hx459_0)
  (try rw [show 0 * 7 = 0 from rfl] at hx459_0)
  (try rw [Addr.add_zero'] at hx459_0)
  (try rw [show ((0 : Int)).toNat = 0 from rfl] at hx459_1)
  (try rw [show 0 * 7 = 0 from rfl] at hx459_1)
  (try rw [Addr.add_zero'] at hx459_1)
  (try rw [show ((0 : Int)).toNat = 0 from rfl] at hx459_2)
  (try rw [show 0 * 7 = 0 from rfl] at hx459_2)
  (try rw [Addr.add_zero'] at hx459_2)
  (try rw [show ((0 : Int)).toNat = 0 from rfl] at hx459_3)
  (try rw [show 0 * 7 = 0 from rfl] at hx459_3)
  (try rw [Addr.add_zero'] at hx459_3)
  (try rw [show ((0 : Int)).toNat = 0 from rfl] at hx459_4)
  (try rw [show 0 * 7 = 0 from rfl] at hx459_4)
  (try rw [Addr.add_zero'] at hx459_4)
  (try rw [show ((0 : Int)).toNat = 0 from rfl] at hx459_5)
  (try rw [show 0 * 7 = 0 from rfl] at hx459_5)
  (try rw [Addr.add_zero'] at hx459_5)
  (try rw [show ((0 : Int)).toNat = 0 from rfl] at hx459_6)
  (try rw [show 0 * 7 = 0 from rfl] at hx459_6)
  (try rw [Addr.add_zero'] at hx459_6)
  replace p459 := eq_true p459
  replace q459 := eq_true q459
  have p460 : 0 ≤ (0 : Int) := (by omega)
  have q460 : 0 < (t454.length : Int) := of_decide_eq_true (by first | (with_reducible assumption) | assumption)
  obtain ⟨ad460, e460, hx460_0, hx460_1, hx460_2, hx460_3, hx460_4, hx460_5, hx460_6⟩ := at_T25 (Kd.R_reads' HO458.out).2.2 0 p460 q460
  obtain rfl : ad459 = ad460 := (by injection e460)
  have qi460 : (0 < t454.length) = True := eq_true (by omega)
  (try rw [show ((0 : Int)).toNat = 0 from rfl] at hx460_0)
  (try rw [show 0 * 7 = 0 from rfl] at hx460_0)
  (try rw [Addr.add_zero'] at hx460_0)
  (try rw [show ((0 : Int)).toNat = 0 from rfl] at hx460_1)
  (try rw [show 0 * 7 = 0 from rfl] at hx460_1)
  (try rw [Addr.add_zero'] at hx460_1)
  (try rw [show ((0 : Int)).toNat = 0 from rfl] at hx460_2)
  (try rw [show 0 * 7 = 0 from rfl] at hx460_2)
  (try rw [Addr.add_zero'] at hx460_2)
  (try rw [show ((0 : Int)).toNat = 0 from rfl] at hx460_3)
  (try rw [show 0 * 7 = 0 from rfl] at hx460_3)
  (try rw [Addr.add_zero'] at hx460_3)
  (try rw [show ((0 : Int)).toNat = 0 from rfl] at hx460_4)
  (try rw [show 0 * 7 = 0 from rfl] at hx460_4)
  (try rw [Addr.add_zero'] at hx460_4)
  (try rw [show ((0 : Int)).toNat = 0 from rfl] at hx460_5)
  (try rw [show 0 * 7 = 0 from rfl] at hx460_5)
  (try rw [Addr.add_zero'] at hx460_5)
  (try rw [show ((0 : Int)).toNat = 0 from rfl] at hx460_6)
  (try rw [show 0 * 7 = 0 from rfl] at hx460_6)
  (try rw [Addr.add_zero'] at hx460_6)
  replace p460 := eq_true p460
  replace q460 := eq_true q460
  go_wp2
  go_meet
  case rel => exact ⟨_, ((!(((rd_T25 t454 0).f2.f0) == 1) || (!(((rd_T25 t454 0).f2.f1) == a0) || (!((((rd_T25 t454 0).f2.f2).toList) == ([] : List UInt8)))))), (by first | rfl | (simp; done) | (simp [bne, *]; done)), H', ⟨by first | omega | exact Nat.le_refl _⟩, ⟨krW HO458⟩, ⟨kwW HB⟩⟩
 case rest =>
  clear HC6
  try clear c1
  try clear p2
  try clear p4
  try clear q4
  try clear hx4
  try clear qi4
  try clear c7
  try clear c9
  try clear c9b0
  try clear c9b1
  try clear c10
  try clear c10b0
  try clear c10b1
  try clear c11
  try clear c11b0
  try clear c11b1
  try clear c12
  try clear c12b0
  try clear c12b1
  try clear c13
  try clear c15
  try clear hx459_0
  try clear hx459_1
  try clear hx459_2
  try clear hx459_3
  try clear hx459_4
  try clear hx459_5
  try clear hx459_6
  try clear hx460_0
  try clear hx460_1
  try clear hx460_2
  try clear hx460_3
  try clear hx460_4
  try clear hx460_5
  try clear hx460_6
  try clear p459
  try clear p460
  try clear q459
  try clear q460
  obtain ⟨kq, x46_5, rfl, HA, HJ5, HO_8, HB⟩ := hcut
  cases kq with
  | zero => exact absurd HA.out (by simp [skerrylaw18_LexerNumbers.j0])
  | succ kj5 =>
   have H := HA.out
   clear HA
   simp only [skerrylaw18_LexerNumbers.j0] at H
   by_cases c16 : x46_5 = true
   ·
    subst c16
    have H1 : (none) = some r := by rw [if_pos rfl] at H; exact H
    clear H
    have H := H1
    clear H1
    exact absurd H (by simp)
   ·
    replace c16 := Bool.eq_false_iff.mpr c16
    subst c16
    have H1 : (if a0 < 0 then (if 1 ≤ (t453.size : Int) then (skerrylaw18_LexerNumbers.j1 kj5 a1 a2 (t453.extract 1 t453.size) t454 (⟨#[45]⟩ : ByteArray)) else (none)) else (skerrylaw18_LexerNumbers.j1 kj5 a1 a2 t453 t454 (⟨#[]⟩ : ByteArray))) = some r := by rw [if_neg (show ¬ (false = true) by decide)] at H; exact H
    clear H
    have H := H1
    clear H1
    have HC17 := Aside0.mk H
    clear H
    go_upto_if 48 with (fail)
    go_cut [7, 11] (fun v7 v11 wc => ∃ (kq : Nat) (x7_16 : ByteArray) (x11_16 : ByteArray), v7 = .string x7_16 ∧ v11 = .string x11_16 ∧ Aside0 (skerrylaw18_LexerNumbers.j1 kq a1 a2 x7_16 t454 x11_16 = some r) ∧ Aside0 (kq ≤ kj5) ∧ Aside0 (Kd.R k25 25 wc w.heap.size (fun _ => True) v457 t454) ∧ Aside0 (Below w.heap.size w wc))
    case first =>
     have H := HC17.out
     clear HC17
     by_cases c18 : a0 < 0
     rotate_left
     ·
      rw [if_neg c18] at H
      have c18b0 : decide (a0 < 0) = false := decide_eq_false c18
      clear c18
      (first | rw [c18b0] | (simp only [i64_w, i32_w]; rw [c18b0]) | skip)
      have H' := Aside0.mk H
      clear H
      go_wp2
      go_meet
      case rel => exact ⟨_, (t453), ((⟨#[]⟩ : ByteArray)), (by first | rfl | (simp; done) | (simp [bne, *]; done)), (by first | rfl | (simp; done) | (simp [bne, *]; done)), H', ⟨by have := HJ5.out; first | omega | exact Nat.le_refl _⟩, ⟨krW HO_8⟩, ⟨kwW HB⟩⟩
     rw [if_pos c18] at H
     have c18b0 : decide (a0 < 0) = true := decide_eq_true c18
     clear c18
     (first | rw [c18b0] | (simp only [i64_w, i32_w]; rw [c18b0]) | skip)
     by_cases c19 : 1 ≤ (t453.size : Int)
     rotate_left
     ·
      rw [if_neg c19] at H
      exact absurd H (by simp)
     rw [if_pos c19] at H
     have c19b0 := eq_true c19
     have c19b1 : decide (1 ≤ (t453.size : Int)) = true := decide_eq_true c19
     clear c19
     have H' := Aside0.mk H
     clear H
     try go_wp2
     replace HO_8 := Aside0.mk (Kd.R_drew HO_8.out)
     replace HB := Aside0.mk (below_drew1 HB.out)
     refine start_ (n := 4) (S := fun w' => True) (ds := []) #[false, false, false, false] (by kernel_rfl) rfl rfl trivial (fun hHeld => ?_)
     generalize wc.drew = w20 at HO_8 HB hHeld ⊢
     refine pure_ (i := 0) (N := some 49) (v := ?_) (a' := ?_) #[true, false, false, false] rfl rfl (by kernel_rfl) (fun _ _ _ h => h) (Or.inl ⟨by rfl, ?_⟩) ?_ ?_
     rotate_left; · (intro w'; go_simp; with_reducible rfl)
     rotate_left; · (simp only [Act.put, sT_, sO_, sN_, i64_w, i32_w]; rfl)
     refine pure_ (i := 1) (N := some 50) (v := ?_) (a' := ?_) #[true, true, false, false] rfl rfl (by kernel_rfl) (fun _ _ _ h => h) (Or.inl ⟨by rfl, ?_⟩) ?_ ?_
     rotate_left; · (intro w'; go_simp; with_reducible rfl)
     rotate_left; · (simp only [Act.put, sT_, sO_, sN_, i64_w, i32_w]; rfl)
     refine pure_ (i := 2) (N := some 11) (v := ?_) (a' := ?_) #[true, true, true, false] rfl rfl (by kernel_rfl) (fun _ _ _ h => h) (Or.inl ⟨by rfl, ?_⟩) ?_ ?_
     rotate_left; · (intro w'; go_simp; with_reducible rfl)
     rotate_left; · (simp only [Act.put, sT_, sO_, sN_, i64_w, i32_w]; rfl)
     refine pure_ (i := 3) (N := some 7) (v := ?_) (a' := ?_) #[true, true, true, true] rfl rfl (by kernel_rfl) (fun _ _ _ h => h) (Or.inl ⟨by rfl, ?_⟩) ?_ ?_
     rotate_left; · (intro w'; go_simp; with_reducible rfl)
     rotate_left; · (simp only [Act.put, sT_, sO_, sN_, i64_w, i32_w]; rfl)
     refine done_ (by kernel_rfl) ?_
     try go_wp2
     go_meet
     case rel => exact ⟨_, (t453.extract 1 t453.size), ((⟨#[45]⟩ : ByteArray)), (by first | rfl | (simp; done) | (simp [bne, *]; done)), (by first | rfl | (simp; done) | (simp [bne, *]; done)), H', ⟨by have := HJ5.out; first | omega | exact Nat.le_refl _⟩, ⟨krW HO_8⟩, ⟨kwW HB⟩⟩
    case rest =>
     clear HC17
     try clear c1
     try clear p2
     try clear p4
     try clear q4
     try clear hx4
     try clear qi4
     try clear c7
     try clear c9
     try clear c9b0
     try clear c9b1
     try clear c10
     try clear c10b0
     try clear c10b1
     try clear c11
     try clear c11b0
     try clear c11b1
     try clear c12
     try clear c12b0
     try clear c12b1
     try clear c13
     try clear c15
     try clear c16
     try clear c18
     try clear c18b0
     try clear c19
     try clear c19b0
     try clear c19b1
     try clear hx459_0
     try clear hx459_1
     try clear hx459_2
     try clear hx459_3
     try clear hx459_4
     try clear hx459_5
     try clear hx459_6
     try clear hx460_0
     try clear hx460_1
     try clear hx460_2
     try clear hx460_3
     try clear hx460_4
     try clear hx460_5
     try clear hx460_6
     try clear p2
     try clear p4
     try clear p459
     try clear p460
     try clear q4
     try clear q459
     try clear q460
     obtain ⟨kq, x7_16, x11_16, rfl, rfl, HA, HJ16, HO_8, HB⟩ := hcut
     cases kq with
     | zero => exact absurd HA.out (by simp [skerrylaw18_LexerNumbers.j1])
     | succ kj16 =>
      have H := HA.out
      clear HA
      simp only [skerrylaw18_LexerNumbers.j1] at H
      have H' := Aside0.mk H
      clear H
      go_wp2
      go_loopg [7, 12] kj16 (fun kq v7 v12 w' => ∃ (x7_3 : ByteArray) (x12_3 : Int), v7 = .string x7_3 ∧ v12 = .int .u64 x12_3 ∧ Aside0 (skerrylaw18_LexerNumbers.l0 kq a1 a2 x7_3 t454 x11_16 x12_3 = some r) ∧ Aside0 (kq ≤ kj16) ∧ Aside0 (Kd.R k25 25 w' w.heap.size (fun _ => True) v457 t454) ∧ Aside0 (Below w.heap.size w w'))
      case atStart => exact ⟨(x7_16), (0), (by first | rfl | (simp; done) | (simp [bne, *]; done)), (by first | rfl | (simp; done) | (simp [bne, *]; done)), H', ⟨Nat.le_refl _⟩, ⟨krW HO_8⟩, ⟨kwW HB⟩⟩
      case round =>
       clear H'
       try clear c1
       try clear p2
       try clear p4
       try clear q4
       try clear hx4
       try clear qi4
       try clear c7
       try clear c9
       try clear c9b0
       try clear c9b1
       try clear c10
       try clear c10b0
       try clear c10b1
       try clear c11
       try clear c11b0
       try clear c11b1
       try clear c12
       try clear c12b0
       try clear c12b1
       try clear c13
       try clear c15
       try clear c16
       try clear c18
       try clear c18b0
       try clear c19
       try clear c19b0
       try clear c19b1
       try clear hx459_0
       try clear hx459_1
       try clear hx459_2
       try clear hx459_3
       try clear hx459_4
       try clear hx459_5
       try clear hx459_6
       try clear hx460_0
       try clear hx460_1
       try clear hx460_2
       try clear hx460_3
       try clear hx460_4
       try clear hx460_5
       try clear hx460_6
       try clear p2
       try clear p4
       try clear p459
       try clear p460
       try clear q4
       try clear q459
       try clear q460
       obtain ⟨x7_3, x12_3, rfl, rfl, HA, HK3, HO_8, HB⟩ := hrel
       cases gk with
       | zero => exact absurd HA.out (by simp [skerrylaw18_LexerNumbers.l0])
       | succ k3 =>
        have H := HA.out
        clear HA
        simp only [skerrylaw18_LexerNumbers.l0] at H
        by_cases c21 : x12_3 < (Int.tmod a1 40)
        ·
         rw [if_pos c21] at H
         have c21b0 : decide (x12_3 < (Int.tmod a1 40)) = true := decide_eq_true c21
         clear c21
         by_cases c22 : 1 + x7_3.size ≤ 9223372036854775807
         rotate_left
         ·
          rw [if_neg c22] at H
          exact absurd H (by simp)
         rw [if_pos c22] at H
         have c22b0 := eq_true c22
         have c22b1 : decide (1 + x7_3.size ≤ 9223372036854775807) = true := decide_eq_true c22
         try have c22b2 : (9223372036854775807 < 1 + x7_3.size) = False := eq_false (Nat.not_lt.2 c22)
         have H' := Aside0.mk H
         clear H
         go_wp2
         go_roundg k3
         case measure => have := HJ5.out; have := HJ16.out; have := HK3.out; omega
         case rel => exact ⟨((⟨#[48]⟩ : ByteArray) ++ x7_3), (IntKind.u64.wrap (x12_3 + 1)), (by first | rfl | (simp; done) | (simp [bne, *]; done)), (by first | rfl | (simp; done) | (simp [bne, *]; done)), H', ⟨by have := HJ5.out; have := HJ16.out; have := HK3.out; omega⟩, ⟨krW HO_8⟩, ⟨kwW HB⟩⟩
        ·
         rw [if_neg c21] at H
         have c21b0 : decide (x12_3 < (Int.tmod a1 40)) = false := decide_eq_false c21
         clear c21
         have H' := Aside0.mk H
         clear H
         go_wp2
         go_loopg [11, 13] k3 (fun kq v11 v13 w' => ∃ (x11_4 : ByteArray) (x13_4 : Int), v11 = .string x11_4 ∧ v13 = .int .i64 x13_4 ∧ Aside0 (skerrylaw18_LexerNumbers.l1 kq a2 x7_3 t454 x11_4 x13_4 = some r) ∧ Aside0 (kq ≤ k3) ∧ Aside0 (Kd.R k25 25 w' w.heap.size (fun _ => True) v457 t454) ∧ Aside0 (Below w.heap.size w w'))
         case atStart => exact ⟨(x11_16), (0), (by first | rfl | (simp; done) | (simp [bne, *]; done)), (by first | rfl | (simp; done) | (simp [bne, *]; done)), H', ⟨Nat.le_refl _⟩, ⟨krW HO_8⟩, ⟨kwW HB⟩⟩
         case round =>
          clear H'
          try clear c1
          try clear c2
          try clear p2
          try clear p4
          try clear q4
          try clear hx4
          try clear qi4
          try clear c7
          try clear c9
          try clear c9b0
          try clear c9b1
          try clear c10
          try clear c10b0
          try clear c10b1
          try clear c11
          try clear c11b0
          try clear c11b1
          try clear c12
          try clear c12b0
          try clear c12b1
          try clear c13
          try clear c15
          try clear c16
          try clear c18
          try clear c18b0
          try clear c19
          try clear c19b0
          try clear c19b1
          try clear c21
          try clear c21b0
          try clear c22
          try clear c22b0
          try clear c22b1
          try clear c22b2
          try clear hx459_0
          try clear hx459_1
          try clear hx459_2
          try clear hx459_3
          try clear hx459_4
          try clear hx459_5
          try clear hx459_6
          try clear hx460_0
          try clear hx460_1
          try clear hx460_2
          try clear hx460_3
          try clear hx460_4
          try clear hx460_5
          try clear hx460_6
          try clear p2
          try clear p4
          try clear p459
          try clear p460
          try clear q4
          try clear q459
          try clear q460
          obtain ⟨x11_4, x13_4, rfl, rfl, HA, HK4, HO_8, HB⟩ := hrel
          cases gk with
          | zero => exact absurd HA.out (by simp [skerrylaw18_LexerNumbers.l1])
          | succ k4 =>
           have H := HA.out
           clear HA
           simp only [skerrylaw18_LexerNumbers.l1] at H
           by_cases c23 : x13_4 < (x7_3.size : Int)
           ·
            rw [if_pos c23] at H
            have c23b0 : decide (x13_4 < (x7_3.size : Int)) = true := decide_eq_true c23
            clear c23
            by_cases c24 : x13_4 > 0
            rotate_left
            ·
             rw [if_neg c24] at H
             have c24b0 : decide (0 < x13_4) = false := decide_eq_false c24
             clear c24
             by_cases c38 : 0 ≤ x13_4
             rotate_left
             ·
              rw [if_neg c38] at H
              exact absurd H (by simp)
             rw [if_pos c38] at H
             have c38b0 := eq_true c38
             have c38b1 : decide (0 ≤ x13_4) = true := decide_eq_true c38
             clear c38
             by_cases c39 : x13_4 ≤ (wrap64 (x13_4 + 1))
             rotate_left
             ·
              rw [if_neg c39] at H
              exact absurd H (by simp)
             rw [if_pos c39] at H
             have c39b0 := eq_true c39
             have c39b1 : decide (x13_4 ≤ (wrap64 (x13_4 + 1))) = true := decide_eq_true c39
             by_cases c40 : (wrap64 (x13_4 + 1)) ≤ (x7_3.size : Int)
             rotate_left
             ·
              rw [if_neg c40] at H
              exact absurd H (by simp)
             rw [if_pos c40] at H
             have c40b0 := eq_true c40
             have c40b1 : decide ((wrap64 (x13_4 + 1)) ≤ (x7_3.size : Int)) = true := decide_eq_true c40
             by_cases c41 : x11_4.size + (x7_3.extract (x13_4 : Int).toNat ((wrap64 (x13_4 + 1)) : Int).toNat).size ≤ 9223372036854775807
             rotate_left
             ·
              rw [if_neg c41] at H
              exact absurd H (by simp)
             rw [if_pos c41] at H
             have c41b0 := eq_true c41
             have c41b1 : decide (x11_4.size + (x7_3.extract (x13_4 : Int).toNat ((wrap64 (x13_4 + 1)) : Int).toNat).size ≤ 9223372036854775807) = true := decide_eq_true c41
             try have c41b2 : (9223372036854775807 < x11_4.size + (x7_3.extract (x13_4 : Int).toNat ((wrap64 (x13_4 + 1)) : Int).toNat).size) = False := eq_false (Nat.not_lt.2 c41)
             have H' := Aside0.mk H
             clear H
             go_wp2
             go_roundg k4
             case measure => have := HJ5.out; have := HJ16.out; have := HK3.out; have := HK4.out; omega
             case rel => exact ⟨(x11_4 ++ (x7_3.extract (x13_4 : Int).toNat ((wrap64 (x13_4 + 1)) : Int).toNat)), (wrap64 (x13_4 + 1)), (by first | rfl | (simp; done) | (simp [bne, *]; done)), (by first | rfl | (simp; done) | (simp [bne, *]; done)), H', ⟨by have := HJ5.out; have := HJ16.out; have := HK3.out; have := HK4.out; omega⟩, ⟨krW HO_8⟩, ⟨kwW HB⟩⟩
            rw [if_pos c24] at H
            have c24b0 : decide (0 < x13_4) = true := decide_eq_true c24
            clear c24
            obtain ⟨ji25, hji25⟩ : ∃ j_ : Int, (IntKind.u64.wrap (Int.tmod x13_4 60)) = j_ := ⟨_, rfl⟩
            replace H : (if 0 ≤ (ji25) then (if (Go.bits .and .u64 (shr .u64 a2 (ji25)) 1) = 1 then (if x11_4.size + 1 ≤ 9223372036854775807 then (if 0 ≤ x13_4 then (if x13_4 ≤ (wrap64 (x13_4 + 1)) then (if (wrap64 (x13_4 + 1)) ≤ (x7_3.size : Int) then (if (x11_4 ++ (⟨#[95]⟩ : ByteArray)).size + (x7_3.extract (x13_4 : Int).toNat ((wrap64 (x13_4 + 1)) : Int).toNat).size ≤ 9223372036854775807 then (skerrylaw18_LexerNumbers.l1 k4 a2 x7_3 t454 ((x11_4 ++ (⟨#[95]⟩ : ByteArray)) ++ (x7_3.extract (x13_4 : Int).toNat ((wrap64 (x13_4 + 1)) : Int).toNat)) (wrap64 (x13_4 + 1))) else (none)) else (none)) else (none)) else (none)) else (none)) else (if 0 ≤ x13_4 then (if x13_4 ≤ (wrap64 (x13_4 + 1)) then (if (wrap64 (x13_4 + 1)) ≤ (x7_3.size : Int) then (if x11_4.size + (x7_3.extract (x13_4 : Int).toNat ((wrap64 (x13_4 + 1)) : Int).toNat).size ≤ 9223372036854775807 then (skerrylaw18_LexerNumbers.l1 k4 a2 x7_3 t454 (x11_4 ++ (x7_3.extract (x13_4 : Int).toNat ((wrap64 (x13_4 + 1)) : Int).toNat)) (wrap64 (x13_4 + 1))) else (none)) else (none)) else (none)) else (none))) else (none)) = some r := by first | (rw [hji25] at H; exact H) | (simp only [hji25] at H ⊢; exact H)
            by_cases c26 : 0 ≤ (ji25)
            rotate_left
            ·
             rw [if_neg c26] at H
             exact absurd H (by simp)
            rw [if_pos c26] at H
            have c26b0 := eq_true c26
            have c26b1 : decide (0 ≤ (ji25)) = true := decide_eq_true c26
            clear c26
            obtain ⟨ji27, hji27⟩ : ∃ j_ : Int, (shr .u64 a2 (ji25)) = j_ := ⟨_, rfl⟩
            replace H : (if (Go.bits .and .u64 (ji27) 1) = 1 then (if x11_4.size + 1 ≤ 9223372036854775807 then (if 0 ≤ x13_4 then (if x13_4 ≤ (wrap64 (x13_4 + 1)) then (if (wrap64 (x13_4 + 1)) ≤ (x7_3.size : Int) then (if (x11_4 ++ (⟨#[95]⟩ : ByteArray)).size + (x7_3.extract (x13_4 : Int).toNat ((wrap64 (x13_4 + 1)) : Int).toNat).size ≤ 9223372036854775807 then (skerrylaw18_LexerNumbers.l1 k4 a2 x7_3 t454 ((x11_4 ++ (⟨#[95]⟩ : ByteArray)) ++ (x7_3.extract (x13_4 : Int).toNat ((wrap64 (x13_4 + 1)) : Int).toNat)) (wrap64 (x13_4 + 1))) else (none)) else (none)) else (none)) else (none)) else (none)) else (if 0 ≤ x13_4 then (if x13_4 ≤ (wrap64 (x13_4 + 1)) then (if (wrap64 (x13_4 + 1)) ≤ (x7_3.size : Int) then (if x11_4.size + (x7_3.extract (x13_4 : Int).toNat ((wrap64 (x13_4 + 1)) : Int).toNat).size ≤ 9223372036854775807 then (skerrylaw18_LexerNumbers.l1 k4 a2 x7_3 t454 (x11_4 ++ (x7_3.extract (x13_4 : Int).toNat ((wrap64 (x13_4 + 1)) : Int).toNat)) (wrap64 (x13_4 + 1))) else (none)) else (none)) else (none)) else (none))) = some r := by first | (rw [hji27] at H; exact H) | (simp only [hji27] at H ⊢; exact H)
            have hji27_ : (a2 / 2 ^ min (ji25).toNat 64) = ji27 := hji27
            have hji27z : (ji25) ≤ 64 → (a2 / 2 ^ (ji25).toNat) = ji27 := shr_small hji27
            by_cases c28 : (Go.bits .and .u64 (ji27) 1) = 1
            rotate_left
            ·
             rw [if_neg c28] at H
             have c28b0 : ((Go.bits .and .u64 (ji27) 1) == 1) = false := beq_eq_false_iff_ne.mpr c28
             have c28b1 : ((Go.bits .and .u64 (ji27) 1) != 1) = true := bne_iff_ne.mpr c28
             by_cases c34 : 0 ≤ x13_4
             rotate_left
             ·
              rw [if_neg c34] at H
              exact absurd H (by simp)
             rw [if_pos c34] at H
             have c34b0 := eq_true c34
             have c34b1 : decide (0 ≤ x13_4) = true := decide_eq_true c34
             clear c34
             by_cases c35 : x13_4 ≤ (wrap64 (x13_4 + 1))
             rotate_left
             ·
              rw [if_neg c35] at H
              exact absurd H (by simp)
             rw [if_pos c35] at H
             have c35b0 := eq_true c35
             have c35b1 : decide (x13_4 ≤ (wrap64 (x13_4 + 1))) = true := decide_eq_true c35
             by_cases c36 : (wrap64 (x13_4 + 1)) ≤ (x7_3.size : Int)
             rotate_left
             ·
              rw [if_neg c36] at H
              exact absurd H (by simp)
             rw [if_pos c36] at H
             have c36b0 := eq_true c36
             have c36b1 : decide ((wrap64 (x13_4 + 1)) ≤ (x7_3.size : Int)) = true := decide_eq_true c36
             by_cases c37 : x11_4.size + (x7_3.extract (x13_4 : Int).toNat ((wrap64 (x13_4 + 1)) : Int).toNat).size ≤ 9223372036854775807
             rotate_left
             ·
              rw [if_neg c37] at H
              exact absurd H (by simp)
             rw [if_pos c37] at H
             have c37b0 := eq_true c37
             have c37b1 : decide (x11_4.size + (x7_3.extract (x13_4 : Int).toNat ((wrap64 (x13_4 + 1)) : Int).toNat).size ≤ 9223372036854775807) = true := decide_eq_true c37
             try have c37b2 : (9223372036854775807 < x11_4.size + (x7_3.extract (x13_4 : Int).toNat ((wrap64 (x13_4 + 1)) : Int).toNat).size) = False := eq_false (Nat.not_lt.2 c37)
             have H' := Aside0.mk H
             clear H
             go_wp2
             go_roundg k4
             case measure => have := HJ5.out; have := HJ16.out; have := HK3.out; have := HK4.out; omega
             case rel => exact ⟨(x11_4 ++ (x7_3.extract (x13_4 : Int).toNat ((wrap64 (x13_4 + 1)) : Int).toNat)), (wrap64 (x13_4 + 1)), (by first | rfl | (simp; done) | (simp [bne, *]; done)), (by first | rfl | (simp; done) | (simp [bne, *]; done)), H', ⟨by have := HJ5.out; have := HJ16.out; have := HK3.out; have := HK4.out; omega⟩, ⟨krW HO_8⟩, ⟨kwW HB⟩⟩
            rw [if_pos c28] at H
            have c28b0 : ((Go.bits .and .u64 (ji27) 1) == 1) = true := beq_iff_eq.mpr c28
            have c28b1 : ((Go.bits .and .u64 (ji27) 1) != 1) = false := bne_eq_false_iff_eq.mpr c28
            clear c28
            by_cases c29 : x11_4.size + 1 ≤ 9223372036854775807
            rotate_left
            ·
             rw [if_neg c29] at H
             exact absurd H (by simp)
            rw [if_pos c29] at H
            have c29b0 := eq_true c29
            have c29b1 : decide (x11_4.size + 1 ≤ 9223372036854775807) = true := decide_eq_true c29
            try have c29b2 : (9223372036854775807 < x11_4.size + 1) = False := eq_false (Nat.not_lt.2 c29)
            by_cases c30 : 0 ≤ x13_4
            rotate_left
            ·
             rw [if_neg c30] at H
             exact absurd H (by simp)
            rw [if_pos c30] at H
            have c30b0 := eq_true c30
            have c30b1 : decide (0 ≤ x13_4) = true := decide_eq_true c30
            clear c30
            by_cases c31 : x13_4 ≤ (wrap64 (x13_4 + 1))
            rotate_left
            ·
             rw [if_neg c31] at H
             exact absurd H (by simp)
            rw [if_pos c31] at H
            have c31b0 := eq_true c31
            have c31b1 : decide (x13_4 ≤ (wrap64 (x13_4 + 1))) = true := decide_eq_true c31
            by_cases c32 : (wrap64 (x13_4 + 1)) ≤ (x7_3.size : Int)
            rotate_left
            ·
             rw [if_neg c32] at H
             exact absurd H (by simp)
            rw [if_pos c32] at H
            have c32b0 := eq_true c32
            have c32b1 : decide ((wrap64 (x13_4 + 1)) ≤ (x7_3.size : Int)) = true := decide_eq_true c32
            by_cases c33 : (x11_4 ++ (⟨#[95]⟩ : ByteArray)).size + (x7_3.extract (x13_4 : Int).toNat ((wrap64 (x13_4 + 1)) : Int).toNat).size ≤ 9223372036854775807
            rotate_left
            ·
             rw [if_neg c33] at H
             exact absurd H (by simp)
            rw [if_pos c33] at H
            have c33b0 := eq_true c33
            have c33b1 : decide ((x11_4 ++ (⟨#[95]⟩ : ByteArray)).size + (x7_3.extract (x13_4 : Int).toNat ((wrap64 (x13_4 + 1)) : Int).toNat).size ≤ 9223372036854775807) = true := decide_eq_true c33
            try have c33b2 : (9223372036854775807 < (x11_4 ++ (⟨#[95]⟩ : ByteArray)).size + (x7_3.extract (x13_4 : Int).toNat ((wrap64 (x13_4 + 1)) : Int).toNat).size) = False := eq_false (Nat.not_lt.2 c33)
            (try (have c33b0z := c33b0; simp only [ByteArray.size_append] at c33b0z))
            (try (have c33b1z := c33b1; simp only [ByteArray.size_append] at c33b1z))
            (try (have c33b2z := c33b2; simp only [ByteArray.size_append] at c33b2z))
            have H' := Aside0.mk H
            clear H
            go_wp2
            go_roundg k4
            case measure => have := HJ5.out; have := HJ16.out; have := HK3.out; have := HK4.out; omega
            case rel => exact ⟨((x11_4 ++ (⟨#[95]⟩ : ByteArray)) ++ (x7_3.extract (x13_4 : Int).toNat ((wrap64 (x13_4 + 1)) : Int).toNat)), (wrap64 (x13_4 + 1)), (by first | rfl | (simp; done) | (simp [bne, *]; done)), (by first | rfl | (simp; done) | (simp [bne, *]; done)), H', ⟨by have := HJ5.out; have := HJ16.out; have := HK3.out; have := HK4.out; omega⟩, ⟨krW HO_8⟩, ⟨kwW HB⟩⟩
           ·
            rw [if_neg c23] at H
            have c23b0 : decide (x13_4 < (x7_3.size : Int)) = false := decide_eq_false c23
            clear c23
            replace H := Option.bind_eq_some_iff.mp H
            obtain ⟨⟨t461, t462, t463⟩, A420, H⟩ := H
            have A42 := Aside0.mk A420
            clear A420
            by_cases c43 : t463 = 0
            rotate_left
            ·
             rw [if_neg c43] at H
             have c43b0 : (t463 == 0) = false := beq_eq_false_iff_ne.mpr c43
             have c43b1 : (t463 != 0) = true := bne_iff_ne.mpr c43
             exact absurd H (by simp)
            rw [if_pos c43] at H
            have c43b0 : (t463 == 0) = true := beq_iff_eq.mpr c43
            have c43b1 : (t463 != 0) = false := bne_eq_false_iff_eq.mpr c43
            clear c43
            by_cases c44 : (t461.length : Int) = 2
            rotate_left
            ·
             rw [if_neg c44] at H
             have c44b0 : ((t461.length : Int) == 2) = false := beq_eq_false_iff_ne.mpr c44
             have c44b1 : ((t461.length : Int) != 2) = true := bne_iff_ne.mpr c44
             exact absurd H (by simp)
            rw [if_pos c44] at H
            have c44b0 : ((t461.length : Int) == 2) = true := beq_iff_eq.mpr c44
            have c44b1 : ((t461.length : Int) != 2) = false := bne_eq_false_iff_eq.mpr c44
            clear c44
            by_cases c45 : 0 < (t461.length : Int)
            rotate_left
            ·
             rw [if_neg c45] at H
             exact absurd H (by simp)
            rw [if_pos c45] at H
            have c45b0 : decide (0 < (t461.length : Int)) = true := decide_eq_true c45
            have c45b1 : decide (0 < t461.length) = true := decide_eq_true (by omega)
            clear c45
            by_cases c46 : 0 < (t454.length : Int)
            rotate_left
            ·
             rw [if_neg c46] at H
             exact absurd H (by simp)
            rw [if_pos c46] at H
            have c46b0 : decide (0 < (t454.length : Int)) = true := decide_eq_true c46
            have c46b1 : decide (0 < t454.length) = true := decide_eq_true (by omega)
            clear c46
            by_cases c47 : (((rd_T25 t461 0).f2.f0) == ((rd_T25 t454 0).f2.f0) && (((rd_T25 t461 0).f2.f1) == ((rd_T25 t454 0).f2.f1) && ((((rd_T25 t461 0).f2.f2).toList) == (((rd_T25 t454 0).f2.f2).toList)))) = true
            rotate_left
            ·
             rw [if_neg c47] at H
             have c47b0 : (((rd_T25 t461 0).f2.f0) == ((rd_T25 t454 0).f2.f0) && (((rd_T25 t461 0).f2.f1) == ((rd_T25 t454 0).f2.f1) && ((((rd_T25 t461 0).f2.f2).toList) == (((rd_T25 t454 0).f2.f2).toList)))) = false := by simpa using c47
             (try (have c47b1 : decide (((rd_T25 t461 0).f2.f0) = ((rd_T25 t454 0).f2.f0) && (((rd_T25 t461 0).f2.f1) == ((rd_T25 t454 0).f2.f1) && ((((rd_T25 t461 0).f2.f2).toList) == (((rd_T25 t454 0).f2.f2).toList)))) = false := by simpa using c47))
             (try (have c47b2 : (((rd_T25 t461 0).f2.f0) == ((rd_T25 t454 0).f2.f0) && (((rd_T25 t461 0).f2.f1) == ((rd_T25 t454 0).f2.f1) && ((((rd_T25 t461 0).f2.f2).toList) == (((rd_T25 t454 0).f2.f2).toList)))) = false := by simpa using c47))
             (try (have c47b3 : ¬ (((rd_T25 t461 0).f2.f0) = ((rd_T25 t454 0).f2.f0) && (((rd_T25 t461 0).f2.f1) == ((rd_T25 t454 0).f2.f1) && ((((rd_T25 t461 0).f2.f2).toList) == (((rd_T25 t454 0).f2.f2).toList)))) := by simpa using c47))
             clear c47
             exact absurd H (by simp)
            rw [if_pos c47] at H
            have c47b0 : (((rd_T25 t461 0).f2.f0) == ((rd_T25 t454 0).f2.f0) && (((rd_T25 t461 0).f2.f1) == ((rd_T25 t454 0).f2.f1) && ((((rd_T25 t461 0).f2.f2).toList) == (((rd_T25 t454 0).f2.f2).toList)))) = true := c47
            (try (have c47b1 : decide (((rd_T25 t461 0).f2.f0) = ((rd_T25 t454 0).f2.f0) && (((rd_T25 t461 0).f2.f1) == ((rd_T25 t454 0).f2.f1) && ((((rd_T25 t461 0).f2.f2).toList) == (((rd_T25 t454 0).f2.f2).toList)))) = true := by simpa using c47))
            (try (have c47b2 : (((rd_T25 t461 0).f2.f0) == ((rd_T25 t454 0).f2.f0) && (((rd_T25 t461 0).f2.f1) == ((rd_T25 t454 0).f2.f1) && ((((rd_T25 t461 0).f2.f2).toList) == (((rd_T25 t454 0).f2.f2).toList)))) = true := by simpa using c47))
            clear c47
            by_cases c48 : ((rd_T25 t461 0).f4) = (x11_4.size : Int)
            rotate_left
            ·
             rw [if_neg c48] at H
             have c48b0 : (((rd_T25 t461 0).f4) == (x11_4.size : Int)) = false := beq_eq_false_iff_ne.mpr c48
             have c48b1 : (((rd_T25 t461 0).f4) != (x11_4.size : Int)) = true := bne_iff_ne.mpr c48
             exact absurd H (by simp)
            rw [if_pos c48] at H
            have c48b0 : (((rd_T25 t461 0).f4) == (x11_4.size : Int)) = true := beq_iff_eq.mpr c48
            have c48b1 : (((rd_T25 t461 0).f4) != (x11_4.size : Int)) = false := bne_eq_false_iff_eq.mpr c48
            clear c48
            replace H := Option.bind_eq_some_iff.mp H
            obtain ⟨t469, A490, H⟩ := H
            have A49 := Aside0.mk A490
            clear A490
            obtain rfl := Option.some.inj H
            try go_wp2_with (first | ((with_reducible refine gate_callee (f := 13) rfl ?_); refine goesL_ (some 87) rfl rfl Tryd.func13 (by kernel_rfl) rfl #[.string x11_4] rfl (by (try simp only [mT_, mC_, mN_]); first | done | rfl) ?_; (with_reducible refine (lexer_Lex.calls k4 x11_4 t461 t462 t463 _ A42.out).mono ?_); rintro e w50 ⟨v464, rfl, ho0, hb⟩; refine ⟨_, rfl, ?_⟩; have HO465 := Aside0.mk (Kd.R_lower (Kd.R_new' ho0 (Kd.R_lt (krW HO_8))) (bZ_ (kwW HB))); replace HO_8 := Aside0.mk (Kd.R_elder' (krW HO_8) (Kd.R_base ho0) hb); replace HB := Aside0.mk (below_step (kwW HB) hb); (try clear hb); (try clear hb2); (try clear hk); (try clear hi); (try clear ho0)))
            replace HO_8 := Aside0.mk (Kd.R_drew HO_8.out)
            replace HO465 := Aside0.mk (Kd.R_drew HO465.out)
            replace HB := Aside0.mk (below_drew1 HB.out)
            obtain ⟨Ao52, co52, eo52⟩ := Kd.R_slice HO465.out
            (first | subst eo52 | (injection eo52 with f1_ f2_ f3_; have f4_ := f1_.symm; have f5_ := f3_.symm; clear f1_ f2_ f3_; subst f4_; subst f5_))
            have p466 : 0 ≤ (0 : Int) := (by omega)
            have q466 : 0 < (t461.length : Int) := of_decide_eq_true (by first | (with_reducible assumption) | assumption)
            obtain ⟨ad466, e466, hx466_0, hx466_1, hx466_2, hx466_3, hx466_4, hx466_5, hx466_6⟩ := at_T25 (Kd.R_reads' HO465.out).2.2 0 p466 q466
            cases e466
            have qi466 : (0 < t461.length) = True := eq_true (by omega)
            (try rw [show ((0 : Int)).toNat = 0 from rfl] at hx466_0)
            (try rw [show 0 * 7 = 0 from rfl] at hx466_0)
            (try rw [Addr.add_zero'] at hx466_0)
            (try rw [show ((0 : Int)).toNat = 0 from rfl] at hx466_1)
            (try rw [show 0 * 7 = 0 from rfl] at hx466_1)
            (try rw [Addr.add_zero'] at hx466_1)
            (try rw [show ((0 : Int)).toNat = 0 from rfl] at hx466_2)
            (try rw [show 0 * 7 = 0 from rfl] at hx466_2)
            (try rw [Addr.add_zero'] at hx466_2)
            (try rw [show ((0 : Int)).toNat = 0 from rfl] at hx466_3)
            (try rw [show 0 * 7 = 0 from rfl] at hx466_3)
            (try rw [Addr.add_zero'] at hx466_3)
            (try rw [show ((0 : Int)).toNat = 0 from rfl] at hx466_4)
            (try rw [show 0 * 7 = 0 from rfl] at hx466_4)
            (try rw [Addr.add_zero'] at hx466_4)
            (try rw [show ((0 : Int)).toNat = 0 from rfl] at hx466_5)
            (try rw [show 0 * 7 = 0 from rfl] at hx466_5)
            (try rw [Addr.add_zero'] at hx466_5)
            (try rw [show ((0 : Int)).toNat = 0 from rfl] at hx466_6)
            (try rw [show 0 * 7 = 0 from rfl] at hx466_6)
            (try rw [Addr.add_zero'] at hx466_6)
            replace p466 := eq_true p466
            replace q466 := eq_true q466
            obtain ⟨Ao53, co53, eo53⟩ := Kd.R_slice HO_8.out
            (first | subst eo53 | (injection eo53 with f1_ f2_ f3_; have f4_ := f1_.symm; have f5_ := f3_.symm; clear f1_ f2_ f3_; subst f4_; subst f5_))
            have p467 : 0 ≤ (0 : Int) := (by omega)
            have q467 : 0 < (t454.length : Int) := of_decide_eq_true (by first | (with_reducible assumption) | assumption)
            obtain ⟨ad467, e467, hx467_0, hx467_1, hx467_2, hx467_3, hx467_4, hx467_5, hx467_6⟩ := at_T25 (Kd.R_reads' HO_8.out).2.2 0 p467 q467
            cases e467
            have qi467 : (0 < t454.length) = True := eq_true (by omega)
            (try rw [show ((0 : Int)).toNat = 0 from rfl] at hx467_0)
            (try rw [show 0 * 7 = 0 from rfl] at hx467_0)
            (try rw [Addr.add_zero'] at hx467_0)
            (try rw [show ((0 : Int)).toNat = 0 from rfl] at hx467_1)
            (try rw [show 0 * 7 = 0 from rfl] at hx467_1)
            (try rw [Addr.add_zero'] at hx467_1)
            (try rw [show ((0 : Int)).toNat = 0 from rfl] at hx467_2)
            (try rw [show 0 * 7 = 0 from rfl] at hx467_2)
            (try rw [Addr.add_zero'] at hx467_2)
            (try rw [show ((0 : Int)).toNat = 0 from rfl] at hx467_3)
            (try rw [show 0 * 7 = 0 from rfl] at hx467_3)
            (try rw [Addr.add_zero'] at hx467_3)
            (try rw [show ((0 : Int)).toNat = 0 from rfl] at hx467_4)
            (try rw [show 0 * 7 = 0 from rfl] at hx467_4)
            (try rw [Addr.add_zero'] at hx467_4)
            (try rw [show ((0 : Int)).toNat = 0 from rfl] at hx467_5)
            (try rw [show 0 * 7 = 0 from rfl] at hx467_5)
            (try rw [Addr.add_zero'] at hx467_5)
            (try rw [show ((0 : Int)).toNat = 0 from rfl] at hx467_6)
            (try rw [show 0 * 7 = 0 from rfl] at hx467_6)
            (try rw [Addr.add_zero'] at hx467_6)
            replace p467 := eq_true p467
            replace q467 := eq_true q467
            have p468 : 0 ≤ (0 : Int) := (by omega)
            have q468 : 0 < (t461.length : Int) := of_decide_eq_true (by first | (with_reducible assumption) | assumption)
            obtain ⟨ad468, e468, hx468_0, hx468_1, hx468_2, hx468_3, hx468_4, hx468_5, hx468_6⟩ := at_T25 (Kd.R_reads' HO465.out).2.2 0 p468 q468
            obtain rfl : ad466 = ad468 := (by injection e468)
            have qi468 : (0 < t461.length) = True := eq_true (by omega)
            (try rw [show ((0 : Int)).toNat = 0 from rfl] at hx468_0)
            (try rw [show 0 * 7 = 0 from rfl] at hx468_0)
            (try rw [Addr.add_zero'] at hx468_0)
            (try rw [show ((0 : Int)).toNat = 0 from rfl] at hx468_1)
            (try rw [show 0 * 7 = 0 from rfl] at hx468_1)
            (try rw [Addr.add_zero'] at hx468_1)
            (try rw [show ((0 : Int)).toNat = 0 from rfl] at hx468_2)
            (try rw [show 0 * 7 = 0 from rfl] at hx468_2)
            (try rw [Addr.add_zero'] at hx468_2)
            (try rw [show ((0 : Int)).toNat = 0 from rfl] at hx468_3)
            (try rw [show 0 * 7 = 0 from rfl] at hx468_3)
            (try rw [Addr.add_zero'] at hx468_3)
            (try rw [show ((0 : Int)).toNat = 0 from rfl] at hx468_4)
            (try rw [show 0 * 7 = 0 from rfl] at hx468_4)
            (try rw [Addr.add_zero'] at hx468_4)
            (try rw [show ((0 : Int)).toNat = 0 from rfl] at hx468_5)
            (try rw [show 0 * 7 = 0 from rfl] at hx468_5)
            (try rw [Addr.add_zero'] at hx468_5)
            (try rw [show ((0 : Int)).toNat = 0 from rfl] at hx468_6)
            (try rw [show 0 * 7 = 0 from rfl] at hx468_6)
            (try rw [Addr.add_zero'] at hx468_6)
            replace p468 := eq_true p468
            replace q468 := eq_true q468
            refine start_ (n := 31) (S := fun w' => w'.cell? ad466 = some (.int .i64 ((rd_T25 t461 0).f0)) ∧ w'.cell? ⟨ad466.block, ad466.off + 1, none⟩ = some (.string ((rd_T25 t461 0).f1)) ∧ w'.cell? ⟨ad466.block, ad466.off + 2, none⟩ = some (.int .i64 ((rd_T25 t461 0).f2.f0)) ∧ w'.cell? ⟨ad466.block, ad466.off + 3, none⟩ = some (.int .i64 ((rd_T25 t461 0).f2.f1)) ∧ w'.cell? ⟨ad466.block, ad466.off + 4, none⟩ = some (.string ((rd_T25 t461 0).f2.f2)) ∧ w'.cell? ⟨ad466.block, ad466.off + 5, none⟩ = some (.int .i64 ((rd_T25 t461 0).f3)) ∧ w'.cell? ⟨ad466.block, ad466.off + 6, none⟩ = some (.int .i64 ((rd_T25 t461 0).f4)) ∧ w'.cell? ad467 = some (.int .i64 ((rd_T25 t454 0).f0)) ∧ w'.cell? ⟨ad467.block, ad467.off + 1, none⟩ = some (.string ((rd_T25 t454 0).f1)) ∧ w'.cell? ⟨ad467.block, ad467.off + 2, none⟩ = some (.int .i64 ((rd_T25 t454 0).f2.f0)) ∧ w'.cell? ⟨ad467.block, ad467.off + 3, none⟩ = some (.int .i64 ((rd_T25 t454 0).f2.f1)) ∧ w'.cell? ⟨ad467.block, ad467.off + 4, none⟩ = some (.string ((rd_T25 t454 0).f2.f2)) ∧ w'.cell? ⟨ad467.block, ad467.off + 5, none⟩ = some (.int .i64 ((rd_T25 t454 0).f3)) ∧ w'.cell? ⟨ad467.block, ad467.off + 6, none⟩ = some (.int .i64 ((rd_T25 t454 0).f4)) ∧ w'.cell? ad466 = some (.int .i64 ((rd_T25 t461 0).f0)) ∧ w'.cell? ⟨ad466.block, ad466.off + 1, none⟩ = some (.string ((rd_T25 t461 0).f1)) ∧ w'.cell? ⟨ad466.block, ad466.off + 2, none⟩ = some (.int .i64 ((rd_T25 t461 0).f2.f0)) ∧ w'.cell? ⟨ad466.block, ad466.off + 3, none⟩ = some (.int .i64 ((rd_T25 t461 0).f2.f1)) ∧ w'.cell? ⟨ad466.block, ad466.off + 4, none⟩ = some (.string ((rd_T25 t461 0).f2.f2)) ∧ w'.cell? ⟨ad466.block, ad466.off + 5, none⟩ = some (.int .i64 ((rd_T25 t461 0).f3)) ∧ w'.cell? ⟨ad466.block, ad466.off + 6, none⟩ = some (.int .i64 ((rd_T25 t461 0).f4))) (ds := []) (tf_ 0 31) (by kernel_rfl) rfl rfl ⟨hx466_0, hx466_1, hx466_2, hx466_3, hx466_4, hx466_5, hx466_6, hx467_0, hx467_1, hx467_2, hx467_3, hx467_4, hx467_5, hx467_6, hx468_0, hx468_1, hx468_2, hx468_3, hx468_4, hx468_5, hx468_6⟩ (fun hHeld => ?_); refine with_tabW skerrylaw18_LexerNumbers.tab19 skerrylaw18_LexerNumbers.bits19 (fun HT_ HW_ => ?_)
            generalize w50.drew = w51 at HO_8 HO465 HB hx466_0 hx466_1 hx466_2 hx466_3 hx466_4 hx466_5 hx466_6 hx467_0 hx467_1 hx467_2 hx467_3 hx467_4 hx467_5 hx467_6 hx468_0 hx468_1 hx468_2 hx468_3 hx468_4 hx468_5 hx468_6 hHeld ⊢
            refine pure_ (i := 0) (N := some 91) (v := ?_) (a' := ?_) (tf_ 1 30) rfl rfl (any_of HT_.out (by kernel_rfl)) (fun _ _ _ h => h) (Or.inl ⟨by rfl, ?_⟩) ?_ ?_
            rotate_left; · (intro w'; go_simp; with_reducible rfl)
            rotate_left; · (simp only [Act.put, sT_, sO_, sN_, i64_w, i32_w]; rfl)
            refine pure_ (i := 1) (N := some 92) (v := ?_) (a' := ?_) (tf_ 2 29) rfl rfl (any_of HT_.out (by kernel_rfl)) (fun _ _ _ h => h) (Or.inl ⟨by rfl, ?_⟩) ?_ ?_
            rotate_left; · (intro w'; go_simp; with_reducible rfl)
            rotate_left; · (simp only [Act.put, sT_, sO_, sN_, i64_w, i32_w]; rfl)
            refine pure_ (i := 2) (N := some 93) (v := ?_) (a' := ?_) (tf_ 3 28) rfl rfl (any_of HT_.out (by kernel_rfl)) (fun _ _ _ h => h) (Or.inl ⟨by rfl, ?_⟩) ?_ ?_
            rotate_left; · (intro w'; go_simp; with_reducible rfl)
            rotate_left; · (simp only [Act.put, sT_, sO_, sN_, i64_w, i32_w]; rfl)
            refine pure_ (i := 3) (N := some 94) (v := ?_) (a' := ?_) (tf_ 4 27) rfl rfl (any_of HT_.out (by kernel_rfl)) (fun _ _ _ h => h) (Or.inl ⟨by rfl, ?_⟩) ?_ ?_
            rotate_left; · (intro w'; go_simp; with_reducible rfl)
            rotate_left; · (simp only [Act.put, sT_, sO_, sN_, i64_w, i32_w]; rfl)
            refine pure_ (i := 4) (N := some 95) (v := ?_) (a' := ?_) (tf_ 5 26) rfl rfl (any_of HT_.out (by kernel_rfl)) (fun _ _ _ h => h) (Or.inl ⟨by rfl, ?_⟩) ?_ ?_
            rotate_left; · (intro w'; go_simp; with_reducible rfl)
            rotate_left; · (simp only [Act.put, sT_, sO_, sN_, i64_w, i32_w]; rfl)
            refine pure_ (i := 5) (N := some 96) (v := ?_) (a' := ?_) (tf_ 6 25) rfl rfl (any_of HT_.out (by kernel_rfl)) (fun _ _ _ h => h) (Or.inl ⟨by rfl, ?_⟩) ?_ ?_
            rotate_left; · (intro w'; go_simp; with_reducible rfl)
            rotate_left; · (simp only [Act.put, sT_, sO_, sN_, i64_w, i32_w]; rfl)
            refine pure_ (i := 6) (N := some 97) (v := ?_) (a' := ?_) (tf_ 7 24) rfl rfl (any_of HT_.out (by kernel_rfl)) (fun _ _ _ h => h) (Or.inl ⟨by rfl, ?_⟩) ?_ ?_
            rotate_left; · (intro w'; go_simp; with_reducible rfl)
            rotate_left; · (simp only [Act.put, sT_, sO_, sN_, i64_w, i32_w]; rfl)
            refine pure_ (i := 7) (N := some 98) (v := ?_) (a' := ?_) (tf_ 8 23) rfl rfl (any_of HT_.out (by kernel_rfl)) (fun _ _ _ h => h) (Or.inl ⟨by rfl, ?_⟩) ?_ ?_
            rotate_left; · (intro w'; go_simp; with_reducible rfl)
            rotate_left; · (simp only [Act.put, sT_, sO_, sN_, i64_w, i32_w]; rfl)
            refine pure_ (i := 8) (N := some 99) (v := ?_) (a' := ?_) (tf_ 9 22) rfl rfl (any_of HT_.out (by kernel_rfl)) (fun _ _ _ h => h) (Or.inl ⟨by rfl, ?_⟩) ?_ ?_
            rotate_left; · (intro w'; go_simp; with_reducible rfl)
            rotate_left; · (simp only [Act.put, sT_, sO_, sN_, i64_w, i32_w]; rfl)
            refine pure_ (i := 9) (N := some 100) (v := ?_) (a' := ?_) (tf_ 10 21) rfl rfl (any_of HT_.out (by kernel_rfl)) (fun _ _ _ h => h) (Or.inl ⟨by rfl, ?_⟩) ?_ ?_
            rotate_left; · (intro w'; go_simp; with_reducible rfl)
            rotate_left; · (simp only [Act.put, sT_, sO_, sN_, i64_w, i32_w]; rfl)
            refine pure_ (i := 10) (N := some 101) (v := ?_) (a' := ?_) (tf_ 11 20) rfl rfl (any_of HT_.out (by kernel_rfl)) (fun _ _ _ h => h) (Or.inl ⟨by rfl, ?_⟩) ?_ ?_
            rotate_left; · (intro w'; go_simp; with_reducible rfl)
            rotate_left; · (simp only [Act.put, sT_, sO_, sN_, i64_w, i32_w]; rfl)
            refine pure_ (i := 12) (N := some 103) (v := ?_) (a' := ?_) (tb_ 6143 31) rfl rfl (any_of HT_.out (by kernel_rfl)) (fun _ _ _ h => h) (Or.inl ⟨by rfl, ?_⟩) ?_ ?_
            rotate_left; · (intro w'; go_simp; with_reducible rfl)
            rotate_left; · (simp only [Act.put, sT_, sO_, sN_, i64_w, i32_w]; rfl)
            refine pure_ (i := 13) (N := some 104) (v := ?_) (a' := ?_) (tb_ 14335 31) rfl rfl (any_of HT_.out (by kernel_rfl)) (fun _ _ _ h => h) (Or.inl ⟨by rfl, ?_⟩) ?_ ?_
            rotate_left; · (intro w'; go_simp; with_reducible rfl)
            rotate_left; · (simp only [Act.put, sT_, sO_, sN_, i64_w, i32_w]; rfl)
            refine pure_ (i := 14) (N := some 105) (v := ?_) (a' := ?_) (tb_ 30719 31) rfl rfl (any_of HT_.out (by kernel_rfl)) (fun _ _ _ h => h) (Or.inl ⟨by rfl, ?_⟩) ?_ ?_
            rotate_left; · (intro w'; go_simp; with_reducible rfl)
            rotate_left; · (simp only [Act.put, sT_, sO_, sN_, i64_w, i32_w]; rfl)
            refine take_ (i := 11) (N := some 102) (v := ?_) (a' := ?_) (tf_ 15 16) rfl rfl (take_ofW HT_.out HW_.out (by kernel_rfl)) (fun _ _ _ h => h) (Or.inl ⟨by rfl, ?_⟩) hHeld ?_ ?_
            rotate_left; · (rintro w' ⟨s0, s1, s2, s3, s4, s5, s6, s7, s8, s9, s10, s11, s12, s13, s14, s15, s16, s17, s18, s19, s20⟩; go_simp; with_reducible rfl)
            rotate_left; · (simp only [Act.put, sT_, sO_, sN_, i64_w, i32_w]; rfl)
            refine take_ (i := 15) (N := some 106) (v := ?_) (a' := ?_) (tf_ 16 15) rfl rfl (take_ofW HT_.out HW_.out (by kernel_rfl)) (fun _ _ _ h => h) (Or.inl ⟨by rfl, ?_⟩) hHeld ?_ ?_
            rotate_left; · (rintro w' ⟨s0, s1, s2, s3, s4, s5, s6, s7, s8, s9, s10, s11, s12, s13, s14, s15, s16, s17, s18, s19, s20⟩; go_simp; with_reducible rfl)
            rotate_left; · (simp only [Act.put, sT_, sO_, sN_, i64_w, i32_w]; rfl)
            refine pure_ (i := 16) (N := some 107) (v := ?_) (a' := ?_) (tf_ 17 14) rfl rfl (any_of HT_.out (by kernel_rfl)) (fun _ _ _ h => h) (Or.inl ⟨by rfl, ?_⟩) ?_ ?_
            rotate_left; · (intro w'; go_simp; with_reducible rfl)
            rotate_left; · (simp only [Act.put, sT_, sO_, sN_, i64_w, i32_w]; rfl)
            refine pure_ (i := 17) (N := some 108) (v := ?_) (a' := ?_) (tf_ 18 13) rfl rfl (any_of HT_.out (by kernel_rfl)) (fun _ _ _ h => h) (Or.inl ⟨by rfl, ?_⟩) ?_ ?_
            rotate_left; · (intro w'; go_simp; with_reducible rfl)
            rotate_left; · (simp only [Act.put, sT_, sO_, sN_, i64_w, i32_w]; rfl)
            refine pure_ (i := 18) (N := some 109) (v := ?_) (a' := ?_) (tf_ 19 12) rfl rfl (any_of HT_.out (by kernel_rfl)) (fun _ _ _ h => h) (Or.inl ⟨by rfl, ?_⟩) ?_ ?_
            rotate_left; · (intro w'; go_simp; with_reducible rfl)
            rotate_left; · (simp only [Act.put, sT_, sO_, sN_, i64_w, i32_w]; rfl)
            refine pure_ (i := 19) (N := some 110) (v := ?_) (a' := ?_) (tf_ 20 11) rfl rfl (any_of HT_.out (by kernel_rfl)) (fun _ _ _ h => h) (Or.inl ⟨by rfl, ?_⟩) ?_ ?_
            rotate_left; · (intro w'; go_simp; with_reducible rfl)
            rotate_left; · (simp only [Act.put, sT_, sO_, sN_, i64_w, i32_w]; rfl)
            refine pure_ (i := 20) (N := some 111) (v := ?_) (a' := ?_) (tf_ 21 10) rfl rfl (any_of HT_.out (by kernel_rfl)) (fun _ _ _ h => h) (Or.inl ⟨by rfl, ?_⟩) ?_ ?_
            rotate_left; · (intro w'; go_simp; with_reducible rfl)
            rotate_left; · (simp only [Act.put, sT_, sO_, sN_, i64_w, i32_w]; rfl)
            refine pure_ (i := 21) (N := some 112) (v := ?_) (a' := ?_) (tf_ 22 9) rfl rfl (any_of HT_.out (by kernel_rfl)) (fun _ _ _ h => h) (Or.inl ⟨by rfl, ?_⟩) ?_ ?_
            rotate_left; · (intro w'; go_simp; with_reducible rfl)
            rotate_left; · (simp only [Act.put, sT_, sO_, sN_, i64_w, i32_w]; rfl)
            refine pure_ (i := 23) (N := some 114) (v := ?_) (a' := ?_) (tb_ 12582911 31) rfl rfl (any_of HT_.out (by kernel_rfl)) (fun _ _ _ h => h) (Or.inl ⟨by rfl, ?_⟩) ?_ ?_
            rotate_left; · (intro w'; go_simp; with_reducible rfl)
            rotate_left; · (simp only [Act.put, sT_, sO_, sN_, i64_w, i32_w]; rfl)
            refine pure_ (i := 24) (N := some 115) (v := ?_) (a' := ?_) (tb_ 29360127 31) rfl rfl (any_of HT_.out (by kernel_rfl)) (fun _ _ _ h => h) (Or.inl ⟨by rfl, ?_⟩) ?_ ?_
            rotate_left; · (intro w'; go_simp; with_reducible rfl)
            rotate_left; · (simp only [Act.put, sT_, sO_, sN_, i64_w, i32_w]; rfl)
            refine take_ (i := 22) (N := some 113) (v := ?_) (a' := ?_) (tf_ 25 6) rfl rfl (take_ofW HT_.out HW_.out (by kernel_rfl)) (fun _ _ _ h => h) (Or.inl ⟨by rfl, ?_⟩) hHeld ?_ ?_
            rotate_left; · (rintro w' ⟨s0, s1, s2, s3, s4, s5, s6, s7, s8, s9, s10, s11, s12, s13, s14, s15, s16, s17, s18, s19, s20⟩; go_simp; with_reducible rfl)
            rotate_left; · (simp only [Act.put, sT_, sO_, sN_, i64_w, i32_w]; rfl)
            refine pure_ (i := 25) (N := some 116) (v := ?_) (a' := ?_) (tf_ 26 5) rfl rfl (any_of HT_.out (by kernel_rfl)) (fun _ _ _ h => h) (Or.inl ⟨by rfl, ?_⟩) ?_ ?_
            rotate_left; · (intro w'; go_simp; with_reducible rfl)
            rotate_left; · (simp only [Act.put, sT_, sO_, sN_, i64_w, i32_w]; rfl)
            refine pure_ (i := 26) (N := some 117) (v := ?_) (a' := ?_) (tf_ 27 4) rfl rfl (any_of HT_.out (by kernel_rfl)) (fun _ _ _ h => h) (Or.inl ⟨by rfl, ?_⟩) ?_ ?_
            rotate_left; · (intro w'; go_simp; with_reducible rfl)
            rotate_left; · (simp only [Act.put, sT_, sO_, sN_, i64_w, i32_w]; rfl)
            refine pure_ (i := 27) (N := some 118) (v := ?_) (a' := ?_) (tf_ 28 3) rfl rfl (any_of HT_.out (by kernel_rfl)) (fun _ _ _ h => h) (Or.inl ⟨by rfl, ?_⟩) ?_ ?_
            rotate_left; · (intro w'; go_simp; with_reducible rfl)
            rotate_left; · (simp only [Act.put, sT_, sO_, sN_, i64_w, i32_w]; rfl)
            refine one_ (i := 28) (N := some 119) (tf_ 29 2) rfl rfl (one_of HT_.out (by kernel_rfl)) (by decide) (fun K hK => ?_)
            refine goes_ Tryd.func12 (by kernel_rfl) rfl #[] (by rfl) rfl rfl (by (try simp only [mT_, mC_, mN_]); first | done | rfl) ?_
            with_reducible refine (skerrylaw18_lives.calls k4  t469 _ A49.out).mono ?_
            rintro e w54 ⟨rfl, hb⟩
            have HS0_ := (hb.cell (World.block_lt_of_cell? _ _ (hHeld.1))).trans (hHeld.1)
            have HS1_ := (hb.cell (World.block_lt_of_cell? _ _ (hHeld.2.1))).trans (hHeld.2.1)
            have HS2_ := (hb.cell (World.block_lt_of_cell? _ _ (hHeld.2.2.1))).trans (hHeld.2.2.1)
            have HS3_ := (hb.cell (World.block_lt_of_cell? _ _ (hHeld.2.2.2.1))).trans (hHeld.2.2.2.1)
            have HS4_ := (hb.cell (World.block_lt_of_cell? _ _ (hHeld.2.2.2.2.1))).trans (hHeld.2.2.2.2.1)
            have HS5_ := (hb.cell (World.block_lt_of_cell? _ _ (hHeld.2.2.2.2.2.1))).trans (hHeld.2.2.2.2.2.1)
            have HS6_ := (hb.cell (World.block_lt_of_cell? _ _ (hHeld.2.2.2.2.2.2.1))).trans (hHeld.2.2.2.2.2.2.1)
            have HS7_ := (hb.cell (World.block_lt_of_cell? _ _ (hHeld.2.2.2.2.2.2.2.1))).trans (hHeld.2.2.2.2.2.2.2.1)
            have HS8_ := (hb.cell (World.block_lt_of_cell? _ _ (hHeld.2.2.2.2.2.2.2.2.1))).trans (hHeld.2.2.2.2.2.2.2.2.1)
            have HS9_ := (hb.cell (World.block_lt_of_cell? _ _ (hHeld.2.2.2.2.2.2.2.2.2.1))).trans (hHeld.2.2.2.2.2.2.2.2.2.1)
            have HS10_ := (hb.cell (World.block_lt_of_cell? _ _ (hHeld.2.2.2.2.2.2.2.2.2.2.1))).trans (hHeld.2.2.2.2.2.2.2.2.2.2.1)
            have HS11_ := (hb.cell (World.block_lt_of_cell? _ _ (hHeld.2.2.2.2.2.2.2.2.2.2.2.1))).trans (hHeld.2.2.2.2.2.2.2.2.2.2.2.1)
            have HS12_ := (hb.cell (World.block_lt_of_cell? _ _ (hHeld.2.2.2.2.2.2.2.2.2.2.2.2.1))).trans (hHeld.2.2.2.2.2.2.2.2.2.2.2.2.1)
            have HS13_ := (hb.cell (World.block_lt_of_cell? _ _ (hHeld.2.2.2.2.2.2.2.2.2.2.2.2.2.1))).trans (hHeld.2.2.2.2.2.2.2.2.2.2.2.2.2.1)
            have HS14_ := (hb.cell (World.block_lt_of_cell? _ _ (hHeld.2.2.2.2.2.2.2.2.2.2.2.2.2.2.1))).trans (hHeld.2.2.2.2.2.2.2.2.2.2.2.2.2.2.1)
            have HS15_ := (hb.cell (World.block_lt_of_cell? _ _ (hHeld.2.2.2.2.2.2.2.2.2.2.2.2.2.2.2.1))).trans (hHeld.2.2.2.2.2.2.2.2.2.2.2.2.2.2.2.1)
            have HS16_ := (hb.cell (World.block_lt_of_cell? _ _ (hHeld.2.2.2.2.2.2.2.2.2.2.2.2.2.2.2.2.1))).trans (hHeld.2.2.2.2.2.2.2.2.2.2.2.2.2.2.2.2.1)
            have HS17_ := (hb.cell (World.block_lt_of_cell? _ _ (hHeld.2.2.2.2.2.2.2.2.2.2.2.2.2.2.2.2.2.1))).trans (hHeld.2.2.2.2.2.2.2.2.2.2.2.2.2.2.2.2.2.1)
            have HS18_ := (hb.cell (World.block_lt_of_cell? _ _ (hHeld.2.2.2.2.2.2.2.2.2.2.2.2.2.2.2.2.2.2.1))).trans (hHeld.2.2.2.2.2.2.2.2.2.2.2.2.2.2.2.2.2.2.1)
            have HS19_ := (hb.cell (World.block_lt_of_cell? _ _ (hHeld.2.2.2.2.2.2.2.2.2.2.2.2.2.2.2.2.2.2.2.1))).trans (hHeld.2.2.2.2.2.2.2.2.2.2.2.2.2.2.2.2.2.2.2.1)
            have HS20_ := (hb.cell (World.block_lt_of_cell? _ _ (hHeld.2.2.2.2.2.2.2.2.2.2.2.2.2.2.2.2.2.2.2.2))).trans (hHeld.2.2.2.2.2.2.2.2.2.2.2.2.2.2.2.2.2.2.2.2)
            refine ⟨_, rfl, ?_⟩
            replace HO_8 := kR HO_8 hb
            replace HO465 := kR HO465 hb
            replace HB := Aside0.mk (below_step (kwW HB) hb)
            (try clear hb)
            (try clear hb2)
            (try clear hk)
            (try clear hi)
            refine hK.out _ _ ⟨HS0_, HS1_, HS2_, HS3_, HS4_, HS5_, HS6_, HS7_, HS8_, HS9_, HS10_, HS11_, HS12_, HS13_, HS14_, HS15_, HS16_, HS17_, HS18_, HS19_, HS20_⟩ (fun hHeld => ?_)
            clear hK K
            refine norm_ (a' := ?_) ?_ ?_
            rotate_left
            ·
             show Act.put _ (some 119) _ = _
             simp only [Act.put, sT_, sO_, sN_, i64_w, i32_w]
             rfl
            refine pure_ (i := 29) (N := some 120) (v := ?_) (a' := ?_) (tf_ 30 1) rfl rfl (any_of HT_.out (by kernel_rfl)) (fun _ _ _ h => h) (Or.inl ⟨by rfl, ?_⟩) ?_ ?_
            rotate_left; · (intro w'; go_simp; with_reducible rfl)
            rotate_left; · (simp only [Act.put, sT_, sO_, sN_, i64_w, i32_w]; rfl)
            refine pure_ (i := 30) (N := some 6) (v := ?_) (a' := ?_) (tf_ 31 0) rfl rfl (any_of HT_.out (by kernel_rfl)) (fun _ _ _ h => h) (Or.inl ⟨by rfl, ?_⟩) ?_ ?_
            rotate_left; · (intro w'; go_simp; with_reducible rfl)
            rotate_left; · (simp only [Act.put, sT_, sO_, sN_, i64_w, i32_w]; rfl)
            refine done_ (done_of HT_.out (by kernel_rfl)) ?_
            try go_wp2
            go_ret
            exact ⟨by first | rfl | (simp <;> rfl) | (simp [*] <;> rfl), kwW HB⟩
end Go.Proofs.YtfaogccfiklinaaDoor.Q
