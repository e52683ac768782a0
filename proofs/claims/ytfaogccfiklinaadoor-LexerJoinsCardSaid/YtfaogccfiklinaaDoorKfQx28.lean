/- Lemmas for this claim's walk: no condition of their own. -/
import Derived.Test.YtfaogccfiklinaaDoorKfSq
import Derived.Test.YtfaogccfiklinaaDoorKfQx0
import Derived.Test.YtfaogccfiklinaaDoorKfQx7
import Derived.Test.YtfaogccfiklinaaDoorKfQx13
import Derived.Test.YtfaogccfiklinaaDoorKfJ14
import Derived.Test.YtfaogccfiklinaaDoorKfQx26
import Derived.Test.YtfaogccfiklinaaDoorKfQx27
namespace Go.Proofs.YtfaogccfiklinaaDoor.Q
open Go.RowKit Go.Proofs.YtfaogccfiklinaaDoorW.PrintWords Go.Proofs.YtfaogccfiklinaaDoorW.PrintLast Go.Proofs.YtfaogccfiklinaaDoorW.PrintMore
attribute [local go_sem] max2_int min2_int max_two min_two max_three min_three max_four min_four
set_option linter.unusedVariables false
set_option linter.unusedSimpArgs false
def skerrylaw18_lives.f (k : Nat)  : Option (Bool) := (lexer_Lex.f k (⟨#[114, 62, 61, 45, 53]⟩ : ByteArray)).bind fun bt349 => ((lexer_Lex.f k (⟨#[97, 32, 63, 32, 98]⟩ : ByteArray)).bind fun bt354 => (if bt349.2.2 = 0 then (if (bt349.1.length : Int) = 4 then (if 0 < (bt349.1.length : Int) then (if ((rd_T25 bt349.1 0).f0) = 3 then (if 1 < (bt349.1.length : Int) then (if ((rd_T25 bt349.1 1).f3) = 1 then (if ((rd_T25 bt349.1 1).f1).toList = ([62, 61] : List UInt8) then (if 2 < (bt349.1.length : Int) then (if ((rd_T25 bt349.1 2).f2.f1) = (-5) then (if 3 < (bt349.1.length : Int) then (if ((rd_T25 bt349.1 3).f3) = 5 then (if bt354.2.1 = 2 then (if bt354.2.2 = 11 then ((lexer_Word.f (⟨#[83, 101, 108, 101, 99, 116]⟩ : ByteArray)).bind fun t364 => (if t364 = true then ((lexer_Quote.f k (⟨#[105, 116, 39, 115, 32, 53, 37]⟩ : ByteArray)).bind fun t365 => (some (t365.toList == ([39, 105, 116, 37, 50, 55, 115, 32, 53, 37, 50, 53, 39] : List UInt8)))) else (none))) else (none)) else (none)) else (none)) else (none)) else (none)) else (none)) else (none)) else (none)) else (none)) else (none)) else (none)) else (none)) else (none)))
theorem skerrylaw18_lives.mono : ∀ k, LeO (skerrylaw18_lives.f k ) (skerrylaw18_lives.f (k + 1) ) := by
 intro  k
 unfold skerrylaw18_lives.f
 repeat' first
   | (with_reducible exact lexer_Lex.mono _ _)
   | (with_reducible exact lexer_Quote.mono _ _)
   | (with_reducible exact LeO.refl _)
   | (with_reducible exact LeO.none _)
   | (with_reducible refine LeO.ite ?_ ?_)
   | (with_reducible refine LeO.bind ?_ (fun _ => ?_))
   | exact lexer_Lex.mono _ _
   | exact lexer_Quote.mono _ _
   | exact LeO.none _
   | refine LeO.ite ?_ ?_
   | refine LeO.bind ?_ (fun _ => ?_)
set_option maxHeartbeats 8000000 in
set_option maxRecDepth 100000 in
theorem skerrylaw18_lives.calls (k : Nat)  (r : Bool) (w : World) (h : skerrylaw18_lives.f k  = some r) :
  Calls Tryd.prog 12 #[] w fun e w' => e = .returned (.bool r) ∧ Below w.heap.size w w' := by
 have HB := Aside0.mk (Below.refl w.heap.size w)
 have H : ((lexer_Lex.f k (⟨#[114, 62, 61, 45, 53]⟩ : ByteArray)).bind fun bt349 => ((lexer_Lex.f k (⟨#[97, 32, 63, 32, 98]⟩ : ByteArray)).bind fun bt354 => (if bt349.2.2 = 0 then (if (bt349.1.length : Int) = 4 then (if 0 < (bt349.1.length : Int) then (if ((rd_T25 bt349.1 0).f0) = 3 then (if 1 < (bt349.1.length : Int) then (if ((rd_T25 bt349.1 1).f3) = 1 then (if ((rd_T25 bt349.1 1).f1).toList = ([62, 61] : List UInt8) then (if 2 < (bt349.1.length : Int) then (if ((rd_T25 bt349.1 2).f2.f1) = (-5) then (if 3 < (bt349.1.length : Int) then (if ((rd_T25 bt349.1 3).f3) = 5 then (if bt354.2.1 = 2 then (if bt354.2.2 = 11 then ((lexer_Word.f (⟨#[83, 101, 108, 101, 99, 116]⟩ : ByteArray)).bind fun t364 => (if t364 = true then ((lexer_Quote.f k (⟨#[105, 116, 39, 115, 32, 53, 37]⟩ : ByteArray)).bind fun t365 => (some (t365.toList == ([39, 105, 116, 37, 50, 55, 115, 32, 53, 37, 50, 53, 39] : List UInt8)))) else (none))) else (none)) else (none)) else (none)) else (none)) else (none)) else (none)) else (none)) else (none)) else (none)) else (none)) else (none)) else (none)) else (none)))) = some r := h
 clear h
 replace H := Option.bind_eq_some_iff.mp H
 obtain ⟨⟨t349, t350, t351⟩, A10, H⟩ := H
 have A1 := Aside0.mk A10
 clear A10
 replace H := Option.bind_eq_some_iff.mp H
 obtain ⟨⟨t354, t355, t356⟩, A20, H⟩ := H
 have A2 := Aside0.mk A20
 clear A20
 by_cases c3 : t351 = 0
 rotate_left
 ·
  rw [if_neg c3] at H
  exact absurd H (by simp)
 rw [if_pos c3] at H
 have c3b0 : (t351 == 0) = true := beq_iff_eq.mpr c3
 have c3b1 : (t351 != 0) = false := bne_eq_false_iff_eq.mpr c3
 clear c3
 by_cases c4 : (t349.length : Int) = 4
 rotate_left
 ·
  rw [if_neg c4] at H
  exact absurd H (by simp)
 rw [if_pos c4] at H
 have c4b0 : ((t349.length : Int) == 4) = true := beq_iff_eq.mpr c4
 have c4b1 : ((t349.length : Int) != 4) = false := bne_eq_false_iff_eq.mpr c4
 clear c4
 by_cases c5 : 0 < (t349.length : Int)
 rotate_left
 ·
  rw [if_neg c5] at H
  exact absurd H (by simp)
 rw [if_pos c5] at H
 have c5b0 : decide (0 < (t349.length : Int)) = true := decide_eq_true c5
 have c5b1 : decide (0 < t349.length) = true := decide_eq_true (by omega)
 clear c5
 by_cases c6 : ((rd_T25 t349 0).f0) = 3
 rotate_left
 ·
  rw [if_neg c6] at H
  exact absurd H (by simp)
 rw [if_pos c6] at H
 have c6b0 : (((rd_T25 t349 0).f0) == 3) = true := beq_iff_eq.mpr c6
 have c6b1 : (((rd_T25 t349 0).f0) != 3) = false := bne_eq_false_iff_eq.mpr c6
 clear c6
 by_cases c7 : 1 < (t349.length : Int)
 rotate_left
 ·
  rw [if_neg c7] at H
  exact absurd H (by simp)
 rw [if_pos c7] at H
 have c7b0 : decide (1 < (t349.length : Int)) = true := decide_eq_true c7
 have c7b1 : decide (1 < t349.length) = true := decide_eq_true (by omega)
 clear c7
 by_cases c8 : ((rd_T25 t349 1).f3) = 1
 rotate_left
 ·
  rw [if_neg c8] at H
  exact absurd H (by simp)
 rw [if_pos c8] at H
 have c8b0 : (((rd_T25 t349 1).f3) == 1) = true := beq_iff_eq.mpr c8
 have c8b1 : (((rd_T25 t349 1).f3) != 1) = false := bne_eq_false_iff_eq.mpr c8
 clear c8
 by_cases c9 : ((rd_T25 t349 1).f1).toList = ([62, 61] : List UInt8)
 rotate_left
 ·
  rw [if_neg c9] at H
  exact absurd H (by simp)
 rw [if_pos c9] at H
 have c9b0 : (((rd_T25 t349 1).f1).toList == ([62, 61] : List UInt8)) = true := beq_iff_eq.mpr c9
 have c9b1 : (((rd_T25 t349 1).f1).toList != ([62, 61] : List UInt8)) = false := bne_eq_false_iff_eq.mpr c9
 clear c9
 by_cases c10 : 2 < (t349.length : Int)
 rotate_left
 ·
  rw [if_neg c10] at H
  exact absurd H (by simp)
 rw [if_pos c10] at H
 have c10b0 : decide (2 < (t349.length : Int)) = true := decide_eq_true c10
 have c10b1 : decide (2 < t349.length) = true := decide_eq_true (by omega)
 clear c10
 by_cases c11 : ((rd_T25 t349 2).f2.f1) = (-5)
 rotate_left
 ·
  rw [if_neg c11] at H
  exact absurd H (by simp)
 rw [if_pos c11] at H
 have c11b0 : (((rd_T25 t349 2).f2.f1) == (-5)) = true := beq_iff_eq.mpr c11
 have c11b1 : (((rd_T25 t349 2).f2.f1) != (-5)) = false := bne_eq_false_iff_eq.mpr c11
 clear c11
 by_cases c12 : 3 < (t349.length : Int)
 rotate_left
 ·
  rw [if_neg c12] at H
  exact absurd H (by simp)
 rw [if_pos c12] at H
 have c12b0 : decide (3 < (t349.length : Int)) = true := decide_eq_true c12
 have c12b1 : decide (3 < t349.length) = true := decide_eq_true (by omega)
 clear c12
 by_cases c13 : ((rd_T25 t349 3).f3) = 5
 rotate_left
 ·
  rw [if_neg c13] at H
  exact absurd H (by simp)
 rw [if_pos c13] at H
 have c13b0 : (((rd_T25 t349 3).f3) == 5) = true := beq_iff_eq.mpr c13
 have c13b1 : (((rd_T25 t349 3).f3) != 5) = false := bne_eq_false_iff_eq.mpr c13
 clear c13
 by_cases c14 : t355 = 2
 rotate_left
 ·
  rw [if_neg c14] at H
  exact absurd H (by simp)
 rw [if_pos c14] at H
 have c14b0 : (t355 == 2) = true := beq_iff_eq.mpr c14
 have c14b1 : (t355 != 2) = false := bne_eq_false_iff_eq.mpr c14
 clear c14
 by_cases c15 : t356 = 11
 rotate_left
 ·
  rw [if_neg c15] at H
  exact absurd H (by simp)
 rw [if_pos c15] at H
 have c15b0 : (t356 == 11) = true := beq_iff_eq.mpr c15
 have c15b1 : (t356 != 11) = false := bne_eq_false_iff_eq.mpr c15
 clear c15
 replace H := Option.bind_eq_some_iff.mp H
 obtain ⟨t364, A160, H⟩ := H
 have A16 := Aside0.mk A160
 clear A160
 by_cases c17 : t364 = true
 rotate_left
 ·
  replace c17 := Bool.eq_false_iff.mpr c17
  subst c17
  have H1 : (none) = some r := by rw [if_neg (show ¬ (false = true) by decide)] at H; exact H
  clear H
  have H := H1
  clear H1
  exact absurd H (by simp)
 subst c17
 have H1 : ((lexer_Quote.f k (⟨#[105, 116, 39, 115, 32, 53, 37]⟩ : ByteArray)).bind fun t365 => (some (t365.toList == ([39, 105, 116, 37, 50, 55, 115, 32, 53, 37, 50, 53, 39] : List UInt8)))) = some r := by rw [if_pos rfl] at H; exact H
 clear H
 have H := H1
 clear H1
 replace H := Option.bind_eq_some_iff.mp H
 obtain ⟨t365, A180, H⟩ := H
 have A18 := Aside0.mk A180
 clear A180
 obtain rfl := Option.some.inj H
 go_enter Tryd.func12, Tryd.ntmps12
 go_wp2_with (first | ((with_reducible refine gate_callee (f := 13) rfl ?_); refine goesL_ (some 8) rfl rfl Tryd.func13 (by kernel_rfl) rfl #[.string (⟨#[114, 62, 61, 45, 53]⟩ : ByteArray)] rfl (by (try simp only [mT_, mC_, mN_]); first | done | rfl) ?_; (with_reducible refine (lexer_Lex.calls k (⟨#[114, 62, 61, 45, 53]⟩ : ByteArray) t349 t350 t351 _ A1.out).mono ?_); rintro e w19 ⟨v352, rfl, ho0, hb⟩; refine ⟨_, rfl, ?_⟩; have HO353 := Aside0.mk (Kd.R_lower ho0 (bZ_ (kwW HB))); replace HB := Aside0.mk (below_step (kwW HB) hb); (try clear hb); (try clear hb2); (try clear hk); (try clear hi); (try clear ho0)) | ((with_reducible refine gate_callee (f := 13) rfl ?_); refine goesL_ (some 13) rfl rfl Tryd.func13 (by kernel_rfl) rfl #[.string (⟨#[97, 32, 63, 32, 98]⟩ : ByteArray)] rfl (by (try simp only [mT_, mC_, mN_]); first | done | rfl) ?_; (with_reducible refine (lexer_Lex.calls k (⟨#[97, 32, 63, 32, 98]⟩ : ByteArray) t354 t355 t356 _ A2.out).mono ?_); rintro e w20 ⟨v357, rfl, ho0, hb⟩; refine ⟨_, rfl, ?_⟩; have HO358 := Aside0.mk (Kd.R_lower (Kd.R_new' ho0 (Kd.R_lt (krW HO353))) (bZ_ (kwW HB))); replace HO353 := Aside0.mk (Kd.R_elder' (krW HO353) (Kd.R_base ho0) hb); replace HB := Aside0.mk (below_step (kwW HB) hb); (try clear hb); (try clear hb2); (try clear hk); (try clear hi); (try clear ho0); obtain ⟨Ao21, co21, eo21⟩ := Kd.R_slice HO353.out; subst eo21; have p359 : 0 ≤ (0 : Int) := (by omega); have q359 : 0 < (t349.length : Int) := of_decide_eq_true (by first | (with_reducible assumption) | assumption); obtain ⟨ad359, e359, hx359_0, hx359_1, hx359_2, hx359_3, hx359_4, hx359_5, hx359_6⟩ := at_T25 (Kd.R_reads' HO353.out).2.2 0 p359 q359; cases e359; have qi359 : (0 < t349.length) = True := eq_true (by omega); (try rw [show ((0 : Int)).toNat = 0 from rfl] at hx359_0); (try rw [show 0 * 7 = 0 from rfl] at hx359_0); (try rw [Addr.add_zero'] at hx359_0); (try rw [show ((0 : Int)).toNat = 0 from rfl] at hx359_1); (try rw [show 0 * 7 = 0 from rfl] at hx359_1); (try rw [Addr.add_zero'] at hx359_1); (try rw [show ((0 : Int)).toNat = 0 from rfl] at hx359_2); (try rw [show 0 * 7 = 0 from rfl] at hx359_2); (try rw [Addr.add_zero'] at hx359_2); (try rw [show ((0 : Int)).toNat = 0 from rfl] at hx359_3); (try rw [show 0 * 7 = 0 from rfl] at hx359_3); (try rw [Addr.add_zero'] at hx359_3); (try rw [show ((0 : Int)).toNat = 0 from rfl] at hx359_4); (try rw [show 0 * 7 = 0 from rfl] at hx359_4); (try rw [Addr.add_zero'] at hx359_4); (try rw [show ((0 : Int)).toNat = 0 from rfl] at hx359_5); (try rw [show 0 * 7 = 0 from rfl] at hx359_5); (try rw [Addr.add_zero'] at hx359_5); (try rw [show ((0 : Int)).toNat = 0 from rfl] at hx359_6); (try rw [show 0 * 7 = 0 from rfl] at hx359_6); (try rw [Addr.add_zero'] at hx359_6); replace p359 := eq_true p359; replace q359 := eq_true q359; have p360 : 0 ≤ (1 : Int) := (by omega); have q360 : 1 < (t349.length : Int) := of_decide_eq_true (by first | (with_reducible assumption) | assumption); obtain ⟨ad360, e360, hx360_0, hx360_1, hx360_2, hx360_3, hx360_4, hx360_5, hx360_6⟩ := at_T25 (Kd.R_reads' HO353.out).2.2 1 p360 q360; obtain rfl : ad359 = ad360 := (by injection e360); (try simp only [show (1 : Int).toNat = 1 from rfl, Nat.reduceMul, Nat.reduceEqDiff, Go.Addr.add, ↓reduceIte] at hx360_0); (try simp only [show (1 : Int).toNat = 1 from rfl, Nat.reduceMul, Nat.reduceEqDiff, Go.Addr.add, ↓reduceIte] at hx360_1); (try simp only [show (1 : Int).toNat = 1 from rfl, Nat.reduceMul, Nat.reduceEqDiff, Go.Addr.add, ↓reduceIte] at hx360_2); (try simp only [show (1 : Int).toNat = 1 from rfl, Nat.reduceMul, Nat.reduceEqDiff, Go.Addr.add, ↓reduceIte] at hx360_3); (try simp only [show (1 : Int).toNat = 1 from rfl, Nat.reduceMul, Nat.reduceEqDiff, Go.Addr.add, ↓reduceIte] at hx360_4); (try simp only [show (1 : Int).toNat = 1 from rfl, Nat.reduceMul, Nat.reduceEqDiff, Go.Addr.add, ↓reduceIte] at hx360_5); (try simp only [show (1 : Int).toNat = 1 from rfl, Nat.reduceMul, Nat.reduceEqDiff, Go.Addr.add, ↓reduceIte] at hx360_6); have qi360 : (1 < t349.length) = True := eq_true (by omega); (try rw [show ((1 : Int)).toNat = 1 from rfl] at hx360_0); (try rw [show 1 * 7 = 7 from rfl] at hx360_0); (try rw [show ((1 : Int)).toNat = 1 from rfl] at hx360_1); (try rw [show 1 * 7 = 7 from rfl] at hx360_1); (try rw [show ((1 : Int)).toNat = 1 from rfl] at hx360_2); (try rw [show 1 * 7 = 7 from rfl] at hx360_2); (try rw [show ((1 : Int)).toNat = 1 from rfl] at hx360_3); (try rw [show 1 * 7 = 7 from rfl] at hx360_3); (try rw [show ((1 : Int)).toNat = 1 from rfl] at hx360_4); (try rw [show 1 * 7 = 7 from rfl] at hx360_4); (try rw [show ((1 : Int)).toNat = 1 from rfl] at hx360_5); (try rw [show 1 * 7 = 7 from rfl] at hx360_5); (try rw [show ((1 : Int)).toNat = 1 from rfl] at hx360_6); (try rw [show 1 * 7 = 7 from rfl] at hx360_6); replace p360 := eq_true p360; replace q360 := eq_true q360; have p361 : 0 ≤ (1 : Int) := (by omega); have q361 : 1 < (t349.length : Int) := of_decide_eq_true (by first | (with_reducible assumption) | assumption); obtain ⟨ad361, e361, hx361_0, hx361_1, hx361_2, hx361_3, hx361_4, hx361_5, hx361_6⟩ := at_T25 (Kd.R_reads' HO353.out).2.2 1 p361 q361; obtain rfl : ad359 = ad361 := (by injection e361); (try simp only [show (1 : Int).toNat = 1 from rfl, Nat.reduceMul, Nat.reduceEqDiff, Go.Addr.add, ↓reduceIte] at hx361_0); (try simp only [show (1 : Int).toNat = 1 from rfl, Nat.reduceMul, Nat.reduceEqDiff, Go.Addr.add, ↓reduceIte] at hx361_1); (try simp only [show (1 : Int).toNat = 1 from rfl, Nat.reduceMul, Nat.reduceEqDiff, Go.Addr.add, ↓reduceIte] at hx361_2); (try simp only [show (1 : Int).toNat = 1 from rfl, Nat.reduceMul, Nat.reduceEqDiff, Go.Addr.add, ↓reduceIte] at hx361_3); (try simp only [show (1 : Int).toNat = 1 from rfl, Nat.reduceMul, Nat.reduceEqDiff, Go.Addr.add, ↓reduceIte] at hx361_4); (try simp only [show (1 : Int).toNat = 1 from rfl, Nat.reduceMul, Nat.reduceEqDiff, Go.Addr.add, ↓reduceIte] at hx361_5); (try simp only [show (1 : Int).toNat = 1 from rfl, Nat.reduceMul, Nat.reduceEqDiff, Go.Addr.add, ↓reduceIte] at hx361_6); have qi361 : (1 < t349.length) = True := eq_true (by omega); (try rw [show ((1 : Int)).toNat = 1 from rfl] at hx361_0); (try rw [show 1 * 7 = 7 from rfl] at hx361_0); (try rw [show ((1 : Int)).toNat = 1 from rfl] at hx361_1); (try rw [show 1 * 7 = 7 from rfl] at hx361_1); (try rw [show ((1 : Int)).toNat = 1 from rfl] at hx361_2); (try rw [show 1 * 7 = 7 from rfl] at hx361_2); (try rw [show ((1 : Int)).toNat = 1 from rfl] at hx361_3); (try rw [show 1 * 7 = 7 from rfl] at hx361_3); (try rw [show ((1 : Int)).toNat = 1 from rfl] at hx361_4); (try rw [show 1 * 7 = 7 from rfl] at hx361_4); (try rw [show ((1 : Int)).toNat = 1 from rfl] at hx361_5); (try rw [show 1 * 7 = 7 from rfl] at hx361_5); (try rw [show ((1 : Int)).toNat = 1 from rfl] at hx361_6); (try rw [show 1 * 7 = 7 from rfl] at hx361_6); replace p361 := eq_true p361; replace q361 := eq_true q361; have p362 : 0 ≤ (2 : Int) := (by omega); have q362 : 2 < (t349.length : Int) := of_decide_eq_true (by first | (with_reducible assumption) | assumption); obtain ⟨ad362, e362, hx362_0, hx362_1, hx362_2, hx362_3, hx362_4, hx362_5, hx362_6⟩ := at_T25 (Kd.R_reads' HO353.out).2.2 2 p362 q362; obtain rfl : ad359 = ad362 := (by injection e362); (try simp only [show (2 : Int).toNat = 2 from rfl, Nat.reduceMul, Nat.reduceEqDiff, Go.Addr.add, ↓reduceIte] at hx362_0); (try simp only [show (2 : Int).toNat = 2 from rfl, Nat.reduceMul, Nat.reduceEqDiff, Go.Addr.add, ↓reduceIte] at hx362_1); (try simp only [show (2 : Int).toNat = 2 from rfl, Nat.reduceMul, Nat.reduceEqDiff, Go.Addr.add, ↓reduceIte] at hx362_2); (try simp only [show (2 : Int).toNat = 2 from rfl, Nat.reduceMul, Nat.reduceEqDiff, Go.Addr.add, ↓reduceIte] at hx362_3); (try simp only [show (2 : Int).toNat = 2 from rfl, Nat.reduceMul, Nat.reduceEqDiff, Go.Addr.add, ↓reduceIte] at hx362_4); (try simp only [show (2 : Int).toNat = 2 from rfl, Nat.reduceMul, Nat.reduceEqDiff, Go.Addr.add, ↓reduceIte] at hx362_5); (try simp only [show (2 : Int).toNat = 2 from rfl, Nat.reduceMul, Nat.reduceEqDiff, Go.Addr.add, ↓reduceIte] at hx362_6); have qi362 : (2 < t349.length) = True := eq_true (by omega); (try rw [show ((2 : Int)).toNat = 2 from rfl] at hx362_0); (try rw [show 2 * 7 = 14 from rfl] at hx362_0); (try rw [show ((2 : Int)).toNat = 2 from rfl] at hx362_1); (try rw [show 2 * 7 = 14 from rfl] at hx362_1); (try rw [show ((2 : Int)).toNat = 2 from rfl] at hx362_2); (try rw [show 2 * 7 = 14 from rfl] at hx362_2); (try rw [show ((2 : Int)).toNat = 2 from rfl] at hx362_3); (try rw [show 2 * 7 = 14 from rfl] at hx362_3); (try rw [show ((2 : Int)).toNat = 2 from rfl] at hx362_4); (try rw [show 2 * 7 = 14 from rfl] at hx362_4); (try rw [show ((2 : Int)).toNat = 2 from rfl] at hx362_5); (try rw [show 2 * 7 = 14 from rfl] at hx362_5); (try rw [show ((2 : Int)).toNat = 2 from rfl] at hx362_6); (try rw [show 2 * 7 = 14 from rfl] at hx362_6); replace p362 := eq_true p362; replace q362 := eq_true q362; have p363 : 0 ≤ (3 : Int) := (by omega); have q363 : 3 < (t349.length : Int) := of_decide_eq_true (by first | (with_reducible assumption) | assumption); obtain ⟨ad363, e363, hx363_0, hx363_1, hx363_2, hx363_3, hx363_4, hx363_5, hx363_6⟩ := at_T25 (Kd.R_reads' HO353.out).2.2 3 p363 q363; obtain rfl : ad359 = ad363 := (by injection e363); (try simp only [show (3 : Int).toNat = 3 from rfl, Nat.reduceMul, Nat.reduceEqDiff, Go.Addr.add, ↓reduceIte] at hx363_0); (try simp only [show (3 : Int).toNat = 3 from rfl, Nat.reduceMul, Nat.reduceEqDiff, Go.Addr.add, ↓reduceIte] at hx363_1); (try simp only [show (3 : Int).toNat = 3 from rfl, Nat.reduceMul, Nat.reduceEqDiff, Go.Addr.add, ↓reduceIte] at hx363_2); (try simp only [show (3 : Int).toNat = 3 from rfl, Nat.reduceMul, Nat.reduceEqDiff, Go.Addr.add, ↓reduceIte] at hx363_3); (try simp only [show (3 : Int).toNat = 3 from rfl, Nat.reduceMul, Nat.reduceEqDiff, Go.Addr.add, ↓reduceIte] at hx363_4); (try simp only [show (3 : Int).toNat = 3 from rfl, Nat.reduceMul, Nat.reduceEqDiff, Go.Addr.add, ↓reduceIte] at hx363_5); (try simp only [show (3 : Int).toNat = 3 from rfl, Nat.reduceMul, Nat.reduceEqDiff, Go.Addr.add, ↓reduceIte] at hx363_6); have qi363 : (3 < t349.length) = True := eq_true (by omega); (try rw [show ((3 : Int)).toNat = 3 from rfl] at hx363_0); (try rw [show 3 * 7 = 21 from rfl] at hx363_0); (try rw [show ((3 : Int)).toNat = 3 from rfl] at hx363_1); (try rw [show 3 * 7 = 21 from rfl] at hx363_1); (try rw [show ((3 : Int)).toNat = 3 from rfl] at hx363_2); (try rw [show 3 * 7 = 21 from rfl] at hx363_2); (try rw [show ((3 : Int)).toNat = 3 from rfl] at hx363_3); (try rw [show 3 * 7 = 21 from rfl] at hx363_3); (try rw [show ((3 : Int)).toNat = 3 from rfl] at hx363_4); (try rw [show 3 * 7 = 21 from rfl] at hx363_4); (try rw [show ((3 : Int)).toNat = 3 from rfl] at hx363_5); (try rw [show 3 * 7 = 21 from rfl] at hx363_5); (try rw [show ((3 : Int)).toNat = 3 from rfl] at hx363_6); (try rw [show 3 * 7 = 21 from rfl] at hx363_6); replace p363 := eq_true p363; replace q363 := eq_true q363) | (go_at_call 23; (with_reducible refine (lexer_Word.calls (⟨#[83, 101, 108, 101, 99, 116]⟩ : ByteArray) true _ A16.out).mono ?_); rintro e w22 ⟨rfl, hb⟩; replace HO353 := kR HO353 hb; replace HO358 := kR HO358 hb; replace HB := Aside0.mk (below_step (kwW HB) hb); (try clear hb); (try clear hb2); (try clear hk); (try clear hi)) | (go_at_call 16; (with_reducible refine (lexer_Quote.calls k (⟨#[105, 116, 39, 115, 32, 53, 37]⟩ : ByteArray) t365 _ A18.out).mono ?_); rintro e w23 ⟨rfl, hb⟩; replace HO353 := kR HO353 hb; replace HO358 := kR HO358 hb; replace HB := Aside0.mk (below_step (kwW HB) hb); (try clear hb); (try clear hb2); (try clear hk); (try clear hi)))
 go_ret
 exact ⟨by first | rfl | (simp <;> rfl) | (simp [*] <;> rfl), kwW HB⟩
end Go.Proofs.YtfaogccfiklinaaDoor.Q
