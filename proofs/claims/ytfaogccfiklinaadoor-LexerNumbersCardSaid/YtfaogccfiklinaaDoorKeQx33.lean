/- Lemmas for this claim's walk: no condition of their own. -/
import Derived.Test.YtfaogccfiklinaaDoorKeSq
import Derived.Test.YtfaogccfiklinaaDoorKeQx0
namespace Go.Proofs.YtfaogccfiklinaaDoor.Q
open Go.RowKit Go.Proofs.YtfaogccfiklinaaDoorW.PrintWords Go.Proofs.YtfaogccfiklinaaDoorW.PrintLast Go.Proofs.YtfaogccfiklinaaDoorW.PrintMore
attribute [local go_sem] max2_int min2_int max_two min_two max_three min_three max_four min_four
set_option linter.unusedVariables false
set_option linter.unusedSimpArgs false
def skerryref04_Digits.l0 : Nat → Int → ByteArray → Bool → Option (ByteArray)
 | 0, _, _, _ => none
 | k + 1, x0, x3, x4 => if (Int.tmod x0 10) < 0 then ((some (([(wrap64 (48 + (wrap64 (-(Int.tmod x0 10))))) % 256] : List Int) : List Int)).bind fun y447 => (if (strOfNums y447).size + x3.size ≤ 9223372036854775807 then (if (wrap64 (Int.tdiv x0 10)) = 0 then (if x4 = true then (if 1 + ((strOfNums y447) ++ x3).size ≤ 9223372036854775807 then (some ((⟨#[45]⟩ : ByteArray) ++ ((strOfNums y447) ++ x3))) else (none)) else (some ((strOfNums y447) ++ x3))) else (skerryref04_Digits.l0 k (wrap64 (Int.tdiv x0 10)) ((strOfNums y447) ++ x3) x4)) else (none))) else ((some (([(wrap64 (48 + (Int.tmod x0 10))) % 256] : List Int) : List Int)).bind fun y450 => (if (strOfNums y450).size + x3.size ≤ 9223372036854775807 then (if (wrap64 (Int.tdiv x0 10)) = 0 then (if x4 = true then (if 1 + ((strOfNums y450) ++ x3).size ≤ 9223372036854775807 then (some ((⟨#[45]⟩ : ByteArray) ++ ((strOfNums y450) ++ x3))) else (none)) else (some ((strOfNums y450) ++ x3))) else (skerryref04_Digits.l0 k (wrap64 (Int.tdiv x0 10)) ((strOfNums y450) ++ x3) x4)) else (none)))
def skerryref04_Digits.f (k : Nat) (a0 : Int) : Option (ByteArray) := skerryref04_Digits.l0 k a0 (⟨#[]⟩ : ByteArray) (decide (a0 < 0))
set_option maxHeartbeats 8000000 in
set_option maxRecDepth 100000 in
theorem skerryref04_Digits.calls (k : Nat) (a0 : Int) (r : ByteArray) (w : World) (h : skerryref04_Digits.f k a0 = some r) :
  Calls Tryd.prog 15 #[.int .i64 a0] w fun e w' => e = .returned (.string r) ∧ Below w.heap.size w w' := by
 have HB := Aside0.mk (Below.refl w.heap.size w)
 have H : (skerryref04_Digits.l0 k a0 (⟨#[]⟩ : ByteArray) (decide (a0 < 0))) = some r := h
 clear h
 have H' := Aside0.mk H
 clear H
 go_enter Tryd.func15, Tryd.ntmps15
 go_wp2
 go_loopg [0, 3] k (fun kq v0 v3 w' => ∃ (x0_1 : Int) (x3_1 : ByteArray), v0 = .int .i64 x0_1 ∧ v3 = .string x3_1 ∧ Aside0 (skerryref04_Digits.l0 kq x0_1 x3_1 (decide (a0 < 0)) = some r) ∧ Aside0 (kq ≤ k) ∧ Aside0 (Below w.heap.size w w'))
 case atStart => exact ⟨(a0), ((⟨#[]⟩ : ByteArray)), (by first | rfl | (simp; done) | (simp [bne, *]; done)), (by first | rfl | (simp; done) | (simp [bne, *]; done)), H', ⟨Nat.le_refl _⟩, ⟨kwW HB⟩⟩
 case round =>
  clear H'
  try clear c1
  obtain ⟨x0_1, x3_1, rfl, rfl, HA, HK1, HB⟩ := hrel
  cases gk with
  | zero => exact absurd HA.out (by simp [skerryref04_Digits.l0])
  | succ k1 =>
   have H := HA.out
   clear HA
   simp only [skerryref04_Digits.l0] at H
   by_cases c2 : (Int.tmod x0_1 10) < 0
   ·
    rw [if_pos c2] at H
    have c2b0 : decide ((Int.tmod x0_1 10) < 0) = true := decide_eq_true c2
    clear c2
    obtain ⟨y447, hy447⟩ : ∃ y_ : List Int, y_ = (([(wrap64 (48 + (wrap64 (-(Int.tmod x0_1 10))))) % 256] : List Int)) := ⟨_, rfl⟩
    replace H : (if (strOfNums y447).size + x3_1.size ≤ 9223372036854775807 then (if (wrap64 (Int.tdiv x0_1 10)) = 0 then (if (decide (a0 < 0)) = true then (if 1 + ((strOfNums y447) ++ x3_1).size ≤ 9223372036854775807 then (some ((⟨#[45]⟩ : ByteArray) ++ ((strOfNums y447) ++ x3_1))) else (none)) else (some ((strOfNums y447) ++ x3_1))) else (skerryref04_Digits.l0 k1 (wrap64 (Int.tdiv x0_1 10)) ((strOfNums y447) ++ x3_1) (decide (a0 < 0)))) else (none)) = some r := by first | (rw [hy447]; with_reducible exact H) | (have H2_ := (Option.bind_some _ _).symm.trans H; rw [hy447]; with_reducible exact H2_) | (have H2_ := (Option.bind_some _ _).symm.trans H; with_reducible exact H2_) | with_reducible exact H | (rw [hy447]; exact H) | exact H
    have Ny447 := Aside0.mk hy447
    clear hy447
    by_cases c3 : (strOfNums y447).size + x3_1.size ≤ 9223372036854775807
    rotate_left
    ·
     rw [if_neg c3] at H
     exact absurd H (by simp)
    rw [if_pos c3] at H
    have c3b0 := eq_true c3
    have c3b1 : decide ((strOfNums y447).size + x3_1.size ≤ 9223372036854775807) = true := decide_eq_true c3
    try have c3b2 : (9223372036854775807 < (strOfNums y447).size + x3_1.size) = False := eq_false (Nat.not_lt.2 c3)
    by_cases c4 : (wrap64 (Int.tdiv x0_1 10)) = 0
    rotate_left
    ·
     rw [if_neg c4] at H
     have c4b0 : ((wrap64 (Int.tdiv x0_1 10)) == 0) = false := beq_eq_false_iff_ne.mpr c4
     have c4b1 : ((wrap64 (Int.tdiv x0_1 10)) != 0) = true := bne_iff_ne.mpr c4
     have H' := Aside0.mk H
     clear H
     go_wp2_with (first | ((with_reducible refine gate_dst (N := 17) rfl ?_); refine Kd.R_lit (Kd.int .u8) _ 5 ?hg (N := 17) ?hd (xs := ([(wrap64 (48 + (wrap64 (-(Int.tmod x0_1 10))))) % 256] : List Int)) (inner := [.int .u8 ((wrap64 (48 + (wrap64 (-(Int.tmod x0_1 10))))) % 256)]) (ok := fun _ => True) (okp := fun _ => True) ?hr ?hp (fun _ hk => hk) trivial (Below.refl _ _) (Nat.le_refl _) (by simp) ?_; (case hd => rfl); (case hg => rfl); (case hr => first | (go_simp; done) | (go_simp; rfl)); (case hp => exact (Reps.one (show Kd.M (Kd.int .u8) _ _ _ ((wrap64 (48 + (wrap64 (-(Int.tmod x0_1 10))))) % 256) [.int .u8 ((wrap64 (48 + (wrap64 (-(Int.tmod x0_1 10))))) % 256)] from rfl) (Reps.none _ _))); intro v448 w13 ho14 hb hg_ hnew_; clear hg_ hnew_; (first | rw [← Ny447.out] at ho14 | (simp only [Int.reduceToNat] at ho14; rw [← Ny447.out] at ho14)); have HO449 := Aside0.mk (Kd.R_lower ho14 (bZ_ (kwW HB))); replace HB := Aside0.mk (below_step (kwW HB) hb); clear hb ho14; have hcv15 := own_string (P := Tryd.prog) Tryd.underlying58 Tryd.underlying5 Tryd.underlying9 (Kd.own_of_R HO449.out)))
     go_roundg k1
     case measure => have := HK1.out; omega
     case rel => exact ⟨(wrap64 (Int.tdiv x0_1 10)), ((strOfNums y447) ++ x3_1), (by first | rfl | (simp; done) | (simp [bne, *]; done)), (by first | rfl | (simp; done) | (simp [bne, *]; done)), H', ⟨by have := HK1.out; omega⟩, ⟨kwW HB⟩⟩
    rw [if_pos c4] at H
    have c4b0 : ((wrap64 (Int.tdiv x0_1 10)) == 0) = true := beq_iff_eq.mpr c4
    have c4b1 : ((wrap64 (Int.tdiv x0_1 10)) != 0) = false := bne_eq_false_iff_eq.mpr c4
    clear c4
    by_cases c5 : (decide (a0 < 0)) = true
    rotate_left
    ·
     rw [if_neg c5] at H
     have c5b0 : (decide (a0 < 0)) = false := by simpa using c5
     clear c5
     obtain rfl := Option.some.inj H
     go_wp2_with (first | ((with_reducible refine gate_dst (N := 17) rfl ?_); refine Kd.R_lit (Kd.int .u8) _ 5 ?hg (N := 17) ?hd (xs := ([(wrap64 (48 + (wrap64 (-(Int.tmod x0_1 10))))) % 256] : List Int)) (inner := [.int .u8 ((wrap64 (48 + (wrap64 (-(Int.tmod x0_1 10))))) % 256)]) (ok := fun _ => True) (okp := fun _ => True) ?hr ?hp (fun _ hk => hk) trivial (Below.refl _ _) (Nat.le_refl _) (by simp) ?_; (case hd => rfl); (case hg => rfl); (case hr => first | (go_simp; done) | (go_simp; rfl)); (case hp => exact (Reps.one (show Kd.M (Kd.int .u8) _ _ _ ((wrap64 (48 + (wrap64 (-(Int.tmod x0_1 10))))) % 256) [.int .u8 ((wrap64 (48 + (wrap64 (-(Int.tmod x0_1 10))))) % 256)] from rfl) (Reps.none _ _))); intro v448 w10 ho11 hb hg_ hnew_; clear hg_ hnew_; (first | rw [← Ny447.out] at ho11 | (simp only [Int.reduceToNat] at ho11; rw [← Ny447.out] at ho11)); have HO449 := Aside0.mk (Kd.R_lower ho11 (bZ_ (kwW HB))); replace HB := Aside0.mk (below_step (kwW HB) hb); clear hb ho11; have hcv12 := own_string (P := Tryd.prog) Tryd.underlying58 Tryd.underlying5 Tryd.underlying9 (Kd.own_of_R HO449.out)))
     go_ret
     exact ⟨by first | rfl | (simp <;> rfl) | (simp [*] <;> rfl), kwW HB⟩
    rw [if_pos c5] at H
    have c5b0 : (decide (a0 < 0)) = true := c5
    clear c5
    by_cases c6 : 1 + ((strOfNums y447) ++ x3_1).size ≤ 9223372036854775807
    rotate_left
    ·
     rw [if_neg c6] at H
     exact absurd H (by simp)
    rw [if_pos c6] at H
    have c6b0 := eq_true c6
    have c6b1 : decide (1 + ((strOfNums y447) ++ x3_1).size ≤ 9223372036854775807) = true := decide_eq_true c6
    try have c6b2 : (9223372036854775807 < 1 + ((strOfNums y447) ++ x3_1).size) = False := eq_false (Nat.not_lt.2 c6)
    (try (have c6b0z := c6b0; simp only [ByteArray.size_append] at c6b0z))
    (try (have c6b1z := c6b1; simp only [ByteArray.size_append] at c6b1z))
    (try (have c6b2z := c6b2; simp only [ByteArray.size_append] at c6b2z))
    obtain rfl := Option.some.inj H
    go_wp2_with (first | ((with_reducible refine gate_dst (N := 17) rfl ?_); refine Kd.R_lit (Kd.int .u8) _ 5 ?hg (N := 17) ?hd (xs := ([(wrap64 (48 + (wrap64 (-(Int.tmod x0_1 10))))) % 256] : List Int)) (inner := [.int .u8 ((wrap64 (48 + (wrap64 (-(Int.tmod x0_1 10))))) % 256)]) (ok := fun _ => True) (okp := fun _ => True) ?hr ?hp (fun _ hk => hk) trivial (Below.refl _ _) (Nat.le_refl _) (by simp) ?_; (case hd => rfl); (case hg => rfl); (case hr => first | (go_simp; done) | (go_simp; rfl)); (case hp => exact (Reps.one (show Kd.M (Kd.int .u8) _ _ _ ((wrap64 (48 + (wrap64 (-(Int.tmod x0_1 10))))) % 256) [.int .u8 ((wrap64 (48 + (wrap64 (-(Int.tmod x0_1 10))))) % 256)] from rfl) (Reps.none _ _))); intro v448 w7 ho8 hb hg_ hnew_; clear hg_ hnew_; (first | rw [← Ny447.out] at ho8 | (simp only [Int.reduceToNat] at ho8; rw [← Ny447.out] at ho8)); have HO449 := Aside0.mk (Kd.R_lower ho8 (bZ_ (kwW HB))); replace HB := Aside0.mk (below_step (kwW HB) hb); clear hb ho8; have hcv9 := own_string (P := Tryd.prog) Tryd.underlying58 Tryd.underlying5 Tryd.underlying9 (Kd.own_of_R HO449.out)))
    go_ret
    exact ⟨by first | rfl | (simp <;> rfl) | (simp [*] <;> rfl), kwW HB⟩
   ·
    rw [if_neg c2] at H
    have c2b0 : decide ((Int.tmod x0_1 10) < 0) = false := decide_eq_false c2
    clear c2
    obtain ⟨y450, hy450⟩ : ∃ y_ : List Int, y_ = (([(wrap64 (48 + (Int.tmod x0_1 10))) % 256] : List Int)) := ⟨_, rfl⟩
    replace H : (if (strOfNums y450).size + x3_1.size ≤ 9223372036854775807 then (if (wrap64 (Int.tdiv x0_1 10)) = 0 then (if (decide (a0 < 0)) = true then (if 1 + ((strOfNums y450) ++ x3_1).size ≤ 9223372036854775807 then (some ((⟨#[45]⟩ : ByteArray) ++ ((strOfNums y450) ++ x3_1))) else (none)) else (some ((strOfNums y450) ++ x3_1))) else (skerryref04_Digits.l0 k1 (wrap64 (Int.tdiv x0_1 10)) ((strOfNums y450) ++ x3_1) (decide (a0 < 0)))) else (none)) = some r := by first | (rw [hy450]; with_reducible exact H) | (have H2_ := (Option.bind_some _ _).symm.trans H; rw [hy450]; with_reducible exact H2_) | (have H2_ := (Option.bind_some _ _).symm.trans H; with_reducible exact H2_) | with_reducible exact H | (rw [hy450]; exact H) | exact H
    have Ny450 := Aside0.mk hy450
    clear hy450
    by_cases c16 : (strOfNums y450).size + x3_1.size ≤ 9223372036854775807
    rotate_left
    ·
     rw [if_neg c16] at H
     exact absurd H (by simp)
    rw [if_pos c16] at H
    have c16b0 := eq_true c16
    have c16b1 : decide ((strOfNums y450).size + x3_1.size ≤ 9223372036854775807) = true := decide_eq_true c16
    try have c16b2 : (9223372036854775807 < (strOfNums y450).size + x3_1.size) = False := eq_false (Nat.not_lt.2 c16)
    by_cases c17 : (wrap64 (Int.tdiv x0_1 10)) = 0
    rotate_left
    ·
     rw [if_neg c17] at H
     have c17b0 : ((wrap64 (Int.tdiv x0_1 10)) == 0) = false := beq_eq_false_iff_ne.mpr c17
     have c17b1 : ((wrap64 (Int.tdiv x0_1 10)) != 0) = true := bne_iff_ne.mpr c17
     have H' := Aside0.mk H
     clear H
     go_wp2_with (first | ((with_reducible refine gate_dst (N := 17) rfl ?_); refine Kd.R_lit (Kd.int .u8) _ 5 ?hg (N := 17) ?hd (xs := ([(wrap64 (48 + (Int.tmod x0_1 10))) % 256] : List Int)) (inner := [.int .u8 ((wrap64 (48 + (Int.tmod x0_1 10))) % 256)]) (ok := fun _ => True) (okp := fun _ => True) ?hr ?hp (fun _ hk => hk) trivial (Below.refl _ _) (Nat.le_refl _) (by simp) ?_; (case hd => rfl); (case hg => rfl); (case hr => first | (go_simp; done) | (go_simp; rfl)); (case hp => exact (Reps.one (show Kd.M (Kd.int .u8) _ _ _ ((wrap64 (48 + (Int.tmod x0_1 10))) % 256) [.int .u8 ((wrap64 (48 + (Int.tmod x0_1 10))) % 256)] from rfl) (Reps.none _ _))); intro v451 w26 ho27 hb hg_ hnew_; clear hg_ hnew_; (first | rw [← Ny450.out] at ho27 | (simp only [Int.reduceToNat] at ho27; rw [← Ny450.out] at ho27)); have HO452 := Aside0.mk (Kd.R_lower ho27 (bZ_ (kwW HB))); replace HB := Aside0.mk (below_step (kwW HB) hb); clear hb ho27; have hcv28 := own_string (P := Tryd.prog) Tryd.underlying58 Tryd.underlying5 Tryd.underlying9 (Kd.own_of_R HO452.out)))
     go_roundg k1
     case measure => have := HK1.out; omega
     case rel => exact ⟨(wrap64 (Int.tdiv x0_1 10)), ((strOfNums y450) ++ x3_1), (by first | rfl | (simp; done) | (simp [bne, *]; done)), (by first | rfl | (simp; done) | (simp [bne, *]; done)), H', ⟨by have := HK1.out; omega⟩, ⟨kwW HB⟩⟩
    rw [if_pos c17] at H
    have c17b0 : ((wrap64 (Int.tdiv x0_1 10)) == 0) = true := beq_iff_eq.mpr c17
    have c17b1 : ((wrap64 (Int.tdiv x0_1 10)) != 0) = false := bne_eq_false_iff_eq.mpr c17
    clear c17
    by_cases c18 : (decide (a0 < 0)) = true
    rotate_left
    ·
     rw [if_neg c18] at H
     have c18b0 : (decide (a0 < 0)) = false := by simpa using c18
     clear c18
     obtain rfl := Option.some.inj H
     go_wp2_with (first | ((with_reducible refine gate_dst (N := 17) rfl ?_); refine Kd.R_lit (Kd.int .u8) _ 5 ?hg (N := 17) ?hd (xs := ([(wrap64 (48 + (Int.tmod x0_1 10))) % 256] : List Int)) (inner := [.int .u8 ((wrap64 (48 + (Int.tmod x0_1 10))) % 256)]) (ok := fun _ => True) (okp := fun _ => True) ?hr ?hp (fun _ hk => hk) trivial (Below.refl _ _) (Nat.le_refl _) (by simp) ?_; (case hd => rfl); (case hg => rfl); (case hr => first | (go_simp; done) | (go_simp; rfl)); (case hp => exact (Reps.one (show Kd.M (Kd.int .u8) _ _ _ ((wrap64 (48 + (Int.tmod x0_1 10))) % 256) [.int .u8 ((wrap64 (48 + (Int.tmod x0_1 10))) % 256)] from rfl) (Reps.none _ _))); intro v451 w23 ho24 hb hg_ hnew_; clear hg_ hnew_; (first | rw [← Ny450.out] at ho24 | (simp only [Int.reduceToNat] at ho24; rw [← Ny450.out] at ho24)); have HO452 := Aside0.mk (Kd.R_lower ho24 (bZ_ (kwW HB))); replace HB := Aside0.mk (below_step (kwW HB) hb); clear hb ho24; have hcv25 := own_string (P := Tryd.prog) Tryd.underlying58 Tryd.underlying5 Tryd.underlying9 (Kd.own_of_R HO452.out)))
     go_ret
     exact ⟨by first | rfl | (simp <;> rfl) | (simp [*] <;> rfl), kwW HB⟩
    rw [if_pos c18] at H
    have c18b0 : (decide (a0 < 0)) = true := c18
    clear c18
    by_cases c19 : 1 + ((strOfNums y450) ++ x3_1).size ≤ 9223372036854775807
    rotate_left
    ·
     rw [if_neg c19] at H
     exact absurd H (by simp)
    rw [if_pos c19] at H
    have c19b0 := eq_true c19
    have c19b1 : decide (1 + ((strOfNums y450) ++ x3_1).size ≤ 9223372036854775807) = true := decide_eq_true c19
    try have c19b2 : (9223372036854775807 < 1 + ((strOfNums y450) ++ x3_1).size) = False := eq_false (Nat.not_lt.2 c19)
    (try (have c19b0z := c19b0; simp only [ByteArray.size_append] at c19b0z))
    (try (have c19b1z := c19b1; simp only [ByteArray.size_append] at c19b1z))
    (try (have c19b2z := c19b2; simp only [ByteArray.size_append] at c19b2z))
    obtain rfl := Option.some.inj H
    go_wp2_with (first | ((with_reducible refine gate_dst (N := 17) rfl ?_); refine Kd.R_lit (Kd.int .u8) _ 5 ?hg (N := 17) ?hd (xs := ([(wrap64 (48 + (Int.tmod x0_1 10))) % 256] : List Int)) (inner := [.int .u8 ((wrap64 (48 + (Int.tmod x0_1 10))) % 256)]) (ok := fun _ => True) (okp := fun _ => True) ?hr ?hp (fun _ hk => hk) trivial (Below.refl _ _) (Nat.le_refl _) (by simp) ?_; (case hd => rfl); (case hg => rfl); (case hr => first | (go_simp; done) | (go_simp; rfl)); (case hp => exact (Reps.one (show Kd.M (Kd.int .u8) _ _ _ ((wrap64 (48 + (Int.tmod x0_1 10))) % 256) [.int .u8 ((wrap64 (48 + (Int.tmod x0_1 10))) % 256)] from rfl) (Reps.none _ _))); intro v451 w20 ho21 hb hg_ hnew_; clear hg_ hnew_; (first | rw [← Ny450.out] at ho21 | (simp only [Int.reduceToNat] at ho21; rw [← Ny450.out] at ho21)); have HO452 := Aside0.mk (Kd.R_lower ho21 (bZ_ (kwW HB))); replace HB := Aside0.mk (below_step (kwW HB) hb); clear hb ho21; have hcv22 := own_string (P := Tryd.prog) Tryd.underlying58 Tryd.underlying5 Tryd.underlying9 (Kd.own_of_R HO452.out)))
    go_ret
    exact ⟨by first | rfl | (simp <;> rfl) | (simp [*] <;> rfl), kwW HB⟩
end Go.Proofs.YtfaogccfiklinaaDoor.Q
