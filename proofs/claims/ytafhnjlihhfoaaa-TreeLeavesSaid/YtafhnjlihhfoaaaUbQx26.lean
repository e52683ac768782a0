/- Lemmas for this claim's walk: no condition of their own. -/
import Derived.Test.YtafhnjlihhfoaaaUbJ13
import Derived.Test.YtafhnjlihhfoaaaUbQx0
import Derived.Test.YtafhnjlihhfoaaaUbJ15
import Derived.Test.YtafhnjlihhfoaaaUbQx24
import Derived.Test.YtafhnjlihhfoaaaUbQx25
namespace Go.Proofs.Ytafhnjlihhfoaaa.Q
open Go.RowKit Go.Proofs.YtafhnjlihhfoaaaW.PrintWords Go.Proofs.YtafhnjlihhfoaaaW.PrintLast Go.Proofs.YtafhnjlihhfoaaaW.PrintMore
attribute [local go_sem] max2_int min2_int max_two min_two max_three min_three max_four min_four
set_option linter.unusedVariables false
set_option linter.unusedSimpArgs false
mutual
def tree_Leaves.l0 : Nat → Int → List (List (S38)) → List (S38) → Int → Int → Option (List Int)
 | 0, _, _, _, _, _ => none
 | k + 1, x1, x5, x17, x18, x19 => if x19 < x18 then (if 0 ≤ x19 then (if x19 < (x17.length : Int) then ((tree_Bucket.f ((rd_T38 x17 x19).f0.f1) x1).bind fun t245 => (if 0 ≤ t245 then (if t245 < (x5.length : Int) then (if (rd_L12 x5 t245).length < 1256584717458 then (tree_Leaves.l0 k x1 (x5.set (t245 : Int).toNat ((rd_L12 x5 t245) ++ [(⟨(⟨(rd_T38 x17 x19).f0.f0, (rd_T38 x17 x19).f0.f1, (rd_T38 x17 x19).f0.f2, (rd_T38 x17 x19).f0.f3⟩ : S32), (⟨(rd_T38 x17 x19).f1.f0, (rd_T38 x17 x19).f1.f1, (rd_T38 x17 x19).f1.f2, (⟨(rd_T38 x17 x19).f1.f3.f0, (rd_T38 x17 x19).f1.f3.f1, (rd_T38 x17 x19).f1.f3.f2⟩ : S34)⟩ : S36)⟩ : S38)])) x17 x18 (wrap64 (x19 + 1))) else (none)) else (none)) else (none))) else (none)) else (none)) else (if 0 ≤ (x5.length : Int) then (if ((x5.length : Int) : Int).toNat ≤ 35184372088832 then (tree_Leaves.l1 k (List.replicate ((x5.length : Int) : Int).toNat 0) x5 (x5.length : Int) 0) else (none)) else (none))
def tree_Leaves.l1 : Nat → List Int → List (List (S38)) → Int → Int → Option (List Int)
 | 0, _, _, _, _ => none
 | k + 1, x9, x42, x43, x44 => if x44 < x43 then (if 0 ≤ x44 then (if x44 < (x42.length : Int) then (if ((rd_L12 x42 x44).length : Int) > 0 then ((cell_Digest.f k (rd_L12 x42 x44)).bind fun t255 => (if x44 < (x9.length : Int) then (tree_Leaves.l1 k (x9.set (x44 : Int).toNat t255) x42 x43 (wrap64 (x44 + 1))) else (none))) else (tree_Leaves.l1 k x9 x42 x43 (wrap64 (x44 + 1)))) else (none)) else (none)) else (some x9)
end
def tree_Leaves.f (k : Nat) (l0 : List (S38)) (a1 : Int) : Option (List Int) := (tree_depthOf.f a1).bind fun t236 => (if 0 ≤ t236 then (if 0 ≤ (shl .i64 1 t236) then (if (shl .i64 1 t236 : Int).toNat ≤ 11728124029610 then ((cell_Norm.f k l0).bind fun t240 => (tree_Leaves.l0 k a1 (List.replicate (shl .i64 1 t236 : Int).toNat []) t240 (t240.length : Int) 0)) else (none)) else (none)) else (none))
def tree_Leaves.T6 : Bool × List (List Nat × List Nat) := (true, [([], []), ([], []), ([], []), ([], []), ([2, 3], [2, 3]), ([4], [4]), ([], []), ([6], [6]), ([5, 7], [5, 7]), ([0, 1, 0, 1, 2, 3, 4, 5, 6, 7, 8], [0, 1]), ([9, 8, 8, 0, 1, 2, 3, 4, 5, 6, 7, 8], [8, 9])])
def tree_Leaves.B6 : List Nat := [0, 0, 0, 0, 12, 28, 0, 64, 252, 511, 1023]
theorem tree_Leaves.tab6 : rtab .any (opsOf Try.f18 6) = tree_Leaves.T6 := by kernel_rfl
theorem tree_Leaves.bits6 : waitsOk tree_Leaves.T6.2 tree_Leaves.B6 = true := by kernel_rfl
set_option maxHeartbeats 8000000 in
set_option maxRecDepth 100000 in
theorem tree_Leaves.calls (k : Nat) (A0 : Option Addr) (c0 : Nat) (l0 : List (S38)) (a1 : Int) (r : List Int) (w : World) (hr0 : Kd.C k38 w A0 l0.length l0) (hc0 : l0.length ≤ c0) (h : tree_Leaves.f k l0 a1 = some r) :
  Calls Try.prog 18 #[.slice A0 l0.length c0, .int .i64 a1] w fun e w' => ∃ v0_ : Value, e = .returned (v0_) ∧ Kd.R (Kd.int .u64) 50 w' w.heap.size (fun _ => True) v0_ r ∧ Below w.heap.size w w' := by
 have hu38 := Try.underlying38
 have HR0 := Aside0.mk hr0
 have HC0 := Aside0.mk hc0
 clear hr0 hc0
 have HB := Aside0.mk (Below.refl w.heap.size w)
 have H : ((tree_depthOf.f a1).bind fun t236 => (if 0 ≤ t236 then (if 0 ≤ (shl .i64 1 t236) then (if (shl .i64 1 t236 : Int).toNat ≤ 11728124029610 then ((cell_Norm.f k l0).bind fun t240 => (tree_Leaves.l0 k a1 (List.replicate (shl .i64 1 t236 : Int).toNat []) t240 (t240.length : Int) 0)) else (none)) else (none)) else (none))) = some r := h
 clear h
 replace H := Option.bind_eq_some_iff.mp H
 obtain ⟨t236, A30, H⟩ := H
 have A3 := Aside0.mk A30
 clear A30
 by_cases c4 : 0 ≤ t236
 rotate_left
 ·
  rw [if_neg c4] at H
  exact absurd H (by simp)
 rw [if_pos c4] at H
 have c4b0 := eq_true c4
 have c4b1 : decide (0 ≤ t236) = true := decide_eq_true c4
 clear c4
 obtain ⟨ji5, hji5⟩ : ∃ j_ : Int, (shl .i64 1 t236) = j_ := ⟨_, rfl⟩
 replace H : (if 0 ≤ (ji5) then (if (ji5 : Int).toNat ≤ 11728124029610 then ((cell_Norm.f k l0).bind fun t240 => (tree_Leaves.l0 k a1 (List.replicate (ji5 : Int).toNat []) t240 (t240.length : Int) 0)) else (none)) else (none)) = some r := by first | (rw [hji5] at H; exact H) | (simp only [hji5] at H ⊢; exact H)
 (try rw [hji5] at A3)
 have hji5_ : (IntKind.i64.wrap (1 * 2 ^ min t236.toNat 64)) = ji5 := hji5
 have hji5z : t236 ≤ 64 → (IntKind.i64.wrap (1 * 2 ^ t236.toNat)) = ji5 := shl_small hji5
 have hji5u : (IntKind.i64.wrap (2 ^ min t236.toNat 64)) = ji5 := by have h_ := hji5_; rw [Int.one_mul] at h_; exact h_
 have hji5v : t236 ≤ 64 → (IntKind.i64.wrap (2 ^ t236.toNat)) = ji5 := fun hle_ => by have h_ := hji5z hle_; rw [Int.one_mul] at h_; exact h_
 have hji5y : (wrap64 (1 * 2 ^ min t236.toNat 64)) = ji5 := (i64_w _).symm.trans hji5_
 have hji5x : t236 ≤ 64 → (wrap64 (1 * 2 ^ t236.toNat)) = ji5 := fun h_ => (i64_w _).symm.trans (hji5z h_)
 by_cases c6 : 0 ≤ (ji5)
 rotate_left
 ·
  rw [if_neg c6] at H
  exact absurd H (by simp)
 rw [if_pos c6] at H
 have c6b0 := eq_true c6
 have c6b1 : decide (0 ≤ (ji5)) = true := decide_eq_true c6
 clear c6
 by_cases c7 : (ji5 : Int).toNat ≤ 11728124029610
 rotate_left
 ·
  rw [if_neg c7] at H
  exact absurd H (by simp)
 rw [if_pos c7] at H
 have c7b0 := eq_true c7
 have c7b1 : decide ((ji5 : Int).toNat ≤ 11728124029610) = true := decide_eq_true c7
 clear c7
 obtain ⟨y237, hy237⟩ : ∃ y_ : List (List (S38)), y_ = (List.replicate (ji5 : Int).toNat []) := ⟨_, rfl⟩
 replace H : ((cell_Norm.f k l0).bind fun t240 => (tree_Leaves.l0 k a1 y237 t240 (t240.length : Int) 0)) = some r := by first | (rw [hy237]; with_reducible exact H) | (have H2_ := (Option.bind_some _ _).symm.trans H; rw [hy237]; with_reducible exact H2_) | (have H2_ := (Option.bind_some _ _).symm.trans H; with_reducible exact H2_) | with_reducible exact H | (rw [hy237]; exact H) | exact H
 have Ny237 := Aside0.mk hy237
 clear hy237
 replace H := Option.bind_eq_some_iff.mp H
 obtain ⟨t240, A80, H⟩ := H
 have A8 := Aside0.mk A80
 clear A80
 have H' := Aside0.mk H
 clear H
 go_enter Try.func18, Try.ntmps18
 go_wp2_with (first | ((with_reducible refine gate_callee (f := 35) rfl ?_); refine goesL_ (some 13) rfl rfl Try.func35 (by kernel_rfl) rfl #[.int .i64 a1] rfl (by (try simp only [mT_, mC_, mN_]); first | done | rfl) ?_; (with_reducible refine (tree_depthOf.calls a1 t236 _ A3.out).mono ?_); rintro e w9 ⟨rfl, hb⟩; refine ⟨_, rfl, ?_⟩; replace HB := Aside0.mk (below_step (kwW HB) hb); (try clear hb); (try clear hb2); (try clear hk); (try clear hi)) | ((with_reducible refine gate_dst (N := 15) rfl ?_); refine Kd.S_make (Kd.slice 38 k38) _ 29 rfl (N := 15) rfl 58 _ _ rfl ji5 rfl rfl Try.underlying58 (.slice none 0 0) 24 info29 rfl (by decide) (by omega) [] (ok := fun _ => True) (okp := fun _ => True) ⟨_, rfl, Kd.R_nil _ _ _ _ _⟩ (fun _ hk => hk) trivial (of_decide_eq_true (by first | (with_reducible assumption) | assumption)) (Nat.le_trans (Nat.mul_le_mul_right _ (of_decide_eq_true (by first | (with_reducible assumption) | assumption) : ji5.toNat ≤ 11728124029610)) (by omega)) (Below.refl _ _) (Nat.le_refl _) ?_; intro v238 w10 ho11 hb hg_ hnew_; clear hg_ hnew_; (first | rw [← Ny237.out] at ho11 | (simp only [Int.reduceToNat] at ho11; rw [← Ny237.out] at ho11)); have HO239 := Aside0.mk (Kd.S_lower ho11 (bZ_ (kwW HB))); replace HB := Aside0.mk (below_step (kwW HB) hb); clear hb ho11) | ((with_reducible refine gate_callee (f := 24) rfl ?_); refine goesL_ (some 17) rfl rfl Try.func24 (by kernel_rfl) rfl #[.slice A0 l0.length c0] rfl (by (try simp only [mT_, mC_, mN_]); first | done | rfl) ?_; (with_reducible refine (cell_Norm.calls k _ _ l0 t240 _ ?side1 ?side2 A8.out).mono ?_); (case side1 => repeat (first | exact (Kd.C_below HR0.out HB.out) | (with_reducible refine Kd.C_alloc ?_ _) | (with_reducible refine Kd.C_drewN ?_ _) | (with_reducible refine Kd.C_drew ?_))); (case side2 => exact HC0.out); rintro e w12 ⟨v241, rfl, ho0, hb⟩; refine ⟨_, rfl, ?_⟩; replace HO239 := Aside0.mk (Kd.S_elder' (by (with_reducible repeat (first | apply Kd.S_alloc | apply Kd.S_drewN | apply Kd.S_drew)); exact HO239.out) (Kd.R_base ho0) hb); have HO242 := Aside0.mk (Kd.R_lower ho0 (bZ_ (kwW HB))); replace HB := Aside0.mk (below_step (kwW HB) hb); (try clear hb); (try clear hb2); (try clear hk); (try clear hi); (try clear ho0); obtain ⟨Ao13, co13, eo13⟩ := Kd.R_slice HO242.out; subst eo13))
 go_loopg [19] k (fun kq v19 w' => ∃ (x5_1 : List (List (S38))) (x19_1 : Int), v19 = .int .i64 x19_1 ∧ Aside0 (tree_Leaves.l0 kq a1 x5_1 t240 (t240.length : Int) x19_1 = some r) ∧ Aside0 (kq ≤ k) ∧ Aside0 (Kd.S (Kd.slice 38 k38) 29 w' w.heap.size (fun k_ => some k_ ≠ ((.slice Ao13 t240.length co13) : Value).ownBlock) v238 x5_1) ∧ Aside0 (Kd.R k38 38 w' w.heap.size (fun _ => True) (.slice Ao13 t240.length co13) t240) ∧ Aside0 (Below w.heap.size w w'))
 case atStart => exact ⟨(y237), (0), (by first | rfl | (simp; done) | (simp [bne, *]; done)), H', ⟨Nat.le_refl _⟩, ⟨by (with_reducible repeat (first | apply Kd.S_alloc | apply Kd.S_drewN | apply Kd.S_drew)); exact Kd.S_mono HO239.out (fun _ hk => hk.2)⟩, ⟨krW HO242⟩, ⟨kwW HB⟩⟩
 case round =>
  clear H'
  try clear c1
  try clear c2
  try clear p2
  try clear c3
  try clear c4
  try clear c4b0
  try clear c4b1
  try clear c6
  try clear c6b0
  try clear c6b1
  try clear p6
  try clear c7
  try clear c7b0
  try clear c7b1
  obtain ⟨x5_1, x19_1, rfl, HA, HK1, HO_5, HO_17, HB⟩ := hrel
  cases gk with
  | zero => exact absurd HA.out (by simp [tree_Leaves.l0])
  | succ k1 =>
   have H := HA.out
   clear HA
   simp only [tree_Leaves.l0] at H
   by_cases c14 : x19_1 < (t240.length : Int)
   ·
    rw [if_pos c14] at H
    have c14b0 : decide (x19_1 < (t240.length : Int)) = true := decide_eq_true c14
    clear c14
    by_cases c15 : 0 ≤ x19_1
    rotate_left
    ·
     rw [if_neg c15] at H
     exact absurd H (by simp)
    rw [if_pos c15] at H
    have c15b0 : decide (0 ≤ x19_1) = true := decide_eq_true c15
    clear c15
    by_cases c16 : x19_1 < (t240.length : Int)
    rotate_left
    ·
     rw [if_neg c16] at H
     exact absurd H (by simp)
    rw [if_pos c16] at H
    have c16b0 : decide (x19_1 < (t240.length : Int)) = true := decide_eq_true c16
    clear c16
    replace H := Option.bind_eq_some_iff.mp H
    obtain ⟨t245, A170, H⟩ := H
    have A17 := Aside0.mk A170
    clear A170
    by_cases c18 : 0 ≤ t245
    rotate_left
    ·
     rw [if_neg c18] at H
     exact absurd H (by simp)
    rw [if_pos c18] at H
    have c18b0 : decide (0 ≤ t245) = true := decide_eq_true c18
    clear c18
    by_cases c19 : t245 < (x5_1.length : Int)
    rotate_left
    ·
     rw [if_neg c19] at H
     exact absurd H (by simp)
    rw [if_pos c19] at H
    have c19b0 : decide (t245 < (x5_1.length : Int)) = true := decide_eq_true c19
    clear c19
    by_cases c20 : (rd_L12 x5_1 t245).length < 1256584717458
    rotate_left
    ·
     rw [if_neg c20] at H
     exact absurd H (by simp)
    rw [if_pos c20] at H
    have LMc20 := Aside0.mk c20
    clear c20
    obtain ⟨y247, hy247⟩ : ∃ y_ : List (S38), y_ = ((rd_L12 x5_1 t245) ++ [(⟨(⟨(rd_T38 t240 x19_1).f0.f0, (rd_T38 t240 x19_1).f0.f1, (rd_T38 t240 x19_1).f0.f2, (rd_T38 t240 x19_1).f0.f3⟩ : S32), (⟨(rd_T38 t240 x19_1).f1.f0, (rd_T38 t240 x19_1).f1.f1, (rd_T38 t240 x19_1).f1.f2, (⟨(rd_T38 t240 x19_1).f1.f3.f0, (rd_T38 t240 x19_1).f1.f3.f1, (rd_T38 t240 x19_1).f1.f3.f2⟩ : S34)⟩ : S36)⟩ : S38)]) := ⟨_, rfl⟩
    replace H : (tree_Leaves.l0 k1 a1 (x5_1.set (t245 : Int).toNat y247) t240 (t240.length : Int) (wrap64 (x19_1 + 1))) = some r := by first | (rw [hy247]; with_reducible exact H) | (have H2_ := (Option.bind_some _ _).symm.trans H; rw [hy247]; with_reducible exact H2_) | (have H2_ := (Option.bind_some _ _).symm.trans H; with_reducible exact H2_) | with_reducible exact H | (rw [hy247]; exact H) | exact H
    have Ny247 := Aside0.mk hy247
    clear hy247
    obtain ⟨y250, hy250⟩ : ∃ y_ : List (List (S38)), y_ = (x5_1.set (t245 : Int).toNat y247) := ⟨_, rfl⟩
    replace H : (tree_Leaves.l0 k1 a1 y250 t240 (t240.length : Int) (wrap64 (x19_1 + 1))) = some r := by first | (rw [hy250]; with_reducible exact H) | (have H2_ := (Option.bind_some _ _).symm.trans H; rw [hy250]; with_reducible exact H2_) | (have H2_ := (Option.bind_some _ _).symm.trans H; with_reducible exact H2_) | with_reducible exact H | (rw [hy250]; exact H) | exact H
    have Ny250 := Aside0.mk hy250
    clear hy250
    have H' := Aside0.mk H
    clear H
    have p243 : 0 ≤ (x19_1 : Int) := of_decide_eq_true (by first | (with_reducible assumption) | assumption)
    have q243 : x19_1 < (t240.length : Int) := of_decide_eq_true (by first | (with_reducible assumption) | assumption)
    obtain ⟨ad243, e243, hx243_0, hx243_1, hx243_2, hx243_3, hx243_4, hx243_5, hx243_6, hx243_7, hx243_8, hx243_9⟩ := at_T38 (Kd.R_reads' HO_17.out).2.2 x19_1 p243 q243
    cases e243
    replace p243 := eq_true p243
    replace q243 := eq_true q243
    try go_wp2_with (first | ((with_reducible refine gate_dst (N := 7) rfl ?_); refine box_event ?hg (N := 7) ?hd (cs := #[.string (⟨#[]⟩ : ByteArray), .string (⟨#[]⟩ : ByteArray), .int .i64 0, .string (⟨#[]⟩ : ByteArray), .int .i64 0, .bool false, .int .i64 0, .int .i64 0, .int .i64 0, .string (⟨#[]⟩ : ByteArray)]) (t := 38) ?hr ?_; (case hd => rfl); (case hg => rfl); (case hr => first | (go_simp; done) | (go_simp; rfl)); intro gb244 hg w22 hbox hb; replace HO_5 := Aside0.mk (Kd.S_below (Kd.S_elderB (by (with_reducible repeat (first | apply Kd.S_alloc | apply Kd.S_drewN | apply Kd.S_drew)); exact HO_5.out) gb244 (Nat.le_of_eq hg.symm)) hb); replace HO_17 := Aside0.mk (Kd.R_below (Kd.R_elderB (krW HO_17) gb244 (Nat.le_of_eq hg.symm)) hb); have BK244 := Aside0.mk (hbox); have GW244 := Aside0.mk ((by rw [hg]; exact (bZ_ (kwW HB)) : w.heap.size ≤ gb244)); replace HB := Aside0.mk (below_step (kwW HB) hb); have GE244 := GW244; clear hb hbox hg; obtain ⟨hcz23_0, hcz23_1, hcz23_2, hcz23_3, hcz23_4, hcz23_5, hcz23_6, hcz23_7, hcz23_8, hcz23_9, hfz23_0, hfz23_1, hfz23_2, hfz23_3, hfz23_4, hfz23_5, hfz23_6, hfz23_7, hfz23_8, hfz23_9⟩ := czf10 BK244) | ((with_reducible refine gate_callee (f := 16) rfl ?_); refine goesL_ (some 27) rfl rfl Try.func16 (by kernel_rfl) rfl #[.string ((rd_T38 t240 x19_1).f0.f1), .int .i64 a1] rfl (by (try simp only [mT_, mC_, mN_]); first | done | rfl) ?_; (with_reducible refine (tree_Bucket.calls ((rd_T38 t240 x19_1).f0.f1) a1 t245 _ A17.out).mono ?_); rintro e w24 ⟨rfl, hb⟩; refine ⟨_, rfl, ?_⟩; replace HO_5 := Aside0.mk (Kd.S_below (by (with_reducible repeat (first | apply Kd.S_alloc | apply Kd.S_drewN | apply Kd.S_drew)); exact (Kd.S_mono (Kd.S_far (p := ⟨gb244, 9, none⟩) (Kd.S_far (p := ⟨gb244, 8, none⟩) (Kd.S_far (p := ⟨gb244, 7, none⟩) (Kd.S_far (p := ⟨gb244, 6, none⟩) (Kd.S_far (p := ⟨gb244, 5, none⟩) (Kd.S_far (p := ⟨gb244, 4, none⟩) (Kd.S_far (p := ⟨gb244, 3, none⟩) (Kd.S_far (p := ⟨gb244, 2, none⟩) (Kd.S_far (p := ⟨gb244, 1, none⟩) (Kd.S_far (p := ⟨gb244, 0, none⟩) (Kd.S_mono HO_5.out (fun k_ hk => (⟨hk, hk.2⟩ : _ ∧ k_ ≠ gb244))) (fun _ hk => hk.2) (.string ((rd_T38 t240 x19_1).f0.f0))) (fun _ hk => hk.2) (.string ((rd_T38 t240 x19_1).f0.f1))) (fun _ hk => hk.2) (.int .i64 ((rd_T38 t240 x19_1).f0.f2))) (fun _ hk => hk.2) (.string ((rd_T38 t240 x19_1).f0.f3))) (fun _ hk => hk.2) (.int .i64 ((rd_T38 t240 x19_1).f1.f0))) (fun _ hk => hk.2) (.bool ((rd_T38 t240 x19_1).f1.f1))) (fun _ hk => hk.2) (.int .i64 ((rd_T38 t240 x19_1).f1.f2))) (fun _ hk => hk.2) (.int .i64 ((rd_T38 t240 x19_1).f1.f3.f0))) (fun _ hk => hk.2) (.int .i64 ((rd_T38 t240 x19_1).f1.f3.f1))) (fun _ hk => hk.2) (.string ((rd_T38 t240 x19_1).f1.f3.f2))) (fun _ h_ => h_.1))) hb); replace HO_17 := Aside0.mk (Kd.R_below (by (with_reducible repeat (first | apply Kd.R_alloc | apply Kd.R_drewN | apply Kd.R_drew)); exact (Kd.R_mono (rf10 (Kd.R_mono HO_17.out (fun k_ hk => (⟨hk, hk.2⟩ : _ ∧ k_ ≠ gb244))) (fun _ hk => hk.2)) (fun _ h_ => h_.1))) hb); replace BK244 := Aside0.mk (blk_below (g := gb244) (o := .cells #[.string ((rd_T38 t240 x19_1).f0.f0), .string ((rd_T38 t240 x19_1).f0.f1), .int .i64 ((rd_T38 t240 x19_1).f0.f2), .string ((rd_T38 t240 x19_1).f0.f3), .int .i64 ((rd_T38 t240 x19_1).f1.f0), .bool ((rd_T38 t240 x19_1).f1.f1), .int .i64 ((rd_T38 t240 x19_1).f1.f2), .int .i64 ((rd_T38 t240 x19_1).f1.f3.f0), .int .i64 ((rd_T38 t240 x19_1).f1.f3.f1), .string ((rd_T38 t240 x19_1).f1.f3.f2)] 38 (0, 0)) (by (with_reducible repeat (first | refine blk_drewN ?_ _ | refine blk_drew ?_ | refine blk_alloc ?_ _)); exact bp10 (kbW BK244)) hb); replace HB := Aside0.mk (below_step (by repeat (first | (with_reducible first | exact HB.out | apply bA_ | apply bN_ | apply bD_ | refine bS_ ?_ GE244) | exact HB.out)) hb); (try clear hb); (try clear hb2); (try clear hk); (try clear hi)))
    replace HO_5 := Aside0.mk (Kd.S_drew HO_5.out)
    replace HO_17 := Aside0.mk (Kd.R_drew HO_17.out)
    replace BK244 := Aside0.mk (blk_drew BK244.out)
    replace HB := Aside0.mk (below_drew1 HB.out)
    obtain ⟨Ao26, co26, eo26⟩ := Kd.S_slice HO_5.out
    (first | subst eo26 | (injection eo26 with f1_ f2_ f3_; have f4_ := f1_.symm; have f5_ := f3_.symm; clear f1_ f2_ f3_; subst f4_; subst f5_))
    have p246 : 0 ≤ (t245 : Int) := of_decide_eq_true (by first | (with_reducible assumption) | assumption)
    have q246 : t245 < (x5_1.length : Int) := of_decide_eq_true (by first | (with_reducible assumption) | assumption)
    obtain ⟨ad246, A246_0, c246_0, e246, hx246_0, hl246_0, hi246_0⟩ := at_L12 (Kd.S_reads' HO_5.out).2.2 t245 p246 q246
    cases e246
    obtain ⟨ce246, hce246, hMe246, hcc246⟩ := Kd.S_get HO_5.out [] t245 p246 (by first | exact q246 | exact of_decide_eq_true (by first | (with_reducible assumption) | assumption) | (have e_ := (Kd.S_reads' HO_5.out).1; omega))
    obtain ⟨ve246_0, rfl, ge246_0⟩ := hMe246
    have hv246_0 := hcc246 0 _ rfl
    rw [Nat.add_zero, show ((Kd.slice 38 k38)).sz = 1 from rfl, Nat.mul_one] at hv246_0
    replace hv246_0 := Option.some.inj (hv246_0.symm.trans hx246_0)
    rw [hv246_0] at ge246_0
    have HL246_0 := Aside0.mk (show Kd.R k38 38 _ _ _ _ (rd_L12 x5_1 t245) from ge246_0)
    clear hv246_0 ge246_0
    have HX246_0 := Aside0.mk hx246_0
    clear hcc246 hce246
    have HR246_0 := Aside0.mk hi246_0
    have HC246_0 := Aside0.mk hl246_0
    clear hi246_0 hl246_0
    replace p246 := eq_true p246
    replace q246 := eq_true q246
    obtain ⟨go27, co27, eo27, gb27, gl27, cl27, HG27⟩ := Kd.S_form HO_5.out (by have h_ : (t245 : Int) < ((x5_1.length : Int) : Int) := of_decide_eq_true (by first | (with_reducible assumption) | assumption); have h2_ : 0 ≤ (t245 : Int) := (of_decide_eq_true (by first | (with_reducible assumption) | assumption)); omega)
    (first | cases eo27 | (injection eo27 with ea_ en_ ec_; (first | subst ea_ | (injection ea_ with ea_; subst ea_)); subst ec_; clear en_))
    have GB27 := Aside0.mk gb27
    have GG27 := Aside0.mk HG27
    clear gb27 gl27 HG27
    (first | simp only [add_plain] at hx246_0 | skip)
    obtain ⟨oki27, ce27, hcl27, hM27, hcc27, _, _, hH27⟩ := Kd.S_elem HO_5.out [] (t245 : Int) (of_decide_eq_true (by first | (with_reducible assumption) | assumption)) (by have h_ : (t245 : Int) < ((x5_1.length : Int) : Int) := of_decide_eq_true (by first | (with_reducible assumption) | assumption); first | exact h_ | (have e_ := (Kd.S_reads' HO_5.out).1; omega) | simpa using h_)
    obtain ⟨ve27_0, rfl, ge27_0⟩ := hM27
    have hv27 := hcc27 0 _ rfl
    have hX27 := HX246_0.out
    (try simp only [add_plain] at hX27)
    (try simp only [Nat.add_zero] at hv27)
    (try rw [show ((Kd.slice 38 k38)).sz = 1 from rfl, Nat.mul_one] at hv27)
    replace hv27 := Option.some.inj (hv27.symm.trans hX27)
    subst hv27
    clear hX27 hcc27 hcl27
    have UU27 := Aside0.mk (show Kd.R k38 38 _ w.heap.size oki27 (.slice A246_0 (rd_L12 x5_1 t245).length c246_0) (rd_L12 x5_1 t245) from ge27_0)
    have HH27 := Aside0.mk hH27
    have HN27 := Aside0.mk (Kd.S_reads' HO_5.out).1
    clear hH27 ge27_0
    refine start_ (n := 11) (S := fun w' => w'.cell? ⟨gb244, 0, none⟩ = some (.string ((rd_T38 t240 x19_1).f0.f0)) ∧ w'.cell? ⟨gb244, 1, none⟩ = some (.string ((rd_T38 t240 x19_1).f0.f1)) ∧ w'.cell? ⟨gb244, 2, none⟩ = some (.int .i64 ((rd_T38 t240 x19_1).f0.f2)) ∧ w'.cell? ⟨gb244, 3, none⟩ = some (.string ((rd_T38 t240 x19_1).f0.f3)) ∧ w'.cell? ⟨gb244, 4, none⟩ = some (.int .i64 ((rd_T38 t240 x19_1).f1.f0)) ∧ w'.cell? ⟨gb244, 5, none⟩ = some (.bool ((rd_T38 t240 x19_1).f1.f1)) ∧ w'.cell? ⟨gb244, 6, none⟩ = some (.int .i64 ((rd_T38 t240 x19_1).f1.f2)) ∧ w'.cell? ⟨gb244, 7, none⟩ = some (.int .i64 ((rd_T38 t240 x19_1).f1.f3.f0)) ∧ w'.cell? ⟨gb244, 8, none⟩ = some (.int .i64 ((rd_T38 t240 x19_1).f1.f3.f1)) ∧ w'.cell? ⟨gb244, 9, none⟩ = some (.string ((rd_T38 t240 x19_1).f1.f3.f2)) ∧ w'.cell? ⟨go27, (t245).toNat, none⟩ = some (.slice A246_0 (rd_L12 x5_1 t245).length c246_0)) (ds := [10]) (tf_ 0 11) (by kernel_rfl) rfl rfl ⟨(blk_cell BK244.out 0).trans rfl, (blk_cell BK244.out 1).trans rfl, (blk_cell BK244.out 2).trans rfl, (blk_cell BK244.out 3).trans rfl, (blk_cell BK244.out 4).trans rfl, (blk_cell BK244.out 5).trans rfl, (blk_cell BK244.out 6).trans rfl, (blk_cell BK244.out 7).trans rfl, (blk_cell BK244.out 8).trans rfl, (blk_cell BK244.out 9).trans rfl, hx246_0⟩ (fun hHeld => ?_); refine with_tabW tree_Leaves.tab6 tree_Leaves.bits6 (fun HT_ HW_ => ?_)
    generalize w24.drew = w25 at HO_5 HO_17 BK244 HB GG27 HH27 HL246_0 HR246_0 HX246_0 UU27 hx246_0 hHeld ⊢
    refine pure_ (i := 0) (N := some 28) (v := ?_) (a' := ?_) (tf_ 1 10) rfl rfl (any_of HT_.out (by kernel_rfl)) (fun _ _ _ h => h) (Or.inl ⟨by rfl, ?_⟩) ?_ ?_
    rotate_left; · (intro w'; go_simp; with_reducible rfl)
    rotate_left; · (simp only [Act.put, sT_, sO_, sN_, i64_w, i32_w]; rfl)
    refine pure_ (i := 1) (N := some 29) (v := ?_) (a' := ?_) (tf_ 2 9) rfl rfl (any_of HT_.out (by kernel_rfl)) (fun _ _ _ h => h) (Or.inl ⟨by rfl, ?_⟩) ?_ ?_
    rotate_left; · (intro w'; go_simp; with_reducible rfl)
    rotate_left; · (simp only [Act.put, sT_, sO_, sN_, i64_w, i32_w]; rfl)
    refine pure_ (i := 2) (N := some 30) (v := ?_) (a' := ?_) (tf_ 3 8) rfl rfl (any_of HT_.out (by kernel_rfl)) (fun _ _ _ h => h) (Or.inl ⟨by rfl, ?_⟩) ?_ ?_
    rotate_left; · (intro w'; go_simp; with_reducible rfl)
    rotate_left; · (simp only [Act.put, sT_, sO_, sN_, i64_w, i32_w]; rfl)
    refine pure_ (i := 3) (N := some 31) (v := ?_) (a' := ?_) (tf_ 4 7) rfl rfl (any_of HT_.out (by kernel_rfl)) (fun _ _ _ h => h) (Or.inl ⟨by rfl, ?_⟩) ?_ ?_
    rotate_left; · (intro w'; go_simp; with_reducible rfl)
    rotate_left; · (simp only [Act.put, sT_, sO_, sN_, i64_w, i32_w]; rfl)
    refine pure_ (i := 4) (N := some 32) (v := ?_) (a' := ?_) (tf_ 5 6) rfl rfl (any_of HT_.out (by kernel_rfl)) (fun _ _ _ h => h) (Or.inl ⟨by rfl, ?_⟩) ?_ ?_
    rotate_left; · (intro w'; go_simp; with_reducible rfl)
    rotate_left; · (simp only [Act.put, sT_, sO_, sN_, i64_w, i32_w]; rfl)
    refine take_ (i := 5) (N := some 33) (v := ?_) (a' := ?_) (tf_ 6 5) rfl rfl (take_ofW HT_.out HW_.out (by kernel_rfl)) (fun _ _ _ h => h) (Or.inl ⟨by rfl, ?_⟩) hHeld ?_ ?_
    rotate_left; · (rintro w' ⟨s0, s1, s2, s3, s4, s5, s6, s7, s8, s9, s10⟩; go_simp; with_reducible rfl)
    rotate_left; · (simp only [Act.put, sT_, sO_, sN_, i64_w, i32_w]; rfl)
    refine take_ (i := 6) (N := some 34) (v := ?_) (a' := ?_) (tf_ 7 4) rfl rfl (take_ofW HT_.out HW_.out (by kernel_rfl)) (fun _ _ _ h => h) (Or.inl ⟨by rfl, ?_⟩) hHeld ?_ ?_
    rotate_left; · (rintro w' ⟨s0, s1, s2, s3, s4, s5, s6, s7, s8, s9, s10⟩; go_simp; with_reducible rfl)
    rotate_left; · (simp only [Act.put, sT_, sO_, sN_, i64_w, i32_w]; rfl)
    refine one_ (i := 7) (N := some 35) (tf_ 8 3) rfl rfl (one_of HT_.out (by kernel_rfl)) (by decide) (fun K hK => ?_)
    refine value_ (w1 := ?_) (v := ?_) (by rfl) rfl ?_ ?_
    rotate_left 2
    ·
     go_simp
     constructor
     ·
      rfl
     ·
      rfl
    refine hK.out _ _ ⟨(blk_cell (blk_alloc BK244.out _) 0).trans rfl, (blk_cell (blk_alloc BK244.out _) 1).trans rfl, (blk_cell (blk_alloc BK244.out _) 2).trans rfl, (blk_cell (blk_alloc BK244.out _) 3).trans rfl, (blk_cell (blk_alloc BK244.out _) 4).trans rfl, (blk_cell (blk_alloc BK244.out _) 5).trans rfl, (blk_cell (blk_alloc BK244.out _) 6).trans rfl, (blk_cell (blk_alloc BK244.out _) 7).trans rfl, (blk_cell (blk_alloc BK244.out _) 8).trans rfl, (blk_cell (blk_alloc BK244.out _) 9).trans rfl, (World.cell?_alloc_lt _ _ _ (World.block_lt_of_cell? _ _ (hHeld.2.2.2.2.2.2.2.2.2.2))).trans (hHeld.2.2.2.2.2.2.2.2.2.2)⟩ (fun hHeld => ?_)
    clear hK K
    refine norm_ (a' := ?_) ?_ ?_
    rotate_left
    ·
     show Act.put _ (some 35) _ = _
     simp only [Act.put, sT_, sO_, sN_, i64_w, i32_w]
     rfl
    refine one_ (i := 8) (N := some 36) (tf_ 9 2) rfl rfl (one_of HT_.out (by kernel_rfl)) (by decide) (fun K hK => ?_)
    refine Kd.R_append_step k38 (w0 := w) w.heap.size (by rfl) (.tmp 33) (.tmp 35) 29 38 (.agg #[(.string ⟨#[]⟩), (.string ⟨#[]⟩), (.int .i64 0), (.string ⟨#[]⟩), (.int .i64 0), (.bool false), (.int .i64 0), (.int .i64 0), (.int .i64 0), (.string ⟨#[]⟩)]) 112 rfl Try.underlying29 info38 rfl (by decide) (by omega) (.slice A246_0 (rd_L12 x5_1 t245).length c246_0) (rd_L12 x5_1 t245) (⟨(⟨(rd_T38 t240 x19_1).f0.f0, (rd_T38 t240 x19_1).f0.f1, (rd_T38 t240 x19_1).f0.f2, (rd_T38 t240 x19_1).f0.f3⟩ : S32), (⟨(rd_T38 t240 x19_1).f1.f0, (rd_T38 t240 x19_1).f1.f1, (rd_T38 t240 x19_1).f1.f2, (⟨(rd_T38 t240 x19_1).f1.f3.f0, (rd_T38 t240 x19_1).f1.f3.f1, (rd_T38 t240 x19_1).f1.f3.f2⟩ : S34)⟩ : S36)⟩ : S38) [.string ((rd_T38 t240 x19_1).f0.f0), .string ((rd_T38 t240 x19_1).f0.f1), .int .i64 ((rd_T38 t240 x19_1).f0.f2), .string ((rd_T38 t240 x19_1).f0.f3), .int .i64 ((rd_T38 t240 x19_1).f1.f0), .bool ((rd_T38 t240 x19_1).f1.f1), .int .i64 ((rd_T38 t240 x19_1).f1.f2), .int .i64 ((rd_T38 t240 x19_1).f1.f3.f0), .int .i64 ((rd_T38 t240 x19_1).f1.f3.f1), .string ((rd_T38 t240 x19_1).f1.f3.f2)] (fun k_ => oki27 k_ ∨ ((fun k_ => some k_ ≠ (.slice (some ad243) t240.length co13 : Value).ownBlock ∧ k_ ≠ gb244)) k_ ∧ w25.heap.size ≤ k_) (fun _ => False) rfl rfl ?aP (fun _ hk => hk.elim) ?aF ?aO ?aB ?aS ?aL ?_
    (case aP => exact k38_mkM _ _ _ (⟨(⟨(rd_T38 t240 x19_1).f0.f0, (rd_T38 t240 x19_1).f0.f1, (rd_T38 t240 x19_1).f0.f2, (rd_T38 t240 x19_1).f0.f3⟩ : S32), (⟨(rd_T38 t240 x19_1).f1.f0, (rd_T38 t240 x19_1).f1.f1, (rd_T38 t240 x19_1).f1.f2, (⟨(rd_T38 t240 x19_1).f1.f3.f0, (rd_T38 t240 x19_1).f1.f3.f1, (rd_T38 t240 x19_1).f1.f3.f2⟩ : S34)⟩ : S36)⟩ : S38))
    (case aB => exact (by repeat (first | (with_reducible first | exact HB.out | apply bA_ | apply bN_ | apply bD_ | refine bS_ ?_ GE244) | exact HB.out)))
    (case aF => exact (fun k_ hk => .inr ⟨⟨Kd.fresh' (Kd.R_lt (krW HO_17)) k_ hk, Kd.freshB (kbW BK244) k_ hk⟩, hk⟩))
    (case aO => exact (by (with_reducible repeat (first | apply Kd.R_alloc | apply Kd.R_drewN | apply Kd.R_drew)); exact Kd.R_mono UU27.out (fun _ hk => .inl hk)))
    (case aS => exact (bZ_ (by repeat (first | (with_reducible first | exact HB.out | apply bA_ | apply bN_ | apply bD_ | refine bS_ ?_ GE244) | exact HB.out))))
    (case aL => have := LMc20.out; omega)
    intro v248 w28 ho hb hg hat
    (first | have HS10_ := Go.Proofs.YtafhnjlihhfoaaaW.PrintWords.cell_grown hg (hHeld.2.2.2.2.2.2.2.2.2.2) (by first | (rw [add_block]; exact (fun e_ => ((HL246_0.out.1 _ e_.symm).2) rfl)) | (show some (Addr.add _ _).block ≠ _; rw [add_block]; exact (fun e_ => ((HL246_0.out.1 _ e_.symm).2) rfl)) | exact (fun e_ => ((HL246_0.out.1 _ e_.symm).2) rfl)) | have HS10_ := Go.Proofs.YtafhnjlihhfoaaaW.PrintWords.cell_grown hg (cell_unalloc (hHeld.2.2.2.2.2.2.2.2.2.2) (by first | (rw [add_block]; exact Kd.S_lt HO_5.out _ rfl) | (show (Addr.add _ _).block < _; rw [add_block]; exact Kd.S_lt HO_5.out _ rfl) | exact Kd.S_lt HO_5.out _ rfl)) (by first | (rw [add_block]; exact (fun e_ => ((HL246_0.out.1 _ e_.symm).2) rfl)) | (show some (Addr.add _ _).block ≠ _; rw [add_block]; exact (fun e_ => ((HL246_0.out.1 _ e_.symm).2) rfl)) | exact (fun e_ => ((HL246_0.out.1 _ e_.symm).2) rfl)))
    rw [← Ny247.out] at ho
    replace HO_17 := Aside0.mk (Kd.R_grown2 (krW HO_17) rfl hg (fun k_ e_ => (HL246_0.out.1 k_ e_).1.1))
    replace BK244 := Aside0.mk (blk_grown (kbW BK244) hg (Kd.R_away HL246_0.out (fun _ hk => hk.1.2)))
    replace HB := Aside0.mk (hb)
    replace HH27 := Aside0.mk (Kd.H_grown (Kd.H_widen (by repeat (first | exact HH27.out | refine Kd.H_alloc ?_ _ | refine Kd.H_drewN ?_ _ | refine Kd.H_drew ?_))) hg (fun k_ e_ => .inl (UU27.out.1 k_ e_)))
    have HO249 := Aside0.mk (ho)
    clear HO_5 UU27 HL246_0
    clear ho hb hg hat
    have p21 : 0 ≤ (t245 : Int) := of_decide_eq_true (by first | (with_reducible assumption) | assumption)
    have q21 : (t245 : Int) < ((x5_1.length : Int) : Int) := of_decide_eq_true (by first | (with_reducible assumption) | assumption)
    replace p21 := eq_true p21
    replace q21 := eq_true q21
    obtain ⟨Ao31, co31, eo31⟩ := Kd.R_slice HO249.out
    (first | subst eo31 | (injection eo31 with f1_ f2_ f3_; have f4_ := f1_.symm; have f5_ := f3_.symm; clear f1_ f2_ f3_; subst f4_; subst f5_))
    obtain ⟨_, _, hraw29, _, _, hcc29, _⟩ := Kd.H_raw HH27.out (of_decide_eq_true (by first | (with_reducible assumption) | assumption)) (by have h_ : (t245 : Int) < ((x5_1.length : Int) : Int) := of_decide_eq_true (by first | (with_reducible assumption) | assumption); first | exact h_ | (have e_ := (HN27.out); omega) | simpa using h_)
    obtain ⟨_, hfr29⟩ := Kd.H_at HH27.out (of_decide_eq_true (by first | (with_reducible assumption) | assumption)) (by have h_ : (t245 : Int) < ((x5_1.length : Int) : Int) := of_decide_eq_true (by first | (with_reducible assumption) | assumption); first | exact h_ | (have e_ := (HN27.out); omega) | simpa using h_)
    have hx29_0 := hcc29 0 _ rfl
    have hf29_0 := hfr29 0
    (try simp only [Nat.add_zero] at hx29_0 hf29_0)
    (try rw [show ((Kd.slice 38 k38)).sz = 1 from rfl, Nat.mul_one] at hx29_0)
    (try rw [show ((Kd.slice 38 k38)).sz = 1 from rfl, Nat.mul_one] at hf29_0)
    have HP29 := Kd.S_seg0 HH27.out (of_decide_eq_true (by first | (with_reducible assumption) | assumption)) (by have h_ : (t245 : Int) < ((x5_1.length : Int) : Int) := of_decide_eq_true (by first | (with_reducible assumption) | assumption); first | exact h_ | (have e_ := (HN27.out); omega) | simpa using h_) (seg := [.slice Ao31 y247.length co31]) (j := 0) (show 1 ≤ 1 from by decide) (x' := y247) (Kd.M_row HO249.out) (fun _ hk => hk)
    (try simp only [show ((Kd.slice 38 k38)).sz = 1 from rfl, Nat.mul_one, Nat.add_zero] at HP29)
    clear hcc29 hfr29
    have HNB244_go27 := Aside0.mk (show gb244 ≠ go27 from by have h_ := Kd.R_ne hraw29 BK244.out (by decide); intro e_; exact h_ (by rw [e_]; rfl))
    have HS29 := HP29.1
    rw [← Ny250.out] at HS29
    have HQ29 := Aside0.mk HS29
    obtain ⟨_, hgg29⟩ := Kd.R_typed hraw29 go27 rfl
    have GG29_ := Aside0.mk hgg29
    clear HP29 HS29 hgg29
    refine hK.out _ _ ⟨(blk_cell BK244.out 0).trans rfl, (blk_cell BK244.out 1).trans rfl, (blk_cell BK244.out 2).trans rfl, (blk_cell BK244.out 3).trans rfl, (blk_cell BK244.out 4).trans rfl, (blk_cell BK244.out 5).trans rfl, (blk_cell BK244.out 6).trans rfl, (blk_cell BK244.out 7).trans rfl, (blk_cell BK244.out 8).trans rfl, (blk_cell BK244.out 9).trans rfl, HS10_⟩ (fun hHeld => ?_)
    clear hK K
    refine norm_ (a' := ?_) ?_ ?_
    rotate_left
    ·
     show Act.put _ (some 36) _ = _
     simp only [Act.put, sT_, sO_, sN_, i64_w, i32_w]
     rfl
    refine pure_ (i := 9) (N := some 37) (v := ?_) (a' := ?_) (tf_ 10 1) rfl rfl (any_of HT_.out (by kernel_rfl)) (fun _ _ _ h => h) (Or.inl ⟨by rfl, ?_⟩) ?_ ?_
    rotate_left; · (intro w'; go_simp; with_reducible rfl)
    rotate_left; · (simp only [Act.put, sT_, sO_, sN_, i64_w, i32_w]; rfl)
    refine last_ (i := 10) (N := none) (tf_ 11 0) rfl rfl (one_of HT_.out (by kernel_rfl)) (by decide) (fun K hK => ?_)
    refine skip_ (w1 := ?_) (by rfl) rfl ?_ ?_
    rotate_left
    ·
     go_simp
     rfl
    refine hK.out _ _ ?_
    clear hK K
    refine done_ (done_of HT_.out (by kernel_rfl)) ?_
    try go_wp2
    go_roundg k1
    case measure => have := HK1.out; omega
    case rel => exact ⟨(y250), (wrap64 (x19_1 + 1)), (by first | rfl | (simp; done) | (simp [bne, *]; done)), H', ⟨by have := HK1.out; omega⟩, ⟨by (with_reducible repeat (first | apply Kd.S_alloc | apply Kd.S_drewN | apply Kd.S_drew)); exact Kd.S_mono HQ29.out (fun _ hk => hk.1)⟩, ⟨by (with_reducible repeat (first | apply Kd.R_alloc | apply Kd.R_drewN | apply Kd.R_drew)); exact Kd.R_mono (Kd.R_far (p := ⟨go27, (t245 : Int).toNat, none⟩) (Kd.R_types HO_17.out GG29_.out (by decide)) (fun _ hk => hk.2) (.slice Ao31 y247.length co31)) (fun _ hk => trivial)⟩, ⟨by repeat (first | (with_reducible first | exact HB.out | apply bA_ | apply bN_ | apply bD_ | refine below_set ?_ GB27.out | refine bS_ ?_ GE244) | exact HB.out)⟩⟩
   ·
    rw [if_neg c14] at H
    have c14b0 : decide (x19_1 < (t240.length : Int)) = false := decide_eq_false c14
    clear c14
    by_cases c32 : 0 ≤ (x5_1.length : Int)
    rotate_left
    ·
     rw [if_neg c32] at H
     exact absurd H (by simp)
    rw [if_pos c32] at H
    have c32b0 := eq_true c32
    have c32b1 : decide (0 ≤ (x5_1.length : Int)) = true := decide_eq_true c32
    clear c32
    by_cases c33 : ((x5_1.length : Int) : Int).toNat ≤ 35184372088832
    rotate_left
    ·
     rw [if_neg c33] at H
     exact absurd H (by simp)
    rw [if_pos c33] at H
    have c33b0 := eq_true c33
    have c33b1 : decide (((x5_1.length : Int) : Int).toNat ≤ 35184372088832) = true := decide_eq_true c33
    clear c33
    obtain ⟨y251, hy251⟩ : ∃ y_ : List Int, y_ = (List.replicate ((x5_1.length : Int) : Int).toNat 0) := ⟨_, rfl⟩
    replace H : (tree_Leaves.l1 k1 y251 x5_1 (x5_1.length : Int) 0) = some r := by first | (rw [hy251]; with_reducible exact H) | (have H2_ := (Option.bind_some _ _).symm.trans H; rw [hy251]; with_reducible exact H2_) | (have H2_ := (Option.bind_some _ _).symm.trans H; with_reducible exact H2_) | with_reducible exact H | (rw [hy251]; exact H) | exact H
    have Ny251 := Aside0.mk hy251
    clear hy251
    have H' := Aside0.mk H
    clear H
    obtain ⟨Ao34, co34, eo34⟩ := Kd.S_slice HO_5.out
    subst eo34
    go_wp2_with (first | ((with_reducible refine gate_dst (N := 41) rfl ?_); refine Kd.R_make (Kd.int .u64) _ 50 rfl (N := 41) rfl 22 _ _ rfl (x5_1.length : Int) rfl rfl Try.underlying22 (.int .u64 0) 8 info50 rfl (by decide) (by omega) 0 (ok := fun _ => True) (okp := fun _ => True) rfl (fun _ hk => hk) trivial (of_decide_eq_true (by first | (with_reducible assumption) | assumption)) (Nat.le_trans (Nat.mul_le_mul_right _ (of_decide_eq_true (by first | (with_reducible assumption) | assumption) : (x5_1.length : Int).toNat ≤ 35184372088832)) (by omega)) (Below.refl _ _) (Nat.le_refl _) ?_; intro v252 w35 ho36 hb hg_ hnew_; clear hg_ hnew_; (first | rw [← Ny251.out] at ho36 | (simp only [Int.reduceToNat] at ho36; rw [← Ny251.out] at ho36)); replace HO_5 := Aside0.mk (Kd.S_below (by (with_reducible repeat (first | apply Kd.S_alloc | apply Kd.S_drewN | apply Kd.S_drew)); exact HO_5.out) hb); replace HO_17 := kR HO_17 hb; have HO253 := Aside0.mk (Kd.R_lower ho36 (bZ_ (kwW HB))); replace HB := Aside0.mk (below_step (kwW HB) hb); clear hb ho36))
    go_loopg [44] k1 (fun kq v44 w' => ∃ (x9_2 : List Int) (x44_2 : Int), v44 = .int .i64 x44_2 ∧ Aside0 (tree_Leaves.l1 kq x9_2 x5_1 (x5_1.length : Int) x44_2 = some r) ∧ Aside0 (kq ≤ k1) ∧ Aside0 (Kd.R (Kd.int .u64) 50 w' w.heap.size (fun _ => True) v252 x9_2) ∧ Aside0 (Kd.S (Kd.slice 38 k38) 29 w' w.heap.size (fun _ => True) (.slice Ao34 x5_1.length co34) x5_1) ∧ Aside0 (Below w.heap.size w w'))
    case atStart => exact ⟨(y251), (0), (by first | rfl | (simp; done) | (simp [bne, *]; done)), H', ⟨Nat.le_refl _⟩, ⟨krW HO253⟩, ⟨by (with_reducible repeat (first | apply Kd.S_alloc | apply Kd.S_drewN | apply Kd.S_drew)); exact Kd.S_mono HO_5.out (fun _ hk => trivial)⟩, ⟨kwW HB⟩⟩
    case round =>
     clear H'
     try clear c1
     try clear c2
     try clear p2
     try clear q2
     try clear hx2
     try clear hf2
     try clear c3
     try clear c4
     try clear c4b0
     try clear c4b1
     try clear c6
     try clear c6b0
     try clear c6b1
     try clear p6
     try clear c7
     try clear c7b0
     try clear c7b1
     try clear c14
     try clear c14b0
     try clear c15
     try clear c15b0
     try clear c16
     try clear c16b0
     try clear c18
     try clear c18b0
     try clear c19
     try clear c19b0
     try clear c20
     try clear p21
     try clear q21
     try clear c24
     try clear p24
     try clear q24
     try clear hx24
     try clear c27
     try clear c29
     try clear hx29
     try clear hf29
     try clear c32
     try clear c32b0
     try clear c32b1
     try clear c33
     try clear c33b0
     try clear c33b1
     try clear c35
     try clear hcz23_0
     try clear hcz23_1
     try clear hcz23_2
     try clear hcz23_3
     try clear hcz23_4
     try clear hcz23_5
     try clear hcz23_6
     try clear hcz23_7
     try clear hcz23_8
     try clear hcz23_9
     try clear hfz23_0
     try clear hfz23_1
     try clear hfz23_2
     try clear hfz23_3
     try clear hfz23_4
     try clear hfz23_5
     try clear hfz23_6
     try clear hfz23_7
     try clear hfz23_8
     try clear hfz23_9
     try clear hx243_0
     try clear hx243_1
     try clear hx243_2
     try clear hx243_3
     try clear hx243_4
     try clear hx243_5
     try clear hx243_6
     try clear hx243_7
     try clear hx243_8
     try clear hx243_9
     try clear hx246_0
     try clear hx29_0
     try clear p2
     try clear p21
     try clear p243
     try clear p246
     try clear p6
     try clear q21
     try clear q243
     try clear q246
     obtain ⟨x9_2, x44_2, rfl, HA, HK2, HO_9, HO_42, HB⟩ := hrel
     cases gk with
     | zero => exact absurd HA.out (by simp [tree_Leaves.l1])
     | succ k2 =>
      have H := HA.out
      clear HA
      simp only [tree_Leaves.l1] at H
      by_cases c37 : x44_2 < (x5_1.length : Int)
      rotate_left
      ·
       rw [if_neg c37] at H
       have c37b0 : decide (x44_2 < (x5_1.length : Int)) = false := decide_eq_false c37
       clear c37
       obtain rfl := Option.some.inj H
       go_wp2
       go_ret
       exact ⟨_, by first | rfl | (simp [errW_none, errW_some] <;> rfl) | (simp only [← hji5]; first | rfl | (simp [errW_none, errW_some] <;> rfl)) | (simp [*, errW_none, errW_some] <;> rfl), krW HO_9, kwW HB⟩
      rw [if_pos c37] at H
      have c37b0 : decide (x44_2 < (x5_1.length : Int)) = true := decide_eq_true c37
      clear c37
      by_cases c38 : 0 ≤ x44_2
      rotate_left
      ·
       rw [if_neg c38] at H
       exact absurd H (by simp)
      rw [if_pos c38] at H
      have c38b0 : decide (0 ≤ x44_2) = true := decide_eq_true c38
      clear c38
      by_cases c39 : x44_2 < (x5_1.length : Int)
      rotate_left
      ·
       rw [if_neg c39] at H
       exact absurd H (by simp)
      rw [if_pos c39] at H
      have c39b0 : decide (x44_2 < (x5_1.length : Int)) = true := decide_eq_true c39
      clear c39
      by_cases c40 : ((rd_L12 x5_1 x44_2).length : Int) > 0
      rotate_left
      ·
       rw [if_neg c40] at H
       have c40b0 : decide (0 < ((rd_L12 x5_1 x44_2).length : Int)) = false := decide_eq_false c40
       have c40b1 : decide (0 < (rd_L12 x5_1 x44_2).length) = false := decide_eq_false (by omega)
       clear c40
       have H' := Aside0.mk H
       clear H
       have p254 : 0 ≤ (x44_2 : Int) := of_decide_eq_true (by first | (with_reducible assumption) | assumption)
       have q254 : x44_2 < (x5_1.length : Int) := of_decide_eq_true (by first | (with_reducible assumption) | assumption)
       obtain ⟨ad254, A254_0, c254_0, e254, hx254_0, hl254_0, hi254_0⟩ := at_L12 (Kd.S_reads' HO_42.out).2.2 x44_2 p254 q254
       cases e254
       obtain ⟨ce254, hce254, hMe254, hcc254⟩ := Kd.S_get HO_42.out [] x44_2 p254 (by first | exact q254 | exact of_decide_eq_true (by first | (with_reducible assumption) | assumption) | (have e_ := (Kd.S_reads' HO_42.out).1; omega))
       obtain ⟨ve254_0, rfl, ge254_0⟩ := hMe254
       have hv254_0 := hcc254 0 _ rfl
       rw [Nat.add_zero, show ((Kd.slice 38 k38)).sz = 1 from rfl, Nat.mul_one] at hv254_0
       replace hv254_0 := Option.some.inj (hv254_0.symm.trans hx254_0)
       rw [hv254_0] at ge254_0
       have HL254_0 := Aside0.mk (show Kd.R k38 38 _ _ _ _ (rd_L12 x5_1 x44_2) from ge254_0)
       clear hv254_0 ge254_0
       have HX254_0 := Aside0.mk hx254_0
       clear hcc254 hce254
       have HR254_0 := Aside0.mk hi254_0
       have HC254_0 := Aside0.mk hl254_0
       clear hi254_0 hl254_0
       replace p254 := eq_true p254
       replace q254 := eq_true q254
       go_wp2
       go_roundg k2
       case measure => have := HK1.out; have := HK2.out; omega
       case rel => exact ⟨(x9_2), (wrap64 (x44_2 + 1)), (by first | rfl | (simp; done) | (simp [bne, *]; done)), H', ⟨by have := HK1.out; have := HK2.out; omega⟩, ⟨krW HO_9⟩, ⟨by (with_reducible repeat (first | apply Kd.S_alloc | apply Kd.S_drewN | apply Kd.S_drew)); exact HO_42.out⟩, ⟨kwW HB⟩⟩
      rw [if_pos c40] at H
      have c40b0 : decide (0 < ((rd_L12 x5_1 x44_2).length : Int)) = true := decide_eq_true c40
      have c40b1 : decide (0 < (rd_L12 x5_1 x44_2).length) = true := decide_eq_true (by omega)
      clear c40
      replace H := Option.bind_eq_some_iff.mp H
      obtain ⟨t255, A410, H⟩ := H
      have A41 := Aside0.mk A410
      clear A410
      by_cases c42 : x44_2 < (x9_2.length : Int)
      rotate_left
      ·
       rw [if_neg c42] at H
       exact absurd H (by simp)
      rw [if_pos c42] at H
      have c42b0 : decide (x44_2 < (x9_2.length : Int)) = true := decide_eq_true c42
      clear c42
      obtain ⟨y256, hy256⟩ : ∃ y_ : List Int, y_ = (x9_2.set (x44_2 : Int).toNat t255) := ⟨_, rfl⟩
      replace H : (tree_Leaves.l1 k2 y256 x5_1 (x5_1.length : Int) (wrap64 (x44_2 + 1))) = some r := by first | (rw [hy256]; with_reducible exact H) | (have H2_ := (Option.bind_some _ _).symm.trans H; rw [hy256]; with_reducible exact H2_) | (have H2_ := (Option.bind_some _ _).symm.trans H; with_reducible exact H2_) | with_reducible exact H | (rw [hy256]; exact H) | exact H
      have Ny256 := Aside0.mk hy256
      clear hy256
      have H' := Aside0.mk H
      clear H
      have p254 : 0 ≤ (x44_2 : Int) := of_decide_eq_true (by first | (with_reducible assumption) | assumption)
      have q254 : x44_2 < (x5_1.length : Int) := of_decide_eq_true (by first | (with_reducible assumption) | assumption)
      obtain ⟨ad254, A254_0, c254_0, e254, hx254_0, hl254_0, hi254_0⟩ := at_L12 (Kd.S_reads' HO_42.out).2.2 x44_2 p254 q254
      cases e254
      obtain ⟨ce254, hce254, hMe254, hcc254⟩ := Kd.S_get HO_42.out [] x44_2 p254 (by first | exact q254 | exact of_decide_eq_true (by first | (with_reducible assumption) | assumption) | (have e_ := (Kd.S_reads' HO_42.out).1; omega))
      obtain ⟨ve254_0, rfl, ge254_0⟩ := hMe254
      have hv254_0 := hcc254 0 _ rfl
      rw [Nat.add_zero, show ((Kd.slice 38 k38)).sz = 1 from rfl, Nat.mul_one] at hv254_0
      replace hv254_0 := Option.some.inj (hv254_0.symm.trans hx254_0)
      rw [hv254_0] at ge254_0
      have HL254_0 := Aside0.mk (show Kd.R k38 38 _ _ _ _ (rd_L12 x5_1 x44_2) from ge254_0)
      clear hv254_0 ge254_0
      have HX254_0 := Aside0.mk hx254_0
      clear hcc254 hce254
      have HR254_0 := Aside0.mk hi254_0
      have HC254_0 := Aside0.mk hl254_0
      clear hi254_0 hl254_0
      replace p254 := eq_true p254
      replace q254 := eq_true q254
      go_wp2_with (first | ((with_reducible refine gate_callee (f := 28) rfl ?_); refine goesL_ (some 55) rfl rfl Try.func28 (by kernel_rfl) rfl #[.slice A254_0 (rd_L12 x5_1 x44_2).length c254_0] rfl (by (try simp only [mT_, mC_, mN_]); first | done | rfl) ?_; (with_reducible refine (cell_Digest.calls k2 _ _ (rd_L12 x5_1 x44_2) t255 _ ?side1 ?side2 A41.out).mono ?_); (case side1 => repeat (first | exact (by repeat (first | (with_reducible exact HR254_0.out) | (with_reducible refine Kd.C_alloc ?_ _) | (with_reducible refine Kd.C_drewN ?_ _) | (with_reducible refine Kd.C_drew ?_) | exact HR254_0.out)) | (with_reducible refine Kd.C_alloc ?_ _) | (with_reducible refine Kd.C_drewN ?_ _) | (with_reducible refine Kd.C_drew ?_))); (case side2 => exact HC254_0.out); rintro e w44 ⟨rfl, hb⟩; refine ⟨_, rfl, ?_⟩; replace HO_9 := kR HO_9 hb; replace HO_42 := Aside0.mk (Kd.S_below (by (with_reducible repeat (first | apply Kd.S_alloc | apply Kd.S_drewN | apply Kd.S_drew)); exact HO_42.out) hb); replace HL254_0 := kR HL254_0 hb; replace HR254_0 := Aside0.mk (Kd.C_below (by repeat (first | (with_reducible exact HR254_0.out) | (with_reducible refine Kd.C_alloc ?_ _) | (with_reducible refine Kd.C_drewN ?_ _) | (with_reducible refine Kd.C_drew ?_) | exact HR254_0.out)) hb); replace HX254_0 := Aside0.mk (pw_cell_below hb HX254_0.out); replace HB := Aside0.mk (below_step (kwW HB) hb); (try clear hb); (try clear hb2); (try clear hk); (try clear hi); have p43 : 0 ≤ (x44_2 : Int) := of_decide_eq_true (by first | (with_reducible assumption) | assumption); have q43 : (x44_2 : Int) < ((x9_2.length : Int) : Int) := of_decide_eq_true (by first | (with_reducible assumption) | assumption); obtain ⟨go43, co43, eo43, gb43, gl43, cl43, HG43⟩ := Kd.R_form HO_9.out (by omega); (first | cases eo43 | (injection eo43 with ea_ en_ ec_; (first | subst ea_ | (injection ea_ with ea_; subst ea_)); subst ec_; clear en_)); have GB43 := Aside0.mk gb43; have GG43 := Aside0.mk HG43; clear gb43 gl43 HG43; obtain ⟨hx43_0, hf43_0⟩ := Kd.R_celln 0 HO_9.out (x44_2 : Int) p43 q43; replace p43 := eq_true p43; replace q43 := eq_true q43; obtain ⟨hy45_, hz45_⟩ := Kd.R_celln 0 HO_9.out (x44_2 : Int) (of_decide_eq_true (by first | (with_reducible assumption) | assumption)) (of_decide_eq_true (by first | (with_reducible assumption) | assumption)); have HP45 := Kd.R_putg HO_9.out (x44_2 : Int) t255) | ((with_reducible refine gate_store (t := 50) (p := 56) rfl ?_); refine store_event (t := 50) (p := 56) (v := ?vo_w46) (w1 := (w44.setCell ⟨go43, (x44_2 : Int).toNat, none⟩ (.int .u64 t255))) ?hg ?ho ?hn ?hr ?_; (case ho => rfl); (case hg => rfl); (case hn => rfl); (case hr => first | (go_simp; done) | (go_simp; rfl)); intro w46 hw; have hg : w44.grownBy w46 (some go43) := (by rw [hw]; exact HP45.2); have hp_ : Kd.R (Kd.int .u64) 50 w46 w.heap.size (fun _ => True) (.slice (some ⟨go43, 0, none⟩) x9_2.length co43) y256 := (by rw [hw, Ny256.out]; exact HP45.1); clear HP45; replace HO_42 := Aside0.mk (Kd.S_over' (v := (.slice (some ⟨go43, 0, none⟩) x9_2.length co43)) (by (with_reducible repeat (first | apply Kd.S_alloc | apply Kd.S_drewN | apply Kd.S_drew)); exact HO_42.out) (Kd.R_typed HO_9.out) (by decide) hg); replace HL254_0 := Aside0.mk (Kd.R_over' (v := (.slice (some ⟨go43, 0, none⟩) x9_2.length co43)) (krW HL254_0) (Kd.R_typed HO_9.out) (by decide) hg); replace HO_9 := Aside0.mk (hp_); replace HB := Aside0.mk ((by rw [hw]; exact below_set (HB.out) GB43.out : Below w.heap.size w w46)); clear hg hw hp_))
      go_roundg k2
      case measure => have := HK1.out; have := HK2.out; omega
      case rel => exact ⟨(y256), (wrap64 (x44_2 + 1)), (by first | rfl | (simp; done) | (simp [bne, *]; done)), H', ⟨by have := HK1.out; have := HK2.out; omega⟩, ⟨krW HO_9⟩, ⟨by (with_reducible repeat (first | apply Kd.S_alloc | apply Kd.S_drewN | apply Kd.S_drew)); exact HO_42.out⟩, ⟨kwW HB⟩⟩
end Go.Proofs.Ytafhnjlihhfoaaa.Q
