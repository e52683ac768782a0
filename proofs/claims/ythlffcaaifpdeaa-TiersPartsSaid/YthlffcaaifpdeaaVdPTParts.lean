/- TiersParts, plain. -/
import Derived.Test.YthlffcaaifpdeaaVdQx16
import Derived.Test.YthlffcaaifpdeaaVdPTa
set_option linter.unusedVariables false
set_option linter.unusedSimpArgs false
namespace Go.Proofs.Ythlffcaaifpdeaa.Pl
open Go.RowKit Go.Proofs.Ythlffcaaifpdeaa.Q Go.Proofs.YthlffcaaifpdeaaW.PrintWords Go.Proofs.YthlffcaaifpdeaaW.PrintLast Go.Proofs.Ythlffcaaifpdeaa.Srt Go.Proofs.Ythlffcaaifpdeaa.Ord
abbrev oL (l : List Int) : List Int := Srt.nums (orderF l)
theorem oL_len (l : List Int) : (oL l).length = l.length := by unfold oL Srt.nums; rw [List.length_map, orderF_len]
theorem row_take (l : List Int) (b i : Nat) (h : b ≤ i) : (oL l).take b ++ rowOf l (b, i - b) = (oL l).take i := by
 unfold rowOf
 rw [← List.take_append_drop b ((oL l).take i), List.take_take, List.drop_take, Nat.min_eq_left h]
theorem bk_form (l : List Int) : ∀ i, 0 < i → i ≤ l.length → ∃ pre, (bkAt (ssF l) i).cuts = pre ++ [((bkAt (ssF l) i).beg, i - (bkAt (ssF l) i).beg)] ∧ (pre.map (rowOf l)).flatten = (oL l).take (bkAt (ssF l) i).beg ∧ (bkAt (ssF l) i).beg < i ∧ ∀ x ∈ pre, 0 < x.2
 | i + 1, _, hi => by
  unfold bkAt bkStep
  split
  ·
   refine ⟨(bkAt (ssF l) i).cuts, by simp, ?_, by simp, ?_⟩
   ·
    rcases Nat.eq_zero_or_pos i with h0 | h0
    ·
     subst h0; simp [bkAt]
    ·
     obtain ⟨pre, h1, h2, h3, h4⟩ := bk_form l i h0 (by omega)
     rw [h1, List.map_append, List.flatten_append, h2, List.map_singleton, List.flatten_singleton]
     exact row_take l _ i (by omega)
   ·
    rcases Nat.eq_zero_or_pos i with h0 | h0
    ·
     subst h0; simp [bkAt]
    ·
     obtain ⟨pre, h1, h2, h3, h4⟩ := bk_form l i h0 (by omega)
     intro x hx
     rw [h1] at hx
     rcases List.mem_append.1 hx with hx | hx
     ·
      exact h4 x hx
     ·
      rw [List.mem_singleton.1 hx]; dsimp only; omega
  ·
   rename_i hn
   have h0 : 0 < i := Nat.pos_of_ne_zero fun e => hn (.inl e)
   obtain ⟨pre, h1, h2, h3, h4⟩ := bk_form l i h0 (by omega)
   refine ⟨pre, ?_, h2, by dsimp only; omega, h4⟩
   dsimp only
   rw [h1]; simp
theorem rows_flat (l : List Int) : (((bkAt (ssF l) l.length).cuts).map (rowOf l)).flatten = oL l ∧ ∀ x ∈ (bkAt (ssF l) l.length).cuts, 0 < x.2 := by
 rcases Nat.eq_zero_or_pos l.length with h0 | h0
 ·
  have : oL l = [] := List.eq_nil_of_length_eq_zero (by rw [oL_len]; exact h0)
  rw [h0, this]; simp [bkAt]
 ·
  obtain ⟨pre, h1, h2, h3, h4⟩ := bk_form l l.length h0 (Nat.le_refl _)
  rw [h1, List.map_append, List.flatten_append, h2, List.map_singleton, List.flatten_singleton, row_take l _ _ (by omega), List.take_of_length_le (by rw [oL_len]; exact Nat.le_refl _)]
  refine ⟨rfl, fun x hx => ?_⟩
  rcases List.mem_append.1 hx with hx | hx
  ·
   exact h4 x hx
  ·
   rw [List.mem_singleton.1 hx]; dsimp only; omega
def S (l : List Int) (t : Int) : Int := sz (rd l t)
theorem oL_perm (l : List Int) : (oL l).Perm ((List.range l.length).map fun (j : Nat) => (j : Int)) := by
 have h := (isort_stab (cfS_ord l) (List.finRange l.length)).perm
 have h2 : (oL l).Perm (Srt.nums (List.finRange l.length)) := by first | exact h.map _ | exact h.symm.map _
 refine h2.trans (List.Perm.of_eq ?_)
 unfold Srt.nums
 apply List.ext_getElem
 ·
  simp
 ·
  intro i h1 h2; simp
theorem oL_sorted (l : List Int) : (oL l).Pairwise fun x y => S l x ≤ S l y := by
 unfold oL Srt.nums
 rw [List.pairwise_map]
 refine (isort_stab (cfS_ord l) (List.finRange l.length)).srt.imp (fun {a b} h => ?_)
 rw [ltS] at h
 have := of_decide_eq_false h
 unfold S rd
 rw [Int.toNat_natCast, Int.toNat_natCast, List.getD_eq_getElem?_getD, List.getD_eq_getElem?_getD, List.getElem?_eq_getElem a.isLt, List.getElem?_eq_getElem b.isLt]
 exact Int.not_lt.1 this
theorem range_nodup (n : Nat) : ((List.range n).map fun (j : Nat) => (j : Int)).Nodup := by
 unfold List.Nodup
 rw [List.pairwise_map]
 exact (List.pairwise_lt_range (n := n)).imp (fun h e => by omega)
theorem oL_nodup (l : List Int) : (oL l).Nodup := (oL_perm l).nodup_iff.2 (range_nodup _)
theorem oL_mem (l : List Int) (t : Int) (h : t ∈ oL l) : 0 ≤ t ∧ t < (l.length : Int) := by
 obtain ⟨j, hj, rfl⟩ := List.mem_map.1 ((oL_perm l).mem_iff.1 h)
 have := List.mem_range.1 hj
 omega
theorem srt_perm (xs : List Int) : (srt xs).Perm xs := List.mergeSort_perm _ _
theorem srt_rise (xs : List Int) (h : xs.Nodup) : (srt xs).Pairwise (· < ·) := by
 have h2 : (srt xs).Pairwise (fun a b => decide (a ≤ b) = true) := List.pairwise_mergeSort (by intro a b c h1 h2; simp at *; omega) (by intro a b; simp; omega) _
 have h3 : (srt xs).Nodup := (srt_perm xs).nodup_iff.2 h
 refine (h2.and h3).imp (fun h => ?_)
 have := of_decide_eq_true h.1
 have := h.2
 omega
theorem bks_flat (l : List Int) : ((bks l).flatten).Perm (oL l) := by
 rw [← (rows_flat l).1]
 unfold bks
 generalize (bkAt (ssF l) l.length).cuts = cuts
 induction cuts with
 | nil => exact List.Perm.refl _
 | cons x cuts ih => rw [List.map_cons, List.map_cons, List.flatten_cons, List.flatten_cons]; exact (srt_perm _).append ih
theorem row_sub (l : List Int) (x : Nat × Nat) : (rowOf l x).Sublist (oL l) := (List.take_sublist _ _).trans (List.drop_sublist _ _)
theorem bks_each (l : List Int) : ∀ b ∈ bks l, b ≠ [] ∧ b.Pairwise (· < ·) ∧ ∀ t ∈ b, 0 ≤ t ∧ t < (l.length : Int) := fun b hb => by
 obtain ⟨x, hx, rfl⟩ := List.mem_map.1 hb
 have h1 := (cuts_in (ssF l) l.length (by rw [ssF_len]; exact Nat.le_refl _)).2 x hx
 have h2 := (rows_flat l).2 x hx
 refine ⟨fun e => ?_, srt_rise _ ((row_sub l x).nodup (oL_nodup l)), fun t ht => oL_mem l t ((row_sub l x).subset ((srt_perm _).mem_iff.1 ht))⟩
 have h3 := srt_len (rowOf l x)
 rw [e, row_len l x h1] at h3
 simp at h3; omega
theorem bks_order (l : List Int) : (bks l).Pairwise fun b b' => ∀ x ∈ b, ∀ y ∈ b', S l x ≤ S l y := by
 have h := oL_sorted l
 rw [← (rows_flat l).1, List.pairwise_flatten] at h
 unfold bks
 rw [List.pairwise_map]
 have h2 := h.2
 rw [List.pairwise_map] at h2
 exact h2.imp (fun h x hx y hy => h x ((srt_perm _).mem_iff.1 hx) y ((srt_perm _).mem_iff.1 hy))
def cntL (n : Nat) (xs : List Int) : List Int := (List.range n).map fun (p : Nat) => ((xs.count (p : Int) : Nat) : Int)
theorem cntL_len (n : Nat) (xs : List Int) : (cntL n xs).length = n := by simp [cntL]
theorem cntL_at (n : Nat) (xs : List Int) (t : Nat) (ht : t < n) : rd (cntL n xs) (t : Int) = ((xs.count (t : Int) : Nat) : Int) := by
 unfold rd cntL
 rw [Int.toNat_natCast, List.getD_eq_getElem?_getD, List.getElem?_map, List.getElem?_range ht]; rfl
theorem cntL_set (n : Nat) (xs : List Int) (t : Nat) (ht : t < n) : (cntL n xs).set t (((xs.count (t : Int) : Nat) : Int) + 1) = cntL n (xs ++ [(t : Int)]) := by
 apply List.ext_getElem
 ·
  simp [cntL]
 ·
  intro i h1 h2
  have hi : i < n := by simpa [cntL] using h2
  rw [List.getElem_set]
  unfold cntL
  simp only [List.getElem_map, List.getElem_range, List.count_append]
  split
  ·
   rename_i e; subst e; simp
  ·
   rename_i e
   have : List.count (i : Int) [(t : Int)] = 0 := List.count_eq_zero.2 (by simp; omega)
   omega
theorem cntL_zero (n : Nat) : cntL n [] = List.replicate n 0 := by
 apply List.ext_getElem
 ·
  simp [cntL]
 ·
  intro i h1 h2; simp [cntL]
theorem wrap_cnt (c : Nat) (h : c ≤ 300) : wrap64 ((c : Int) + 1) = (c : Int) + 1 := wrap_id _ (by omega) (by omega)
theorem S_neg (l : List Int) (t : Int) (h : rd l t < 0) : S l t = if (0 : Int) > 1099511627776 then 1099511627776 else 0 := by unfold S sz; rw [if_pos h]; decide
theorem S_pos (l : List Int) (t : Int) (h : ¬ rd l t < 0) : S l t = if rd l t > 1099511627776 then 1099511627776 else rd l t := by unfold S sz; rw [if_neg h]; split <;> split <;> omega
theorem prev_j (j : Nat) (h : 0 < j) (h2 : j ≤ 300) : wrap64 ((j : Int) - 1) = ((j - 1 : Nat) : Int) := by rw [wrap_id _ (by omega) (by omega)]; omega
theorem cnt_le (pre b rest : List Int) (j : Nat) (t : Int) : (pre ++ b.take j).count t ≤ (pre ++ (b ++ rest)).length := by
 refine Nat.le_trans List.count_le_length ?_
 simp only [List.length_append, List.length_take]
 omega
theorem parts_l2 (n : Nat) (hn : n ≤ 300) (xs : List Int) (hx : ∀ p : Nat, p < n → xs.count (p : Int) = 1) : ∀ (d i k : Nat), i + d = n → d + 11 < k → skerrylaw12_TiersParts.l2 k (cntL n xs) (n : Int) (i : Int) = some true
 | d, i, 0, _, h => by omega
 | 0, i, k + 1, hd, hk => by
  rw [skerrylaw12_TiersParts.l2, if_neg (by omega), lives k (by omega)]; rfl
 | d + 1, i, k + 1, hd, hk => by
  have e3 : wrap64 ((i : Int) + 1) = ((i + 1 : Nat) : Int) := by rw [wrap_id _ (by omega) (by omega)]; omega
  have hl := cntL_len n xs
  rw [skerrylaw12_TiersParts.l2, if_pos (by omega), if_pos (by omega), if_pos (by omega), cntL_at n xs i (by omega), hx i (by omega), if_pos (by rfl), e3]
  exact parts_l2 n hn xs hx d (i + 1) k (by omega) (by omega)
theorem rd_rowP (bs : List (List Int)) (i : Nat) (hi : i < bs.length) : rd_L1 bs (i : Int) = bs[i] := by unfold rd_L1; rw [Int.toNat_natCast, List.getD_eq_getElem?_getD, List.getElem?_eq_getElem hi]; rfl
theorem rd_in (b : List Int) (i : Nat) (hi : i < b.length) : rd b (i : Int) = b[i] := by unfold rd; rw [Int.toNat_natCast, List.getD_eq_getElem?_getD, List.getElem?_eq_getElem hi]; rfl
structure Law (l : List Int) (bs : List (List Int)) : Prop where
 n : l.length ≤ 300
 c : bs.length ≤ 300
 short : ∀ b ∈ bs, b.length ≤ 300
 each : ∀ b ∈ bs, b ≠ [] ∧ b.Pairwise (· < ·) ∧ ∀ t ∈ b, 0 ≤ t ∧ t < (l.length : Int)
 ord : bs.Pairwise fun b b' => ∀ x ∈ b, ∀ y ∈ b', S l x ≤ S l y
 once : ∀ p : Nat, p < l.length → bs.flatten.count (p : Int) = 1
 size : bs.flatten.length ≤ 300
def Rest (l : List Int) (bs : List (List Int)) (i k : Nat) : Prop := ∀ (last : Int), last ≤ 1099511627776 → (∀ y ∈ (bs.drop i).flatten, last ≤ S l y) → skerrylaw12_TiersParts.l0 k l (cntL l.length (bs.take i).flatten) last bs (bs.length : Int) (i : Int) = some true
theorem S_range (l : List Int) (t : Int) : 0 ≤ S l t ∧ S l t ≤ 1099511627776 := sz_range _
theorem parts_l1 (l : List Int) (bs : List (List Int)) (N I : Int) (pre b rest : List Int) (Sf : Int → Int) (n : Nat) (hln : l.length = n) (hn : n ≤ 300) (hne : 0 < b.length) (hb1 : b.Pairwise (· < ·)) (hb2 : ∀ t ∈ b, 0 ≤ t ∧ t < (n : Int)) (hb3 : b.length ≤ 300) (hsz : (pre ++ (b ++ rest)).length ≤ 300) (last : Int)
  (hN : ∀ t, rd l t < 0 → Sf t = if (0 : Int) > 1099511627776 then 1099511627776 else 0) (hP : ∀ t, ¬ rd l t < 0 → Sf t = if rd l t > 1099511627776 then 1099511627776 else rd l t) (hS1 : ∀ t, Sf t ≤ 1099511627776) (hlS : ∀ t ∈ b, last ≤ Sf t) (hhS : ∀ t ∈ b, ∀ y ∈ rest, Sf t ≤ Sf y)
  (K : Nat) (hR : ∀ k, K ≤ k → ∀ last' : Int, last' ≤ 1099511627776 → (∀ y ∈ rest, last' ≤ Sf y) → skerrylaw12_TiersParts.l0 k l (cntL n (pre ++ b)) last' bs N (wrap64 (I + 1)) = some true) :
  ∀ (d j k : Nat) (low high : Int), j + d = b.length → K + 4 * d + 1 ≤ k → last ≤ low → high ≤ 1099511627776 → (∀ y ∈ rest, high ≤ Sf y) →
   skerrylaw12_TiersParts.l1 k l (cntL n (pre ++ b.take j)) last b low high bs N I b (b.length : Int) (j : Int) = some true
 | d, j, 0, _, _, _, h, _, _, _ => by omega
 | 0, j, k + 1, low, high, hd, hk, hlow, hhigh, hh => by
  rw [skerrylaw12_TiersParts.l1, if_neg (by omega), if_neg (by omega), if_neg (by omega), List.take_of_length_le (by omega)]
  exact hR k (by omega) high hhigh hh
 | d + 1, j, k + 1, low, high, hd, hk, hlow, hhigh, hh => by
  obtain ⟨k, rfl⟩ : ∃ m, k = m + 1 := ⟨k - 1, by omega⟩
  obtain ⟨k, rfl⟩ : ∃ m, k = m + 1 := ⟨k - 1, by omega⟩
  obtain ⟨k, rfl⟩ : ∃ m, k = m + 1 := ⟨k - 1, by omega⟩
  have hj : j < b.length := by omega
  have a1 : j + 1 + d = b.length := by omega
  have a2 : K + 4 * d + 1 ≤ k := by omega
  have b1 : (j : Int) < (b.length : Int) := by omega
  have b2 : (0 : Int) ≤ (j : Int) := by omega
  have e3 : wrap64 ((j : Int) + 1) = ((j + 1 : Nat) : Int) := by rw [wrap_id _ (by omega) (by omega)]; omega
  have ht := hb2 _ (List.getElem_mem hj)
  have hmem0 := List.getElem_mem hj
  have hrise : ∀ (h : 0 < j), b[j - 1]'(Nat.lt_of_le_of_lt (Nat.sub_le _ _) hj) < b[j] := fun h => List.pairwise_iff_getElem.1 hb1 (j - 1) j _ hj (Nat.sub_lt h Nat.one_pos)
  have htake : b.take (j + 1) = b.take j ++ [b[j]] := List.take_succ_eq_append_getElem hj
  have hrd := rd_in b j hj
  generalize b[j] = x at ht hmem0 hrise htake hrd
  obtain ⟨t, rfl⟩ : ∃ t : Nat, x = (t : Int) := ⟨x.toNat, by omega⟩
  have htn : t < n := by omega
  have b3 : ¬ (t : Int) < 0 := by omega
  have b4 : ¬ (t : Int) ≥ (l.length : Int) := by omega
  have b5 : (0 : Int) ≤ (t : Int) := by omega
  have b6 : (t : Int) < (n : Int) := by omega
  have b7 : (t : Int) < (l.length : Int) := by omega
  have hcnt := Nat.le_trans (cnt_le pre b rest j (t : Int)) hsz
  have hw := wrap_cnt _ hcnt
  have hset := cntL_set n (pre ++ b.take j) t htn
  rw [List.append_assoc, ← htake] at hset
  have hj4 : ∀ x : Int, x = Sf t → skerrylaw12_TiersParts.j4 (k + 1) l (cntL n (pre ++ b.take (j + 1))) last b low high x bs N I b (b.length : Int) (j : Int) = some true := fun x hx => by
   subst hx
   have hgo := fun lo hi' h1 h2 h3 => parts_l1 l bs N I pre b rest Sf n hln hn hne hb1 hb2 hb3 hsz last hN hP hS1 hlS hhS K hR d (j + 1) k lo hi' a1 a2 h1 h2 h3
   rw [skerrylaw12_TiersParts.j4, e3]
   split
   ·
    split
    ·
     exact hgo _ _ (hlS _ hmem0) (hS1 _) (hhS _ hmem0)
    ·
     exact hgo _ _ (hlS _ hmem0) hhigh hh
   ·
    split
    ·
     exact hgo _ _ hlow (hS1 _) (hhS _ hmem0)
    ·
     exact hgo _ _ hlow hhigh hh
  have hj3 : ∀ x : Int, Sf t = (if x > 1099511627776 then 1099511627776 else x) → skerrylaw12_TiersParts.j3 (k + 1 + 1) l (cntL n (pre ++ b.take (j + 1))) last b low high x bs N I b (b.length : Int) (j : Int) = some true := fun x hx => by
   rw [skerrylaw12_TiersParts.j3]
   split
   ·
    rename_i h; rw [if_pos h] at hx; exact hj4 _ hx.symm
   ·
    rename_i h; rw [if_neg h] at hx; exact hj4 _ hx.symm
  have hj2 : skerrylaw12_TiersParts.j2 (k + 1 + 1 + 1) l (cntL n (pre ++ b.take j)) last b low high (t : Int) bs N I b (b.length : Int) (j : Int) false = some true := by
   have e1 : ((t : Int) : Int).toNat = t := Int.toNat_natCast t
   rw [skerrylaw12_TiersParts.j2, if_neg (by decide), if_pos b5, if_pos (by rw [cntL_len]; exact b6), Option.bind_some, if_pos b7, e1, cntL_at _ _ _ htn, hw, hset]
   split
   ·
    rename_i h; exact hj3 0 (hN _ h)
   ·
    rename_i h; exact hj3 _ (hP _ h)
  rw [skerrylaw12_TiersParts.l1, if_pos b1, if_pos b2, if_pos b1, hrd, if_neg b3, if_neg b4]
  by_cases hj0 : (j : Int) > 0
  ·
   have hj1 : j - 1 < b.length := Nat.lt_of_le_of_lt (Nat.sub_le _ _) hj
   rw [if_pos hj0, prev_j j (Int.ofNat_lt.1 hj0) (Nat.le_trans (Nat.le_of_lt hj) hb3), if_pos (Int.natCast_nonneg _), if_pos (Int.ofNat_lt.2 hj1), rd_in _ _ hj1, decide_eq_false (Int.not_le.2 (hrise (Int.ofNat_lt.1 hj0)))]
   exact hj2
  ·
   rw [if_neg hj0]; exact hj2
theorem parts_l0 (l : List Int) (bs : List (List Int)) (L : Law l bs) : ∀ (d i : Nat), i + d = bs.length → ∀ k, 1300 * d + 1000 ≤ k → Rest l bs i k
 | 0, i, hd, 0, h => by omega
 | 0, i, hd, k + 1, hk => fun last h0 hl => by
  have hn := L.n
  rw [skerrylaw12_TiersParts.l0, if_neg (by omega), cntL_len, List.take_of_length_le (by omega)]
  have := parts_l2 l.length hn bs.flatten L.once l.length 0 k (by omega) (by omega)
  exact this
 | d + 1, i, hd, 0, h => by omega
 | d + 1, i, hd, k + 1, hk => fun last h0 hl => by
  have hi : i < bs.length := by omega
  have hs := L.short _ (List.getElem_mem hi)
  have hb := L.each _ (List.getElem_mem hi)
  have hc := L.c
  have hmem : ∀ t ∈ bs[i], t ∈ (bs.drop i).flatten := fun t ht => by rw [List.drop_eq_getElem_cons hi, List.flatten_cons]; exact List.mem_append_left _ ht
  have hord : ∀ t ∈ bs[i], ∀ y ∈ (bs.drop (i + 1)).flatten, S l t ≤ S l y := fun t ht y hy => by
   obtain ⟨b', hb', hy⟩ := List.mem_flatten.1 hy
   have h1 := L.ord
   rw [← List.take_append_drop i bs, List.drop_eq_getElem_cons hi] at h1
   have h2 := List.pairwise_cons.1 (List.pairwise_append.1 h1).2.1
   exact h2.1 b' hb' _ ht _ hy
  have hsz : ((bs.take i).flatten ++ (bs[i] ++ (bs.drop (i + 1)).flatten)).length ≤ 300 := by
   rw [← List.flatten_cons, ← List.drop_eq_getElem_cons hi, ← List.flatten_append, List.take_append_drop]; exact L.size
  have e3 : wrap64 ((i : Int) + 1) = ((i + 1 : Nat) : Int) := by rw [wrap_id _ (by omega) (by omega)]; omega
  have hR : ∀ k, 1300 * d + 1000 ≤ k → ∀ last' : Int, last' ≤ 1099511627776 → (∀ y ∈ (bs.drop (i + 1)).flatten, last' ≤ S l y) → skerrylaw12_TiersParts.l0 k l (cntL l.length ((bs.take i).flatten ++ bs[i])) last' bs (bs.length : Int) (wrap64 ((i : Int) + 1)) = some true := fun k hk last' h1 h2 => by
   have := parts_l0 l bs L d (i + 1) (by omega) k hk last' h1 h2
   rw [e3]
   rwa [List.take_succ_eq_append_getElem hi, List.flatten_append, List.flatten_singleton] at this
  have hk2 : 1300 * d + 1000 + 4 * (bs[i]).length + 1 ≤ k := by omega
  have := parts_l1 l bs (bs.length : Int) (i : Int) (bs.take i).flatten bs[i] (bs.drop (i + 1)).flatten (S l) l.length rfl L.n (List.length_pos_iff.2 hb.1) hb.2.1 hb.2.2 hs hsz last (fun t => S_neg l t) (fun t => S_pos l t) (fun t => (S_range l t).2) (fun t ht => hl t (hmem t ht)) hord (1300 * d + 1000) hR (bs[i]).length 0 k 4611686018427387904 (-1) (Nat.zero_add _) hk2 (Int.le_trans h0 (by decide)) (by decide) (fun y _ => Int.le_trans (by decide) (S_range l y).1)
  rw [skerrylaw12_TiersParts.l0, if_pos (by omega), if_pos (by omega), if_pos (by omega), rd_rowP _ _ hi]
  rwa [List.take_zero, List.append_nil] at this
theorem law_of (l : List Int) (hl : l.length ≤ 300) : Law l (bks l) := by
 have hp := (bks_flat l).trans (oL_perm l)
 refine ⟨hl, by have := bks_count l; omega, fun b hb => by have := bks_short l b hb; omega, bks_each l, bks_order l, fun p hpl => ?_, by rw [hp.length_eq]; simpa using hl⟩
 rw [hp.count_eq]
 rw [(range_nodup _).count, if_pos (List.mem_map.2 ⟨p, List.mem_range.2 hpl, rfl⟩)]
theorem parts_ok (l : List Int) : ∃ k, skerrylaw12_TiersParts.f k l = some true := by
 refine ⟨400000, ?_⟩
 unfold skerrylaw12_TiersParts.f
 by_cases h : (l.length : Int) > 300
 ·
  rw [if_pos h, lives _ (by omega)]; rfl
 ·
  rw [if_neg h, if_pos (by omega), if_pos (by omega), buckets_f l (by omega), Option.bind_some, Int.toNat_natCast]
  have L := law_of l (by omega)
  have := parts_l0 l (bks l) L (bks l).length 0 (by omega) 400000 (by have := L.c; omega) (-1) (by omega) (fun y _ => by have := (S_range l y).1; omega)
  rwa [List.take_zero, List.flatten_nil, cntL_zero] at this
end Go.Proofs.Ythlffcaaifpdeaa.Pl
