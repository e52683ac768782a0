/- TiersOne, plain. -/
import Derived.Test.YthlffcaaifpdeaaVcQx18
import Derived.Test.YthlffcaaifpdeaaVcPTa
set_option linter.unusedVariables false
set_option linter.unusedSimpArgs false
namespace Go.Proofs.Ythlffcaaifpdeaa.Pl
open Go.RowKit Go.Proofs.Ythlffcaaifpdeaa.Q Go.Proofs.YthlffcaaifpdeaaW.PrintWords Go.Proofs.YthlffcaaifpdeaaW.PrintLast Go.Proofs.Ythlffcaaifpdeaa.Srt Go.Proofs.Ythlffcaaifpdeaa.Ord
theorem ins_last {α : Type} {lt : α → α → Bool} (X : α) : ∀ s : List α, (∀ t ∈ s, lt X t = false) → ins lt X s = s ++ [X]
 | [], _ => rfl
 | y :: s, h => by rw [ins, if_neg (by rw [h y List.mem_cons_self]; decide), ins_last X s (fun t ht => h t (List.mem_cons_of_mem _ ht))]; rfl
theorem isort_same {α : Type} {lt : α → α → Bool} (h : ∀ x y, lt x y = false) (l : List α) : isort lt l = l := by
 refine snoc_ind (P := fun l => isort lt l = l) rfl (fun l a ih => ?_) l
 rw [isort_snoc, ih, ins_last a l (fun t _ => h a t)]
def ups0 (n : Nat) : List Int := (List.range n).map fun (j : Nat) => (j : Int)
theorem order_same (l : List Int) (z : Int) (h : ∀ x ∈ l, sz x = z) : Srt.nums (orderF l) = ups0 l.length := by
 have h1 : orderF l = List.finRange l.length := by
  unfold orderF
  refine isort_same (fun x y => ?_) _
  rw [ltS, h _ (List.getElem_mem _), h _ (List.getElem_mem _)]
  simp
 rw [h1]
 unfold Srt.nums ups0
 apply List.ext_getElem
 ·
  simp
 ·
  intro i h1 h2; simp
theorem ss_same (l : List Int) (z : Int) (h : ∀ x ∈ l, sz x = z) : ∀ s ∈ ssF l, s = z := fun s hs => by
 obtain ⟨t, _, rfl⟩ := List.mem_map.1 hs
 exact h _ (List.getElem_mem _)
theorem bk_same (ss : List Int) (z : Int) (hz : 0 ≤ z) (h : ∀ s ∈ ss, s = z) : ∀ i, i < ss.length → bkAt ss (i + 1) = ⟨[(0, i + 1)], 0, ((i + 1 : Nat) : Int) * z⟩
 | 0, hi => by
  have hs := h _ (List.getElem_mem hi)
  rw [bkAt, bkStep, if_pos (.inl rfl), List.getD_eq_getElem?_getD, List.getElem?_eq_getElem hi, Option.getD_some, hs]
  simp [bkAt]
 | i + 1, hi => by
  have hs := h _ (List.getElem_mem hi)
  have e := bk_same ss z hz h i (by omega)
  have e2 : (((i + 1 : Nat) : Int) * z) / (((i + 1 : Nat) : Int) - ((0 : Nat) : Int)) = z := by rw [show (((i + 1 : Nat) : Int) - ((0 : Nat) : Int)) = ((i + 1 : Nat) : Int) by omega]; exact Int.mul_ediv_cancel_left _ (by omega)
  rw [bkAt, e, List.getD_eq_getElem?_getD, List.getElem?_eq_getElem hi, Option.getD_some, hs, bkStep, if_neg (by
   rintro (h | ⟨_, h⟩)
   ·
    omega
   ·
    dsimp only at h; rw [e2] at h; omega)]
  have e3 : ((i + 1 : Nat) : Int) * z + z = ((i + 1 + 1 : Nat) : Int) * z := by
   rw [show ((i + 1 + 1 : Nat) : Int) = ((i + 1 : Nat) : Int) + 1 by omega, Int.add_mul, Int.one_mul]
  simp only [e3]
  simp
theorem ups0_sorted (n : Nat) : (ups0 n).Pairwise (· ≤ ·) := by
 unfold ups0
 refine List.Pairwise.map _ (fun a b h => ?_) (List.pairwise_lt_range (n := n))
 omega
theorem ups0_len (n : Nat) : (ups0 n).length = n := by simp [ups0]
theorem bks_same (l : List Int) (z : Int) (hz : 0 ≤ z) (h : ∀ x ∈ l, sz x = z) (hl : 0 < l.length) : bks l = [ups0 l.length] := by
 obtain ⟨m, hm⟩ : ∃ m, l.length = m + 1 := ⟨l.length - 1, by omega⟩
 unfold bks
 rw [hm, bk_same (ssF l) z hz (ss_same l z h) m (by rw [ssF_len]; omega), List.map_singleton]
 have e : rowOf l (0, m + 1) = ups0 l.length := by
  unfold rowOf
  rw [List.drop_zero, order_same l z h, List.take_of_length_le (by rw [ups0_len]; omega)]
 rw [e, ← srt_eq (List.Perm.refl _) (ups0_sorted _), hm]
theorem bks_none : bks [] = [] := rfl
theorem one_end (l : List Int) (n : Nat) (hn : l.length = n) (hn6 : n < 60) (m z : Int) (hm0 : 0 ≤ m) (hm : m < 70) (hz : 0 ≤ z) (h : ∀ x ∈ l, sz x = z) (k : Nat) (hk : 200 < k) :
  ((tiers_Buckets.f l).bind fun t295 => (if (n : Int) = 0 then (if (t295.length : Int) = 0 then ((tiers_Choose.f l m).bind fun t298 => (if (t298.length : Int) = 0 then ((skerrylaw12_lives.f k).bind fun t301 => (some t301)) else (none))) else (none)) else (if (t295.length : Int) = 1 then (if 0 < (t295.length : Int) then ((skerryref01_Ints.f k (rd_L1 t295 0) (ups0 n)).bind fun t303 => (skerrylaw12_TiersOne.j1 k (n : Int) m l (ups0 n) (!t303))) else (none)) else (skerrylaw12_TiersOne.j1 k (n : Int) m l (ups0 n) true)))) = some true := by
 rw [buckets_f l (by omega), Option.bind_some]
 rcases Nat.eq_zero_or_pos n with h0 | h0
 ·
  obtain rfl : l = [] := List.eq_nil_of_length_eq_zero (by omega)
  rw [if_pos (by omega), bks_none, if_pos (by rfl), choose_f [] m (by simp), bks_none, Option.bind_some, show pick (mx m 2) [] = [] from rfl, if_pos (by rfl), lives k (by omega)]; rfl
 ·
  rw [if_neg (by omega), bks_same l z hz h (by omega), hn, if_pos (by rfl), if_pos (by simp), show rd_L1 [ups0 n] 0 = ups0 n from rfl, ints_self _ (by rw [ups0_len]; omega) k (by rw [ups0_len]; omega), Option.bind_some]
  obtain ⟨k, rfl⟩ : ∃ j, k = j + 1 := ⟨k - 1, by omega⟩
  obtain ⟨k, rfl⟩ : ∃ j, k = j + 1 := ⟨k - 1, by omega⟩
  have hc := choose_f l m (by omega)
  rw [bks_same l z hz h (by omega), hn] at hc
  rw [skerrylaw12_TiersOne.j1, if_neg (by decide)]
  have hlen := ups0_len n
  have hj : ∀ x : Bool, x = decide ((n : Int) < m ∨ (n : Int) < 2) → skerrylaw12_TiersOne.j2 (k + 1) m l (ups0 n) x = some true := fun x hx => by
   rw [skerrylaw12_TiersOne.j2]
   by_cases hd : (n : Int) < m ∨ (n : Int) < 2
   ·
    rw [hx, decide_eq_true hd, if_pos rfl, hc, Option.bind_some]
    have e : pick (mx m 2) [ups0 n] = [] := by
     unfold pick
     rw [List.foldl_cons, List.foldl_nil, if_neg (by rw [hlen]; unfold mx; split <;> omega)]
    rw [e, if_pos (by rfl), lives k (by omega)]; rfl
   ·
    rw [hx, decide_eq_false hd, if_neg (by decide), hc, Option.bind_some]
    have e : pick (mx m 2) [ups0 n] = ups0 n := by
     unfold pick
     rw [List.foldl_cons, List.foldl_nil, if_pos ⟨by rw [hlen]; unfold mx; split <;> omega, by rw [hlen]; simpa using h0⟩]
    rw [e, ints_self _ (by omega) k (by omega), Option.bind_some, if_pos rfl, lives k (by omega)]; rfl
  by_cases h7 : (n : Int) < m
  ·
   rw [if_pos h7]; exact hj true (decide_eq_true (.inl h7)).symm
  ·
   rw [if_neg h7]; exact hj _ (decide_eq_decide.2 ⟨.inr, fun h => h.elim (fun h => absurd h h7) id⟩)
theorem ups0_succ (i : Nat) : ups0 i ++ [(i : Int)] = ups0 (i + 1) := by unfold ups0; rw [List.range_succ, List.map_append]; rfl
theorem one_l0 (s : Int) (n : Nat) (hn : n < 60) (m : Int) (hm0 : 0 ≤ m) (hm : m < 70) : ∀ (d i k : Nat), i + d = n → d + 201 < k → skerrylaw12_TiersOne.l0 k s (n : Int) m (List.replicate i s) (ups0 i) (i : Int) = some true
 | d, i, 0, _, h => by omega
 | 0, i, k + 1, hd, hk => by
  rw [skerrylaw12_TiersOne.l0, if_neg (by omega)]
  obtain rfl : i = n := by omega
  exact one_end _ i (by simp) hn m (sz s) hm0 hm (sz_range s).1 (fun x hx => by rw [List.eq_of_mem_replicate hx]) k (by omega)
 | d + 1, i, k + 1, hd, hk => by
  have e3 : wrap64 ((i : Int) + 1) = ((i + 1 : Nat) : Int) := by rw [wrap_id _ (by omega) (by omega)]; omega
  rw [skerrylaw12_TiersOne.l0, if_pos (by omega), if_pos (by rw [List.length_replicate]; omega), if_pos (by rw [ups0_len]; omega), e3, ups0_succ, ← List.replicate_succ']
  exact one_l0 s n hn m hm0 hm d (i + 1) k (by omega) (by omega)
theorem one_ok (a0 a1 a2 : Int) (h1 : (Lit.int .u64 a1).wf = true) (h2 : (Lit.int .u64 a2).wf = true) : ∃ k, skerrylaw12_TiersOne.f k a0 a1 a2 = some true := by
 have w1 : 0 ≤ a1 := by simp [Lit.wf] at h1; have : IntKind.u64.min = 0 := rfl; omega
 have w2 : 0 ≤ a2 := by simp [Lit.wf] at h2; have : IntKind.u64.min = 0 := rfl; omega
 have e1 : wrap64 (Int.tmod a1 60) = a1 % 60 := by rw [Int.tmod_eq_emod_of_nonneg w1]; exact wrap_id _ (by omega) (by omega)
 have e2 : wrap64 (Int.tmod a2 70) = a2 % 70 := by rw [Int.tmod_eq_emod_of_nonneg w2]; exact wrap_id _ (by omega) (by omega)
 refine ⟨3000, ?_⟩
 unfold skerrylaw12_TiersOne.f
 rw [e1, e2]
 have := one_l0 a0 (a1 % 60).toNat (by omega) (a2 % 70) (by omega) (by omega) (a1 % 60).toNat 0 3000 (by omega) (by omega)
 rw [Int.toNat_of_nonneg (by omega)] at this
 exact this
end Go.Proofs.Ythlffcaaifpdeaa.Pl
