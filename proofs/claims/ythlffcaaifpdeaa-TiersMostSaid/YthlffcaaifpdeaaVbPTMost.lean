/- TiersMost, plain. -/
import Derived.Test.YthlffcaaifpdeaaVbQx17
import Derived.Test.YthlffcaaifpdeaaVbPTa
set_option linter.unusedVariables false
set_option linter.unusedSimpArgs false
namespace Go.Proofs.Ythlffcaaifpdeaa.Pl
open Go.RowKit Go.Proofs.Ythlffcaaifpdeaa.Q Go.Proofs.YthlffcaaifpdeaaW.PrintWords Go.Proofs.YthlffcaaifpdeaaW.PrintLast Go.Proofs.Ythlffcaaifpdeaa.Srt Go.Proofs.Ythlffcaaifpdeaa.Ord
theorem rd_rowM (bs : List (List Int)) (i : Nat) (hi : i < bs.length) : rd_L1 bs (i : Int) = bs[i] := by unfold rd_L1; rw [Int.toNat_natCast, List.getD_eq_getElem?_getD, List.getElem?_eq_getElem hi]; rfl
theorem most_l0 (m : Int) (P : List Int) (bs : List (List Int)) (hc : bs.length ≤ 300) (hs : ∀ b ∈ bs, b.length ≤ 300) (hP : P.length ≤ 300) (h1 : P = [] ∨ (P ∈ bs ∧ m ≤ (P.length : Int))) (h2 : ∀ b ∈ bs, m ≤ (b.length : Int) → b.length ≤ P.length) :
  ∀ (d i k : Nat) (x : Bool), i + d = bs.length → d + 1001 < k → (x = true ∨ P ∈ bs.drop i) → skerrylaw12_TiersMost.l0 k m P x bs (bs.length : Int) (i : Int) = some true
 | d, i, 0, _, _, h, _ => by omega
 | 0, i, k + 1, x, hd, hk, hx => by
  have hxt : x = true := hx.elim id (fun h => by rw [List.drop_of_length_le (by omega)] at h; cases h)
  subst hxt
  rw [skerrylaw12_TiersMost.l0, if_neg (by omega), if_pos rfl]
  rcases h1 with e | e
  ·
   rw [if_pos (by rw [e]; rfl), lives k (by omega)]; rfl
  ·
   by_cases h0 : (P.length : Int) = 0
   ·
    rw [if_pos h0, lives k (by omega)]; rfl
   ·
    rw [if_neg h0, if_pos e.2, lives k (by omega)]; rfl
 | d + 1, i, k + 1, x, hd, hk, hx => by
  have hi : i < bs.length := by omega
  have hb := hs _ (List.getElem_mem hi)
  have h3 := h2 _ (List.getElem_mem hi)
  have e3 : wrap64 ((i : Int) + 1) = ((i + 1 : Nat) : Int) := by rw [wrap_id _ (by omega) (by omega)]; omega
  have hgo : ∀ y, (y = true ∨ P ∈ bs.drop (i + 1)) → skerrylaw12_TiersMost.l0 k m P y bs (bs.length : Int) ((i + 1 : Nat) : Int) = some true := fun y hy => most_l0 m P bs hc hs hP h1 h2 d (i + 1) k y (by omega) (by omega) hy
  have hy : ∀ y : Bool, x = false → y = decide (bs[i] = P) → (y = true ∨ P ∈ bs.drop (i + 1)) := fun y hx0 hy => by
   rcases hx with hx | hx
   ·
    rw [hx0] at hx; cases hx
   ·
    rw [List.drop_eq_getElem_cons hi] at hx
    rcases List.mem_cons.1 hx with e | hx
    ·
     exact .inl (by rw [hy]; exact decide_eq_true e.symm)
    ·
     exact .inr hx
  rw [skerrylaw12_TiersMost.l0, if_pos (by omega), if_pos (by omega), if_pos (by omega), rd_rowM _ i hi, e3]
  by_cases hm : ((bs[i]).length : Int) ≥ m
  ·
   rw [if_pos hm, if_neg (by have := h3 hm; omega)]
   cases x with
   | true => rw [if_pos rfl]; exact hgo true (.inl rfl)
   | false => rw [if_neg (by decide), ints _ _ (by omega) k (by omega), Option.bind_some]; exact hgo _ (hy _ rfl rfl)
  ·
   rw [if_neg hm]
   cases x with
   | true => rw [if_pos rfl]; exact hgo true (.inl rfl)
   | false => rw [if_neg (by decide), ints _ _ (by omega) k (by omega), Option.bind_some]; exact hgo _ (hy _ rfl rfl)
theorem most_j0 (l : List Int) (hl : l.length ≤ 300) (m : Int) (hm : 2 ≤ m) (k : Nat) (hk : 2000 < k) : skerrylaw12_TiersMost.j0 k l m (pick m (bks l)) = some true := by
 obtain ⟨k, rfl⟩ : ∃ j, k = j + 1 := ⟨k - 1, by omega⟩
 have h := pick_tells m hm (bks l)
 have hs : (pick m (bks l)).length ≤ 300 := by
  rcases h.1 with e | e
  ·
   rw [e]; simp
  ·
   have := bks_short l _ e.1; omega
 rw [skerrylaw12_TiersMost.j0, buckets_f l (by omega), Option.bind_some]
 refine most_l0 m _ (bks l) (by have := bks_count l; omega) (fun b hb => by have := bks_short l b hb; omega) hs h.1 h.2 (bks l).length 0 k _ (by omega) (by have := bks_count l; omega) ?_
 rcases h.1 with e | e
 ·
  rw [e]; exact .inl rfl
 ·
  exact .inr (by rw [List.drop_zero]; exact e.1)
theorem most_ok (l : List Int) (a : Int) : ∃ k, skerrylaw12_TiersMost.f k l a = some true := by
 refine ⟨3000, ?_⟩
 unfold skerrylaw12_TiersMost.f
 by_cases h : (l.length : Int) > 300
 ·
  rw [if_pos h, lives 3000 (by omega)]; rfl
 ·
  generalize wrap64 (Int.tmod a 20) = n
  rw [if_neg h, choose_f l n (by omega), Option.bind_some]
  by_cases h2 : n < 2
  ·
   rw [if_pos h2, show mx n 2 = 2 by unfold mx; rw [if_pos h2]]
   exact most_j0 l (by omega) 2 (by omega) 3000 (by omega)
  ·
   rw [if_neg h2, show mx n 2 = n by unfold mx; rw [if_neg h2]]
   exact most_j0 l (by omega) n (by omega) 3000 (by omega)
end Go.Proofs.Ythlffcaaifpdeaa.Pl
