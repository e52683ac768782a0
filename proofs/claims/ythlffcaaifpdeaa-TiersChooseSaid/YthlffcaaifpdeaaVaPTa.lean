/- Plain laws of tiers: what all four statements use. -/
import Derived.Test.YthlffcaaifpdeaaVaQx13
import Derived.Test.YthlffcaaifpdeaaVaQx14
set_option linter.unusedVariables false
set_option linter.unusedSimpArgs false
namespace Go.Proofs.Ythlffcaaifpdeaa.Pl
open Go.RowKit Go.Proofs.Ythlffcaaifpdeaa.Q Go.Proofs.YthlffcaaifpdeaaW.PrintWords Go.Proofs.YthlffcaaifpdeaaW.PrintLast Go.Proofs.Ythlffcaaifpdeaa.Srt Go.Proofs.Ythlffcaaifpdeaa.Ord
theorem wrap_id (i : Int) (h0 : -9223372036854775808 ≤ i) (h1 : i ≤ 9223372036854775807) : wrap64 i = i := by unfold wrap64; omega
theorem ints_l0 (xs ys : List Int) (hx : xs.length ≤ 1000000) (hy : xs.length = ys.length) : ∀ (d i k : Nat), i + d = xs.length → xs.take i = ys.take i → d < k → skerryref01_Ints.l0 k xs ys (xs.length : Int) (i : Int) = some (decide (xs = ys))
 | d, i, 0, _, _, h => by omega
 | 0, i, k + 1, hd, he, _ => by
  rw [skerryref01_Ints.l0, if_neg (by omega)]
  rw [List.take_of_length_le (by omega), List.take_of_length_le (by omega)] at he
  rw [decide_eq_true he]
 | d + 1, i, k + 1, hd, he, hk => by
  have hi : i < xs.length := by omega
  have e1 : rd xs (i : Int) = xs[i] := by unfold rd; rw [Int.toNat_natCast, List.getD_eq_getElem?_getD, List.getElem?_eq_getElem hi]; rfl
  have e2 : rd ys (i : Int) = ys[i] := by unfold rd; rw [Int.toNat_natCast, List.getD_eq_getElem?_getD, List.getElem?_eq_getElem (by omega)]; rfl
  have e3 : wrap64 ((i : Int) + 1) = ((i + 1 : Nat) : Int) := by rw [wrap_id _ (by omega) (by omega)]; omega
  rw [skerryref01_Ints.l0, if_pos (by omega), if_pos (by omega), if_pos (by omega), if_pos (by omega), e1, e2]
  by_cases h : xs[i] = ys[i]
  ·
   rw [if_pos h, e3]
   exact ints_l0 xs ys hx hy d (i + 1) k (by omega) (by rw [List.take_succ_eq_append_getElem hi, List.take_succ_eq_append_getElem (by omega), he, h]) (by omega)
  ·
   rw [if_neg h, decide_eq_false (fun e => h (by subst e; rfl))]
theorem ints (xs ys : List Int) (hx : xs.length ≤ 1000000) (k : Nat) (hk : xs.length < k) : skerryref01_Ints.f k xs ys = some (decide (xs = ys)) := by
 unfold skerryref01_Ints.f
 by_cases h : xs.length = ys.length
 ·
  rw [if_pos (by omega)]; exact ints_l0 xs ys hx h xs.length 0 k (by omega) (by simp) hk
 ·
  rw [if_neg (by omega), decide_eq_false (fun e => h (by rw [e]))]
theorem ints_self (xs : List Int) (hx : xs.length ≤ 1000000) (k : Nat) (hk : xs.length < k) : skerryref01_Ints.f k xs xs = some true := by
 rw [ints xs xs hx k hk, decide_eq_true rfl]
def bks (l : List Int) : List (List Int) := ((bkAt (ssF l) l.length).cuts).map fun x => srt (rowOf l x)
theorem buckets_f (l : List Int) (hl : l.length ≤ 1000000) : tiers_Buckets.f l = some (bks l) := by unfold tiers_Buckets.f; rw [if_pos hl]; rfl
theorem rbuckets_f (l : List Int) (hl : l.length ≤ 1000000) : skerryref12_Buckets.f l = some (bks l) := by unfold skerryref12_Buckets.f; rw [if_pos hl]; rfl
theorem bks_count (l : List Int) : (bks l).length ≤ l.length := by
 unfold bks; rw [List.length_map]
 exact (BI.at_ (ssF l) (ssF_range l) l.length (by rw [ssF_len]; exact Nat.le_refl _)).n
theorem srt_len (xs : List Int) : (srt xs).length = xs.length := (List.mergeSort_perm _ _).length_eq
theorem bks_short (l : List Int) : ∀ b ∈ bks l, b.length ≤ l.length := fun b hb => by
 obtain ⟨x, hx, rfl⟩ := List.mem_map.1 hb
 have := (cuts_in (ssF l) l.length (by rw [ssF_len]; exact Nat.le_refl _)).2 x hx
 rw [srt_len, row_len l x this]; omega
def pick (m : Int) (bs : List (List Int)) : List Int := bs.foldl (fun best b => if m ≤ (b.length : Int) ∧ best.length < b.length then b else best) []
theorem all_short (l : List Int) (hl : l.length ≤ 1000000) : ((bks l).all fun b => decide (b.length ≤ 1000000)) = true := List.all_eq_true.2 fun b hb => decide_eq_true (by have := bks_short l b hb; omega)
theorem choose_f (l : List Int) (m : Int) (hl : l.length ≤ 1000000) : tiers_Choose.f l m = some (pick (mx m 2) (bks l)) := by
 unfold tiers_Choose.f
 rw [buckets_f l hl, Option.bind_some, if_pos ⟨by have := bks_count l; omega, all_short l hl⟩]; rfl
theorem rchoose_f (l : List Int) (m : Int) (hl : l.length ≤ 1000000) : skerryref12_Choose.f l m = some (pick (mx m 2) (bks l)) := by
 unfold skerryref12_Choose.f
 rw [rbuckets_f l hl, Option.bind_some, if_pos ⟨by have := bks_count l; omega, all_short l hl⟩]; rfl
theorem pick_snoc (m : Int) (bs : List (List Int)) (b : List Int) : pick m (bs ++ [b]) = if m ≤ (b.length : Int) ∧ (pick m bs).length < b.length then b else pick m bs := by unfold pick; rw [List.foldl_append]; rfl
theorem snoc_ind {α : Type} {P : List α → Prop} (h0 : P []) (hs : ∀ l a, P l → P (l ++ [a])) (l : List α) : P l := by
 have : ∀ l : List α, P l.reverse := fun l => by
  induction l with
  | nil => exact h0
  | cons a l ih => rw [List.reverse_cons]; exact hs _ _ ih
 rw [← List.reverse_reverse l]; exact this _
theorem pick_tells (m : Int) (hm : 2 ≤ m) (bs : List (List Int)) : (pick m bs = [] ∨ (pick m bs ∈ bs ∧ m ≤ ((pick m bs).length : Int))) ∧ ∀ b ∈ bs, m ≤ (b.length : Int) → b.length ≤ (pick m bs).length := by
 refine snoc_ind (P := fun bs => (pick m bs = [] ∨ (pick m bs ∈ bs ∧ m ≤ ((pick m bs).length : Int))) ∧ ∀ b ∈ bs, m ≤ (b.length : Int) → b.length ≤ (pick m bs).length) ⟨.inl rfl, by simp⟩ (fun bs b ih => ?_) bs
 ·
  rw [pick_snoc]
  split
  ·
   rename_i h
   refine ⟨.inr ⟨by simp, h.1⟩, fun b' hb' h' => ?_⟩
   rcases List.mem_append.1 hb' with hb' | hb'
   ·
    have := ih.2 b' hb' h'; omega
   ·
    rw [List.mem_singleton.1 hb']; exact Nat.le_refl _
  ·
   rename_i h
   refine ⟨ih.1.imp id (fun h => ⟨List.mem_append_left _ h.1, h.2⟩), fun b' hb' h' => ?_⟩
   rcases List.mem_append.1 hb' with hb' | hb'
   ·
    exact ih.2 b' hb' h'
   ·
    rw [List.mem_singleton.1 hb'] at h' ⊢
    exact Nat.le_of_not_lt fun h2 => h ⟨h', h2⟩
theorem ex_order : nums (orderF [10, 100, 12, 9]) = [3, 0, 2, 1] := by decide
theorem ex_cuts : (bkAt (ssF [10, 100, 12, 9]) 4).cuts = [(0, 3), (3, 1)] := by decide
theorem ex_bks : bks [10, 100, 12, 9] = [[0, 2, 3], [1]] := by
 unfold bks
 rw [show ([10, 100, 12, 9] : List Int).length = 4 from rfl, ex_cuts]
 have h1 : srt (rowOf [10, 100, 12, 9] (0, 3)) = [0, 2, 3] := (srt_eq (by unfold rowOf; rw [ex_order]; decide) (by decide)).symm
 have h2 : srt (rowOf [10, 100, 12, 9] (3, 1)) = [1] := (srt_eq (by unfold rowOf; rw [ex_order]; decide) (by decide)).symm
 rw [List.map_cons, List.map_cons, List.map_nil, h1, h2]
theorem lives (k : Nat) (hk : 10 < k) : skerrylaw12_lives.f k = some true := by
 unfold skerrylaw12_lives.f
 rw [Option.bind_some, buckets_f _ (by decide), Option.bind_some, ex_bks]
 rw [if_pos (by decide), if_pos (by decide), show rd_L1 [[0, 2, 3], [1]] 0 = [0, 2, 3] from rfl, ints_self _ (by decide) k (by simp; omega), Option.bind_some, if_pos rfl]
 rw [choose_f _ _ (by decide), choose_f _ _ (by decide), ex_bks, Option.bind_some]
 rw [show pick (mx 2 2) [[0, 2, 3], [1]] = [0, 2, 3] by decide, ints_self _ (by decide) k (by simp; omega), Option.bind_some, if_pos rfl, Option.bind_some]
 decide
end Go.Proofs.Ythlffcaaifpdeaa.Pl
