/- TreeLeaves, TreeParts, TreeOrder: their plain laws. -/
import Derived.Test.YtafhnjlihhfoaaaUcQx0
import Derived.Test.YtafhnjlihhfoaaaUcJ16
import Derived.Test.YtafhnjlihhfoaaaUcQx28
import Derived.Test.YtafhnjlihhfoaaaUcQx29
import Derived.Test.YtafhnjlihhfoaaaUcQx33
import Derived.Test.YtafhnjlihhfoaaaUcQx36
import Derived.Test.YtafhnjlihhfoaaaUcJ25
import Derived.Test.YtafhnjlihhfoaaaUcJ38
import Derived.Test.YtafhnjlihhfoaaaUcQx51
import Derived.Test.YtafhnjlihhfoaaaUcQx15
import Derived.Test.YtafhnjlihhfoaaaUcQx17
import Derived.Test.YtafhnjlihhfoaaaUcPDiffs
namespace Go.Proofs.Ytafhnjlihhfoaaa.Pl
open Go Go.RowKit Go.Proofs.YtafhnjlihhfoaaaW.PrintWords Go.Proofs.YtafhnjlihhfoaaaW.PrintMore Go.Proofs.Ytafhnjlihhfoaaa.Q Go.Proofs.Ytafhnjlihhfoaaa.Mur Go.Proofs.Ytafhnjlihhfoaaa.Ord Go.Proofs.Ytafhnjlihhfoaaa.Nm
set_option linter.unusedVariables false
set_option linter.unusedSimpArgs false
theorem lives_b (k : Nat) (hk : 100030000 ≤ k) : ((skerrylaw22_lives.f k).bind fun t => (some t)) = some true := by rw [lives_f k hk]; rfl
theorem weigh_sm (m : Nat) (hm : m ≤ 100) (l : List Cl) (hF : ∀ c ∈ l, FineC c) (hok : ∀ c ∈ l, okC c) (hl : l.length ≤ 1256584717458) (k : Nat) (hk : l.length < k) :
  ∃ r : Nat, skerrylaw22_weigh.f k l (m : Int) = some (r : Int) ∧ (r > m ∨ (r ≤ m ∧ l.length ≤ m ∧ Sm l)) := by
 obtain ⟨r, e, h⟩ := weigh_f m (by omega) l hF hl k hk
 refine ⟨r, e, ?_⟩
 rcases h with h | ⟨h1, h2⟩
 ·
  exact .inl h
 ·
  by_cases hr : r > m
  ·
   exact .inl hr
  ·
   exact .inr ⟨by omega, by omega, ⟨by omega, fun c hc => by have := h2 c hc; omega, hok⟩⟩
def upto (d n : Nat) (m : List Cl) : List Cl := (List.range n).flatMap fun b => inB d b m
theorem upto_succ (d n : Nat) (m : List Cl) : upto d (n + 1) m = upto d n m ++ inB d n m := by
 unfold upto
 rw [List.range_succ, List.flatMap_append]
 simp
theorem upto_perm (d : Nat) (m : List Cl) : ∀ n, (upto d n m).Perm (m.filter fun c => decide (bk d c < (n : Int)) && decide (0 ≤ bk d c))
 | 0 => by
  have : (m.filter fun c => decide (bk d c < ((0 : Nat) : Int)) && decide (0 ≤ bk d c)) = [] := List.filter_eq_nil_iff.2 (fun c _ => by simp)
  rw [this]; exact List.Perm.refl _
 | n + 1 => by
  rw [upto_succ]
  refine ((upto_perm d m n).append_right _).trans ?_
  have h := List.filter_append_perm (fun c => decide (bk d c < (n : Int))) (m.filter fun c => decide (bk d c < ((n + 1 : Nat) : Int)) && decide (0 ≤ bk d c))
  rw [List.filter_filter, List.filter_filter] at h
  refine List.Perm.trans (List.Perm.of_eq ?_) h
  congr 1
  ·
   exact List.filter_congr (fun c _ => by rw [Bool.eq_iff_iff]; simp; omega)
  ·
   unfold inB
   exact List.filter_congr (fun c _ => by rw [Bool.eq_iff_iff]; simp; omega)
theorem upto_all (d : Nat) (hd : d ≤ 6) (m : List Cl) : (upto d (2 ^ d) m).Perm m := by
 refine (upto_perm d m (2 ^ d)).trans (List.Perm.of_eq ?_)
 refine List.filter_eq_self.2 (fun c _ => ?_)
 obtain ⟨b, hb, h2⟩ := bk_nat d hd c
 rw [hb]
 simp
 exact_mod_cast h2
theorem perm_one {α : Type} {l m : List α} (h : l.Perm m) (h1 : m.length ≤ 1) : l = m := by
 match m, h1 with
 | [], _ => exact List.Perm.eq_nil h
 | [x], _ => exact List.perm_singleton.1 h
theorem inc_one {m : List Cl} (h : Inc cmpK keyC m) (k : S32) : (m.filter fun x => cmpK (keyC x) k == 0).length ≤ 1 := by
 have h2 := List.Pairwise.filter (fun x => cmpK (keyC x) k == 0) h
 match hm : m.filter fun x => cmpK (keyC x) k == 0 with
 | [] => simp
 | [x] => simp
 | x :: y :: t =>
  exfalso
  have hx : x ∈ m.filter fun x => cmpK (keyC x) k == 0 := by rw [hm]; simp
  have hy : y ∈ m.filter fun x => cmpK (keyC x) k == 0 := by rw [hm]; simp
  have ex : cmpK (keyC x) k = 0 := by simpa using (List.mem_filter.1 hx).2
  have ey : cmpK (keyC y) k = 0 := by simpa using (List.mem_filter.1 hy).2
  rw [hm] at h2
  have h3 := (List.pairwise_cons.1 h2).1 y (by simp)
  have := same_key gdC.cc ex ey
  omega
theorem norm_perm {m l : List Cl} (hi : Inc cmpK keyC m) (h : l.Perm m) : normC l = m := by
 have h1 : normC l = normC m := norm_ext gdC.cc joinC_key (fun k => by
  unfold gets
  rw [perm_one (h.filter _) (inc_one hi k)])
 rw [h1]
 exact norm_self hi
theorem normC_inc (l : List Cl) : Inc cmpK keyC (normC l) := norm_inc gdC.cc joinC_key l
theorem tparts_l1 (l : List Cl) (a : Int) (n b : Int) (os : List Cl) (hos : os.length ≤ 100000) (R : Option Bool) (m : List Cl) (hm : m.length ≤ 1000) (hb : ∀ c ∈ m, bk (depN a) c = b) (hs : ∀ c ∈ m, c.f0.f1.size ≤ 4000) (k : Nat) (hR : skerrylaw22_TreeParts.l0 k l a n (os ++ m) (wrap64 (b + 1)) = R) :
  ∀ (d i : Nat), i + d = m.length → skerrylaw22_TreeParts.l1 (k + d + 1) l a n os b m m (m.length : Int) (i : Int) = R
 | 0, i, hd => by
  rw [skerrylaw22_TreeParts.l1, if_neg (by omega), if_pos (by omega)]
  exact hR
 | d + 1, i, hd => by
  have hi : i < m.length := by omega
  have h1 := hb _ (List.getElem_mem hi)
  have h2 := hs _ (List.getElem_mem hi)
  have h3 : bucketOf (m[i]).f0.f1 (depN a : Int) = b := h1
  rw [show k + (d + 1) + 1 = (k + d + 1) + 1 by omega, skerrylaw22_TreeParts.l1, if_pos (by omega), if_pos (by omega), if_pos (by omega), rd_cell m i hi, tbucket_f _ a (by omega), Option.bind_some, if_pos h3, next_n hi (by omega)]
  exact tparts_l1 l a n b os hos R m hm hb hs k hR d (i + 1) (by omega)
theorem upto_le (d n : Nat) (m : List Cl) : (upto d n m).length ≤ m.length := Nat.le_trans (Nat.le_of_eq (upto_perm d m n).length_eq) (List.length_filter_le _ _)
theorem tparts_l0 (l : List Cl) (h : Sm l) (a : Int) : ∀ (d i k : Nat), i + d = 2 ^ depN a → 2000 * d + 100040000 < k → skerrylaw22_TreeParts.l0 k l a ((2 ^ depN a : Nat) : Int) (upto (depN a) i (normC l)) (i : Int) = some true
 | d, i, 0, _, hk => by omega
 | 0, i, k + 1, hd, hk => by
  obtain rfl : i = 2 ^ depN a := by omega
  have hl := h.len
  have hn := h.norm.len
  have hd6 := (dep_eq a).2
  have h2 := pow_le hd6
  have h64 : (2 : Nat) ^ 6 = 64 := rfl
  have hp := upto_all (depN a) hd6 (normC l)
  have he := norm_perm (normC_inc l) hp
  have hlv := leavesC_len l (depN a)
  have hlen := hp.length_eq
  rw [skerrylaw22_TreeParts.l0, if_neg (by omega), leaves_f l h a k (by omega), Option.bind_some, if_pos (by rw [hlv]), rnorm_f _ (by omega) k (by omega), Option.bind_some, rnorm_f l (by omega) k (by omega), Option.bind_some, he, like_self _ (by omega) k (by omega), Option.bind_some, if_pos rfl, Option.bind_some, if_pos (by omega)]
  exact lives_b k (by omega)
 | d + 1, i, k + 1, hd, hk => by
  have hl := h.len
  have hn := h.norm.len
  have hd6 := (dep_eq a).2
  have h2 := pow_le hd6
  have h64 : (2 : Nat) ^ 6 = 64 := rfl
  have hu := upto_le (depN a) i (normC l)
  have hm := h.norm.inB (depN a) i
  have hml := hm.len
  have e1 : wrap64 ((i : Int) + 1) = ((i + 1 : Nat) : Int) := by unfold wrap64; omega
  have ih := tparts_l0 l h a d (i + 1) (k - (inB (depN a) i (normC l)).length - 1) (by omega) (by omega)
  rw [upto_succ, ← e1] at ih
  have h3 := tparts_l1 l a ((2 ^ depN a : Nat) : Int) (i : Int) (upto (depN a) i (normC l)) (by omega) (some true) (inB (depN a) i (normC l)) hml (fun c hc => by simpa using (List.mem_filter.1 hc).2) (fun c hc => hm.part hc) _ ih (inB (depN a) i (normC l)).length 0 (by omega)
  rw [skerrylaw22_TreeParts.l0, if_pos (by omega), pick_f l h a _ k (by omega), Option.bind_some, pick_one]
  rw [show k - (inB (depN a) i (normC l)).length - 1 + (inB (depN a) i (normC l)).length + 1 = k by omega] at h3
  exact h3
theorem tparts_ok (l : List Cl) (a : Int) (hF : ∀ c ∈ l, FineC c) (hok : ∀ c ∈ l, okC c) (hl0 : l.length ≤ 1256584717421) : ∃ k, skerrylaw22_TreeParts.f k l a = some true := by
 obtain ⟨K, hK⟩ : ∃ K : Nat, K = l.length + 100950000 := ⟨_, rfl⟩
 refine ⟨K, ?_⟩
 obtain ⟨r, hr, hc⟩ := weigh_sm 60 (by omega) l hF hok (by omega) K (by omega)
 unfold skerrylaw22_TreeParts.f
 rw [show (60 : Int) = ((60 : Nat) : Int) from rfl, hr, Option.bind_some]
 rcases hc with hc | ⟨h1, h2, h3⟩
 ·
  rw [if_pos (by omega)]; exact lives_b K (by omega)
 ·
  have hd6 := (dep_eq a).2
  have h2 := pow_le hd6
  have h64 : (2 : Nat) ^ 6 = 64 := rfl
  have e0 : IntKind.u64.wrap (depN a : Int) = (depN a : Int) := wraps_u64 _ (by omega) (by omega)
  rw [if_neg (by omega), rdep_f, Option.bind_some, e0, if_pos (by omega), shl1 _ hd6]
  have := tparts_l0 l h3 a (2 ^ depN a) 0 K (by omega) (by omega)
  exact this
end Go.Proofs.Ytafhnjlihhfoaaa.Pl
