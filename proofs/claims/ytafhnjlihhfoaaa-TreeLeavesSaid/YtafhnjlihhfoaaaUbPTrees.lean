/- TreeLeaves, TreeParts, TreeOrder: their plain laws. -/
import Derived.Test.YtafhnjlihhfoaaaUbQx41
import Derived.Test.YtafhnjlihhfoaaaUbQx0
import Derived.Test.YtafhnjlihhfoaaaUbJ15
import Derived.Test.YtafhnjlihhfoaaaUbQx26
import Derived.Test.YtafhnjlihhfoaaaUbQx27
import Derived.Test.YtafhnjlihhfoaaaUbQx34
import Derived.Test.YtafhnjlihhfoaaaUbJ41
import Derived.Test.YtafhnjlihhfoaaaUbQx13
import Derived.Test.YtafhnjlihhfoaaaUbQx15
import Derived.Test.YtafhnjlihhfoaaaUbPDiffs
namespace Go.Proofs.Ytafhnjlihhfoaaa.Pl
open Go Go.RowKit Go.Proofs.YtafhnjlihhfoaaaW.PrintWords Go.Proofs.YtafhnjlihhfoaaaW.PrintMore Go.Proofs.Ytafhnjlihhfoaaa.Q Go.Proofs.Ytafhnjlihhfoaaa.Mur Go.Proofs.Ytafhnjlihhfoaaa.Ord Go.Proofs.Ytafhnjlihhfoaaa.Nm
set_option linter.unusedVariables false
set_option linter.unusedSimpArgs false
theorem lives_b (k : Nat) (hk : 100030000 ≤ k) : ((skerrylaw22_lives.f k).bind fun t => (some t)) = some true := by rw [lives_f k hk]; rfl
theorem weigh_sm (m : Nat) (hm : m ≤ 100) (l : List Cl) (hF : ∀ c ∈ l, FineC c) (hok : ∀ c ∈ l, okC c) (hl : l.length ≤ 1256584717458) (k : Nat) (hk : l.length < k) :
  ∃ r : Nat, skerrylaw22_weigh.f k l (m : Int) = some (r : Int) ∧ (r > m ∨ (r ≤ m ∧ l.length ≤ m ∧ Sm l)) := by
 obtain ⟨r, e, h⟩ := weigh_f m (by omega) l hF hl k hk
 refine ⟨r, e, ?_⟩
 rcases h with h | ⟨h1, h2⟩
 ·
  exact .inl h
 ·
  by_cases hr : r > m
  ·
   exact .inl hr
  ·
   exact .inr ⟨by omega, by omega, ⟨by omega, fun c hc => by have := h2 c hc; omega, hok⟩⟩
theorem tleaves_l0 (l : List Cl) (h : Sm l) (a : Int) (bs : List Int) (hb : bs.length ≤ 1000000) : ∀ (d i k : Nat), i + d = l.length → d + 100040000 < k → skerrylaw22_TreeLeaves.l0 k l a bs l (l.length : Int) (i : Int) = some true
 | d, i, 0, _, hk => by omega
 | 0, i, k + 1, hd, hk => by
  have hl := h.len
  have hp := (h.pick (depN a) bs).len
  have hlv := leavesC_len l (depN a)
  have h2 := pow_le (dep_eq a).2
  have h64 : (2 : Nat) ^ 6 = 64 := rfl
  rw [skerrylaw22_TreeLeaves.l0, if_neg (by omega), leaves_f l h a k (by omega), Option.bind_some, rleaves_f l h a k (by omega), Option.bind_some, words_self _ (by omega) k (by omega), Option.bind_some, if_pos rfl,
   pick_f l h a bs k (by omega), Option.bind_some, rpick_f l h a bs hb k (by omega), Option.bind_some, like_self _ (by omega) k (by omega), Option.bind_some, if_pos rfl]
  exact lives_b k (by omega)
 | d + 1, i, k + 1, hd, hk => by
  have hi : i < l.length := by omega
  have hl := h.len
  have hs := h.part (List.getElem_mem hi)
  rw [skerrylaw22_TreeLeaves.l0, if_pos (by omega), if_pos (by omega), if_pos (by omega), rd_cell l i hi, tbucket_f _ a (by omega), Option.bind_some, rbucket_f _ a (by omega) k (by omega), Option.bind_some, if_pos rfl, next_n hi (by omega)]
  exact tleaves_l0 l h a bs hb d (i + 1) k (by omega) (by omega)
theorem tleaves_ok (l : List Cl) (a : Int) (bs : List Int) (hF : ∀ c ∈ l, FineC c) (hok : ∀ c ∈ l, okC c) (hl0 : l.length ≤ 1256584717421) : ∃ k, skerrylaw22_TreeLeaves.f k l a bs = some true := by
 obtain ⟨K, hK⟩ : ∃ K : Nat, K = l.length + 100050000 := ⟨_, rfl⟩
 refine ⟨K + 1, ?_⟩
 obtain ⟨r, hr, hc⟩ := weigh_sm 100 (by omega) l hF hok (by omega) (K + 1) (by omega)
 have none_ : skerrylaw22_TreeLeaves.j0 (K + 1) l a bs true = some true := by
  rw [skerrylaw22_TreeLeaves.j0, if_pos rfl]
  exact lives_b _ (by omega)
 unfold skerrylaw22_TreeLeaves.f
 rw [show (100 : Int) = ((100 : Nat) : Int) from rfl, hr, Option.bind_some]
 rcases hc with hc | ⟨h1, h2, h3⟩
 ·
  rw [if_pos (by omega)]; exact none_
 ·
  rw [if_neg (by omega)]
  by_cases h4 : (bs.length : Int) > 200
  ·
   rw [decide_eq_true h4]; exact none_
  ·
   rw [decide_eq_false h4, skerrylaw22_TreeLeaves.j0, if_neg (by simp)]
   exact tleaves_l0 l h3 a bs (by omega) l.length 0 K (by omega) (by omega)
def upto (d n : Nat) (m : List Cl) : List Cl := (List.range n).flatMap fun b => inB d b m
end Go.Proofs.Ytafhnjlihhfoaaa.Pl
