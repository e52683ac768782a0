/- TreeLeaves, TreeParts, TreeOrder: their plain laws. -/
import Derived.Test.YtafhnjlihhfoaaaUdQx0
import Derived.Test.YtafhnjlihhfoaaaUdJ18
import Derived.Test.YtafhnjlihhfoaaaUdQx28
import Derived.Test.YtafhnjlihhfoaaaUdQx29
import Derived.Test.YtafhnjlihhfoaaaUdJ31
import Derived.Test.YtafhnjlihhfoaaaProg
import Derived.Test.YtafhnjlihhfoaaaUdJ13
import Derived.Lib.Hide
import Derived.Outline
import Derived.Test.YtafhnjlihhfoaaaUdJ0
import Derived.Shelf.SlSortCmp.KitK
import Derived.Shelf.SlicesQ.IndexFunc
import Derived.Lib.SlKept
import Derived.Test.YtafhnjlihhfoaaaUdJ11
import Derived.BigQuiet
import Derived.Test.YtafhnjlihhfoaaaUdQx26
import Derived.Test.YtafhnjlihhfoaaaUdQx54
import Derived.Test.YtafhnjlihhfoaaaUdPDiffs
namespace Go.Proofs.Ytafhnjlihhfoaaa.Pl
open Go Go.RowKit Go.Proofs.YtafhnjlihhfoaaaW.PrintWords Go.Proofs.YtafhnjlihhfoaaaW.PrintMore Go.Proofs.Ytafhnjlihhfoaaa.Q Go.Proofs.Ytafhnjlihhfoaaa.Mur Go.Proofs.Ytafhnjlihhfoaaa.Ord Go.Proofs.Ytafhnjlihhfoaaa.Nm
set_option linter.unusedVariables false
set_option linter.unusedSimpArgs false
theorem lives_b (k : Nat) (hk : 100030000 ≤ k) : ((skerrylaw22_lives.f k).bind fun t => (some t)) = some true := by rw [lives_f k hk]; rfl
theorem weigh_sm (m : Nat) (hm : m ≤ 100) (l : List Cl) (hF : ∀ c ∈ l, FineC c) (hok : ∀ c ∈ l, okC c) (hl : l.length ≤ 1256584717458) (k : Nat) (hk : l.length < k) :
  ∃ r : Nat, skerrylaw22_weigh.f k l (m : Int) = some (r : Int) ∧ (r > m ∨ (r ≤ m ∧ l.length ≤ m ∧ Sm l)) := by
 obtain ⟨r, e, h⟩ := weigh_f m (by omega) l hF hl k hk
 refine ⟨r, e, ?_⟩
 rcases h with h | ⟨h1, h2⟩
 ·
  exact .inl h
 ·
  by_cases hr : r > m
  ·
   exact .inl hr
  ·
   exact .inr ⟨by omega, by omega, ⟨by omega, fun c hc => by have := h2 c hc; omega, hok⟩⟩
def upto (d n : Nat) (m : List Cl) : List Cl := (List.range n).flatMap fun b => inB d b m
theorem tord_l0 (l : List Cl) (h : Sm l) (hl : l.length ≤ 60) (a : Int) : ∀ (d i k : Nat) (x y : List Cl), i + d = l.length → d + 100040000 < k → x.length ≤ i → y.length ≤ 2 * i → (∀ c ∈ x, c ∈ l ∧ PG c) → (∀ c, c ∈ y ↔ c ∈ x) →
  skerrylaw22_TreeOrder.l0 k a x y l (l.length : Int) (i : Int) = some true
 | d, i, 0, _, _, _, hk, _, _, _, _ => by omega
 | 0, i, k + 1, x, y, hd, hk, hx, hy, hm, he => by
  have hxs : Sm x := ⟨by omega, fun c hc => h.sz c (hm c hc).1, fun c hc => h.ok c (hm c hc).1⟩
  have hys : Sm y := ⟨by omega, fun c hc => h.sz c (hm c ((he c).1 hc)).1, fun c hc => h.ok c (hm c ((he c).1 hc)).1⟩
  have hn : normC x = normC y := norm_dom gdC (fun c hc => (hm c hc).2) (fun c hc => (hm c ((he c).1 hc)).2) (Dom.sub gdC (fun c hc => (he c).2 hc)) (Dom.sub gdC (fun c hc => (he c).1 hc))
  have hlv : leavesC x (depN a) = leavesC y (depN a) := by unfold leavesC; rw [hn]
  have hlen := leavesC_len y (depN a)
  have hd6 := (dep_eq a).2
  have h2 := pow_le hd6
  have h64 : (2 : Nat) ^ 6 = 64 := rfl
  have hbl := buildL_len (leavesC y (depN a)) (leaves_pw y _ hd6)
  have e1 : wrap64 (2 * ((leavesC y (depN a)).length : Int)) = ((leavesC y (depN a)).length : Int) + ((leavesC y (depN a)).length : Int) := by unfold wrap64; omega
  rw [skerrylaw22_TreeOrder.l0, if_neg (by omega), leaves_f x hxs a k (by omega), Option.bind_some, leaves_f y hys a k (by omega), Option.bind_some, hlv, words_self _ (by omega) k (by omega), Option.bind_some, if_pos rfl, build_f, Option.bind_some, Option.bind_some, diff_f, diffL_self, Option.bind_some, if_pos (by rfl), Option.bind_some, e1, if_pos (by omega)]
  exact lives_b k (by omega)
 | d + 1, i, k + 1, x, y, hd, hk, hx, hy, hm, he => by
  have hi : i < l.length := by omega
  have hc := List.getElem_mem hi
  rw [skerrylaw22_TreeOrder.l0, if_pos (by omega), if_pos (by omega), if_pos (by omega), rd_cell l i hi, good_f, Option.bind_some, next_n hi (by omega)]
  by_cases hg : goodB l[i] = true
  ·
   rw [if_pos hg, if_pos (by omega), Option.bind_some, if_pos (by simp; omega)]
   refine tord_l0 l h hl a d (i + 1) k (x ++ [l[i]]) ([l[i], l[i]] ++ y) (by omega) (by omega) (by simp; omega) (by simp; omega) (fun c hc' => ?_) (fun c => ?_)
   ·
    rcases List.mem_append.1 hc' with h1 | h1
    ·
     exact hm c h1
    ·
     rw [List.mem_singleton.1 h1]; exact ⟨hc, hg⟩
   ·
    simp only [List.mem_append, List.mem_cons, List.not_mem_nil, or_false, he c]
    constructor
    ·
     rintro ((h1 | h1) | h1)
     ·
      exact .inr h1
     ·
      exact .inr h1
     ·
      exact .inl h1
    ·
     rintro (h1 | h1)
     ·
      exact .inr h1
     ·
      exact .inl (.inl h1)
  ·
   rw [if_neg hg]
   exact tord_l0 l h hl a d (i + 1) k x y (by omega) (by omega) (by omega) (by omega) hm he
theorem torder_ok (l : List Cl) (a : Int) (hF : ∀ c ∈ l, FineC c) (hok : ∀ c ∈ l, okC c) (hl0 : l.length ≤ 1256584717421) : ∃ k, skerrylaw22_TreeOrder.f k l a = some true := by
 obtain ⟨K, hK⟩ : ∃ K : Nat, K = l.length + 100950000 := ⟨_, rfl⟩
 refine ⟨K, ?_⟩
 obtain ⟨r, hr, hc⟩ := weigh_sm 60 (by omega) l hF hok (by omega) K (by omega)
 unfold skerrylaw22_TreeOrder.f
 rw [show (60 : Int) = ((60 : Nat) : Int) from rfl, hr, Option.bind_some]
 rcases hc with hc | ⟨h1, h2, h3⟩
 ·
  rw [if_pos (by omega)]; exact lives_b K (by omega)
 ·
  rw [if_neg (by omega)]
  exact tord_l0 l h3 h2 a l.length 0 K [] [] (by omega) (by omega) (by simp) (by simp) (fun c hc => by cases hc) (fun c => Iff.rfl)
end Go.Proofs.Ytafhnjlihhfoaaa.Pl
