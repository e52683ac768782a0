/- Norm: the program's and the document's. -/
import Derived.Test.YtlffkbcaphhldaaFbQx16
import Derived.Test.YtlffkbcaphhldaaFbPRef
import Derived.Test.YtlffkbcaphhldaaFbNormT
import Derived.Test.YtlffkbcaphhldaaFbQx17
namespace Go.Proofs.Ytlffkbcaphhldaa.Pl
open Go Go.RowKit Go.Proofs.YtlffkbcaphhldaaW.PrintWords Go.Proofs.Ytlffkbcaphhldaa.Q Go.Proofs.Ytlffkbcaphhldaa.Ord Go.Proofs.Ytlffkbcaphhldaa.Nm
set_option linter.unusedVariables false
set_option linter.unusedSimpArgs false
def keyC (x : S37) : S31 := x.f0
def joinC (a b : S37) : S37 := ⟨a.f0, joinV a.f1 b.f1⟩
theorem joinC_key (a b : S37) : keyC (joinC a b) = keyC a := rfl
abbrev normC (l : List (S37)) : List (S37) := norm cmpK keyC joinC l
theorem rd_cell (l : List (S37)) (i : Nat) (hi : i < l.length) : rd_T37 l (i : Int) = l[i] := by
 unfold rd_T37; simp [List.getD_eq_getElem?_getD, List.getElem?_eq_getElem hi]
theorem next_n {i n : Nat} (hi : i < n) (hn : n ≤ 1256584717458) : wrap64 ((i : Int) + 1) = ((i + 1 : Nat) : Int) := by unfold wrap64; omega
def addX : S37 → List (S37) → List (S37) := add cmpK keyC joinC
theorem rturn_same (x c : S37) (done : Bool) : skerryref05_Add.turn x c 0 done = some (joinC x c, true) := by
 unfold skerryref05_Add.turn
 rw [if_pos rfl, rjoin_f, Option.bind_some]
 rfl
theorem rturn_other {x c : S37} {d : Int} (h : ¬ d = 0) (done : Bool) : skerryref05_Add.turn x c d done = some (x, done) := by
 unfold skerryref05_Add.turn
 rw [if_neg h]
theorem radd_done (c : S37) : ∀ (l out : List (S37)), out.length + l.length < 1256584717458 → (∀ y ∈ l, cmpK y.f0 c.f0 > 0) → skerryref05_Add.go c l out true = some (out ++ l)
 | [], out, _, _ => by rw [skerryref05_Add.go, if_pos rfl, List.append_nil]
 | x :: l, out, ho, hg => by
  have hx : cmpK x.f0 c.f0 > 0 := hg x List.mem_cons_self
  rw [List.length_cons] at ho
  have ih := radd_done c l (out ++ [x]) (by rw [List.length_append, List.length_singleton]; omega) (fun y hy => hg y (List.mem_cons_of_mem _ hy))
  rw [skerryref05_Add.go, rkey_f, Option.bind_some, rturn_other (by omega), Option.bind_some, if_neg (fun h => by cases h.1), if_pos (by omega), ih, List.append_assoc]
  rfl
theorem radd_run (c : S37) : ∀ (l out : List (S37)), out.length + l.length < 1256584717457 → Inc cmpK keyC l → skerryref05_Add.go c l out false = some (out ++ addX c l)
 | [], out, ho, _ => by
  rw [List.length_nil] at ho
  rw [skerryref05_Add.go, if_neg (by simp), if_pos (by omega)]; rfl
 | x :: l, out, ho, hp => by
  rw [List.length_cons] at ho
  have hq := (List.pairwise_cons.1 hp).1
  have hgt : cmpK x.f0 c.f0 ≥ 0 → ∀ y ∈ l, cmpK y.f0 c.f0 > 0 := fun h y hy => by
   have h1 : cmpK x.f0 y.f0 < 0 := hq y hy
   have t := cmpK_cmp.trans y.f0 c.f0 x.f0; have a1 := cmpK_cmp.anti x.f0 c.f0; have a2 := cmpK_cmp.anti x.f0 y.f0
   omega
  rw [skerryref05_Add.go, rkey_f, Option.bind_some]
  rcases Int.lt_trichotomy (cmpK x.f0 c.f0) 0 with e | e | e
  ·
   rw [rturn_other (by omega), Option.bind_some, if_neg (fun h => by have := h.2; omega), if_pos (by omega), show addX c (x :: l) = x :: addX c l from add_less _ e, radd_run c l (out ++ [x]) (by rw [List.length_append, List.length_singleton]; omega) (List.pairwise_cons.1 hp).2, List.append_assoc]
   rfl
  ·
   rw [e, rturn_same, Option.bind_some, if_neg (fun h => by cases h.1), if_pos (by omega), show addX c (x :: l) = joinC x c :: l from add_same _ e, radd_done c l (out ++ [joinC x c]) (by rw [List.length_append, List.length_singleton]; omega) (hgt (by omega)), List.append_assoc]
   rfl
  ·
   rw [rturn_other (by omega), Option.bind_some, if_pos ⟨rfl, e⟩, if_pos (by omega), show addX c (x :: l) = c :: x :: l from add_more _ e, radd_done c l ((out ++ [c]) ++ [x]) (by simp only [List.length_append, List.length_singleton]; omega) (hgt (by omega)), List.append_assoc, List.append_assoc]
   rfl
theorem radd_f (c : S37) (l : List (S37)) (hl : l.length ≤ 1256584717421) (hI : Inc cmpK keyC l) :
  skerryref05_Add.f l c.f0.f0 c.f0.f1 c.f0.f2 c.f0.f3 c.f1.f0 c.f1.f1 c.f1.f2 c.f1.f3.f0 c.f1.f3.f1 c.f1.f3.f2 = some (addX c l) := by
 have := radd_run c l [] (by simp; omega) hI
 exact this
theorem rnorm_l0 (l : List (S37)) (hl : l.length ≤ 1256584717421) : ∀ (d i k : Nat) (s : List (S37)), i + d = l.length → l.length < k → s.length ≤ i → Inc cmpK keyC s → d + l.length < k →
  skerryref05_Norm.l0 k s l (l.length : Int) (i : Int) = some ((l.drop i).foldl (fun s x => addX x s) s)
 | d, i, 0, s, _, hk, _, _, _ => by omega
 | 0, i, k + 1, s, hd, hk, _, _, _ => by
  rw [skerryref05_Norm.l0, if_neg (by omega), List.drop_eq_nil_of_le (by omega)]; rfl
 | d + 1, i, k + 1, s, hd, hk, hs, hI, hk2 => by
  have hi : i < l.length := by omega
  obtain ⟨x, hc⟩ : ∃ x, l[i] = x := ⟨_, rfl⟩
  have hrd : rd_T37 l (i : Int) = x := (rd_cell l i hi).trans hc
  have hdr : l.drop i = x :: l.drop (i + 1) := by rw [List.drop_eq_getElem_cons hi, hc]
  rw [skerryref05_Norm.l0, if_pos (by omega), if_pos (by omega), if_pos (by omega)]
  simp only [hrd, next_n hi (show l.length ≤ 1256584717458 by omega)]
  rw [radd_f x s (by omega) hI, Option.bind_some, hdr, List.foldl_cons]
  have hlen : (addX x s).length ≤ s.length + 1 := add_len x s
  exact rnorm_l0 l hl d (i + 1) k (addX x s) (by omega) (by omega) (by omega) (add_inc cmpK_cmp joinC_key x s hI) (by omega)
theorem rnorm_f (l : List (S37)) (hl : l.length ≤ 1256584717421) (k : Nat) (hk : 2 * l.length < k) : skerryref05_Norm.f k l = some (normC l) := by
 have := rnorm_l0 l hl l.length 0 k [] (by omega) (by omega) (Nat.le_refl _) List.Pairwise.nil (by omega)
 exact this
end Go.Proofs.Ytlffkbcaphhldaa.Pl
namespace Go.Proofs.Ytlffkbcaphhldaa.Pl
open Go Go.RowKit Go.Proofs.YtlffkbcaphhldaaW.PrintWords Go.Proofs.Ytlffkbcaphhldaa.Q Go.Proofs.Ytlffkbcaphhldaa.Ord Go.Proofs.Ytlffkbcaphhldaa.Nm
set_option linter.unusedVariables false
set_option linter.unusedSimpArgs false
theorem like_l0 (l : List (S37)) (hl : l.length ≤ 1256584717458) : ∀ (d i k : Nat), i + d = l.length → d < k → skerryref01_Like.l0 k l l (l.length : Int) (i : Int) = some true
 | d, i, 0, _, hk => by omega
 | 0, i, k + 1, hd, hk => by rw [skerryref01_Like.l0, if_neg (by omega)]
 | d + 1, i, k + 1, hd, hk => by
  have hi : i < l.length := by omega
  rw [skerryref01_Like.l0, if_pos (by omega), if_pos (by omega), if_pos (by omega), if_pos (by omega), if_neg (by simp), next_n hi hl]
  exact like_l0 l hl d (i + 1) k (by omega) (by omega)
theorem like_self (l : List (S37)) (hl : l.length ≤ 1256584717458) (k : Nat) (hk : l.length < k) : skerryref01_Like.f k l l = some true := by
 unfold skerryref01_Like.f
 rw [if_pos rfl]
 exact like_l0 l hl l.length 0 k (by omega) hk
end Go.Proofs.Ytlffkbcaphhldaa.Pl
