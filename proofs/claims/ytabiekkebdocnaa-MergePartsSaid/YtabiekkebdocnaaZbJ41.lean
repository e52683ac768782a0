/- The document's Sub, Part and Find; which lists are few. -/
import Derived.Test.YtabiekkebdocnaaZbQx0
import Derived.Test.YtabiekkebdocnaaZbJ17
import Derived.Test.YtabiekkebdocnaaZbPart
import Derived.Test.YtabiekkebdocnaaZbJ38
import Derived.Test.YtabiekkebdocnaaZbQx23
import Derived.Test.YtabiekkebdocnaaZbJ28
import Derived.Test.YtabiekkebdocnaaZbJ0
import Derived.Test.YtabiekkebdocnaaZbDown
import Derived.Test.YtabiekkebdocnaaZbSorted
import Derived.Test.YtabiekkebdocnaaZbTake
import Derived.Test.YtabiekkebdocnaaZbEach
import Derived.Test.YtabiekkebdocnaaZbGrp
import Derived.Test.YtabiekkebdocnaaZbRh
import Derived.Test.YtabiekkebdocnaaZbSeqE
import Derived.Test.YtabiekkebdocnaaZbJ14
import Derived.Test.YtabiekkebdocnaaZbAll
import Derived.Test.YtabiekkebdocnaaZbSub
import Derived.Test.YtabiekkebdocnaaZbJ31
import Derived.Deep.MidRow
import Derived.WalkLawsBesides
import Derived.WalkSpells
import Derived.Lib.Hide
import Derived.Deep.DeepFit
import Derived.Outline
import Derived.Deep.RegionHeld3
namespace Go.Proofs.Ytabiekkebdocnaa.Pl
open Go Go.RowKit Go.Proofs.YtabiekkebdocnaaW.PrintWords Go.Proofs.Ytabiekkebdocnaa.Q Go.Proofs.Ytabiekkebdocnaa.Ord Go.Proofs.Ytabiekkebdocnaa.Nm Go.Proofs.Ytabiekkebdocnaa.Hp
set_option linter.unusedVariables false
set_option linter.unusedSimpArgs false
theorem rd_list (ls : List (List Cl)) (i : Nat) (hi : i < ls.length) : rd_L7 ls (i : Int) = ls[i] := by
 unfold rd_L7; simp [List.getD_eq_getElem?_getD, List.getElem?_eq_getElem hi]
theorem weigh_up (m : Nat) (hm : m ≤ 1000) (l : List Cl) (hF : ∀ c ∈ l, FineC c) (hl : l.length ≤ 1256584717458) : ∀ (d i k n : Nat), i + d = l.length → d < k → n ≤ m →
  ∃ r : Nat, skerrylaw10_weigh.l0 k (m : Int) (n : Int) l (l.length : Int) (i : Int) = some (r : Int) ∧ r ≤ 100000000000000
 | _, _, 0, _, _, hk, _ => by omega
 | 0, i, k + 1, n, hd, hk, hn => ⟨n, by rw [skerrylaw10_weigh.l0, if_neg (by omega)], by omega⟩
 | d + 1, i, k + 1, n, hd, hk, hn => by
  have hi : i < l.length := by omega
  obtain ⟨c, hc⟩ : ∃ c, l[i] = c := ⟨_, rfl⟩
  have hrd : rd_T39 l (i : Int) = c := (rd_at l i hi).trans hc
  have hcF := hF c (by rw [← hc]; exact List.getElem_mem hi)
  have hs := weigh_sum (n := n) (by omega) hcF.a hcF.b hcF.e hcF.d
  have hz : szC c = c.f0.f0.size + c.f0.f1.size + c.f0.f3.size + c.f1.f3.f2.size := rfl
  have hzb : szC c ≤ 562949953404928 := by have := hcF.a; have := hcF.b; have := hcF.e; have := hcF.d; omega
  rw [skerrylaw10_weigh.l0, if_pos (by omega), if_pos (by omega), if_pos (by omega)]
  simp only [hrd, hs, weigh_next hi hl]
  rw [← hz]
  by_cases hgt : ((n + (1 + szC c / 20) : Nat) : Int) > (m : Int)
  ·
   rw [if_pos hgt]
   exact ⟨_, rfl, by omega⟩
  ·
   rw [if_neg hgt]
   exact weigh_up m hm l hF hl d (i + 1) k (n + (1 + szC c / 20)) (by omega) (by omega) (by omega)
theorem few_l0 (ls : List (List Cl)) (hF : ∀ l ∈ ls, ∀ c ∈ l, FineC c) (hl : ∀ l ∈ ls, l.length ≤ 1256584717421) (hn : ls.length ≤ 1256584717421) (M : Nat) (hM : ∀ l ∈ ls, l.length < M) : ∀ (d i k n : Nat), i + d = ls.length → d + M < k → n ≤ 400 → ∃ r, skerrylaw10_few.l0 k (n : Int) ls (ls.length : Int) (i : Int) = some r ∧ (r = true → n + d ≤ 400)
 | d, i, 0, n, _, hk, _ => by omega
 | 0, i, k + 1, n, hd, hk, hn4 => ⟨true, by rw [skerrylaw10_few.l0, if_neg (by omega)], fun _ => by omega⟩
 | d + 1, i, k + 1, n, hd, hk, hn4 => by
  have hi : i < ls.length := by omega
  have hm := List.getElem_mem hi
  have h1 := hM _ hm
  obtain ⟨r, hr, hc⟩ := weigh_up 300 (by omega) ls[i] (hF _ hm) (by have := hl _ hm; omega) ls[i].length 0 k 0 (by omega) (by omega) (by omega)
  have hr' : skerrylaw10_weigh.f k ls[i] 300 = some (r : Int) := hr
  have e1 : wrap64 ((n : Int) + wrap64 (1 + (r : Int))) = ((n + (1 + r) : Nat) : Int) := by
   have : wrap64 (1 + (r : Int)) = 1 + (r : Int) := by unfold wrap64; omega
   rw [this]; unfold wrap64; omega
  rw [skerrylaw10_few.l0, if_pos (by omega), if_pos (by omega), if_pos (by omega), rd_list ls i hi, hr', Option.bind_some, e1, next_n hi (by omega)]
  by_cases h : ((n + (1 + r) : Nat) : Int) > 400
  ·
   rw [if_pos h]; exact ⟨false, rfl, fun e => by cases e⟩
  ·
   rw [if_neg h]
   obtain ⟨q, hq, hq2⟩ := few_l0 ls hF hl hn M hM d (i + 1) k (n + (1 + r)) (by omega) (by omega) (by omega)
   exact ⟨q, hq, fun e => by have := hq2 e; omega⟩
theorem few_f (ls : List (List Cl)) (hF : ∀ l ∈ ls, ∀ c ∈ l, FineC c) (hl : ∀ l ∈ ls, l.length ≤ 1256584717421) (hn : ls.length ≤ 1256584717421) (M : Nat) (hM : ∀ l ∈ ls, l.length < M) (k : Nat) (hk : ls.length + M < k) : ∃ r, skerrylaw10_few.f k ls = some r ∧ (r = true → ls.length ≤ 400) := by
 obtain ⟨r, h1, h2⟩ := few_l0 ls hF hl hn M hM ls.length 0 k 0 (by omega) hk (by omega)
 exact ⟨r, h1, fun h => by have := h2 h; omega⟩
end Go.Proofs.Ytabiekkebdocnaa.Pl
namespace Go.Proofs.Ytabiekkebdocnaa.Pl
open Go Go.RowKit Go.Proofs.YtabiekkebdocnaaW.PrintWords Go.Proofs.Ytabiekkebdocnaa.Q Go.Proofs.Ytabiekkebdocnaa.Ord Go.Proofs.Ytabiekkebdocnaa.Nm Go.Proofs.Ytabiekkebdocnaa.Hp
set_option linter.unusedVariables false
set_option linter.unusedSimpArgs false
def sameP (c x : Cl) : Bool := !otherP c.f0.f0 c.f0.f1 x
theorem sameP_iff {c x : Cl} : sameP c x = true ↔ x.f0.f0.toList = c.f0.f0.toList ∧ x.f0.f1.toList = c.f0.f1.toList := by
 unfold sameP otherP
 simp
theorem sameP_fun {c d : Cl} (h : sameP c d = true) : sameP c = sameP d := by
 obtain ⟨h1, h2⟩ := sameP_iff.1 h
 funext x
 rw [Bool.eq_iff_iff, sameP_iff, sameP_iff, h1, h2]
theorem sameP_refl (c : Cl) : sameP c c = true := sameP_iff.2 ⟨rfl, rfl⟩
theorem sameP_mid {a b c : Cl} (h1 : cmpK a.f0 b.f0 < 0) (h2 : cmpK b.f0 c.f0 < 0) (h : sameP c a = true) : sameP c b = true := by
 obtain ⟨e1, e2⟩ := sameP_iff.1 h
 have n1 := cs_cmp.anti a.f0.f0 b.f0.f0; have n2 := cs_cmp.anti b.f0.f0 c.f0.f0; have n3 := cs_cmp.anti a.f0.f1 b.f0.f1; have n4 := cs_cmp.anti b.f0.f1 c.f0.f1
 have z1 : cs a.f0.f0 c.f0.f0 = 0 := cs_zero.2 e1
 have z2 : cs a.f0.f1 c.f0.f1 = 0 := cs_zero.2 e2
 have n5 := cs_cmp.anti a.f0.f0 c.f0.f0; have n6 := cs_cmp.anti a.f0.f1 c.f0.f1
 have t1 := cs_cmp.trans c.f0.f0 a.f0.f0 b.f0.f0; have t2 := cs_cmp.trans b.f0.f0 c.f0.f0 a.f0.f0
 have t3 := cs_cmp.trans c.f0.f1 a.f0.f1 b.f0.f1; have t4 := cs_cmp.trans b.f0.f1 c.f0.f1 a.f0.f1
 have l1 : cs a.f0.f0 b.f0.f0 ≤ 0 := by
  unfold cmpK at h1
  unfold lex at h1
  dsimp only at h1
  split at h1 <;> omega
 have l2 : cs b.f0.f0 c.f0.f0 ≤ 0 := by
  unfold cmpK at h2
  unfold lex at h2
  dsimp only at h2
  split at h2 <;> omega
 have t5 := cs_cmp.trans a.f0.f0 b.f0.f0 c.f0.f0
 have w1 : cs a.f0.f0 b.f0.f0 = 0 := by omega
 have w2 : cs b.f0.f0 c.f0.f0 = 0 := by omega
 have l3 : cs a.f0.f1 b.f0.f1 ≤ 0 := by
  unfold cmpK at h1
  unfold lex at h1
  dsimp only at h1
  rw [if_pos w1] at h1
  split at h1 <;> omega
 have l4 : cs b.f0.f1 c.f0.f1 ≤ 0 := by
  unfold cmpK at h2
  unfold lex at h2
  dsimp only at h2
  rw [if_pos w2] at h2
  split at h2 <;> omega
 have w3 : cs b.f0.f1 c.f0.f1 = 0 := by omega
 exact sameP_iff.2 ⟨cs_zero.1 w2, cs_zero.1 w3⟩
def nAt (M : List Cl) : Nat → Nat
 | 0 => 0
 | i + 1 => i + 1 + ((M.drop (i + 1)).takeWhile (sameP (M.getD i z39))).length
theorem nAt_succ (M : List Cl) (i : Nat) : nAt M (i + 1) = i + 1 + ((M.drop (i + 1)).takeWhile (sameP (M.getD i z39))).length := rfl
theorem nAt_le (M : List Cl) : ∀ i, i ≤ M.length → i ≤ nAt M i ∧ nAt M i ≤ M.length
 | 0, _ => ⟨Nat.le_refl _, Nat.zero_le _⟩
 | i + 1, h => by
  have h1 := (List.takeWhile_prefix (sameP (M.getD i z39)) (l := M.drop (i + 1))).length_le
  rw [List.length_drop] at h1
  rw [nAt_succ]; omega
theorem nAt_same {M : List Cl} {i : Nat} (hi : i + 1 < M.length) (h : sameP (M.getD i z39) (M.getD (i + 1) z39) = true) : nAt M (i + 1) = nAt M (i + 2) := by
 rw [nAt_succ, show i + 2 = (i + 1) + 1 from rfl, nAt_succ]
 have hd : M.drop (i + 1) = M.getD (i + 1) z39 :: M.drop (i + 1 + 1) := by rw [List.drop_eq_getElem_cons hi, List.getD_eq_getElem?_getD, List.getElem?_eq_getElem hi]; rfl
 rw [hd, List.takeWhile_cons_of_pos h, sameP_fun h, List.length_cons]
 omega
theorem nAt_other {M : List Cl} {i : Nat} (hi : i + 1 < M.length) (h : ¬ sameP (M.getD i z39) (M.getD (i + 1) z39) = true) : nAt M (i + 1) = i + 1 := by
 rw [nAt_succ]
 have hd : M.drop (i + 1) = M.getD (i + 1) z39 :: M.drop (i + 1 + 1) := by rw [List.drop_eq_getElem_cons hi, List.getD_eq_getElem?_getD, List.getElem?_eq_getElem hi]; rfl
 rw [hd, List.takeWhile_cons_of_neg h]; rfl
theorem filter_take {c : Cl} : ∀ (l : List Cl), Inc cmpK keyC (c :: l) → l.filter (sameP c) = l.takeWhile (sameP c)
 | [], _ => rfl
 | x :: l, h => by
  have hp := List.pairwise_cons.1 h
  have hq := List.pairwise_cons.1 hp.2
  by_cases e : sameP c x = true
  ·
   rw [List.filter_cons_of_pos e, List.takeWhile_cons_of_pos e]
   congr 1
   exact filter_take l (List.pairwise_cons.2 ⟨fun y hy => hp.1 y (List.mem_cons_of_mem _ hy), hq.2⟩)
  ·
   rw [List.filter_cons_of_neg e, List.takeWhile_cons_of_neg e, List.filter_eq_nil_iff]
   intro y hy h2
   refine e (sameP_iff.2 ?_)
   obtain ⟨a1, a2⟩ := sameP_iff.1 h2
   have h3 : sameP y c = true := sameP_iff.2 ⟨a1.symm, a2.symm⟩
   obtain ⟨b1, b2⟩ := sameP_iff.1 (sameP_mid (hp.1 x List.mem_cons_self) (hq.1 y hy) h3)
   exact ⟨b1.trans a1, b2.trans a2⟩
theorem part_at {M : List Cl} (hM : Inc cmpK keyC M) {i : Nat} (hi : i < M.length) (hf : i = 0 ∨ ¬ sameP (M.getD (i - 1) z39) (M.getD i z39) = true) :
  M.filter (sameP (M.getD i z39)) = (M.drop i).take (nAt M (i + 1) - i) ∧ nAt M i = i := by
 have hc : M.getD i z39 = M[i] := by rw [List.getD_eq_getElem?_getD, List.getElem?_eq_getElem hi]; rfl
 have hd : M.drop i = M[i] :: M.drop (i + 1) := List.drop_eq_getElem_cons hi
 constructor
 ·
  have hdr : Inc cmpK keyC (M[i] :: M.drop (i + 1)) := by rw [← hd]; exact hM.sublist (List.drop_sublist _ _)
  have h1 : (M.drop i).filter (sameP M[i]) = M[i] :: (M.drop (i + 1)).takeWhile (sameP M[i]) := by rw [hd, List.filter_cons_of_pos (sameP_refl _), filter_take _ hdr]
  have h0 : (M.take i).filter (sameP M[i]) = [] := by
   rw [List.filter_eq_nil_iff]
   intro y hy h2
   rcases hf with rfl | hf
   ·
    simp at hy
   ·
    obtain ⟨j, rfl⟩ : ∃ j, i = j + 1 := ⟨i - 1, by cases i with | zero => simp at hy | succ j => rfl⟩
    apply hf
    rw [hc, Nat.add_sub_cancel, List.getD_eq_getElem?_getD, List.getElem?_eq_getElem (by omega), Option.getD_some]
    have hgt : M = M.take (j + 1) ++ M.drop (j + 1) := (List.take_append_drop _ _).symm
    have hyj : y = M[j] ∨ cmpK y.f0 M[j].f0 < 0 := by
     rw [List.take_succ_eq_append_getElem (by omega)] at hy
     rcases List.mem_append.1 hy with hy | hy
     ·
      right
      have hM2 : Inc cmpK keyC (M.take j ++ M[j] :: M.drop (j + 1)) := by rw [← List.drop_eq_getElem_cons (by omega), List.take_append_drop]; exact hM
      exact (List.pairwise_append.1 hM2).2.2 y hy _ List.mem_cons_self
     ·
      left; exact List.mem_singleton.1 hy
    have hji : cmpK M[j].f0 M[j + 1].f0 < 0 := (List.pairwise_iff_getElem.1 hM) j (j + 1) (by omega) hi (by omega)
    rcases hyj with rfl | hyj
    ·
     obtain ⟨a1, a2⟩ := sameP_iff.1 h2
     exact sameP_iff.2 ⟨a1.symm, a2.symm⟩
    ·
     obtain ⟨a1, a2⟩ := sameP_iff.1 (sameP_mid hyj hji h2)
     exact sameP_iff.2 ⟨a1.symm, a2.symm⟩
  have h2 : M.filter (sameP M[i]) = (M.take i).filter (sameP M[i]) ++ (M.drop i).filter (sameP M[i]) := by rw [← List.filter_append, List.take_append_drop]
  rw [hc, h2, h0, List.nil_append, h1, hd]
  have hn : nAt M (i + 1) - i = ((M.drop (i + 1)).takeWhile (sameP M[i])).length + 1 := by rw [nAt_succ, hc]; omega
  rw [hn, List.take_succ_cons]
  congr 1
  exact (List.prefix_iff_eq_take.1 (List.takeWhile_prefix _))
 ·
  rcases hf with rfl | hf
  ·
   rfl
  ·
   cases i with
   | zero => rfl
   | succ j => exact nAt_other hi hf
end Go.Proofs.Ytabiekkebdocnaa.Pl
namespace Go.Proofs.Ytabiekkebdocnaa.Q
open Go.RowKit Go.Proofs.YtabiekkebdocnaaW.PrintWords Go.Proofs.YtabiekkebdocnaaW.PrintLast Go.Proofs.YtabiekkebdocnaaW.PrintMore
attribute [local go_sem] max2_int min2_int max_two min_two max_three min_three max_four min_four
set_option linter.unusedVariables false
set_option linter.unusedSimpArgs false
open Go.Lib Go.Proofs.Ytabiekkebdocnaa.Hp Go.Proofs.Ytabiekkebdocnaa.Pl Go.Proofs.Ytabiekkebdocnaa.Rh Go.Proofs.Ytabiekkebdocnaa.Ord Go.Proofs.Ytabiekkebdocnaa.Nm
theorem rep_get (l : List Cl) : ∀ (j i : Nat) (p : Cl), l[j]? = some p → i < 10 → (l.flatMap cellL)[j * 10 + i]? = (cellL p)[i]? := by
 induction l with
 | nil => intro j i p h; simp at h
 | cons x l ih =>
  intro j i p h hi
  rw [List.flatMap_cons]
  cases j with
  | zero =>
   obtain rfl : x = p := by simpa using h
   rw [Nat.zero_mul, Nat.zero_add, List.getElem?_append_left (by show i < 10; exact hi)]
  | succ j =>
   rw [List.getElem?_append_right (by show 10 ≤ _; omega)]
   have := ih j i p (by simpa using h) hi
   rw [← this]
   congr 1
   show (j + 1) * 10 + i - 10 = _
   omega
theorem C_blk {W : World} {b : Nat} {l : List Cl} (h : W.heap[b]? = some (.cells (l.flatMap cellL).toArray 39 (0, 0))) (hl : l.length ≤ 1000000) : Kd.C k39 W (some ⟨b, 0, none⟩) l.length l := by
 refine ⟨rfl, by omega, fun _ => ⟨_, rfl, fun j p hj => ⟨cellL p, rfl, k39_mk W p, fun i u hu => ?_⟩⟩⟩
 have hi : i < 10 := by have := (List.getElem?_eq_some_iff.1 hu).1; exact this
 have h1 := rep_get l j i p hj hi
 rw [hu] at h1
 have h2 := (blk_cell h (j * 10 + i)).trans (show _ = some u by rw [← h1]; simp)
 show W.cell? ((⟨b, 0, none⟩ : Addr).add (j * 10 + i)) = some u
 rw [addr0_]
 exact h2
where addr0_ (g j : Nat) : (⟨g, 0, none⟩ : Addr).add j = ⟨g, j, none⟩ := by by_cases h : j = 0 <;> simp [Addr.add, h]
theorem C_two {W : World} {b : Nat} {A0 A1 : Option Addr} {c0 c1 : Nat} {l0 l1 : List Cl} (h : W.heap[b]? = some (.cells #[.slice A0 l0.length c0, .slice A1 l1.length c1] 25 (0, 0))) (h0 : Kd.C k39 W A0 l0.length l0) (hc0 : l0.length ≤ c0) (h1 : Kd.C k39 W A1 l1.length l1) (hc1 : l1.length ≤ c1) : Kd.C (Kd.slice 39 k39) W (some ⟨b, 0, none⟩) 2 [l0, l1] := by
 refine ⟨rfl, by omega, fun _ => ⟨_, rfl, fun j p hj => ?_⟩⟩
 cases j with
 | zero =>
  obtain rfl : l0 = p := by simpa using hj
  refine ⟨[.slice A0 l0.length c0], rfl, ⟨A0, c0, rfl, hc0, h0⟩, fun i u hu => ?_⟩
  cases i with
  | zero =>
   obtain rfl : Value.slice A0 l0.length c0 = u := by simpa using hu
   have := (blk_cell h 0).trans (show _ = some (Value.slice A0 l0.length c0) from rfl)
   simpa [Addr.add] using this
  | succ i => simp at hu
 | succ j =>
  cases j with
  | zero =>
   obtain rfl : l1 = p := by simpa using hj
   refine ⟨[.slice A1 l1.length c1], rfl, ⟨A1, c1, rfl, hc1, h1⟩, fun i u hu => ?_⟩
   cases i with
   | zero =>
    obtain rfl : Value.slice A1 l1.length c1 = u := by simpa using hu
    have := (blk_cell h 1).trans (show _ = some (Value.slice A1 l1.length c1) from rfl)
    simpa [Addr.add, Kd.slice] using this
   | succ i => simp at hu
  | succ j => simp at hj
def atC (col : ByteArray) (n : Int) : Cl := ⟨⟨⟨#[116]⟩, ⟨#[120]⟩, 0, col⟩, ⟨n, false, 0, ⟨1, n, ⟨#[]⟩⟩⟩⟩
def exA : List Cl := [atC ⟨#[97]⟩ 1, atC ⟨#[98]⟩ 2]
def exB : List Cl := [atC ⟨#[98]⟩ 3, atC ⟨#[99]⟩ 1]
def exC : List Cl := [atC ⟨#[97]⟩ 1, atC ⟨#[98]⟩ 3, atC ⟨#[99]⟩ 1]
theorem ex_all : normC ([exA, exB].flatMap normC) = exC := by kernel_rfl
theorem ex_sub : subF (normC exA) (normC exB) = [atC ⟨#[97]⟩ 1] := by kernel_rfl
theorem ex_over : subF (normC exA) (normC exA) = [] := by kernel_rfl
theorem ex_key : ∀ y ∈ exA ++ exB, KeyW y.f0 := by
 have h : ((exA ++ exB).all fun y => (keyOf Try.prog 33 (keyV y.f0)).isSome) = true := by kernel_rfl
 intro y hy
 exact Option.isSome_iff_exists.1 (List.all_eq_true.1 h y hy)
theorem at_calls (col : ByteArray) (n : Int) (w : World) : Calls Try.prog 26 #[.string col, .int .i64 n] w fun e w' => e = .returned (.agg (cellL (atC col n)).toArray) ∧ Below w.heap.size w w' :=
 skerrylaw10_at.calls col n _ _ _ _ _ _ _ _ _ _ w rfl
set_option maxHeartbeats 4000000 in
set_option maxRecDepth 100000 in
theorem lives_calls (w : World) : Calls Try.prog 10 #[] w fun e w' => e = .returned (.bool true) ∧ Below w.heap.size w w' := by
 go_enter Try.func10, Try.ntmps10
 have HAT := Lib.hid at_calls
 go_upto_region 1 with fail
 go_cut [1, 2] (fun v1 v2 wc => ∃ g1 g2 : Nat, v1 = .slice (some ⟨g1, 0, none⟩) 2 2 ∧ v2 = .slice (some ⟨g2, 0, none⟩) 2 2 ∧ Aside0 (wc.heap[g1]? = some (.cells (exA.flatMap cellL).toArray 39 (0, 0))) ∧ Aside0 (wc.heap[g2]? = some (.cells (exB.flatMap cellL).toArray 39 (0, 0))) ∧ Aside0 (Below w.heap.size w wc))
 case first =>
  go_wp2_with (first | (go_at_call 26; (with_reducible refine (HAT.out ⟨#[97]⟩ 1 _).mono ?_); rintro e w1 ⟨rfl, hb1⟩; unfold cellL atC; dsimp only) | (go_at_call 26; (with_reducible refine (HAT.out ⟨#[98]⟩ 2 _).mono ?_); rintro e w2 ⟨rfl, hb2⟩; unfold cellL atC; dsimp only) | (go_at_call 26; (with_reducible refine (HAT.out ⟨#[98]⟩ 3 _).mono ?_); rintro e w3 ⟨rfl, hb3⟩; unfold cellL atC; dsimp only) | (go_at_call 26; (with_reducible refine (HAT.out ⟨#[99]⟩ 1 _).mono ?_); rintro e w4 ⟨rfl, hb4⟩; unfold cellL atC; dsimp only))
  go_meet
  case rel =>
   have h12 := below_step hb1 hb2
   have h13 := below_step (below_alloc h12 _) hb3
   have h14 := below_step h13 hb4
   refine ⟨_, _, rfl, rfl, ⟨blk_alloc (blk_below (blk_below (heap_new_ w2 _) hb3) hb4) _⟩, ⟨heap_new_ w4 _⟩, ⟨below_alloc h14 _⟩⟩
 case rest =>
  obtain ⟨g1, g2, rfl, rfl, HG1, HG2, HB⟩ := hcut
  have hka : ∀ y ∈ exA, KeyW y.f0 := fun y hy => ex_key y (List.mem_append_left _ hy)
  have hkb : ∀ y ∈ exB, KeyW y.f0 := fun y hy => ex_key y (List.mem_append_right _ hy)
  have HCA := Lib.hid (fun (W : World) (hw : Below wc.heap.size wc W) => (show Kd.C k39 W (some ⟨g1, 0, none⟩) exA.length exA from C_blk (blk_below HG1.out hw) (by decide)))
  have HCB := Lib.hid (fun (W : World) (hw : Below wc.heap.size wc W) => (show Kd.C k39 W (some ⟨g2, 0, none⟩) exB.length exB from C_blk (blk_below HG2.out hw) (by decide)))
  have HALL := Lib.hid (fun (W : World) (hw : Below wc.heap.size wc W) (z : Nat) (hz : W.heap.size = z) => (show Calls Try.prog 15 #[.slice (some ⟨z, 0, none⟩) 2 2] (W.alloc (.cells #[.slice (some ⟨g1, 0, none⟩) 2 2, .slice (some ⟨g2, 0, none⟩) 2 2] 25)) _ from hz ▸ all_calls (N := normC) (ls := [exA, exB]) (lsok (by decide) (by decide) (by decide +kernel)) (some ⟨W.heap.size, 0, none⟩) 2 _ (C_two (l0 := exA) (l1 := exB) (heap_new_ W _) (HCA.out _ (below_alloc hw _)) (Nat.le_refl _) (HCB.out _ (below_alloc hw _)) (Nat.le_refl _)) (Nat.le_refl _)))
  have HSUB := Lib.hid (fun (W : World) (hw : Below wc.heap.size wc W) => show Calls Try.prog 19 #[.slice (some ⟨g1, 0, none⟩) 2 2, .slice (some ⟨g2, 0, none⟩) 2 2] W _ from sub2_calls (a := exA) (b := exB) (by decide) (by decide) hka hkb (some ⟨g1, 0, none⟩) 2 (some ⟨g2, 0, none⟩) 2 W (HCA.out _ hw) (Nat.le_refl _) (HCB.out _ hw) (Nat.le_refl _))
  have HOV1 := Lib.hid (fun (W : World) (hw : Below wc.heap.size wc W) => show Calls Try.prog 20 #[.slice (some ⟨g1, 0, none⟩) 2 2, .slice (some ⟨g2, 0, none⟩) 2 2] W _ from over_calls (a := exA) (b := exB) (by decide) (by decide) hka hkb (some ⟨g1, 0, none⟩) 2 (some ⟨g2, 0, none⟩) 2 W (HCA.out _ hw) (Nat.le_refl _) (HCB.out _ hw) (Nat.le_refl _))
  have HOV2 := Lib.hid (fun (W : World) (hw : Below wc.heap.size wc W) => show Calls Try.prog 20 #[.slice (some ⟨g1, 0, none⟩) 2 2, .slice (some ⟨g1, 0, none⟩) 2 2] W _ from over_calls (a := exA) (b := exA) (by decide) (by decide) hka hka (some ⟨g1, 0, none⟩) 2 (some ⟨g1, 0, none⟩) 2 W (HCA.out _ hw) (Nat.le_refl _) (HCA.out _ hw) (Nat.le_refl _))
  rw [ex_sub] at HSUB HOV1
  rw [ex_over] at HOV2
  rw [ex_all] at HALL
  clear hka hkb
  have HBW := Lib.hid (Below.refl wc.heap.size wc)
  go_wp2_with (first | (go_at_call 15; (with_reducible refine (HALL.out _ HBW.out _ rfl).mono ?_); rintro e w1 ⟨v1, rfl, ho1, hb1⟩; obtain ⟨A1, c1, rfl, hc1, hC1⟩ := Kd.R_reads ho1; have HB1 := Lib.hid (below_step (below_alloc HBW.out _) hb1); have HC1 := Lib.hid (And.intro hc1 hC1); have HD1 := Lib.hid (Below.refl w1.heap.size w1); clear ho1 hb1 hc1 hC1) | (go_at_call 26; have hz := HB6.out; clear hz; (with_reducible refine (HAT.out ⟨#[97]⟩ 1 _).mono ?_); rintro e w7 ⟨rfl, hb⟩; have HB7 := Lib.hid (below_step HB6.out hb); have HD7 := Lib.hid (below_step HD6.out hb); clear hb; unfold cellL atC; dsimp only) | (go_at_call 26; (with_reducible refine (HAT.out ⟨#[97]⟩ 1 _).mono ?_); rintro e w2 ⟨rfl, hb⟩; have HB2 := Lib.hid (below_step HB1.out hb); have HD2 := Lib.hid (below_step HD1.out hb); clear hb; unfold cellL atC; dsimp only) | (go_at_call 26; (with_reducible refine (HAT.out ⟨#[98]⟩ 3 _).mono ?_); rintro e w3 ⟨rfl, hb⟩; have HB3 := Lib.hid (below_step HB2.out hb); have HD3 := Lib.hid (below_step HD2.out hb); clear hb; unfold cellL atC; dsimp only) | (go_at_call 26; (with_reducible refine (HAT.out ⟨#[99]⟩ 1 _).mono ?_); rintro e w4 ⟨rfl, hb⟩; have HB4 := Lib.hid (below_step HB3.out hb); have HD4 := Lib.hid (below_step HD3.out hb); clear hb; unfold cellL atC; dsimp only) | (go_at_call 14; (refine (skerryref01_Like.calls 10 A6 c6 [atC ⟨#[97]⟩ 1] (some ⟨w7.heap.size, 0, none⟩) 1 [atC ⟨#[97]⟩ 1] true _ (Kd.C_below HC6.out.2 (below_alloc HD7.out _)) HC6.out.1 (C_blk (heap_new_ w7 _) (by decide)) (Nat.le_refl _) (like_self [atC ⟨#[97]⟩ 1] (by decide) 10 (by decide))).mono ?_); rintro e w8 ⟨rfl, hb⟩; have HB8 := Lib.hid (below_step (below_alloc HB7.out _) hb.below); clear hb) | (go_at_call 14; (refine (skerryref01_Like.calls 10 A1 c1 exC (some ⟨w4.heap.size, 0, none⟩) 3 exC true _ (Kd.C_below HC1.out.2 (below_alloc HD4.out _)) HC1.out.1 (C_blk (heap_new_ w4 _) (by decide)) (Nat.le_refl _) (like_self exC (by decide) 10 (by decide))).mono ?_); rintro e w5 ⟨rfl, hb⟩; have HB5 := Lib.hid (below_step (below_alloc HB4.out _) hb.below); clear hb HC1) | (go_at_call 19; (with_reducible refine (HSUB.out _ HB5.out).mono ?_); rintro e w6 ⟨v6, rfl, ho6, hb⟩; obtain ⟨A6, c6, rfl, hc6, hC6⟩ := Kd.R_reads ho6; have HB6 := Lib.hid (below_step HB5.out hb); have HC6 := Lib.hid (And.intro hc6 hC6); have HD6 := Lib.hid (Below.refl w6.heap.size w6); clear ho6 hb hc6 hC6) | (go_at_call 20; (with_reducible refine (HOV2.out _ HB9.out).mono ?_); rintro e w10 ⟨rfl, hb⟩; have HB10 := Lib.hid (below_step HB9.out hb); clear hb) | (go_at_call 20; (with_reducible refine (HOV1.out _ HB8.out).mono ?_); rintro e w9 ⟨rfl, hb⟩; have HB9 := Lib.hid (below_step HB8.out hb); clear hb))
  go_ret
  exact ⟨rfl, below_step HB.out HB10.out⟩
end Go.Proofs.Ytabiekkebdocnaa.Q
namespace Go.Proofs.Ytabiekkebdocnaa.Q
open Go.RowKit Go.Proofs.YtabiekkebdocnaaW.PrintWords Go.Proofs.YtabiekkebdocnaaW.PrintLast Go.Proofs.YtabiekkebdocnaaW.PrintMore
attribute [local go_sem] max2_int min2_int max_two min_two max_three min_three max_four min_four
set_option linter.unusedVariables false
set_option linter.unusedSimpArgs false
open Go.Lib Go.Proofs.Ytabiekkebdocnaa.Hp Go.Proofs.Ytabiekkebdocnaa.Pl Go.Proofs.Ytabiekkebdocnaa.Rh Go.Proofs.Ytabiekkebdocnaa.Ord Go.Proofs.Ytabiekkebdocnaa.Nm Go.Proofs.Ytabiekkebdocnaa.Opn
structure In (l : List Cl) : Prop where
 wc : ∀ c ∈ l, WC c
 len : l.length ≤ 1256584717421
theorem In.key {l : List Cl} (h : In l) : ∀ y ∈ l, KeyW y.f0 := fun y hy => WC.key (h.wc y hy)
theorem like_calls {l : List Cl} (hl : l.length ≤ 1256584717458) (A0 : Option Addr) (c0 : Nat) (A1 : Option Addr) (c1 : Nat) (w : World) (hC0 : Kd.C k39 w A0 l.length l) (hc0 : l.length ≤ c0) (hC1 : Kd.C k39 w A1 l.length l) (hc1 : l.length ≤ c1) : Calls Try.prog 14 #[.slice A0 l.length c0, .slice A1 l.length c1] w fun e w' => e = .returned (.bool true) ∧ Below w.heap.size w w' :=
 (skerryref01_Like.calls _ A0 c0 l A1 c1 l true w hC0 hc0 hC1 hc1 (like_self l hl (l.length + 1) (Nat.lt_succ_self _))).mono fun e w' ⟨h1, h2⟩ => ⟨h1, h2.below⟩
end Go.Proofs.Ytabiekkebdocnaa.Q
