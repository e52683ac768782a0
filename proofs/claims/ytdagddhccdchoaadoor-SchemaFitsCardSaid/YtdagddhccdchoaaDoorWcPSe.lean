/- Fits, Find, Orders: plain. -/
import Derived.Test.YtdagddhccdchoaaDoorWcQx23
import Derived.Test.YtdagddhccdchoaaDoorWcQx0
import Derived.Test.YtdagddhccdchoaaDoorWcQx6
import Derived.Test.YtdagddhccdchoaaDoorWcQx7
import Derived.Test.YtdagddhccdchoaaDoorWcQx9
import Derived.Test.YtdagddhccdchoaaDoorWcJ32
set_option linter.unusedVariables false
set_option linter.unusedSimpArgs false
namespace Go.Proofs.YtdagddhccdchoaaDoor.Pl
open Go.RowKit Go.Proofs.YtdagddhccdchoaaDoorW.PrintWords
open Go.Proofs.YtdagddhccdchoaaDoor.Q
abbrev Tab := S26
theorem empty_size {s : ByteArray} : s.toList = [] ↔ s.size = 0 := by
 rw [Lib.toList_data]
 cases s with | mk d => simp [ByteArray.size]
theorem keyGood_f (k : Nat) (hk : 30 ≤ k) (a0 a1 : ByteArray) (a2 : Int) (a3 : ByteArray) : skerryref04_Good.f k a0 a1 a2 a3 = key_Good.f a0 a1 a2 a3 := by
 unfold skerryref04_Good.f key_Good.f
 rw [name_f k hk a0, name_f k hk a3]
 simp only [key_Name.f, Option.bind_some]
 by_cases h : nameB a0 = true
 ·
  rw [if_pos h, if_pos h]
  by_cases e : a1.toList = []
  ·
   rw [if_pos e, if_neg (by have := empty_size.1 e; omega)]
  ·
   rw [if_neg e, if_pos (by have : ¬ a1.size = 0 := fun z => e (empty_size.2 z); omega)]
 ·
  rw [if_neg h, if_neg h]
theorem keyGood_some (a0 a1 : ByteArray) (a2 : Int) (a3 : ByteArray) : ∃ b, key_Good.f a0 a1 a2 a3 = some b := by
 unfold key_Good.f key_Name.f
 simp only [Option.bind_some]
 repeat' split
 all_goals exact ⟨_, rfl⟩
theorem cellGood_f (k : Nat) (hk : 30 ≤ k) (a0 a1 : ByteArray) (a2 : Int) (a3 : ByteArray) (a4 : Int) (a5 : Bool) (a6 a7 a8 : Int) (a9 : ByteArray) :
  skerryref05_Good.f k a0 a1 a2 a3 a4 a5 a6 a7 a8 a9 = cell_Good.f a0 a1 a2 a3 a4 a5 a6 a7 a8 a9 := by
 unfold skerryref05_Good.f cell_Good.f
 rw [keyGood_f k hk]
 obtain ⟨b, hb⟩ := keyGood_some a0 a1 a2 a3
 obtain ⟨n, rfl⟩ : ∃ n, k = n + 1 := ⟨k - 1, by omega⟩
 rw [hb]
 simp only [Option.bind_some, skerryref05_Good.j0, if_true]
 have hx : ∀ p q : Bool, (p != q) = (q != p) := by decide
 simp only [hx (a7 == 0)]
theorem cellGood_some (a0 a1 : ByteArray) (a2 : Int) (a3 : ByteArray) (a4 : Int) (a5 : Bool) (a6 a7 a8 : Int) (a9 : ByteArray) : ∃ b, cell_Good.f a0 a1 a2 a3 a4 a5 a6 a7 a8 a9 = some b := by
 unfold cell_Good.f
 obtain ⟨b, hb⟩ := keyGood_some a0 a1 a2 a3
 rw [hb]
 simp only [Option.bind_some]
 repeat' split
 all_goals exact ⟨_, rfl⟩
theorem fits_both (t0 t1 t2 : ByteArray) (l : List Col) (hl : l.length ≤ 200) (a0 a1 : ByteArray) (a2 : Int) (a3 : ByteArray) (a4 : Int) (a5 : Bool) (a6 a7 a8 : Int) (a9 : ByteArray) (k : Nat) (hk : 300 ≤ k) :
  ∃ b, schema_Fits.f k t0 t1 t2 l a0 a1 a2 a3 a4 a5 a6 a7 a8 a9 = some b ∧ skerryref17_Fits.f k t0 t1 t2 l a0 a1 a2 a3 a4 a5 a6 a7 a8 a9 = some b := by
 obtain ⟨g, hg⟩ := cellGood_some a0 a1 a2 a3 a4 a5 a6 a7 a8 a9
 unfold schema_Fits.f skerryref17_Fits.f
 rw [cellGood_f k (by omega), hg, Option.bind_some, Option.bind_some]
 obtain ⟨n, rfl⟩ : ∃ n, k = n + 1 := ⟨k - 1, by omega⟩
 rw [skerryref17_Fits.j0, skerryref17_Fits.j0, scol_f _ _ _ l a3 (n + 1) (by omega) (by omega), column_f _ _ _ l a3 n (by omega) (by omega), Option.bind_some]
 simp only [Option.bind_some]
 cases g with
 | false =>
  refine ⟨false, ?_, ?_⟩
  ·
   by_cases h : a0.toList = t0.toList
   ·
    simp [h]
   ·
    simp [h]
  ·
   simp
 | true =>
  by_cases h : a0.toList = t0.toList
  ·
   have h2 : (a0.toList != t0.toList) = false := by rw [h]; simp
   generalize colR l a3 = p
   by_cases h3 : a3.toList = []
   ·
    exact ⟨true, by simp [h, h3], by simp [h2, h3]⟩
   ·
    by_cases h4 : p.2.2 = true
    ·
     by_cases h5 : a5 = true
     ·
      exact ⟨true, by simp [h, h3, h4, h5], by simp [h2, h3, h4, h5]⟩
     ·
      exact ⟨a7 == p.2.1, by simp [h, h3, h4, h5], by simp [h2, h3, h4, h5]⟩
    ·
     exact ⟨false, by simp [h, h3, h4], by simp [h2, h3, h4]⟩
  ·
   have h2 : (a0.toList != t0.toList) = true := by simpa using h
   exact ⟨false, by simp [h], by simp [h2]⟩
theorem find_l0 (x : ByteArray) (l : List Tab) (hl : l.length ≤ 1000000) : ∀ (d i k : Nat), i + d = l.length → d < k → ∃ r, schema_Find.l0 k x l (l.length : Int) (i : Int) = some r ∧ skerryref17_Find.l0 k x l (l.length : Int) (i : Int) = some r
 | d, i, 0, _, h => by omega
 | 0, i, k + 1, hd, _ => ⟨_, by rw [schema_Find.l0, if_neg (by omega)], by rw [skerryref17_Find.l0, if_neg (by omega)]⟩
 | d + 1, i, k + 1, hd, hk => by
  have e1 : schema_Find.l0 (k + 1) x l (l.length : Int) (i : Int) = if ((rd_T26 l (i : Int)).f0).toList = x.toList then some ((rd_T26 l (i : Int)).f0, (rd_T26 l (i : Int)).f1, (rd_T26 l (i : Int)).f2, (rd_T26 l (i : Int)).f3, true) else schema_Find.l0 k x l (l.length : Int) ((i + 1 : Nat) : Int) := by
   rw [schema_Find.l0, if_pos (by omega), if_pos (by omega), if_pos (by omega), wr_succ i (by omega)]
  have e2 : skerryref17_Find.l0 (k + 1) x l (l.length : Int) (i : Int) = if ((rd_T26 l (i : Int)).f0).toList = x.toList then some ((rd_T26 l (i : Int)).f0, (rd_T26 l (i : Int)).f1, (rd_T26 l (i : Int)).f2, (rd_T26 l (i : Int)).f3, true) else skerryref17_Find.l0 k x l (l.length : Int) ((i + 1 : Nat) : Int) := by
   rw [skerryref17_Find.l0, if_pos (by omega), if_pos (by omega), if_pos (by omega), wr_succ i (by omega)]
  rw [e1, e2]
  by_cases h : ((rd_T26 l (i : Int)).f0).toList = x.toList
  ·
   rw [if_pos h, if_pos h]; exact ⟨_, rfl, rfl⟩
  ·
   rw [if_neg h, if_neg h]; exact find_l0 x l hl d (i + 1) k (by omega) (by omega)
theorem fits_l0 (l : List Tab) (hl : l.length ≤ 100) (n : ByteArray) (a0 a1 : ByteArray) (a2 : Int) (a3 : ByteArray) (a4 : Int) (a5 : Bool) (a6 a7 a8 : Int) (a9 : ByteArray) : ∀ (d i k : Nat), i + d = l.length → d + 400 < k →
  skerrylaw17_SchemaFits.l0 k l n l (l.length : Int) (i : Int) a0 a1 a2 a3 a4 a5 a6 a7 a8 a9 = some true
 | d, i, 0, _, h => by omega
 | 0, i, k + 1, hd, hk => by
  obtain ⟨r, h1, h2⟩ := find_l0 n l (by omega) l.length 0 k (by omega) (by omega)
  rw [skerrylaw17_SchemaFits.l0, if_neg (by omega)]
  unfold schema_Find.f skerryref17_Find.f
  rw [show ((0 : Int)) = ((0 : Nat) : Int) from rfl, h1, h2, Option.bind_some, Option.bind_some, if_pos rfl, if_pos rfl, if_pos rfl, if_pos rfl, if_pos (by simp), lives k (by omega)]; rfl
 | d + 1, i, k + 1, hd, hk => by
  rw [skerrylaw17_SchemaFits.l0, if_pos (by omega), if_pos (by omega), if_pos (by omega), wr_succ i (by omega)]
  generalize rd_T26 l (i : Int) = t
  by_cases h : (t.f3.length : Int) > 200
  ·
   rw [if_pos h, lives k (by omega)]; rfl
  ·
   obtain ⟨b, h1, h2⟩ := fits_both t.f0 t.f1 t.f2 t.f3 (by omega) a0 a1 a2 a3 a4 a5 a6 a7 a8 a9 k (by omega)
   rw [if_neg h, h1, h2, Option.bind_some, Option.bind_some, if_neg (by simp)]
   exact fits_l0 l hl n a0 a1 a2 a3 a4 a5 a6 a7 a8 a9 d (i + 1) k (by omega) (by omega)
theorem fits_ok (l : List Tab) (a0 a1 : ByteArray) (a2 : Int) (a3 : ByteArray) (a4 : Int) (a5 : Bool) (a6 a7 a8 : Int) (a9 n : ByteArray) : ∃ k, skerrylaw17_SchemaFits.f k l a0 a1 a2 a3 a4 a5 a6 a7 a8 a9 n = some true := by
 refine ⟨1000, ?_⟩
 have hj : ∀ b : Bool, (b = false → l.length ≤ 100) → skerrylaw17_SchemaFits.j0 1000 l n b a0 a1 a2 a3 a4 a5 a6 a7 a8 a9 = some true := fun b hb => by
  rw [show (1000 : Nat) = 999 + 1 from rfl, skerrylaw17_SchemaFits.j0]
  cases b with
  | true => rw [if_pos rfl, lives 999 (by omega)]; rfl
  | false =>
   have := hb rfl
   rw [if_neg (by decide)]
   exact fits_l0 l (by omega) n a0 a1 a2 a3 a4 a5 a6 a7 a8 a9 l.length 0 999 (by omega) (by omega)
 unfold skerrylaw17_SchemaFits.f
 by_cases h : (l.length : Int) > 100
 ·
  rw [if_pos h]; exact hj true (fun h => by cases h)
 ·
  rw [if_neg h]; exact hj _ (fun _ => by omega)
end Go.Proofs.YtdagddhccdchoaaDoor.Pl
