/- Norm: the program's and the document's. -/
import Derived.Test.YtaedmofnhjaljaaKnQx35
import Derived.Test.YtaedmofnhjaljaaKnQx40
import Derived.Test.YtaedmofnhjaljaaKnJ37
import Derived.Test.YtaedmofnhjaljaaKnNormT
import Derived.Test.YtaedmofnhjaljaaKnQx37
import Derived.Test.YtaedmofnhjaljaaKnQx38
import Derived.Test.YtaedmofnhjaljaaKnQx36
namespace Go.Proofs.Ytaedmofnhjaljaa.Pl
open Go Go.RowKit Go.Proofs.YtaedmofnhjaljaaW.PrintWords Go.Proofs.Ytaedmofnhjaljaa.Q Go.Proofs.Ytaedmofnhjaljaa.Ord Go.Proofs.Ytaedmofnhjaljaa.Nm
def keyC (x : S29) : S23 := x.f0
def joinC (a b : S29) : S29 := ⟨a.f0, joinV a.f1 b.f1⟩
theorem joinC_key (a b : S29) : keyC (joinC a b) = keyC a := rfl
abbrev normC (l : List (S29)) : List (S29) := norm cmpK keyC joinC l
theorem ltC_eq : ltC = ltK cmpK keyC := rfl
theorem rd_cell (l : List (S29)) (i : Nat) (hi : i < l.length) : rd_T29 l (i : Int) = l[i] := by
 unfold rd_T29; simp [List.getD_eq_getElem?_getD, List.getElem?_eq_getElem hi]
theorem next_n {i n : Nat} (hi : i < n) (hn : n ≤ 1256584717400) : wrap64 ((i : Int) + 1) = ((i + 1 : Nat) : Int) := by unfold wrap64; omega
theorem last_n {n : Nat} (hn : n ≤ 1256584717458) : wrap64 (((n + 1 : Nat) : Int) - 1) = (n : Int) := by unfold wrap64; omega
theorem norm2_f (x y : S29) : cell_Norm_2.f x.f0.f0 x.f0.f1 x.f0.f2 x.f0.f3 x.f1.f0 x.f1.f1 x.f1.f2 x.f1.f3.f0 x.f1.f3.f1 x.f1.f3.f2 y.f0.f0 y.f0.f1 y.f0.f2 y.f0.f3 y.f1.f0 y.f1.f1 y.f1.f2 y.f1.f3.f0 y.f1.f3.f1 y.f1.f3.f2 = some (cmpK x.f0 y.f0 == 0) := by
 unfold cell_Norm_2.f; rw [keyB_cmp]
theorem norm3_f (k : Nat) (hk : 5 ≤ k) (x y : S29) : cell_Norm_3.f k x.f0.f0 x.f0.f1 x.f0.f2 x.f0.f3 x.f1.f0 x.f1.f1 x.f1.f2 x.f1.f3.f0 x.f1.f3.f1 x.f1.f3.f2 y.f0.f0 y.f0.f1 y.f0.f2 y.f0.f3 y.f1.f0 y.f1.f1 y.f1.f2 y.f1.f3.f0 y.f1.f3.f1 y.f1.f3.f2 =
  some (x.f0.f0, x.f0.f1, x.f0.f2, x.f0.f3, tupV (joinV x.f1 y.f1)) := by
 unfold cell_Norm_3.f; rw [join_f k hk]; rfl
theorem fold_l0 (l : List (S29)) (hl : l.length ≤ 1256584717400) : ∀ (d i k : Nat) (p : List (S29)) (acc : S29), i + d = l.length → d + 5 < k → p.length + d < 1256584717400 →
  api_Cell_43.l0 k (p ++ [acc]) l (l.length : Int) (i : Int) = some (p ++ grp cmpK keyC joinC acc (l.drop i))
 | d, i, 0, p, acc, _, hk, _ => by omega
 | 0, i, k + 1, p, acc, hd, hk, _ => by
  rw [api_Cell_43.l0, if_neg (by omega), List.drop_eq_nil_of_le (by omega)]; rfl
 | d + 1, i, k + 1, p, acc, hd, hk, hp => by
  have hi : i < l.length := by omega
  obtain ⟨c, hc⟩ : ∃ c, l[i] = c := ⟨_, rfl⟩
  have hrd : rd_T29 l (i : Int) = c := (rd_cell l i hi).trans hc
  have hlen : ((p ++ [acc]).length : Int) = ((p.length + 1 : Nat) : Int) := by rw [List.length_append]; rfl
  have hla := last_n (n := p.length) (by omega)
  have hrl : rd_T29 (p ++ [acc]) (p.length : Int) = acc := by rw [rd_cell _ _ (by rw [List.length_append, List.length_singleton]; omega)]; simp
  have hdr : l.drop i = c :: l.drop (i + 1) := by rw [List.drop_eq_getElem_cons hi, hc]
  rw [api_Cell_43.l0]
  simp only [hlen, hla, hrl, hrd, next_n hi hl]
  rw [if_pos (by omega), if_pos (by omega), if_pos (by omega), if_pos (by omega), if_pos (by omega), if_pos (by omega), norm2_f, Option.bind_some, hdr]
  by_cases e : cmpK acc.f0 c.f0 = 0
  ·
   rw [if_pos (by rw [e]; rfl), norm3_f k (by omega), Option.bind_some]
   have hset : ∀ v : S29, (p ++ [acc]).set ((p.length : Int)).toNat v = p ++ [v] := fun v => by simp
   rw [hset]
   rw [grp_same _ (show cmpK (keyC acc) (keyC c) = 0 from e)]
   exact fold_l0 l hl d (i + 1) k p (joinC acc c) (by omega) (by omega) (by omega)
  ·
   rw [if_neg (by simp [e]), if_pos (by rw [List.length_append, List.length_singleton]; omega), grp_other _ (show ¬ cmpK (keyC acc) (keyC c) = 0 from e)]
   have := fold_l0 l hl d (i + 1) k (p ++ [acc]) c (by omega) (by omega) (by rw [List.length_append, List.length_singleton]; omega)
   rw [show p ++ acc :: grp cmpK keyC joinC c (l.drop (i + 1)) = p ++ [acc] ++ grp cmpK keyC joinC c (l.drop (i + 1)) by simp]
   exact this
theorem fold_f (l : List (S29)) (hl : l.length ≤ 1256584717399) (k : Nat) (hk : l.length + 6 < k) : api_Cell_43.f k l = some (fold1 cmpK keyC joinC l) := by
 unfold api_Cell_43.f
 obtain ⟨k, rfl⟩ : ∃ n, k = n + 1 := ⟨k - 1, by omega⟩
 rw [api_Cell_43.l0]
 cases l with
 | nil => rfl
 | cons x l =>
  have hrd : rd_T29 (x :: l) (0 : Int) = x := rfl
  have h1 : wrap64 ((0 : Int) + 1) = ((1 : Nat) : Int) := by unfold wrap64; omega
  simp only [hrd, h1]
  rw [if_pos (by simp), if_pos (by omega), if_pos (by simp), if_neg (by simp), if_pos (by simp)]
  have := fold_l0 (x :: l) (by omega) l.length 1 k [] x (by simp; omega) (by simp at hk; omega) (by simp at hl ⊢; omega)
  exact this
theorem norm_f (l : List (S29)) (hl : l.length ≤ 1000000000000) (k : Nat) (hk : l.length + 6 < k) : cell_Norm.f k l = some (normC l) := by
 have hs := isort_len ltC ltC_ord l
 unfold cell_Norm.f api_Cell_39.f api_Cell_40.f api_Cell_64.f
 rw [if_pos (by omega), Option.bind_some, if_pos ⟨rfl, by omega⟩, Option.bind_some, Option.bind_some, fold_f _ (by omega) k (by omega), Option.bind_some, ltC_eq, fold1_isort cmpK_cmp joinC_key]
def addX : S29 → List (S29) → List (S29) := add cmpK keyC joinC
abbrev refA (k : Nat) (out : List (S29)) (done : Bool) (l : List (S29)) (n i : Int) (c : S29) := skerryref05_Add.l0 k out done l n i c.f0.f0 c.f0.f1 c.f0.f2 c.f0.f3 c.f1.f0 c.f1.f1 c.f1.f2 c.f1.f3.f0 c.f1.f3.f1 c.f1.f3.f2
theorem radd_done (c : S29) (l : List (S29)) (hl : l.length ≤ 1256584717400) : ∀ (d i k : Nat) (out : List (S29)), i + d = l.length → d < k → out.length + d < 1256584717400 → (∀ y ∈ l.drop i, cmpK y.f0 c.f0 > 0) →
  refA k out true l (l.length : Int) (i : Int) c = some (out ++ l.drop i)
 | d, i, 0, out, _, hk, _, _ => by omega
 | 0, i, k + 1, out, hd, hk, _, _ => by
  rw [refA, skerryref05_Add.l0, if_neg (by omega), List.drop_eq_nil_of_le (by omega), if_pos rfl, List.append_nil]
 | d + 1, i, k + 1, out, hd, hk, ho, hg => by
  have hi : i < l.length := by omega
  obtain ⟨x, hc⟩ : ∃ x, l[i] = x := ⟨_, rfl⟩
  have hrd : rd_T29 l (i : Int) = x := (rd_cell l i hi).trans hc
  have hdr : l.drop i = x :: l.drop (i + 1) := by rw [List.drop_eq_getElem_cons hi, hc]
  have hx : cmpK x.f0 c.f0 > 0 := hg x (by rw [hdr]; exact List.mem_cons_self)
  rw [refA, skerryref05_Add.l0]
  simp only [hrd, next_n hi hl, rkey_f]
  rw [if_pos (by omega), if_pos (by omega), if_pos (by omega), Option.bind_some, if_neg (by omega), if_pos hx, if_pos trivial, if_pos (by omega), hdr]
  have := radd_done c l hl d (i + 1) k (out ++ [x]) (by omega) (by omega) (by rw [List.length_append, List.length_singleton]; omega) (fun y hy => hg y (by rw [hdr]; exact List.mem_cons_of_mem _ hy))
  rw [show out ++ x :: l.drop (i + 1) = out ++ [x] ++ l.drop (i + 1) by simp]
  exact this
set_option maxHeartbeats 1000000 in
theorem radd_run (c : S29) (l : List (S29)) (hl : l.length ≤ 1256584717300) (hI : Inc cmpK keyC l) : ∀ (d i k : Nat) (out : List (S29)), i + d = l.length → d < k → out.length + d < 1256584717300 →
  refA k out false l (l.length : Int) (i : Int) c = some (out ++ addX c (l.drop i))
 | d, i, 0, out, _, hk, _ => by omega
 | 0, i, k + 1, out, hd, hk, ho => by
  rw [refA, skerryref05_Add.l0, if_neg (by omega), List.drop_eq_nil_of_le (by omega), if_neg (by decide), if_pos (by omega)]; rfl
 | d + 1, i, k + 1, out, hd, hk, ho => by
  have hi : i < l.length := by omega
  obtain ⟨x, hc⟩ : ∃ x, l[i] = x := ⟨_, rfl⟩
  have hrd : rd_T29 l (i : Int) = x := (rd_cell l i hi).trans hc
  have hdr : l.drop i = x :: l.drop (i + 1) := by rw [List.drop_eq_getElem_cons hi, hc]
  have hp : Inc cmpK keyC (x :: l.drop (i + 1)) := by rw [← hdr]; exact hI.sublist (List.drop_sublist _ _)
  have hq := (List.pairwise_cons.1 hp).1
  have hgt : cmpK x.f0 c.f0 ≥ 0 → ∀ y ∈ l.drop (i + 1), cmpK y.f0 c.f0 > 0 := fun h y hy => by
   have h1 : cmpK x.f0 y.f0 < 0 := hq y hy
   have t := cmpK_cmp.trans y.f0 c.f0 x.f0; have a1 := cmpK_cmp.anti x.f0 c.f0; have a2 := cmpK_cmp.anti x.f0 y.f0
   omega
  rw [refA, skerryref05_Add.l0]
  simp only [hrd, next_n hi (show l.length ≤ 1256584717400 by omega), rkey_f, rjoin_f]
  rw [if_pos (by omega), if_pos (by omega), if_pos (by omega), Option.bind_some, hdr]
  rcases Int.lt_trichotomy (cmpK x.f0 c.f0) 0 with e | e | e
  ·
   rw [if_neg (by omega), if_neg (by omega), if_pos (by omega), show addX c (x :: l.drop (i + 1)) = x :: addX c (l.drop (i + 1)) from add_less _ e]
   have := radd_run c l hl hI d (i + 1) k (out ++ [x]) (by omega) (by omega) (by rw [List.length_append, List.length_singleton]; omega)
   rw [show out ++ x :: addX c (l.drop (i + 1)) = out ++ [x] ++ addX c (l.drop (i + 1)) by simp]
   exact this
  ·
   rw [if_pos e, Option.bind_some, if_neg (by omega), if_pos (by omega), show addX c (x :: l.drop (i + 1)) = joinC x c :: l.drop (i + 1) from add_same _ e]
   have := radd_done c l (by omega) d (i + 1) k (out ++ [joinC x c]) (by omega) (by omega) (by rw [List.length_append, List.length_singleton]; omega) (hgt (by omega))
   rw [show out ++ joinC x c :: l.drop (i + 1) = out ++ [joinC x c] ++ l.drop (i + 1) by simp]
   exact this
  ·
   rw [if_neg (by omega), if_pos e, if_neg (by decide), if_pos (by omega), Option.bind_some, if_pos (by rw [List.length_append, List.length_singleton]; omega), show addX c (x :: l.drop (i + 1)) = c :: x :: l.drop (i + 1) from add_more _ e]
   have := radd_done c l (by omega) d (i + 1) k (out ++ [c] ++ [x]) (by omega) (by omega) (by simp only [List.length_append, List.length_singleton]; omega) (hgt (by omega))
   rw [show out ++ c :: x :: l.drop (i + 1) = out ++ [c] ++ [x] ++ l.drop (i + 1) by simp]
   exact this
theorem radd_f (c : S29) (l : List (S29)) (hl : l.length ≤ 1000000000000) (hI : Inc cmpK keyC l) (k : Nat) (hk : l.length < k) :
  skerryref05_Add.f k l c.f0.f0 c.f0.f1 c.f0.f2 c.f0.f3 c.f1.f0 c.f1.f1 c.f1.f2 c.f1.f3.f0 c.f1.f3.f1 c.f1.f3.f2 = some (addX c l) := by
 have := radd_run c l (by omega) hI l.length 0 k [] (by omega) hk (by simp; omega)
 exact this
theorem rnorm_l0 (l : List (S29)) (hl : l.length ≤ 500000000000) : ∀ (d i k : Nat) (s : List (S29)), i + d = l.length → l.length < k → s.length ≤ i → Inc cmpK keyC s → d + l.length < k →
  skerryref05_Norm.l0 k s l (l.length : Int) (i : Int) = some ((l.drop i).foldl (fun s x => addX x s) s)
 | d, i, 0, s, _, hk, _, _, _ => by omega
 | 0, i, k + 1, s, hd, hk, _, _, _ => by
  rw [skerryref05_Norm.l0, if_neg (by omega), List.drop_eq_nil_of_le (by omega)]; rfl
 | d + 1, i, k + 1, s, hd, hk, hs, hI, hk2 => by
  have hi : i < l.length := by omega
  obtain ⟨x, hc⟩ : ∃ x, l[i] = x := ⟨_, rfl⟩
  have hrd : rd_T29 l (i : Int) = x := (rd_cell l i hi).trans hc
  have hdr : l.drop i = x :: l.drop (i + 1) := by rw [List.drop_eq_getElem_cons hi, hc]
  rw [skerryref05_Norm.l0, if_pos (by omega), if_pos (by omega), if_pos (by omega)]
  simp only [hrd, next_n hi (show l.length ≤ 1256584717400 by omega)]
  rw [radd_f x s (by omega) hI k (by omega), Option.bind_some, hdr, List.foldl_cons]
  have hlen : (addX x s).length ≤ s.length + 1 := add_len x s
  exact rnorm_l0 l hl d (i + 1) k (addX x s) (by omega) (by omega) (by omega) (add_inc cmpK_cmp joinC_key x s hI) (by omega)
theorem rnorm_f (l : List (S29)) (hl : l.length ≤ 500000000000) (k : Nat) (hk : 2 * l.length < k) : skerryref05_Norm.f k l = some (normC l) := by
 have := rnorm_l0 l hl l.length 0 k [] (by omega) (by omega) (Nat.le_refl _) List.Pairwise.nil (by omega)
 exact this
end Go.Proofs.Ytaedmofnhjaljaa.Pl
namespace Go.Proofs.Ytaedmofnhjaljaa.Pl
open Go Go.RowKit Go.Proofs.YtaedmofnhjaljaaW.PrintWords Go.Proofs.Ytaedmofnhjaljaa.Q Go.Proofs.Ytaedmofnhjaljaa.Ord Go.Proofs.Ytaedmofnhjaljaa.Nm
theorem like_l0 (l : List (S29)) (hl : l.length ≤ 1256584717400) : ∀ (d i k : Nat), i + d = l.length → d < k → skerryref01_Like.l0 k l l (l.length : Int) (i : Int) = some true
 | d, i, 0, _, hk => by omega
 | 0, i, k + 1, hd, hk => by rw [skerryref01_Like.l0, if_neg (by omega)]
 | d + 1, i, k + 1, hd, hk => by
  have hi : i < l.length := by omega
  rw [skerryref01_Like.l0, if_pos (by omega), if_pos (by omega), if_pos (by omega), if_pos (by omega), if_neg (by simp), next_n hi hl]
  exact like_l0 l hl d (i + 1) k (by omega) (by omega)
theorem like_self (l : List (S29)) (hl : l.length ≤ 1256584717400) (k : Nat) (hk : l.length < k) : skerryref01_Like.f k l l = some true := by
 unfold skerryref01_Like.f
 rw [if_pos rfl]
 exact like_l0 l hl l.length 0 k (by omega) hk
end Go.Proofs.Ytaedmofnhjaljaa.Pl
namespace Go.Proofs.Ytaedmofnhjaljaa.Pl
open Go Go.RowKit Go.Proofs.YtaedmofnhjaljaaW.PrintWords Go.Proofs.Ytaedmofnhjaljaa.Q Go.Proofs.Ytaedmofnhjaljaa.Ord Go.Proofs.Ytaedmofnhjaljaa.Nm
def tupF (o : Option (S29)) : Int × Bool × Int × Int × Int × ByteArray × Bool :=
 match o with
 | some c => (c.f1.f0, c.f1.f1, c.f1.f2, c.f1.f3.f0, c.f1.f3.f1, c.f1.f3.f2, true)
 | none => (0, false, 0, 0, 0, ⟨#[]⟩, false)
theorem find_f (l : List (S29)) (x : S23) : cell_Find.f l x.f0 x.f1 x.f2 x.f3 = some (tupF (lk cmpK keyC x l)) := by
 have e : (fun c : S29 => keyB c x.f0 x.f1 x.f2 x.f3) = fun c => cmpK (keyC c) x == 0 := funext fun c => by unfold keyB; exact keyB_cmp c.f0 x
 unfold cell_Find.f lk
 rw [e]; rfl
theorem rfind_l0 (l : List (S29)) (hl : l.length ≤ 1256584717400) (x : S23) : ∀ (d i k : Nat), i + d = l.length → d < k → skerryref05_Find.l0 k l (l.length : Int) (i : Int) x.f0 x.f1 x.f2 x.f3 = some (tupF (lk cmpK keyC x (l.drop i)))
 | d, i, 0, _, hk => by omega
 | 0, i, k + 1, hd, hk => by rw [skerryref05_Find.l0, if_neg (by omega), List.drop_eq_nil_of_le (by omega)]; rfl
 | d + 1, i, k + 1, hd, hk => by
  have hi : i < l.length := by omega
  rw [skerryref05_Find.l0, rd_cell l i hi, if_pos (by omega), if_pos (by omega), if_pos (by omega), keyB_cmp l[i].f0 x, next_n hi hl, rfind_l0 l hl x d (i + 1) k (by omega) (by omega), List.drop_eq_getElem_cons hi, lk_cons]
  by_cases h : cmpK l[i].f0 x = 0
  ·
   rw [if_pos (by rw [h]; rfl), if_pos (show cmpK (keyC l[i]) x = 0 from h)]; rfl
  ·
   rw [if_neg (by simp [h]), if_neg (show ¬ cmpK (keyC l[i]) x = 0 from h)]
theorem rfind_f (l : List (S29)) (hl : l.length ≤ 1256584717400) (x : S23) (k : Nat) (hk : l.length < k) : skerryref05_Find.f k l x.f0 x.f1 x.f2 x.f3 = some (tupF (lk cmpK keyC x l)) :=
 rfind_l0 l hl x l.length 0 k (by omega) hk
end Go.Proofs.Ytaedmofnhjaljaa.Pl
namespace Go.Proofs.Ytaedmofnhjaljaa.Pl
open Go Go.RowKit Go.Proofs.YtaedmofnhjaljaaW.PrintWords Go.Proofs.Ytaedmofnhjaljaa.Q Go.Proofs.Ytaedmofnhjaljaa.Ord Go.Proofs.Ytaedmofnhjaljaa.Nm
theorem prev_n {i n : Nat} (h1 : 1 ≤ i) (hi : i ≤ n) (hn : n ≤ 1256584717400) : wrap64 ((i : Int) - 1) = ((i - 1 : Nat) : Int) := by unfold wrap64; omega
theorem inc_two (x y : S29) (l : List (S29)) : Inc cmpK keyC (x :: y :: l) ↔ cmpK x.f0 y.f0 < 0 ∧ Inc cmpK keyC (y :: l) := by
 constructor
 ·
  intro h
  have := List.pairwise_cons.1 h
  exact ⟨this.1 y List.mem_cons_self, this.2⟩
 ·
  rintro ⟨h, h'⟩
  refine List.pairwise_cons.2 ⟨fun z hz => ?_, h'⟩
  have hq := (List.pairwise_cons.1 h').1
  rcases List.mem_cons.1 hz with rfl | hz
  ·
   exact h
  ·
   have h1 : cmpK y.f0 z.f0 < 0 := hq z hz
   have t := cmpK_cmp.trans x.f0 y.f0 z.f0; have a1 := cmpK_cmp.anti x.f0 z.f0; have t' := cmpK_cmp.trans z.f0 x.f0 y.f0; have a2 := cmpK_cmp.anti y.f0 z.f0
   show cmpK x.f0 z.f0 < 0
   omega
theorem sorted_l0 (l : List (S29)) (hl : l.length ≤ 1256584717400) : ∀ (d i k : Nat), 1 ≤ i → i + d = l.length → d + 6 < k → ∃ b : Bool, cell_Sorted.l0 k l (i : Int) = some b ∧ (b = true ↔ Inc cmpK keyC (l.drop (i - 1)))
 | d, i, 0, _, _, hk => by omega
 | 0, i, k + 1, h1, hd, hk => by
  refine ⟨true, ?_, ?_⟩
  ·
   rw [cell_Sorted.l0, if_neg (by omega)]
  ·
   have hi : i - 1 < l.length := by omega
   rw [List.drop_eq_getElem_cons hi, List.drop_eq_nil_of_le (by omega)]
   simp [Inc]
 | d + 1, i, k + 1, h1, hd, hk => by
  have hi : i < l.length := by omega
  have hp : i - 1 < l.length := by omega
  have e1 := prev_n h1 (show i ≤ l.length by omega) hl
  obtain ⟨b, hb, hI⟩ := sorted_l0 l hl d (i + 1) k (by omega) (by omega) (by omega)
  have hd2 : l.drop (i - 1) = l[i - 1] :: l[i] :: l.drop (i + 1) := by
   rw [List.drop_eq_getElem_cons hp, show i - 1 + 1 = i by omega, List.drop_eq_getElem_cons hi]
  have hd1 : l.drop (i + 1 - 1) = l[i] :: l.drop (i + 1) := by rw [show i + 1 - 1 = i by omega, List.drop_eq_getElem_cons hi]
  rw [cell_Sorted.l0, e1, rd_cell l _ hp, rd_cell l _ hi, key_Cmp_f k (by omega), if_pos (by omega), if_pos (by omega), if_pos (by omega), if_pos (by omega), Option.bind_some, next_n hi hl, hb, hd2, inc_two]
  rw [hd1] at hI
  by_cases hc : cmpK l[i - 1].f0 l[i].f0 ≥ 0
  ·
   rw [if_pos hc]
   exact ⟨false, rfl, by simp; omega⟩
  ·
   rw [if_neg hc]
   exact ⟨b, rfl, hI.trans ⟨fun h => ⟨by omega, h⟩, fun h => h.2⟩⟩
theorem sorted_f (l : List (S29)) (hl : l.length ≤ 1256584717400) (k : Nat) (hk : l.length + 7 < k) : ∃ b : Bool, cell_Sorted.f k l = some b ∧ (b = true ↔ Inc cmpK keyC l) := by
 unfold cell_Sorted.f
 cases l with
 | nil =>
  obtain ⟨k, rfl⟩ : ∃ n, k = n + 1 := ⟨k - 1, by omega⟩
  exact ⟨true, by rw [cell_Sorted.l0]; rfl, by simp [Inc]⟩
 | cons x l => exact sorted_l0 (x :: l) hl l.length 1 k (Nat.le_refl _) (by simp; omega) (by simp at hk; omega)
end Go.Proofs.Ytaedmofnhjaljaa.Pl
