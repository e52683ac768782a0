/- skerryref12.Buckets: the rows of its second and third part. -/
import Derived.Test.YthlffcaaifpdeaaVaRbL
import Derived.Maps.AppendAt
namespace Go.Proofs.Ythlffcaaifpdeaa.Srt
open Go Go.Shelf Go.RowKit Go.Lib Go.Sort Go.Proofs Go.Proofs.YthlffcaaifpdeaaW.PrintWords Go.Proofs.YthlffcaaifpdeaaW.PrintLast Go.Proofs.YthlffcaaifpdeaaW.PrintMore Go.Proofs.Ythlffcaaifpdeaa.Ord
set_option linter.unusedVariables false
set_option linter.unusedSimpArgs false
abbrev kRow : Kd (List Int) := Kd.slice 3 (Kd.int .i64)
structure GS (w W : World) (vo : Value) (os : List Int) (v : Value) (rows : List (List Int)) : Prop where
 ro : Kd.R (Kd.int .i64) 3 W w.heap.size (fun k => some k = vo.ownBlock) vo os
 out : Kd.S kRow 22 W w.heap.size (fun k => some k ≠ vo.ownBlock) v rows
 bel : Below w.heap.size w W
theorem GS.below {w W w1 : World} {vo v : Value} {os : List Int} {rows : List (List Int)} (h : GS w W vo os v rows) (hb : Below W.heap.size W w1) : GS w w1 vo os v rows :=
 ⟨Kd.R_below h.ro hb, Kd.S_below h.out hb, below_step h.bel hb⟩
theorem GS.drewN {w W : World} {vo v : Value} {os : List Int} {rows : List (List Int)} (h : GS w W vo os v rows) (n : Nat) : GS w (W.drewN n) vo os v rows := h.below (pw_below_drewN (Below.refl _ _) n)
theorem GS.fresh {w W : World} {vo v : Value} {os : List Int} {rows : List (List Int)} (h : GS w W vo os v rows) (k : Nat) (hk : W.heap.size ≤ k) : some k ≠ vo.ownBlock := fun e => by
 have := Kd.R_lt h.ro k e.symm; omega
theorem GS.lend {w W : World} {vo : Value} {os : List Int} {g6 n6 cap6 : Nat} {rows : List (List Int)} (h : GS w W vo os (.slice (some ⟨g6, 0, none⟩) n6 cap6) rows) (m : Nat) (hm : m < rows.length) :
  ∃ (oki : Nat → Prop) (A1 : Option Addr) (d1 : Nat), n6 = rows.length ∧ W.cell? ⟨g6, m, none⟩ = some (.slice A1 rows[m].length d1) ∧ W.frozen? ⟨g6, m, none⟩ = false ∧ g6 < W.heap.size ∧ (∀ k, (Value.slice A1 rows[m].length d1).ownBlock = some k → k ≠ g6) ∧
   Kd.R (Kd.int .i64) 3 W w.heap.size oki (.slice A1 rows[m].length d1) rows[m] ∧
   (∀ (w1 : World) (row' : List Int), W.grownBy w1 (Value.slice A1 rows[m].length d1).ownBlock → Below w.heap.size w w1 → Kd.R (Kd.int .i64) 3 w1 w.heap.size oki (.slice A1 rows[m].length d1) row' → GS w w1 vo os (.slice (some ⟨g6, 0, none⟩) n6 cap6) (rows.set m row')) ∧
   (∀ (w1 : World) (v1 : Value) (row' : List Int), W.grownBy w1 (Value.slice A1 rows[m].length d1).ownBlock → Below w.heap.size w w1 → Kd.R (Kd.int .i64) 3 w1 w.heap.size (fun k => oki k ∨ W.heap.size ≤ k) v1 row' → GS w (w1.setCell ⟨g6, m, none⟩ v1) vo os (.slice (some ⟨g6, 0, none⟩) n6 cap6) (rows.set m row')) := by
 have hS := Kd.S_mono (ok' := fun k => some k ≠ vo.ownBlock ∧ ¬ W.heap.size ≤ k) (Kd.S_bound h.out) (fun k hk => ⟨hk.1, by have := hk.2.2.1; omega⟩)
 have hR := Kd.S_R h.out
 have hn := (Kd.R_reads' hR).1
 have hg6 := hR.1 g6 (by simp [Value.ownBlock])
 have hgl := Kd.R_lt hR g6 (by simp [Value.ownBlock])
 have hgb := Kd.R_base hR g6 (by simp [Value.ownBlock])
 obtain ⟨oki, cs, c1, c2, c3, c4, hH⟩ := Kd.S_lend hS [] (m : Int) (by omega) (by omega)
 rw [Int.toNat_natCast] at c2 c3
 rw [List.getD_eq_getElem?_getD, List.getElem?_eq_getElem hm, Option.getD_some] at c2
 obtain ⟨u, rfl, hu⟩ := c2
 obtain ⟨A1, d1, rfl⟩ := Kd.R_slice hu
 have c5 := c3 0 _ rfl
 rw [show m * kRow.sz + 0 = m from Nat.mul_one m] at c5
 have hrow : ∀ k, (Value.slice A1 rows[m].length d1).ownBlock = some k → oki k := hu.1
 obtain ⟨cells, hblk⟩ := Kd.R_typed hR g6 (by simp [Value.ownBlock])
 refine ⟨oki, A1, d1, hn, c5, blk_frozen hblk m, hgl, fun k hk => (c4 k (hrow k hk)).2, hu, fun w1 row' hg hb hr => ?_, fun w1 v1 row' hg hb hr => ?_⟩
 ·
  have h1 := Kd.H_grown hH hg hrow
  have h2 := Kd.H_back h1 (x' := row') (okp := oki) ⟨_, rfl, hr⟩ (fun _ hk => hk)
  rw [Int.toNat_natCast] at h2
  exact ⟨Kd.R_grown h.ro hg (fun k hk e => (c4 k (hrow k e.symm)).1.1 hk), Kd.S_mono h2 (fun k hk => hk.1), hb⟩
 ·
  have h1 := Kd.H_grown hH hg hrow
  have hsz := hg.size
  have hseg := Kd.S_seg (ok := fun k => some k ≠ vo.ownBlock) (okg := fun k => W.heap.size ≤ k) (okp := fun k => oki k ∨ W.heap.size ≤ k) h1 (by omega) (by omega) (seg := [v1]) (j := 0) (by simp; exact Nat.le_refl 1) (x' := row') ⟨v1, rfl, hr⟩ (fun k hk => hk) (fun k hk => ⟨h.fresh k hk, by omega⟩)
  rw [Int.toNat_natCast, show m * kRow.sz + 0 = m from Nat.mul_one m] at hseg
  have hro := Kd.R_grown h.ro hg (fun k hk e => (c4 k (hrow k e.symm)).1.1 hk)
  exact ⟨Kd.R_grown hro hseg.2 (fun k hk e => hg6 (by rw [← e]; exact hk)), hseg.1, below_set hb hgb⟩
theorem bk_last (ss : List Int) : ∀ i, 0 < i → (bkAt ss i).beg < i ∧ ∃ h : 0 < (bkAt ss i).cuts.length, (bkAt ss i).cuts[(bkAt ss i).cuts.length - 1]'(by omega) = ((bkAt ss i).beg, i - (bkAt ss i).beg)
 | i + 1, _ => by
  unfold bkAt bkStep
  split
  ·
   refine ⟨by simp, by simp, ?_⟩
   simp
  ·
   rename_i hn
   have hi : 0 < i := Nat.pos_of_ne_zero fun e => hn (.inl e)
   obtain ⟨h1, h2, h3⟩ := bk_last ss i hi
   refine ⟨by simp; omega, by simp; omega, ?_⟩
   simp
theorem bk_lastq (ss : List Int) (i : Nat) (hi : 0 < i) : (bkAt ss i).beg < i ∧ ∃ m, (bkAt ss i).cuts.length = m + 1 ∧ (bkAt ss i).cuts[m]? = some ((bkAt ss i).beg, i - (bkAt ss i).beg) := by
 obtain ⟨h1, h2, h3⟩ := bk_last ss i hi
 exact ⟨h1, (bkAt ss i).cuts.length - 1, by omega, by rw [List.getElem?_eq_getElem (by omega), h3]⟩
theorem row_snoc (l : List Int) (b i : Nat) (hb : b ≤ i) (hi : i < l.length) : rowOf l (b, i + 1 - b) = rowOf l (b, i - b) ++ [rdOf (0 : Int) (nums (orderF l)) (i : Int)] := by
 have hn : (nums (orderF l)).length = l.length := by unfold nums; rw [List.length_map, orderF_len]
 unfold rowOf rdOf
 dsimp only
 rw [show i + 1 - b = (i - b) + 1 by omega, List.take_succ_eq_append_getElem (by rw [List.length_drop]; omega), Int.toNat_natCast, List.getD_eq_getElem?_getD, List.getElem?_eq_getElem (by omega)]
 simp [show b + (i - b) = i by omega]
theorem row_one (l : List Int) (i : Nat) (hi : i < l.length) : rowOf l (i, 1) = [rdOf (0 : Int) (nums (orderF l)) (i : Int)] := by
 have := row_snoc l i i (Nat.le_refl _) hi
 rw [show i + 1 - i = 1 by omega, Nat.sub_self] at this
 rw [this]; simp [rowOf]
theorem row_len (l : List Int) (x : Nat × Nat) (h : x.1 + x.2 ≤ l.length) : (rowOf l x).length = x.2 := by
 have hn : (nums (orderF l)).length = l.length := by unfold nums; rw [List.length_map, orderF_len]
 unfold rowOf; rw [List.length_take, List.length_drop, hn]; omega
theorem one_row (W : World) (base : Nat) (hb : base ≤ W.heap.size) (x : Int) : Kd.R (Kd.int .i64) 3 (W.alloc (.cells #[.int .i64 x] 3)) base (fun k => k = W.heap.size) (.slice (some ⟨W.heap.size, 0, none⟩) 1 1) [x] := by
 refine Kd.R_of_own (h1 := fun _ => rfl) (own_lit W base 3 .i64 [x] hb (by simp)) (fun k hk => ?_)
 have : W.heap.size = k := by simpa [Value.ownBlock] using hk
 exact this.symm
theorem GS.grown {w W w1 : World} {vo v v1 : Value} {os : List Int} {rows rows1 : List (List Int)} (h : GS w W vo os v rows) (hg : W.grownBy w1 v.ownBlock) (hb : Below w.heap.size w w1) (ho : Kd.S kRow 22 w1 w.heap.size (fun k => some k ≠ vo.ownBlock) v1 rows1) : GS w w1 vo os v1 rows1 :=
 ⟨Kd.R_grown h.ro hg (fun k hk e => (Kd.S_R h.out).1 k e.symm hk), ho, hb⟩
theorem GS.newrow {w W : World} {vo v : Value} {os : List Int} {rows : List (List Int)} (h : GS w W vo os v rows) (x : Int) :
  kRow.M (W.alloc (.cells #[.int .i64 x] 3)) w.heap.size (fun k => k = W.heap.size) [x] [.slice (some ⟨W.heap.size, 0, none⟩) 1 1] ∧ (∀ k, k = W.heap.size → some k ≠ vo.ownBlock ∧ some k ≠ v.ownBlock) ∧ (∀ k, (W.alloc (.cells #[.int .i64 x] 3)).heap.size ≤ k → some k ≠ vo.ownBlock) ∧
   Kd.S kRow 22 (W.alloc (.cells #[.int .i64 x] 3)) w.heap.size (fun k => some k ≠ vo.ownBlock ∧ ¬ k = W.heap.size) v rows ∧ Below w.heap.size w (W.alloc (.cells #[.int .i64 x] 3)) :=
 ⟨⟨_, rfl, one_row W w.heap.size h.bel.size x⟩, fun k hk => ⟨h.fresh k (by omega), fun e => by have := Kd.R_lt (Kd.S_R h.out) k e.symm; omega⟩, fun k hk => h.fresh k (by rw [World.size_alloc] at hk; omega),
  Kd.S_mono (Kd.S_below (Kd.S_bound h.out) (below_alloc (Below.refl _ _) _)) (fun k hk => ⟨hk.1, by have := hk.2.2.1; omega⟩), below_alloc h.bel _⟩
def sortedL (rows : List (List Int)) (q : Nat) : List (List Int) := (rows.take q).map srt ++ rows.drop q
theorem sortedL_zero (rows : List (List Int)) : sortedL rows 0 = rows := by simp [sortedL]
theorem sortedL_len (rows : List (List Int)) (q : Nat) : (sortedL rows q).length = rows.length := by simp [sortedL]; omega
theorem sortedL_full (rows : List (List Int)) : sortedL rows rows.length = rows.map srt := by simp [sortedL]
theorem sortedL_at (rows : List (List Int)) (q : Nat) (hq : q < rows.length) : (sortedL rows q)[q]'(by rw [sortedL_len]; exact hq) = rows[q] := by
 apply Option.some.inj
 rw [← List.getElem?_eq_getElem]
 unfold sortedL
 rw [List.getElem?_append_right (by simp; omega), List.length_map, List.length_take, Nat.min_eq_left (by omega), Nat.sub_self, List.getElem?_drop, Nat.add_zero, List.getElem?_eq_getElem hq]
theorem sortedL_set (rows : List (List Int)) (q : Nat) (hq : q < rows.length) : (sortedL rows q).set q (srt rows[q]) = sortedL rows (q + 1) := by
 unfold sortedL
 rw [List.set_append_right _ _ (by simp; omega), List.length_map, List.length_take, Nat.min_eq_left (by omega), Nat.sub_self, List.drop_eq_getElem_cons hq, List.set_cons_zero, List.take_succ_eq_append_getElem hq, List.map_append, List.append_assoc]; rfl
theorem srt_eq {xs ys : List Int} (hp : ys.Perm xs) (hs : ys.Pairwise (· ≤ ·)) : ys = srt xs := by
 have h1 : (srt xs).Perm xs := List.mergeSort_perm _ _
 have h2 : (srt xs).Pairwise (fun a b => decide (a ≤ b) = true) := List.pairwise_mergeSort (by intro a b c h1 h2; simp at *; omega) (by intro a b; simp; omega) _
 refine List.Perm.eq_of_pairwise (le := fun a b => a ≤ b) (fun a b _ _ h1 h2 => by omega) hs (h2.imp (by intro a b h; simpa using h)) (hp.trans h1.symm)
def goL (s : List Int) (x : Int) (u : List Int) (k : Nat) : List Int := s.take k ++ x :: (s.drop k ++ u)
theorem goL_start (cur : List Int) (i : Nat) (hi : i < cur.length) : goL (cur.take i) cur[i] (cur.drop (i + 1)) i = cur := by
 unfold goL
 rw [List.take_of_length_le (by simp; omega), List.drop_of_length_le (by simp; omega), List.nil_append, ← List.drop_eq_getElem_cons hi, List.take_append_drop]
theorem goL_at (s : List Int) (x : Int) (u : List Int) (k : Nat) (hk : k ≤ s.length) : rdOf (0 : Int) (goL s x u k) (k : Int) = x := by
 unfold rdOf goL
 rw [Int.toNat_natCast, List.getD_eq_getElem?_getD, List.getElem?_append_right (by simp; omega), List.length_take, Nat.min_eq_left hk, Nat.sub_self]; rfl
theorem goL_before (s : List Int) (x : Int) (u : List Int) (k : Nat) (hk : k < s.length) : rdOf (0 : Int) (goL s x u (k + 1)) (k : Int) = s[k] := by
 unfold rdOf goL
 rw [Int.toNat_natCast, List.getD_eq_getElem?_getD, List.getElem?_append_left (by simp; omega), List.getElem?_take_of_lt (by omega), List.getElem?_eq_getElem hk]; rfl
theorem goL_swap (s : List Int) (x : Int) (u : List Int) (k : Nat) (hk : k < s.length) : ((goL s x u (k + 1)).set k x).set (k + 1) s[k] = goL s x u k := by
 unfold goL
 have h1 : (s.take k).length = k := by simp; omega
 rw [List.take_succ_eq_append_getElem hk, List.drop_eq_getElem_cons hk, List.append_assoc, List.set_append_right _ _ (by omega), h1, Nat.sub_self, List.set_append_right _ _ (by omega), h1, Nat.add_sub_cancel_left]
 rfl
theorem goL_swap' (s : List Int) (x : Int) (u : List Int) (k : Nat) (hk : k < s.length) : ((goL s x u (k + 1)).set (k + 1) s[k]).set k x = goL s x u k := by
 rw [List.set_comm _ _ (by omega), goL_swap s x u k hk]
theorem goL_perm (s : List Int) (x : Int) (u : List Int) (k : Nat) : (goL s x u k).Perm (s ++ x :: u) := by
 unfold goL
 have h1 : (s.take k ++ x :: (s.drop k ++ u)).Perm (x :: (s.take k ++ (s.drop k ++ u))) := List.perm_middle
 rw [← List.append_assoc, List.take_append_drop] at h1
 exact h1.trans List.perm_middle.symm
theorem goL_sorted (s : List Int) (x : Int) (u : List Int) (k : Nat) (hk : k ≤ s.length) (hs : s.Pairwise (· ≤ ·)) (h1 : ∀ t ∈ s.drop k, x < t) (h2 : ∀ h : 0 < k, s[k - 1]'(by omega) ≤ x) : ((goL s x u k).take (s.length + 1)).Pairwise (· ≤ ·) := by
 have e : (goL s x u k).take (s.length + 1) = s.take k ++ x :: s.drop k := by
  unfold goL
  rw [← List.cons_append, ← List.append_assoc, List.take_append_of_le_length (by simp; omega), List.take_of_length_le (by simp; omega)]
 rw [e]
 have hs' := hs
 rw [← List.take_append_drop k s] at hs'
 obtain ⟨a1, a2, a3⟩ := List.pairwise_append.1 hs'
 refine List.pairwise_append.2 ⟨a1, List.pairwise_cons.2 ⟨fun t ht => Int.le_of_lt (h1 t ht), a2⟩, fun a ha b hb => ?_⟩
 rcases List.mem_cons.1 hb with rfl | hb
 ·
  obtain ⟨p, hp, rfl⟩ := List.mem_take_iff_getElem.1 ha
  have hpk : p < k := by omega
  have h3 := h2 (by omega)
  rcases Nat.lt_or_ge p (k - 1) with h | h
  ·
   have := List.pairwise_iff_getElem.1 hs p (k - 1) (by omega) (by omega) h
   omega
  ·
   obtain rfl : p = k - 1 := by omega
   exact h3
 ·
  exact a3 a ha b hb
structure IS (w W0 W : World) (oki : Nat → Prop) (v : Value) (cur : List Int) : Prop where
 hg : W0.grownBy W v.ownBlock
 bel : Below w.heap.size w W
 ro : Kd.R (Kd.int .i64) 3 W w.heap.size oki v cur
theorem IS.drewN {w W0 W : World} {oki : Nat → Prop} {v : Value} {cur : List Int} (h : IS w W0 W oki v cur) (n : Nat) : IS w W0 (W.drewN n) oki v cur :=
 ⟨h.hg.trans (grown_of_below (pw_below_drewN (Below.refl _ _) n) _), pw_below_drewN h.bel n, Kd.R_drewN h.ro n⟩
theorem IS.drew {w W0 W : World} {oki : Nat → Prop} {v : Value} {cur : List Int} (h : IS w W0 W oki v cur) : IS w W0 W.drew oki v cur := h.drewN 1
theorem IS.put {w W0 W : World} {oki : Nat → Prop} {g n cap : Nat} {cur : List Int} (h : IS w W0 W oki (.slice (some ⟨g, 0, none⟩) n cap) cur) (k : Nat) (x : Int) : IS w W0 (W.setCell ⟨g, k, none⟩ (.int .i64 x)) oki (.slice (some ⟨g, 0, none⟩) n cap) (cur.set k x) := by
 have h1 := Kd.R_putg h.ro (k : Int) x
 rw [Int.toNat_natCast] at h1
 exact ⟨h.hg.trans h1.2, below_set h.bel (Kd.R_base h.ro g (by simp [Value.ownBlock])), h1.1⟩
theorem IS.cell {w W0 W : World} {oki : Nat → Prop} {g n cap : Nat} {cur : List Int} (h : IS w W0 W oki (.slice (some ⟨g, 0, none⟩) n cap) cur) (k : Nat) (hk : k < n) : W.cell? ⟨g, k, none⟩ = some (.int .i64 (rdOf 0 cur (k : Int))) ∧ W.frozen? ⟨g, k, none⟩ = false := by
 have := Kd.R_celln (d := (0 : Int)) h.ro (k : Int) (by omega) (by omega)
 rwa [Int.toNat_natCast] at this
end Go.Proofs.Ythlffcaaifpdeaa.Srt
