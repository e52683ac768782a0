/- tiers.Buckets: what holds in its parts (worlds and plain lists). -/
import Derived.Test.YthlffcaaifpdeaaVbTier3
import Derived.Test.YthlffcaaifpdeaaVbJ22
import Derived.Test.YthlffcaaifpdeaaVbJ17
import Derived.Test.YthlffcaaifpdeaaVbRw
import Derived.WalkSpells
import Derived.Deep.MidRow
namespace Go.Proofs.Ythlffcaaifpdeaa.Srt
open Go Go.Shelf Go.RowKit Go.Lib Go.Sort Go.Proofs Go.Proofs.YthlffcaaifpdeaaW.PrintWords Go.Proofs.YthlffcaaifpdeaaW.PrintLast Go.Proofs.YthlffcaaifpdeaaW.PrintMore Go.Proofs.Ythlffcaaifpdeaa.Ord
set_option linter.unusedVariables false
set_option linter.unusedSimpArgs false
theorem info3 : (Try.prog.info? 3).map (fun i => (i.zero, i.size, i.bytes)) = some (some (.int .i64 0), 1, 8) := by kernel_rfl
structure Bx (w : World) (A : Option Addr) (n c : Nat) (W : World) : Prop where
 b : Below w.heap.size w W
 s : W.heap[w.heap.size]? = some (.cells #[.slice A n c] 22 (0, 0))
 f : W.heap[w.heap.size + 1]? = some (.cells #[.func (.func 13) #[] #[.pointer (some ⟨w.heap.size, 0, none⟩)]] 33 (0, 0))
structure OS (w : World) (A : Option Addr) (n c g cap i : Nat) (W : World) : Prop where
 bx : Bx w A n c W
 ro : Kd.R (Kd.int .i64) 3 W w.heap.size (fun _ => True) (.slice (some ⟨g, 0, none⟩) n cap) (ups i n)
 hg : w.heap.size + 2 ≤ g
theorem Bx.set {w : World} {A : Option Addr} {n c : Nat} {W : World} (h : Bx w A n c W) {g : Nat} (hg : w.heap.size + 2 ≤ g) (o : Nat) (u : Value) : Bx w A n c (W.setCell ⟨g, o, none⟩ u) :=
 ⟨below_set h.b (by omega), blk_far h.s (p := ⟨g, o, none⟩) (by simp; omega) u, blk_far h.f (p := ⟨g, o, none⟩) (by simp; omega) u⟩
theorem OS.put {w : World} {A : Option Addr} {n c g cap i : Nat} {W : World} (h : OS w A n c g cap i W) (hi : i < n) : OS w A n c g cap (i + 1) (W.setCell ⟨g, i, none⟩ (.int .i64 (i : Int))) := by
 refine ⟨h.bx.set h.hg _ _, ?_, h.hg⟩
 have := Kd.R_putn h.ro (i : Int) (i : Int)
 rw [Int.toNat_natCast, ups_set hi] at this
 exact this
theorem orderF_len (l : List Int) : (orderF l).length = l.length := by
 have := (isort_stab (cfS_ord l) (List.finRange l.length)).length
 rw [List.length_finRange] at this
 exact this
structure PS (w : World) (A : Option Addr) (l : List Int) (c g cap : Nat) (W : World) : Prop where
 bx : Bx w A l.length c W
 ro : Kd.R (Kd.int .i64) 3 W w.heap.size (fun k => k = g) (.slice (some ⟨g, 0, none⟩) l.length cap) (nums (orderF l))
 hg : w.heap.size + 2 ≤ g
theorem sort_step {w : World} {A : Option Addr} {l : List Int} {c g cap : Nat} {W : World} (h : OS w A l.length c g cap l.length W) (hC : (Kd.int .i64).C w A l.length l) (hN : l.length ≤ 1000000) :
  Calls Try.prog 14 #[.slice (some ⟨g, 0, none⟩) l.length cap, .func (.func 15) #[] #[.pointer (some ⟨w.heap.size + 1, 0, none⟩)]] W fun e w' => e = .returned (.tuple #[]) ∧ PS w A l c g cap w' := by
 have hro : Kd.R (Kd.int .i64) 3 W w.heap.size (fun k => k = g) (.slice (some ⟨g, 0, none⟩) l.length cap) (ups l.length l.length) := Kd.R_mono (Kd.R_tight rfl h.ro) (fun k hk => by simpa [Value.ownBlock] using hk)
 rw [ups_full] at hro
 have h1 := h.bx.s
 have h2 := h.bx.f
 have hg := h.hg
 rcases Nat.eq_zero_or_pos l.length with h0 | h0
 ·
  have e0 : nums (orderF l) = nums (List.finRange l.length) := by
   have hl : (orderF l).length = 0 := by rw [orderF_len, h0]
   rw [List.eq_nil_of_length_eq_zero hl, List.eq_nil_of_length_eq_zero (show (List.finRange l.length).length = 0 by simp [h0])]
  have := sortStable_none (some ⟨g, 0, none⟩) cap (.func (.func 15) #[] #[.pointer (some ⟨w.heap.size + 1, 0, none⟩)]) W
  rw [h0]
  refine this.mono ?_
  rintro e w' ⟨rfl, rfl⟩
  refine ⟨rfl, h.bx, ?_, hg⟩
  rw [e0]; exact hro
 ·
  letI : Inhabited (Fin l.length) := ⟨⟨0, h0⟩⟩
  refine (sortStable_call w.heap.size (w.heap.size + 1) A c l w.heap.size (fun k => k = g) g cap w W (blk_lt h1) (blk_lt h2) (by omega) (by omega) ((blk_cell h1 0).trans rfl) ((blk_cell h2 0).trans rfl) hC h.bx.b (by omega) (by omega) hro).mono ?_
  rintro e w' ⟨rfl, hR, hW⟩
  exact ⟨rfl, ⟨hW.old h.bx.b (by omega), (hW.other _ (blk_lt h1) (by omega)).trans h1, (hW.other _ (blk_lt h2) (by omega)).trans h2⟩, hR, hg⟩
def ssF (l : List Int) : List Int := (orderF l).map fun t => sz l[t.val]
theorem sz_range (x : Int) : 0 ≤ sz x ∧ sz x ≤ 1099511627776 := by unfold sz; split <;> split <;> omega
theorem ssF_range (l : List Int) : ∀ s ∈ ssF l, 0 ≤ s ∧ s ≤ 1099511627776 := fun s hs => by
 obtain ⟨t, _, rfl⟩ := List.mem_map.1 hs
 exact sz_range _
theorem ssF_len (l : List Int) : (ssF l).length = l.length := by unfold ssF; rw [List.length_map, orderF_len]
theorem ord_at (l : List Int) (i : Nat) (hi : i < l.length) : ∃ T : Nat, ∃ hT : T < l.length, rdOf (0 : Int) (nums (orderF l)) (i : Int) = (T : Int) ∧ (ssF l).getD i 0 = sz l[T] := by
 have h1 : i < (orderF l).length := by rw [orderF_len]; exact hi
 refine ⟨((orderF l)[i]).val, ((orderF l)[i]).isLt, ?_, ?_⟩
 ·
  unfold rdOf nums; rw [Int.toNat_natCast, List.getD_eq_getElem?_getD, List.getElem?_map, List.getElem?_eq_getElem h1]; rfl
 ·
  unfold ssF; rw [List.getD_eq_getElem?_getD, List.getElem?_map, List.getElem?_eq_getElem h1]; rfl
structure LS (w : World) (A : Option Addr) (l : List Int) (c g cap : Nat) (v : Value) (cuts : List (Nat × Nat)) (W : World) : Prop where
 ps : PS w A l c g cap W
 out : Kd.R (kCut g) 22 W w.heap.size (fun k => k ≠ g ∧ w.heap.size + 2 ≤ k) v cuts
theorem PS.grown {w : World} {A : Option Addr} {l : List Int} {c g cap : Nat} {W w1 : World} (h : PS w A l c g cap W) (hb : Below w.heap.size w w1) {row : Option Nat} (hg : W.grownBy w1 row) (hr : ∀ k, row = some k → k ≠ g ∧ w.heap.size + 2 ≤ k) : PS w A l c g cap w1 :=
 ⟨⟨hb, blk_grown h.bx.s hg (fun e => by have := hr _ e.symm; omega), blk_grown h.bx.f hg (fun e => by have := hr _ e.symm; omega)⟩, Kd.R_grown h.ro hg (fun k hk e => by have := hr _ e.symm; omega), h.hg⟩
theorem LS.grown {w : World} {A : Option Addr} {l : List Int} {c g cap : Nat} {v v1 : Value} {cuts cuts1 : List (Nat × Nat)} {W w1 : World} (h : LS w A l c g cap v cuts W) (ho : Kd.R (kCut g) 22 w1 w.heap.size (fun k => k ≠ g ∧ w.heap.size + 2 ≤ k) v1 cuts1) (hb : Below w.heap.size w w1) (hg : W.grownBy w1 v.ownBlock) : LS w A l c g cap v1 cuts1 w1 :=
 ⟨h.ps.grown hb hg h.out.1, ho⟩
theorem LS.form {w : World} {A : Option Addr} {l : List Int} {c g cap : Nat} {v : Value} {cuts : List (Nat × Nat)} {W : World} (h : LS w A l c g cap v cuts W) {m : Nat} (hm : cuts.length = m + 1) :
  ∃ g6 cap6 : Nat, ∃ x : Value, v = .slice (some ⟨g6, 0, none⟩) (m + 1) cap6 ∧ W.cell? ⟨g6, m, none⟩ = some x ∧ W.frozen? ⟨g6, m, none⟩ = false := by
 obtain ⟨g6, cap6, e, h1, h2, cells, h3⟩ := Kd.R_form h.out (by omega)
 rw [hm] at e
 subst e
 have := Kd.R_celln (d := ((0, 0) : Nat × Nat)) h.out ((m : Nat) : Int) (by omega) (by omega)
 rw [Int.toNat_natCast] at this
 exact ⟨g6, cap6, _, rfl, this.1, this.2⟩
theorem LS.put {w : World} {A : Option Addr} {l : List Int} {c g cap g6 n cap6 : Nat} {cuts : List (Nat × Nat)} {W : World} (h : LS w A l c g cap (.slice (some ⟨g6, 0, none⟩) n cap6) cuts W) (k : Nat) (x : Nat × Nat) : LS w A l c g cap (.slice (some ⟨g6, 0, none⟩) n cap6) (cuts.set k x) (W.setCell ⟨g6, k, none⟩ (cutV g x)) := by
 have h0 := h.out.1 g6 (by simp [Value.ownBlock])
 have h1 := Kd.R_putg h.out ((k : Nat) : Int) x
 rw [Int.toNat_natCast] at h1
 exact ⟨h.ps.grown (below_set h.ps.bx.b (by omega)) h1.2 (fun k hk => by injection hk with hk; subst hk; exact h0), h1.1⟩
theorem info_s : (Try.prog.info? 22).map (fun i => (i.zero, i.size, i.bytes)) = some (some (.slice none 0 0), 1, 24) := by kernel_rfl
def kB (g : Nat) : Kd ((Nat × Nat) ⊕ List Int) where
 sz := 1
 E := (Kd.slice 3 (Kd.int .i64)).E
 K := fun w x cs => match x with | .inl p => cs = [cutV g p] | .inr xs => (Kd.slice 3 (Kd.int .i64)).K w xs cs
 M := fun w base ok x cs => match x with | .inl p => cs = [cutV g p] | .inr xs => (Kd.slice 3 (Kd.int .i64)).M w base ok xs cs
 K_len := by
  rintro w (p | xs) cs h
  ·
   rw [show cs = [cutV g p] from h]; rfl
  ·
   exact (Kd.slice 3 (Kd.int .i64)).K_len h
 K_one := by
  rintro w (p | xs) cs h u hu
  ·
   rw [show cs = [cutV g p] from h] at hu; rw [List.mem_singleton.1 hu]; rfl
  ·
   exact (Kd.slice 3 (Kd.int .i64)).K_one h u hu
 K_below := by
  rintro w w1 (p | xs) cs hb h
  ·
   exact h
  ·
   exact (Kd.slice 3 (Kd.int .i64)).K_below hb h
 K_of_M := by
  rintro w base ok (p | xs) cs h
  ·
   exact h
  ·
   exact (Kd.slice 3 (Kd.int .i64)).K_of_M h
 M_mono := by
  rintro w base ok ok' (p | xs) cs hk h
  ·
   exact h
  ·
   exact (Kd.slice 3 (Kd.int .i64)).M_mono hk h
 M_bound := by
  rintro w base ok (p | xs) cs h
  ·
   exact h
  ·
   exact (Kd.slice 3 (Kd.int .i64)).M_bound h
 M_move := by
  rintro w w1 base ok (p | xs) cs hm h
  ·
   exact h
  ·
   exact (Kd.slice 3 (Kd.int .i64)).M_move hm h
 M_lower := by
  rintro w base base' ok (p | xs) cs hb h
  ·
   exact h
  ·
   exact (Kd.slice 3 (Kd.int .i64)).M_lower hb h
def rowOf (l : List Int) (x : Nat × Nat) : List Int := ((nums (orderF l)).drop x.1).take x.2
def srt (xs : List Int) : List Int := xs.mergeSort (fun x y => decide (x ≤ y))
def mixL (l : List Int) (cuts : List (Nat × Nat)) (i : Nat) : List ((Nat × Nat) ⊕ List Int) := (cuts.take i).map (fun x => .inr (srt (rowOf l x))) ++ (cuts.drop i).map .inl
theorem mixL_len (l : List Int) (cuts : List (Nat × Nat)) (i : Nat) : (mixL l cuts i).length = cuts.length := by simp [mixL]; omega
theorem mixL_at (l : List Int) (cuts : List (Nat × Nat)) (i : Nat) (hi : i < cuts.length) : (mixL l cuts i)[i]? = some (.inl cuts[i]) := by
 unfold mixL
 rw [List.getElem?_append_right (by simp; omega), List.length_map, List.length_take, Nat.min_eq_left (by omega), Nat.sub_self, List.getElem?_map, List.getElem?_drop, Nat.add_zero, List.getElem?_eq_getElem hi]; rfl
theorem mixL_set (l : List Int) (cuts : List (Nat × Nat)) (i : Nat) (hi : i < cuts.length) : (mixL l cuts i).set i (.inr (srt (rowOf l cuts[i]))) = mixL l cuts (i + 1) := by
 unfold mixL
 rw [List.set_append_right _ _ (by simp; omega), List.length_map, List.length_take, Nat.min_eq_left (by omega), Nat.sub_self, List.drop_eq_getElem_cons hi, List.map_cons, List.set_cons_zero, List.take_succ_eq_append_getElem hi, List.map_append, List.append_assoc]; rfl
structure FS (w : World) (A : Option Addr) (l : List Int) (c g cap : Nat) (v : Value) (cuts : List (Nat × Nat)) (i : Nat) (W : World) : Prop where
 ps : PS w A l c g cap W
 out : Kd.S (kB g) 22 W w.heap.size (fun k => k ≠ g ∧ w.heap.size + 2 ≤ k) v (mixL l cuts i)
theorem FS.start {w : World} {A : Option Addr} {l : List Int} {c g cap : Nat} {v : Value} {cuts : List (Nat × Nat)} {W : World} (h : LS w A l c g cap v cuts W) : FS w A l c g cap v cuts 0 W := by
 refine ⟨h.ps, S_conv (d := kCut g) rfl (mixL_len _ _ _) (R_S (fun _ _ _ _ h => h) h.out) (fun ok' j x y cs hx hy hm => ?_)⟩
 have : (mixL l cuts 0)[j]? = some (.inl x) := by unfold mixL; simp [hx]
 rw [this] at hy
 obtain rfl := Option.some.inj hy
 exact hm
theorem FS.below {w : World} {A : Option Addr} {l : List Int} {c g cap : Nat} {v : Value} {cuts : List (Nat × Nat)} {i : Nat} {W w1 : World} (h : FS w A l c g cap v cuts i W) (hb : Below W.heap.size W w1) : FS w A l c g cap v cuts i w1 :=
 ⟨h.ps.grown (below_step h.ps.bx.b hb) (grown_of_below hb none) (fun k hk => by cases hk), Kd.S_below h.out hb⟩
theorem FS.entry {w : World} {A : Option Addr} {l : List Int} {c g cap cap6 : Nat} {A6 : Option Addr} {cuts : List (Nat × Nat)} {i : Nat} {W : World} (h : FS w A l c g cap (.slice A6 cuts.length cap6) cuts i W) (hi : i < cuts.length) (hr : cuts[i].1 + cuts[i].2 ≤ l.length) :
  ∃ g6, A6 = some ⟨g6, 0, none⟩ ∧ g6 < W.heap.size ∧ W.cell? ⟨g6, i, none⟩ = some (.slice (some ⟨g, cuts[i].1, none⟩) cuts[i].2 cuts[i].2) ∧ W.frozen? ⟨g6, i, none⟩ = false ∧ (Kd.int .i64).C W (some ⟨g, cuts[i].1, none⟩) cuts[i].2 (rowOf l cuts[i]) ∧ (rowOf l cuts[i]).length = cuts[i].2 := by
 have hR := Kd.S_R h.out
 obtain ⟨g6, cap', e, h1, h2, cells, h3⟩ := Kd.R_form hR (by rw [mixL_len]; omega)
 injection e with e1 e2 e3
 subst e1 e3
 obtain ⟨cs, c1, c2, c3, c4⟩ := Kd.R_elem hR (.inl (0, 0)) (i : Int) (by omega) (by omega)
 rw [Int.toNat_natCast] at c2 c3 c4
 rw [List.getD_eq_getElem?_getD, mixL_at _ _ _ hi] at c2
 obtain rfl : cs = [cutV g cuts[i]] := c2
 have c5 := c3 0 _ rfl
 have c6 := c4 0
 rw [show i * (kB g).sz + 0 = i from Nat.mul_one i] at c5 c6
 obtain ⟨B, c', e4, hcap, hC⟩ := Kd.R_reads h.ps.ro
 injection e4 with e5 e6 e7
 subst e5
 have hn : (nums (orderF l)).length = l.length := by unfold nums; rw [List.length_map, orderF_len]
 have hcut := C_cut hC cuts[i].1 (cuts[i].1 + cuts[i].2) (by rw [hn]; exact hr)
 rw [Nat.add_sub_cancel_left] at hcut
 exact ⟨g6, rfl, h2, c5, c6, hcut, by unfold rowOf; rw [List.length_take, List.length_drop, hn]; omega⟩
theorem FS.put {w : World} {A : Option Addr} {l : List Int} {c g cap g6 cap6 : Nat} {cuts : List (Nat × Nat)} {i : Nat} {W W2 : World} {v1 : Value} {n1 : Nat} (h : FS w A l c g cap (.slice (some ⟨g6, 0, none⟩) cuts.length cap6) cuts i W) (hi : i < cuts.length) (hb : Below W.heap.size W W2)
  (hv : W2.ownsRow W.heap.size 3 1 v1 n1 ((srt (rowOf l cuts[i])).map (Value.int .i64))) : FS w A l c g cap (.slice (some ⟨g6, 0, none⟩) cuts.length cap6) cuts (i + 1) (W2.setCell ⟨g6, i, none⟩ v1) := by
 have hg6 := (Kd.S_R h.out).1 g6 (by simp [Value.ownBlock])
 have hgl : g6 < W.heap.size := Kd.R_lt (Kd.S_R h.out) g6 (by simp [Value.ownBlock])
 have hw := h.ps.bx.b.size
 have hgg : g < W.heap.size := Kd.R_lt h.ps.ro g (by simp [Value.ownBlock])
 have hsz : (srt (rowOf l cuts[i])).length = n1 := by have := hv.1; simpa using this
 have hrow : Kd.R (Kd.int .i64) 3 W2 w.heap.size (fun k => W.heap.size ≤ k) v1 (srt (rowOf l cuts[i])) :=
  Kd.R_lower (Kd.R_of_own (h1 := fun _ => rfl) (by rw [hsz]; exact hv) (fun k hk => own_base hv k hk)) hw
 have hS := Kd.S_mono (ok' := fun k => (k ≠ g ∧ w.heap.size + 2 ≤ k) ∧ ¬ W.heap.size ≤ k) (Kd.S_old h.out hb) (fun k hk => ⟨hk.1, by omega⟩)
 obtain ⟨oki, cs, c1, c2, c3, c4, hH⟩ := Kd.S_lend hS (.inl (0, 0)) (i : Int) (by omega) (by omega)
 have hc1 : cs.length = 1 := c1
 have hseg := Kd.S_seg (okg := fun k => W.heap.size ≤ k) (okp := fun k => W.heap.size ≤ k) hH (by omega) (by omega) (seg := [v1]) (j := 0) (by simp; exact Nat.le_refl 1) (x' := .inr (srt (rowOf l cuts[i]))) (by
  have e : cs.take 0 ++ [v1] ++ cs.drop (0 + [v1].length) = [v1] := by rw [List.drop_of_length_le (by simp [hc1])]; rfl
  rw [e]
  exact ⟨v1, rfl, hrow⟩) (fun k hk => .inr hk) (fun k hk => ⟨⟨by omega, by omega⟩, by omega⟩)
 rw [Int.toNat_natCast, mixL_set _ _ _ hi, show i * (kB g).sz + 0 = i from Nat.mul_one i] at hseg
 have hps := (h.below hb).ps
 exact ⟨hps.grown (below_set hps.bx.b (by omega)) hseg.2 (fun k hk => by injection hk with hk; subst hk; exact hg6), hseg.1⟩
theorem FS.done {w : World} {A : Option Addr} {l : List Int} {c g cap : Nat} {v : Value} {cuts : List (Nat × Nat)} {W : World} (h : FS w A l c g cap v cuts cuts.length W) : Kd.S (Kd.slice 3 (Kd.int .i64)) 22 W w.heap.size (fun _ => True) v (cuts.map fun x => srt (rowOf l x)) := by
 refine Kd.S_mono (S_conv (d := kB g) rfl (by rw [mixL_len, List.length_map]) h.out (fun ok' j x y cs hx hy hm => ?_)) (fun _ _ => trivial)
 have e : mixL l cuts cuts.length = (cuts.map fun x => srt (rowOf l x)).map .inr := by unfold mixL; simp
 rw [e, List.getElem?_map, hy] at hx
 obtain rfl : x = .inr y := (Option.some.inj hx).symm
 exact hm
theorem cuts_in (ss : List Int) : ∀ i, i ≤ ss.length → (bkAt ss i).beg ≤ i ∧ ∀ x ∈ (bkAt ss i).cuts, x.1 + x.2 ≤ i
 | 0, _ => ⟨by simp [bkAt], by simp [bkAt]⟩
 | i + 1, hi => by
  obtain ⟨h1, h2⟩ := cuts_in ss i (by omega)
  unfold bkAt bkStep
  split
  ·
   refine ⟨by simp, fun x hx => ?_⟩
   rcases List.mem_append.1 hx with hx | hx
   ·
    have := h2 x hx; omega
   ·
    rw [List.mem_singleton.1 hx]; exact Nat.le_refl _
  ·
   refine ⟨by simp; omega, fun x hx => ?_⟩
   rcases List.mem_or_eq_of_mem_set hx with hx | hx
   ·
    have := h2 x hx; omega
   ·
    rw [hx]; simp; omega
end Go.Proofs.Ythlffcaaifpdeaa.Srt
