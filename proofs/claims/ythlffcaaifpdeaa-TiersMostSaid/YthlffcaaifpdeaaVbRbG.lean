/- skerryref12.Buckets: the rows of its second and third part. -/
import Derived.Test.YthlffcaaifpdeaaVbRbL
import Derived.Maps.AppendAt
namespace Go.Proofs.Ythlffcaaifpdeaa.Srt
open Go Go.Shelf Go.RowKit Go.Lib Go.Sort Go.Proofs Go.Proofs.YthlffcaaifpdeaaW.PrintWords Go.Proofs.YthlffcaaifpdeaaW.PrintLast Go.Proofs.YthlffcaaifpdeaaW.PrintMore Go.Proofs.Ythlffcaaifpdeaa.Ord
set_option linter.unusedVariables false
set_option linter.unusedSimpArgs false
abbrev kRow : Kd (List Int) := Kd.slice 3 (Kd.int .i64)
structure GS (w W : World) (vo : Value) (os : List Int) (v : Value) (rows : List (List Int)) : Prop where
 ro : Kd.R (Kd.int .i64) 3 W w.heap.size (fun k => some k = vo.ownBlock) vo os
 out : Kd.S kRow 22 W w.heap.size (fun k => some k ≠ vo.ownBlock) v rows
 bel : Below w.heap.size w W
theorem GS.below {w W w1 : World} {vo v : Value} {os : List Int} {rows : List (List Int)} (h : GS w W vo os v rows) (hb : Below W.heap.size W w1) : GS w w1 vo os v rows :=
 ⟨Kd.R_below h.ro hb, Kd.S_below h.out hb, below_step h.bel hb⟩
theorem GS.drewN {w W : World} {vo v : Value} {os : List Int} {rows : List (List Int)} (h : GS w W vo os v rows) (n : Nat) : GS w (W.drewN n) vo os v rows := h.below (pw_below_drewN (Below.refl _ _) n)
theorem row_len (l : List Int) (x : Nat × Nat) (h : x.1 + x.2 ≤ l.length) : (rowOf l x).length = x.2 := by
 have hn : (nums (orderF l)).length = l.length := by unfold nums; rw [List.length_map, orderF_len]
 unfold rowOf; rw [List.length_take, List.length_drop, hn]; omega
theorem GS.grown {w W w1 : World} {vo v v1 : Value} {os : List Int} {rows rows1 : List (List Int)} (h : GS w W vo os v rows) (hg : W.grownBy w1 v.ownBlock) (hb : Below w.heap.size w w1) (ho : Kd.S kRow 22 w1 w.heap.size (fun k => some k ≠ vo.ownBlock) v1 rows1) : GS w w1 vo os v1 rows1 :=
 ⟨Kd.R_grown h.ro hg (fun k hk e => (Kd.S_R h.out).1 k e.symm hk), ho, hb⟩
theorem srt_eq {xs ys : List Int} (hp : ys.Perm xs) (hs : ys.Pairwise (· ≤ ·)) : ys = srt xs := by
 have h1 : (srt xs).Perm xs := List.mergeSort_perm _ _
 have h2 : (srt xs).Pairwise (fun a b => decide (a ≤ b) = true) := List.pairwise_mergeSort (by intro a b c h1 h2; simp at *; omega) (by intro a b; simp; omega) _
 refine List.Perm.eq_of_pairwise (le := fun a b => a ≤ b) (fun a b _ _ h1 h2 => by omega) hs (h2.imp (by intro a b h; simpa using h)) (hp.trans h1.symm)
structure IS (w W0 W : World) (oki : Nat → Prop) (v : Value) (cur : List Int) : Prop where
 hg : W0.grownBy W v.ownBlock
 bel : Below w.heap.size w W
 ro : Kd.R (Kd.int .i64) 3 W w.heap.size oki v cur
theorem IS.drewN {w W0 W : World} {oki : Nat → Prop} {v : Value} {cur : List Int} (h : IS w W0 W oki v cur) (n : Nat) : IS w W0 (W.drewN n) oki v cur :=
 ⟨h.hg.trans (grown_of_below (pw_below_drewN (Below.refl _ _) n) _), pw_below_drewN h.bel n, Kd.R_drewN h.ro n⟩
theorem IS.drew {w W0 W : World} {oki : Nat → Prop} {v : Value} {cur : List Int} (h : IS w W0 W oki v cur) : IS w W0 W.drew oki v cur := h.drewN 1
theorem IS.put {w W0 W : World} {oki : Nat → Prop} {g n cap : Nat} {cur : List Int} (h : IS w W0 W oki (.slice (some ⟨g, 0, none⟩) n cap) cur) (k : Nat) (x : Int) : IS w W0 (W.setCell ⟨g, k, none⟩ (.int .i64 x)) oki (.slice (some ⟨g, 0, none⟩) n cap) (cur.set k x) := by
 have h1 := Kd.R_putg h.ro (k : Int) x
 rw [Int.toNat_natCast] at h1
 exact ⟨h.hg.trans h1.2, below_set h.bel (Kd.R_base h.ro g (by simp [Value.ownBlock])), h1.1⟩
theorem IS.cell {w W0 W : World} {oki : Nat → Prop} {g n cap : Nat} {cur : List Int} (h : IS w W0 W oki (.slice (some ⟨g, 0, none⟩) n cap) cur) (k : Nat) (hk : k < n) : W.cell? ⟨g, k, none⟩ = some (.int .i64 (rdOf 0 cur (k : Int))) ∧ W.frozen? ⟨g, k, none⟩ = false := by
 have := Kd.R_celln (d := (0 : Int)) h.ro (k : Int) (by omega) (by omega)
 rwa [Int.toNat_natCast] at this
end Go.Proofs.Ythlffcaaifpdeaa.Srt
