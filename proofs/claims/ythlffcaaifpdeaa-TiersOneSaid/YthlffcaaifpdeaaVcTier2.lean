/- The library's stable sort over the row of places of tiers.Buckets. -/
import Derived.Test.YthlffcaaifpdeaaVcTier
import Derived.Test.YthlffcaaifpdeaaVcFlat
namespace Go.Proofs.Ythlffcaaifpdeaa.Srt
open Go Go.Shelf Go.RowKit Go.Lib Go.Sort Go.Proofs Go.Proofs.YthlffcaaifpdeaaW.PrintWords Go.Proofs.YthlffcaaifpdeaaW.PrintLast Go.Proofs.YthlffcaaifpdeaaW.PrintMore Go.Proofs.Ythlffcaaifpdeaa.Ord
set_option linter.unusedVariables false
set_option linter.unusedSimpArgs false
def evF (n : Nat) : Fin n → Value := fun i => .int .i64 ((i.val : Nat) : Int)
def nums {n : Nat} (xs : List (Fin n)) : List Int := xs.map fun i => ((i.val : Nat) : Int)
theorem flat_fin {n : Nat} [Inhabited (Fin n)] (xs : List (Fin n)) : flatK (oneC (evF n)) 1 xs.toArray = flatK (oneC (Value.int .i64)) 1 (nums xs).toArray := by
 unfold flatK nums
 apply Array.ext
 ·
  simp
 ·
  intro t h1 h2
  have h3 : t < xs.length := by simpa using h1
  simp [evF, oneC, h3]
theorem swb_fin {n : Nat} [Inhabited (Fin n)] {w0 W : World} {g off : Nat} {xs : List (Fin n)} (h : SWB (oneC (evF n)) 1 w0 g off xs.toArray W) : SWB (oneC (Value.int .i64)) 1 w0 g off (nums xs).toArray W :=
 ⟨h.os, h.tape, h.output, h.size, h.other, by rw [h.row]; unfold putRowK; rw [flat_fin]⟩
theorem SWB.old {α : Type} [Inhabited α] {enc : α → List Value} {k : Nat} {w0 w W : World} {g off : Nat} {dk : Array α} (h : SWB enc k w g off dk W) (hB : Below w0.heap.size w0 w) (hg : w0.heap.size ≤ g) : Below w0.heap.size w0 W :=
 hB.trans ⟨h.os, h.tape, h.output, h.size, fun i hi => h.other i (Nat.lt_of_lt_of_le hi hB.size) (by omega)⟩
theorem SWB.cell_other {α : Type} [Inhabited α] {enc : α → List Value} {k : Nat} {w W : World} {g off : Nat} {dk : Array α} (h : SWB enc k w g off dk W) {b : Nat} (hb : b < w.heap.size) (hne : b ≠ g) (o : Nat) : W.cell? ⟨b, o, none⟩ = w.cell? ⟨b, o, none⟩ := by
 unfold World.cell?; rw [show (⟨b, o, none⟩ : Addr).block = b from rfl, h.other b hb hne]
theorem sortL1 : L Try.prog := {
 mixed := by kernel_rfl
 t0 := Try.underlying0
 a0 := Try.isAgg0
 z0 := Try.sizeOf0
 v0 := Try.zeroValue0
 t3 := Try.underlying3
 a3 := Try.isAgg3
 z3 := Try.sizeOf3
 v3 := Try.zeroValue3
 t4 := Try.underlying4
 a4 := Try.isAgg4
 z4 := Try.sizeOf4
 v4 := Try.zeroValue4
 t45 := Try.underlying30
 a45 := Try.isAgg30
 z45 := Try.sizeOf30
 v45 := Try.zeroValue30
 t22 := Try.underlying22
 a22 := Try.isAgg22
 z22 := Try.sizeOf22
 v22 := Try.zeroValue22
 t25 := Try.underlying35
 a25 := Try.isAgg35
 z25 := Try.sizeOf35
 v25 := Try.zeroValue35
 aE := Try.isAgg3
 zE := Try.sizeOf3
 fI := Try.func25
 fW := Try.func42
 fR := Try.func30
 fM := Try.func26
 fS := Try.func20 }
def cfS (l : List Int) (x y : Fin l.length) : Int := ci (sz l[x.val]) (sz l[y.val])
theorem cfS_ord (l : List Int) : WOrd (ltOf (cfS l)) := ⟨fun x y h => by
  have h1 : cfS l x y < 0 := of_decide_eq_true h
  have := ci_cmp.anti (sz l[x.val]) (sz l[y.val])
  exact decide_eq_false (by unfold cfS at *; omega), fun x y z h1 h2 => by
  have h3 : ¬ cfS l y x < 0 := of_decide_eq_false h1
  have h4 : ¬ cfS l z y < 0 := of_decide_eq_false h2
  have a1 := ci_cmp.anti (sz l[y.val]) (sz l[x.val])
  have a2 := ci_cmp.anti (sz l[z.val]) (sz l[y.val])
  have a3 := ci_cmp.anti (sz l[z.val]) (sz l[x.val])
  have := ci_cmp.trans (sz l[x.val]) (sz l[y.val]) (sz l[z.val])
  exact decide_eq_false (by unfold cfS at *; omega)⟩
def orderF (l : List Int) : List (Fin l.length) := isort (ltOf (cfS l)) (List.finRange l.length)
set_option maxHeartbeats 1000000 in
theorem order_sort (gs gf : Nat) (A : Option Addr) (c : Nat) (l : List Int) [Inhabited (Fin l.length)] (base : Nat) (ok : Nat → Prop) (g cap : Nat) (w0 w : World) (hs : gs < w.heap.size) (hf : gf < w.heap.size) (hgs : gs ≠ g) (hgf : gf ≠ g) (g1 : w.cell? ⟨gs, 0, none⟩ = some (.slice A l.length c))
  (g2 : w.cell? ⟨gf, 0, none⟩ = some (.func (.func 13) #[] #[.pointer (some ⟨gs, 0, none⟩)])) (hC : (Kd.int .i64).C w0 A l.length l) (hB : Below w0.heap.size w0 w) (hg : w0.heap.size ≤ g) (hN : l.length < 1152921504606846976)
  (ho : (Kd.int .i64).R 3 w base ok (.slice (some ⟨g, 0, none⟩) l.length cap) (nums (List.finRange l.length))) :
  Calls Try.prog 20 #[.slice (some ⟨g, 0, none⟩) l.length cap, .int .i64 (l.length : Nat), .func (.func 15) #[] #[.pointer (some ⟨gf, 0, none⟩)]] w fun e w' => e = .returned (.tuple #[]) ∧
   (Kd.int .i64).R 3 w' base ok (.slice (some ⟨g, 0, none⟩) l.length cap) (nums (orderF l)) ∧ SWB (oneC (Value.int .i64)) 1 w g 0 (nums (orderF l)).toArray w' := by
 have hl : (nums (List.finRange l.length)).length = l.length := by simp [nums]
 have hk : ∀ x, ((oneC (Value.int .i64)) x).length = (Kd.int .i64).sz := fun _ => rfl
 have hM : ∀ w base ok x cs, (Kd.int .i64).M w base ok x cs → cs = (oneC (Value.int .i64)) x := fun w base ok x cs hx => hx
 have hx : (Kd.int .i64).R 3 w base ok (.slice (some ⟨g, 0, none⟩) (nums (List.finRange l.length)).length cap) (nums (List.finRange l.length)) := by rw [hl]; exact ho
 obtain ⟨hH, hlt, hge, hok⟩ := R_holds hk hM hx
 have hz : (List.finRange l.length).length = (List.finRange l.length).toArray.size := by simp
 have hn : (List.finRange l.length).length = l.length := by simp
 have hH' : HoldsK (oneC (evF l.length)) 1 w g 0 (List.finRange l.length).toArray := by unfold HoldsK; rw [flat_fin]; exact hH
 have R : RowK (oneC (evF l.length)) 1 w g 0 (List.finRange l.length).toArray := ⟨fun _ => rfl, fun x v hv => by rw [List.mem_singleton.1 hv]; rfl, hH', hlt⟩
 have hCm : CmpB1 Try.prog 15 #[.pointer (some ⟨gf, 0, none⟩)] (evF l.length) (cfS l) w g 0 (List.finRange l.length).toArray.size := fun W dk hs' S x y =>
  cmp_clo gs gf A c l x y W (Nat.lt_of_lt_of_le hs S.size) (Nat.lt_of_lt_of_le hf S.size) ((S.cell_other hs hgs 0).trans g1) ((S.cell_other hf hgf 0).trans g2) (Kd.C_below hC (S.old hB hg))
 have hS := stb (w0 := w) (w := w) (cap := cap) (cb := #[.pointer (some ⟨gf, 0, none⟩)]) sortL1 R (by rw [← hz, hn]; exact hN) (enters_of Try.func15 (by kernel_rfl) rfl) hCm (cfS_ord l) (List.finRange l.length) hz (SWB.start hH') _ rfl
 rw [← hz, hn] at hS
 refine hS.mono ?_
 rintro e w' ⟨rfl, r, hr, hW⟩
 rw [List.nil_append, List.append_nil] at hW
 have er : r = orderF l := hr.isort (cfS_ord l)
 subst er
 have hW' := swb_fin hW
 refine ⟨rfl, ?_, hW'⟩
 have := R_rewritten hk hM (fun w base ok x => rfl) hx hW' (by simp only [nums, List.length_map]; exact hr.length)
 rw [hl] at this
 exact this
end Go.Proofs.Ythlffcaaifpdeaa.Srt
