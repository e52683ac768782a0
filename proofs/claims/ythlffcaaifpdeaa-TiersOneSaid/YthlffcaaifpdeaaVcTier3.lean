/- slices.SortStableFunc over the row of places, as it is called. -/
import Derived.Test.YthlffcaaifpdeaaVcTier2
namespace Go.Proofs.Ythlffcaaifpdeaa.Srt
open Go Go.Shelf Go.RowKit Go.Lib Go.Sort Go.Proofs Go.Proofs.YthlffcaaifpdeaaW.PrintWords Go.Proofs.YthlffcaaifpdeaaW.PrintLast Go.Proofs.YthlffcaaifpdeaaW.PrintMore Go.Proofs.Ythlffcaaifpdeaa.Ord
set_option linter.unusedVariables false
set_option linter.unusedSimpArgs false
theorem sortStable_of (A : Option Addr) (n cap : Nat) (F : Value) (w : World) (Q : World → Prop) (H0 : Calls Try.prog 20 #[.slice A n cap, .int .i64 (n : Nat), F] w fun e w' => e = .returned (.tuple #[]) ∧ Q w') :
  Calls Try.prog 14 #[.slice A n cap, F] w fun e w' => e = .returned (.tuple #[]) ∧ Q w' := by
 have H := Lib.hid H0
 clear H0
 go_enter Try.func14, Try.ntmps14
 go_wp2_with (go_at_call 20; refine H.out.mono ?_; rintro e w1 ⟨rfl, h1⟩)
 go_end0
 exact ⟨rfl, h1⟩
set_option maxHeartbeats 1000000 in
theorem sortStable_call (gs gf : Nat) (A : Option Addr) (c : Nat) (l : List Int) [Inhabited (Fin l.length)] (base : Nat) (ok : Nat → Prop) (g cap : Nat) (w0 w : World) (hs : gs < w.heap.size) (hf : gf < w.heap.size) (hgs : gs ≠ g) (hgf : gf ≠ g) (g1 : w.cell? ⟨gs, 0, none⟩ = some (.slice A l.length c))
  (g2 : w.cell? ⟨gf, 0, none⟩ = some (.func (.func 13) #[] #[.pointer (some ⟨gs, 0, none⟩)])) (hC : (Kd.int .i64).C w0 A l.length l) (hB : Below w0.heap.size w0 w) (hg : w0.heap.size ≤ g) (hN : l.length < 1152921504606846976)
  (ho : (Kd.int .i64).R 3 w base ok (.slice (some ⟨g, 0, none⟩) l.length cap) (nums (List.finRange l.length))) :
  Calls Try.prog 14 #[.slice (some ⟨g, 0, none⟩) l.length cap, .func (.func 15) #[] #[.pointer (some ⟨gf, 0, none⟩)]] w fun e w' => e = .returned (.tuple #[]) ∧
   (Kd.int .i64).R 3 w' base ok (.slice (some ⟨g, 0, none⟩) l.length cap) (nums (orderF l)) ∧ SWB (oneC (Value.int .i64)) 1 w g 0 (nums (orderF l)).toArray w' := by
 exact sortStable_of _ _ _ _ _ _ (order_sort gs gf A c l base ok g cap w0 w hs hf hgs hgf g1 g2 hC hB hg hN ho)
theorem sortStable_none (A : Option Addr) (c : Nat) (F : Value) (w : World) : Calls Try.prog 14 #[.slice A 0 c, F] w fun e w' => e = .returned (.tuple #[]) ∧ w' = w :=
 sortStable_of _ _ _ _ _ _ (stb0 sortL1 A c F w)
end Go.Proofs.Ythlffcaaifpdeaa.Srt
