/- The kind of an entry of tiers.Buckets' row: a cut of the order's row (in block g): from place x.1 on x.2 numbers, its capacity its length; and the plain steps that make the cuts. -/
import Derived.Test.YthlffcaaifpdeaaWMore
import Derived.Test.YthlffcaaifpdeaaWWords
namespace Go.Proofs.Ythlffcaaifpdeaa.Srt
open Go Go.RowKit Go.Lib Go.Proofs Go.Proofs.YthlffcaaifpdeaaW.PrintWords Go.Proofs.YthlffcaaifpdeaaW.PrintLast Go.Proofs.YthlffcaaifpdeaaW.PrintMore
set_option linter.unusedVariables false
set_option linter.unusedSimpArgs false
def cutV (g : Nat) (x : Nat × Nat) : Value := .slice (some ⟨g, x.1, none⟩) x.2 x.2
def kCut (g : Nat) : Kd (Nat × Nat) := Kd.scalar (cutV g) (fun _ => rfl)
/-- The cuts so far, where the last begins, and the sum of its sizes. -/
structure BS where
  cuts : List (Nat × Nat)
  beg : Nat
  sum : Int
def bkNew (i : Nat) (s : Int) (b : BS) : Prop := i = 0 ∨ (4 < s ∧ 2 * (b.sum / ((i : Int) - b.beg)) < s)
instance (i : Nat) (s : Int) (b : BS) : Decidable (bkNew i s b) := by unfold bkNew; infer_instance
def bkStep (i : Nat) (s : Int) (b : BS) : BS := if bkNew i s b then ⟨b.cuts ++ [(i, 1)], i, s⟩ else ⟨b.cuts.set (b.cuts.length - 1) (b.beg, i + 1 - b.beg), b.beg, b.sum + s⟩
def bkAt (ss : List Int) : Nat → BS
  | 0 => ⟨[], 0, 0⟩
  | i + 1 => bkStep i (ss.getD i 0) (bkAt ss i)
structure BI (i : Nat) (b : BS) : Prop where
  le : b.beg ≤ i
  lt : 0 < i → b.beg < i ∧ 0 < b.cuts.length
  s0 : 0 ≤ b.sum
  s1 : b.sum ≤ (i : Int) * 1099511627776
  n : b.cuts.length ≤ i
theorem BI.step {i : Nat} {s : Int} {b : BS} (h : BI i b) (h0 : 0 ≤ s) (h1 : s ≤ 1099511627776) : BI (i + 1) (bkStep i s b) := by
  obtain ⟨a1, a2, a3, a4, a5⟩ := h
  unfold bkStep
  split
  · exact ⟨by simp, fun _ => ⟨by simp, by simp⟩, h0, by simp; omega, by simp; omega⟩
  · rename_i hn
    have : 0 < i := Nat.pos_of_ne_zero fun e => hn (.inl e)
    have := a2 this
    exact ⟨by simp; omega, fun _ => ⟨by simp; omega, by simp; omega⟩, by simp; omega, by simp; omega, by simp; omega⟩
theorem BI.at_ (ss : List Int) (h : ∀ s ∈ ss, 0 ≤ s ∧ s ≤ 1099511627776) : ∀ i, i ≤ ss.length → BI i (bkAt ss i)
  | 0, _ => ⟨by simp [bkAt], fun h => absurd h (by omega), by simp [bkAt], by simp [bkAt], by simp [bkAt]⟩
  | i + 1, hi => by
    have hs := h _ (List.getElem_mem (show i < ss.length by omega))
    have := (BI.at_ ss h i (by omega)).step hs.1 hs.2
    unfold bkAt
    rwa [List.getD_eq_getElem?_getD, List.getElem?_eq_getElem (by omega)]
end Go.Proofs.Ythlffcaaifpdeaa.Srt
