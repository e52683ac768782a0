/- The kind of an entry of tiers.Buckets' row: a cut of the order's row (in block g): from place x.1 on x.2 numbers, its capacity its length; and the plain steps that make the cuts. -/
import Derived.Test.YthlffcaaifpdeaaVdWMore
import Derived.Test.YthlffcaaifpdeaaVdWWords
import Derived.Test.YthlffcaaifpdeaaVdJ15
import Derived.Test.YthlffcaaifpdeaaProg
import Derived.Below
import Derived.Deep.Draws
import Derived.Deep.AppendLies
import Derived.Maps.AppendAt
import Derived.OwnWalk
import Derived.Laws.BytesArg
import Derived.Laws.MakeOwn
import Derived.Laws.OwnMore
import Derived.Deep.OwnRows
import Derived.Tactics
import Derived.Lib.ConvBytes
import Derived.Laws.Slices
import Derived.WalkKit
import Derived.KernelRfl
import Derived.RowKit3
import Derived.Deep.LoopGhost
import Derived.Deep.QuietTactic
import Derived.BigQuiet
import Derived.WideLaws
import Derived.Deep.DeepCutAuto
import Derived.Deep.CutBlock
import Derived.Deep.RegionHeld3
import Derived.Laws.Rows
import Derived.Lib.AppendStr
import Derived.ArgAppend
import Derived.Laws.IdiomCopy
import Derived.OrdersHeld
import Derived.Laws.BitsLemmas
import Derived.RowKit
import Derived.Deep.MidRow
import Derived.WalkLawsBesides
import Derived.WalkSpells
import Derived.Lib.Hide
import Derived.Deep.DeepFit
import Derived.Outline
import Derived.Test.YthlffcaaifpdeaaVdWLast
import Derived.Test.YthlffcaaifpdeaaVdWApart
import Derived.Test.YthlffcaaifpdeaaVdJ12
import Derived.Laws.StructEq
import Derived.RangeFuncGives
import Derived.RangeFuncBox
import Derived.RangeFuncLeaves
import Derived.Shelf.Abstract
import Derived.OwnWalkIn
import Derived.TacticsInMore
import Derived.LoopNIn
import Derived.LoopIn
namespace Go.Proofs.Ythlffcaaifpdeaa.Srt
open Go Go.RowKit Go.Lib Go.Proofs Go.Proofs.YthlffcaaifpdeaaW.PrintWords Go.Proofs.YthlffcaaifpdeaaW.PrintLast Go.Proofs.YthlffcaaifpdeaaW.PrintMore
set_option linter.unusedVariables false
set_option linter.unusedSimpArgs false
def cutV (g : Nat) (x : Nat × Nat) : Value := .slice (some ⟨g, x.1, none⟩) x.2 x.2
def kCut (g : Nat) : Kd (Nat × Nat) := Kd.scalar (cutV g) (fun _ => rfl)
structure BS where
 cuts : List (Nat × Nat)
 beg : Nat
 sum : Int
def bkNew (i : Nat) (s : Int) (b : BS) : Prop := i = 0 ∨ (4 < s ∧ 2 * (b.sum / ((i : Int) - b.beg)) < s)
instance (i : Nat) (s : Int) (b : BS) : Decidable (bkNew i s b) := by unfold bkNew; infer_instance
def bkStep (i : Nat) (s : Int) (b : BS) : BS := if bkNew i s b then ⟨b.cuts ++ [(i, 1)], i, s⟩ else ⟨b.cuts.set (b.cuts.length - 1) (b.beg, i + 1 - b.beg), b.beg, b.sum + s⟩
def bkAt (ss : List Int) : Nat → BS
 | 0 => ⟨[], 0, 0⟩
 | i + 1 => bkStep i (ss.getD i 0) (bkAt ss i)
structure BI (i : Nat) (b : BS) : Prop where
 le : b.beg ≤ i
 lt : 0 < i → b.beg < i ∧ 0 < b.cuts.length
 s0 : 0 ≤ b.sum
 s1 : b.sum ≤ (i : Int) * 1099511627776
 n : b.cuts.length ≤ i
theorem BI.step {i : Nat} {s : Int} {b : BS} (h : BI i b) (h0 : 0 ≤ s) (h1 : s ≤ 1099511627776) : BI (i + 1) (bkStep i s b) := by
 obtain ⟨a1, a2, a3, a4, a5⟩ := h
 unfold bkStep
 split
 ·
  exact ⟨by simp, fun _ => ⟨by simp, by simp⟩, h0, by simp; omega, by simp; omega⟩
 ·
  rename_i hn
  have : 0 < i := Nat.pos_of_ne_zero fun e => hn (.inl e)
  have := a2 this
  exact ⟨by simp; omega, fun _ => ⟨by simp; omega, by simp; omega⟩, by simp; omega, by simp; omega, by simp; omega⟩
theorem BI.at_ (ss : List Int) (h : ∀ s ∈ ss, 0 ≤ s ∧ s ≤ 1099511627776) : ∀ i, i ≤ ss.length → BI i (bkAt ss i)
 | 0, _ => ⟨by simp [bkAt], fun h => absurd h (by omega), by simp [bkAt], by simp [bkAt], by simp [bkAt]⟩
 | i + 1, hi => by
  have hs := h _ (List.getElem_mem (show i < ss.length by omega))
  have := (BI.at_ ss h i (by omega)).step hs.1 hs.2
  unfold bkAt
  rwa [List.getD_eq_getElem?_getD, List.getElem?_eq_getElem (by omega)]
end Go.Proofs.Ythlffcaaifpdeaa.Srt
namespace Go.Proofs.Ythlffcaaifpdeaa.Q
open Go.RowKit Go.Proofs.YthlffcaaifpdeaaW.PrintWords Go.Proofs.YthlffcaaifpdeaaW.PrintLast Go.Proofs.YthlffcaaifpdeaaW.PrintMore
attribute [local go_sem] max2_int min2_int max_two min_two max_three min_three max_four min_four
set_option linter.unusedVariables false
set_option linter.unusedSimpArgs false
def errW : Option Int → Value
 | none => .nilIface
 | some c => .iface 0 (.int .i64 c)
theorem errW_none : errW none = .nilIface := rfl
theorem errW_some (c : Int) : errW (some c) = .iface 0 (.int .i64 c) := rfl
section
variable {P : Program} {ops : Array Oper} {Q : Exit → Act → World → Prop}
end
section
variable {P : Program} {ops : Array Oper} {Q : Exit → Act → World → Prop}
end
section
variable {P : Program}
end
theorem info3 : (Try.prog.info? 3).map (fun i => (i.zero, i.size, i.bytes)) = some (some (.int .i64 0), 1, 8) := by kernel_rfl
def rd_L1 (xs : List (List Int)) (i : Int) : (List Int) := xs.getD i.toNat ([] : List Int)
theorem at_L1 {w : World} {A : Option Addr} {n : Nat} {xs : List (List Int)} (h : Kd.C (Kd.slice 3 (Kd.int .i64)) w A n xs) (i : Int) (h0 : 0 ≤ i) (h1 : i < n) : ∃ ad A0 c0, A = some ad ∧ w.cell? (ad.add i.toNat) = some (.slice A0 (rd_L1 xs i).length c0) ∧ (rd_L1 xs i).length ≤ c0 ∧ (Kd.int .i64).C w A0 (rd_L1 xs i).length (rd_L1 xs i) := by
 obtain ⟨ad, c, e, _, hK, hc0⟩ := Kd.C_get h ([] : List Int) i h0 h1
 have hc : ∀ j u, c[j]? = some u → w.cell? (ad.add (i.toNat * 1 + j)) = some u := hc0
 obtain ⟨A0, c0, rfl, l0, g0⟩ := hK
 exact ⟨ad, A0, c0, e, by have hq := hc 0 _ rfl; rwa [Nat.mul_one, Nat.add_zero] at hq, l0, g0⟩
end Go.Proofs.Ythlffcaaifpdeaa.Q
namespace Go.Proofs.Ythlffcaaifpdeaa.Srt
open Go Go.Shelf Go.RowKit Go.Lib Go.Proofs Go.Proofs.YthlffcaaifpdeaaW.PrintWords Go.Proofs.YthlffcaaifpdeaaW.PrintLast Go.Proofs.YthlffcaaifpdeaaW.PrintMore
set_option linter.unusedVariables false
set_option linter.unusedSimpArgs false
attribute [local go_sem] Oper.semAt_some
def GivesB {α : Type} (F : Fence) (n : Nat) (P : Program) (g : Nat) (lb : Array Value) (enc : α → Value) (S : List α → Prop) (N : Nat) (w : World) : Prop :=
 ∀ (l : Nat) (J : List α → World → Prop) (W : World), Below w.heap.size w W → (∀ pre W1, J pre W1 → Below w.heap.size w W1) →
  (∀ pre x W1, J pre W1 → pre.length < N → YieldAt F (n - 1) P l #[enc x] W1 fun e W' => e = .returned (.bool true) ∧ J (pre ++ [x]) W' ∧ KeepsWalks W1 W') →
  J [] W →
  CallsIn F n P g (#[.func (.yield l) #[] #[]] ++ lb) W fun e W' => (∃ v, e = .returned v) ∧ ∃ xs, S xs ∧ J xs W'
set_option maxRecDepth 100000 in
set_option maxHeartbeats 2000000 in
theorem values_gives (F : Fence) (n : Nat) (hf : F.fn 24) (hro : F.round = none) (hn : 1 ≤ n) (Bs : Nat) (A : Option Addr) (cap : Nat) (zs : List Int) (w : World) (hBlt : Bs < w.heap.size) (hBs : w.cell? ⟨Bs, 0, none⟩ = some (.slice A zs.length cap)) (hC : (Kd.int .i64).C w A zs.length zs) :
  GivesB F n Try.prog 24 #[.pointer (some ⟨Bs, 0, none⟩)] (Value.int .i64) (fun xs => xs = zs) zs.length w := by
 intro l J W hW hBe hY h0
 have hBs' := (hW.cell (p := ⟨Bs, 0, none⟩) hBlt).trans hBs
 have HC := Lib.hid hC
 have HB := Lib.hid hBe
 have hm := hC.2.1
 clear hBs hC hBe
 show CallsIn F n Try.prog 24 #[.func (.yield l) #[] #[], .pointer (some ⟨Bs, 0, none⟩)] W _
 refine callsIn_of_wp Try.func24 rfl hf ?_ hro
 simp only [Try.ntmps24, List.size_toArray, List.length_cons, List.length_nil, Nat.reduceAdd, Nat.reduceSub, Array.replicate_succ, Array.replicate_zero, List.push_toArray, List.append_toArray, List.nil_append, List.cons_append]
 gi_wp2
 gi_loopw [7] (fun i wr => ∃ k : Nat, k ≤ zs.length ∧ i = .int .i64 k ∧ J (zs.take k) wr) (fun i _ => zs.length - (intOf i).toNat)
 case atStart => exact ⟨0, Nat.zero_le _, rfl, h0⟩
 case round =>
  obtain ⟨k, hk, rfl, hJs⟩ := hrel
  by_cases hlt : k < zs.length
  ·
   have hz : (k : Int) < (zs.length : Int) := by omega
   have hCr := Kd.C_below HC.out (HB.out _ _ hJs)
   obtain ⟨ad, e1, hcell⟩ := hCr.2.2 (by omega)
   subst e1
   obtain ⟨cs, hc1, hc2, hc3⟩ := hcell k zs[k] (List.getElem?_eq_getElem hlt)
   obtain rfl : cs = [.int .i64 zs[k]] := hc2
   have hv := hc3 0 _ rfl
   rw [show k * (Kd.int .i64).sz + 0 = k from Nat.mul_one k] at hv
   have htk : zs.take (k + 1) = zs.take k ++ [zs[k]] := by rw [List.take_succ_eq_append_getElem hlt]
   obtain ⟨y, hy⟩ : ∃ y, zs[k] = y := ⟨_, rfl⟩
   rw [hy] at hv htk
   obtain ⟨fn, tmps, assign, body, hyy, hR⟩ := hY _ y wr hJs (by rw [List.length_take]; omega)
   clear hc3 hcell hy hc1 hCr
   gi_wp2
   refine hR.mono ?_
   rintro e W3 ⟨rfl, hJ3, hk3⟩
   gi_wp2
   go_roundw
   case rel => exact ⟨k + 1, by omega, by simp, by rw [htk]; exact hJ3⟩
   case measure => simp [intOf]; omega
  ·
   obtain rfl : k = zs.length := by omega
   gi_wp2
   go_end0
   exact ⟨⟨_, rfl⟩, zs, rfl, by rw [List.take_length] at hJs; exact hJs⟩
end Go.Proofs.Ythlffcaaifpdeaa.Srt
