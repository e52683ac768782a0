/- slices.Values, its iterator, and slices.Collect over ints (turned from the worked proofs GgSlicesIterAtTheDump, GgCollectAtTheDump): the iterator reads memory between two rounds, so the caller says that what lay there stays. -/
import Derived.RangeFuncGives
import Derived.RangeFuncBox
import Derived.RangeFuncLeaves
import Derived.Maps.AppendAt
import Derived.Shelf.Abstract
import Derived.WalkKit
import Derived.OwnWalkIn
import Derived.TacticsInMore
import Derived.LoopNIn
import Derived.LoopIn
import Derived.Test.YtdagddhccdchoaaDoorProg
import Derived.Test.YtdagddhccdchoaaDoorWeWMore
import Derived.Lib.Hide
import Derived.Outline
namespace Go.Proofs.YtdagddhccdchoaaDoor.Srt
open Go Go.Shelf Go.RowKit Go.Lib Go.Proofs Go.Proofs.YtdagddhccdchoaaDoorW.PrintWords Go.Proofs.YtdagddhccdchoaaDoorW.PrintLast Go.Proofs.YtdagddhccdchoaaDoorW.PrintMore
set_option linter.unusedVariables false
set_option linter.unusedSimpArgs false
attribute [local go_sem] Oper.semAt_some
def GivesB {α : Type} (F : Fence) (n : Nat) (P : Program) (g : Nat) (lb : Array Value) (enc : α → Value) (S : List α → Prop) (N : Nat) (w : World) : Prop :=
 ∀ (l : Nat) (J : List α → World → Prop) (W : World), Below w.heap.size w W → (∀ pre W1, J pre W1 → Below w.heap.size w W1) →
  (∀ pre x W1, J pre W1 → pre.length < N → YieldAt F (n - 1) P l #[enc x] W1 fun e W' => e = .returned (.bool true) ∧ J (pre ++ [x]) W' ∧ KeepsWalks W1 W') →
  J [] W →
  CallsIn F n P g (#[.func (.yield l) #[] #[]] ++ lb) W fun e W' => (∃ v, e = .returned v) ∧ ∃ xs, S xs ∧ J xs W'
set_option maxRecDepth 100000 in
set_option maxHeartbeats 2000000 in
theorem values_gives (F : Fence) (n : Nat) (hf : F.fn 49) (hro : F.round = none) (hn : 1 ≤ n) (Bs : Nat) (A : Option Addr) (cap : Nat) (zs : List ByteArray) (w : World) (hBlt : Bs < w.heap.size) (hBs : w.cell? ⟨Bs, 0, none⟩ = some (.slice A zs.length cap)) (hC : (Kd.string).C w A zs.length zs) :
  GivesB F n Tryd.prog 49 #[.pointer (some ⟨Bs, 0, none⟩)] Value.string (fun xs => xs = zs) zs.length w := by
 intro l J W hW hBe hY h0
 have hBs' := (hW.cell (p := ⟨Bs, 0, none⟩) hBlt).trans hBs
 have HC := Lib.hid hC
 have HB := Lib.hid hBe
 have hm := hC.2.1
 clear hBs hC hBe
 show CallsIn F n Tryd.prog 49 #[.func (.yield l) #[] #[], .pointer (some ⟨Bs, 0, none⟩)] W _
 refine callsIn_of_wp Tryd.func49 rfl hf ?_ hro
 simp only [Tryd.ntmps49, List.size_toArray, List.length_cons, List.length_nil, Nat.reduceAdd, Nat.reduceSub, Array.replicate_succ, Array.replicate_zero, List.push_toArray, List.append_toArray, List.nil_append, List.cons_append]
 gi_wp2
 gi_loopw [7] (fun i wr => ∃ k : Nat, k ≤ zs.length ∧ i = .int .i64 k ∧ J (zs.take k) wr) (fun i _ => zs.length - (intOf i).toNat)
 case atStart => exact ⟨0, Nat.zero_le _, rfl, h0⟩
 case round =>
  obtain ⟨k, hk, rfl, hJs⟩ := hrel
  by_cases hlt : k < zs.length
  ·
   have hz : (k : Int) < (zs.length : Int) := by omega
   have hCr := Kd.C_below HC.out (HB.out _ _ hJs)
   obtain ⟨ad, e1, hcell⟩ := hCr.2.2 (by omega)
   subst e1
   obtain ⟨cs, hc1, hc2, hc3⟩ := hcell k zs[k] (List.getElem?_eq_getElem hlt)
   obtain rfl : cs = [.string zs[k]] := hc2
   have hv := hc3 0 _ rfl
   rw [show k * (Kd.string).sz + 0 = k from Nat.mul_one k] at hv
   have htk : zs.take (k + 1) = zs.take k ++ [zs[k]] := by rw [List.take_succ_eq_append_getElem hlt]
   obtain ⟨y, hy⟩ : ∃ y, zs[k] = y := ⟨_, rfl⟩
   rw [hy] at hv htk
   obtain ⟨fn, tmps, assign, body, hyy, hR⟩ := hY _ y wr hJs (by rw [List.length_take]; omega)
   clear hc3 hcell hy hc1 hCr
   gi_wp2
   refine hR.mono ?_
   rintro e W3 ⟨rfl, hJ3, hk3⟩
   gi_wp2
   go_roundw
   case rel => exact ⟨k + 1, by omega, by simp, by rw [htk]; exact hJ3⟩
   case measure => simp [intOf]; omega
  ·
   obtain rfl : k = zs.length := by omega
   gi_wp2
   go_end0
   exact ⟨⟨_, rfl⟩, zs, rfl, by rw [List.take_length] at hJs; exact hJs⟩
end Go.Proofs.YtdagddhccdchoaaDoor.Srt
