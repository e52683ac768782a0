/- Lemmas for this claim's walk: no condition of their own. -/
import Derived.Test.YtdagddhccdchoaaDoorWeSq
import Derived.Test.YtdagddhccdchoaaDoorProg
import Derived.Below
import Derived.Deep.Draws
import Derived.Deep.AppendLies
import Derived.Maps.AppendAt
import Derived.OwnWalk
import Derived.Laws.BytesArg
import Derived.Laws.MakeOwn
import Derived.Laws.OwnMore
import Derived.Deep.OwnRows
import Derived.Tactics
import Derived.Lib.ConvBytes
import Derived.Laws.Slices
import Derived.WalkKit
import Derived.KernelRfl
import Derived.RowKit3
import Derived.Deep.LoopGhost
import Derived.Deep.QuietTactic
import Derived.BigQuiet
import Derived.WideLaws
import Derived.Deep.DeepCutAuto
import Derived.Deep.CutBlock
import Derived.Deep.RegionHeld3
import Derived.Laws.Rows
import Derived.Lib.AppendStr
import Derived.ArgAppend
import Derived.Laws.IdiomCopy
import Derived.OrdersHeld
import Derived.Laws.BitsLemmas
import Derived.RowKit
import Derived.Deep.MidRow
import Derived.WalkLawsBesides
import Derived.WalkSpells
import Derived.Lib.Hide
import Derived.Deep.DeepFit
import Derived.Outline
import Derived.Test.YtdagddhccdchoaaDoorWeJ0
import Derived.Test.YtdagddhccdchoaaDoorWeWWords
import Derived.Test.YtdagddhccdchoaaDoorWeWLast
import Derived.Test.YtdagddhccdchoaaDoorWeJ6
import Derived.Laws.StructEq
import Derived.Test.YtdagddhccdchoaaDoorWeWMore
namespace Go.Proofs.YtdagddhccdchoaaDoor.Q
open Go.RowKit Go.Proofs.YtdagddhccdchoaaDoorW.PrintWords Go.Proofs.YtdagddhccdchoaaDoorW.PrintLast Go.Proofs.YtdagddhccdchoaaDoorW.PrintMore
attribute [local go_sem] max2_int min2_int max_two min_two max_three min_three max_four min_four
set_option linter.unusedVariables false
set_option linter.unusedSimpArgs false
def errW : Option Int → Value
 | none => .nilIface
 | some c => .iface 0 (.int .i64 c)
theorem errW_none : errW none = .nilIface := rfl
theorem errW_some (c : Int) : errW (some c) = .iface 0 (.int .i64 c) := rfl
section
variable {P : Program} {ops : Array Oper} {Q : Exit → Act → World → Prop}
end
section
variable {P : Program} {ops : Array Oper} {Q : Exit → Act → World → Prop}
end
section
variable {P : Program}
end
theorem info9 : (Tryd.prog.info? 9).map (fun i => (i.zero, i.size, i.bytes)) = some (some (.string ⟨#[]⟩), 1, 16) := by kernel_rfl
structure S29 where
 f0 : ByteArray
 f1 : Int
def z29 : S29 := ⟨(⟨#[]⟩ : ByteArray), (0 : Int)⟩
def k29 : Kd S29 := Kd.iso (Kd.pair Kd.string (Kd.int .i64)) (fun x : S29 => (x.f0, x.f1))
theorem k29_open {w : World} {x : S29} {cs : List Value} (h : k29.K w x cs) : cs = [.string x.f0, .int .i64 x.f1] := by
 obtain ⟨_, _, rfl, rfl, rfl⟩ := h
 exact rfl
theorem k29_mkM (w : World) (base : Nat) (ok : Nat → Prop) (x : S29)  : k29.M w base ok x [.string x.f0, .int .i64 x.f1] := ⟨[.string x.f0], [.int .i64 x.f1], rfl, rfl, rfl⟩
def rd_T29 (xs : List S29) (i : Int) : S29 := xs.getD i.toNat z29
theorem at_T29 {w : World} {A : Option Addr} {n : Nat} {xs : List S29} (h : Kd.C k29 w A n xs) (i : Int) (h0 : 0 ≤ i) (h1 : i < n) : ∃ ad , A = some ad ∧ w.cell? (ad.add (i.toNat * 2)) = some (.string (rd_T29 xs i).f0) ∧ w.cell? ⟨(ad.add (i.toNat * 2)).block, (ad.add (i.toNat * 2)).off + 1, none⟩ = some (.int .i64 (rd_T29 xs i).f1) := by
 obtain ⟨ad, c, e, _, hK, hc0⟩ := Kd.C_get h z29 i h0 h1
 have hc : ∀ j u, c[j]? = some u → w.cell? (ad.add (i.toNat * 2 + j)) = some u := hc0
 obtain rfl := k29_open hK
 exact ⟨ad, e, hc 0 _ rfl, by rw [← add_field _ _ 1 (by omega)]; exact hc 1 _ rfl⟩
end Go.Proofs.YtdagddhccdchoaaDoor.Q
namespace Go.Proofs.YtdagddhccdchoaaDoor.Q
open Go.RowKit Go.Proofs.YtdagddhccdchoaaDoorW.PrintWords Go.Proofs.YtdagddhccdchoaaDoorW.PrintLast Go.Proofs.YtdagddhccdchoaaDoorW.PrintMore
attribute [local go_sem] max2_int min2_int max_two min_two max_three min_three max_four min_four
set_option linter.unusedVariables false
set_option linter.unusedSimpArgs false
def colR (l : List (S29)) (x : ByteArray) : ByteArray × Int × Bool := match l.find? (fun c => c.f0.toList == x.toList) with
 | some c => (c.f0, c.f1, true)
 | none => ((⟨#[]⟩ : ByteArray), 0, false)
def ordIn (cols : List ByteArray) (x : ByteArray) : Bool := decide (cols.length = 0) || cols.any (fun s => s.toList == x.toList)
def ordStep (cols : List ByteArray) (out : List ByteArray) (x : ByteArray) : List ByteArray := if (ordIn cols x && out.all (fun s => !(s.toList == x.toList))) = true then out ++ [x] else out
def ordR (l : List (S29)) (cols : List ByteArray) : List ByteArray := l.foldl (fun out c => ordStep cols out c.f0) []
theorem ordR_take (l : List (S29)) (cols : List ByteArray) (i : Nat) (hi : i < l.length) : ordR (l.take (i + 1)) cols = ordStep cols (ordR (l.take i) cols) l[i].f0 := by
 unfold ordR; rw [List.take_succ_eq_append_getElem hi, List.foldl_append]; rfl
theorem ordR_len (l : List (S29)) (cols : List ByteArray) : (ordR l cols).length ≤ l.length := by
 have : ∀ (l : List (S29)) (out : List ByteArray), (l.foldl (fun out c => ordStep cols out c.f0) out).length ≤ out.length + l.length := fun l => by
  induction l with
  | nil => intro out; simp
  | cons c l ih =>
   intro out
   rw [List.foldl_cons]
   have h1 := ih (ordStep cols out c.f0)
   have h2 : (ordStep cols out c.f0).length ≤ out.length + 1 := by unfold ordStep; split <;> simp
   rw [List.length_cons]; omega
 have h := this l []
 rw [List.length_nil, Nat.zero_add] at h
 exact h
end Go.Proofs.YtdagddhccdchoaaDoor.Q
