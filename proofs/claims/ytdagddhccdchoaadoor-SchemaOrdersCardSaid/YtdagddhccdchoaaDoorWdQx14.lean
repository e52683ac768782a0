/- Lemmas for this claim's walk: no condition of their own. -/
import Derived.Test.YtdagddhccdchoaaDoorWdSq
import Derived.Test.YtdagddhccdchoaaDoorWdQx0
namespace Go.Proofs.YtdagddhccdchoaaDoor.Q
open Go.RowKit Go.Proofs.YtdagddhccdchoaaDoorW.PrintWords Go.Proofs.YtdagddhccdchoaaDoorW.PrintLast Go.Proofs.YtdagddhccdchoaaDoorW.PrintMore
attribute [local go_sem] max2_int min2_int max_two min_two max_three min_three max_four min_four
set_option linter.unusedVariables false
set_option linter.unusedSimpArgs false
def colR (l : List (S29)) (x : ByteArray) : ByteArray × Int × Bool := match l.find? (fun c => c.f0.toList == x.toList) with
 | some c => (c.f0, c.f1, true)
 | none => ((⟨#[]⟩ : ByteArray), 0, false)
def ordIn (cols : List ByteArray) (x : ByteArray) : Bool := decide (cols.length = 0) || cols.any (fun s => s.toList == x.toList)
def ordStep (cols : List ByteArray) (out : List ByteArray) (x : ByteArray) : List ByteArray := if (ordIn cols x && out.all (fun s => !(s.toList == x.toList))) = true then out ++ [x] else out
def ordR (l : List (S29)) (cols : List ByteArray) : List ByteArray := l.foldl (fun out c => ordStep cols out c.f0) []
theorem ordR_take (l : List (S29)) (cols : List ByteArray) (i : Nat) (hi : i < l.length) : ordR (l.take (i + 1)) cols = ordStep cols (ordR (l.take i) cols) l[i].f0 := by
 unfold ordR; rw [List.take_succ_eq_append_getElem hi, List.foldl_append]; rfl
theorem ordR_len (l : List (S29)) (cols : List ByteArray) : (ordR l cols).length ≤ l.length := by
 have : ∀ (l : List (S29)) (out : List ByteArray), (l.foldl (fun out c => ordStep cols out c.f0) out).length ≤ out.length + l.length := fun l => by
  induction l with
  | nil => intro out; simp
  | cons c l ih =>
   intro out
   rw [List.foldl_cons]
   have h1 := ih (ordStep cols out c.f0)
   have h2 : (ordStep cols out c.f0).length ≤ out.length + 1 := by unfold ordStep; split <;> simp
   rw [List.length_cons]; omega
 have h := this l []
 rw [List.length_nil, Nat.zero_add] at h
 exact h
end Go.Proofs.YtdagddhccdchoaaDoor.Q
