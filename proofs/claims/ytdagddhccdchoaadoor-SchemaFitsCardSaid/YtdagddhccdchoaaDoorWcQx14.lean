/- Lemmas for this claim's walk: no condition of their own. -/
import Derived.Test.YtdagddhccdchoaaDoorWcSq
import Derived.Test.YtdagddhccdchoaaDoorWcQx0
import Derived.Test.YtdagddhccdchoaaDoorWcQx13
namespace Go.Proofs.YtdagddhccdchoaaDoor.Q
open Go.RowKit Go.Proofs.YtdagddhccdchoaaDoorW.PrintWords Go.Proofs.YtdagddhccdchoaaDoorW.PrintLast Go.Proofs.YtdagddhccdchoaaDoorW.PrintMore
attribute [local go_sem] max2_int min2_int max_two min_two max_three min_three max_four min_four
set_option linter.unusedVariables false
set_option linter.unusedSimpArgs false
def colR (l : List (S29)) (x : ByteArray) : ByteArray × Int × Bool := match l.find? (fun c => c.f0.toList == x.toList) with
 | some c => (c.f0, c.f1, true)
 | none => ((⟨#[]⟩ : ByteArray), 0, false)
theorem column_l0 (x : ByteArray) (l : List (S29)) (hl : l.length ≤ 1000000) : ∀ (d i k : Nat), i + d = l.length → d < k → (l.take i).find? (fun c => c.f0.toList == x.toList) = none → skerryref17_Column.l0 k x l (l.length : Int) (i : Int) = some (colR l x)
 | d, i, 0, _, h, _ => by omega
 | 0, i, k + 1, hd, _, hn => by
  rw [skerryref17_Column.l0, if_neg (by omega)]
  rw [List.take_of_length_le (by omega)] at hn
  unfold colR; rw [hn]
 | d + 1, i, k + 1, hd, hk, hn => by
  have hi : i < l.length := by omega
  have e1 : rd_T29 l (i : Int) = l[i] := by unfold rd_T29; rw [Int.toNat_natCast, List.getD_eq_getElem?_getD, List.getElem?_eq_getElem hi]; rfl
  have e3 : wrap64 ((i : Int) + 1) = ((i + 1 : Nat) : Int) := by unfold wrap64; omega
  rw [skerryref17_Column.l0, if_pos (by omega), if_pos (by omega), if_pos (by omega), e1]
  by_cases h : (l[i]).f0.toList = x.toList
  ·
   rw [if_pos h]
   have : l.find? (fun c => c.f0.toList == x.toList) = some l[i] := by
    conv => lhs; rw [← List.take_append_drop i l]
    rw [List.find?_append, hn, List.drop_eq_getElem_cons hi, List.find?_cons_of_pos (by simpa using h)]; rfl
   unfold colR; rw [this]
  ·
   rw [if_neg h, e3]
   refine column_l0 x l hl d (i + 1) k (by omega) (by omega) ?_
   rw [List.take_succ_eq_append_getElem hi, List.find?_append, hn]
   rw [List.find?_cons_of_neg (by simpa using h)]; rfl
theorem column_f (a b c : ByteArray) (l : List (S29)) (x : ByteArray) (k : Nat) (hl : l.length ≤ 1000000) (hk : l.length < k) : skerryref17_Column.f k a b c l x = some (colR l x) := column_l0 x l hl l.length 0 k (by omega) hk rfl
def ordIn (cols : List ByteArray) (x : ByteArray) : Bool := decide (cols.length = 0) || cols.any (fun s => s.toList == x.toList)
def ordStep (cols : List ByteArray) (out : List ByteArray) (x : ByteArray) : List ByteArray := if (ordIn cols x && out.all (fun s => !(s.toList == x.toList))) = true then out ++ [x] else out
def ordR (l : List (S29)) (cols : List ByteArray) : List ByteArray := l.foldl (fun out c => ordStep cols out c.f0) []
theorem ordR_take (l : List (S29)) (cols : List ByteArray) (i : Nat) (hi : i < l.length) : ordR (l.take (i + 1)) cols = ordStep cols (ordR (l.take i) cols) l[i].f0 := by
 unfold ordR; rw [List.take_succ_eq_append_getElem hi, List.foldl_append]; rfl
theorem ordR_len (l : List (S29)) (cols : List ByteArray) : (ordR l cols).length ≤ l.length := by
 have : ∀ (l : List (S29)) (out : List ByteArray), (l.foldl (fun out c => ordStep cols out c.f0) out).length ≤ out.length + l.length := fun l => by
  induction l with
  | nil => intro out; simp
  | cons c l ih =>
   intro out
   rw [List.foldl_cons]
   have h1 := ih (ordStep cols out c.f0)
   have h2 : (ordStep cols out c.f0).length ≤ out.length + 1 := by unfold ordStep; split <;> simp
   rw [List.length_cons]; omega
 have h := this l []
 rw [List.length_nil, Nat.zero_add] at h
 exact h
end Go.Proofs.YtdagddhccdchoaaDoor.Q
