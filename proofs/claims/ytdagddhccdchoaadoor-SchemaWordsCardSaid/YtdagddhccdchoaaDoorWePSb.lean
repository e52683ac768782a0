/- Columns, Contains, Order, Texts: plain. -/
import Derived.Test.YtdagddhccdchoaaDoorWeQx6
import Derived.Test.YtdagddhccdchoaaDoorWeQx4
import Derived.Test.YtdagddhccdchoaaDoorWeJ10
import Derived.Test.YtdagddhccdchoaaDoorWeQx8
import Derived.Test.YtdagddhccdchoaaDoorWePSa
set_option linter.unusedVariables false
set_option linter.unusedSimpArgs false
namespace Go.Proofs.YtdagddhccdchoaaDoor.Pl
open Go.RowKit Go.Proofs.YtdagddhccdchoaaDoorW.PrintWords
open Go.Proofs.YtdagddhccdchoaaDoor.Q
abbrev Col := S29
theorem wr_succ (i : Nat) (h : i ≤ 2000000) : wrap64 ((i : Int) + 1) = ((i + 1 : Nat) : Int) := by unfold wrap64; omega
theorem rdC (l : List Col) (i : Nat) (hi : i < l.length) : rd_T29 l (i : Int) = l[i] := by unfold rd_T29; rw [Int.toNat_natCast, List.getD_eq_getElem?_getD, List.getElem?_eq_getElem hi]; rfl
theorem rdS (l : List ByteArray) (i : Nat) (hi : i < l.length) : rdOf ByteArray.empty l (i : Int) = l[i] := by unfold rdOf; rw [Int.toNat_natCast, List.getD_eq_getElem?_getD, List.getElem?_eq_getElem hi]; rfl
theorem scol_l0 (x : ByteArray) (l : List Col) (hl : l.length ≤ 1000000) : ∀ (d i k : Nat), i + d = l.length → d < k → (l.take i).find? (fun c => c.f0.toList == x.toList) = none → schema_Column.l0 k x l (l.length : Int) (i : Int) = some (colR l x)
 | d, i, 0, _, h, _ => by omega
 | 0, i, k + 1, hd, _, hn => by
  rw [schema_Column.l0, if_neg (by omega)]
  rw [List.take_of_length_le (by omega)] at hn
  unfold colR; rw [hn]
 | d + 1, i, k + 1, hd, hk, hn => by
  have hi : i < l.length := by omega
  rw [schema_Column.l0, if_pos (by omega), if_pos (by omega), if_pos (by omega), rdC l i hi]
  by_cases h : (l[i]).f0.toList = x.toList
  ·
   rw [if_pos h]
   have : l.find? (fun c => c.f0.toList == x.toList) = some l[i] := by
    conv => lhs; rw [← List.take_append_drop i l]
    rw [List.find?_append, hn, List.drop_eq_getElem_cons hi, List.find?_cons_of_pos (by simpa using h)]; rfl
   unfold colR; rw [this]
  ·
   rw [if_neg h, wr_succ i (by omega)]
   refine scol_l0 x l hl d (i + 1) k (by omega) (by omega) ?_
   rw [List.take_succ_eq_append_getElem hi, List.find?_append, hn]
   rw [List.find?_cons_of_neg (by simpa using h)]; rfl
theorem scol_f (a b c : ByteArray) (l : List Col) (x : ByteArray) (k : Nat) (hl : l.length ≤ 1000000) (hk : l.length < k) : schema_Column.f k a b c l x = some (colR l x) := scol_l0 x l hl l.length 0 k (by omega) hk rfl
theorem index_l0 (x : ByteArray) (l : List ByteArray) (hl : l.length ≤ 1000000) : ∀ (d i k : Nat), i + d = l.length → d < k → (l.take i).any (fun s => s.toList == x.toList) = false → ∃ j : Int, slices_Index_string_string.l0 k l x (l.length : Int) (i : Int) = some j ∧ decide (j ≥ 0) = l.any (fun s => s.toList == x.toList)
 | d, i, 0, _, h, _ => by omega
 | 0, i, k + 1, hd, _, hn => by
  rw [slices_Index_string_string.l0, if_neg (by omega)]
  rw [List.take_of_length_le (by omega)] at hn
  exact ⟨-1, rfl, by rw [hn]; rfl⟩
 | d + 1, i, k + 1, hd, hk, hn => by
  have hi : i < l.length := by omega
  rw [slices_Index_string_string.l0, if_pos (by omega), if_pos (by omega), if_pos (by omega), rdS l i hi]
  by_cases h : x.toList = (l[i]).toList
  ·
   rw [if_pos h]
   refine ⟨i, rfl, ?_⟩
   rw [decide_eq_true (by omega), List.any_eq_true.2 ⟨l[i], List.getElem_mem hi, by rw [h]; simp⟩]
  ·
   rw [if_neg h, wr_succ i (by omega)]
   refine index_l0 x l hl d (i + 1) k (by omega) (by omega) ?_
   rw [List.take_succ_eq_append_getElem hi, List.any_append, hn]
   have : ((l[i]).toList == x.toList) = false := beq_eq_false_iff_ne.2 (fun e => h e.symm)
   simp [this]
theorem contains_f (x : ByteArray) (l : List ByteArray) (k : Nat) (hl : l.length ≤ 1000000) (hk : l.length < k) : slices_Contains_string_string.f k l x = some (l.any (fun s => s.toList == x.toList)) := by
 obtain ⟨j, h1, h2⟩ := index_l0 x l hl l.length 0 k (by omega) hk rfl
 unfold slices_Contains_string_string.f slices_Index_string_string.f
 rw [show ((0 : Int)) = ((0 : Nat) : Int) from rfl, h1, Option.bind_some]
 exact congrArg some h2
theorem all_not (out : List ByteArray) (x : ByteArray) : out.all (fun s => !(s.toList == x.toList)) = !(out.any (fun s => s.toList == x.toList)) := by
 induction out with
 | nil => rfl
 | cons s out ih => rw [List.all_cons, List.any_cons, ih, Bool.not_or]
theorem order_l1 (cols : List ByteArray) (hc : cols.length ≤ 1000000) (l : List Col) (hl : l.length ≤ 1000000) : ∀ (d i k : Nat), i + d = l.length → d + l.length + cols.length + 1 < k → schema_Order.l1 k cols (ordR (l.take i) cols) l (l.length : Int) (i : Int) = some (ordR l cols, true)
 | d, i, 0, _, h => by omega
 | 0, i, k + 1, hd, _ => by
  rw [schema_Order.l1, if_neg (by omega), List.take_of_length_le (by omega)]
 | d + 1, i, k + 1, hd, hk => by
  have hi : i < l.length := by omega
  have hn := ordR_len (l.take i) cols
  rw [List.length_take] at hn
  have hr := order_l1 cols hc l hl d (i + 1) k (by omega) (by omega)
  rw [ordR_take l cols i hi] at hr
  unfold ordStep at hr
  rw [all_not] at hr
  unfold ordIn at hr
  have c1 := contains_f (l[i]).f0 (ordR (l.take i) cols) k (by omega) (by omega)
  have c2 := contains_f (l[i]).f0 cols k hc (by omega)
  rw [schema_Order.l1, if_pos (by omega), if_pos (by omega), if_pos (by omega), rdC l i hi, wr_succ i (by omega)]
  generalize ((ordR (l.take i) cols).any fun s => s.toList == (l[i]).f0.toList) = b1 at hr c1
  generalize (cols.any fun s => s.toList == (l[i]).f0.toList) = b2 at hr c2
  by_cases h0 : cols.length = 0
  ·
   rw [if_pos (by omega), c1, Option.bind_some]
   rw [decide_eq_true h0] at hr
   cases b1
   ·
    rw [if_neg (by decide), if_pos (by omega)]; simpa using hr
   ·
    rw [if_pos rfl]; simpa using hr
  ·
   rw [if_neg (by omega), c2, Option.bind_some]
   rw [decide_eq_false h0] at hr
   cases b2
   ·
    rw [if_neg (by decide)]; simpa using hr
   ·
    rw [if_pos rfl, c1, Option.bind_some]
    cases b1
    ·
     rw [if_neg (by decide), if_pos (by omega)]; simpa using hr
    ·
     rw [if_pos rfl]; simpa using hr
theorem order_l0 (a b c : ByteArray) (cols : List ByteArray) (hc : cols.length ≤ 1000000) (l : List Col) (hl : l.length ≤ 1000000) : ∀ (d i k : Nat), i + d = cols.length → d + 2 * l.length + cols.length + 10 < k → (cols.take i).all (fun s => (colR l s).2.2) = true →
  schema_Order.l0 k cols cols (cols.length : Int) (i : Int) a b c l = some (if cols.all (fun s => (colR l s).2.2) = true then (ordR l cols, true) else ([], false))
 | d, i, 0, _, h, _ => by omega
 | 0, i, k + 1, hd, _, hn => by
  rw [List.take_of_length_le (by omega)] at hn
  rw [schema_Order.l0, if_neg (by omega), if_pos hn]
  exact order_l1 cols hc l hl l.length 0 k (by omega) (by omega)
 | d + 1, i, k + 1, hd, hk, hn => by
  have hi : i < cols.length := by omega
  rw [schema_Order.l0, if_pos (by omega), if_pos (by omega), if_pos (by omega), rdS cols i hi, scol_f a b c l cols[i] k hl (by omega), Option.bind_some]
  by_cases h : (colR l cols[i]).2.2 = true
  ·
   rw [if_pos h, wr_succ i (by omega)]
   refine order_l0 a b c cols hc l hl d (i + 1) k (by omega) (by omega) ?_
   rw [List.take_succ_eq_append_getElem hi, List.all_append, hn, List.all_cons, h]; rfl
  ·
   rw [if_neg h, if_neg]
   intro h2
   exact h (List.all_eq_true.1 h2 _ (List.getElem_mem hi))
theorem order_f (a b c : ByteArray) (cols : List ByteArray) (hc : cols.length ≤ 1000000) (l : List Col) (hl : l.length ≤ 1000000) (k : Nat) (hk : 2 * l.length + 2 * cols.length + 10 < k) :
  schema_Order.f k a b c l cols = some (if cols.all (fun s => (colR l s).2.2) = true then (ordR l cols, true) else ([], false)) := order_l0 a b c cols hc l hl cols.length 0 k (by omega) (by omega) rfl
theorem texts_l0 (xs : List ByteArray) (hx : xs.length ≤ 1000000) : ∀ (d i k : Nat), i + d = xs.length → d < k → skerryref01_Texts.l0 k xs xs (xs.length : Int) (i : Int) = some true
 | d, i, 0, _, h => by omega
 | 0, i, k + 1, hd, _ => by rw [skerryref01_Texts.l0, if_neg (by omega)]
 | d + 1, i, k + 1, hd, hk => by
  rw [skerryref01_Texts.l0, if_pos (by omega), if_pos (by omega), if_pos (by omega), if_pos (by omega), if_pos rfl, wr_succ i (by omega)]
  exact texts_l0 xs hx d (i + 1) k (by omega) (by omega)
theorem texts_self (xs : List ByteArray) (hx : xs.length ≤ 1000000) (k : Nat) (hk : xs.length < k) : skerryref01_Texts.f k xs xs = some true := by
 unfold skerryref01_Texts.f
 rw [if_pos rfl]; exact texts_l0 xs hx xs.length 0 k (by omega) hk
end Go.Proofs.YtdagddhccdchoaaDoor.Pl
