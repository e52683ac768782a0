/- Names and words: the program's and the document's are the same (turned from the lexer's texts of chapter 18). -/
import Derived.Test.YtdagddhccdchoaaDoorWbQx3
import Derived.Test.YtdagddhccdchoaaDoorWbQx12
import Derived.Test.YtdagddhccdchoaaDoorWbQx10
import Derived.Test.YtdagddhccdchoaaDoorWbQx11
import Derived.Lib.RuneCountTail
set_option linter.unusedVariables false
set_option linter.unusedSimpArgs false
namespace Go.Proofs.YtdagddhccdchoaaDoor.Pl
open Go.RowKit Go.Proofs.YtdagddhccdchoaaDoorW.PrintWords
open Go.Proofs.YtdagddhccdchoaaDoor.Q
def cb (s : ByteArray) (i : Nat) : Nat := if h : i < s.size then (s[i]'h).toNat else 0
theorem bt_cb (s : ByteArray) (i : Nat) : bt s (i : Int) = (cb s i : Int) := by
 unfold bt cb
 simp only [Int.toNat_natCast]
 split <;> rfl
theorem wr {x : Int} (h : -1000000 ≤ x ∧ x ≤ 1000000) : wrap64 x = x := by unfold wrap64; omega
theorem wr1 {n : Nat} (h : n ≤ 10000) (m : Nat) (hm : m ≤ 1000) : wrap64 ((n : Int) + (m : Int)) = ((n + m : Nat) : Int) := by rw [wr (by omega)]; omega
theorem get_cb (s : ByteArray) (i : Nat) : (s.get! i).toNat = cb s i := by
 unfold cb
 by_cases h : i < s.size
 ·
  rw [dif_pos h]
  congr 1
  show s.data[i]! = s.data[i]
  rw [getElem!_pos s.data i h]
 ·
  rw [dif_neg h]
  show (s.data[i]!).toNat = 0
  rw [getElem!_neg s.data i h]
  rfl
theorem decode_small {s : ByteArray} {i : Nat} (h : cb s i < 128) : Utf8.decode s i = (cb s i, 1) := by
 unfold Utf8.decode
 simp only [Nat.add_zero, get_cb]
 rw [if_pos h]
theorem decode_big {s : ByteArray} {i : Nat} (h : 128 ≤ cb s i) : 128 ≤ (Utf8.decode s i).1 ∧ 1 ≤ (Utf8.decode s i).2 ∧ ∀ j, i ≤ j → j < i + (Utf8.decode s i).2 → 128 ≤ cb s j := by
 unfold Utf8.decode
 simp only [Nat.add_zero, get_cb]
 rw [if_neg (by omega)]
 have one : ∀ j, i ≤ j → j < i + 1 → 128 ≤ cb s j := fun j h1 h2 => by rw [show j = i by omega]; exact h
 simp only [Utf8.runeError]
 split
 ·
  rename_i h1
  simp only [Bool.and_eq_true, decide_eq_true_eq, beq_iff_eq] at h1
  split
  ·
   rename_i h2
   refine ⟨h2, by omega, fun j h3 h4 => ?_⟩
   rcases (by omega : j = i ∨ j = i + 1) with e | e <;> subst e <;> simp only at h4 ⊢ <;> omega
  ·
   exact ⟨by omega, by omega, one⟩
 ·
  split
  ·
   rename_i h1
   simp only [Bool.and_eq_true, decide_eq_true_eq, beq_iff_eq] at h1
   split
   ·
    rename_i h2
    simp only [Bool.and_eq_true, decide_eq_true_eq] at h2
    refine ⟨by simp only; omega, by omega, fun j h3 h4 => ?_⟩
    rcases (by simp only at h4; omega : j = i ∨ j = i + 1 ∨ j = i + 2) with e | e | e <;> subst e <;> omega
   ·
    exact ⟨by omega, by omega, one⟩
  ·
   split
   ·
    rename_i h1
    simp only [Bool.and_eq_true, decide_eq_true_eq, beq_iff_eq] at h1
    split
    ·
     rename_i h2
     simp only [Bool.and_eq_true, decide_eq_true_eq] at h2
     refine ⟨by simp only; omega, by omega, fun j h3 h4 => ?_⟩
     rcases (by simp only at h4; omega : j = i ∨ j = i + 1 ∨ j = i + 2 ∨ j = i + 3) with e | e | e | e <;> subst e <;> omega
    ·
     exact ⟨by omega, by omega, one⟩
   ·
    exact ⟨by omega, by omega, one⟩
def okByte (b : Nat) : Bool := (decide (97 ≤ b) && decide (b ≤ 122)) || (decide (48 ≤ b) && decide (b ≤ 57)) || decide (b = 95)
theorem badRune_ok {b : Nat} : badRune b = !okByte b := by
 by_cases h1 : 97 ≤ b <;> by_cases h2 : b ≤ 122 <;> by_cases h3 : 48 ≤ b <;> by_cases h4 : b ≤ 57 <;> by_cases h5 : b = 95 <;> simp [badRune, okByte, h1, h2, h3, h4, h5] <;> omega
theorem bad_big {r : Nat} (h : 128 ≤ r) : badRune r = true := by
 rw [badRune_ok]; unfold okByte; simp; omega
def okFrom (s : ByteArray) : Nat → Nat → Bool
 | 0, _ => true
 | f + 1, pos => if pos < s.size then (okByte (cb s pos) && okFrom s f (pos + 1)) else true
theorem idx_ok (s : ByteArray) : ∀ f pos, s.size ≤ f + pos → (Lib.idxFuncFrom badRune true s f pos < 0 ↔ okFrom s f pos = true)
 | 0, pos, _ => by simp [Lib.idxFuncFrom, okFrom]
 | f + 1, pos, hf => by
  unfold Lib.idxFuncFrom okFrom
  by_cases hp : pos < s.size
  ·
   rw [if_pos hp, if_pos hp]
   by_cases h : cb s pos < 128
   ·
    rw [decode_small h]
    simp only [badRune_ok]
    cases ho : okByte (cb s pos)
    ·
     simp
    ·
     simp only [Bool.not_true, Bool.false_eq_true, if_false, Bool.true_and]
     exact idx_ok s f (pos + 1) (by omega)
   ·
    rw [if_pos (bad_big (decode_big (by omega)).1)]
    have : okByte (cb s pos) = false := by unfold okByte; simp; omega
    simp [this]
  ·
   rw [if_neg hp, if_neg hp]; simp
theorem okB {b : Nat} : okByte b = true ↔ (97 ≤ b ∧ b ≤ 122) ∨ (48 ≤ b ∧ b ≤ 57) ∨ b = 95 := by
 unfold okByte
 simp [or_assoc]
theorem ref_loop (s : ByteArray) (hs : s.size ≤ 1000) : ∀ f pos, s.size ≤ f + pos → pos ≤ s.size → skerryref04_Name.l0 (f + 1) s (pos : Int) = some (okFrom s f pos)
 | 0, pos, hf, _ => by
  rw [skerryref04_Name.l0, if_neg (by omega)]; rfl
 | f + 1, pos, hf, hp => by
  rw [skerryref04_Name.l0]
  unfold okFrom
  by_cases h : pos < s.size
  ·
   rw [if_pos (by omega), if_pos (by omega), if_pos h, bt_cb]
   have hw : wrap64 ((pos : Int) + 1) = ((pos + 1 : Nat) : Int) := wr1 (by omega) 1 (by omega)
   rw [hw, ref_loop s hs f (pos + 1) (by omega) (by omega)]
   generalize cb s pos = b
   cases hok : okByte b with
   | true =>
    rw [okB] at hok
    rw [Bool.true_and]
    by_cases h1 : (b : Int) ≥ 97
    ·
     rw [if_pos h1]
     by_cases h2 : (b : Int) ≤ 122
     ·
      rw [if_pos h2]
     ·
      omega
    ·
     rw [if_neg h1]
     by_cases h3 : (b : Int) ≥ 48
     ·
      rw [if_pos h3]
      by_cases h4 : (b : Int) ≤ 57
      ·
       rw [if_pos h4]
      ·
       rw [if_neg h4, if_pos (by omega)]
     ·
      omega
   | false =>
    have hn : ¬ ((97 ≤ b ∧ b ≤ 122) ∨ (48 ≤ b ∧ b ≤ 57) ∨ b = 95) := by rw [← okB, hok]; simp
    rw [Bool.false_and]
    by_cases h1 : (b : Int) ≥ 97
    ·
     rw [if_pos h1, if_neg (by omega)]
     by_cases h3 : (b : Int) ≥ 48
     ·
      rw [if_pos h3, if_neg (by omega), if_neg (by omega)]
     ·
      rw [if_neg h3, if_neg (by omega)]
    ·
     rw [if_neg h1]
     by_cases h3 : (b : Int) ≥ 48
     ·
      rw [if_pos h3, if_neg (by omega), if_neg (by omega)]
     ·
      rw [if_neg h3, if_neg (by omega)]
  ·
   rw [if_neg (by omega), if_neg h]
theorem okFrom_any (s : ByteArray) : ∀ f g pos, s.size ≤ f + pos → s.size ≤ g + pos → okFrom s f pos = okFrom s g pos := by
 intro f
 induction f with
 | zero => intro g pos h1 h2; cases g with
  | zero => rfl
  | succ g => simp only [okFrom]; rw [if_neg (by omega)]
 | succ f ih =>
  intro g pos h1 h2
  cases g with
  | zero => simp only [okFrom]; rw [if_neg (by omega)]
  | succ g => simp only [okFrom]; rw [ih g (pos + 1) (by omega) (by omega)]
theorem name_f (k : Nat) (hk : 30 ≤ k) (s : ByteArray) : skerryref04_Name.f k s = some (nameB s) := by
 obtain ⟨n, rfl⟩ : ∃ n, k = n + 30 := ⟨k - 30, by omega⟩
 unfold skerryref04_Name.f nameB
 by_cases h1 : (s.size : Int) < 1
 ·
  rw [if_pos h1, skerryref04_Name.j0, if_pos rfl, decide_eq_false (show ¬ 1 ≤ s.size by omega)]; rfl
 rw [if_neg h1, decide_eq_true (show 1 ≤ s.size by omega)]
 by_cases h2 : (s.size : Int) > 16
 ·
  rw [if_pos h2, skerryref04_Name.j0, if_pos rfl, decide_eq_false (show ¬ s.size ≤ 16 by omega)]; rfl
 rw [if_neg h2, if_pos (by omega), decide_eq_true (show s.size ≤ 16 by omega)]
 by_cases h3 : bt s 0 < 97
 ·
  rw [if_pos h3, skerryref04_Name.j0, if_pos rfl, decide_eq_false (show ¬ 97 ≤ bt s 0 by omega)]; rfl
 rw [if_neg h3, decide_eq_true (show 97 ≤ bt s 0 by omega)]
 by_cases h4 : bt s 0 > 122
 ·
  rw [decide_eq_true h4, skerryref04_Name.j0, if_pos rfl, decide_eq_false (show ¬ bt s 0 ≤ 122 by omega)]; rfl
 rw [decide_eq_false h4, skerryref04_Name.j0, if_neg (by simp), decide_eq_true (show bt s 0 ≤ 122 by omega)]
 have hl := ref_loop s (by omega) (n + 28) 0 (by omega) (by omega)
 simp only [Int.natCast_zero] at hl
 rw [show n + 29 = n + 28 + 1 by omega, hl, okFrom_any s (n + 28) s.size 0 (by omega) (by omega)]
 have hi := idx_ok s s.size 0 (by omega)
 have : decide (Lib.idxFunc badRune true s < 0) = okFrom s s.size 0 := by
  unfold Lib.idxFunc
  cases h : okFrom s s.size 0
  ·
   simp only [h, Bool.false_eq_true, iff_false] at hi; simpa using hi
  ·
   exact decide_eq_true (hi.2 h)
 rw [this]
 rfl
def words : List (List UInt8) := [[99, 114, 101, 97, 116, 101], [116, 97, 98, 108, 101], [112, 114, 105, 109, 97, 114, 121], [107, 101, 121], [105, 110, 115, 101, 114, 116], [105, 110, 116, 111], [118, 97, 108, 117, 101, 115], [117, 115, 105, 110, 103], [116, 105, 109, 101, 115, 116, 97, 109, 112], [99, 111, 110, 115, 105, 115, 116, 101, 110, 99, 121], [117, 112, 100, 97, 116, 101], [115, 101, 116], [119, 104, 101, 114, 101], [97, 110, 100], [100, 101, 108, 101, 116, 101], [102, 114, 111, 109], [115, 101, 108, 101, 99, 116], [108, 105, 109, 105, 116], [111, 110, 101], [113, 117, 111, 114, 117, 109], [97, 108, 108], [116, 101, 120, 116], [105, 110, 116]]
def WSL : List UInt8 := [32, 99, 114, 101, 97, 116, 101, 32, 116, 97, 98, 108, 101, 32, 112, 114, 105, 109, 97, 114, 121, 32, 107, 101, 121, 32, 105, 110, 115, 101, 114, 116, 32, 105, 110, 116, 111, 32, 118, 97, 108, 117, 101, 115, 32, 117, 115, 105, 110, 103, 32, 116, 105, 109, 101, 115, 116, 97, 109, 112, 32, 99, 111, 110, 115, 105, 115, 116, 101, 110, 99, 121, 32, 117, 112, 100, 97, 116, 101, 32, 115, 101, 116, 32, 119, 104, 101, 114, 101, 32, 97, 110, 100, 32, 100, 101, 108, 101, 116, 101, 32, 102, 114, 111, 109, 32, 115, 101, 108, 101, 99, 116, 32, 108, 105, 109, 105, 116, 32, 111, 110, 101, 32, 113, 117, 111, 114, 117, 109, 32, 97, 108, 108, 32, 116, 101, 120, 116, 32, 105, 110, 116, 32]
def WS : ByteArray := ⟨WSL.toArray⟩
def fits (x : List UInt8) (i : Nat) : Bool := WSL.getD i 0 == 32 && ((WSL.drop (i + 1)).take x.length == x && WSL.getD (i + 1 + x.length) 0 == 32)
theorem seg_words : ∀ i : Fin 143, WSL.getD i.val 0 = 32 → ∀ n : Fin 143, WSL.getD (i.val + 1 + n.val) 0 = 32 → ((WSL.drop (i.val + 1)).take n.val).contains 32 = true ∨ n.val = 0 ∨ words.contains ((WSL.drop (i.val + 1)).take n.val) = true := by decide +kernel
theorem word_fits : ∀ w ∈ words, 0 < w.length ∧ w.contains 32 = false ∧ ∃ i : Fin 143, i.val + w.length + 1 < 143 ∧ fits w i.val = true := by decide +kernel
theorem cb_get (s : ByteArray) (i : Nat) : cb s i = (s.data.toList.getD i 0).toNat := by
 unfold cb
 by_cases h : i < s.size
 ·
  rw [dif_pos h, List.getD_eq_getElem?_getD, List.getElem?_eq_getElem (by rw [Array.length_toList]; exact h)]
  rfl
 ·
  rw [dif_neg h, List.getD_eq_getElem?_getD, List.getElem?_eq_none (by rw [Array.length_toList]; exact Nat.le_of_not_lt h)]
  rfl
theorem u8_32 {c : UInt8} : c.toNat = 32 ↔ c = 32 := ⟨fun h => UInt8.toNat_inj.1 (by rw [h]; rfl), fun h => by rw [h]; rfl⟩
theorem WS_get (i : Nat) : cb WS i = (WSL.getD i 0).toNat := cb_get WS i
theorem WS_ext (a b : Nat) : (WS.extract a b).data.toList = (WSL.drop a).take (b - a) := by
 rw [ByteArray.data_extract, Array.toList_extract]
 rfl
theorem WS_fold : (⟨#[32, 99, 114, 101, 97, 116, 101, 32, 116, 97, 98, 108, 101, 32, 112, 114, 105, 109, 97, 114, 121, 32, 107, 101, 121, 32, 105, 110, 115, 101, 114, 116, 32, 105, 110, 116, 111, 32, 118, 97, 108, 117, 101, 115, 32, 117, 115, 105, 110, 103, 32, 116, 105, 109, 101, 115, 116, 97, 109, 112, 32, 99, 111, 110, 115, 105, 115, 116, 101, 110, 99, 121, 32, 117, 112, 100, 97, 116, 101, 32, 115, 101, 116, 32, 119, 104, 101, 114, 101, 32, 97, 110, 100, 32, 100, 101, 108, 101, 116, 101, 32, 102, 114, 111, 109, 32, 115, 101, 108, 101, 99, 116, 32, 108, 105, 109, 105, 116, 32, 111, 110, 101, 32, 113, 117, 111, 114, 117, 109, 32, 97, 108, 108, 32, 116, 101, 120, 116, 32, 105, 110, 116, 32]⟩ : ByteArray) = WS := rfl
theorem word_l1 (x : ByteArray) (hx : x.size ≤ 1000) (i : Nat) (hi : i ≤ 200) (k : Nat) : skerryref17_Word.l1 (k + 1) x (i : Int) =
  if i + x.size + 1 < 143 then (if fits x.data.toList i = true then some (decide (0 < x.size)) else skerryref17_Word.l1 k x ((i + 1 : Nat) : Int)) else some false := by
 have w1 : wrap64 ((i : Int) + 1) = ((i + 1 : Nat) : Int) := wr1 (by omega) 1 (by omega)
 have w2 : wrap64 ((i : Int) + (x.size : Int)) = ((i + x.size : Nat) : Int) := wr1 (by omega) _ hx
 have w3 : wrap64 (((i + x.size : Nat) : Int) + 1) = ((i + x.size + 1 : Nat) : Int) := wr1 (by omega) 1 (by omega)
 have w4 : wrap64 (((i + 1 : Nat) : Int) + (x.size : Int)) = ((i + 1 + x.size : Nat) : Int) := wr1 (by omega) _ hx
 have hl : x.data.toList.length = x.size := Array.length_toList
 rw [skerryref17_Word.l1, WS_fold, w2, w3]
 by_cases h : i + x.size + 1 < 143
 ·
  rw [if_pos (by omega), if_pos h, if_pos (by omega), if_pos (by omega), bt_cb, WS_get]
  unfold fits
  rw [hl]
  by_cases h1 : WSL.getD i 0 = 32
  ·
   rw [h1, if_pos (by rfl), w1, if_pos (by omega), w4, if_pos (by omega), if_pos (by omega), Int.toNat_natCast, Int.toNat_natCast]
   by_cases h2 : (WSL.drop (i + 1)).take x.size = x.data.toList
   ·
    have e2 : (WS.extract (i + 1) (i + 1 + x.size)).toList = x.toList := by rw [Lib.toList_data, Lib.toList_data, WS_ext, ← h2]; congr 1; omega
    rw [if_pos e2, if_pos (by omega), if_pos (by omega), bt_cb, WS_get]
    by_cases h3 : WSL.getD (i + 1 + x.size) 0 = 32
    ·
     rw [h3, if_pos (by rfl), h2]
     simp
    ·
     rw [if_neg (fun e => h3 (u8_32.1 (by omega))), h2, beq_eq_false_iff_ne.2 h3]
     simp
   ·
    have e2 : ¬ (WS.extract (i + 1) (i + 1 + x.size)).toList = x.toList := by
     rw [Lib.toList_data, Lib.toList_data, WS_ext]
     intro e
     apply h2
     rw [← e]; congr 1; omega
    rw [if_neg e2, beq_eq_false_iff_ne.2 h2]
    simp
  ·
   rw [if_neg (fun e => h1 (u8_32.1 (by omega))), w1, beq_eq_false_iff_ne.2 h1]
   simp
 ·
  rw [if_neg (by omega), if_neg h]
theorem word_find (x : ByteArray) (hx : x.size ≤ 1000) : ∀ (d i : Nat), i + d = 150 → ∃ b, Ev (fun k => skerryref17_Word.l1 k x (i : Int)) b ∧ (b = true ↔ 0 < x.size ∧ ∃ j, i ≤ j ∧ j + x.size + 1 < 143 ∧ fits x.data.toList j = true)  := by
 intro d
 induction d with
 | zero =>
  intro i h
  refine ⟨false, Ev.step (fun k => (word_l1 x hx i (by omega) k).trans (if_neg (by omega))) (Ev.now _), ?_⟩
  simp
  intro _ j h1 h2
  omega
 | succ d ih =>
  intro i h
  by_cases h1 : i + x.size + 1 < 143
  ·
   by_cases h2 : fits x.data.toList i = true
   ·
    refine ⟨decide (0 < x.size), Ev.step (fun k => by rw [word_l1 x hx i (by omega) k, if_pos h1, if_pos h2]) (Ev.now _), ?_⟩
    rw [decide_eq_true_eq]
    exact ⟨fun h3 => ⟨h3, i, Nat.le_refl _, h1, h2⟩, fun h3 => h3.1⟩
   ·
    obtain ⟨b, hb, hc⟩ := ih (i + 1) (by omega)
    refine ⟨b, Ev.step (fun k => by rw [word_l1 x hx i (by omega) k, if_pos h1, if_neg h2]) hb, hc.trans ⟨fun ⟨a1, j, a2, a3, a4⟩ => ⟨a1, j, by omega, a3, a4⟩, fun ⟨a1, j, a2, a3, a4⟩ => ⟨a1, j, ?_, a3, a4⟩⟩⟩
    rcases Nat.eq_or_lt_of_le a2 with e | e
    ·
     subst e; exact absurd a4 h2
    ·
     exact e
  ·
   refine ⟨false, Ev.step (fun k => (word_l1 x hx i (by omega) k).trans (if_neg h1)) (Ev.now _), ?_⟩
   simp
   intro _ j h3 h4
   omega
theorem word_l0 (x : ByteArray) (hx : x.size ≤ 1000) (b : Bool) (hb : Ev (fun k => skerryref17_Word.l1 k x 0) b) : ∀ (d i : Nat), i + d = x.size → Ev (fun k => skerryref17_Word.l0 k x (i : Int)) (if (x.data.toList.drop i).contains 32 = true then false else b) := by
 intro d
 induction d with
 | zero =>
  intro i h
  have : x.data.toList.drop i = [] := List.drop_eq_nil_of_le (by rw [Array.length_toList]; show x.size ≤ i; omega)
  rw [this]
  exact Ev.step (fun k => by rw [skerryref17_Word.l0, if_neg (by omega)]) hb
 | succ d ih =>
  intro i h
  have hl : x.data.toList.length = x.size := Array.length_toList
  have hd : x.data.toList.drop i = x.data.toList.getD i 0 :: x.data.toList.drop (i + 1) := by
   rw [List.drop_eq_getElem_cons (show i < x.data.toList.length by omega), List.getD_eq_getElem?_getD, List.getElem?_eq_getElem (show i < x.data.toList.length by omega)]
   rfl
  rw [hd]
  by_cases h1 : cb x i = 32
  ·
   have e : x.data.toList.getD i 0 = 32 := by rw [cb_get] at h1; exact u8_32.1 h1
   rw [if_pos (by rw [e]; simp)]
   exact Ev.step (fun k => by rw [skerryref17_Word.l0, if_pos (by omega), if_pos (by omega), bt_cb, if_pos (by omega)]) (Ev.now _)
  ·
   have e : (x.data.toList.getD i 0 :: x.data.toList.drop (i + 1)).contains 32 = (x.data.toList.drop (i + 1)).contains 32 := by
    rw [List.contains_cons]
    have : (32 == x.data.toList.getD i 0) = false := by
     rw [beq_eq_false_iff_ne]
     intro e2
     exact h1 (by rw [cb_get, ← e2]; rfl)
    rw [this, Bool.false_or]
   rw [e]
   exact Ev.step (fun k => by rw [skerryref17_Word.l0, if_pos (by omega), if_pos (by omega), bt_cb, if_neg (by omega), show ((i : Int) + 1) = (i : Int) + ((1 : Nat) : Int) from rfl, wr1 (by omega) 1 (by omega)]) (ih (i + 1) (by omega))
theorem word17 (x : ByteArray) (hx : x.size ≤ 1000) : Ev (fun k => skerryref17_Word.f k x) (words.contains x.data.toList) := by
 have hl : x.data.toList.length = x.size := Array.length_toList
 obtain ⟨b, hb, hc⟩ := word_find x hx 150 0 (by omega)
 have h0 := word_l0 x hx b hb x.size 0 (by omega)
 rw [List.drop_zero] at h0
 have e : (if x.data.toList.contains 32 = true then false else b) = words.contains x.data.toList := by
  by_cases hs : x.data.toList.contains 32 = true
  ·
   rw [if_pos hs]
   symm
   rw [Bool.eq_false_iff]
   intro h
   have := (word_fits _ (List.contains_iff_mem.1 h)).2.1
   rw [this] at hs
   cases hs
  ·
   rw [if_neg hs, Bool.eq_iff_iff, hc]
   constructor
   ·
    rintro ⟨h1, j, _, h3, h4⟩
    unfold fits at h4
    rw [Bool.and_eq_true, Bool.and_eq_true, beq_iff_eq, beq_iff_eq, beq_iff_eq, hl] at h4
    obtain ⟨f1, f2, f3⟩ := h4
    have := seg_words ⟨j, by omega⟩ f1 ⟨x.size, by omega⟩ f3
    simp only at this
    rw [f2] at this
    rcases this with h | h | h
    ·
     exact absurd h hs
    ·
     omega
    ·
     exact h
   ·
    intro h
    obtain ⟨h1, _, i, h3, h4⟩ := word_fits _ (List.contains_iff_mem.1 h)
    rw [hl] at h1 h3
    exact ⟨h1, i.val, Nat.zero_le _, h3, h4⟩
 rw [e] at h0
 exact h0
theorem vocab_split : (Spl.split vocabS).map (fun w => w.data.toList) = words := by decide +kernel
theorem isWord_is (s : ByteArray) : isWord s = words.contains s.data.toList := by
 unfold isWord
 rw [← vocab_split, Bool.eq_iff_iff, List.any_eq_true, List.contains_iff_mem, List.mem_map]
 constructor
 ·
  rintro ⟨w, hw, h⟩
  have := beq_iff_eq.1 h
  rw [Lib.toList_data, Lib.toList_data] at this
  exact ⟨w, hw, this⟩
 ·
  rintro ⟨w, hw, h⟩
  exact ⟨w, hw, by rw [beq_iff_eq, Lib.toList_data, Lib.toList_data, h]⟩
theorem nameB_size (s : ByteArray) (h : nameB s = true) : s.size ≤ 16 := by
 unfold nameB at h
 simp only [Bool.and_eq_true, decide_eq_true_eq] at h
 exact h.1.1.1.2
theorem name17 (s : ByteArray) : Ev (fun k => skerryref17_Name.f k s) (nameS s) := by
 have h1 : Ev (fun k => skerryref04_Name.f k s) (nameB s) := ⟨30, fun k hk => name_f k hk s⟩
 have h2 : Ev (fun k => if nameB s = true then (skerryref17_Word.f k s).bind fun t149 => some (!t149) else some false) (nameS s) := by
  unfold nameS
  cases hb : nameB s with
  | true =>
   rw [Bool.and_true, isWord_is]
   refine Ev.congr (f := fun k => (skerryref17_Word.f k s).bind fun t149 => some (!t149)) (fun k => if_pos rfl) (Ev.bind (word17 s (by have := nameB_size s hb; omega)) (Ev.now _))
  | false =>
   rw [Bool.and_false]
   exact Ev.congr (f := fun _ => some false) (fun k => if_neg (by decide)) (Ev.now _)
 exact Ev.congr (f := fun k => (skerryref04_Name.f k s).bind fun t148 => if t148 = true then (skerryref17_Word.f k s).bind fun t149 => some (!t149) else some false) (fun k => rfl) (Ev.bind h1 h2)
end Go.Proofs.YtdagddhccdchoaaDoor.Pl
