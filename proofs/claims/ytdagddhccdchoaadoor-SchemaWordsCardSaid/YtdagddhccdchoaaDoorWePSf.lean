/- Facts about names for SchemaWords: plain. -/
import Derived.Test.YtdagddhccdchoaaDoorWePSa
import Derived.KernelRfl
set_option linter.unusedVariables false
set_option linter.unusedSimpArgs false
namespace Go.Proofs.YtdagddhccdchoaaDoor.Pl
open Go.RowKit Go.Proofs.YtdagddhccdchoaaDoorW.PrintWords
open Go.Proofs.YtdagddhccdchoaaDoor.Q
def nm (s : ByteArray) : Bool := decide (1 ≤ s.size) && decide (s.size ≤ 16) && decide (97 ≤ cb s 0) && decide (cb s 0 ≤ 122) && okFrom s s.size 0
theorem nameB_nm (s : ByteArray) : nameB s = nm s := by
 unfold nameB nm
 have h := idx_ok s s.size 0 (by omega)
 have e0 : bt s 0 = (cb s 0 : Int) := bt_cb s 0
 have e1 : decide (Lib.idxFunc badRune true s < 0) = okFrom s s.size 0 := by
  cases hb : okFrom s s.size 0 with
  | true => exact decide_eq_true (h.2 hb)
  | false => exact decide_eq_false (fun h2 => by rw [h.1 h2] at hb; cases hb)
 rw [e0, e1]
 have e2 : decide ((97 : Int) ≤ (cb s 0 : Int)) = decide (97 ≤ cb s 0) := decide_eq_decide.2 (by omega)
 have e3 : decide ((cb s 0 : Int) ≤ 122) = decide (cb s 0 ≤ 122) := decide_eq_decide.2 (by omega)
 rw [e2, e3]
theorem okFrom_all (s : ByteArray) : ∀ f pos, s.size ≤ f + pos → (okFrom s f pos = true ↔ ∀ i, pos ≤ i → i < s.size → okByte (cb s i) = true)
 | 0, pos, h => ⟨fun _ i h1 h2 => by omega, fun _ => rfl⟩
 | f + 1, pos, h => by
  unfold okFrom
  by_cases hp : pos < s.size
  ·
   rw [if_pos hp, Bool.and_eq_true, okFrom_all s f (pos + 1) (by omega)]
   constructor
   ·
    rintro ⟨h1, h2⟩ i hi hs
    rcases Nat.eq_or_lt_of_le hi with rfl | hl
    ·
     exact h1
    ·
     exact h2 i hl hs
   ·
    exact fun h1 => ⟨h1 pos (Nat.le_refl _) hp, fun i hi hs => h1 i (by omega) hs⟩
  ·
   rw [if_neg hp]; exact ⟨fun _ i h1 h2 => by omega, fun _ => rfl⟩
theorem nameS_is (s : ByteArray) : nameS s = (!words.contains s.data.toList && nm s) := by unfold nameS; rw [isWord_is, nameB_nm]
theorem upper_no (s : ByteArray) (i : Nat) (hi : i < s.size) (h1 : 65 ≤ bt s (i : Int)) (h2 : bt s (i : Int) ≤ 90) : nameS s = false := by
 cases hn : nameS s with
 | false => rfl
 | true =>
  rw [nameS_is, Bool.and_eq_true] at hn
  have hm := hn.2
  unfold nm at hm
  simp only [Bool.and_eq_true] at hm
  have := (okFrom_all s s.size 0 (by omega)).1 hm.2 i (Nat.zero_le _) hi
  rw [okB] at this
  rw [bt_cb] at h1 h2
  omega
theorem words_nine : ∀ w ∈ words, w.getLast? ≠ some 57 := by decide +kernel
theorem nine_ok (s : ByteArray) (h : nameS s = true) (h16 : s.size ≠ 16) : nameS (s ++ ⟨#[57]⟩) = true := by
 have hd : (s ++ ⟨#[57]⟩ : ByteArray).data.toList = s.data.toList ++ [57] := by simp
 have hs : (s ++ ⟨#[57]⟩ : ByteArray).size = s.size + 1 := by simp; rfl
 rw [nameS_is, Bool.and_eq_true] at h ⊢
 have hm := h.2
 unfold nm at hm
 simp only [Bool.and_eq_true, decide_eq_true_eq] at hm
 obtain ⟨⟨⟨⟨m1, m2⟩, m3⟩, m4⟩, m5⟩ := hm
 have hcb : ∀ i, cb (s ++ ⟨#[57]⟩) i = if i < s.size then cb s i else if i = s.size then 57 else 0 := fun i => by
  rw [cb_get, hd, cb_get, List.getD_eq_getElem?_getD, List.getD_eq_getElem?_getD]
  have hl : s.data.toList.length = s.size := by simp
  by_cases h1 : i < s.size
  ·
   rw [if_pos h1, List.getElem?_append_left (by omega)]
  ·
   rw [if_neg h1, List.getElem?_append_right (by omega), hl]
   by_cases h2 : i = s.size
   ·
    rw [if_pos h2, h2, Nat.sub_self]; rfl
   ·
    rw [if_neg h2, List.getElem?_eq_none (by simp; omega)]; rfl
 constructor
 ·
  cases hc : words.contains (s ++ ⟨#[57]⟩ : ByteArray).data.toList with
  | false => rfl
  | true =>
   rw [hd, List.contains_iff_mem] at hc
   exact absurd (by simp) (words_nine _ hc)
 ·
  unfold nm
  simp only [Bool.and_eq_true, decide_eq_true_eq]
  have h0 : cb (s ++ ⟨#[57]⟩) 0 = cb s 0 := by rw [hcb, if_pos (by omega)]
  refine ⟨⟨⟨⟨by omega, by omega⟩, by rw [h0]; exact m3⟩, by rw [h0]; exact m4⟩, (okFrom_all _ _ 0 (by omega)).2 fun i _ hi => ?_⟩
  rw [hcb]
  by_cases h1 : i < s.size
  ·
   rw [if_pos h1]; exact (okFrom_all s s.size 0 (by omega)).1 m5 i (Nat.zero_le _) h1
  ·
   rw [if_neg h1, if_pos (by omega)]; rfl
theorem last_ok (s : ByteArray) : nameS s = false ∨ s.size = 16 ∨ nameS (s ++ ⟨#[57]⟩) = true := by
 cases h : nameS s with
 | false => exact .inl rfl
 | true =>
  by_cases h2 : s.size = 16
  ·
   exact .inr (.inl h2)
  ·
   exact .inr (.inr (nine_ok s h h2))
def lawWords : List ByteArray := (words.map fun w => (⟨w.toArray⟩ : ByteArray)) ++ [⟨#[]⟩, ⟨#[115, 101, 108, 101, 99, 116]⟩]
theorem lawWords_ok : ∀ w ∈ lawWords, nameS w = false ∧ nameS (w ++ ⟨#[122]⟩) = true := by
 intro w hw
 have hb : lawWords.all (fun w => !(!words.contains w.data.toList && nm w) && (!words.contains (w ++ ⟨#[122]⟩ : ByteArray).data.toList && nm (w ++ ⟨#[122]⟩))) = true := by decide +kernel
 have := List.all_eq_true.1 hb w hw
 rw [Bool.and_eq_true] at this
 rw [nameS_is, nameS_is]
 exact ⟨by have h1 := this.1; rwa [Bool.not_eq_true'] at h1, this.2⟩
end Go.Proofs.YtdagddhccdchoaaDoor.Pl
