/- The document's words; a token; the next token: both read the same. -/
import Derived.Test.YtfaogccfiklinaaDoorKfLd
import Derived.Test.YtfaogccfiklinaaDoorKfQx13
import Derived.Test.YtfaogccfiklinaaDoorKfJ14
set_option linter.unusedVariables false
set_option linter.unusedSimpArgs false
namespace Go.Proofs.YtfaogccfiklinaaDoor.Pl
open Go.RowKit Go.Proofs.YtfaogccfiklinaaDoorW.PrintWords
open Go.Proofs.YtfaogccfiklinaaDoor.Q
theorem cb_get (s : ByteArray) (i : Nat) : cb s i = (s.data.toList.getD i 0).toNat := by
 unfold cb
 by_cases h : i < s.size
 ·
  rw [dif_pos h, List.getD_eq_getElem?_getD, List.getElem?_eq_getElem (by rw [Array.length_toList]; exact h)]
  rfl
 ·
  rw [dif_neg h, List.getD_eq_getElem?_getD, List.getElem?_eq_none (by rw [Array.length_toList]; exact Nat.le_of_not_lt h)]
  rfl
theorem u8_32 {c : UInt8} : c.toNat = 32 ↔ c = 32 := ⟨fun h => UInt8.toNat_inj.1 (by rw [h]; rfl), fun h => by rw [h]; rfl⟩
theorem WS_get (i : Nat) : cb WS i = (WSL.getD i 0).toNat := cb_get WS i
theorem WS_ext (a b : Nat) : (WS.extract a b).data.toList = (WSL.drop a).take (b - a) := by
 rw [ByteArray.data_extract, Array.toList_extract]
 rfl
theorem WS_fold : (⟨#[32, 99, 114, 101, 97, 116, 101, 32, 116, 97, 98, 108, 101, 32, 112, 114, 105, 109, 97, 114, 121, 32, 107, 101, 121, 32, 105, 110, 115, 101, 114, 116, 32, 105, 110, 116, 111, 32, 118, 97, 108, 117, 101, 115, 32, 117, 115, 105, 110, 103, 32, 116, 105, 109, 101, 115, 116, 97, 109, 112, 32, 99, 111, 110, 115, 105, 115, 116, 101, 110, 99, 121, 32, 117, 112, 100, 97, 116, 101, 32, 115, 101, 116, 32, 119, 104, 101, 114, 101, 32, 97, 110, 100, 32, 100, 101, 108, 101, 116, 101, 32, 102, 114, 111, 109, 32, 115, 101, 108, 101, 99, 116, 32, 108, 105, 109, 105, 116, 32, 111, 110, 101, 32, 113, 117, 111, 114, 117, 109, 32, 97, 108, 108, 32, 116, 101, 120, 116, 32, 105, 110, 116, 32]⟩ : ByteArray) = WS := rfl
theorem word_l1 (x : ByteArray) (hx : x.size ≤ 1000) (i : Nat) (hi : i ≤ 200) (k : Nat) : skerryref17_Word.l1 (k + 1) x (i : Int) =
  if i + x.size + 1 < 143 then (if fits x.data.toList i = true then some (decide (0 < x.size)) else skerryref17_Word.l1 k x ((i + 1 : Nat) : Int)) else some false := by
 have w1 : wrap64 ((i : Int) + 1) = ((i + 1 : Nat) : Int) := wr1 (by omega) 1 (by omega)
 have w2 : wrap64 ((i : Int) + (x.size : Int)) = ((i + x.size : Nat) : Int) := wr1 (by omega) _ hx
 have w3 : wrap64 (((i + x.size : Nat) : Int) + 1) = ((i + x.size + 1 : Nat) : Int) := wr1 (by omega) 1 (by omega)
 have w4 : wrap64 (((i + 1 : Nat) : Int) + (x.size : Int)) = ((i + 1 + x.size : Nat) : Int) := wr1 (by omega) _ hx
 have hl : x.data.toList.length = x.size := Array.length_toList
 rw [skerryref17_Word.l1, WS_fold, w2, w3]
 by_cases h : i + x.size + 1 < 143
 ·
  rw [if_pos (by omega), if_pos h, if_pos (by omega), if_pos (by omega), bt_cb, WS_get]
  unfold fits
  rw [hl]
  by_cases h1 : WSL.getD i 0 = 32
  ·
   rw [h1, if_pos (by rfl), w1, if_pos (by omega), w4, if_pos (by omega), if_pos (by omega), Int.toNat_natCast, Int.toNat_natCast]
   by_cases h2 : (WSL.drop (i + 1)).take x.size = x.data.toList
   ·
    have e2 : (WS.extract (i + 1) (i + 1 + x.size)).toList = x.toList := by rw [Lib.toList_data, Lib.toList_data, WS_ext, ← h2]; congr 1; omega
    rw [if_pos e2, if_pos (by omega), if_pos (by omega), bt_cb, WS_get]
    by_cases h3 : WSL.getD (i + 1 + x.size) 0 = 32
    ·
     rw [h3, if_pos (by rfl), h2]
     simp
    ·
     rw [if_neg (fun e => h3 (u8_32.1 (by omega))), h2, beq_eq_false_iff_ne.2 h3]
     simp
   ·
    have e2 : ¬ (WS.extract (i + 1) (i + 1 + x.size)).toList = x.toList := by
     rw [Lib.toList_data, Lib.toList_data, WS_ext]
     intro e
     apply h2
     rw [← e]; congr 1; omega
    rw [if_neg e2, beq_eq_false_iff_ne.2 h2]
    simp
  ·
   rw [if_neg (fun e => h1 (u8_32.1 (by omega))), w1, beq_eq_false_iff_ne.2 h1]
   simp
 ·
  rw [if_neg (by omega), if_neg h]
theorem word_find (x : ByteArray) (hx : x.size ≤ 1000) : ∀ (d i : Nat), i + d = 150 → ∃ b, Ev (fun k => skerryref17_Word.l1 k x (i : Int)) b ∧ (b = true ↔ 0 < x.size ∧ ∃ j, i ≤ j ∧ j + x.size + 1 < 143 ∧ fits x.data.toList j = true)  := by
 intro d
 induction d with
 | zero =>
  intro i h
  refine ⟨false, Ev.step (fun k => (word_l1 x hx i (by omega) k).trans (if_neg (by omega))) (Ev.now _), ?_⟩
  simp
  intro _ j h1 h2
  omega
 | succ d ih =>
  intro i h
  by_cases h1 : i + x.size + 1 < 143
  ·
   by_cases h2 : fits x.data.toList i = true
   ·
    refine ⟨decide (0 < x.size), Ev.step (fun k => by rw [word_l1 x hx i (by omega) k, if_pos h1, if_pos h2]) (Ev.now _), ?_⟩
    rw [decide_eq_true_eq]
    exact ⟨fun h3 => ⟨h3, i, Nat.le_refl _, h1, h2⟩, fun h3 => h3.1⟩
   ·
    obtain ⟨b, hb, hc⟩ := ih (i + 1) (by omega)
    refine ⟨b, Ev.step (fun k => by rw [word_l1 x hx i (by omega) k, if_pos h1, if_neg h2]) hb, hc.trans ⟨fun ⟨a1, j, a2, a3, a4⟩ => ⟨a1, j, by omega, a3, a4⟩, fun ⟨a1, j, a2, a3, a4⟩ => ⟨a1, j, ?_, a3, a4⟩⟩⟩
    rcases Nat.eq_or_lt_of_le a2 with e | e
    ·
     subst e; exact absurd a4 h2
    ·
     exact e
  ·
   refine ⟨false, Ev.step (fun k => (word_l1 x hx i (by omega) k).trans (if_neg h1)) (Ev.now _), ?_⟩
   simp
   intro _ j h3 h4
   omega
theorem word_l0 (x : ByteArray) (hx : x.size ≤ 1000) (b : Bool) (hb : Ev (fun k => skerryref17_Word.l1 k x 0) b) : ∀ (d i : Nat), i + d = x.size → Ev (fun k => skerryref17_Word.l0 k x (i : Int)) (if (x.data.toList.drop i).contains 32 = true then false else b) := by
 intro d
 induction d with
 | zero =>
  intro i h
  have : x.data.toList.drop i = [] := List.drop_eq_nil_of_le (by rw [Array.length_toList]; show x.size ≤ i; omega)
  rw [this]
  exact Ev.step (fun k => by rw [skerryref17_Word.l0, if_neg (by omega)]) hb
 | succ d ih =>
  intro i h
  have hl : x.data.toList.length = x.size := Array.length_toList
  have hd : x.data.toList.drop i = x.data.toList.getD i 0 :: x.data.toList.drop (i + 1) := by
   rw [List.drop_eq_getElem_cons (show i < x.data.toList.length by omega), List.getD_eq_getElem?_getD, List.getElem?_eq_getElem (show i < x.data.toList.length by omega)]
   rfl
  rw [hd]
  by_cases h1 : cb x i = 32
  ·
   have e : x.data.toList.getD i 0 = 32 := by rw [cb_get] at h1; exact u8_32.1 h1
   rw [if_pos (by rw [e]; simp)]
   exact Ev.step (fun k => by rw [skerryref17_Word.l0, if_pos (by omega), if_pos (by omega), bt_cb, if_pos (by omega)]) (Ev.now _)
  ·
   have e : (x.data.toList.getD i 0 :: x.data.toList.drop (i + 1)).contains 32 = (x.data.toList.drop (i + 1)).contains 32 := by
    rw [List.contains_cons]
    have : (32 == x.data.toList.getD i 0) = false := by
     rw [beq_eq_false_iff_ne]
     intro e2
     exact h1 (by rw [cb_get, ← e2]; rfl)
    rw [this, Bool.false_or]
   rw [e]
   exact Ev.step (fun k => by rw [skerryref17_Word.l0, if_pos (by omega), if_pos (by omega), bt_cb, if_neg (by omega), show ((i : Int) + 1) = (i : Int) + ((1 : Nat) : Int) from rfl, wr1 (by omega) 1 (by omega)]) (ih (i + 1) (by omega))
theorem word17 (x : ByteArray) (hx : x.size ≤ 1000) : Ev (fun k => skerryref17_Word.f k x) (words.contains x.data.toList) := by
 have hl : x.data.toList.length = x.size := Array.length_toList
 obtain ⟨b, hb, hc⟩ := word_find x hx 150 0 (by omega)
 have h0 := word_l0 x hx b hb x.size 0 (by omega)
 rw [List.drop_zero] at h0
 have e : (if x.data.toList.contains 32 = true then false else b) = words.contains x.data.toList := by
  by_cases hs : x.data.toList.contains 32 = true
  ·
   rw [if_pos hs]
   symm
   rw [Bool.eq_false_iff]
   intro h
   have := (word_fits _ (List.contains_iff_mem.1 h)).2.1
   rw [this] at hs
   cases hs
  ·
   rw [if_neg hs, Bool.eq_iff_iff, hc]
   constructor
   ·
    rintro ⟨h1, j, _, h3, h4⟩
    unfold fits at h4
    rw [Bool.and_eq_true, Bool.and_eq_true, beq_iff_eq, beq_iff_eq, beq_iff_eq, hl] at h4
    obtain ⟨f1, f2, f3⟩ := h4
    have := seg_words ⟨j, by omega⟩ f1 ⟨x.size, by omega⟩ f3
    simp only at this
    rw [f2] at this
    rcases this with h | h | h
    ·
     exact absurd h hs
    ·
     omega
    ·
     exact h
   ·
    intro h
    obtain ⟨h1, _, i, h3, h4⟩ := word_fits _ (List.contains_iff_mem.1 h)
    rw [hl] at h1 h3
    exact ⟨h1, i.val, Nat.zero_le _, h3, h4⟩
 rw [e] at h0
 exact h0
theorem size_mapB (g : Int → Int) (s : ByteArray) : (By.mapB g s).size = s.size := by
 unfold By.mapB
 rw [strOfNums_size, List.length_map, bytesOf_length]
theorem rWord (x : ByteArray) (hx : x.size ≤ 1000) : Ev (fun k => skerryref18_Word.f k x) (isWord x.data.toList) := by
 have h := word17 (By.mapB lowG x) (by rw [size_mapB]; exact hx)
 rw [low_list] at h
 refine Ev.congr (f := fun k => (skerryref17_Word.f k (By.mapB lowG x)).bind fun q => some q) (fun k => ?_) (Ev.bind h (Ev.now _))
 unfold skerryref18_Word.f skerryref18_Lower.f
 rw [if_pos (by omega), Option.bind_some]
def wEnd (s : ByteArray) (a : Nat) : Nat := fn wordc s a
def wTok (s : ByteArray) (a : Nat) : R8 :=
 if isWord (s.extract a (wEnd s a)).data.toList = true then (2, By.mapB upG (s.extract a (wEnd s a)), 0, 0, (⟨#[]⟩ : ByteArray), (a : Int), ((wEnd s a : Nat) : Int), (-1))
 else if nameB (By.mapB lowG (s.extract a (wEnd s a))) = true then (3, By.mapB lowG (s.extract a (wEnd s a)), 0, 0, (⟨#[]⟩ : ByteArray), (a : Int), ((wEnd s a : Nat) : Int), (-1)) else bad (a : Int)
theorem ext_ext (s : ByteArray) (a n : Nat) : (s.extract a s.size).extract 0 n = s.extract a (min (a + n) s.size) := by
 apply ByteArray.ext
 simp only [ByteArray.data_extract, Array.extract_extract]
 congr 1
theorem lex_word (s : ByteArray) (hs : s.size ≤ 1000) (a : Nat) (ha : a ≤ s.size) : lexer_cutter_word.f s (a : Int) = some (wTok s a) := by
 have h1 := fn_le wordc s a ha
 have h0 := fn_ge wordc s a
 have e : (s.extract a s.size).extract 0 (((fn wordc s a - a : Nat) : Int)).toNat = s.extract a (wEnd s a) := by
  rw [Int.toNat_natCast, ext_ext]
  congr 1
  unfold wEnd
  omega
 have hz : (s.extract a (wEnd s a)).size ≤ 9223372036854775807 := by rw [ByteArray.size_extract]; omega
 unfold lexer_cutter_word.f
 rw [lexer_cutter_run_46.f, run_fn (goes_word s) a ha hs, Option.bind_some, rest_f' s a ha, Option.bind_some, if_pos (by omega), if_pos (by rw [ByteArray.size_extract]; omega), e]
 unfold lexer_cutter_token.f lexer_Word.f lexer_cased.f key_Name.f
 rw [Option.bind_some, if_pos hz, Option.bind_some, if_pos hz, if_pos hz, Option.bind_some, Option.bind_some, Option.bind_some, wordB_is, casG_up, casG_low, wr1 (by omega) _ (by omega), show a + (fn wordc s a - a) = wEnd s a by unfold wEnd; omega]
 unfold wTok
 by_cases hw : isWord (s.extract a (wEnd s a)).data.toList = true
 ·
  rw [if_pos hw, if_pos hw]
 ·
  rw [if_neg hw, if_neg hw]
  by_cases hn : nameB (By.mapB lowG (s.extract a (wEnd s a))) = true
  ·
   rw [if_pos hn, if_pos hn]
  ·
   rw [if_neg hn, if_neg hn, wrong_f]
end Go.Proofs.YtfaogccfiklinaaDoor.Pl
