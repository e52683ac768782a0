/- What stands behind blanks and notes: both come to it. Numbers, texts, words, signs. -/
import Derived.Test.YtfaogccfiklinaaDoorKfLa
import Derived.Test.YtfaogccfiklinaaDoorKfJ14
set_option linter.unusedVariables false
set_option linter.unusedSimpArgs false
namespace Go.Proofs.YtfaogccfiklinaaDoor.Pl
open Go.RowKit Go.Proofs.YtfaogccfiklinaaDoorW.PrintWords
open Go.Proofs.YtfaogccfiklinaaDoor.Q
theorem skip_l0 (s : ByteArray) (hs : s.size ≤ 1000) (i : Nat) (hi : i < s.size) (k : Nat) : skerryref18_skip.l0 (k + 1) s (i : Int) = skerryref18_skip.j1 k s (i : Int) (cb s i : Int) (blankB (cb s i)) := by
 rw [skerryref18_skip.l0, if_pos (by omega), if_pos (by omega), bt_cb]
 unfold blankB
 by_cases h1 : cb s i = 32
 ·
  rw [if_pos (by omega), h1]; rfl
 rw [if_neg (by omega)]
 by_cases h2 : cb s i = 9
 ·
  rw [if_pos (by omega), h2]; rfl
 rw [if_neg (by omega)]
 by_cases h3 : cb s i = 10
 ·
  rw [if_pos (by omega), h3]; rfl
 rw [if_neg (by omega)]
 have e1 : (cb s i == 32) = false := by simpa using h1
 have e2 : (cb s i == 9) = false := by simpa using h2
 have e3 : (cb s i == 10) = false := by simpa using h3
 rw [e1, e2, e3]
 have e4 : ((cb s i : Int) == 13) = (cb s i == 13) := by
  by_cases h : cb s i = 13
  ·
   rw [h]; rfl
  ·
   rw [beq_eq_false_iff_ne.2 h, beq_eq_false_iff_ne.2 (by omega)]
 rw [e4]
 rfl
theorem skip_end (s : ByteArray) (i : Nat) (hi : s.size ≤ i) (k : Nat) : skerryref18_skip.l0 (k + 1) s (i : Int) = some (i : Int) := by
 rw [skerryref18_skip.l0, if_neg (by omega)]
theorem skip_l1 (s : ByteArray) (hs : s.size ≤ 1000) (r : Int) : ∀ (d i : Nat), s.size ≤ d + i → i ≤ s.size → Ev (fun k => skerryref18_skip.l0 k s ((fn noteB s i : Nat) : Int)) r → Ev (fun k => skerryref18_skip.l1 k s (i : Int)) r := by
 intro d
 induction d with
 | zero =>
  intro i h hi he
  rw [fn_no (fun h2 => by omega)] at he
  exact Ev.step (fun k => by rw [skerryref18_skip.l1, if_neg (by omega)]) he
 | succ d ih =>
  intro i h hi he
  by_cases hlt : i < s.size
  ·
   by_cases h10 : cb s i = 10
   ·
    rw [fn_no (fun _ => by rw [h10]; rfl)] at he
    exact Ev.step (fun k => by rw [skerryref18_skip.l1, if_pos (by omega), if_pos (by omega), bt_cb, if_pos (by omega)]) he
   ·
    rw [fn_yes hlt (by simp [noteB, h10])] at he
    refine Ev.step (f := fun k => skerryref18_skip.l1 k s ((i + 1 : Nat) : Int)) (fun k => ?_) (ih (i + 1) (by omega) (by omega) he)
    rw [skerryref18_skip.l1, if_pos (by omega), if_pos (by omega), bt_cb, if_neg (by omega), show ((i : Int) + 1) = (i : Int) + ((1 : Nat) : Int) from rfl, wr1 (by omega) 1 (by omega)]
  ·
   rw [fn_no (fun h2 => by omega)] at he
   exact Ev.step (fun k => by rw [skerryref18_skip.l1, if_neg (by omega)]) he
theorem skip_stop (s : ByteArray) (hs : s.size ≤ 1000) (i : Nat) (hi : i < s.size) (hn : ¬ (cb s i = 45 ∧ cb s (i + 1) = 45)) : Ev (fun k => skerryref18_skip.j1 k s (i : Int) (cb s i : Int) false) (i : Int) := by
 refine ⟨2, fun k hk => ?_⟩
 obtain ⟨k, rfl⟩ : ∃ m, k = m + 2 := ⟨k - 2, by omega⟩
 show skerryref18_skip.j1 (k + 1 + 1) _ _ _ _ = _
 rw [skerryref18_skip.j1, if_neg (by simp)]
 by_cases h1 : cb s i = 45
 ·
  rw [if_pos (by omega)]
  rw [show ((i : Int) + 1) = (i : Int) + ((1 : Nat) : Int) from rfl, wr1 (by omega) 1 (by omega)]
  by_cases h2 : (s.size : Int) ≤ ((i + 1 : Nat) : Int)
  ·
   rw [if_pos h2, skerryref18_skip.j2, if_pos rfl]
  ·
   rw [if_neg (by omega), if_pos (by omega), if_pos (by omega), bt_cb]
   have : ((cb s (i + 1) : Int) != 45) = true := by rw [bne_iff_ne]; omega
   rw [this, skerryref18_skip.j2, if_pos rfl]
 ·
  rw [if_neg (by omega), skerryref18_skip.j2, if_pos rfl]
theorem ref_skip {s : ByteArray} (hs : s.size ≤ 1000) {i j : Nat} (h : Sk s i j) (hi : i ≤ s.size) : Ev (fun k => skerryref18_skip.l0 k s (i : Int)) (j : Int) := by
 induction h with
 | @blank i j h1 h2 _ ih =>
  refine Ev.step (fun k => skip_l0 s hs i h1 k) ?_
  rw [h2]
  refine Ev.step (f := fun k => skerryref18_skip.l0 k s ((i + 1 : Nat) : Int)) (fun k => ?_) (ih (by omega))
  rw [skerryref18_skip.j1, if_pos rfl, show ((i : Int) + 1) = (i : Int) + ((1 : Nat) : Int) from rfl, wr1 (by omega) 1 (by omega)]
 | @note i j h1 h2 _ ih =>
  have hlt := cb_in (s := s) (i := i) (by omega)
  have hlt2 := cb_in (s := s) (i := i + 1) (by omega)
  refine Ev.step (fun k => skip_l0 s hs i hlt k) ?_
  have hb : blankB (cb s i) = false := by rw [h1]; rfl
  rw [hb]
  refine Ev.step (f := fun k => skerryref18_skip.j2 k s (i : Int) false) (fun k => ?_) (Ev.step (f := fun k => skerryref18_skip.l1 k s (i : Int)) (fun k => ?_) (skip_l1 s hs _ s.size i (by omega) hi (ih (fn_le _ _ _ hi))))
  ·
   rw [skerryref18_skip.j1, if_neg (by simp), if_pos (by omega), show ((i : Int) + 1) = (i : Int) + ((1 : Nat) : Int) from rfl, wr1 (by omega) 1 (by omega), if_neg (by omega), if_pos (by omega), if_pos (by omega), bt_cb, h2]
   rfl
  ·
   rw [skerryref18_skip.j2, if_neg (by simp)]
 | @stop i h1 h2 =>
  by_cases hlt : i < s.size
  ·
   refine Ev.step (fun k => skip_l0 s hs i hlt k) ?_
   rw [h1 hlt]
   exact skip_stop s hs i hlt h2
  ·
   exact ⟨1, fun k hk => by obtain ⟨k, rfl⟩ : ∃ m, k = m + 1 := ⟨k - 1, by omega⟩; exact skip_end s i (by omega) k⟩
theorem ext_get (s : ByteArray) (a b i : Nat) (hi : a + i < b) (hb : b ≤ s.size) : cb (s.extract a b) i = cb s (a + i) := by
 have h2 : i < (s.extract a b).size := by rw [ByteArray.size_extract]; omega
 unfold cb
 rw [dif_pos (show a + i < s.size by omega), dif_pos h2]
 congr 1
 exact ByteArray.getElem_extract h2
theorem ext_bytes {s t : ByteArray} (h1 : s.size = t.size) (h2 : ∀ i, i < s.size → cb s i = cb t i) : s = t := by
 apply ByteArray.ext
 apply Array.ext
 ·
  exact h1
 ·
  intro i a b
  have := h2 i a
  unfold cb at this
  rw [dif_pos (show i < s.size from a), dif_pos (show i < t.size from b)] at this
  exact UInt8.toNat_inj.1 this
theorem toList_inj {s t : ByteArray} : (s.toList == t.toList) = decide (s = t) := by
 rw [Bool.eq_iff_iff, beq_iff_eq, decide_eq_true_eq, Lib.toList_data, Lib.toList_data]
 constructor
 ·
  intro h
  apply ByteArray.ext
  exact Array.toList_inj.1 h
 ·
  intro h; rw [h]
theorem prefix_f (s : ByteArray) (a : Nat) (ha : a ≤ s.size) (x y : UInt8) (hx : x ≠ 0) (hy : y ≠ 0) : strings_HasPrefix.f (s.extract a s.size) ⟨#[x, y]⟩ = some (decide (cb s a = x.toNat ∧ cb s (a + 1) = y.toNat)) := by
 have nz : ∀ z : UInt8, z ≠ 0 → z.toNat ≠ 0 := fun z hz e => hz (UInt8.toNat_inj.1 (by rw [e]; rfl))
 unfold strings_HasPrefix.f stringslite_HasPrefix.f
 have h2 : (⟨#[x, y]⟩ : ByteArray).size = 2 := rfl
 rw [h2, ByteArray.size_extract]
 by_cases h : a + 2 ≤ s.size
 ·
  rw [if_pos (by omega), if_pos (by omega), if_pos (by omega), Option.bind_some]
  congr 1
  rw [toList_inj]
  congr 1
  have e2 : ((2 : Nat) : Int).toNat = 2 := rfl
  rw [e2]
  have hsz : ((s.extract a s.size).extract 0 2).size = 2 := by rw [ByteArray.size_extract, ByteArray.size_extract]; omega
  have g0 : cb ((s.extract a s.size).extract 0 2) 0 = cb s a := by rw [ext_get _ 0 2 0 (by omega) (by rw [ByteArray.size_extract]; omega), Nat.zero_add, get_ext, Nat.add_zero]
  have g1 : cb ((s.extract a s.size).extract 0 2) 1 = cb s (a + 1) := by rw [ext_get _ 0 2 1 (by omega) (by rw [ByteArray.size_extract]; omega), Nat.zero_add, get_ext]
  apply propext
  constructor
  ·
   intro e
   rw [← g0, ← g1, e]
   exact ⟨rfl, rfl⟩
  ·
   rintro ⟨e0, e1⟩
   refine ext_bytes (hsz.trans h2.symm) (fun i hi => ?_)
   rw [hsz] at hi
   rcases (by omega : i = 0 ∨ i = 1) with rfl | rfl
   ·
    rw [g0, e0]; rfl
   ·
    rw [g1, e1]; rfl
 ·
  rw [if_neg (by omega), Option.bind_some]
  congr 1
  symm
  apply decide_eq_false
  rintro ⟨e0, e1⟩
  have := cb_in (s := s) (i := a + 1) (by rw [e1]; exact nz y hy)
  omega
theorem blank_round (s : ByteArray) (hs : s.size ≤ 1000) (i : Nat) (hi : i ≤ s.size) (k : Nat) : lexer_cutter_blank.l0 (k + 1) s (i : Int) =
  if cb s (fn blankB s i) = 45 ∧ cb s (fn blankB s i + 1) = 45 then lexer_cutter_blank.l0 k s ((fn noteB s (fn blankB s i) : Nat) : Int) else some (s, ((fn blankB s i : Nat) : Int)) := by
 have h1 := fn_le blankB s i hi
 have h0 := fn_ge blankB s i
 have h3 := fn_le noteB s _ h1
 have h4 := fn_ge noteB s (fn blankB s i)
 rw [lexer_cutter_blank.l0, lexer_cutter_run_26.f, run_fn (goes_blank s) i hi hs, Option.bind_some, wr1 (by omega) _ (by omega), show i + (fn blankB s i - i) = fn blankB s i by omega, rest_f' s _ h1, Option.bind_some, prefix_f s _ h1 45 45 (by decide) (by decide), Option.bind_some, show UInt8.toNat 45 = 45 from rfl]
 by_cases h : cb s (fn blankB s i) = 45 ∧ cb s (fn blankB s i + 1) = 45
 ·
  rw [if_pos h, if_pos (decide_eq_true h), lexer_cutter_run_28.f, run_fn (goes_note s) _ h1 hs, Option.bind_some, wr1 (by omega) _ (by omega), show fn blankB s i + (fn noteB s (fn blankB s i) - fn blankB s i) = fn noteB s (fn blankB s i) by omega]
 ·
  rw [if_neg h, if_neg (by rw [decide_eq_true_eq]; exact h)]
theorem blank_ev {s : ByteArray} (hs : s.size ≤ 1000) {i j : Nat} (h : Sk s i j) (hi : i ≤ s.size) : Ev (fun k => lexer_cutter_blank.l0 k s (i : Int)) (s, (j : Int)) := by
 induction h with
 | @blank i j h1 h2 _ ih =>
  obtain ⟨K, hK⟩ := ih (by omega)
  refine ⟨K + 1, fun k hk => ?_⟩
  obtain ⟨k, rfl⟩ : ∃ m, k = m + 1 := ⟨k - 1, by omega⟩
  have := hK (k + 1) (by omega)
  simp only at this ⊢
  rw [blank_round s hs i hi k, fn_yes h1 h2, ← blank_round s hs (i + 1) (by omega) k]
  exact this
 | @note i j h1 h2 _ ih =>
  have e : fn blankB s i = i := fn_no (fun _ => by rw [h1]; rfl)
  refine Ev.step (f := fun k => lexer_cutter_blank.l0 k s ((fn noteB s i : Nat) : Int)) (fun k => ?_) (ih (fn_le _ _ _ hi))
  rw [blank_round s hs i hi k, e, if_pos ⟨h1, h2⟩]
 | @stop i h1 h2 =>
  have e : fn blankB s i = i := fn_no h1
  refine ⟨1, fun k hk => ?_⟩
  obtain ⟨k, rfl⟩ : ∃ m, k = m + 1 := ⟨k - 1, by omega⟩
  simp only
  rw [blank_round s hs i hi k, e, if_neg h2]
end Go.Proofs.YtfaogccfiklinaaDoor.Pl
