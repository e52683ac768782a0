/- What stands behind blanks and notes: both come to it. Numbers, texts, words, signs. -/
import Derived.Test.YtfaogccfiklinaaDoorKeLa
import Derived.Lib.SlBytesConst
import Derived.Test.YtfaogccfiklinaaDoorKeQx0
import Derived.Test.YtfaogccfiklinaaDoorKeJ12
set_option linter.unusedVariables false
set_option linter.unusedSimpArgs false
namespace Go.Proofs.YtfaogccfiklinaaDoor.Pl
open Go.RowKit Go.Proofs.YtfaogccfiklinaaDoorW.PrintWords
open Go.Proofs.YtfaogccfiklinaaDoor.Q
theorem ext_get (s : ByteArray) (a b i : Nat) (hi : a + i < b) (hb : b ≤ s.size) : cb (s.extract a b) i = cb s (a + i) := by
 have h2 : i < (s.extract a b).size := by rw [ByteArray.size_extract]; omega
 unfold cb
 rw [dif_pos (show a + i < s.size by omega), dif_pos h2]
 congr 1
 exact ByteArray.getElem_extract h2
theorem ext_bytes {s t : ByteArray} (h1 : s.size = t.size) (h2 : ∀ i, i < s.size → cb s i = cb t i) : s = t := by
 apply ByteArray.ext
 apply Array.ext
 ·
  exact h1
 ·
  intro i a b
  have := h2 i a
  unfold cb at this
  rw [dif_pos (show i < s.size from a), dif_pos (show i < t.size from b)] at this
  exact UInt8.toNat_inj.1 this
theorem toList_inj {s t : ByteArray} : (s.toList == t.toList) = decide (s = t) := by
 rw [Bool.eq_iff_iff, beq_iff_eq, decide_eq_true_eq, Lib.toList_data, Lib.toList_data]
 constructor
 ·
  intro h
  apply ByteArray.ext
  exact Array.toList_inj.1 h
 ·
  intro h; rw [h]
theorem prefix_f (s : ByteArray) (a : Nat) (ha : a ≤ s.size) (x y : UInt8) (hx : x ≠ 0) (hy : y ≠ 0) : strings_HasPrefix.f (s.extract a s.size) ⟨#[x, y]⟩ = some (decide (cb s a = x.toNat ∧ cb s (a + 1) = y.toNat)) := by
 have nz : ∀ z : UInt8, z ≠ 0 → z.toNat ≠ 0 := fun z hz e => hz (UInt8.toNat_inj.1 (by rw [e]; rfl))
 unfold strings_HasPrefix.f stringslite_HasPrefix.f
 have h2 : (⟨#[x, y]⟩ : ByteArray).size = 2 := rfl
 rw [h2, ByteArray.size_extract]
 by_cases h : a + 2 ≤ s.size
 ·
  rw [if_pos (by omega), if_pos (by omega), if_pos (by omega), Option.bind_some]
  congr 1
  rw [toList_inj]
  congr 1
  have e2 : ((2 : Nat) : Int).toNat = 2 := rfl
  rw [e2]
  have hsz : ((s.extract a s.size).extract 0 2).size = 2 := by rw [ByteArray.size_extract, ByteArray.size_extract]; omega
  have g0 : cb ((s.extract a s.size).extract 0 2) 0 = cb s a := by rw [ext_get _ 0 2 0 (by omega) (by rw [ByteArray.size_extract]; omega), Nat.zero_add, get_ext, Nat.add_zero]
  have g1 : cb ((s.extract a s.size).extract 0 2) 1 = cb s (a + 1) := by rw [ext_get _ 0 2 1 (by omega) (by rw [ByteArray.size_extract]; omega), Nat.zero_add, get_ext]
  apply propext
  constructor
  ·
   intro e
   rw [← g0, ← g1, e]
   exact ⟨rfl, rfl⟩
  ·
   rintro ⟨e0, e1⟩
   refine ext_bytes (hsz.trans h2.symm) (fun i hi => ?_)
   rw [hsz] at hi
   rcases (by omega : i = 0 ∨ i = 1) with rfl | rfl
   ·
    rw [g0, e0]; rfl
   ·
    rw [g1, e1]; rfl
 ·
  rw [if_neg (by omega), Option.bind_some]
  congr 1
  symm
  apply decide_eq_false
  rintro ⟨e0, e1⟩
  have := cb_in (s := s) (i := a + 1) (by rw [e1]; exact nz y hy)
  omega
theorem blank_round (s : ByteArray) (hs : s.size ≤ 1000) (i : Nat) (hi : i ≤ s.size) (k : Nat) : lexer_cutter_blank.l0 (k + 1) s (i : Int) =
  if cb s (fn blankB s i) = 45 ∧ cb s (fn blankB s i + 1) = 45 then lexer_cutter_blank.l0 k s ((fn noteB s (fn blankB s i) : Nat) : Int) else some (s, ((fn blankB s i : Nat) : Int)) := by
 have h1 := fn_le blankB s i hi
 have h0 := fn_ge blankB s i
 have h3 := fn_le noteB s _ h1
 have h4 := fn_ge noteB s (fn blankB s i)
 rw [lexer_cutter_blank.l0, lexer_cutter_run_26.f, run_fn (goes_blank s) i hi hs, Option.bind_some, wr1 (by omega) _ (by omega), show i + (fn blankB s i - i) = fn blankB s i by omega, rest_f' s _ h1, Option.bind_some, prefix_f s _ h1 45 45 (by decide) (by decide), Option.bind_some, show UInt8.toNat 45 = 45 from rfl]
 by_cases h : cb s (fn blankB s i) = 45 ∧ cb s (fn blankB s i + 1) = 45
 ·
  rw [if_pos h, if_pos (decide_eq_true h), lexer_cutter_run_28.f, run_fn (goes_note s) _ h1 hs, Option.bind_some, wr1 (by omega) _ (by omega), show fn blankB s i + (fn noteB s (fn blankB s i) - fn blankB s i) = fn noteB s (fn blankB s i) by omega]
 ·
  rw [if_neg h, if_neg (by rw [decide_eq_true_eq]; exact h)]
theorem blank_ev {s : ByteArray} (hs : s.size ≤ 1000) {i j : Nat} (h : Sk s i j) (hi : i ≤ s.size) : Ev (fun k => lexer_cutter_blank.l0 k s (i : Int)) (s, (j : Int)) := by
 induction h with
 | @blank i j h1 h2 _ ih =>
  obtain ⟨K, hK⟩ := ih (by omega)
  refine ⟨K + 1, fun k hk => ?_⟩
  obtain ⟨k, rfl⟩ : ∃ m, k = m + 1 := ⟨k - 1, by omega⟩
  have := hK (k + 1) (by omega)
  simp only at this ⊢
  rw [blank_round s hs i hi k, fn_yes h1 h2, ← blank_round s hs (i + 1) (by omega) k]
  exact this
 | @note i j h1 h2 _ ih =>
  have e : fn blankB s i = i := fn_no (fun _ => by rw [h1]; rfl)
  refine Ev.step (f := fun k => lexer_cutter_blank.l0 k s ((fn noteB s i : Nat) : Int)) (fun k => ?_) (ih (fn_le _ _ _ hi))
  rw [blank_round s hs i hi k, e, if_pos ⟨h1, h2⟩]
 | @stop i h1 h2 =>
  have e : fn blankB s i = i := fn_no h1
  refine ⟨1, fun k hk => ?_⟩
  obtain ⟨k, rfl⟩ : ∃ m, k = m + 1 := ⟨k - 1, by omega⟩
  simp only
  rw [blank_round s hs i hi k, e, if_neg h2]
end Go.Proofs.YtfaogccfiklinaaDoor.Pl
