/- The document's example, and TreeDiffs: the tree above any hashes, and where any two trees differ. -/
import Derived.Test.YtafhnjlihhfoaaaUbQx46
import Derived.Test.YtafhnjlihhfoaaaUbJ45
namespace Go.Proofs.Ytafhnjlihhfoaaa.Pl
open Go Go.RowKit Go.Proofs.YtafhnjlihhfoaaaW.PrintWords Go.Proofs.YtafhnjlihhfoaaaW.PrintMore Go.Proofs.Ytafhnjlihhfoaaa.Q Go.Proofs.Ytafhnjlihhfoaaa.Mur Go.Proofs.Ytafhnjlihhfoaaa.Ord Go.Proofs.Ytafhnjlihhfoaaa.Nm
set_option linter.unusedVariables false
set_option linter.unusedSimpArgs false
def c0 : Cl := ⟨⟨(⟨#[116]⟩ : ByteArray), (⟨#[120]⟩ : ByteArray), 0, (⟨#[]⟩ : ByteArray)⟩, ⟨0, false, 0, ⟨0, 0, (⟨#[]⟩ : ByteArray)⟩⟩⟩
theorem dig0 : digN [c0] ≠ 0 := by decide +kernel
theorem sm0 : Sm [c0] := ⟨by simp, fun c hc => by rw [List.mem_singleton.1 hc]; decide, fun c hc => by rw [List.mem_singleton.1 hc]; refine ⟨?_, ?_, ?_, ?_⟩ <;> (unfold okI; decide)⟩
theorem leaves0 : leavesC [c0] 0 = [digN [c0]] := by
 obtain ⟨b, hb, hb2⟩ := bk_nat 0 (by omega) c0
 obtain rfl : b = 0 := by simpa using hb2
 have e : inB 0 0 (normC [c0]) = [c0] := by
  show inB 0 0 [c0] = [c0]
  unfold inB
  rw [List.filter_cons, if_pos (by simpa using hb)]
  rfl
 show [hashB (inB 0 0 (normC [c0]))] = _
 rw [e]
 rfl
theorem build_one (x : Int) : buildL [x] = [0, x] := rfl
theorem okUp_self (a : List Int) : ∀ h k, okUp a a h k = false
 | 0, k => by simp [okUp, dfr]
 | h + 1, k => by simp [okUp, dfr]
theorem diffL_self (a : List Int) : diffL a a = [] := by
 unfold diffL
 split
 ·
  simp [okUp_self]
 ·
  rfl
theorem lives_f (k : Nat) (hk : 100030000 ≤ k) : skerrylaw22_lives.f k = some true := by
 have d0 : depN 0 = 0 := by decide
 have hl := leaves_f [c0] sm0 0 k (by omega)
 rw [d0, leaves0] at hl
 have hdg := (sm0.dig k (by omega)).1
 have hne := dig0
 have e2 : diffL [0, digN [c0]] [0, 0] = [0] := by
  generalize digN [c0] = x at *
  have e3 : okUp [0, x] [0, 0] 0 1 = true := by
   unfold okUp dfr
   exact decide_eq_true hne
  rw [diffL_two 0 (by omega) rfl rfl]
  show ((List.range 1).filter fun j => okUp [0, x] [0, 0] 0 (1 + j)).map _ = _
  rw [show List.range 1 = [0] from rfl, List.filter_cons, if_pos e3]
  rfl
 show ((tree_Leaves.f k [c0] 0).bind fun t324 => _) = _
 rw [hl, Option.bind_some, build_f, build_one, Option.bind_some]
 simp only [List.length_cons, List.length_nil]
 rw [if_pos (by rfl), if_pos (by decide)]
 show ((cell_Digest.f k [c0]).bind fun t331 => _) = _
 rw [hdg, Option.bind_some]
 have er : rd [digN [c0]] 0 = digN [c0] := rfl
 rw [er, if_pos rfl, words_self _ (by simp) k (by simp; omega), Option.bind_some, if_pos rfl, diff_f, diffL_self, Option.bind_some, if_pos (by rfl), diff_f, e2, Option.bind_some]
 rfl
end Go.Proofs.Ytafhnjlihhfoaaa.Pl
