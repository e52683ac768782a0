/- The document's words; a token; the next token: both read the same. -/
import Derived.Test.YtfaogccfiklinaaDoorKeLd
import Derived.Test.YtfaogccfiklinaaDoorKeQx13
import Derived.Lib.SlBytesConst
import Derived.Test.YtfaogccfiklinaaDoorKeQx0
import Derived.Test.YtfaogccfiklinaaDoorKeJ12
set_option linter.unusedVariables false
set_option linter.unusedSimpArgs false
namespace Go.Proofs.YtfaogccfiklinaaDoor.Pl
open Go.RowKit Go.Proofs.YtfaogccfiklinaaDoorW.PrintWords
open Go.Proofs.YtfaogccfiklinaaDoor.Q
def wEnd (s : ByteArray) (a : Nat) : Nat := fn wordc s a
def wTok (s : ByteArray) (a : Nat) : R8 :=
 if isWord (s.extract a (wEnd s a)).data.toList = true then (2, By.mapB upG (s.extract a (wEnd s a)), 0, 0, (⟨#[]⟩ : ByteArray), (a : Int), ((wEnd s a : Nat) : Int), (-1))
 else if nameB (By.mapB lowG (s.extract a (wEnd s a))) = true then (3, By.mapB lowG (s.extract a (wEnd s a)), 0, 0, (⟨#[]⟩ : ByteArray), (a : Int), ((wEnd s a : Nat) : Int), (-1)) else bad (a : Int)
theorem ext_ext (s : ByteArray) (a n : Nat) : (s.extract a s.size).extract 0 n = s.extract a (min (a + n) s.size) := by
 apply ByteArray.ext
 simp only [ByteArray.data_extract, Array.extract_extract]
 congr 1
theorem lex_word (s : ByteArray) (hs : s.size ≤ 1000) (a : Nat) (ha : a ≤ s.size) : lexer_cutter_word.f s (a : Int) = some (wTok s a) := by
 have h1 := fn_le wordc s a ha
 have h0 := fn_ge wordc s a
 have e : (s.extract a s.size).extract 0 (((fn wordc s a - a : Nat) : Int)).toNat = s.extract a (wEnd s a) := by
  rw [Int.toNat_natCast, ext_ext]
  congr 1
  unfold wEnd
  omega
 have hz : (s.extract a (wEnd s a)).size ≤ 9223372036854775807 := by rw [ByteArray.size_extract]; omega
 unfold lexer_cutter_word.f
 rw [lexer_cutter_run_46.f, run_fn (goes_word s) a ha hs, Option.bind_some, rest_f' s a ha, Option.bind_some, if_pos (by omega), if_pos (by rw [ByteArray.size_extract]; omega), e]
 unfold lexer_cutter_token.f lexer_Word.f lexer_cased.f key_Name.f
 rw [Option.bind_some, if_pos hz, Option.bind_some, if_pos hz, if_pos hz, Option.bind_some, Option.bind_some, Option.bind_some, wordB_is, casG_up, casG_low, wr1 (by omega) _ (by omega), show a + (fn wordc s a - a) = wEnd s a by unfold wEnd; omega]
 unfold wTok
 by_cases hw : isWord (s.extract a (wEnd s a)).data.toList = true
 ·
  rw [if_pos hw, if_pos hw]
 ·
  rw [if_neg hw, if_neg hw]
  by_cases hn : nameB (By.mapB lowG (s.extract a (wEnd s a))) = true
  ·
   rw [if_pos hn, if_pos hn]
  ·
   rw [if_neg hn, if_neg hn, wrong_f]
end Go.Proofs.YtfaogccfiklinaaDoor.Pl
