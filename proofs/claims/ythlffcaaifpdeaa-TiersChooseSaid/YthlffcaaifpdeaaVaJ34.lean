/- TiersChoose, plain. -/
import Derived.Test.YthlffcaaifpdeaaVaQx15
import Derived.Test.YthlffcaaifpdeaaVaPTa
set_option linter.unusedVariables false
set_option linter.unusedSimpArgs false
namespace Go.Proofs.Ythlffcaaifpdeaa.Pl
open Go.RowKit Go.Proofs.Ythlffcaaifpdeaa.Q Go.Proofs.YthlffcaaifpdeaaW.PrintWords Go.Proofs.YthlffcaaifpdeaaW.PrintLast Go.Proofs.Ythlffcaaifpdeaa.Srt Go.Proofs.Ythlffcaaifpdeaa.Ord
theorem rd_row (bs : List (List Int)) (i : Nat) (hi : i < bs.length) : rd_L1 bs (i : Int) = bs[i] := by unfold rd_L1; rw [Int.toNat_natCast, List.getD_eq_getElem?_getD, List.getElem?_eq_getElem hi]; rfl
theorem choose_end (l : List Int) (m : Int) (hl : l.length ≤ 500) (k : Nat) (hk : 1000 < k) : ((tiers_Choose.f l m).bind fun t254 => (skerryref12_Choose.f l m).bind fun t257 => (skerryref01_Ints.f k t254 t257).bind fun t260 => if t260 = true then (skerrylaw12_lives.f k).bind fun t261 => some t261 else none) = some true := by
 rw [choose_f l m (by omega), rchoose_f l m (by omega), Option.bind_some, Option.bind_some]
 have h := pick_tells (mx m 2) (by unfold mx; split <;> omega) (bks l)
 have hs : (pick (mx m 2) (bks l)).length ≤ 500 := by
  rcases h.1 with e | e
  ·
   rw [e]; simp
  ·
   have := bks_short l _ e.1; omega
 rw [ints_self _ (by omega) k (by omega), Option.bind_some, if_pos rfl, lives k (by omega)]; rfl
theorem choose_l0 (l : List Int) (m : Int) (hl : l.length ≤ 500) : ∀ (d i k : Nat), i + d = (bks l).length → d + 1001 < k → skerrylaw12_TiersChoose.l0 k l m (bks l) (bks l) ((bks l).length : Int) (i : Int) = some true
 | d, i, 0, _, h => by omega
 | 0, i, k + 1, hd, hk => by
  rw [skerrylaw12_TiersChoose.l0, if_neg (by omega)]
  exact choose_end l m hl k (by omega)
 | d + 1, i, k + 1, hd, hk => by
  have hi : i < (bks l).length := by omega
  have hc := bks_count l
  have hs := bks_short l _ (List.getElem_mem hi)
  have e3 : wrap64 ((i : Int) + 1) = ((i + 1 : Nat) : Int) := by rw [wrap_id _ (by omega) (by omega)]; omega
  rw [skerrylaw12_TiersChoose.l0, if_pos (by omega), if_pos (by omega), if_pos (by omega), if_pos (by omega), rd_row _ i hi, ints_self _ (by omega) k (by omega), Option.bind_some, if_pos rfl, e3]
  exact choose_l0 l m hl d (i + 1) k (by omega) (by omega)
theorem choose_ok (l : List Int) (m : Int) : ∃ k, skerrylaw12_TiersChoose.f k l m = some true := by
 refine ⟨3000, ?_⟩
 unfold skerrylaw12_TiersChoose.f
 by_cases h : (l.length : Int) > 500
 ·
  rw [if_pos h, lives 3000 (by omega)]; rfl
 ·
  rw [if_neg h, buckets_f l (by omega), rbuckets_f l (by omega), Option.bind_some, Option.bind_some, if_pos rfl]
  have := bks_count l
  exact choose_l0 l m (by omega) (bks l).length 0 3000 (by omega) (by omega)
end Go.Proofs.Ythlffcaaifpdeaa.Pl
set_option linter.unusedVariables false
set_option linter.unusedSimpArgs false
namespace Go.Proofs.Ythlffcaaifpdeaa.Pure
open Go.RowKit Go.Proofs.Ythlffcaaifpdeaa.Q
theorem TiersChoose : skerrylaw12_TiersChoose.Pure := fun l0 a1 _ _ _ _ => Pl.choose_ok l0 a1
end Go.Proofs.Ythlffcaaifpdeaa.Pure
