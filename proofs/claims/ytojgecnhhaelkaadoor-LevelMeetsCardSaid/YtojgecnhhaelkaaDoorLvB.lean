/- Layer 16: the law LevelTells walked. -/
import Derived.Test.YtojgecnhhaelkaaDoorLvA
namespace Go.Proofs.YtojgecnhhaelkaaDoor
open Go.RowKit

theorem tells_walk (a b c : Int) (w : World) (hl : -9223372036854775808 ≤ c) (hc : c ≤ 9223372036854775807) (hN : NamesAt w) :
    Calls Tryd.prog 3 #[.int .i64 a, .int .i64 b, .int .i64 c] w fun e w' => e = .returned (.bool true) ∧ w = w' := by
  have HN := Lib.hid hN
  clear hN
  go_enter Tryd.func3, Tryd.ntmps3
  go_wp2_with (first
    | (go_at_call 7; refine (good_any _ _).mono ?_; rintro e w' ⟨rfl, rfl⟩)
    | (go_at_call 8; refine (rgood_any _ _).mono ?_; rintro e w' ⟨rfl, rfl⟩)
    | (go_at_call 9; refine (need_any _ _ _ (by omega)).mono ?_; rintro e w' ⟨rfl, rfl⟩)
    | (go_at_call 10; refine (rneed_any _ _ _ (by omega)).mono ?_; rintro e w' ⟨rfl, rfl⟩)
    | (go_at_call 11; refine (name_any _ _ HN.out).mono ?_; rintro e w' ⟨rfl, rfl⟩)
    | (go_at_call 12; refine (rname_any _ _).mono ?_; rintro e w' ⟨rfl, rfl⟩)
    | (go_at_call 13; refine (meet_any _ _ _ _ (by omega) (by omega)).mono ?_; rintro e w' ⟨rfl, rfl⟩)
    | (go_at_call 14; refine (rmeet_any _ _ _ _ (by omega) (by omega)).mono ?_; rintro e w' ⟨rfl, rfl⟩)
    | (go_at_call 15; refine (lives_any _ HN.out).mono ?_; rintro e w' ⟨rfl, rfl⟩))
  go_ret
  exact ⟨rfl, rfl⟩

theorem grows_walk (c : Int) (w : World) (h0 : 0 ≤ c) (hN : NamesAt w) :
    Calls Tryd.prog 5 #[.int .u64 c] w fun e w' => e = .returned (.bool true) ∧ w = w' := by
  have HN := Lib.hid hN
  clear hN
  have hb0 : 0 ≤ c % 1000 := by omega
  have hb1 : c % 1000 ≤ 999 := by omega
  have N1 := Lib.hid (show needI 1 (1 + c % 1000) = 1 by unfold needI; rw [if_neg (by omega)]; rfl)
  have N2 := Lib.hid (show needI 2 (1 + c % 1000) = (1 + c % 1000) / 2 + 1 by unfold needI; rw [if_neg (by omega)]; rfl)
  have N3 := Lib.hid (show needI 3 (1 + c % 1000) = 1 + c % 1000 by unfold needI; rw [if_neg (by omega)]; rfl)
  have N0 := Lib.hid (show needI 0 (1 + c % 1000) = 0 by unfold needI; rw [if_neg (by omega)]; rfl)
  have N4 := Lib.hid (show needI 4 (1 + c % 1000) = 0 by unfold needI; rw [if_neg (by omega)]; rfl)
  have N5 := Lib.hid (show needI 2 (1 + c % 1000 + 1) = (1 + c % 1000 + 1) / 2 + 1 by unfold needI; rw [if_neg (by omega)]; rfl)
  go_enter Tryd.func5, Tryd.ntmps5
  go_wp2_with (first
    | (go_at_call 9; refine (need_any _ _ _ (by omega)).mono ?_; rintro e w' ⟨rfl, rfl⟩; first | rw [N1.out] | rw [N5.out] | rw [N2.out] | rw [N3.out] | rw [N0.out] | rw [N4.out])
    | (go_at_call 15; refine (lives_any _ HN.out).mono ?_; rintro e w' ⟨rfl, rfl⟩))
  go_ret
  exact ⟨rfl, rfl⟩
end Go.Proofs.YtojgecnhhaelkaaDoor
