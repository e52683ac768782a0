/- LevelMeets at 5 copies: for each pair of levels the law's call returns true, whatever the two sets are. -/
import Derived.Test.YtojgecnhhaelkaaDoorLvMW
namespace Go.Proofs.YtojgecnhhaelkaaDoor
open Go.RowKit

set_option maxHeartbeats 1000000 in
theorem meets_5_1_1 (r s c p q : Int) (w : World) (hN : NamesAt w) (hr : r % 3 = 0) (hs : s % 3 = 0) (hc : c % 8 = 4) (hp : 0 ≤ p) (hq : 0 ≤ q) (hc0 : 0 ≤ c) (hr0 : 0 ≤ r) (hs0 : 0 ≤ s) :
    Calls Tryd.prog 4 #[.int .u64 r, .int .u64 s, .agg #[.int .u64 c, .int .u64 p, .int .u64 q]] w fun e w' => e = .returned (.bool true) ∧ Below w.heap.size w w' := by
  have HN := Lib.hid (show ∀ nq, NamesAt ((w.alloc (Obj.cells #[Value.int IntKind.u64 c, Value.int IntKind.u64 p, Value.int IntKind.u64 q] 29)).drewN nq) from fun nq => hN.below (below_drewN ((Below.refl _ w).alloc (Nat.le_refl _) _) nq))
  clear hN
  have e1 := Lib.hid (show 1 + c % 8 = 5 by omega)
  have e2 := Lib.hid (show 1 + r % 3 = 1 by omega)
  have e3 := Lib.hid (show 1 + s % 3 = 1 by omega)
  have N1 := Lib.hid (show needI 1 5 = 1 by decide +kernel)
  have N2 := Lib.hid (show needI 1 5 = 1 by decide +kernel)
  have M1 := Lib.hid (show meetB 1 1 5 = false by decide +kernel)
  have M2 := Lib.hid (show meetB 2 2 5 = true by decide +kernel)
  have M3 := Lib.hid (show meetB 3 1 5 = true by decide +kernel)
  have hlh : bits .and .u64 1 16 = 0 := by decide +kernel
  clear hc hr hs
  go_enter Tryd.func4, Tryd.ntmps4
  go_wp2
  rw [e1.out, e2.out, e3.out]
  go_quiet (fail)
  have HN := Lib.hid (HN.out nq)
  obtain ⟨P, hP, hP2⟩ : ∃ P : Nat, p % 32 = P ∧ P < 32 := ⟨(p % 32).toNat, by omega, by omega⟩
  obtain ⟨Q, hQ, hQ2⟩ : ∃ Q : Nat, q % 32 = Q ∧ Q < 32 := ⟨(q % 32).toNat, by omega, by omega⟩
  rw [hP, hQ]
  have hb := and_small P Q (by omega) (by omega)
  have hz : P &&& Q = 0 → popc P + popc Q ≤ 5 := fun h => popc_apart P Q 5 h (by omega) hP2 hQ2
  have HZ := Lib.hid hz
  have HX := Lib.hid (popc_le P)
  have HY := Lib.hid (popc_le Q)
  clear hz e1 e2 e3 hP hQ hp hq hc0 hr0 hs0
  by_cases h1 : ((popc P : Nat) : Int) ≥ 1
  · by_cases h2 : ((popc Q : Nat) : Int) ≥ 1
    · by_cases h3 : P &&& Q = 0
      · go_wp2_with (first
          | (go_at_call 16; refine (bits_any _ _ (by omega)).mono ?_; rintro e w' ⟨rfl, rfl⟩)
          | (go_at_call 9; refine (need_any _ _ _ (by omega)).mono ?_; rintro e w' ⟨rfl, rfl⟩; first | rw [N1.out] | rw [N2.out])
          | (go_at_call 13; refine (meet_any _ _ _ _ (by omega) (by omega)).mono ?_; rintro e w' ⟨rfl, rfl⟩; first | rw [M1.out] | rw [M2.out] | rw [M3.out])
          | (go_at_call 15; refine (lives_any _ HN.out).mono ?_; rintro e w' ⟨rfl, rfl⟩))
        go_ret
        exact ⟨rfl, below_drewN ((Below.refl _ w).alloc (Nat.le_refl _) _) nq⟩
      · have h4 : ¬ ((P &&& Q : Nat) : Int) = 0 := by omega
        have h5 := beq_false_of_ne h4
        go_wp2_with (first
          | (go_at_call 16; refine (bits_any _ _ (by omega)).mono ?_; rintro e w' ⟨rfl, rfl⟩)
          | (go_at_call 9; refine (need_any _ _ _ (by omega)).mono ?_; rintro e w' ⟨rfl, rfl⟩; first | rw [N1.out] | rw [N2.out])
          | (go_at_call 13; refine (meet_any _ _ _ _ (by omega) (by omega)).mono ?_; rintro e w' ⟨rfl, rfl⟩; first | rw [M1.out] | rw [M2.out] | rw [M3.out])
          | (go_at_call 15; refine (lives_any _ HN.out).mono ?_; rintro e w' ⟨rfl, rfl⟩))
        go_ret
        exact ⟨rfl, below_drewN ((Below.refl _ w).alloc (Nat.le_refl _) _) nq⟩
    · go_wp2_with (first
        | (go_at_call 16; refine (bits_any _ _ (by omega)).mono ?_; rintro e w' ⟨rfl, rfl⟩)
        | (go_at_call 9; refine (need_any _ _ _ (by omega)).mono ?_; rintro e w' ⟨rfl, rfl⟩; first | rw [N1.out] | rw [N2.out])
        | (go_at_call 13; refine (meet_any _ _ _ _ (by omega) (by omega)).mono ?_; rintro e w' ⟨rfl, rfl⟩; first | rw [M1.out] | rw [M2.out] | rw [M3.out])
        | (go_at_call 15; refine (lives_any _ HN.out).mono ?_; rintro e w' ⟨rfl, rfl⟩))
      go_ret
      exact ⟨rfl, below_drewN ((Below.refl _ w).alloc (Nat.le_refl _) _) nq⟩
  · go_wp2_with (first
      | (go_at_call 16; refine (bits_any _ _ (by omega)).mono ?_; rintro e w' ⟨rfl, rfl⟩)
      | (go_at_call 9; refine (need_any _ _ _ (by omega)).mono ?_; rintro e w' ⟨rfl, rfl⟩; first | rw [N1.out] | rw [N2.out])
      | (go_at_call 13; refine (meet_any _ _ _ _ (by omega) (by omega)).mono ?_; rintro e w' ⟨rfl, rfl⟩; first | rw [M1.out] | rw [M2.out] | rw [M3.out])
      | (go_at_call 15; refine (lives_any _ HN.out).mono ?_; rintro e w' ⟨rfl, rfl⟩))
    go_ret
    exact ⟨rfl, below_drewN ((Below.refl _ w).alloc (Nat.le_refl _) _) nq⟩

set_option maxHeartbeats 1000000 in
theorem meets_5_1_2 (r s c p q : Int) (w : World) (hN : NamesAt w) (hr : r % 3 = 0) (hs : s % 3 = 1) (hc : c % 8 = 4) (hp : 0 ≤ p) (hq : 0 ≤ q) (hc0 : 0 ≤ c) (hr0 : 0 ≤ r) (hs0 : 0 ≤ s) :
    Calls Tryd.prog 4 #[.int .u64 r, .int .u64 s, .agg #[.int .u64 c, .int .u64 p, .int .u64 q]] w fun e w' => e = .returned (.bool true) ∧ Below w.heap.size w w' := by
  have HN := Lib.hid (show ∀ nq, NamesAt ((w.alloc (Obj.cells #[Value.int IntKind.u64 c, Value.int IntKind.u64 p, Value.int IntKind.u64 q] 29)).drewN nq) from fun nq => hN.below (below_drewN ((Below.refl _ w).alloc (Nat.le_refl _) _) nq))
  clear hN
  have e1 := Lib.hid (show 1 + c % 8 = 5 by omega)
  have e2 := Lib.hid (show 1 + r % 3 = 1 by omega)
  have e3 := Lib.hid (show 1 + s % 3 = 2 by omega)
  have N1 := Lib.hid (show needI 1 5 = 1 by decide +kernel)
  have N2 := Lib.hid (show needI 2 5 = 3 by decide +kernel)
  have M1 := Lib.hid (show meetB 1 2 5 = false by decide +kernel)
  have M2 := Lib.hid (show meetB 2 2 5 = true by decide +kernel)
  have M3 := Lib.hid (show meetB 3 1 5 = true by decide +kernel)
  have hlh : bits .and .u64 1 28 = 0 := by decide +kernel
  clear hc hr hs
  go_enter Tryd.func4, Tryd.ntmps4
  go_wp2
  rw [e1.out, e2.out, e3.out]
  go_quiet (fail)
  have HN := Lib.hid (HN.out nq)
  obtain ⟨P, hP, hP2⟩ : ∃ P : Nat, p % 32 = P ∧ P < 32 := ⟨(p % 32).toNat, by omega, by omega⟩
  obtain ⟨Q, hQ, hQ2⟩ : ∃ Q : Nat, q % 32 = Q ∧ Q < 32 := ⟨(q % 32).toNat, by omega, by omega⟩
  rw [hP, hQ]
  have hb := and_small P Q (by omega) (by omega)
  have hz : P &&& Q = 0 → popc P + popc Q ≤ 5 := fun h => popc_apart P Q 5 h (by omega) hP2 hQ2
  have HZ := Lib.hid hz
  have HX := Lib.hid (popc_le P)
  have HY := Lib.hid (popc_le Q)
  clear hz e1 e2 e3 hP hQ hp hq hc0 hr0 hs0
  by_cases h1 : ((popc P : Nat) : Int) ≥ 1
  · by_cases h2 : ((popc Q : Nat) : Int) ≥ 3
    · by_cases h3 : P &&& Q = 0
      · go_wp2_with (first
          | (go_at_call 16; refine (bits_any _ _ (by omega)).mono ?_; rintro e w' ⟨rfl, rfl⟩)
          | (go_at_call 9; refine (need_any _ _ _ (by omega)).mono ?_; rintro e w' ⟨rfl, rfl⟩; first | rw [N1.out] | rw [N2.out])
          | (go_at_call 13; refine (meet_any _ _ _ _ (by omega) (by omega)).mono ?_; rintro e w' ⟨rfl, rfl⟩; first | rw [M1.out] | rw [M2.out] | rw [M3.out])
          | (go_at_call 15; refine (lives_any _ HN.out).mono ?_; rintro e w' ⟨rfl, rfl⟩))
        go_ret
        exact ⟨rfl, below_drewN ((Below.refl _ w).alloc (Nat.le_refl _) _) nq⟩
      · have h4 : ¬ ((P &&& Q : Nat) : Int) = 0 := by omega
        have h5 := beq_false_of_ne h4
        go_wp2_with (first
          | (go_at_call 16; refine (bits_any _ _ (by omega)).mono ?_; rintro e w' ⟨rfl, rfl⟩)
          | (go_at_call 9; refine (need_any _ _ _ (by omega)).mono ?_; rintro e w' ⟨rfl, rfl⟩; first | rw [N1.out] | rw [N2.out])
          | (go_at_call 13; refine (meet_any _ _ _ _ (by omega) (by omega)).mono ?_; rintro e w' ⟨rfl, rfl⟩; first | rw [M1.out] | rw [M2.out] | rw [M3.out])
          | (go_at_call 15; refine (lives_any _ HN.out).mono ?_; rintro e w' ⟨rfl, rfl⟩))
        go_ret
        exact ⟨rfl, below_drewN ((Below.refl _ w).alloc (Nat.le_refl _) _) nq⟩
    · go_wp2_with (first
        | (go_at_call 16; refine (bits_any _ _ (by omega)).mono ?_; rintro e w' ⟨rfl, rfl⟩)
        | (go_at_call 9; refine (need_any _ _ _ (by omega)).mono ?_; rintro e w' ⟨rfl, rfl⟩; first | rw [N1.out] | rw [N2.out])
        | (go_at_call 13; refine (meet_any _ _ _ _ (by omega) (by omega)).mono ?_; rintro e w' ⟨rfl, rfl⟩; first | rw [M1.out] | rw [M2.out] | rw [M3.out])
        | (go_at_call 15; refine (lives_any _ HN.out).mono ?_; rintro e w' ⟨rfl, rfl⟩))
      go_ret
      exact ⟨rfl, below_drewN ((Below.refl _ w).alloc (Nat.le_refl _) _) nq⟩
  · go_wp2_with (first
      | (go_at_call 16; refine (bits_any _ _ (by omega)).mono ?_; rintro e w' ⟨rfl, rfl⟩)
      | (go_at_call 9; refine (need_any _ _ _ (by omega)).mono ?_; rintro e w' ⟨rfl, rfl⟩; first | rw [N1.out] | rw [N2.out])
      | (go_at_call 13; refine (meet_any _ _ _ _ (by omega) (by omega)).mono ?_; rintro e w' ⟨rfl, rfl⟩; first | rw [M1.out] | rw [M2.out] | rw [M3.out])
      | (go_at_call 15; refine (lives_any _ HN.out).mono ?_; rintro e w' ⟨rfl, rfl⟩))
    go_ret
    exact ⟨rfl, below_drewN ((Below.refl _ w).alloc (Nat.le_refl _) _) nq⟩

set_option maxHeartbeats 1000000 in
theorem meets_5_1_3 (r s c p q : Int) (w : World) (hN : NamesAt w) (hr : r % 3 = 0) (hs : s % 3 = 2) (hc : c % 8 = 4) (hp : 0 ≤ p) (hq : 0 ≤ q) (hc0 : 0 ≤ c) (hr0 : 0 ≤ r) (hs0 : 0 ≤ s) :
    Calls Tryd.prog 4 #[.int .u64 r, .int .u64 s, .agg #[.int .u64 c, .int .u64 p, .int .u64 q]] w fun e w' => e = .returned (.bool true) ∧ Below w.heap.size w w' := by
  have HN := Lib.hid (show ∀ nq, NamesAt ((w.alloc (Obj.cells #[Value.int IntKind.u64 c, Value.int IntKind.u64 p, Value.int IntKind.u64 q] 29)).drewN nq) from fun nq => hN.below (below_drewN ((Below.refl _ w).alloc (Nat.le_refl _) _) nq))
  clear hN
  have e1 := Lib.hid (show 1 + c % 8 = 5 by omega)
  have e2 := Lib.hid (show 1 + r % 3 = 1 by omega)
  have e3 := Lib.hid (show 1 + s % 3 = 3 by omega)
  have N1 := Lib.hid (show needI 1 5 = 1 by decide +kernel)
  have N2 := Lib.hid (show needI 3 5 = 5 by decide +kernel)
  have M1 := Lib.hid (show meetB 1 3 5 = true by decide +kernel)
  have M2 := Lib.hid (show meetB 2 2 5 = true by decide +kernel)
  have M3 := Lib.hid (show meetB 3 1 5 = true by decide +kernel)
  have hlh : bits .and .u64 1 31 = 1 := by decide +kernel
  clear hc hr hs
  go_enter Tryd.func4, Tryd.ntmps4
  go_wp2
  rw [e1.out, e2.out, e3.out]
  go_quiet (fail)
  have HN := Lib.hid (HN.out nq)
  obtain ⟨P, hP, hP2⟩ : ∃ P : Nat, p % 32 = P ∧ P < 32 := ⟨(p % 32).toNat, by omega, by omega⟩
  obtain ⟨Q, hQ, hQ2⟩ : ∃ Q : Nat, q % 32 = Q ∧ Q < 32 := ⟨(q % 32).toNat, by omega, by omega⟩
  rw [hP, hQ]
  have hb := and_small P Q (by omega) (by omega)
  have hz : P &&& Q = 0 → popc P + popc Q ≤ 5 := fun h => popc_apart P Q 5 h (by omega) hP2 hQ2
  have HZ := Lib.hid hz
  have HX := Lib.hid (popc_le P)
  have HY := Lib.hid (popc_le Q)
  clear hz e1 e2 e3 hP hQ hp hq hc0 hr0 hs0
  by_cases h1 : ((popc P : Nat) : Int) ≥ 1
  · by_cases h2 : ((popc Q : Nat) : Int) ≥ 5
    · by_cases h3 : P &&& Q = 0
      · exfalso; have := HZ.out h3; omega
      · have h4 : ¬ ((P &&& Q : Nat) : Int) = 0 := by omega
        have h5 := beq_false_of_ne h4
        go_wp2_with (first
          | (go_at_call 16; refine (bits_any _ _ (by omega)).mono ?_; rintro e w' ⟨rfl, rfl⟩)
          | (go_at_call 9; refine (need_any _ _ _ (by omega)).mono ?_; rintro e w' ⟨rfl, rfl⟩; first | rw [N1.out] | rw [N2.out])
          | (go_at_call 13; refine (meet_any _ _ _ _ (by omega) (by omega)).mono ?_; rintro e w' ⟨rfl, rfl⟩; first | rw [M1.out] | rw [M2.out] | rw [M3.out])
          | (go_at_call 15; refine (lives_any _ HN.out).mono ?_; rintro e w' ⟨rfl, rfl⟩))
        go_ret
        exact ⟨rfl, below_drewN ((Below.refl _ w).alloc (Nat.le_refl _) _) nq⟩
    · go_wp2_with (first
        | (go_at_call 16; refine (bits_any _ _ (by omega)).mono ?_; rintro e w' ⟨rfl, rfl⟩)
        | (go_at_call 9; refine (need_any _ _ _ (by omega)).mono ?_; rintro e w' ⟨rfl, rfl⟩; first | rw [N1.out] | rw [N2.out])
        | (go_at_call 13; refine (meet_any _ _ _ _ (by omega) (by omega)).mono ?_; rintro e w' ⟨rfl, rfl⟩; first | rw [M1.out] | rw [M2.out] | rw [M3.out])
        | (go_at_call 15; refine (lives_any _ HN.out).mono ?_; rintro e w' ⟨rfl, rfl⟩))
      go_ret
      exact ⟨rfl, below_drewN ((Below.refl _ w).alloc (Nat.le_refl _) _) nq⟩
  · go_wp2_with (first
      | (go_at_call 16; refine (bits_any _ _ (by omega)).mono ?_; rintro e w' ⟨rfl, rfl⟩)
      | (go_at_call 9; refine (need_any _ _ _ (by omega)).mono ?_; rintro e w' ⟨rfl, rfl⟩; first | rw [N1.out] | rw [N2.out])
      | (go_at_call 13; refine (meet_any _ _ _ _ (by omega) (by omega)).mono ?_; rintro e w' ⟨rfl, rfl⟩; first | rw [M1.out] | rw [M2.out] | rw [M3.out])
      | (go_at_call 15; refine (lives_any _ HN.out).mono ?_; rintro e w' ⟨rfl, rfl⟩))
    go_ret
    exact ⟨rfl, below_drewN ((Below.refl _ w).alloc (Nat.le_refl _) _) nq⟩

set_option maxHeartbeats 1000000 in
theorem meets_5_2_1 (r s c p q : Int) (w : World) (hN : NamesAt w) (hr : r % 3 = 1) (hs : s % 3 = 0) (hc : c % 8 = 4) (hp : 0 ≤ p) (hq : 0 ≤ q) (hc0 : 0 ≤ c) (hr0 : 0 ≤ r) (hs0 : 0 ≤ s) :
    Calls Tryd.prog 4 #[.int .u64 r, .int .u64 s, .agg #[.int .u64 c, .int .u64 p, .int .u64 q]] w fun e w' => e = .returned (.bool true) ∧ Below w.heap.size w w' := by
  have HN := Lib.hid (show ∀ nq, NamesAt ((w.alloc (Obj.cells #[Value.int IntKind.u64 c, Value.int IntKind.u64 p, Value.int IntKind.u64 q] 29)).drewN nq) from fun nq => hN.below (below_drewN ((Below.refl _ w).alloc (Nat.le_refl _) _) nq))
  clear hN
  have e1 := Lib.hid (show 1 + c % 8 = 5 by omega)
  have e2 := Lib.hid (show 1 + r % 3 = 2 by omega)
  have e3 := Lib.hid (show 1 + s % 3 = 1 by omega)
  have N1 := Lib.hid (show needI 2 5 = 3 by decide +kernel)
  have N2 := Lib.hid (show needI 1 5 = 1 by decide +kernel)
  have M1 := Lib.hid (show meetB 2 1 5 = false by decide +kernel)
  have M2 := Lib.hid (show meetB 2 2 5 = true by decide +kernel)
  have M3 := Lib.hid (show meetB 3 1 5 = true by decide +kernel)
  have hlh : bits .and .u64 7 16 = 0 := by decide +kernel
  clear hc hr hs
  go_enter Tryd.func4, Tryd.ntmps4
  go_wp2
  rw [e1.out, e2.out, e3.out]
  go_quiet (fail)
  have HN := Lib.hid (HN.out nq)
  obtain ⟨P, hP, hP2⟩ : ∃ P : Nat, p % 32 = P ∧ P < 32 := ⟨(p % 32).toNat, by omega, by omega⟩
  obtain ⟨Q, hQ, hQ2⟩ : ∃ Q : Nat, q % 32 = Q ∧ Q < 32 := ⟨(q % 32).toNat, by omega, by omega⟩
  rw [hP, hQ]
  have hb := and_small P Q (by omega) (by omega)
  have hz : P &&& Q = 0 → popc P + popc Q ≤ 5 := fun h => popc_apart P Q 5 h (by omega) hP2 hQ2
  have HZ := Lib.hid hz
  have HX := Lib.hid (popc_le P)
  have HY := Lib.hid (popc_le Q)
  clear hz e1 e2 e3 hP hQ hp hq hc0 hr0 hs0
  by_cases h1 : ((popc P : Nat) : Int) ≥ 3
  · by_cases h2 : ((popc Q : Nat) : Int) ≥ 1
    · by_cases h3 : P &&& Q = 0
      · go_wp2_with (first
          | (go_at_call 16; refine (bits_any _ _ (by omega)).mono ?_; rintro e w' ⟨rfl, rfl⟩)
          | (go_at_call 9; refine (need_any _ _ _ (by omega)).mono ?_; rintro e w' ⟨rfl, rfl⟩; first | rw [N1.out] | rw [N2.out])
          | (go_at_call 13; refine (meet_any _ _ _ _ (by omega) (by omega)).mono ?_; rintro e w' ⟨rfl, rfl⟩; first | rw [M1.out] | rw [M2.out] | rw [M3.out])
          | (go_at_call 15; refine (lives_any _ HN.out).mono ?_; rintro e w' ⟨rfl, rfl⟩))
        go_ret
        exact ⟨rfl, below_drewN ((Below.refl _ w).alloc (Nat.le_refl _) _) nq⟩
      · have h4 : ¬ ((P &&& Q : Nat) : Int) = 0 := by omega
        have h5 := beq_false_of_ne h4
        go_wp2_with (first
          | (go_at_call 16; refine (bits_any _ _ (by omega)).mono ?_; rintro e w' ⟨rfl, rfl⟩)
          | (go_at_call 9; refine (need_any _ _ _ (by omega)).mono ?_; rintro e w' ⟨rfl, rfl⟩; first | rw [N1.out] | rw [N2.out])
          | (go_at_call 13; refine (meet_any _ _ _ _ (by omega) (by omega)).mono ?_; rintro e w' ⟨rfl, rfl⟩; first | rw [M1.out] | rw [M2.out] | rw [M3.out])
          | (go_at_call 15; refine (lives_any _ HN.out).mono ?_; rintro e w' ⟨rfl, rfl⟩))
        go_ret
        exact ⟨rfl, below_drewN ((Below.refl _ w).alloc (Nat.le_refl _) _) nq⟩
    · go_wp2_with (first
        | (go_at_call 16; refine (bits_any _ _ (by omega)).mono ?_; rintro e w' ⟨rfl, rfl⟩)
        | (go_at_call 9; refine (need_any _ _ _ (by omega)).mono ?_; rintro e w' ⟨rfl, rfl⟩; first | rw [N1.out] | rw [N2.out])
        | (go_at_call 13; refine (meet_any _ _ _ _ (by omega) (by omega)).mono ?_; rintro e w' ⟨rfl, rfl⟩; first | rw [M1.out] | rw [M2.out] | rw [M3.out])
        | (go_at_call 15; refine (lives_any _ HN.out).mono ?_; rintro e w' ⟨rfl, rfl⟩))
      go_ret
      exact ⟨rfl, below_drewN ((Below.refl _ w).alloc (Nat.le_refl _) _) nq⟩
  · go_wp2_with (first
      | (go_at_call 16; refine (bits_any _ _ (by omega)).mono ?_; rintro e w' ⟨rfl, rfl⟩)
      | (go_at_call 9; refine (need_any _ _ _ (by omega)).mono ?_; rintro e w' ⟨rfl, rfl⟩; first | rw [N1.out] | rw [N2.out])
      | (go_at_call 13; refine (meet_any _ _ _ _ (by omega) (by omega)).mono ?_; rintro e w' ⟨rfl, rfl⟩; first | rw [M1.out] | rw [M2.out] | rw [M3.out])
      | (go_at_call 15; refine (lives_any _ HN.out).mono ?_; rintro e w' ⟨rfl, rfl⟩))
    go_ret
    exact ⟨rfl, below_drewN ((Below.refl _ w).alloc (Nat.le_refl _) _) nq⟩

set_option maxHeartbeats 1000000 in
theorem meets_5_2_2 (r s c p q : Int) (w : World) (hN : NamesAt w) (hr : r % 3 = 1) (hs : s % 3 = 1) (hc : c % 8 = 4) (hp : 0 ≤ p) (hq : 0 ≤ q) (hc0 : 0 ≤ c) (hr0 : 0 ≤ r) (hs0 : 0 ≤ s) :
    Calls Tryd.prog 4 #[.int .u64 r, .int .u64 s, .agg #[.int .u64 c, .int .u64 p, .int .u64 q]] w fun e w' => e = .returned (.bool true) ∧ Below w.heap.size w w' := by
  have HN := Lib.hid (show ∀ nq, NamesAt ((w.alloc (Obj.cells #[Value.int IntKind.u64 c, Value.int IntKind.u64 p, Value.int IntKind.u64 q] 29)).drewN nq) from fun nq => hN.below (below_drewN ((Below.refl _ w).alloc (Nat.le_refl _) _) nq))
  clear hN
  have e1 := Lib.hid (show 1 + c % 8 = 5 by omega)
  have e2 := Lib.hid (show 1 + r % 3 = 2 by omega)
  have e3 := Lib.hid (show 1 + s % 3 = 2 by omega)
  have N1 := Lib.hid (show needI 2 5 = 3 by decide +kernel)
  have N2 := Lib.hid (show needI 2 5 = 3 by decide +kernel)
  have M1 := Lib.hid (show meetB 2 2 5 = true by decide +kernel)
  have M2 := Lib.hid (show meetB 2 2 5 = true by decide +kernel)
  have M3 := Lib.hid (show meetB 3 1 5 = true by decide +kernel)
  have hlh : bits .and .u64 7 28 = 4 := by decide +kernel
  clear hc hr hs
  go_enter Tryd.func4, Tryd.ntmps4
  go_wp2
  rw [e1.out, e2.out, e3.out]
  go_quiet (fail)
  have HN := Lib.hid (HN.out nq)
  obtain ⟨P, hP, hP2⟩ : ∃ P : Nat, p % 32 = P ∧ P < 32 := ⟨(p % 32).toNat, by omega, by omega⟩
  obtain ⟨Q, hQ, hQ2⟩ : ∃ Q : Nat, q % 32 = Q ∧ Q < 32 := ⟨(q % 32).toNat, by omega, by omega⟩
  rw [hP, hQ]
  have hb := and_small P Q (by omega) (by omega)
  have hz : P &&& Q = 0 → popc P + popc Q ≤ 5 := fun h => popc_apart P Q 5 h (by omega) hP2 hQ2
  have HZ := Lib.hid hz
  have HX := Lib.hid (popc_le P)
  have HY := Lib.hid (popc_le Q)
  clear hz e1 e2 e3 hP hQ hp hq hc0 hr0 hs0
  by_cases h1 : ((popc P : Nat) : Int) ≥ 3
  · by_cases h2 : ((popc Q : Nat) : Int) ≥ 3
    · by_cases h3 : P &&& Q = 0
      · exfalso; have := HZ.out h3; omega
      · have h4 : ¬ ((P &&& Q : Nat) : Int) = 0 := by omega
        have h5 := beq_false_of_ne h4
        go_wp2_with (first
          | (go_at_call 16; refine (bits_any _ _ (by omega)).mono ?_; rintro e w' ⟨rfl, rfl⟩)
          | (go_at_call 9; refine (need_any _ _ _ (by omega)).mono ?_; rintro e w' ⟨rfl, rfl⟩; first | rw [N1.out] | rw [N2.out])
          | (go_at_call 13; refine (meet_any _ _ _ _ (by omega) (by omega)).mono ?_; rintro e w' ⟨rfl, rfl⟩; first | rw [M1.out] | rw [M2.out] | rw [M3.out])
          | (go_at_call 15; refine (lives_any _ HN.out).mono ?_; rintro e w' ⟨rfl, rfl⟩))
        go_ret
        exact ⟨rfl, below_drewN ((Below.refl _ w).alloc (Nat.le_refl _) _) nq⟩
    · go_wp2_with (first
        | (go_at_call 16; refine (bits_any _ _ (by omega)).mono ?_; rintro e w' ⟨rfl, rfl⟩)
        | (go_at_call 9; refine (need_any _ _ _ (by omega)).mono ?_; rintro e w' ⟨rfl, rfl⟩; first | rw [N1.out] | rw [N2.out])
        | (go_at_call 13; refine (meet_any _ _ _ _ (by omega) (by omega)).mono ?_; rintro e w' ⟨rfl, rfl⟩; first | rw [M1.out] | rw [M2.out] | rw [M3.out])
        | (go_at_call 15; refine (lives_any _ HN.out).mono ?_; rintro e w' ⟨rfl, rfl⟩))
      go_ret
      exact ⟨rfl, below_drewN ((Below.refl _ w).alloc (Nat.le_refl _) _) nq⟩
  · go_wp2_with (first
      | (go_at_call 16; refine (bits_any _ _ (by omega)).mono ?_; rintro e w' ⟨rfl, rfl⟩)
      | (go_at_call 9; refine (need_any _ _ _ (by omega)).mono ?_; rintro e w' ⟨rfl, rfl⟩; first | rw [N1.out] | rw [N2.out])
      | (go_at_call 13; refine (meet_any _ _ _ _ (by omega) (by omega)).mono ?_; rintro e w' ⟨rfl, rfl⟩; first | rw [M1.out] | rw [M2.out] | rw [M3.out])
      | (go_at_call 15; refine (lives_any _ HN.out).mono ?_; rintro e w' ⟨rfl, rfl⟩))
    go_ret
    exact ⟨rfl, below_drewN ((Below.refl _ w).alloc (Nat.le_refl _) _) nq⟩

set_option maxHeartbeats 1000000 in
theorem meets_5_2_3 (r s c p q : Int) (w : World) (hN : NamesAt w) (hr : r % 3 = 1) (hs : s % 3 = 2) (hc : c % 8 = 4) (hp : 0 ≤ p) (hq : 0 ≤ q) (hc0 : 0 ≤ c) (hr0 : 0 ≤ r) (hs0 : 0 ≤ s) :
    Calls Tryd.prog 4 #[.int .u64 r, .int .u64 s, .agg #[.int .u64 c, .int .u64 p, .int .u64 q]] w fun e w' => e = .returned (.bool true) ∧ Below w.heap.size w w' := by
  have HN := Lib.hid (show ∀ nq, NamesAt ((w.alloc (Obj.cells #[Value.int IntKind.u64 c, Value.int IntKind.u64 p, Value.int IntKind.u64 q] 29)).drewN nq) from fun nq => hN.below (below_drewN ((Below.refl _ w).alloc (Nat.le_refl _) _) nq))
  clear hN
  have e1 := Lib.hid (show 1 + c % 8 = 5 by omega)
  have e2 := Lib.hid (show 1 + r % 3 = 2 by omega)
  have e3 := Lib.hid (show 1 + s % 3 = 3 by omega)
  have N1 := Lib.hid (show needI 2 5 = 3 by decide +kernel)
  have N2 := Lib.hid (show needI 3 5 = 5 by decide +kernel)
  have M1 := Lib.hid (show meetB 2 3 5 = true by decide +kernel)
  have M2 := Lib.hid (show meetB 2 2 5 = true by decide +kernel)
  have M3 := Lib.hid (show meetB 3 1 5 = true by decide +kernel)
  have hlh : bits .and .u64 7 31 = 7 := by decide +kernel
  clear hc hr hs
  go_enter Tryd.func4, Tryd.ntmps4
  go_wp2
  rw [e1.out, e2.out, e3.out]
  go_quiet (fail)
  have HN := Lib.hid (HN.out nq)
  obtain ⟨P, hP, hP2⟩ : ∃ P : Nat, p % 32 = P ∧ P < 32 := ⟨(p % 32).toNat, by omega, by omega⟩
  obtain ⟨Q, hQ, hQ2⟩ : ∃ Q : Nat, q % 32 = Q ∧ Q < 32 := ⟨(q % 32).toNat, by omega, by omega⟩
  rw [hP, hQ]
  have hb := and_small P Q (by omega) (by omega)
  have hz : P &&& Q = 0 → popc P + popc Q ≤ 5 := fun h => popc_apart P Q 5 h (by omega) hP2 hQ2
  have HZ := Lib.hid hz
  have HX := Lib.hid (popc_le P)
  have HY := Lib.hid (popc_le Q)
  clear hz e1 e2 e3 hP hQ hp hq hc0 hr0 hs0
  by_cases h1 : ((popc P : Nat) : Int) ≥ 3
  · by_cases h2 : ((popc Q : Nat) : Int) ≥ 5
    · by_cases h3 : P &&& Q = 0
      · exfalso; have := HZ.out h3; omega
      · have h4 : ¬ ((P &&& Q : Nat) : Int) = 0 := by omega
        have h5 := beq_false_of_ne h4
        go_wp2_with (first
          | (go_at_call 16; refine (bits_any _ _ (by omega)).mono ?_; rintro e w' ⟨rfl, rfl⟩)
          | (go_at_call 9; refine (need_any _ _ _ (by omega)).mono ?_; rintro e w' ⟨rfl, rfl⟩; first | rw [N1.out] | rw [N2.out])
          | (go_at_call 13; refine (meet_any _ _ _ _ (by omega) (by omega)).mono ?_; rintro e w' ⟨rfl, rfl⟩; first | rw [M1.out] | rw [M2.out] | rw [M3.out])
          | (go_at_call 15; refine (lives_any _ HN.out).mono ?_; rintro e w' ⟨rfl, rfl⟩))
        go_ret
        exact ⟨rfl, below_drewN ((Below.refl _ w).alloc (Nat.le_refl _) _) nq⟩
    · go_wp2_with (first
        | (go_at_call 16; refine (bits_any _ _ (by omega)).mono ?_; rintro e w' ⟨rfl, rfl⟩)
        | (go_at_call 9; refine (need_any _ _ _ (by omega)).mono ?_; rintro e w' ⟨rfl, rfl⟩; first | rw [N1.out] | rw [N2.out])
        | (go_at_call 13; refine (meet_any _ _ _ _ (by omega) (by omega)).mono ?_; rintro e w' ⟨rfl, rfl⟩; first | rw [M1.out] | rw [M2.out] | rw [M3.out])
        | (go_at_call 15; refine (lives_any _ HN.out).mono ?_; rintro e w' ⟨rfl, rfl⟩))
      go_ret
      exact ⟨rfl, below_drewN ((Below.refl _ w).alloc (Nat.le_refl _) _) nq⟩
  · go_wp2_with (first
      | (go_at_call 16; refine (bits_any _ _ (by omega)).mono ?_; rintro e w' ⟨rfl, rfl⟩)
      | (go_at_call 9; refine (need_any _ _ _ (by omega)).mono ?_; rintro e w' ⟨rfl, rfl⟩; first | rw [N1.out] | rw [N2.out])
      | (go_at_call 13; refine (meet_any _ _ _ _ (by omega) (by omega)).mono ?_; rintro e w' ⟨rfl, rfl⟩; first | rw [M1.out] | rw [M2.out] | rw [M3.out])
      | (go_at_call 15; refine (lives_any _ HN.out).mono ?_; rintro e w' ⟨rfl, rfl⟩))
    go_ret
    exact ⟨rfl, below_drewN ((Below.refl _ w).alloc (Nat.le_refl _) _) nq⟩

set_option maxHeartbeats 1000000 in
theorem meets_5_3_1 (r s c p q : Int) (w : World) (hN : NamesAt w) (hr : r % 3 = 2) (hs : s % 3 = 0) (hc : c % 8 = 4) (hp : 0 ≤ p) (hq : 0 ≤ q) (hc0 : 0 ≤ c) (hr0 : 0 ≤ r) (hs0 : 0 ≤ s) :
    Calls Tryd.prog 4 #[.int .u64 r, .int .u64 s, .agg #[.int .u64 c, .int .u64 p, .int .u64 q]] w fun e w' => e = .returned (.bool true) ∧ Below w.heap.size w w' := by
  have HN := Lib.hid (show ∀ nq, NamesAt ((w.alloc (Obj.cells #[Value.int IntKind.u64 c, Value.int IntKind.u64 p, Value.int IntKind.u64 q] 29)).drewN nq) from fun nq => hN.below (below_drewN ((Below.refl _ w).alloc (Nat.le_refl _) _) nq))
  clear hN
  have e1 := Lib.hid (show 1 + c % 8 = 5 by omega)
  have e2 := Lib.hid (show 1 + r % 3 = 3 by omega)
  have e3 := Lib.hid (show 1 + s % 3 = 1 by omega)
  have N1 := Lib.hid (show needI 3 5 = 5 by decide +kernel)
  have N2 := Lib.hid (show needI 1 5 = 1 by decide +kernel)
  have M1 := Lib.hid (show meetB 3 1 5 = true by decide +kernel)
  have M2 := Lib.hid (show meetB 2 2 5 = true by decide +kernel)
  have M3 := Lib.hid (show meetB 3 1 5 = true by decide +kernel)
  have hlh : bits .and .u64 31 16 = 16 := by decide +kernel
  clear hc hr hs
  go_enter Tryd.func4, Tryd.ntmps4
  go_wp2
  rw [e1.out, e2.out, e3.out]
  go_quiet (fail)
  have HN := Lib.hid (HN.out nq)
  obtain ⟨P, hP, hP2⟩ : ∃ P : Nat, p % 32 = P ∧ P < 32 := ⟨(p % 32).toNat, by omega, by omega⟩
  obtain ⟨Q, hQ, hQ2⟩ : ∃ Q : Nat, q % 32 = Q ∧ Q < 32 := ⟨(q % 32).toNat, by omega, by omega⟩
  rw [hP, hQ]
  have hb := and_small P Q (by omega) (by omega)
  have hz : P &&& Q = 0 → popc P + popc Q ≤ 5 := fun h => popc_apart P Q 5 h (by omega) hP2 hQ2
  have HZ := Lib.hid hz
  have HX := Lib.hid (popc_le P)
  have HY := Lib.hid (popc_le Q)
  clear hz e1 e2 e3 hP hQ hp hq hc0 hr0 hs0
  by_cases h1 : ((popc P : Nat) : Int) ≥ 5
  · by_cases h2 : ((popc Q : Nat) : Int) ≥ 1
    · by_cases h3 : P &&& Q = 0
      · exfalso; have := HZ.out h3; omega
      · have h4 : ¬ ((P &&& Q : Nat) : Int) = 0 := by omega
        have h5 := beq_false_of_ne h4
        go_wp2_with (first
          | (go_at_call 16; refine (bits_any _ _ (by omega)).mono ?_; rintro e w' ⟨rfl, rfl⟩)
          | (go_at_call 9; refine (need_any _ _ _ (by omega)).mono ?_; rintro e w' ⟨rfl, rfl⟩; first | rw [N1.out] | rw [N2.out])
          | (go_at_call 13; refine (meet_any _ _ _ _ (by omega) (by omega)).mono ?_; rintro e w' ⟨rfl, rfl⟩; first | rw [M1.out] | rw [M2.out] | rw [M3.out])
          | (go_at_call 15; refine (lives_any _ HN.out).mono ?_; rintro e w' ⟨rfl, rfl⟩))
        go_ret
        exact ⟨rfl, below_drewN ((Below.refl _ w).alloc (Nat.le_refl _) _) nq⟩
    · go_wp2_with (first
        | (go_at_call 16; refine (bits_any _ _ (by omega)).mono ?_; rintro e w' ⟨rfl, rfl⟩)
        | (go_at_call 9; refine (need_any _ _ _ (by omega)).mono ?_; rintro e w' ⟨rfl, rfl⟩; first | rw [N1.out] | rw [N2.out])
        | (go_at_call 13; refine (meet_any _ _ _ _ (by omega) (by omega)).mono ?_; rintro e w' ⟨rfl, rfl⟩; first | rw [M1.out] | rw [M2.out] | rw [M3.out])
        | (go_at_call 15; refine (lives_any _ HN.out).mono ?_; rintro e w' ⟨rfl, rfl⟩))
      go_ret
      exact ⟨rfl, below_drewN ((Below.refl _ w).alloc (Nat.le_refl _) _) nq⟩
  · go_wp2_with (first
      | (go_at_call 16; refine (bits_any _ _ (by omega)).mono ?_; rintro e w' ⟨rfl, rfl⟩)
      | (go_at_call 9; refine (need_any _ _ _ (by omega)).mono ?_; rintro e w' ⟨rfl, rfl⟩; first | rw [N1.out] | rw [N2.out])
      | (go_at_call 13; refine (meet_any _ _ _ _ (by omega) (by omega)).mono ?_; rintro e w' ⟨rfl, rfl⟩; first | rw [M1.out] | rw [M2.out] | rw [M3.out])
      | (go_at_call 15; refine (lives_any _ HN.out).mono ?_; rintro e w' ⟨rfl, rfl⟩))
    go_ret
    exact ⟨rfl, below_drewN ((Below.refl _ w).alloc (Nat.le_refl _) _) nq⟩

set_option maxHeartbeats 1000000 in
theorem meets_5_3_2 (r s c p q : Int) (w : World) (hN : NamesAt w) (hr : r % 3 = 2) (hs : s % 3 = 1) (hc : c % 8 = 4) (hp : 0 ≤ p) (hq : 0 ≤ q) (hc0 : 0 ≤ c) (hr0 : 0 ≤ r) (hs0 : 0 ≤ s) :
    Calls Tryd.prog 4 #[.int .u64 r, .int .u64 s, .agg #[.int .u64 c, .int .u64 p, .int .u64 q]] w fun e w' => e = .returned (.bool true) ∧ Below w.heap.size w w' := by
  have HN := Lib.hid (show ∀ nq, NamesAt ((w.alloc (Obj.cells #[Value.int IntKind.u64 c, Value.int IntKind.u64 p, Value.int IntKind.u64 q] 29)).drewN nq) from fun nq => hN.below (below_drewN ((Below.refl _ w).alloc (Nat.le_refl _) _) nq))
  clear hN
  have e1 := Lib.hid (show 1 + c % 8 = 5 by omega)
  have e2 := Lib.hid (show 1 + r % 3 = 3 by omega)
  have e3 := Lib.hid (show 1 + s % 3 = 2 by omega)
  have N1 := Lib.hid (show needI 3 5 = 5 by decide +kernel)
  have N2 := Lib.hid (show needI 2 5 = 3 by decide +kernel)
  have M1 := Lib.hid (show meetB 3 2 5 = true by decide +kernel)
  have M2 := Lib.hid (show meetB 2 2 5 = true by decide +kernel)
  have M3 := Lib.hid (show meetB 3 1 5 = true by decide +kernel)
  have hlh : bits .and .u64 31 28 = 28 := by decide +kernel
  clear hc hr hs
  go_enter Tryd.func4, Tryd.ntmps4
  go_wp2
  rw [e1.out, e2.out, e3.out]
  go_quiet (fail)
  have HN := Lib.hid (HN.out nq)
  obtain ⟨P, hP, hP2⟩ : ∃ P : Nat, p % 32 = P ∧ P < 32 := ⟨(p % 32).toNat, by omega, by omega⟩
  obtain ⟨Q, hQ, hQ2⟩ : ∃ Q : Nat, q % 32 = Q ∧ Q < 32 := ⟨(q % 32).toNat, by omega, by omega⟩
  rw [hP, hQ]
  have hb := and_small P Q (by omega) (by omega)
  have hz : P &&& Q = 0 → popc P + popc Q ≤ 5 := fun h => popc_apart P Q 5 h (by omega) hP2 hQ2
  have HZ := Lib.hid hz
  have HX := Lib.hid (popc_le P)
  have HY := Lib.hid (popc_le Q)
  clear hz e1 e2 e3 hP hQ hp hq hc0 hr0 hs0
  by_cases h1 : ((popc P : Nat) : Int) ≥ 5
  · by_cases h2 : ((popc Q : Nat) : Int) ≥ 3
    · by_cases h3 : P &&& Q = 0
      · exfalso; have := HZ.out h3; omega
      · have h4 : ¬ ((P &&& Q : Nat) : Int) = 0 := by omega
        have h5 := beq_false_of_ne h4
        go_wp2_with (first
          | (go_at_call 16; refine (bits_any _ _ (by omega)).mono ?_; rintro e w' ⟨rfl, rfl⟩)
          | (go_at_call 9; refine (need_any _ _ _ (by omega)).mono ?_; rintro e w' ⟨rfl, rfl⟩; first | rw [N1.out] | rw [N2.out])
          | (go_at_call 13; refine (meet_any _ _ _ _ (by omega) (by omega)).mono ?_; rintro e w' ⟨rfl, rfl⟩; first | rw [M1.out] | rw [M2.out] | rw [M3.out])
          | (go_at_call 15; refine (lives_any _ HN.out).mono ?_; rintro e w' ⟨rfl, rfl⟩))
        go_ret
        exact ⟨rfl, below_drewN ((Below.refl _ w).alloc (Nat.le_refl _) _) nq⟩
    · go_wp2_with (first
        | (go_at_call 16; refine (bits_any _ _ (by omega)).mono ?_; rintro e w' ⟨rfl, rfl⟩)
        | (go_at_call 9; refine (need_any _ _ _ (by omega)).mono ?_; rintro e w' ⟨rfl, rfl⟩; first | rw [N1.out] | rw [N2.out])
        | (go_at_call 13; refine (meet_any _ _ _ _ (by omega) (by omega)).mono ?_; rintro e w' ⟨rfl, rfl⟩; first | rw [M1.out] | rw [M2.out] | rw [M3.out])
        | (go_at_call 15; refine (lives_any _ HN.out).mono ?_; rintro e w' ⟨rfl, rfl⟩))
      go_ret
      exact ⟨rfl, below_drewN ((Below.refl _ w).alloc (Nat.le_refl _) _) nq⟩
  · go_wp2_with (first
      | (go_at_call 16; refine (bits_any _ _ (by omega)).mono ?_; rintro e w' ⟨rfl, rfl⟩)
      | (go_at_call 9; refine (need_any _ _ _ (by omega)).mono ?_; rintro e w' ⟨rfl, rfl⟩; first | rw [N1.out] | rw [N2.out])
      | (go_at_call 13; refine (meet_any _ _ _ _ (by omega) (by omega)).mono ?_; rintro e w' ⟨rfl, rfl⟩; first | rw [M1.out] | rw [M2.out] | rw [M3.out])
      | (go_at_call 15; refine (lives_any _ HN.out).mono ?_; rintro e w' ⟨rfl, rfl⟩))
    go_ret
    exact ⟨rfl, below_drewN ((Below.refl _ w).alloc (Nat.le_refl _) _) nq⟩

set_option maxHeartbeats 1000000 in
theorem meets_5_3_3 (r s c p q : Int) (w : World) (hN : NamesAt w) (hr : r % 3 = 2) (hs : s % 3 = 2) (hc : c % 8 = 4) (hp : 0 ≤ p) (hq : 0 ≤ q) (hc0 : 0 ≤ c) (hr0 : 0 ≤ r) (hs0 : 0 ≤ s) :
    Calls Tryd.prog 4 #[.int .u64 r, .int .u64 s, .agg #[.int .u64 c, .int .u64 p, .int .u64 q]] w fun e w' => e = .returned (.bool true) ∧ Below w.heap.size w w' := by
  have HN := Lib.hid (show ∀ nq, NamesAt ((w.alloc (Obj.cells #[Value.int IntKind.u64 c, Value.int IntKind.u64 p, Value.int IntKind.u64 q] 29)).drewN nq) from fun nq => hN.below (below_drewN ((Below.refl _ w).alloc (Nat.le_refl _) _) nq))
  clear hN
  have e1 := Lib.hid (show 1 + c % 8 = 5 by omega)
  have e2 := Lib.hid (show 1 + r % 3 = 3 by omega)
  have e3 := Lib.hid (show 1 + s % 3 = 3 by omega)
  have N1 := Lib.hid (show needI 3 5 = 5 by decide +kernel)
  have N2 := Lib.hid (show needI 3 5 = 5 by decide +kernel)
  have M1 := Lib.hid (show meetB 3 3 5 = true by decide +kernel)
  have M2 := Lib.hid (show meetB 2 2 5 = true by decide +kernel)
  have M3 := Lib.hid (show meetB 3 1 5 = true by decide +kernel)
  have hlh : bits .and .u64 31 31 = 31 := by decide +kernel
  clear hc hr hs
  go_enter Tryd.func4, Tryd.ntmps4
  go_wp2
  rw [e1.out, e2.out, e3.out]
  go_quiet (fail)
  have HN := Lib.hid (HN.out nq)
  obtain ⟨P, hP, hP2⟩ : ∃ P : Nat, p % 32 = P ∧ P < 32 := ⟨(p % 32).toNat, by omega, by omega⟩
  obtain ⟨Q, hQ, hQ2⟩ : ∃ Q : Nat, q % 32 = Q ∧ Q < 32 := ⟨(q % 32).toNat, by omega, by omega⟩
  rw [hP, hQ]
  have hb := and_small P Q (by omega) (by omega)
  have hz : P &&& Q = 0 → popc P + popc Q ≤ 5 := fun h => popc_apart P Q 5 h (by omega) hP2 hQ2
  have HZ := Lib.hid hz
  have HX := Lib.hid (popc_le P)
  have HY := Lib.hid (popc_le Q)
  clear hz e1 e2 e3 hP hQ hp hq hc0 hr0 hs0
  by_cases h1 : ((popc P : Nat) : Int) ≥ 5
  · by_cases h2 : ((popc Q : Nat) : Int) ≥ 5
    · by_cases h3 : P &&& Q = 0
      · exfalso; have := HZ.out h3; omega
      · have h4 : ¬ ((P &&& Q : Nat) : Int) = 0 := by omega
        have h5 := beq_false_of_ne h4
        go_wp2_with (first
          | (go_at_call 16; refine (bits_any _ _ (by omega)).mono ?_; rintro e w' ⟨rfl, rfl⟩)
          | (go_at_call 9; refine (need_any _ _ _ (by omega)).mono ?_; rintro e w' ⟨rfl, rfl⟩; first | rw [N1.out] | rw [N2.out])
          | (go_at_call 13; refine (meet_any _ _ _ _ (by omega) (by omega)).mono ?_; rintro e w' ⟨rfl, rfl⟩; first | rw [M1.out] | rw [M2.out] | rw [M3.out])
          | (go_at_call 15; refine (lives_any _ HN.out).mono ?_; rintro e w' ⟨rfl, rfl⟩))
        go_ret
        exact ⟨rfl, below_drewN ((Below.refl _ w).alloc (Nat.le_refl _) _) nq⟩
    · go_wp2_with (first
        | (go_at_call 16; refine (bits_any _ _ (by omega)).mono ?_; rintro e w' ⟨rfl, rfl⟩)
        | (go_at_call 9; refine (need_any _ _ _ (by omega)).mono ?_; rintro e w' ⟨rfl, rfl⟩; first | rw [N1.out] | rw [N2.out])
        | (go_at_call 13; refine (meet_any _ _ _ _ (by omega) (by omega)).mono ?_; rintro e w' ⟨rfl, rfl⟩; first | rw [M1.out] | rw [M2.out] | rw [M3.out])
        | (go_at_call 15; refine (lives_any _ HN.out).mono ?_; rintro e w' ⟨rfl, rfl⟩))
      go_ret
      exact ⟨rfl, below_drewN ((Below.refl _ w).alloc (Nat.le_refl _) _) nq⟩
  · go_wp2_with (first
      | (go_at_call 16; refine (bits_any _ _ (by omega)).mono ?_; rintro e w' ⟨rfl, rfl⟩)
      | (go_at_call 9; refine (need_any _ _ _ (by omega)).mono ?_; rintro e w' ⟨rfl, rfl⟩; first | rw [N1.out] | rw [N2.out])
      | (go_at_call 13; refine (meet_any _ _ _ _ (by omega) (by omega)).mono ?_; rintro e w' ⟨rfl, rfl⟩; first | rw [M1.out] | rw [M2.out] | rw [M3.out])
      | (go_at_call 15; refine (lives_any _ HN.out).mono ?_; rintro e w' ⟨rfl, rfl⟩))
    go_ret
    exact ⟨rfl, below_drewN ((Below.refl _ w).alloc (Nat.le_refl _) _) nq⟩

end Go.Proofs.YtojgecnhhaelkaaDoor
