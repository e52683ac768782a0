/- Layer 16: plain facts on sets as bits, for LevelMeets. -/
import Derived.Test.YtojgecnhhaelkaaDoorLvA
import Derived.Laws.BitsLemmas
namespace Go.Proofs.YtojgecnhhaelkaaDoor
open Go.RowKit

/-- How many bits of a number below 256 are set. -/
def popc (n : Nat) : Nat := n % 2 + n / 2 % 2 + n / 4 % 2 + n / 8 % 2 + n / 16 % 2 + n / 32 % 2 + n / 64 % 2 + n / 128 % 2
theorem popc_step : ∀ n : Fin 256, 0 < n.val → popc (n.val &&& (n.val - 1)) + 1 = popc n.val := by decide +kernel
theorem popc_and_lt (n m : Nat) (h : n < 256) : n &&& m < 256 := Nat.lt_of_le_of_lt Nat.and_le_left h

theorem testBit_mod (n i : Nat) : n / 2 ^ i % 2 = (n.testBit i).toNat := by rw [Nat.testBit_eq_decide_div_mod_eq]; rcases Nat.mod_two_eq_zero_or_one (n / 2 ^ i) with h | h <;> simp [h]
theorem bit_apart (p q i : Nat) (h : p &&& q = 0) : p / 2 ^ i % 2 + q / 2 ^ i % 2 ≤ 1 := by
  rw [testBit_mod, testBit_mod]
  have hb : (p &&& q).testBit i = false := by rw [h]; simp
  rw [Nat.testBit_and] at hb
  cases h1 : p.testBit i <;> cases h2 : q.testBit i <;> simp_all
theorem bit_none (p n i : Nat) (h : p < 2 ^ n) (hi : n ≤ i) : p / 2 ^ i % 2 = 0 := by
  have : p < 2 ^ i := Nat.lt_of_lt_of_le h (Nat.pow_le_pow_right (by decide) hi)
  rw [Nat.div_eq_of_lt this]
/-- Two sets of replicas with none in common have together no more than there are. -/
theorem popc_apart (p q n : Nat) (h : p &&& q = 0) (hn : n ≤ 8) (hp : p < 2 ^ n) (hq : q < 2 ^ n) : popc p + popc q ≤ n := by
  have f : ∀ i, p / 2 ^ i % 2 + q / 2 ^ i % 2 ≤ if i < n then 1 else 0 := fun i => by
    split
    · exact bit_apart p q i h
    · rw [bit_none p n i hp (by omega), bit_none q n i hq (by omega)]; exact Nat.le_refl _
  have s : ∀ m : Fin 9, (if 0 < m.val then 1 else 0) + (if 1 < m.val then 1 else 0) + (if 2 < m.val then 1 else 0) + (if 3 < m.val then 1 else 0) + (if 4 < m.val then 1 else 0) + (if 5 < m.val then 1 else 0) + (if 6 < m.val then 1 else 0) + (if 7 < m.val then 1 else 0) = m.val := by decide
  have s := s ⟨n, by omega⟩
  have f0 := f 0; have f1 := f 1; have f2 := f 2; have f3 := f 3; have f4 := f 4; have f5 := f 5; have f6 := f 6; have f7 := f 7
  simp only [Nat.pow_zero, Nat.div_one, show (2 : Nat) ^ 1 = 2 from rfl, show (2 : Nat) ^ 2 = 4 from rfl, show (2 : Nat) ^ 3 = 8 from rfl, show (2 : Nat) ^ 4 = 16 from rfl, show (2 : Nat) ^ 5 = 32 from rfl, show (2 : Nat) ^ 6 = 64 from rfl, show (2 : Nat) ^ 7 = 128 from rfl] at f0 f1 f2 f3 f4 f5 f6 f7 s
  unfold popc
  generalize (if 0 < n then 1 else 0) = g0 at *; generalize (if 1 < n then 1 else 0) = g1 at *; generalize (if 2 < n then 1 else 0) = g2 at *; generalize (if 3 < n then 1 else 0) = g3 at *
  generalize (if 4 < n then 1 else 0) = g4 at *; generalize (if 5 < n then 1 else 0) = g5 at *; generalize (if 6 < n then 1 else 0) = g6 at *; generalize (if 7 < n then 1 else 0) = g7 at *
  generalize p % 2 = p0 at *; generalize p / 2 % 2 = p1 at *; generalize p / 4 % 2 = p2 at *; generalize p / 8 % 2 = p3 at *; generalize p / 16 % 2 = p4 at *; generalize p / 32 % 2 = p5 at *; generalize p / 64 % 2 = p6 at *; generalize p / 128 % 2 = p7 at *
  generalize q % 2 = q0 at *; generalize q / 2 % 2 = q1 at *; generalize q / 4 % 2 = q2 at *; generalize q / 8 % 2 = q3 at *; generalize q / 16 % 2 = q4 at *; generalize q / 32 % 2 = q5 at *; generalize q / 64 % 2 = q6 at *; generalize q / 128 % 2 = q7 at *
  clear f h hn hp hq
  omega

/-- Go's '&' of two small numbers. -/
theorem and_small (a b : Nat) (ha : a < 256) (hb : b < 256) : bits .and .u64 (a : Int) (b : Int) = ((a &&& b : Nat) : Int) :=
  (bits_nat .u64 8 (by decide) (fun n h0 h1 => by simp [IntKind.wrap, IntKind.bits, IntKind.signed]; omega) a b (by omega) (by omega)).1

set_option maxHeartbeats 400000 in
theorem bits_any (n : Nat) (w : World) (hn : n < 256) : Calls Tryd.prog 16 #[.int .u64 n] w fun e w' => e = .returned (.int .i64 (popc n)) ∧ w = w' := by
  go_enter Tryd.func16, Tryd.ntmps16
  go_wp2
  go_loop [0, 3] (fun v k => ∃ m c : Nat, m < 256 ∧ c ≤ 255 ∧ v = .int .u64 m ∧ k = .int .i64 c ∧ c + popc m = popc n) (fun v _ => (intOf v).toNat)
  case atStart => exact ⟨n, 0, hn, by omega, rfl, rfl, by omega⟩
  case round =>
    obtain ⟨m, c, hm, hc, rfl, rfl, hs⟩ := hrel
    have hp8 : popc n ≤ 8 := by unfold popc; omega
    by_cases h0 : 0 < m
    · have hst := popc_step ⟨m, hm⟩ h0
      simp only at hst
      have hlt : m &&& (m - 1) ≤ m - 1 := Nat.and_le_right
      have hand : bits .and .u64 (m : Int) ((m : Int) - 1) = ((m &&& (m - 1) : Nat) : Int) := by
        have := and_small m (m - 1) hm (by omega)
        rwa [show ((m - 1 : Nat) : Int) = (m : Int) - 1 by omega] at this
      have HS := Lib.hid hs; have HT := Lib.hid hst
      clear hs hst
      go_wp2
      go_round
      case rel => exact ⟨m &&& (m - 1), c + 1, by omega, by have := HS.out; omega, rfl, by go_num, by have := HS.out; have := HT.out; omega⟩
      case measure => simp only [intOf]; omega
    · obtain rfl : m = 0 := by omega
      have hz : popc 0 = 0 := rfl
      have HS := Lib.hid (show (c : Int) = popc n by rw [← hs, hz]; omega)
      clear hs hp8
      go_wp2
      go_ret
      exact ⟨ret_i HS.out, rfl⟩
end Go.Proofs.YtojgecnhhaelkaaDoor
