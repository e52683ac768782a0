/- Lemmas for this claim's walk: no condition of their own. -/
import Derived.Test.YtfaogccfiklinaaDoorKbSq
import Derived.Test.YtfaogccfiklinaaDoorKbBy
import Derived.Test.YtfaogccfiklinaaDoorKbQx0
namespace Go.Proofs.YtfaogccfiklinaaDoor.Q
open Go.RowKit Go.Proofs.YtfaogccfiklinaaDoorW.PrintWords Go.Proofs.YtfaogccfiklinaaDoorW.PrintLast Go.Proofs.YtfaogccfiklinaaDoorW.PrintMore
attribute [local go_sem] max2_int min2_int max_two min_two max_three min_three max_four min_four
set_option linter.unusedVariables false
set_option linter.unusedSimpArgs false
def skerryref18_letter.f (a0 : Int) : Option (Bool) := if a0 ≥ 97 then (if a0 ≤ 122 then (some true) else (if a0 ≥ 65 then (some (decide (a0 ≤ 90))) else (some false))) else (if a0 ≥ 65 then (some (decide (a0 ≤ 90))) else (some false))
set_option maxHeartbeats 8000000 in
set_option maxRecDepth 100000 in
theorem skerryref18_letter.calls (a0 : Int) (r : Bool) (w : World) (h : skerryref18_letter.f a0 = some r) :
  Calls Tryd.prog 39 #[.int .u8 a0] w fun e w' => e = .returned (.bool r) ∧ Drawn0 w w' := by
 have H : (if a0 ≥ 97 then (if a0 ≤ 122 then (some true) else (if a0 ≥ 65 then (some (decide (a0 ≤ 90))) else (some false))) else (if a0 ≥ 65 then (some (decide (a0 ≤ 90))) else (some false))) = some r := h
 clear h
 by_cases c2 : a0 ≥ 97
 rotate_left
 ·
  rw [if_neg c2] at H
  have c2b0 : decide (97 ≤ a0) = false := decide_eq_false c2
  clear c2
  by_cases c5 : a0 ≥ 65
  ·
   rw [if_pos c5] at H
   have c5b0 : decide (65 ≤ a0) = true := decide_eq_true c5
   clear c5
   obtain rfl := Option.some.inj H
   go_enter Tryd.func39, Tryd.ntmps39
   go_wp2
   go_ret
   exact ⟨by first | rfl | (simp; done) | (simp [*]; done), by repeat (first | exact Drawn0.refl _ | apply Drawn0.step)⟩
  ·
   rw [if_neg c5] at H
   have c5b0 : decide (65 ≤ a0) = false := decide_eq_false c5
   clear c5
   obtain rfl := Option.some.inj H
   go_enter Tryd.func39, Tryd.ntmps39
   go_wp2
   go_ret
   exact ⟨by first | rfl | (simp; done) | (simp [*]; done), by repeat (first | exact Drawn0.refl _ | apply Drawn0.step)⟩
 rw [if_pos c2] at H
 have c2b0 : decide (97 ≤ a0) = true := decide_eq_true c2
 clear c2
 by_cases c3 : a0 ≤ 122
 ·
  rw [if_pos c3] at H
  have c3b0 : decide (a0 ≤ 122) = true := decide_eq_true c3
  clear c3
  obtain rfl := Option.some.inj H
  go_enter Tryd.func39, Tryd.ntmps39
  go_wp2
  go_ret
  exact ⟨by first | rfl | (simp; done) | (simp [*]; done), by repeat (first | exact Drawn0.refl _ | apply Drawn0.step)⟩
 ·
  rw [if_neg c3] at H
  have c3b0 : decide (a0 ≤ 122) = false := decide_eq_false c3
  clear c3
  by_cases c4 : a0 ≥ 65
  ·
   rw [if_pos c4] at H
   have c4b0 : decide (65 ≤ a0) = true := decide_eq_true c4
   clear c4
   obtain rfl := Option.some.inj H
   go_enter Tryd.func39, Tryd.ntmps39
   go_wp2
   go_ret
   exact ⟨by first | rfl | (simp; done) | (simp [*]; done), by repeat (first | exact Drawn0.refl _ | apply Drawn0.step)⟩
  ·
   rw [if_neg c4] at H
   have c4b0 : decide (65 ≤ a0) = false := decide_eq_false c4
   clear c4
   obtain rfl := Option.some.inj H
   go_enter Tryd.func39, Tryd.ntmps39
   go_wp2
   go_ret
   exact ⟨by first | rfl | (simp; done) | (simp [*]; done), by repeat (first | exact Drawn0.refl _ | apply Drawn0.step)⟩
def lowG (c : Int) : Int := if 65 ≤ c ∧ c ≤ 90 then (c + 32) % 256 else c
def skerryref18_Lower.f (a0 : ByteArray) : Option (ByteArray) := if a0.size ≤ 9223372036854775807 then some (By.mapB lowG a0) else none
set_option maxHeartbeats 1000000 in
set_option maxRecDepth 100000 in
theorem skerryref18_Lower.calls (a0 : ByteArray) (r : ByteArray) (w : World) (h : skerryref18_Lower.f a0 = some r) :
  Calls Tryd.prog 53 #[.string a0] w fun e w' => e = .returned (.string r) ∧ Below w.heap.size w w' := by
 unfold skerryref18_Lower.f at h
 split at h
 case isFalse => cases h
 rename_i hs
 obtain rfl := Option.some.inj h
 clear h
 have kb := fun W => print_bytes (P := Tryd.prog) 9 58 5 Tryd.underlying9 Tryd.underlying58 Tryd.underlying5 a0 W
 have hb0 := bytes_below (Below.refl w.heap.size w) (Nat.le_refl _) 5 a0
 have hR := By.RowB.made w 5 a0
 have hlt : w.heap.size < (Lib.bytesWorld w 5 a0).heap.size := by rw [Lib.bytesWorld_size]; omega
 obtain ⟨cap, hcap⟩ : ∃ c, grownCap w a0.size 0 5 = c := ⟨_, rfl⟩
 have kb0 := kb w
 rw [hcap] at kb0
 obtain ⟨w1, hw1⟩ : ∃ w1, Lib.bytesWorld w 5 a0 = w1 := ⟨_, rfl⟩
 rw [hw1] at kb0 hb0 hR hlt
 have hL := bytesOf_length a0
 obtain ⟨l, hl⟩ : ∃ l, bytesOf a0 = l := ⟨_, rfl⟩
 have hbt : ∀ i, i < a0.size → l[i]? = some (bt a0 i) := fun i hi => by rw [← hl]; exact By.bytesOf_get' a0 i hi
 rw [hl] at hR hL
 have HBT := Lib.hid hbt
 have HL := Lib.hid hL
 have HR := Lib.hid hR
 have HB0 := Lib.hid hb0
 have HLT := Lib.hid hlt
 have HE := Lib.hid (show By.mapB lowG a0 = strOfNums (l.map lowG) by unfold By.mapB; rw [hl])
 clear kb hbt hL hR hb0 hlt hl hw1 hcap
 go_enter Tryd.func53, Tryd.ntmps53
 go_wp2
 clear kb0
 go_loopg [10] a0.size (fun g1 v10 wr => ∃ i : Nat, v10 = .int .i64 i ∧ i ≤ a0.size ∧ a0.size - i ≤ g1 ∧ Aside0 (By.RowB wr w.heap.size (By.upto lowG l i)) ∧ Aside0 (Below w.heap.size w wr) ∧ Aside0 (w.heap.size < wr.heap.size))
 case atStart => exact ⟨0, rfl, Nat.zero_le _, by omega, ⟨by rw [By.upto_zero]; exact HR.out⟩, ⟨HB0.out⟩, ⟨HLT.out⟩⟩
 case round =>
  obtain ⟨i, rfl, hi, hg, HRW, HBW, HLW⟩ := hrel
  by_cases h : i < a0.size
  rotate_left
  ·
   have hz : ¬ (i : Int) < (a0.size : Int) := by omega
   obtain rfl : i = a0.size := by omega
   have hR2 := HRW.out
   have e1 : By.upto lowG l a0.size = l.map lowG := by rw [← HL.out]; exact By.upto_all _ _
   rw [e1] at hR2
   have hcv := hR2.string (P := Tryd.prog) 58 5 9 Tryd.underlying58 Tryd.underlying5 Tryd.underlying9 cap
   rw [List.length_map, HL.out] at hcv
   clear hR2 e1
   go_wp2
   go_ret
   exact ⟨By.ret_s_ HE.out.symm, HBW.out⟩
  have hz : (i : Int) < (a0.size : Int) := by omega
  obtain ⟨y, hy⟩ : ∃ y, bt a0 i = y := ⟨_, rfl⟩
  have hy0 := bt_range a0 i
  have hli := HBT.out i h
  rw [hy] at hy0 hli
  obtain ⟨hy1, hy2⟩ := hy0
  have hc := HRW.out.cell i y (By.upto_get lowG l i y hli)
  have hf := HRW.out.free i (by rw [By.upto_length, HL.out]; exact h)
  have HLI := Lib.hid hli
  clear hli hy
  by_cases h1 : 65 ≤ y
  rotate_left
  ·
   have HG := Lib.hid (show lowG y = y by unfold lowG; rw [if_neg (by omega)])
   go_wp2
   go_roundg (a0.size - (i + 1))
   case measure => omega
   case rel => exact ⟨i + 1, by go_num, by omega, Nat.le_refl _, ⟨by rw [By.upto_same lowG l i y HLI.out HG.out]; exact HRW.out⟩, HBW, HLW⟩
  by_cases h2 : y ≤ 90
  rotate_left
  ·
   have HG := Lib.hid (show lowG y = y by unfold lowG; rw [if_neg (by omega)])
   go_wp2
   go_roundg (a0.size - (i + 1))
   case measure => omega
   case rel => exact ⟨i + 1, by go_num, by omega, Nat.le_refl _, ⟨by rw [By.upto_same lowG l i y HLI.out HG.out]; exact HRW.out⟩, HBW, HLW⟩
  have HG := Lib.hid (show lowG y = (y + 32) % 256 by unfold lowG; rw [if_pos ⟨h1, h2⟩])
  go_wp2
  go_roundg (a0.size - (i + 1))
  case measure => omega
  case rel => exact ⟨i + 1, by go_num, by omega, Nat.le_refl _, ⟨by
   have hs2 := HRW.out.set i ((y + 32) % 256) (by rw [By.upto_length, HL.out]; exact h)
   rw [By.upto_snoc lowG l i y HLI.out, HG.out]
   first | exact hs2 | (rw [show (y + 32) % 256 = y + 32 by omega] at hs2 ⊢; exact hs2)⟩, ⟨HBW.out.setCell (p := ⟨w.heap.size, i, none⟩) (Nat.le_refl _) _⟩, ⟨by simpa using HLW.out⟩⟩
end Go.Proofs.YtfaogccfiklinaaDoor.Q
