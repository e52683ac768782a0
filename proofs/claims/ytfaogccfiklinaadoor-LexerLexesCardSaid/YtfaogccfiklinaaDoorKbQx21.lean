/- Lemmas for this claim's walk: no condition of their own. -/
import Derived.Test.YtfaogccfiklinaaDoorKbSq
import Derived.Test.YtfaogccfiklinaaDoorKbBy
import Derived.Test.YtfaogccfiklinaaDoorKbQx0
import Derived.Test.YtfaogccfiklinaaDoorKbQx19
import Derived.Test.YtfaogccfiklinaaDoorKbQx20
namespace Go.Proofs.YtfaogccfiklinaaDoor.Q
open Go.RowKit Go.Proofs.YtfaogccfiklinaaDoorW.PrintWords Go.Proofs.YtfaogccfiklinaaDoorW.PrintLast Go.Proofs.YtfaogccfiklinaaDoorW.PrintMore
attribute [local go_sem] max2_int min2_int max_two min_two max_three min_three max_four min_four
set_option linter.unusedVariables false
set_option linter.unusedSimpArgs false
def skerryref18_Word.f (k : Nat) (a0 : ByteArray) : Option (Bool) := (skerryref18_Lower.f a0).bind fun t265 => ((skerryref17_Word.f k t265).bind fun t266 => (some t266))
set_option maxHeartbeats 8000000 in
set_option maxRecDepth 100000 in
theorem skerryref18_Word.calls (k : Nat) (a0 : ByteArray) (r : Bool) (w : World) (h : skerryref18_Word.f k a0 = some r) :
  Calls Tryd.prog 50 #[.string a0] w fun e w' => e = .returned (.bool r) ∧ Below w.heap.size w w' := by
 have HB := Aside0.mk (Below.refl w.heap.size w)
 have H : ((skerryref18_Lower.f a0).bind fun t265 => ((skerryref17_Word.f k t265).bind fun t266 => (some t266))) = some r := h
 clear h
 replace H := Option.bind_eq_some_iff.mp H
 obtain ⟨t265, A20, H⟩ := H
 have A2 := Aside0.mk A20
 clear A20
 replace H := Option.bind_eq_some_iff.mp H
 obtain ⟨t266, A30, H⟩ := H
 have A3 := Aside0.mk A30
 clear A30
 obtain rfl := Option.some.inj H
 go_enter Tryd.func50, Tryd.ntmps50
 go_wp2_with (first | ((with_reducible refine gate_callee (f := 53) rfl ?_); refine goesL_ (some 4) rfl rfl Tryd.func53 (by kernel_rfl) rfl #[.string a0] rfl (by (try simp only [mT_, mC_, mN_]); first | done | rfl) ?_; (with_reducible refine (skerryref18_Lower.calls a0 t265 _ A2.out).mono ?_); rintro e w4 ⟨rfl, hb⟩; refine ⟨_, rfl, ?_⟩; replace HB := Aside0.mk (below_step (kwW HB) hb); (try clear hb); (try clear hb2); (try clear hk); (try clear hi)) | ((with_reducible refine gate_callee (f := 58) rfl ?_); refine goesL_ (some 5) rfl rfl Tryd.func58 (by kernel_rfl) rfl #[.string t265] rfl (by (try simp only [mT_, mC_, mN_]); first | done | rfl) ?_; (with_reducible refine (skerryref17_Word.calls k t265 t266 _ A3.out).mono ?_); rintro e w' ⟨rfl, ⟨nd, rfl⟩⟩; refine ⟨_, rfl, ?_⟩))
 go_ret
 exact ⟨by first | rfl | (simp <;> rfl) | (simp [*] <;> rfl), kwW HB⟩
def upG (c : Int) : Int := if 97 ≤ c ∧ c ≤ 122 then (c - 32) % 256 else c
def skerryref16_Upper.f (a0 : ByteArray) : Option (ByteArray) := if a0.size ≤ 9223372036854775807 then some (By.mapB upG a0) else none
set_option maxHeartbeats 1000000 in
set_option maxRecDepth 100000 in
theorem skerryref16_Upper.calls (a0 : ByteArray) (r : ByteArray) (w : World) (h : skerryref16_Upper.f a0 = some r) :
  Calls Tryd.prog 51 #[.string a0] w fun e w' => e = .returned (.string r) ∧ Below w.heap.size w w' := by
 unfold skerryref16_Upper.f at h
 split at h
 case isFalse => cases h
 rename_i hs
 obtain rfl := Option.some.inj h
 clear h
 have kb := fun W => print_bytes (P := Tryd.prog) 9 58 5 Tryd.underlying9 Tryd.underlying58 Tryd.underlying5 a0 W
 have hb0 := bytes_below (Below.refl w.heap.size w) (Nat.le_refl _) 5 a0
 have hR := By.RowB.made w 5 a0
 have hlt : w.heap.size < (Lib.bytesWorld w 5 a0).heap.size := by rw [Lib.bytesWorld_size]; omega
 obtain ⟨cap, hcap⟩ : ∃ c, grownCap w a0.size 0 5 = c := ⟨_, rfl⟩
 have kb0 := kb w
 rw [hcap] at kb0
 obtain ⟨w1, hw1⟩ : ∃ w1, Lib.bytesWorld w 5 a0 = w1 := ⟨_, rfl⟩
 rw [hw1] at kb0 hb0 hR hlt
 have hL := bytesOf_length a0
 obtain ⟨l, hl⟩ : ∃ l, bytesOf a0 = l := ⟨_, rfl⟩
 have hbt : ∀ i, i < a0.size → l[i]? = some (bt a0 i) := fun i hi => by rw [← hl]; exact By.bytesOf_get' a0 i hi
 rw [hl] at hR hL
 have HBT := Lib.hid hbt
 have HL := Lib.hid hL
 have HR := Lib.hid hR
 have HB0 := Lib.hid hb0
 have HLT := Lib.hid hlt
 have HE := Lib.hid (show By.mapB upG a0 = strOfNums (l.map upG) by unfold By.mapB; rw [hl])
 clear kb hbt hL hR hb0 hlt hl hw1 hcap
 go_enter Tryd.func51, Tryd.ntmps51
 go_wp2
 clear kb0
 go_loopg [10] a0.size (fun g1 v10 wr => ∃ i : Nat, v10 = .int .i64 i ∧ i ≤ a0.size ∧ a0.size - i ≤ g1 ∧ Aside0 (By.RowB wr w.heap.size (By.upto upG l i)) ∧ Aside0 (Below w.heap.size w wr) ∧ Aside0 (w.heap.size < wr.heap.size))
 case atStart => exact ⟨0, rfl, Nat.zero_le _, by omega, ⟨by rw [By.upto_zero]; exact HR.out⟩, ⟨HB0.out⟩, ⟨HLT.out⟩⟩
 case round =>
  obtain ⟨i, rfl, hi, hg, HRW, HBW, HLW⟩ := hrel
  by_cases h : i < a0.size
  rotate_left
  ·
   have hz : ¬ (i : Int) < (a0.size : Int) := by omega
   obtain rfl : i = a0.size := by omega
   have hR2 := HRW.out
   have e1 : By.upto upG l a0.size = l.map upG := by rw [← HL.out]; exact By.upto_all _ _
   rw [e1] at hR2
   have hcv := hR2.string (P := Tryd.prog) 58 5 9 Tryd.underlying58 Tryd.underlying5 Tryd.underlying9 cap
   rw [List.length_map, HL.out] at hcv
   clear hR2 e1
   go_wp2
   go_ret
   exact ⟨By.ret_s_ HE.out.symm, HBW.out⟩
  have hz : (i : Int) < (a0.size : Int) := by omega
  obtain ⟨y, hy⟩ : ∃ y, bt a0 i = y := ⟨_, rfl⟩
  have hy0 := bt_range a0 i
  have hli := HBT.out i h
  rw [hy] at hy0 hli
  obtain ⟨hy1, hy2⟩ := hy0
  have hc := HRW.out.cell i y (By.upto_get upG l i y hli)
  have hf := HRW.out.free i (by rw [By.upto_length, HL.out]; exact h)
  have HLI := Lib.hid hli
  clear hli hy
  by_cases h1 : 97 ≤ y
  rotate_left
  ·
   have HG := Lib.hid (show upG y = y by unfold upG; rw [if_neg (by omega)])
   go_wp2
   go_roundg (a0.size - (i + 1))
   case measure => omega
   case rel => exact ⟨i + 1, by go_num, by omega, Nat.le_refl _, ⟨by rw [By.upto_same upG l i y HLI.out HG.out]; exact HRW.out⟩, HBW, HLW⟩
  by_cases h2 : y ≤ 122
  rotate_left
  ·
   have HG := Lib.hid (show upG y = y by unfold upG; rw [if_neg (by omega)])
   go_wp2
   go_roundg (a0.size - (i + 1))
   case measure => omega
   case rel => exact ⟨i + 1, by go_num, by omega, Nat.le_refl _, ⟨by rw [By.upto_same upG l i y HLI.out HG.out]; exact HRW.out⟩, HBW, HLW⟩
  have HG := Lib.hid (show upG y = (y - 32) % 256 by unfold upG; rw [if_pos ⟨h1, h2⟩])
  go_wp2
  go_roundg (a0.size - (i + 1))
  case measure => omega
  case rel => exact ⟨i + 1, by go_num, by omega, Nat.le_refl _, ⟨by
   have hs2 := HRW.out.set i ((y - 32) % 256) (by rw [By.upto_length, HL.out]; exact h)
   rw [By.upto_snoc upG l i y HLI.out, HG.out]
   first | exact hs2 | (rw [show (y - 32) % 256 = y - 32 by omega] at hs2 ⊢; exact hs2)⟩, ⟨HBW.out.setCell (p := ⟨w.heap.size, i, none⟩) (Nat.le_refl _) _⟩, ⟨by simpa using HLW.out⟩⟩
end Go.Proofs.YtfaogccfiklinaaDoor.Q
