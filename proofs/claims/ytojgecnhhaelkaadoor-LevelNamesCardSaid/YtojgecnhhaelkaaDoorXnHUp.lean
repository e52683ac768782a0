/- Lemmas for this claim's walk: no condition of their own. -/
import Derived.Test.YtojgecnhhaelkaaDoorXnWWords
import Derived.Test.YtojgecnhhaelkaaDoorXnBy
import Derived.Deep.MidRow
import Derived.WalkLawsBesides
import Derived.WalkSpells
import Derived.Lib.Hide
import Derived.Deep.DeepFit
import Derived.Outline
namespace Go.Proofs.YtojgecnhhaelkaaDoor.Q
open Go.RowKit Go.Proofs.YtojgecnhhaelkaaDoorW.PrintWords Go.Proofs.YtojgecnhhaelkaaDoorW.PrintLast Go.Proofs.YtojgecnhhaelkaaDoorW.PrintMore
attribute [local go_sem] max2_int min2_int max_two min_two max_three min_three max_four min_four
set_option linter.unusedVariables false
set_option linter.unusedSimpArgs false
def upG (c : Int) : Int := if 97 ≤ c ∧ c ≤ 122 then (c - 32) % 256 else c
def skerryref16_Upper.f (a0 : ByteArray) : Option (ByteArray) := if a0.size ≤ 9223372036854775807 then some (By.mapB upG a0) else none
set_option maxHeartbeats 1000000 in
set_option maxRecDepth 100000 in
theorem skerryref16_Upper.calls (a0 : ByteArray) (r : ByteArray) (w : World) (h : skerryref16_Upper.f a0 = some r) :
  Calls Tryd.prog 19 #[.string a0] w fun e w' => e = .returned (.string r) ∧ Below w.heap.size w w' := by
 unfold skerryref16_Upper.f at h
 split at h
 case isFalse => cases h
 rename_i hs
 obtain rfl := Option.some.inj h
 clear h
 have kb := fun W => print_bytes (P := Tryd.prog) 9 41 5 Tryd.underlying9 Tryd.underlying41 Tryd.underlying5 a0 W
 have hb0 := bytes_below (Below.refl w.heap.size w) (Nat.le_refl _) 5 a0
 have hR := By.RowB.made w 5 a0
 have hlt : w.heap.size < (Lib.bytesWorld w 5 a0).heap.size := by rw [Lib.bytesWorld_size]; omega
 obtain ⟨cap, hcap⟩ : ∃ c, grownCap w a0.size 0 5 = c := ⟨_, rfl⟩
 have kb0 := kb w
 rw [hcap] at kb0
 obtain ⟨w1, hw1⟩ : ∃ w1, Lib.bytesWorld w 5 a0 = w1 := ⟨_, rfl⟩
 rw [hw1] at kb0 hb0 hR hlt
 have hL := bytesOf_length a0
 obtain ⟨l, hl⟩ : ∃ l, bytesOf a0 = l := ⟨_, rfl⟩
 have hbt : ∀ i, i < a0.size → l[i]? = some (bt a0 i) := fun i hi => by rw [← hl]; exact By.bytesOf_get' a0 i hi
 rw [hl] at hR hL
 have HBT := Lib.hid hbt
 have HL := Lib.hid hL
 have HR := Lib.hid hR
 have HB0 := Lib.hid hb0
 have HLT := Lib.hid hlt
 have HE := Lib.hid (show By.mapB upG a0 = strOfNums (l.map upG) by unfold By.mapB; rw [hl])
 clear kb hbt hL hR hb0 hlt hl hw1 hcap
 go_enter Tryd.func19, Tryd.ntmps19
 go_wp2
 clear kb0
 go_loopg [10] a0.size (fun g1 v10 wr => ∃ i : Nat, v10 = .int .i64 i ∧ i ≤ a0.size ∧ a0.size - i ≤ g1 ∧ Aside0 (By.RowB wr w.heap.size (By.upto upG l i)) ∧ Aside0 (Below w.heap.size w wr) ∧ Aside0 (w.heap.size < wr.heap.size))
 case atStart => exact ⟨0, rfl, Nat.zero_le _, by omega, ⟨by rw [By.upto_zero]; exact HR.out⟩, ⟨HB0.out⟩, ⟨HLT.out⟩⟩
 case round =>
  obtain ⟨i, rfl, hi, hg, HRW, HBW, HLW⟩ := hrel
  by_cases h : i < a0.size
  ·
   have hz : (i : Int) < (a0.size : Int) := by omega
   obtain ⟨y, hy⟩ : ∃ y, bt a0 i = y := ⟨_, rfl⟩
   have hy0 := bt_range a0 i
   have hli := HBT.out i h
   rw [hy] at hy0 hli
   obtain ⟨hy1, hy2⟩ := hy0
   have hc := HRW.out.cell i y (By.upto_get upG l i y hli)
   have hf := HRW.out.free i (by rw [By.upto_length, HL.out]; exact h)
   have HLI := Lib.hid hli
   clear hli hy
   by_cases h1 : 97 ≤ y
   ·
    by_cases h2 : y ≤ 122
    ·
     have HG := Lib.hid (show upG y = (y - 32) % 256 by unfold upG; rw [if_pos ⟨h1, h2⟩])
     go_wp2
     go_roundg (a0.size - (i + 1))
     case measure => omega
     case rel => exact ⟨i + 1, by go_num, by omega, Nat.le_refl _, ⟨by
      have hs2 := HRW.out.set i ((y - 32) % 256) (by rw [By.upto_length, HL.out]; exact h)
      rw [By.upto_snoc upG l i y HLI.out, HG.out]
      first | exact hs2 | (rw [show (y - 32) % 256 = y - 32 by omega] at hs2 ⊢; exact hs2)⟩, ⟨HBW.out.setCell (p := ⟨w.heap.size, i, none⟩) (Nat.le_refl _) _⟩, ⟨by simpa using HLW.out⟩⟩
    ·
     have HG := Lib.hid (show upG y = y by unfold upG; rw [if_neg (by omega)])
     go_wp2
     go_roundg (a0.size - (i + 1))
     case measure => omega
     case rel => exact ⟨i + 1, by go_num, by omega, Nat.le_refl _, ⟨by rw [By.upto_same upG l i y HLI.out HG.out]; exact HRW.out⟩, HBW, HLW⟩
   ·
    have HG := Lib.hid (show upG y = y by unfold upG; rw [if_neg (by omega)])
    go_wp2
    go_roundg (a0.size - (i + 1))
    case measure => omega
    case rel => exact ⟨i + 1, by go_num, by omega, Nat.le_refl _, ⟨by rw [By.upto_same upG l i y HLI.out HG.out]; exact HRW.out⟩, HBW, HLW⟩
  ·
   have hz : ¬ (i : Int) < (a0.size : Int) := by omega
   obtain rfl : i = a0.size := by omega
   have hR2 := HRW.out
   have e1 : By.upto upG l a0.size = l.map upG := by rw [← HL.out]; exact By.upto_all _ _
   rw [e1] at hR2
   have hcv := hR2.string (P := Tryd.prog) 41 5 9 Tryd.underlying41 Tryd.underlying5 Tryd.underlying9 cap
   rw [List.length_map, HL.out] at hcv
   clear hR2 e1
   go_wp2
   go_ret
   exact ⟨By.ret_s_ HE.out.symm, HBW.out⟩
end Go.Proofs.YtojgecnhhaelkaaDoor.Q
