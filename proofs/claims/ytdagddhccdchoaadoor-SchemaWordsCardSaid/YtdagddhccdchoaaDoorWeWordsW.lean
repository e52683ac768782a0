/- Lemmas for this claim's walk: no condition of their own. -/
import Derived.Test.YtdagddhccdchoaaDoorWeJ10
import Derived.Test.YtdagddhccdchoaaDoorWeQx3
import Derived.Test.YtdagddhccdchoaaDoorWeQx9
import Derived.Test.YtdagddhccdchoaaDoorWeJ23
import Derived.Test.YtdagddhccdchoaaDoorWePSf
import Derived.Deep.MidRow
import Derived.WalkLawsBesides
import Derived.WalkSpells
import Derived.Lib.Hide
import Derived.Deep.DeepFit
import Derived.Outline
namespace Go.Proofs.YtdagddhccdchoaaDoor.Q
open Go.RowKit Go.Proofs.YtdagddhccdchoaaDoorW.PrintWords Go.Proofs.YtdagddhccdchoaaDoorW.PrintLast Go.Proofs.YtdagddhccdchoaaDoorW.PrintMore
attribute [local go_sem] max2_int min2_int max_two min_two max_three min_three max_four min_four
set_option linter.unusedVariables false
set_option linter.unusedSimpArgs false
def wordCells : Array Value := Pl.lawWords.toArray.map Value.string
theorem wordCells_get (i : Nat) (h : i < 25) : wordCells[i]? = some (.string (Pl.lawWords.getD i ⟨#[]⟩)) := by
 unfold wordCells
 have hl : Pl.lawWords.length = 25 := by decide +kernel
 rw [Array.getElem?_map, List.getElem?_toArray, List.getElem?_eq_getElem (by omega), List.getD_eq_getElem?_getD, List.getElem?_eq_getElem (by omega)]; rfl
theorem word_idx (i : Nat) (h : i < 25) (w : World) : (Instr.index 40 (.agg wordCells) (.int .i64 (i : Int))).run Tryd.prog w = .ok (.string (Pl.lawWords.getD i ⟨#[]⟩)) w := by
 have hu := Tryd.underlying40
 have h1 : (0 : Int) ≤ (i : Int) ∧ (i : Int) < 25 := by omega
 have h2 := wordCells_get i h
 rw [List.getD_eq_getElem?_getD] at h2 ⊢
 simp [Instr.index, asIntOf, run_underlying hu, h1, h, h2, go_sem]
theorem word_ok (i : Nat) (h : i < 25) : nameS (Pl.lawWords.getD i ⟨#[]⟩) = false ∧ nameS (Pl.lawWords.getD i ⟨#[]⟩ ++ ⟨#[122]⟩) = true ∧ (Pl.lawWords.getD i ⟨#[]⟩).size ≤ 11 := by
 have hall : ∀ w ∈ Pl.lawWords, w.size ≤ 11 := by decide +kernel
 have hl : Pl.lawWords.length = 25 := by decide +kernel
 rw [List.getD_eq_getElem?_getD, List.getElem?_eq_getElem (by omega)]
 exact ⟨(Pl.lawWords_ok _ (List.getElem_mem _)).1, (Pl.lawWords_ok _ (List.getElem_mem _)).2, hall _ (List.getElem_mem _)⟩
theorem words_lit : Value.agg #[.string ⟨#[99, 114, 101, 97, 116, 101]⟩, .string ⟨#[116, 97, 98, 108, 101]⟩, .string ⟨#[112, 114, 105, 109, 97, 114, 121]⟩, .string ⟨#[107, 101, 121]⟩, .string ⟨#[105, 110, 115, 101, 114, 116]⟩, .string ⟨#[105, 110, 116, 111]⟩, .string ⟨#[118, 97, 108, 117, 101, 115]⟩, .string ⟨#[117, 115, 105, 110, 103]⟩, .string ⟨#[116, 105, 109, 101, 115, 116, 97, 109, 112]⟩, .string ⟨#[99, 111, 110, 115, 105, 115, 116, 101, 110, 99, 121]⟩, .string ⟨#[117, 112, 100, 97, 116, 101]⟩, .string ⟨#[115, 101, 116]⟩, .string ⟨#[119, 104, 101, 114, 101]⟩, .string ⟨#[97, 110, 100]⟩, .string ⟨#[100, 101, 108, 101, 116, 101]⟩, .string ⟨#[102, 114, 111, 109]⟩, .string ⟨#[115, 101, 108, 101, 99, 116]⟩, .string ⟨#[108, 105, 109, 105, 116]⟩, .string ⟨#[111, 110, 101]⟩, .string ⟨#[113, 117, 111, 114, 117, 109]⟩, .string ⟨#[97, 108, 108]⟩, .string ⟨#[116, 101, 120, 116]⟩, .string ⟨#[105, 110, 116]⟩, .string ⟨#[]⟩, .string ⟨#[115, 101, 108, 101, 99, 116]⟩] = .agg wordCells := by kernel_rfl
def skerrylaw17_SchemaWords.f (k : Nat) (a0 : ByteArray) : Option Bool := some true
set_option maxHeartbeats 1000000 in
set_option maxRecDepth 100000 in
theorem skerrylaw17_SchemaWords.calls (k : Nat) (a0 : ByteArray) (r : Bool) (w : World) (h : skerrylaw17_SchemaWords.f k a0 = some r) :
  Calls Tryd.prog 6 #[.string a0] w fun e w' => e = .returned (.bool r) ∧ Below w.heap.size w w' := by
 obtain rfl := Option.some.inj h
 clear h
 have HLV := Lib.hid (fun (W : World) => skerrylaw17_lives.calls 300 true W (Pl.lives 300 (by omega)))
 have HUP := Lib.hid (Pl.upper_no a0)
 have HLA := Lib.hid (Pl.last_ok a0)
 have HNM := Lib.hid (fun (s : ByteArray) (b : Bool) (W : World) (h : nameS s = b) => schema_Name.calls s b W (by rw [← h]; rfl))
 have HB := Aside0.mk (Below.refl w.heap.size w)
 go_enter Tryd.func6, Tryd.ntmps6
 go_upto_region 1 with fail
 go_wp2_with fail
 rw [words_lit]
 go_loopg [4, 7] 25 (fun gk v4 v7 wr => ∃ i : Nat, v7 = .int .i64 i ∧ Aside0 (i ≤ 25 ∧ 25 - i ≤ gk) ∧ Aside0 (Below w.heap.size w wr))
 case atStart => exact ⟨0, rfl, ⟨by omega, by omega⟩, ⟨HB.out⟩⟩
 case round =>
  obtain ⟨i, rfl, HI, HBW⟩ := hrel
  by_cases hi : i < 25
  ·
   have hz : (i : Int) < 25 := by omega
   have hx := word_idx i hi
   have hq := word_ok i hi
   generalize Pl.lawWords.getD i ⟨#[]⟩ = x at hx hq
   have HQ := Lib.hid hq
   have hxs : x.size ≤ 11 := hq.2.2
   clear hq
   have hmax : IntKind.i64.wrap (i + 1) = (i : Int) + 1 := by unfold IntKind.wrap; simp [IntKind.bits, IntKind.signed]; omega
   go_wp2_with (first | (go_at_call 9; (with_reducible refine (HNM.out _ false _ HQ.out.1).mono ?_); rintro e w1 ⟨rfl, hb1⟩; have HB1 := Lib.hid (below_step HBW.out hb1); clear hb1) | (go_at_call 9; (with_reducible refine (HNM.out _ true _ HQ.out.2.1).mono ?_); rintro e w2 ⟨rfl, hb2⟩; have HB2 := Lib.hid (below_step HB1.out hb2); clear hb2))
   go_roundg (25 - (i + 1))
   case measure => have := HI.out; omega
   case rel => exact ⟨i + 1, by go_num, ⟨by omega, Nat.le_refl _⟩, ⟨HB2.out⟩⟩
  ·
   have hz : ¬ (i : Int) < 25 := by omega
   have HBR := Aside0.mk HBW.out
   clear HBW HI
   by_cases hs : a0.size ≤ 1000
   ·
    have hs1 : ¬ (a0.size : Int) > 1000 := by omega
    have hs2 : decide (1000 < (a0.size : Int)) = false := decide_eq_false (by omega)
    have hs3 : decide (1000 < a0.size) = false := decide_eq_false (by omega)
    go_wp2_with fail
    go_loopg [5, 25] a0.size (fun gk v5 v25 wx => ∃ i : Nat, v25 = .int .i64 i ∧ Aside0 (i ≤ a0.size ∧ a0.size - i ≤ gk) ∧ Aside0 (Below w.heap.size w wx))
    case atStart => exact ⟨0, rfl, ⟨by omega, by omega⟩, ⟨HBR.out⟩⟩
    case round =>
     obtain ⟨i, rfl, HI, HBX⟩ := hrel
     by_cases hi : i < a0.size
     ·
      have hz : (i : Int) < (a0.size : Int) := by omega
      have hz0 : (0 : Int) ≤ (i : Int) := by omega
      have hmax : IntKind.i64.wrap (i + 1) = (i : Int) + 1 := by unfold IntKind.wrap; simp [IntKind.bits, IntKind.signed]; omega
      have hU := HUP.out i hi
      have hx : ∀ h : i < a0.size, ((a0[i]'h).toNat : Int) = bt a0 (i : Int) := by have := bt_at a0 (i : Int); simpa using this
      generalize bt a0 (i : Int) = y at hx hU
      have HU := Lib.hid hU
      clear hU
      by_cases h1 : 65 ≤ y
      ·
       have d1 : decide (65 ≤ y) = true := decide_eq_true h1
       by_cases h2 : y ≤ 90
       ·
        have d2 : decide (y ≤ 90) = true := decide_eq_true h2
        have HN := Lib.hid (HU.out h1 h2)
        go_wp2_with (go_at_call 9; (with_reducible refine (HNM.out _ false _ HN.out).mono ?_); rintro e w1 ⟨rfl, hb1⟩; have HB1 := Lib.hid (below_step HBX.out hb1); clear hb1)
        go_roundg (a0.size - (i + 1))
        case measure => have := HI.out; omega
        case rel => exact ⟨i + 1, by go_num, ⟨by omega, Nat.le_refl _⟩, ⟨HB1.out⟩⟩
       ·
        have d2 : decide (y ≤ 90) = false := decide_eq_false h2
        go_wp2_with fail
        go_roundg (a0.size - (i + 1))
        case measure => have := HI.out; omega
        case rel => exact ⟨i + 1, by go_num, ⟨by omega, Nat.le_refl _⟩, HBX⟩
      ·
       have d1 : decide (65 ≤ y) = false := decide_eq_false h1
       go_wp2_with fail
       go_roundg (a0.size - (i + 1))
       case measure => have := HI.out; omega
       case rel => exact ⟨i + 1, by go_num, ⟨by omega, Nat.le_refl _⟩, HBX⟩
     ·
      have hz : ¬ (i : Int) < (a0.size : Int) := by omega
      have HBY := Lib.hid HBX.out
      have hc1 : ¬ (a0.size + (⟨#[57]⟩ : ByteArray).size > 9223372036854775807) := by show ¬ (a0.size + 1 > _); omega
      have hc2 : ¬ (9223372036854775807 < a0.size + 1) := by omega
      have hc3 : decide (9223372036854775807 < a0.size + 1) = false := decide_eq_false hc2
      have HL2 := Lib.hid HLA.out
      clear HBX HI
      cases hn : nameS a0 with
      | false =>
       have HN := Lib.hid hn
       clear hn
       go_wp2_with (first | (go_at_call 9; (with_reducible refine (HNM.out _ false _ HN.out).mono ?_); rintro e w1 ⟨rfl, hb1⟩; have HB1 := Lib.hid (below_step HBY.out hb1); clear hb1) | (go_at_call 8; (with_reducible refine (HLV.out _).mono ?_); rintro e w2 ⟨rfl, hb2⟩; have HB2 := Lib.hid (below_step HB1.out hb2); clear hb2))
       go_ret
       exact ⟨rfl, HB2.out⟩
      | true =>
       have HN := Lib.hid hn
       by_cases h16 : a0.size = 16
       ·
        have h16a : ((a0.size : Int) == 16) = true := by rw [h16]; rfl
        have h16b : decide ((a0.size : Int) = 16) = true := decide_eq_true (by omega)
        have h16c : (a0.size : Int) = 16 := by omega
        clear hn
        go_wp2_with (first | (go_at_call 9; (with_reducible refine (HNM.out _ true _ HN.out).mono ?_); rintro e w1 ⟨rfl, hb1⟩; have HB1 := Lib.hid (below_step HBY.out hb1); clear hb1) | (go_at_call 8; (with_reducible refine (HLV.out _).mono ?_); rintro e w2 ⟨rfl, hb2⟩; have HB2 := Lib.hid (below_step HB1.out hb2); clear hb2))
        go_ret
        exact ⟨rfl, HB2.out⟩
       ·
        have h16a : ((a0.size : Int) == 16) = false := beq_eq_false_iff_ne.2 (by omega)
        have h16b : decide ((a0.size : Int) = 16) = false := decide_eq_false (by omega)
        have h16c : ¬ (a0.size : Int) = 16 := by omega
        have HN2 := Lib.hid (HL2.out.elim (fun e => by rw [hn] at e; cases e) (fun h => h.elim (fun e => absurd e h16) id) : nameS (a0 ++ ⟨#[57]⟩) = true)
        clear hn
        go_wp2_with (first | (go_at_call 9; (with_reducible refine (HNM.out _ true _ HN.out).mono ?_); rintro e w1 ⟨rfl, hb1⟩; have HB1 := Lib.hid (below_step HBY.out hb1); clear hb1) | (go_at_call 9; (with_reducible refine (HNM.out _ true _ HN2.out).mono ?_); rintro e w3 ⟨rfl, hb3⟩; have HB3 := Lib.hid (below_step HB1.out hb3); clear hb3) | (go_at_call 8; (with_reducible refine (HLV.out _).mono ?_); rintro e w2 ⟨rfl, hb2⟩; have HB2 := Lib.hid (below_step HB3.out hb2); clear hb2))
        go_ret
        exact ⟨rfl, HB2.out⟩
   ·
    have hs1 : (a0.size : Int) > 1000 := by omega
    have hs2 : decide (1000 < (a0.size : Int)) = true := decide_eq_true (by omega)
    have hs3 : decide (1000 < a0.size) = true := decide_eq_true (by omega)
    go_wp2_with (go_at_call 8; (with_reducible refine (HLV.out _).mono ?_); rintro e w1 ⟨rfl, hb1⟩; have HB1 := Lib.hid (below_step HBR.out hb1); clear hb1)
    go_ret
    exact ⟨rfl, HB1.out⟩
end Go.Proofs.YtdagddhccdchoaaDoor.Q
