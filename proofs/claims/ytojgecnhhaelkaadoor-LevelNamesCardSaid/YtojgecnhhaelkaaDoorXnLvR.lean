/- Lemmas for this claim's walk: no condition of their own. -/
import Derived.Test.YtojgecnhhaelkaaDoorXnWWords
import Derived.Test.YtojgecnhhaelkaaDoorXnLvQ
import Derived.Deep.MidRow
import Derived.WalkLawsBesides
import Derived.WalkSpells
import Derived.Lib.Hide
import Derived.Deep.DeepFit
import Derived.Outline
namespace Go.Proofs.YtojgecnhhaelkaaDoor.Q
open Go.RowKit Go.Proofs.YtojgecnhhaelkaaDoorW.PrintWords Go.Proofs.YtojgecnhhaelkaaDoorW.PrintLast Go.Proofs.YtojgecnhhaelkaaDoorW.PrintMore
attribute [local go_sem] max2_int min2_int max_two min_two max_three min_three max_four min_four
set_option linter.unusedVariables false
set_option linter.unusedSimpArgs false
open Go.Lib
theorem rup_data (s : ByteArray) : (rup s).data.toList = s.data.toList.map LvU.upB := by
 unfold rup By.mapB strOfNums bytesOf
 simp only [List.map_map]
 first | rfl | (simp; rfl) | simp [LvU.upB, LvU.upG, upG, Function.comp_def]
theorem ba_eq {a b : ByteArray} : a = b ↔ a.data.toList = b.data.toList := ⟨fun h => by rw [h], fun h => ByteArray.ext (Array.toList_inj.mp h)⟩
theorem up_iff (t : List UInt8) (ht : ∀ b ∈ t, b.toNat < 128) (s : ByteArray) : ((⟨t.toArray⟩ : ByteArray) = upS s) ↔ ((⟨t.toArray⟩ : ByteArray) = rup s) := by
 rw [ba_eq, ba_eq (a := ⟨t.toArray⟩) (b := rup s), rup_data]
 show t = Lib.mapD LvU.upR s.data.toList ↔ _
 have h := LvU.map_eq t ht s.data.toList
 constructor
 ·
  intro e; exact (h.1 e.symm).symm
 ·
  intro e; exact (h.2 e.symm).symm
theorem idx_p (s : ByteArray) : Lib.idxOfS names3 (upS s) + 1 = p1 (rup s) := by
 rw [idx3]
 unfold p1 p2 p3
 have h1 := up_iff [79, 78, 69] (by decide) s
 have h2 := up_iff [81, 85, 79, 82, 85, 77] (by decide) s
 have h3 := up_iff [65, 76, 76] (by decide) s
 have e1 : nameS 1 = (⟨#[79, 78, 69]⟩ : ByteArray) := rfl
 have e2 : nameS 2 = (⟨#[81, 85, 79, 82, 85, 77]⟩ : ByteArray) := rfl
 have e3 : nameS 3 = (⟨#[65, 76, 76]⟩ : ByteArray) := rfl
 rw [e1, e2, e3]
 simp only [Lib.bytes_beq_iff, h1, h2, h3]
 repeat' split
 all_goals first | rfl | omega
theorem p_name (u : ByteArray) (h : p1 u ≠ 0) : nameS (p1 u) = u := by
 unfold p1 p2 p3 at h ⊢
 split
 ·
  rename_i h1; exact Lib.bytes_beq_iff _ _ |>.1 h1
 rename_i h1
 rw [if_neg h1] at h
 split
 ·
  rename_i h2; exact Lib.bytes_beq_iff _ _ |>.1 h2
 rename_i h2
 rw [if_neg h2] at h
 split
 ·
  rename_i h3; exact Lib.bytes_beq_iff _ _ |>.1 h3
 ·
  rename_i h3; rw [if_neg h3] at h; exact absurd rfl h
theorem parse_is (s : ByteArray) (w : World) (hs : s.size ≤ 10000) (hT : Lib.Utf8Tabs 1 2 w) (hN : NamesAt w) :
  Calls Tryd.prog 17 #[.string s] w fun e w' => e = .returned (.tuple #[.int .i64 (p1 (rup s)), .bool (p1 (rup s) != 0)]) ∧ Below w.heap.size w w' :=
 (parse_any s w hs hT hN).mono fun e w' ⟨he, hb⟩ => ⟨by
  rw [he, idx_p]
  have := idx_p s
  have hb2 := idx_bd (upS s)
  refine ret_ib rfl ?_
  rw [Bool.eq_iff_iff, decide_eq_true_eq, bne_iff_ne]
  omega, hb⟩
theorem tabs_below {w w' : World} (h : Lib.Utf8Tabs 1 2 w) (hb : Below w.heap.size w w') : Lib.Utf8Tabs 1 2 w' :=
 ⟨fun c hc => (hb.cell (World.block_lt_of_cell? w _ (h.1 c hc))).trans (h.1 c hc), fun i hi => ⟨(hb.cell (World.block_lt_of_cell? w _ (h.2 i hi).1)).trans (h.2 i hi).1, (hb.cell (World.block_lt_of_cell? w _ (h.2 i hi).2)).trans (h.2 i hi).2⟩⟩
theorem lead_back (j : Int) (hj : p1 (rup (nameS j)) = j) (h0 : j ≠ 0) (hz : (nameS j).size ≤ 10000) (w : World) (hT : Lib.Utf8Tabs 1 2 w) (hN : NamesAt w) :
  Calls Tryd.prog 17 #[.string (nameS j)] w fun e w' => e = .returned (.tuple #[.int .i64 j, .bool true]) ∧ Below w.heap.size w w' := by
 have h := parse_is (nameS j) w hz hT hN
 rw [hj, show (j != 0) = true from bne_iff_ne.2 h0] at h
 exact h
theorem lead1 : p1 (rup (nameS 1)) = 1 := by decide +kernel
theorem lead2 : p1 (rup (nameS 2)) = 2 := by decide +kernel
theorem lead3 : p1 (rup (nameS 3)) = 3 := by decide +kernel
theorem names_walk (s : ByteArray) (w : World) (hT : Lib.Utf8Tabs 1 2 w) (hN : NamesAt w) :
  Calls Tryd.prog 6 #[.string s] w fun e w' => e = .returned (.bool true) ∧ Below w.heap.size w w' := by
 have HT := Lib.hid hT
 have HN := Lib.hid hN
 have hB0 := Lib.hid (Below.refl w.heap.size w)
 clear hT hN
 by_cases hs : s.size ≤ 10000
 ·
  have hs2 : decide (10000 < (s.size : Int)) = false := decide_eq_false (by omega)
  have hs3 : decide (10000 < s.size) = false := decide_eq_false (by omega)
  have HPA := Lib.hid (parse_is s w hs HT.out HN.out)
  have HRP := Lib.hid (fun (W : World) => rparse_any s W hs)
  have HU := Lib.hid (fun (W : World) => skerryref16_Upper.calls s (rup s) W (by unfold skerryref16_Upper.f; rw [if_pos (by omega)]; rfl))
  have HPN := Lib.hid (p_name (rup s))
  generalize rup s = u at HPA HRP HU HPN
  by_cases h0 : p1 u = 0
  ·
   rw [h0] at HPA HRP
   rw [show ((0 : Int) != 0) = false from rfl] at HPA HRP
   clear h0
   go_enter Tryd.func6, Tryd.ntmps6
   go_wp2_with (first | (go_at_call 17; (with_reducible refine HPA.out.mono ?_); rintro e w1 ⟨rfl, hb1⟩; have HB1 := Lib.hid hb1; clear hb1) | (go_at_call 18; (with_reducible refine (HRP.out _).mono ?_); rintro e w2 ⟨rfl, hb2⟩; have HBS := Lib.hid (below_step HB1.out hb2); clear hb2))
   go_loopg [7, 8, 9] 3 (fun gk v7 v8 v9 wr => ∃ j : Int, v7 = .int .i64 j ∧ Aside0 ((j = 1 ∧ 3 ≤ gk) ∨ (j = 2 ∧ 2 ≤ gk) ∨ (j = 3 ∧ 1 ≤ gk) ∨ j = 4) ∧ Aside0 (Below w.heap.size w wr))
   case atStart => exact ⟨1, rfl, ⟨.inl ⟨rfl, by omega⟩⟩, ⟨HBS.out⟩⟩
   case round =>
    obtain ⟨j, rfl, ⟨⟨rfl, hg⟩ | ⟨rfl, hg⟩ | ⟨rfl, hg⟩ | rfl⟩, HB⟩ := hrel
    ·
     have HG := Lib.hid hg
     have HNW := Lib.hid (na_below HN.out HB.out)
     have HTW := Lib.hid (tabs_below HT.out HB.out)
     clear hg
     go_wp2_with (first | (go_at_call 11; (with_reducible refine (name_any _ _ HNW.out).mono ?_); rintro e w1 ⟨rfl, rfl⟩) | (go_at_call 17; (with_reducible refine (lead_back 1 lead1 (by decide) (by decide) _ HTW.out HNW.out).mono ?_); rintro e w2 ⟨rfl, hb2⟩; have HB2 := Lib.hid (below_step HB.out hb2); clear hb2))
     go_roundg 2
     case measure => have := HG.out; omega
     case rel => have hg := HG.out; exact ⟨2, rfl, ⟨.inr (.inl ⟨rfl, by omega⟩)⟩, ⟨HB2.out⟩⟩
    ·
     have HG := Lib.hid hg
     have HNW := Lib.hid (na_below HN.out HB.out)
     have HTW := Lib.hid (tabs_below HT.out HB.out)
     clear hg
     go_wp2_with (first | (go_at_call 11; (with_reducible refine (name_any _ _ HNW.out).mono ?_); rintro e w1 ⟨rfl, rfl⟩) | (go_at_call 17; (with_reducible refine (lead_back 2 lead2 (by decide) (by decide) _ HTW.out HNW.out).mono ?_); rintro e w2 ⟨rfl, hb2⟩; have HB2 := Lib.hid (below_step HB.out hb2); clear hb2))
     go_roundg 1
     case measure => have := HG.out; omega
     case rel => have hg := HG.out; exact ⟨3, rfl, ⟨.inr (.inr (.inl ⟨rfl, by omega⟩))⟩, ⟨HB2.out⟩⟩
    ·
     have HG := Lib.hid hg
     have HNW := Lib.hid (na_below HN.out HB.out)
     have HTW := Lib.hid (tabs_below HT.out HB.out)
     clear hg
     go_wp2_with (first | (go_at_call 11; (with_reducible refine (name_any _ _ HNW.out).mono ?_); rintro e w1 ⟨rfl, rfl⟩) | (go_at_call 17; (with_reducible refine (lead_back 3 lead3 (by decide) (by decide) _ HTW.out HNW.out).mono ?_); rintro e w2 ⟨rfl, hb2⟩; have HB2 := Lib.hid (below_step HB.out hb2); clear hb2))
     go_roundg 0
     case measure => have := HG.out; omega
     case rel => have hg := HG.out; exact ⟨4, rfl, ⟨.inr (.inr (.inr rfl))⟩, ⟨HB2.out⟩⟩
    ·
     have HNW := Lib.hid (na_below HN.out HB.out)
     go_wp2_with (go_at_call 15; (with_reducible refine (lives_any _ HNW.out).mono ?_); rintro e w1 ⟨rfl, rfl⟩)
     go_ret
     exact ⟨rfl, HB.out⟩
  ·
   have hn := HPN.out h0
   have hbne : (p1 u != 0) = true := bne_iff_ne.2 h0
   rw [hbne] at HPA HRP
   generalize p1 u = n at HPA HRP hn
   have HNM := Lib.hid (fun (W : World) (h : NamesAt W) => name_any n W h)
   rw [hn] at HNM
   clear h0 hbne hn HPN
   go_enter Tryd.func6, Tryd.ntmps6
   go_wp2_with (first | (go_at_call 17; (with_reducible refine HPA.out.mono ?_); rintro e w1 ⟨rfl, hb1⟩; have HB1 := Lib.hid hb1; clear hb1) | (go_at_call 18; (with_reducible refine (HRP.out _).mono ?_); rintro e w2 ⟨rfl, hb2⟩; have HB2 := Lib.hid (below_step HB1.out hb2); have HN2 := Lib.hid (na_below HN.out HB2.out); clear hb2) | (go_at_call 11; (with_reducible refine (HNM.out _ HN2.out).mono ?_); rintro e w3 ⟨rfl, rfl⟩) | (go_at_call 19; (with_reducible refine (HU.out _).mono ?_); rintro e w4 ⟨rfl, hb4⟩; have HBS := Lib.hid (below_step HB2.out hb4); clear hb4))
   go_loopg [7, 8, 9] 3 (fun gk v7 v8 v9 wr => ∃ j : Int, v7 = .int .i64 j ∧ Aside0 ((j = 1 ∧ 3 ≤ gk) ∨ (j = 2 ∧ 2 ≤ gk) ∨ (j = 3 ∧ 1 ≤ gk) ∨ j = 4) ∧ Aside0 (Below w.heap.size w wr))
   case atStart => exact ⟨1, rfl, ⟨.inl ⟨rfl, by omega⟩⟩, ⟨HBS.out⟩⟩
   case round =>
    obtain ⟨j, rfl, ⟨⟨rfl, hg⟩ | ⟨rfl, hg⟩ | ⟨rfl, hg⟩ | rfl⟩, HB⟩ := hrel
    ·
     have HG := Lib.hid hg
     have HNW := Lib.hid (na_below HN.out HB.out)
     have HTW := Lib.hid (tabs_below HT.out HB.out)
     clear hg
     go_wp2_with (first | (go_at_call 11; (with_reducible refine (name_any _ _ HNW.out).mono ?_); rintro e w1 ⟨rfl, rfl⟩) | (go_at_call 17; (with_reducible refine (lead_back 1 lead1 (by decide) (by decide) _ HTW.out HNW.out).mono ?_); rintro e w2 ⟨rfl, hb2⟩; have HB2 := Lib.hid (below_step HB.out hb2); clear hb2))
     go_roundg 2
     case measure => have := HG.out; omega
     case rel => have hg := HG.out; exact ⟨2, rfl, ⟨.inr (.inl ⟨rfl, by omega⟩)⟩, ⟨HB2.out⟩⟩
    ·
     have HG := Lib.hid hg
     have HNW := Lib.hid (na_below HN.out HB.out)
     have HTW := Lib.hid (tabs_below HT.out HB.out)
     clear hg
     go_wp2_with (first | (go_at_call 11; (with_reducible refine (name_any _ _ HNW.out).mono ?_); rintro e w1 ⟨rfl, rfl⟩) | (go_at_call 17; (with_reducible refine (lead_back 2 lead2 (by decide) (by decide) _ HTW.out HNW.out).mono ?_); rintro e w2 ⟨rfl, hb2⟩; have HB2 := Lib.hid (below_step HB.out hb2); clear hb2))
     go_roundg 1
     case measure => have := HG.out; omega
     case rel => have hg := HG.out; exact ⟨3, rfl, ⟨.inr (.inr (.inl ⟨rfl, by omega⟩))⟩, ⟨HB2.out⟩⟩
    ·
     have HG := Lib.hid hg
     have HNW := Lib.hid (na_below HN.out HB.out)
     have HTW := Lib.hid (tabs_below HT.out HB.out)
     clear hg
     go_wp2_with (first | (go_at_call 11; (with_reducible refine (name_any _ _ HNW.out).mono ?_); rintro e w1 ⟨rfl, rfl⟩) | (go_at_call 17; (with_reducible refine (lead_back 3 lead3 (by decide) (by decide) _ HTW.out HNW.out).mono ?_); rintro e w2 ⟨rfl, hb2⟩; have HB2 := Lib.hid (below_step HB.out hb2); clear hb2))
     go_roundg 0
     case measure => have := HG.out; omega
     case rel => have hg := HG.out; exact ⟨4, rfl, ⟨.inr (.inr (.inr rfl))⟩, ⟨HB2.out⟩⟩
    ·
     have HNW := Lib.hid (na_below HN.out HB.out)
     go_wp2_with (go_at_call 15; (with_reducible refine (lives_any _ HNW.out).mono ?_); rintro e w1 ⟨rfl, rfl⟩)
     go_ret
     exact ⟨rfl, HB.out⟩
 ·
  have hs2 : decide (10000 < (s.size : Int)) = true := decide_eq_true (by omega)
  have hs3 : decide (10000 < s.size) = true := decide_eq_true (by omega)
  go_enter Tryd.func6, Tryd.ntmps6
  go_wp2_with (go_at_call 15; (with_reducible refine (lives_any _ HN.out).mono ?_); rintro e w1 ⟨rfl, rfl⟩)
  go_ret
  exact ⟨rfl, hB0.out⟩
end Go.Proofs.YtojgecnhhaelkaaDoor.Q
