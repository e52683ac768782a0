/- Layer 16: what the listed variable level.names gives the walks; the heap that the program's own start-up leaves. -/
import Derived.Test.YtojgecnhhaelkaaDoorRows
import Derived.Test.YtojgecnhhaelkaaDoorXnLvA
import Derived.ProofKit
import Derived.LaidMore
import Derived.OpenShut
import Derived.Stop.Joined
import Derived.SevenTiedAt
import Derived.Lib.LaidU8T
namespace Go.Proofs.YtojgecnhhaelkaaDoor.LvN
open Go.ChangeShapes Go.WideShapes Go.ChangeAt Go.RowKit
theorem own : ownKnob Tryd.prog.godebug = none := by kernel_rfl
theorem gNames : Tryd.prog.globalNamed "skerry/level.names" = some 0 := by kernel_rfl
theorem tNames : (Tryd.prog.globals[0]?).map (·.type) = some 38 := by kernel_rfl
abbrev laid : List (String × DataW Unit) := [("skerry/level.names", Rows.laid_skerry_level_names)]
theorem strs_cells {H : Type} {enc : TypeId × Value → H} {P : Program} {W : World} {base : Nat} {spare : Nat → Bool} {held : Bool} {fuel n : Nat} {t e : TypeId} {cs : List Value} {ls : List (List UInt8)} {p : List MemPlace}
  (ht : P.underlying t = some (.array n e)) (he : P.underlying e = some .string) (ce : P.cellsOf e = 1)
  (h : DataW.trod enc P W base spare held fuel t cs = some (.agg (ls.map fun l => .lit (.string l)), p)) (i : Nat) (l : List UInt8) (hi : ls[i]? = some l) : cs[i]? = some (.string ⟨l.toArray⟩) := by
 obtain ⟨xs, m, _, hx, _, hn, hel⟩ := DataW.trod_array ht h
 simp only [Prod.mk.injEq, DataW.agg.injEq] at hx
 have hxi : (xs.map (·.1))[i]? = some (.lit (.string l)) := by rw [← hx.1]; simp [hi]
 have hin : i < n := by
  rw [← hn]
  rcases Nat.lt_or_ge i xs.length with h' | h'
  ·
   exact h'
  ·
   rw [List.getElem?_eq_none (by simpa using h')] at hxi; cases hxi
 have h1 := hel i hin
 rw [ce, Nat.mul_one] at h1
 rw [List.getElem?_map, Option.map_eq_some_iff] at hxi
 obtain ⟨x, hx2, hx3⟩ := hxi
 rw [hx2] at h1
 obtain ⟨s, hs, hy, _⟩ := DataW.trod_string he h1
 rw [hy] at hx3
 simp only [DataW.lit.injEq, Lit.string.injEq] at hx3
 have hh : (cs.drop i).head? = some (.string s) := by
  cases hd : cs.drop i with
  | nil => rw [hd] at hs; simp at hs
  | cons c r => rw [hd] at hs; simpa using hs
 rw [List.head?_drop] at hh
 rw [hh, ← hx3]
end Go.Proofs.YtojgecnhhaelkaaDoor.LvN
namespace Go.Proofs.YtojgecnhhaelkaaDoor.LvO
open Go.ChangeShapes Go.WideShapes Go.ChangeAt Go.RowKit Go.Shelf Go.Lib
abbrev laid : List (String × DataW Unit) := [("unicode/utf8.acceptRanges", Rows.laid_unicode_utf8_acceptRanges), ("skerry/level.names", Rows.laid_skerry_level_names), ("unicode/utf8.first", Rows.laid_unicode_utf8_first)]
def ren : Ren := ⟨fun n => n, fun | 5 => 5 | 119 => 61 | 138 => 63 | 139 => 64 | n => n, fun | 3 => 1 | 4 => 2 | n => n⟩
theorem types : U8Types Tryd.prog ren := { t5 := Tryd.underlying5, t119 := Tryd.underlying61, t138 := Tryd.underlying63, t139 := Tryd.underlying64 }
theorem extra : U8Extra Tryd.prog ren := { n3 := by kernel_rfl, n4 := by kernel_rfl, y3 := by kernel_rfl, y4 := by kernel_rfl, c5 := by kernel_rfl, c119 := by kernel_rfl, c138 := by kernel_rfl }
theorem first_is : Rows.laid_unicode_utf8_first = firstData := by kernel_rfl
theorem accept_is : (Rows.laid_unicode_utf8_acceptRanges : DataW Unit) = acceptData := by kernel_rfl
theorem reads {W : World} (h : laidMetH Tryd.prog laid W) : ∀ n d, (n, d) ∈ laid → VarReads Tryd.prog W n d := by
 rw [MakeChecks.laidMetH_plain _ _ _ (by kernel_rfl)] at h
 obtain ⟨ps, hl, _⟩ := h
 exact LaidVars_reads hl
theorem tabs {W : World} (h : laidMetH Tryd.prog laid W) : Lib.Utf8Tabs 1 2 W :=
 utf8Tabs_of_readsT types extra (by rw [← first_is]; exact reads h _ _ (by simp [laid])) (by rw [← accept_is]; exact reads h _ _ (by simp [laid]))
theorem names {W : World} (h : laidMetH Tryd.prog laid W) : NamesAt W := by
 obtain ⟨g0, t0, cs0, f0, p0, hg0, ht0, hv0, hd0⟩ := reads h "skerry/level.names" Rows.laid_skerry_level_names (by simp [laid])
 obtain rfl := Option.some.inj (LvN.gNames.symm.trans hg0)
 obtain rfl := Option.some.inj (LvN.tNames.symm.trans ht0)
 have hc := fun i l hi => LvN.strs_cells (n := 4) (e := 9) (ls := [[], [79, 78, 69], [81, 85, 79, 82, 85, 77], [65, 76, 76]]) Tryd.underlying38 Tryd.underlying9 (by kernel_rfl) hd0 i l hi
 have hv := fun i => World.var?_cell hg0 hv0 i
 have he : ∀ i : Nat, cs0.toList[i]? = cs0[i]? := fun i => Array.getElem?_toList
 exact ⟨(hv 0).trans ((he 0).symm.trans (hc 0 _ rfl)), (hv 1).trans ((he 1).symm.trans (hc 1 _ rfl)), (hv 2).trans ((he 2).symm.trans (hc 2 _ rfl)), (hv 3).trans ((he 3).symm.trans (hc 3 _ rfl))⟩
end Go.Proofs.YtojgecnhhaelkaaDoor.LvO
