/- Lemmas for this claim's walk: no condition of their own. -/
import Derived.Test.YtojgecnhhaelkaaDoorXnWWords
import Derived.Test.YtojgecnhhaelkaaDoorXnBy
import Derived.Below
import Derived.Test.YtojgecnhhaelkaaDoorXnLvA
import Derived.Test.YtojgecnhhaelkaaDoorXnJ0
import Derived.Test.YtojgecnhhaelkaaDoorXnShelfM
import Derived.Deep.MidRow
import Derived.WalkLawsBesides
import Derived.WalkSpells
import Derived.Lib.Hide
import Derived.Deep.DeepFit
import Derived.Outline
namespace Go.Proofs.YtojgecnhhaelkaaDoor.Q
open Go.RowKit Go.Proofs.YtojgecnhhaelkaaDoorW.PrintWords Go.Proofs.YtojgecnhhaelkaaDoorW.PrintLast Go.Proofs.YtojgecnhhaelkaaDoorW.PrintMore
attribute [local go_sem] max2_int min2_int max_two min_two max_three min_three max_four min_four
set_option linter.unusedVariables false
set_option linter.unusedSimpArgs false
open Go.Lib
theorem up_gives (W : World) (x : Nat) (hx : x ≤ 1114111) : Go.Proofs.FnGives Tryd.prog 23 #[] #[Go.Proofs.encR x] (.int .i32 (LvU.upR (x : Int))) W := by
 unfold Go.Proofs.FnGives
 by_cases h1 : 97 ≤ x
 ·
  have z1 : (97 : Int) ≤ (x : Int) := by omega
  have d1 : decide ((97 : Int) ≤ (x : Int)) = true := decide_eq_true z1
  by_cases h2 : x ≤ 122
  ·
   have z2 : (x : Int) ≤ 122 := by omega
   have d2 : decide ((x : Int) ≤ 122) = true := decide_eq_true z2
   have hw : IntKind.i32.wrap ((x : Int) - 32) = (x : Int) - 32 := by unfold IntKind.wrap; simp [IntKind.bits, IntKind.signed]; omega
   have H := Lib.hid (show LvU.upR (x : Int) = (x : Int) - 32 by unfold LvU.upR; rw [if_pos ⟨z1, z2⟩])
   go_enter Tryd.func23, Tryd.ntmps23
   go_wp2
   go_ret
   exact ⟨by rw [H.out]; first | rfl | simp [hw], 0, rfl⟩
  ·
   have z2 : ¬ (x : Int) ≤ 122 := by omega
   have d2 : decide ((x : Int) ≤ 122) = false := decide_eq_false z2
   have H := Lib.hid (show LvU.upR (x : Int) = (x : Int) by unfold LvU.upR; rw [if_neg (by omega)])
   go_enter Tryd.func23, Tryd.ntmps23
   go_wp2
   go_ret
   exact ⟨by rw [H.out]; rfl, 0, rfl⟩
 ·
  have z1 : ¬ (97 : Int) ≤ (x : Int) := by omega
  have d1 : decide ((97 : Int) ≤ (x : Int)) = false := decide_eq_false z1
  have H := Lib.hid (show LvU.upR (x : Int) = (x : Int) by unfold LvU.upR; rw [if_neg (by omega)])
  go_enter Tryd.func23, Tryd.ntmps23
  go_wp2
  go_ret
  exact ⟨by rw [H.out]; rfl, 0, rfl⟩
def upS (s : ByteArray) : ByteArray := ⟨(Lib.mapD LvU.upR s.data.toList).toArray⟩
theorem upper_any (s : ByteArray) (w : World) (hs : s.size ≤ 10000) (hT : Lib.Utf8Tabs 1 2 w) :
  Calls Tryd.prog 21 #[.string s] w fun e w' => e = .returned (.string (upS s)) ∧ Below w.heap.size w w' := by
 have eg : ∀ args w, (callFunc 23 args).run Tryd.prog w = .ok (.enter 23 args) w := enters_of Tryd.func23 (by kernel_rfl) rfl
 have HM := Lib.hid (Tryd.strings_Map_runes 23 #[] eg LvU.upR s w (by omega) (fun W x hx _ => up_gives W x hx) (fun x hx => by unfold LvU.upR; split <;> omega) hT)
 clear eg hT hs
 go_enter Tryd.func21, Tryd.ntmps21
 go_wp2_with (go_at_call 22; (with_reducible refine HM.out.mono ?_); rintro e w1 ⟨rfl, hb⟩; have HB := Lib.hid hb; clear hb)
 go_ret
 exact ⟨rfl, HB.out⟩
def names3 : List ByteArray := [⟨#[79, 78, 69]⟩, ⟨#[81, 85, 79, 82, 85, 77]⟩, ⟨#[65, 76, 76]⟩]
theorem na_lt {w : World} (h : NamesAt w) : 0 < w.heap.size := World.block_lt_of_cell? w ⟨0, 0, none⟩ h.1
theorem na_below {w w' : World} (h : NamesAt w) (hb : Below w.heap.size w w') : NamesAt w' := by
 have hlt := na_lt h
 exact ⟨(hb.cell (p := ⟨0, 0, none⟩) hlt).trans h.1, (hb.cell (p := ⟨0, 1, none⟩) hlt).trans h.2.1, (hb.cell (p := ⟨0, 2, none⟩) hlt).trans h.2.2.1, (hb.cell (p := ⟨0, 3, none⟩) hlt).trans h.2.2.2⟩
theorem na_index {w : World} (h : NamesAt w) (x : ByteArray) : Calls Tryd.prog 20 #[.slice (some ⟨0, 1, none⟩) 3 3, .string x] w fun e w' => e = .returned (.int .i64 (Lib.idxOfS names3 x)) ∧ w' = w :=
 Tryd.slices_Index_string 0 1 3 3 names3 x w (by decide) (by decide) (fun j hj => by
  rcases (by have : names3.length = 3 := rfl; omega : j = 0 ∨ j = 1 ∨ j = 2) with rfl | rfl | rfl
  ·
   exact h.2.1
  ·
   exact h.2.2.1
  ·
   exact h.2.2.2)
theorem ret_ib {a b : Int} {c d : Bool} (h1 : a = b) (h2 : c = d) : Ending.returned (.tuple #[.int .i64 a, .bool c]) = .returned (.tuple #[.int .i64 b, .bool d]) := by rw [h1, h2]
theorem idx3 (x : ByteArray) : Lib.idxOfS names3 x = if (⟨#[79, 78, 69]⟩ : ByteArray) = x then 0 else if (⟨#[81, 85, 79, 82, 85, 77]⟩ : ByteArray) = x then 1 else if (⟨#[65, 76, 76]⟩ : ByteArray) = x then 2 else -1 := rfl
theorem idx_bd (x : ByteArray) : -1 ≤ Lib.idxOfS names3 x ∧ Lib.idxOfS names3 x ≤ 100 := by
 rw [idx3]
 repeat' split
 all_goals omega
theorem parse_any (s : ByteArray) (w : World) (hs : s.size ≤ 10000) (hT : Lib.Utf8Tabs 1 2 w) (hN : NamesAt w) :
  Calls Tryd.prog 17 #[.string s] w fun e w' => e = .returned (.tuple #[.int .i64 (Lib.idxOfS names3 (upS s) + 1), .bool (decide (0 ≤ Lib.idxOfS names3 (upS s)))]) ∧ Below w.heap.size w w' := by
 have HU := Lib.hid (fun (W : World) (h : Lib.Utf8Tabs 1 2 W) => upper_any s W hs h)
 have HT := Lib.hid (show Lib.Utf8Tabs 1 2 w.drew from hT)
 have HND := Lib.hid (show NamesAt w.drew from hN)
 have HD := Lib.hid (show Below w.heap.size w w.drew from (Below.refl w.heap.size w).drew)
 have HN := Lib.hid hN
 have hbd := idx_bd (upS s)
 have HX := Lib.hid (fun (W : World) (h : NamesAt W) => na_index h (upS s))
 clear hs hT hN
 generalize Lib.idxOfS names3 (upS s) = k at hbd HX
 have hmax : IntKind.i64.wrap (k + 1) = k + 1 := by unfold IntKind.wrap; simp [IntKind.bits, IntKind.signed]; omega
 go_enter Tryd.func17, Tryd.ntmps17
 have q0 := HN.out.2.1
 go_wp2_with fail
 go_region_held3 (fun w' => w'.cell? ⟨0, 1, none⟩ = some (.string ⟨#[79, 78, 69]⟩)) (first | go_keep | exact q0 | exact q1) (first | (go_at_call 21; (with_reducible refine (HU.out _ HT.out).mono ?_); rintro e w1 ⟨rfl, hb⟩; have HB := Lib.hid (below_step HD.out hb); have HN1 := Lib.hid (na_below HND.out hb); have q1 := HN1.out.2.1; clear hb) | (go_at_call 20; (with_reducible refine (HX.out _ HN1.out).mono ?_); rintro e w2 ⟨rfl, rfl⟩))
 go_wp2
 go_ret2
 exact ⟨ret_ib (by first | rfl | simp [hmax]) rfl, HB.out⟩
end Go.Proofs.YtojgecnhhaelkaaDoor.Q
