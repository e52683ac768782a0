/- Layer 16: what the small functions of package level and of its reference compute, each called with whole numbers of Go's int. -/
import Derived.Test.YtojgecnhhaelkaaDoorProg
import Derived.WalkKit
import Derived.WalkSpells
import Derived.WalkLawsBesides
import Derived.Lib.Hide
import Derived.Deep.DeepFit
import Derived.Deep.QuietTactic
import Derived.BigQuiet
namespace Go.Proofs.YtojgecnhhaelkaaDoor
open Go.RowKit
def goodB (a : Int) : Bool := decide (1 ≤ a) && decide (a ≤ 3)
def needI (l c : Int) : Int := if c < 1 then 0 else if l = 1 then 1 else if l = 2 then c / 2 + 1 else if l = 3 then c else 0
def nameS (l : Int) : ByteArray := if l = 1 then ⟨#[79, 78, 69]⟩ else if l = 2 then ⟨#[81, 85, 79, 82, 85, 77]⟩ else if l = 3 then ⟨#[65, 76, 76]⟩ else ⟨#[]⟩
def meetB (a b c : Int) : Bool := decide (0 < needI a c) && decide (0 < needI b c) && decide (c - needI b c < needI a c)
theorem need_bd (l c : Int) (h : c ≤ 9223372036854775807) : 0 ≤ needI l c ∧ needI l c ≤ 9223372036854775807 ∧ (1 ≤ c → needI l c ≤ c) ∧ (c < 1 → needI l c = 0) := by
 unfold needI
 refine ⟨?_, ?_, ?_, ?_⟩ <;> (repeat' split) <;> omega
theorem ret_bool {a b : Bool} (h : a = b) : Ending.returned (.bool a) = .returned (.bool b) := by rw [h]
theorem ret_i {a b : Int} (h : a = b) : Ending.returned (.int .i64 a) = .returned (.int .i64 b) := by rw [h]
theorem ret_s {a b : ByteArray} (h : a = b) : Ending.returned (.string a) = .returned (.string b) := by rw [h]
theorem good_any (a : Int) (w : World) : Calls Tryd.prog 7 #[.int .i64 a] w fun e w' => e = .returned (.bool (goodB a)) ∧ w = w' := by
 by_cases h1 : 1 ≤ a
 ·
  by_cases h2 : a ≤ 3
  ·
   have H := Lib.hid (show goodB a = true by simp [goodB, h1, h2])
   go_enter Tryd.func7, Tryd.ntmps7
   go_wp2
   go_ret
   exact ⟨ret_bool (by rw [H.out]), rfl⟩
  ·
   have H := Lib.hid (show goodB a = false by simp [goodB, h2])
   go_enter Tryd.func7, Tryd.ntmps7
   go_wp2
   go_ret
   exact ⟨ret_bool (by rw [H.out]), rfl⟩
 ·
  have H := Lib.hid (show goodB a = false by simp [goodB, h1])
  go_enter Tryd.func7, Tryd.ntmps7
  go_wp2
  go_ret
  exact ⟨ret_bool (by rw [H.out]), rfl⟩
theorem need_any (l c : Int) (w : World) (hc : c ≤ 9223372036854775807) : Calls Tryd.prog 9 #[.int .i64 l, .int .i64 c] w fun e w' => e = .returned (.int .i64 (needI l c)) ∧ w = w' := by
 by_cases h0 : c < 1
 ·
  have H := Lib.hid (show needI l c = 0 by simp [needI, h0])
  go_enter Tryd.func9, Tryd.ntmps9
  go_wp2
  go_ret
  exact ⟨ret_i (by rw [H.out]), rfl⟩
 ·
  have h0' : 1 ≤ c := by omega
  by_cases h1 : l = 1
  ·
   subst h1
   have H := Lib.hid (show needI 1 c = 1 by simp [needI, h0])
   clear h0
   go_enter Tryd.func9, Tryd.ntmps9
   go_wp2
   go_ret
   exact ⟨ret_i (by rw [H.out]), rfl⟩
  ·
   by_cases h2 : l = 2
   ·
    subst h2
    have H := Lib.hid (show needI 2 c = c / 2 + 1 by simp [needI, h0])
    clear h0
    go_enter Tryd.func9, Tryd.ntmps9
    go_wp2
    go_ret
    exact ⟨ret_i (by rw [H.out]), rfl⟩
   ·
    by_cases h3 : l = 3
    ·
     subst h3
     have H := Lib.hid (show needI 3 c = c by simp [needI, h0])
     clear h0
     go_enter Tryd.func9, Tryd.ntmps9
     go_wp2
     go_ret
     exact ⟨ret_i (by rw [H.out]), rfl⟩
    ·
     have H := Lib.hid (show needI l c = 0 by simp [needI, h0, h1, h2, h3])
     have b1 : (l == 1) = false := by simpa using h1
     have b2 : (l == 2) = false := by simpa using h2
     have b3 : (l == 3) = false := by simpa using h3
     clear h0 h1 h2 h3
     go_enter Tryd.func9, Tryd.ntmps9
     go_wp2
     go_ret
     exact ⟨ret_i (by rw [H.out]), rfl⟩
theorem meet_any (a b c : Int) (w : World) (hl : -9223372036854775808 ≤ c) (hc : c ≤ 9223372036854775807) : Calls Tryd.prog 13 #[.int .i64 a, .int .i64 b, .int .i64 c] w fun e w' => e = .returned (.bool (meetB a b c)) ∧ w = w' := by
 obtain ⟨x0, x1, x2, x3⟩ := need_bd a c hc
 obtain ⟨y0, y1, y2, y3⟩ := need_bd b c hc
 have hM : meetB a b c = (decide (0 < needI a c) && decide (0 < needI b c) && decide (c - needI b c < needI a c)) := rfl
 generalize hx : needI a c = x at *
 generalize hy : needI b c = y at *
 have HX := Lib.hid hx
 have HY := Lib.hid hy
 clear hx hy
 have hcy : 1 ≤ y → 1 ≤ c := fun h => by
  rcases Int.lt_or_le c 1 with h' | h'
  ·
   have := y3 h'; omega
  ·
   exact h'
 clear x3 y3 x2 y2
 by_cases h1 : 0 < x
 ·
  by_cases h2 : 0 < y
  ·
   have h3 := hcy h2
   by_cases h4 : c - y < x
   ·
    have H := Lib.hid (show meetB a b c = true by rw [hM]; simp [h1, h2, h4])
    have h4' : decide (c - y < x) = true := by simp; omega
    clear hM hcy h4
    go_enter Tryd.func13, Tryd.ntmps13
    go_wp2_with (go_at_call 9; refine (need_any _ _ _ (by omega)).mono ?_; rintro e w' ⟨rfl, rfl⟩; first | rw [HX.out] | rw [HY.out])
    all_goals (go_ret; exact ⟨ret_bool (by rw [H.out]), rfl⟩)
   ·
    have H := Lib.hid (show meetB a b c = false by rw [hM]; simp [h4])
    have h4' : decide (c - y < x) = false := by simp; omega
    clear hM hcy h4
    go_enter Tryd.func13, Tryd.ntmps13
    go_wp2_with (go_at_call 9; refine (need_any _ _ _ (by omega)).mono ?_; rintro e w' ⟨rfl, rfl⟩; first | rw [HX.out] | rw [HY.out])
    all_goals (go_ret; exact ⟨ret_bool (by rw [H.out]), rfl⟩)
  ·
   have H := Lib.hid (show meetB a b c = false by rw [hM]; simp [h2])
   clear hM hcy
   go_enter Tryd.func13, Tryd.ntmps13
   go_wp2_with (go_at_call 9; refine (need_any _ _ _ (by omega)).mono ?_; rintro e w' ⟨rfl, rfl⟩; first | rw [HX.out] | rw [HY.out])
   all_goals (go_ret; exact ⟨ret_bool (by rw [H.out]), rfl⟩)
 ·
  have H := Lib.hid (show meetB a b c = false by rw [hM]; simp [h1])
  clear hM hcy
  go_enter Tryd.func13, Tryd.ntmps13
  go_wp2_with (go_at_call 9; refine (need_any _ _ _ (by omega)).mono ?_; rintro e w' ⟨rfl, rfl⟩; first | rw [HX.out] | rw [HY.out])
  all_goals (go_ret; exact ⟨ret_bool (by rw [H.out]), rfl⟩)
def NamesAt (w : World) : Prop := w.cell? ⟨0, 0, none⟩ = some (.string ⟨#[]⟩) ∧ w.cell? ⟨0, 1, none⟩ = some (.string ⟨#[79, 78, 69]⟩) ∧ w.cell? ⟨0, 2, none⟩ = some (.string ⟨#[81, 85, 79, 82, 85, 77]⟩) ∧ w.cell? ⟨0, 3, none⟩ = some (.string ⟨#[65, 76, 76]⟩)
theorem name_any (a : Int) (w : World) (hN : NamesAt w) : Calls Tryd.prog 11 #[.int .i64 a] w fun e w' => e = .returned (.string (nameS a)) ∧ w = w' := by
 obtain ⟨n0, n1, n2, n3⟩ := hN
 by_cases h1 : a = 1
 ·
  subst h1
  go_enter Tryd.func11, Tryd.ntmps11
  go_wp2_with (go_at_call 7; refine (good_any _ _).mono ?_; rintro e w' ⟨rfl, rfl⟩; rw [show goodB 1 = true from rfl])
  go_ret
  exact ⟨ret_s rfl, rfl⟩
 ·
  by_cases h2 : a = 2
  ·
   subst h2
   go_enter Tryd.func11, Tryd.ntmps11
   go_wp2_with (go_at_call 7; refine (good_any _ _).mono ?_; rintro e w' ⟨rfl, rfl⟩; rw [show goodB 2 = true from rfl])
   go_ret
   exact ⟨ret_s rfl, rfl⟩
  ·
   by_cases h3 : a = 3
   ·
    subst h3
    go_enter Tryd.func11, Tryd.ntmps11
    go_wp2_with (go_at_call 7; refine (good_any _ _).mono ?_; rintro e w' ⟨rfl, rfl⟩; rw [show goodB 3 = true from rfl])
    go_ret
    exact ⟨ret_s rfl, rfl⟩
   ·
    have H := Lib.hid (show goodB a = false by simp [goodB]; omega)
    have H2 := Lib.hid (show nameS a = ⟨#[]⟩ by simp [nameS, h1, h2, h3])
    clear h1 h2 h3
    go_enter Tryd.func11, Tryd.ntmps11
    go_wp2_with (go_at_call 7; refine (good_any _ _).mono ?_; rintro e w' ⟨rfl, rfl⟩; rw [H.out])
    go_ret
    exact ⟨ret_s (by rw [H2.out]), rfl⟩
theorem rname_any (a : Int) (w : World) : Calls Tryd.prog 12 #[.int .i64 a] w fun e w' => e = .returned (.string (nameS a)) ∧ w = w' := by
 by_cases h1 : a = 1
 ·
  subst h1
  go_enter Tryd.func12, Tryd.ntmps12
  go_wp2
  go_ret
  exact ⟨ret_s rfl, rfl⟩
 ·
  by_cases h2 : a = 2
  ·
   subst h2
   go_enter Tryd.func12, Tryd.ntmps12
   go_wp2
   go_ret
   exact ⟨ret_s rfl, rfl⟩
  ·
   by_cases h3 : a = 3
   ·
    subst h3
    go_enter Tryd.func12, Tryd.ntmps12
    go_wp2
    go_ret
    exact ⟨ret_s rfl, rfl⟩
   ·
    have H2 := Lib.hid (show nameS a = ⟨#[]⟩ by simp [nameS, h1, h2, h3])
    have b1 : (a == 1) = false := by simpa using h1
    have b2 : (a == 2) = false := by simpa using h2
    have b3 : (a == 3) = false := by simpa using h3
    clear h1 h2 h3
    go_enter Tryd.func12, Tryd.ntmps12
    go_wp2
    go_ret
    exact ⟨ret_s (by rw [H2.out]), rfl⟩
theorem lives_any (w : World) (hN : NamesAt w) : Calls Tryd.prog 15 #[] w fun e w' => e = .returned (.bool true) ∧ w = w' := by
 have m1 : meetB 2 2 3 = true := rfl
 have m2 : meetB 1 2 3 = false := rfl
 have m3 : needI 2 3 = 2 := rfl
 have m4 : nameS 3 = ⟨#[65, 76, 76]⟩ := rfl
 have M1 := Lib.hid m1; have M2 := Lib.hid m2; have M3 := Lib.hid m3; have M4 := Lib.hid m4; have HN := Lib.hid hN
 clear m1 m2 m3 m4 hN
 go_enter Tryd.func15, Tryd.ntmps15
 go_wp2_with (first
  | (go_at_call 9; refine (need_any _ _ _ (by omega)).mono ?_; rintro e w' ⟨rfl, rfl⟩; rw [M3.out])
  | (go_at_call 13; refine (meet_any _ _ _ _ (by omega) (by omega)).mono ?_; rintro e w' ⟨rfl, rfl⟩; first | rw [M1.out] | rw [M2.out])
  | (go_at_call 11; refine (name_any _ _ HN.out).mono ?_; rintro e w' ⟨rfl, rfl⟩; rw [M4.out]))
 go_ret
 exact ⟨rfl, rfl⟩
end Go.Proofs.YtojgecnhhaelkaaDoor
