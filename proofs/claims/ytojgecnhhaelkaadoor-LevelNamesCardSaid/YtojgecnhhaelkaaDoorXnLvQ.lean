/- Lemmas for this claim's walk: no condition of their own. -/
import Derived.Test.YtojgecnhhaelkaaDoorXnWWords
import Derived.Test.YtojgecnhhaelkaaDoorXnLvP
import Derived.Test.YtojgecnhhaelkaaDoorXnHUp
import Derived.Deep.MidRow
import Derived.WalkLawsBesides
import Derived.WalkSpells
import Derived.Lib.Hide
import Derived.Deep.DeepFit
import Derived.Outline
namespace Go.Proofs.YtojgecnhhaelkaaDoor.Q
open Go.RowKit Go.Proofs.YtojgecnhhaelkaaDoorW.PrintWords Go.Proofs.YtojgecnhhaelkaaDoorW.PrintLast Go.Proofs.YtojgecnhhaelkaaDoorW.PrintMore
attribute [local go_sem] max2_int min2_int max_two min_two max_three min_three max_four min_four
set_option linter.unusedVariables false
set_option linter.unusedSimpArgs false
open Go.Lib
def rup (s : ByteArray) : ByteArray := By.mapB upG s
def p3 (u : ByteArray) : Int := if ((nameS 3).toList == u.toList) = true then 3 else 0
def p2 (u : ByteArray) : Int := if ((nameS 2).toList == u.toList) = true then 2 else p3 u
def p1 (u : ByteArray) : Int := if ((nameS 1).toList == u.toList) = true then 1 else p2 u
theorem rparse_any (s : ByteArray) (w : World) (hs : s.size ≤ 10000) :
  Calls Tryd.prog 18 #[.string s] w fun e w' => e = .returned (.tuple #[.int .i64 (p1 (rup s)), .bool (p1 (rup s) != 0)]) ∧ Below w.heap.size w w' := by
 have HU := Lib.hid (fun (W : World) => skerryref16_Upper.calls s (rup s) W (by unfold skerryref16_Upper.f; rw [if_pos (by omega)]; rfl))
 have HB0 := Lib.hid (Below.refl w.heap.size w)
 clear hs
 generalize rup s = u at HU
 obtain ⟨r, hr⟩ : ∃ r, p1 u = r := ⟨_, rfl⟩
 rw [hr]
 have HR := Lib.hid hr
 clear hr
 go_enter Tryd.func18, Tryd.ntmps18
 go_wp2_with fail
 go_loopg [4] 3 (fun gk v4 wr => ∃ j : Int, v4 = .int .i64 j ∧ Aside0 ((j = 1 ∧ p1 u = r ∧ 3 ≤ gk) ∨ (j = 2 ∧ p2 u = r ∧ 2 ≤ gk) ∨ (j = 3 ∧ p3 u = r ∧ 1 ≤ gk) ∨ (j = 4 ∧ r = 0)) ∧ Aside0 (Below w.heap.size w wr))
 case atStart => exact ⟨1, rfl, ⟨.inl ⟨rfl, HR.out, by omega⟩⟩, ⟨HB0.out⟩⟩
 case round =>
  obtain ⟨j, rfl, ⟨⟨rfl, hp, hg⟩ | ⟨rfl, hp, hg⟩ | ⟨rfl, hp, hg⟩ | ⟨rfl, rfl⟩⟩, HB⟩ := hrel
  ·
   have HG := Lib.hid hg
   unfold p1 at hp
   obtain ⟨b, hb⟩ : ∃ b, ((nameS 1).toList == u.toList) = b := ⟨_, rfl⟩
   rw [hb] at hp
   cases b with
   | true =>
    rw [if_pos rfl] at hp
    subst hp
    go_wp2_with (first | (go_at_call 12; (with_reducible refine (rname_any _ _).mono ?_); rintro e w1 ⟨rfl, rfl⟩) | (go_at_call 19; (with_reducible refine (HU.out _).mono ?_); rintro e w2 ⟨rfl, hb2⟩; have HB2 := Lib.hid (below_step HB.out hb2); clear hb2))
    go_ret2
    exact ⟨rfl, HB2.out⟩
   | false =>
    rw [if_neg (by decide)] at hp
    have HP := Lib.hid hp
    clear hp hg
    go_wp2_with (first | (go_at_call 12; (with_reducible refine (rname_any _ _).mono ?_); rintro e w1 ⟨rfl, rfl⟩) | (go_at_call 19; (with_reducible refine (HU.out _).mono ?_); rintro e w2 ⟨rfl, hb2⟩; have HB2 := Lib.hid (below_step HB.out hb2); clear hb2))
    go_roundg 2
    case measure => have := HG.out; omega
    case rel => have hg := HG.out; exact ⟨2, rfl, ⟨.inr (.inl ⟨rfl, HP.out, by omega⟩)⟩, ⟨HB2.out⟩⟩
  ·
   have HG := Lib.hid hg
   unfold p2 at hp
   obtain ⟨b, hb⟩ : ∃ b, ((nameS 2).toList == u.toList) = b := ⟨_, rfl⟩
   rw [hb] at hp
   cases b with
   | true =>
    rw [if_pos rfl] at hp
    subst hp
    go_wp2_with (first | (go_at_call 12; (with_reducible refine (rname_any _ _).mono ?_); rintro e w1 ⟨rfl, rfl⟩) | (go_at_call 19; (with_reducible refine (HU.out _).mono ?_); rintro e w2 ⟨rfl, hb2⟩; have HB2 := Lib.hid (below_step HB.out hb2); clear hb2))
    go_ret2
    exact ⟨rfl, HB2.out⟩
   | false =>
    rw [if_neg (by decide)] at hp
    have HP := Lib.hid hp
    clear hp hg
    go_wp2_with (first | (go_at_call 12; (with_reducible refine (rname_any _ _).mono ?_); rintro e w1 ⟨rfl, rfl⟩) | (go_at_call 19; (with_reducible refine (HU.out _).mono ?_); rintro e w2 ⟨rfl, hb2⟩; have HB2 := Lib.hid (below_step HB.out hb2); clear hb2))
    go_roundg 1
    case measure => have := HG.out; omega
    case rel => have hg := HG.out; exact ⟨3, rfl, ⟨.inr (.inr (.inl ⟨rfl, HP.out, by omega⟩))⟩, ⟨HB2.out⟩⟩
  ·
   have HG := Lib.hid hg
   unfold p3 at hp
   obtain ⟨b, hb⟩ : ∃ b, ((nameS 3).toList == u.toList) = b := ⟨_, rfl⟩
   rw [hb] at hp
   cases b with
   | true =>
    rw [if_pos rfl] at hp
    subst hp
    go_wp2_with (first | (go_at_call 12; (with_reducible refine (rname_any _ _).mono ?_); rintro e w1 ⟨rfl, rfl⟩) | (go_at_call 19; (with_reducible refine (HU.out _).mono ?_); rintro e w2 ⟨rfl, hb2⟩; have HB2 := Lib.hid (below_step HB.out hb2); clear hb2))
    go_ret2
    exact ⟨rfl, HB2.out⟩
   | false =>
    rw [if_neg (by decide)] at hp
    have HP := Lib.hid hp
    clear hp hg
    go_wp2_with (first | (go_at_call 12; (with_reducible refine (rname_any _ _).mono ?_); rintro e w1 ⟨rfl, rfl⟩) | (go_at_call 19; (with_reducible refine (HU.out _).mono ?_); rintro e w2 ⟨rfl, hb2⟩; have HB2 := Lib.hid (below_step HB.out hb2); clear hb2))
    go_roundg 0
    case measure => have := HG.out; omega
    case rel => have hg := HG.out; exact ⟨4, rfl, ⟨.inr (.inr (.inr ⟨rfl, HP.out.symm⟩))⟩, ⟨HB2.out⟩⟩
  ·
   go_wp2_with fail
   go_ret2
   exact ⟨rfl, HB.out⟩
end Go.Proofs.YtojgecnhhaelkaaDoor.Q
