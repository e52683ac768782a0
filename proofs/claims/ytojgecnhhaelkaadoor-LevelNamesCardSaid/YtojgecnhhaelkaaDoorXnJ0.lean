/-
 PRINTED WORDS, second file: A REGION THAT DRAWS ITS ORDER, WALKED BY HAND, where its last store writes what its own loads read ('x.f = append(x.f, f(i))'). Plain theorems; no macro, no elab. A claim may hold it (turn the namespace's name).
 A load may be taken first in every world that meets S; behind the operations of ds nothing is shown; sound because each of ds waits for what is taken (Region.lastB). The kernel checks it.
 By an AI agent of Go's test side, Mon Nov 16 2026. No person has read it.
-/
import Derived.OrdersHeld
import Derived.Deep.RegionHeld3
import Derived.Laws.BitsLemmas
import Derived.RowKit
import Derived.Lib.MapU
import Derived.Lib.MapLaws
import Derived.Lib.TrimAscii
import Derived.Lib.TrimU
import Derived.Lib.RuneBytes
namespace Go.Proofs.YtojgecnhhaelkaaDoorW.PrintLast
section
variable {P : Program} {ops : Array Oper} {Q : Exit → Act → World → Prop} {md : Region.Mode} {S : World → Prop} {ds : List Nat}
def Region.reachB (md : Region.Mode) (ops : Array Oper) (i : Nat) : Nat → Nat → Bool
 | 0, _ => false
 | fuel + 1, d => match ops[d]? with
  | some o => o.after.any fun e => Region.binds md e && (e.on == i || Region.reachB md ops i fuel e.on)
  | none => false
def Region.lastB (md : Region.Mode) (ops : Array Oper) (listed : Array Bool) (ds : List Nat) (i : Nat) : Bool :=
 ds.all fun d => listed.getD d true || Region.reachB md ops i ops.size d
def ListedClosed (md : Region.Mode) (ops : Array Oper) (listed : Array Bool) : Prop :=
 ∀ j oj, ops[j]? = some oj → listed.getD j false = true → ∀ e ∈ oj.after, Region.binds md e = true → listed.getD e.on false = true
theorem ListedClosed.set {listed : Array Bool} {i : Nat} (h : ListedClosed md ops listed) (hi : i ∈ Region.ready md ops listed) : ListedClosed md ops (listed.setIfInBounds i true) := by
 obtain ⟨_, oi, hoi, hall⟩ := mem_ready.1 hi
 intro j oj hj hl e he hb
 by_cases hij : i = j
 ·
  subst hij
  have : oj = oi := Option.some.inj (hj.symm.trans hoi)
  subst this
  exact getD_set_true (hall e he hb)
 ·
  rw [getD_set_ne false hij] at hl
  exact getD_set_true (h j oj hj hl e he hb)
def wpAnyLast (P : Program) (md : Region.Mode) (ops : Array Oper) (Q : Exit → Act → World → Prop) (S : World → Prop) (ds : List Nat) : Nat → Array Bool → Act → World → Prop
 | 0, listed, a, w => Region.ready md ops listed = [] ∧ Q .normal a w
 | fuel + 1, listed, a, w =>
  (Region.ready md ops listed = [] → Q .normal a w) ∧
  ∀ i ∈ Region.ready md ops listed, wpOp P ops Q i (fun a' w' => (i ∉ ds → S w → S w') ∧ wpAnyLast P md ops Q S ds fuel (listed.setIfInBounds i true) a' w') a w
end
section
variable {P : Program} {ops : Array Oper} {Q : Exit → Act → World → Prop} {md : Region.Mode} {S : World → Prop} {ds : List Nat}
def AllReadyL (P : Program) (md : Region.Mode) (ops : Array Oper) (Q : Exit → Act → World → Prop) (S : World → Prop) (ds : List Nat) (fuel : Nat) (listed : Array Bool) (a : Act) (w : World) (rs : List Nat) : Prop :=
 ∀ i ∈ rs, wpOp P ops Q i (fun a' w' => (i ∉ ds → S w → S w') ∧ wpAnyLast P md ops Q S ds fuel (listed.setIfInBounds i true) a' w') a w
theorem AllReadyL.nil {fuel : Nat} {listed : Array Bool} {a : Act} {w : World} : AllReadyL P md ops Q S ds fuel listed a w [] := fun _ h => by cases h
theorem AllReadyL.cons {fuel : Nat} {listed : Array Bool} {a : Act} {w : World} {i : Nat} {o : Oper} {rs : List Nat} (ho : ops[i]? = some o) (hd : i ∉ ds)
  (h : ∀ K' : Act → World → Prop, Shut (∀ a w, S w → (S w → wpAnyLast P md ops Q S ds fuel (listed.setIfInBounds i true) a w) → K' a w) → if Region.wanted o (yielded ops a.tmps) = true then Oper.wp P o a w K' Q else K' (a.put o.dst undef) w)
  (hs : AllReadyL P md ops Q S ds fuel listed a w rs) : AllReadyL P md ops Q S ds fuel listed a w (i :: rs) := fun j hj => by
 rcases List.mem_cons.1 hj with rfl | hj
 ·
  exact wpOp_step ho (fun K' hK => h K' (fun a w hS hW => hK a w ⟨fun _ _ => hS, hW hS⟩))
 ·
  exact hs j hj
end
end Go.Proofs.YtojgecnhhaelkaaDoorW.PrintLast
set_option linter.unusedVariables false
set_option linter.unusedSimpArgs false
namespace Go.Proofs.YtojgecnhhaelkaaDoor.LvU
open Go.Lib
def upR (x : Int) : Int := if 97 ≤ x ∧ x ≤ 122 then x - 32 else x
def upG (c : Int) : Int := if 97 ≤ c ∧ c ≤ 122 then (c - 32) % 256 else c
def upB (b : UInt8) : UInt8 := (upG (b.toNat : Int)).toNat.toUInt8
theorem dec_big (s : ByteArray) (h : 128 ≤ (s.get! 0).toNat) : 128 ≤ (Utf8.decode s 0).1 := by
 unfold Utf8.decode
 simp only [Nat.add_zero, Utf8.runeError]
 rw [if_neg (by omega)]
 repeat' split
 all_goals first | (simp only; omega) | (simp_all; omega) | (simp only [Bool.and_eq_true, decide_eq_true_eq, beq_iff_eq] at *; omega) | (dsimp only; omega)
theorem decL_big (b : UInt8) (t : List UInt8) (h : 128 ≤ b.toNat) : 128 ≤ (decodeL (b :: t)).1 := dec_big ⟨(b :: t).toArray⟩ h
theorem enc_big (r : Int) (h : 128 ≤ r) : ∃ b l, encodeRune r = b :: l ∧ 128 ≤ b.toNat := by
 unfold encodeRune encodeRuneZ
 rw [if_neg (by omega)]
 have hb : ∀ x : Int, 128 ≤ x → x ≤ 255 → 128 ≤ (x.toNat.toUInt8).toNat := fun x h1 h2 => by
  have h3 : x.toNat < 256 := by omega
  have : (x.toNat.toUInt8).toNat = x.toNat := by simp; omega
  omega
 split
 ·
  exact ⟨_, _, rfl, hb _ (by omega) (by omega)⟩
 split
 ·
  exact ⟨_, _, rfl, hb _ (by omega) (by omega)⟩
 split
 ·
  exact ⟨_, _, rfl, hb _ (by omega) (by omega)⟩
 ·
  exact ⟨_, _, rfl, hb 239 (by omega) (by omega)⟩
theorem upB_big (b : UInt8) (h : 128 ≤ b.toNat) : upB b = b := by
 unfold upB upG
 rw [if_neg (by omega)]; simp
theorem enc_small (b : UInt8) (h : b.toNat < 128) : encodeRune (upR (b.toNat : Int)) = [upB b] := by
 unfold encodeRune upB upR upG
 by_cases h1 : 97 ≤ (b.toNat : Int) ∧ (b.toNat : Int) ≤ 122
 ·
  rw [if_pos h1, if_pos h1, encodeRuneZ_one (by omega) (by omega)]
  rw [show ((b.toNat : Int) - 32) % 256 = (b.toNat : Int) - 32 by omega]; rfl
 ·
  rw [if_neg h1, if_neg h1, encodeRuneZ_one (by omega) (by omega)]; rfl
theorem map_eq (t : List UInt8) (ht : ∀ b ∈ t, b.toNat < 128) : ∀ (l : List UInt8), mapD upR l = t ↔ l.map upB = t := by
 induction t with
 | nil =>
  intro l
  cases l with
  | nil => exact ⟨fun _ => rfl, fun _ => rfl⟩
  | cons b r =>
   rw [mapD_step upR (b :: r) (by simp)]
   rcases Nat.lt_or_ge b.toNat 128 with h | h
   ·
    rw [decodeL_ascii b r h, if_pos (by unfold upR; split <;> omega), enc_small b h]; simp
   ·
    have h1 := decL_big b r h
    have h2 : upR ((decodeL (b :: r)).1 : Int) = ((decodeL (b :: r)).1 : Int) := by unfold upR; rw [if_neg (by omega)]
    obtain ⟨c, m, hc, _⟩ := enc_big ((decodeL (b :: r)).1 : Int) (by omega)
    rw [h2, if_pos (by omega), hc]; simp
 | cons a t ih =>
  intro l
  cases l with
  | nil => exact ⟨fun h => by (rw [mapD_nil] at h; cases h), fun h => by cases h⟩
  | cons b r =>
   rw [mapD_step upR (b :: r) (by simp)]
   have ha := ht a (by simp)
   rcases Nat.lt_or_ge b.toNat 128 with h | h
   ·
    rw [decodeL_ascii b r h, if_pos (by unfold upR; split <;> omega), enc_small b h]
    have := ih (fun x hx => ht x (List.mem_cons_of_mem _ hx)) r
    simp only [List.map_cons, List.cons.injEq, List.cons_append, List.nil_append, List.drop_succ_cons, List.drop_zero]
    rw [this]
   ·
    have h1 := decL_big b r h
    have h2 : upR ((decodeL (b :: r)).1 : Int) = ((decodeL (b :: r)).1 : Int) := by unfold upR; rw [if_neg (by omega)]
    obtain ⟨c, m, hc, hc2⟩ := enc_big ((decodeL (b :: r)).1 : Int) (by omega)
    rw [h2, if_pos (by omega), hc, List.map_cons, upB_big b h]
    constructor
    ·
     intro e; injection e with e1 _; subst e1; omega
    ·
     intro e; injection e with e1 _; subst e1; omega
end Go.Proofs.YtojgecnhhaelkaaDoor.LvU
