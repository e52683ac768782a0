/- The kind of an item of merge's heap: a cut of a list that nobody writes, and the list's number; what the cut holds is told beside (Src). -/
import Derived.Test.YtabiekkebdocnaaZeQx23
import Derived.Test.YtabiekkebdocnaaZeHeapT
import Derived.Test.YtabiekkebdocnaaZeJ13
import Derived.Test.YtabiekkebdocnaaZeWWords
import Derived.Shelf.SlicesE.Clone
import Derived.Deep.MidRow
import Derived.WalkLawsBesides
import Derived.WalkSpells
import Derived.Lib.Hide
import Derived.Deep.DeepFit
import Derived.Outline
namespace Go.Proofs.Ytabiekkebdocnaa.Hp
open Go Go.RowKit Go.Lib Go.Proofs Go.Proofs.YtabiekkebdocnaaW.PrintWords Go.Proofs.YtabiekkebdocnaaW.PrintLast Go.Proofs.YtabiekkebdocnaaW.PrintMore Go.Proofs.Ytabiekkebdocnaa.Q
set_option linter.unusedVariables false
set_option linter.unusedSimpArgs false
abbrev Cl := S39
structure It where
 A : Option Addr
 cap : Nat
 n : Int
 l : List Cl
def It.z : It := ⟨none, 0, 0, []⟩
def It.cs (t : It) : List Value := [.slice t.A t.l.length t.cap, .int .i64 t.n]
def kIt : Kd It where
 sz := 2
 E := []
 K := fun _ x cs => cs = x.cs
 M := fun _ _ _ x cs => cs = x.cs
 K_len := fun h => by rw [h]; rfl
 K_one := fun h u hu => by
  rw [h] at hu
  simp only [It.cs, List.mem_cons, List.not_mem_nil, or_false] at hu
  rcases hu with rfl | rfl <;> rfl
 K_below := fun _ h => h
 K_of_M := fun h => h
 M_mono := fun _ h => h
 M_bound := fun h => h
 M_move := fun _ h => h
 M_lower := fun _ h => h
theorem cell_congr {w w1 : World} {a : Addr} (h : w1.heap[a.block]? = w.heap[a.block]?) : w1.cell? a = w.cell? a := by
 unfold World.cell?; rw [h]
theorem add_block (a : Addr) (i : Nat) : (a.add i).block = a.block := by unfold Addr.add; split <;> rfl
structure Src (q : Nat → Prop) (w : World) (t : It) : Prop where
 c : Kd.C k39 w t.A t.l.length t.l
 cap : t.l.length ≤ t.cap
 inb : ∀ a, t.A = some a → q a.block
 ty : ∀ a, t.A = some a → ∃ cells, w.heap[a.block]? = some (.cells cells 39 (0, 0))
theorem Src.step {q : Nat → Prop} {w w1 : World} {t : It} (h : Src q w t) (hm : ∀ (k : Nat) (cells : Array Value), w.heap[k]? = some (.cells cells 39 (0, 0)) → q k → w1.heap[k]? = w.heap[k]?) : Src q w1 t := by
 refine ⟨⟨h.c.1, h.c.2.1, fun hp => ?_⟩, h.cap, h.inb, fun a ha => ?_⟩
 ·
  obtain ⟨ad, he, hc⟩ := h.c.2.2 hp
  obtain ⟨cells, hb⟩ := h.ty ad he
  have hk := hm _ _ hb (h.inb ad he)
  refine ⟨ad, he, fun j p hj => ?_⟩
  obtain ⟨c, h1, h2, h3⟩ := hc j p hj
  have h2' : k39.K w p c := h2
  refine ⟨c, h1, ?_, fun i u hu => (cell_congr (by rw [add_block]; exact hk)).trans (h3 i u hu)⟩
  obtain rfl := k39_open h2'
  exact k39_mk w1 p
 ·
  obtain ⟨cells, hb⟩ := h.ty a ha
  exact ⟨cells, (hm _ _ hb (h.inb a ha)).trans hb⟩
theorem Src.below {q : Nat → Prop} {w w1 : World} {t : It} (h : Src q w t) (hb : Below w.heap.size w w1) : Src q w1 t := h.step fun k _ hk _ => hb.block k (blk_lt hk)
theorem Src.grown {q : Nat → Prop} {w w1 : World} {t : It} (h : Src q w t) {v : Value} {base : Nat} {ok : Nat → Prop} {xs : List It} (hR : Kd.R kIt 59 w base ok v xs) (hg : w.grownBy w1 v.ownBlock) : Src q w1 t := h.step fun k cells hk _ => hg.block k (blk_lt hk) fun e => by
  obtain ⟨c2, h2⟩ := Kd.R_typed hR k e.symm
  rw [hk] at h2
  injection h2 with h2
  injection h2 with _ h2
  exact absurd h2 (by decide)
theorem Src.weaker {q q' : Nat → Prop} {w : World} {t : It} (h : Src q w t) (hq : ∀ k cells, w.heap[k]? = some (Obj.cells cells 39 (0, 0)) → q k → q' k) : Src q' w t := ⟨h.c, h.cap, fun a ha => by obtain ⟨cells, hb⟩ := h.ty a ha; exact hq _ _ hb (h.inb a ha), h.ty⟩
theorem Src.tail {q : Nat → Prop} {w : World} {t : It} (h : Src q w t) (hp : 0 < t.l.length) : Src q w ⟨if t.cap = 1 then t.A else t.A.map (·.add 10), t.cap - 1, t.n, t.l.drop 1⟩ := by
 refine ⟨Kd.C_drop (m := 1) (c := t.cap) h.c (by omega) h.cap, by show (t.l.drop 1).length ≤ t.cap - 1; rw [List.length_drop]; have := h.cap; omega, fun a ha => ?_, fun a ha => ?_⟩
 ·
  have ha : (if t.cap = 1 then t.A else t.A.map (·.add 10)) = some a := ha
  split at ha
  ·
   exact h.inb a ha
  ·
   cases hA : t.A with
   | none => rw [hA] at ha; cases ha
   | some b =>
    rw [hA] at ha
    injection ha with ha
    subst ha
    rw [add_block]
    exact h.inb b hA
 have ha : (if t.cap = 1 then t.A else t.A.map (·.add 10)) = some a := ha
 split at ha
 ·
  exact h.ty a ha
 ·
  cases hA : t.A with
  | none => rw [hA] at ha; cases ha
  | some b =>
   rw [hA] at ha
   injection ha with ha
   subst ha
   obtain ⟨cells, hb⟩ := h.ty b hA
   exact ⟨cells, by rw [add_block]; exact hb⟩
def Lt (lt : It → It → Bool) : Prop := ∀ a b : It, a.l ≠ [] → b.l ≠ [] → ∃ k, merge_source_before.f k a.l a.n b.l b.n = some (lt a b)
theorem grown_refl (w : World) (row : Option Nat) : w.grownBy w row := ⟨rfl, rfl, rfl, Nat.le_refl _, fun _ _ _ => rfl⟩
theorem grown_trans {w w1 w2 : World} {row : Option Nat} (h : w.grownBy w1 row) (k : w1.grownBy w2 row) : w.grownBy w2 row :=
 ⟨k.os.trans h.os, k.tape.trans h.tape, k.output.trans h.output, Nat.le_trans h.size k.size, fun i hi hr => (k.block i (Nat.lt_of_lt_of_le hi h.size) hr).trans (h.block i hi hr)⟩
theorem grown_below {w w1 w2 : World} {row : Option Nat} (h : w.grownBy w1 row) (k : Below w1.heap.size w1 w2) : w.grownBy w2 row := grown_trans h (grown_of_below k row)
theorem grown_set {w w1 : World} {row : Option Nat} (h : w.grownBy w1 row) {p : Addr} (hp : w.heap.size ≤ p.block ∨ some p.block = row) (u : Value) : w.grownBy (w1.setCell p u) row := by
 refine ⟨h.os, h.tape, h.output, ?_, fun k hk hr => ?_⟩
 ·
  have : (w1.setCell p u).heap.size = w1.heap.size := by simp [World.setCell]
  rw [this]; exact h.size
 ·
  have hne : k ≠ p.block := fun e => by
   rcases hp with hp | hp
   ·
    omega
   ·
    exact hr (by rw [e]; exact hp)
  exact (Below.heap_setCell w1 p u k hne).trans (h.block k hk hr)
theorem it_cells {w : World} {base g n cap : Nat} {ok : Nat → Prop} {xs : List It} (h : Kd.R kIt 59 w base ok (.slice (some ⟨g, 0, none⟩) n cap) xs) (i : Nat) (hi : i < xs.length) :
  w.cell? ⟨g, i * 2, none⟩ = some (.slice (xs.getD i It.z).A (xs.getD i It.z).l.length (xs.getD i It.z).cap) ∧ w.cell? ⟨g, i * 2 + 1, none⟩ = some (.int .i64 (xs.getD i It.z).n) ∧ ∀ j, w.frozen? ⟨g, j, none⟩ = false := by
 have hn := (Kd.R_reads' h).1
 obtain ⟨c, h1, h2, h3, h4⟩ := Kd.R_elem h It.z (i : Int) (by omega) (by omega)
 rw [Int.toNat_natCast] at h2 h3
 have h2 : c = (xs.getD i It.z).cs := h2
 subst h2
 refine ⟨h3 0 _ rfl, h3 1 _ rfl, fun j => ?_⟩
 obtain ⟨cells, hb⟩ := Kd.R_typed h g rfl
 exact blk_frozen hb _
theorem it_put {w : World} {base g n cap : Nat} {ok : Nat → Prop} {xs : List It} (h : Kd.R kIt 59 w base ok (.slice (some ⟨g, 0, none⟩) n cap) xs) (i : Nat) (hi : i < xs.length) (t : It) :
  Kd.R kIt 59 ((w.setCell ⟨g, i * 2, none⟩ (.slice t.A t.l.length t.cap)).setCell ⟨g, i * 2 + 1, none⟩ (.int .i64 t.n)) base ok (.slice (some ⟨g, 0, none⟩) n cap) (xs.set i t) := by
 have hn := (Kd.R_reads' h).1
 obtain ⟨c, h1, h2, h3, h4⟩ := Kd.R_elem h It.z (i : Int) (by omega) (by omega)
 have h2 : c = (xs.getD (i : Int).toNat It.z).cs := h2
 have h5 := (Kd.R_seg (c := c) (seg := t.cs) (j := 0) (x' := t) (okp := fun k => ok k ∧ k ≠ g) h (i : Int) (by omega) (by omega) h1 h3 (Nat.le_refl _) (by subst h2; exact (rfl : _ = _)) (fun _ hk => hk)).1
 exact h5
theorem it_put0 {w : World} {base g n cap : Nat} {ok : Nat → Prop} {xs : List It} (h : Kd.R kIt 59 w base ok (.slice (some ⟨g, 0, none⟩) n cap) xs) (i : Nat) (hi : i < xs.length) (t : It) (ht : t.n = (xs.getD i It.z).n) :
  Kd.R kIt 59 (w.setCell ⟨g, i * 2, none⟩ (.slice t.A t.l.length t.cap)) base ok (.slice (some ⟨g, 0, none⟩) n cap) (xs.set i t) := by
 have hn := (Kd.R_reads' h).1
 obtain ⟨c, h1, h2, h3, h4⟩ := Kd.R_elem h It.z (i : Int) (by omega) (by omega)
 have h2 : c = (xs.getD (i : Int).toNat It.z).cs := h2
 have h5 := (Kd.R_seg (c := c) (seg := [.slice t.A t.l.length t.cap]) (j := 0) (x' := t) (okp := fun k => ok k ∧ k ≠ g) h (i : Int) (by omega) (by omega) h1 h3 (Nat.le_of_ble_eq_true rfl) (by subst h2; show _ = _; unfold It.cs; rw [ht]; rfl) (fun _ hk => hk)).1
 exact h5
end Go.Proofs.Ytabiekkebdocnaa.Hp
namespace Go.Proofs.Ytabiekkebdocnaa.Q
open Go.RowKit Go.Proofs.YtabiekkebdocnaaW.PrintWords Go.Proofs.YtabiekkebdocnaaW.PrintLast Go.Proofs.YtabiekkebdocnaaW.PrintMore
attribute [local go_sem] max2_int min2_int max_two min_two max_three min_three max_four min_four
set_option linter.unusedVariables false
set_option linter.unusedSimpArgs false
open Go.Lib Go.Proofs.Ytabiekkebdocnaa.Hp
theorem info59 : (Try.prog.info? 59).map (fun i => (i.zero, i.size, i.bytes)) = some (some (.agg #[.slice none 0 0, .int .i64 0]), 2, 32) := by kernel_rfl
def cloneh_ren : Go.Shelf.Ren := ⟨fun | 41 => 30 | n => n, fun | 4 => 4 | 22 => 54 | 23 => 59 | n => n, fun | n => n⟩
theorem cloneh_lays : Go.Proofs.SlLaysE0.n41 Try.prog cloneh_ren := {
 mixed := by kernel_rfl
 f41 := ⟨Try.f30.name, by decide, Try.func30.trans (congrArg some (by kernel_rfl))⟩
 t4 := Try.underlying4
 a4 := Try.isAgg4
 z4 := Try.sizeOf4
 v4 := Try.zeroValue4
 t22 := Try.underlying54
 a22 := Try.isAgg54
 z22 := Try.sizeOf54
 v22 := Try.zeroValue54 }
theorem cloneh_none (ad : Addr) (c : Nat) (w : World) : Calls Try.prog 30 #[.slice (some ad) 0 c] w fun e w' => ∃ v0_ : Value, e = .returned (v0_) ∧ Kd.R kIt 59 w' w.heap.size (fun _ => True) v0_ [] ∧ Below w.heap.size w w' := by
 have q22 : ∀ (w : World) (a : Option Addr) (n c n' c' : Nat), (binOp .eql 54 (.slice a n c) (.slice none n' c')).run Try.prog w = .ok (.bool a.isNone) w := fun w a n c n' c' => Lib.run_eql_slice_nil w _ _ a n c n' c' Try.underlying54
 go_enter Try.func30, Try.ntmps30
 go_wp2
 go_ret
 refine ⟨_, rfl, ⟨fun _ _ => trivial, [], ⟨rfl, .inr ⟨w.heap.size, 0, #[], rfl, Nat.le_refl _, by show (w.heap.push _)[w.heap.size]? = _; simp, Nat.le_refl _, by unfold maxLen; omega, rfl, rfl⟩⟩, Reps.none _ _⟩, (Below.refl _ _).alloc (Nat.le_refl _) _⟩
def cloneH.f (l0 : List (It)) : Option (List (It)) := if l0.length * 32 ≤ 140737488355328 then some l0 else none
theorem cloneH.calls (A0 : Option Addr) (c0 : Nat) (l0 : List (It)) (r : List (It)) (w : World) (hr0 : Kd.C kIt w A0 l0.length l0) (hc0 : l0.length ≤ c0) (h : cloneH.f l0 = some r) :
  Calls Try.prog 30 #[.slice A0 l0.length c0] w fun e w' => ∃ v0_ : Value, e = .returned (v0_) ∧ Kd.R kIt 59 w' w.heap.size (fun _ => True) v0_ r ∧ Below w.heap.size w w' := by
 unfold cloneH.f at h
 split at h
 ·
  rename_i hbig
  obtain rfl := Option.some.inj h
  have hm := hr0.2.1
  have hk : ∀ x, (It.cs x).length = 2 := fun _ => rfl
  have hfl : ∀ l : List (It), (l.flatMap It.cs).length = l.length * 2 := fun l => by
   induction l with
   | nil => rfl
   | cons x l ih => rw [List.flatMap_cons, List.length_append, ih, hk, List.length_cons, Nat.add_mul]; omega
  have hrep : ∀ l : List (It), Reps (fun x cs => cs = It.cs x) 2 l (l.flatMap It.cs) := fun l => by
   refine ⟨hfl l, fun j p hj => ?_⟩
   induction l generalizing j with
   | nil => simp at hj
   | cons x l ih =>
    cases j with
    | zero =>
     obtain rfl : x = p := by simpa using hj
     rw [List.flatMap_cons, Nat.zero_mul, List.drop_zero, List.take_append_of_le_length (by rw [hk]; omega), List.take_of_length_le (by rw [hk]; omega)]
    | succ j =>
     have := ih j (by simpa using hj)
     rw [List.flatMap_cons, show (j + 1) * 2 = (It.cs x).length + j * 2 by rw [hk]; omega, ← List.drop_drop, List.drop_left]
     exact this
  have hone : ∀ l : List (It), ∀ u ∈ l.flatMap It.cs, u.oneCell' = true := fun l u hu => by
   obtain ⟨x, _, hx⟩ := List.mem_flatMap.1 hu
   simp [It.cs] at hx
   rcases hx with rfl | rfl <;> rfl
  cases A0 with
  | none =>
   have h0 : l0.length = 0 := Nat.eq_zero_of_not_pos fun hp => by obtain ⟨ad, e, _⟩ := hr0.2.2 hp; cases e
   obtain rfl := List.eq_nil_of_length_eq_zero h0
   refine (Go.Proofs.AnyE.slices_Clone_nil cloneh_lays 0 c0 w).mono ?_
   rintro e w' ⟨rfl, rfl⟩
   exact ⟨_, rfl, Kd.R_nil _ _ _ _ _, Below.refl _ _⟩
  | some ad =>
   rcases Nat.eq_zero_or_pos l0.length with h0 | hp
   ·
    obtain rfl := List.eq_nil_of_length_eq_zero h0
    exact cloneh_none ad c0 w
   ·
    obtain ⟨ad', e, hce⟩ := hr0.2.2 hp
    obtain rfl : ad = ad' := Option.some.inj e
    have hcell : ∀ (j : Nat) (u : Value), (l0.flatMap It.cs)[j]? = some u → w.cell? (ad.add j) = some u := by
     intro j u hu
     have hj : j < l0.length * 2 := by rw [← hfl]; exact (List.getElem?_eq_some_iff.1 hu).1
     have hq : j / 2 < l0.length := by omega
     obtain ⟨c, hc1, hc2, hc3⟩ := hce (j / 2) _ (List.getElem?_eq_getElem hq)
     obtain rfl : c = It.cs l0[j / 2] := (show _ = _ from hc2)
     have h1 := (hrep l0).2 (j / 2) _ (List.getElem?_eq_getElem hq)
     have h2 : (It.cs l0[j / 2])[j % 2]? = some u := by
      rw [← h1, List.getElem?_take_of_lt (by omega), List.getElem?_drop, show j / 2 * 2 + j % 2 = j by omega]; exact hu
     have h3 := hc3 (j % 2) u h2
     rw [show j / 2 * kIt.sz + j % 2 = j by show j / 2 * 2 + j % 2 = j; omega] at h3
     exact h3
    obtain ⟨b, o, s⟩ := ad
    have hs : s = none := by
     obtain ⟨u, hu⟩ : ∃ u, (l0.flatMap It.cs)[0]? = some u := ⟨_, List.getElem?_eq_getElem (by rw [hfl]; omega)⟩
     have := hcell 0 u hu
     cases s with
     | none => rfl
     | some q => simp [World.cell?, Addr.add] at this; split at this <;> simp at this
    subst hs
    have hinfo := info59
    obtain ⟨i0, hi, hz⟩ := Option.map_eq_some_iff.1 hinfo
    simp only [Prod.mk.injEq] at hz
    obtain ⟨hz0, hz1, hz2⟩ := hz
    refine (Go.Proofs.AnyE.slices_Clone cloneh_lays i0 _ 2 32 hi hz0 hz1 hz2 (by rfl) (by omega) Try.sizeOf59 b o l0.length c0 (l0.flatMap It.cs) w (hfl l0) hm (by omega) (fun j u hu => by have := hcell j u hu; by_cases hj : j = 0 <;> simpa [Addr.add, hj] using this) (hone l0)).mono ?_
    rintro e w' ⟨v', rfl, hown, _, hb⟩
    exact ⟨v', rfl, ⟨fun _ _ => trivial, _, hown, (hrep l0).imp_ (fun x cs hx => by rw [hx]; exact (rfl : _ = _))⟩, hb⟩
 ·
  cases h
end Go.Proofs.Ytabiekkebdocnaa.Q
