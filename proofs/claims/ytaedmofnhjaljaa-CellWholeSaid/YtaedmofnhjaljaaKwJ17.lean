/- The codec's bytes of cells, and the document's: the same. -/
import Derived.Test.YtaedmofnhjaljaaKwQx0
import Derived.RowKit
import Derived.Laws.BitsLemmas
import Derived.Test.YtaedmofnhjaljaaKwSq
import Derived.Shelf.SlicesE.Clone
import Derived.Test.YtaedmofnhjaljaaKwJ11
namespace Go.Proofs.Ytaedmofnhjaljaa.Pl
open Go Go.RowKit Go.Proofs.YtaedmofnhjaljaaW.PrintWords Go.Proofs.Ytaedmofnhjaljaa.Q
def okI (n : Int) : Prop := -9223372036854775808 ≤ n ∧ n ≤ 9223372036854775807
structure okC (c : S29) : Prop where
 row : okI c.f0.f2
 time : okI c.f1.f0
 loc : okI c.f1.f2
 num : okI c.f1.f3.f1
end Go.Proofs.Ytaedmofnhjaljaa.Pl
namespace Go.Proofs.Ytaedmofnhjaljaa.Q
open Go.RowKit Go.Proofs.YtaedmofnhjaljaaW.PrintWords Go.Proofs.YtaedmofnhjaljaaW.PrintLast Go.Proofs.YtaedmofnhjaljaaW.PrintMore
attribute [local go_sem] max2_int min2_int max_two min_two max_three min_three max_four min_four
set_option linter.unusedVariables false
set_option linter.unusedSimpArgs false
theorem eqA25 (d : Nat) (w : World) (x0 y0 : Int) (x1 y1 : Int) (x2 y2 : ByteArray) :
  (Op.equalIn (d + 2) 25 (.agg #[.int .i64 x0, .int .i64 x1, .string x2]) (.agg #[.int .i64 y0, .int .i64 y1, .string y2])).run Try.prog w = .ok (x0 == y0 && (x1 == y1 && (x2.toList == y2.toList))) w := by
 refine eqA_of Try.underlying25 (by kernel_rfl) ?_
 refine eqf_cons (by rfl) (by go_simp; rfl) (by go_simp; rfl) (by go_simp) ?_
 refine eqf_cons (by rfl) (by go_simp; rfl) (by go_simp; rfl) (by go_simp) ?_
 exact eqf_last (by rfl) (by go_simp; rfl) (by go_simp; rfl) (by go_simp)
end Go.Proofs.Ytaedmofnhjaljaa.Q
namespace Go.Proofs.Ytaedmofnhjaljaa.Q
open Go.RowKit Go.Proofs.YtaedmofnhjaljaaW.PrintWords Go.Proofs.YtaedmofnhjaljaaW.PrintLast Go.Proofs.YtaedmofnhjaljaaW.PrintMore
attribute [local go_sem] max2_int min2_int max_two min_two max_three min_three max_four min_four
set_option linter.unusedVariables false
set_option linter.unusedSimpArgs false
theorem eqA23 (d : Nat) (w : World) (x0 y0 : ByteArray) (x1 y1 : ByteArray) (x2 y2 : Int) (x3 y3 : ByteArray) :
  (Op.equalIn (d + 2) 23 (.agg #[.string x0, .string x1, .int .i64 x2, .string x3]) (.agg #[.string y0, .string y1, .int .i64 y2, .string y3])).run Try.prog w = .ok (x0.toList == y0.toList && (x1.toList == y1.toList && (x2 == y2 && (x3.toList == y3.toList)))) w := by
 refine eqA_of Try.underlying23 (by kernel_rfl) ?_
 refine eqf_cons (by rfl) (by go_simp; rfl) (by go_simp; rfl) (by go_simp) ?_
 refine eqf_cons (by rfl) (by go_simp; rfl) (by go_simp; rfl) (by go_simp) ?_
 refine eqf_cons (by rfl) (by go_simp; rfl) (by go_simp; rfl) (by go_simp) ?_
 exact eqf_last (by rfl) (by go_simp; rfl) (by go_simp; rfl) (by go_simp)
end Go.Proofs.Ytaedmofnhjaljaa.Q
namespace Go.Proofs.Ytaedmofnhjaljaa.Q
open Go.RowKit Go.Proofs.YtaedmofnhjaljaaW.PrintWords Go.Proofs.YtaedmofnhjaljaaW.PrintLast Go.Proofs.YtaedmofnhjaljaaW.PrintMore
attribute [local go_sem] max2_int min2_int max_two min_two max_three min_three max_four min_four
set_option linter.unusedVariables false
set_option linter.unusedSimpArgs false
theorem eqA27 (d : Nat) (w : World) (x0 y0 : Int) (x1 y1 : Bool) (x2 y2 : Int) (x3 y3 : Int) (x4 y4 : Int) (x5 y5 : ByteArray) :
  (Op.equalIn (d + 3) 27 (.agg #[.int .i64 x0, .bool x1, .int .i64 x2, .int .i64 x3, .int .i64 x4, .string x5]) (.agg #[.int .i64 y0, .bool y1, .int .i64 y2, .int .i64 y3, .int .i64 y4, .string y5])).run Try.prog w = .ok (x0 == y0 && (x1 == y1 && (x2 == y2 && ((x3 == y3 && (x4 == y4 && (x5.toList == y5.toList))))))) w := by
 refine eqA_of Try.underlying27 (by kernel_rfl) ?_
 refine eqf_cons (by rfl) (by go_simp; rfl) (by go_simp; rfl) (by go_simp) ?_
 refine eqf_cons (by rfl) (by go_simp; rfl) (by go_simp; rfl) (by go_simp) ?_
 refine eqf_cons (by rfl) (by go_simp; rfl) (by go_simp; rfl) (by go_simp) ?_
 exact eqf_last (by rfl) (by go_simp) (by go_simp) (eqA25 (d + 0) w _ _ _ _ _ _)
end Go.Proofs.Ytaedmofnhjaljaa.Q
namespace Go.Proofs.Ytaedmofnhjaljaa.Q
open Go.RowKit Go.Proofs.YtaedmofnhjaljaaW.PrintWords Go.Proofs.YtaedmofnhjaljaaW.PrintLast Go.Proofs.YtaedmofnhjaljaaW.PrintMore
attribute [local go_sem] max2_int min2_int max_two min_two max_three min_three max_four min_four
set_option linter.unusedVariables false
set_option linter.unusedSimpArgs false
theorem eqA29 (d : Nat) (w : World) (x0 y0 : ByteArray) (x1 y1 : ByteArray) (x2 y2 : Int) (x3 y3 : ByteArray) (x4 y4 : Int) (x5 y5 : Bool) (x6 y6 : Int) (x7 y7 : Int) (x8 y8 : Int) (x9 y9 : ByteArray) :
  (Op.equalIn (d + 4) 29 (.agg #[.string x0, .string x1, .int .i64 x2, .string x3, .int .i64 x4, .bool x5, .int .i64 x6, .int .i64 x7, .int .i64 x8, .string x9]) (.agg #[.string y0, .string y1, .int .i64 y2, .string y3, .int .i64 y4, .bool y5, .int .i64 y6, .int .i64 y7, .int .i64 y8, .string y9])).run Try.prog w = .ok ((x0.toList == y0.toList && (x1.toList == y1.toList && (x2 == y2 && (x3.toList == y3.toList)))) && ((x4 == y4 && (x5 == y5 && (x6 == y6 && ((x7 == y7 && (x8 == y8 && (x9.toList == y9.toList))))))))) w := by
 refine eqA_of Try.underlying29 (by kernel_rfl) ?_
 refine eqf_cons (by rfl) (by go_simp) (by go_simp) (eqA23 (d + 1) w _ _ _ _ _ _ _ _) ?_
 exact eqf_last (by rfl) (by go_simp) (by go_simp) (eqA27 (d + 0) w _ _ _ _ _ _ _ _ _ _ _ _)
end Go.Proofs.Ytaedmofnhjaljaa.Q
namespace Go.Proofs.Ytaedmofnhjaljaa.Q
open Go.RowKit Go.Proofs.YtaedmofnhjaljaaW.PrintWords Go.Proofs.YtaedmofnhjaljaaW.PrintLast Go.Proofs.YtaedmofnhjaljaaW.PrintMore
attribute [local go_sem] max2_int min2_int max_two min_two max_three min_three max_four min_four
set_option linter.unusedVariables false
set_option linter.unusedSimpArgs false
def encC_ (x : S29) : List Value := [.string x.f0.f0, .string x.f0.f1, .int .i64 x.f0.f2, .string x.f0.f3, .int .i64 x.f1.f0, .bool x.f1.f1, .int .i64 x.f1.f2, .int .i64 x.f1.f3.f0, .int .i64 x.f1.f3.f1, .string x.f1.f3.f2]
def clone_ren : Go.Shelf.Ren := ⟨fun | 41 => 39 | n => n, fun | 4 => 4 | 22 => 31 | 23 => 29 | n => n, fun | n => n⟩
theorem clone_lays : Go.Proofs.SlLaysE0.n41 Try.prog clone_ren := {
 mixed := by kernel_rfl
 f41 := ⟨Try.f39.name, by decide, Try.func39.trans (congrArg some (by kernel_rfl))⟩
 t4 := Try.underlying4
 a4 := Try.isAgg4
 z4 := Try.sizeOf4
 v4 := Try.zeroValue4
 t22 := Try.underlying31
 a22 := Try.isAgg31
 z22 := Try.sizeOf31
 v22 := Try.zeroValue31 }
theorem clone_none (ad : Addr) (c : Nat) (w : World) : Calls Try.prog 39 #[.slice (some ad) 0 c] w fun e w' => ∃ v0_ : Value, e = .returned (v0_) ∧ Kd.R k29 29 w' w.heap.size (fun _ => True) v0_ [] ∧ Below w.heap.size w w' := by
 have q22 : ∀ (w : World) (a : Option Addr) (n c n' c' : Nat), (binOp .eql 31 (.slice a n c) (.slice none n' c')).run Try.prog w = .ok (.bool a.isNone) w := fun w a n c n' c' => Lib.run_eql_slice_nil w _ _ a n c n' c' Try.underlying31
 go_enter Try.func39, Try.ntmps39
 go_wp2
 go_ret
 refine ⟨_, rfl, ⟨fun _ _ => trivial, [], ⟨rfl, .inr ⟨w.heap.size, 0, #[], rfl, Nat.le_refl _, by show (w.heap.push _)[w.heap.size]? = _; simp, Nat.le_refl _, by unfold maxLen; omega, rfl, rfl⟩⟩, Reps.none _ _⟩, (Below.refl _ _).alloc (Nat.le_refl _) _⟩
def api_Cell_39.f (l0 : List (S29)) : Option (List (S29)) := if l0.length * 112 ≤ 140737488355328 then some l0 else none
theorem api_Cell_39.calls (A0 : Option Addr) (c0 : Nat) (l0 : List (S29)) (r : List (S29)) (w : World) (hr0 : Kd.C k29 w A0 l0.length l0) (hc0 : l0.length ≤ c0) (h : api_Cell_39.f l0 = some r) :
  Calls Try.prog 39 #[.slice A0 l0.length c0] w fun e w' => ∃ v0_ : Value, e = .returned (v0_) ∧ Kd.R k29 29 w' w.heap.size (fun _ => True) v0_ r ∧ Below w.heap.size w w' := by
 unfold api_Cell_39.f at h
 split at h
 ·
  rename_i hbig
  obtain rfl := Option.some.inj h
  have hm := hr0.2.1
  have hk : ∀ x, (encC_ x).length = 10 := fun _ => rfl
  have hfl : ∀ l : List (S29), (l.flatMap encC_).length = l.length * 10 := fun l => by
   induction l with
   | nil => rfl
   | cons x l ih => rw [List.flatMap_cons, List.length_append, ih, hk, List.length_cons, Nat.add_mul]; omega
  have hrep : ∀ l : List (S29), Reps (fun x cs => cs = encC_ x) 10 l (l.flatMap encC_) := fun l => by
   refine ⟨hfl l, fun j p hj => ?_⟩
   induction l generalizing j with
   | nil => simp at hj
   | cons x l ih =>
    cases j with
    | zero =>
     obtain rfl : x = p := by simpa using hj
     rw [List.flatMap_cons, Nat.zero_mul, List.drop_zero, List.take_append_of_le_length (by rw [hk]; omega), List.take_of_length_le (by rw [hk]; omega)]
    | succ j =>
     have := ih j (by simpa using hj)
     rw [List.flatMap_cons, show (j + 1) * 10 = (encC_ x).length + j * 10 by rw [hk]; omega, ← List.drop_drop, List.drop_left]
     exact this
  have hone : ∀ l : List (S29), ∀ u ∈ l.flatMap encC_, u.oneCell' = true := fun l u hu => by
   obtain ⟨x, _, hx⟩ := List.mem_flatMap.1 hu
   simp [encC_] at hx
   rcases hx with rfl | rfl | rfl | rfl | rfl | rfl | rfl | rfl | rfl | rfl <;> rfl
  cases A0 with
  | none =>
   have h0 : l0.length = 0 := Nat.eq_zero_of_not_pos fun hp => by obtain ⟨ad, e, _⟩ := hr0.2.2 hp; cases e
   obtain rfl := List.eq_nil_of_length_eq_zero h0
   refine (Go.Proofs.AnyE.slices_Clone_nil clone_lays 0 c0 w).mono ?_
   rintro e w' ⟨rfl, rfl⟩
   exact ⟨_, rfl, Kd.R_nil _ _ _ _ _, Below.refl _ _⟩
  | some ad =>
   rcases Nat.eq_zero_or_pos l0.length with h0 | hp
   ·
    obtain rfl := List.eq_nil_of_length_eq_zero h0
    exact clone_none ad c0 w
   ·
    obtain ⟨ad', e, hce⟩ := hr0.2.2 hp
    obtain rfl : ad = ad' := Option.some.inj e
    have hcell : ∀ (j : Nat) (u : Value), (l0.flatMap encC_)[j]? = some u → w.cell? (ad.add j) = some u := by
     intro j u hu
     have hj : j < l0.length * 10 := by rw [← hfl]; exact (List.getElem?_eq_some_iff.1 hu).1
     have hq : j / 10 < l0.length := by omega
     obtain ⟨c, hc1, hc2, hc3⟩ := hce (j / 10) _ (List.getElem?_eq_getElem hq)
     obtain rfl : c = encC_ l0[j / 10] := k29_open hc2
     have h1 := (hrep l0).2 (j / 10) _ (List.getElem?_eq_getElem hq)
     have h2 : (encC_ l0[j / 10])[j % 10]? = some u := by
      rw [← h1, List.getElem?_take_of_lt (by omega), List.getElem?_drop, show j / 10 * 10 + j % 10 = j by omega]; exact hu
     have h3 := hc3 (j % 10) u h2
     rw [show j / 10 * k29.sz + j % 10 = j by show j / 10 * 10 + j % 10 = j; omega] at h3
     exact h3
    obtain ⟨b, o, s⟩ := ad
    have hs : s = none := by
     obtain ⟨u, hu⟩ : ∃ u, (l0.flatMap encC_)[0]? = some u := ⟨_, List.getElem?_eq_getElem (by rw [hfl]; omega)⟩
     have := hcell 0 u hu
     cases s with
     | none => rfl
     | some q => simp [World.cell?, Addr.add] at this; split at this <;> simp at this
    subst hs
    have hinfo := info29
    obtain ⟨i0, hi, hz⟩ := Option.map_eq_some_iff.1 hinfo
    simp only [Prod.mk.injEq] at hz
    obtain ⟨hz0, hz1, hz2⟩ := hz
    refine (Go.Proofs.AnyE.slices_Clone clone_lays i0 _ 10 112 hi hz0 hz1 hz2 (by rfl) (by omega) Try.sizeOf29 b o l0.length c0 (l0.flatMap encC_) w (hfl l0) hm (by omega) (fun j u hu => by have := hcell j u hu; by_cases hj : j = 0 <;> simpa [Addr.add, hj] using this) (hone l0)).mono ?_
    rintro e w' ⟨v', rfl, hown, _, hb⟩
    exact ⟨v', rfl, ⟨fun _ _ => trivial, _, hown, (hrep l0).imp_ (fun x cs hx => by rw [hx]; exact k29_mkM _ _ _ _)⟩, hb⟩
 ·
  cases h
end Go.Proofs.Ytaedmofnhjaljaa.Q
