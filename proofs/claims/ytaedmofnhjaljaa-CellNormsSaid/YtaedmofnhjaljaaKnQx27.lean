/- Lemmas for this claim's walk: no condition of their own. -/
import Derived.Test.YtaedmofnhjaljaaKnSq
import Derived.Shelf.SlicesE.Clone
import Derived.Test.YtaedmofnhjaljaaKnJ10
import Derived.Test.YtaedmofnhjaljaaKnQx0
import Derived.Test.YtaedmofnhjaljaaKnJ15
import Derived.Test.YtaedmofnhjaljaaKnQx26
namespace Go.Proofs.Ytaedmofnhjaljaa.Q
open Go.RowKit Go.Proofs.YtaedmofnhjaljaaW.PrintWords Go.Proofs.YtaedmofnhjaljaaW.PrintLast Go.Proofs.YtaedmofnhjaljaaW.PrintMore
attribute [local go_sem] max2_int min2_int max_two min_two max_three min_three max_four min_four
set_option linter.unusedVariables false
set_option linter.unusedSimpArgs false
def cell_Digest.f (k : Nat) (l0 : List (S29)) : Option (Int) := (codec_Cells.f k l0).bind fun t402 => ((murmur_Sum.f t402 0).bind fun bt405 => (some bt405.1))
set_option maxHeartbeats 8000000 in
set_option maxRecDepth 100000 in
theorem cell_Digest.calls (k : Nat) (A0 : Option Addr) (c0 : Nat) (l0 : List (S29)) (r : Int) (w : World) (hr0 : Kd.C k29 w A0 l0.length l0) (hc0 : l0.length ≤ c0) (h : cell_Digest.f k l0 = some r) :
  Calls Try.prog 20 #[.slice A0 l0.length c0] w fun e w' => e = .returned (.int .u64 r) ∧ Below w.heap.size w w' := by
 have HR0 := Aside0.mk hr0
 have HC0 := Aside0.mk hc0
 clear hr0 hc0
 have HB := Aside0.mk (Below.refl w.heap.size w)
 have H : ((codec_Cells.f k l0).bind fun t402 => ((murmur_Sum.f t402 0).bind fun bt405 => (some bt405.1))) = some r := h
 clear h
 replace H := Option.bind_eq_some_iff.mp H
 obtain ⟨t402, A20, H⟩ := H
 have A2 := Aside0.mk A20
 clear A20
 replace H := Option.bind_eq_some_iff.mp H
 obtain ⟨⟨t405, t406⟩, A30, H⟩ := H
 have A3 := Aside0.mk A30
 clear A30
 obtain rfl := Option.some.inj H
 go_enter Try.func20, Try.ntmps20
 go_wp2_with (first | ((with_reducible refine gate_callee (f := 38) rfl ?_); refine goesL_ (some 7) rfl rfl Try.func38 (by kernel_rfl) rfl #[.slice A0 l0.length c0] rfl (by (try simp only [mT_, mC_, mN_]); first | done | rfl) ?_; (with_reducible refine (codec_Cells.calls k _ _ l0 t402 _ ?side1 ?side2 A2.out).mono ?_); (case side1 => repeat (first | exact HR0.out | (with_reducible refine Kd.C_alloc ?_ _) | (with_reducible refine Kd.C_drewN ?_ _) | (with_reducible refine Kd.C_drew ?_))); (case side2 => exact HC0.out); rintro e w4 ⟨v403, rfl, ho0, hb⟩; refine ⟨_, rfl, ?_⟩; have HO404 := Aside0.mk (Kd.R_lower ho0 (bZ_ (kwW HB))); replace HB := Aside0.mk (below_step (kwW HB) hb); (try clear hb); (try clear hb2); (try clear hk); (try clear hi); (try clear ho0); obtain ⟨Ao5, co5, eo5⟩ := Kd.R_slice HO404.out; subst eo5) | ((with_reducible refine gate_callee (f := 37) rfl ?_); refine goesL_ (some 8) rfl rfl Try.func37 (by kernel_rfl) rfl #[.slice Ao5 t402.length co5, .int .u64 0] rfl (by (try simp only [mT_, mC_, mN_]); first | done | rfl) ?_; (with_reducible refine (murmur_Sum.calls _ _ t402 0 t405 t406 _ ?side1 ?side2 A3.out).mono ?_); (case side1 => repeat (first | exact (Kd.R_reads' HO404.out).2.2 | (with_reducible refine Kd.C_alloc ?_ _) | (with_reducible refine Kd.C_drewN ?_ _) | (with_reducible refine Kd.C_drew ?_))); (case side2 => exact (Kd.R_reads' HO404.out).2.1); rintro e w6 ⟨rfl, hb⟩; refine ⟨_, rfl, ?_⟩; replace HO404 := kR HO404 hb; replace HB := Aside0.mk (below_step (kwW HB) hb); (try clear hb); (try clear hb2); (try clear hk); (try clear hi)))
 go_ret
 exact ⟨by first | rfl | (simp <;> rfl) | (simp [*] <;> rfl), kwW HB⟩
def encC_ (x : S29) : List Value := [.string x.f0.f0, .string x.f0.f1, .int .i64 x.f0.f2, .string x.f0.f3, .int .i64 x.f1.f0, .bool x.f1.f1, .int .i64 x.f1.f2, .int .i64 x.f1.f3.f0, .int .i64 x.f1.f3.f1, .string x.f1.f3.f2]
def clone_ren : Go.Shelf.Ren := ⟨fun | 41 => 39 | n => n, fun | 4 => 4 | 22 => 31 | 23 => 29 | n => n, fun | n => n⟩
theorem clone_lays : Go.Proofs.SlLaysE0.n41 Try.prog clone_ren := {
 mixed := by kernel_rfl
 f41 := ⟨Try.f39.name, by decide, Try.func39.trans (congrArg some (by kernel_rfl))⟩
 t4 := Try.underlying4
 a4 := Try.isAgg4
 z4 := Try.sizeOf4
 v4 := Try.zeroValue4
 t22 := Try.underlying31
 a22 := Try.isAgg31
 z22 := Try.sizeOf31
 v22 := Try.zeroValue31 }
theorem clone_none (ad : Addr) (c : Nat) (w : World) : Calls Try.prog 39 #[.slice (some ad) 0 c] w fun e w' => ∃ v0_ : Value, e = .returned (v0_) ∧ Kd.R k29 29 w' w.heap.size (fun _ => True) v0_ [] ∧ Below w.heap.size w w' := by
 have q22 : ∀ (w : World) (a : Option Addr) (n c n' c' : Nat), (binOp .eql 31 (.slice a n c) (.slice none n' c')).run Try.prog w = .ok (.bool a.isNone) w := fun w a n c n' c' => Lib.run_eql_slice_nil w _ _ a n c n' c' Try.underlying31
 go_enter Try.func39, Try.ntmps39
 go_wp2
 go_ret
 refine ⟨_, rfl, ⟨fun _ _ => trivial, [], ⟨rfl, .inr ⟨w.heap.size, 0, #[], rfl, Nat.le_refl _, by show (w.heap.push _)[w.heap.size]? = _; simp, Nat.le_refl _, by unfold maxLen; omega, rfl, rfl⟩⟩, Reps.none _ _⟩, (Below.refl _ _).alloc (Nat.le_refl _) _⟩
def api_Cell_39.f (l0 : List (S29)) : Option (List (S29)) := if l0.length * 112 ≤ 140737488355328 then some l0 else none
theorem api_Cell_39.calls (A0 : Option Addr) (c0 : Nat) (l0 : List (S29)) (r : List (S29)) (w : World) (hr0 : Kd.C k29 w A0 l0.length l0) (hc0 : l0.length ≤ c0) (h : api_Cell_39.f l0 = some r) :
  Calls Try.prog 39 #[.slice A0 l0.length c0] w fun e w' => ∃ v0_ : Value, e = .returned (v0_) ∧ Kd.R k29 29 w' w.heap.size (fun _ => True) v0_ r ∧ Below w.heap.size w w' := by
 unfold api_Cell_39.f at h
 split at h
 ·
  rename_i hbig
  obtain rfl := Option.some.inj h
  have hm := hr0.2.1
  have hk : ∀ x, (encC_ x).length = 10 := fun _ => rfl
  have hfl : ∀ l : List (S29), (l.flatMap encC_).length = l.length * 10 := fun l => by
   induction l with
   | nil => rfl
   | cons x l ih => rw [List.flatMap_cons, List.length_append, ih, hk, List.length_cons, Nat.add_mul]; omega
  have hrep : ∀ l : List (S29), Reps (fun x cs => cs = encC_ x) 10 l (l.flatMap encC_) := fun l => by
   refine ⟨hfl l, fun j p hj => ?_⟩
   induction l generalizing j with
   | nil => simp at hj
   | cons x l ih =>
    cases j with
    | zero =>
     obtain rfl : x = p := by simpa using hj
     rw [List.flatMap_cons, Nat.zero_mul, List.drop_zero, List.take_append_of_le_length (by rw [hk]; omega), List.take_of_length_le (by rw [hk]; omega)]
    | succ j =>
     have := ih j (by simpa using hj)
     rw [List.flatMap_cons, show (j + 1) * 10 = (encC_ x).length + j * 10 by rw [hk]; omega, ← List.drop_drop, List.drop_left]
     exact this
  have hone : ∀ l : List (S29), ∀ u ∈ l.flatMap encC_, u.oneCell' = true := fun l u hu => by
   obtain ⟨x, _, hx⟩ := List.mem_flatMap.1 hu
   simp [encC_] at hx
   rcases hx with rfl | rfl | rfl | rfl | rfl | rfl | rfl | rfl | rfl | rfl <;> rfl
  cases A0 with
  | none =>
   have h0 : l0.length = 0 := Nat.eq_zero_of_not_pos fun hp => by obtain ⟨ad, e, _⟩ := hr0.2.2 hp; cases e
   obtain rfl := List.eq_nil_of_length_eq_zero h0
   refine (Go.Proofs.AnyE.slices_Clone_nil clone_lays 0 c0 w).mono ?_
   rintro e w' ⟨rfl, rfl⟩
   exact ⟨_, rfl, Kd.R_nil _ _ _ _ _, Below.refl _ _⟩
  | some ad =>
   rcases Nat.eq_zero_or_pos l0.length with h0 | hp
   ·
    obtain rfl := List.eq_nil_of_length_eq_zero h0
    exact clone_none ad c0 w
   ·
    obtain ⟨ad', e, hce⟩ := hr0.2.2 hp
    obtain rfl : ad = ad' := Option.some.inj e
    have hcell : ∀ (j : Nat) (u : Value), (l0.flatMap encC_)[j]? = some u → w.cell? (ad.add j) = some u := by
     intro j u hu
     have hj : j < l0.length * 10 := by rw [← hfl]; exact (List.getElem?_eq_some_iff.1 hu).1
     have hq : j / 10 < l0.length := by omega
     obtain ⟨c, hc1, hc2, hc3⟩ := hce (j / 10) _ (List.getElem?_eq_getElem hq)
     obtain rfl : c = encC_ l0[j / 10] := k29_open hc2
     have h1 := (hrep l0).2 (j / 10) _ (List.getElem?_eq_getElem hq)
     have h2 : (encC_ l0[j / 10])[j % 10]? = some u := by
      rw [← h1, List.getElem?_take_of_lt (by omega), List.getElem?_drop, show j / 10 * 10 + j % 10 = j by omega]; exact hu
     have h3 := hc3 (j % 10) u h2
     rw [show j / 10 * k29.sz + j % 10 = j by show j / 10 * 10 + j % 10 = j; omega] at h3
     exact h3
    obtain ⟨b, o, s⟩ := ad
    have hs : s = none := by
     obtain ⟨u, hu⟩ : ∃ u, (l0.flatMap encC_)[0]? = some u := ⟨_, List.getElem?_eq_getElem (by rw [hfl]; omega)⟩
     have := hcell 0 u hu
     cases s with
     | none => rfl
     | some q => simp [World.cell?, Addr.add] at this; split at this <;> simp at this
    subst hs
    have hinfo := info29
    obtain ⟨i0, hi, hz⟩ := Option.map_eq_some_iff.1 hinfo
    simp only [Prod.mk.injEq] at hz
    obtain ⟨hz0, hz1, hz2⟩ := hz
    refine (Go.Proofs.AnyE.slices_Clone clone_lays i0 _ 10 112 hi hz0 hz1 hz2 (by rfl) (by omega) Try.sizeOf29 b o l0.length c0 (l0.flatMap encC_) w (hfl l0) hm (by omega) (fun j u hu => by have := hcell j u hu; by_cases hj : j = 0 <;> simpa [Addr.add, hj] using this) (hone l0)).mono ?_
    rintro e w' ⟨v', rfl, hown, _, hb⟩
    exact ⟨v', rfl, ⟨fun _ _ => trivial, _, hown, (hrep l0).imp_ (fun x cs hx => by rw [hx]; exact k29_mkM _ _ _ _)⟩, hb⟩
 ·
  cases h
end Go.Proofs.Ytaedmofnhjaljaa.Q
