/- Lemmas for this claim's walk: no condition of their own. -/
import Derived.Test.YtaedmofnhjaljaaKwSq
import Derived.Shelf.SlicesQ.IndexFunc
import Derived.Test.YtaedmofnhjaljaaKwJ11
import Derived.Test.YtaedmofnhjaljaaKwQx0
import Derived.Test.YtaedmofnhjaljaaKwJ17
namespace Go.Proofs.Ytaedmofnhjaljaa.Q
open Go.RowKit Go.Proofs.YtaedmofnhjaljaaW.PrintWords Go.Proofs.YtaedmofnhjaljaaW.PrintLast Go.Proofs.YtaedmofnhjaljaaW.PrintMore
attribute [local go_sem] max2_int min2_int max_two min_two max_three min_three max_four min_four
set_option linter.unusedVariables false
set_option linter.unusedSimpArgs false
def keyB (c : S29) (a0 a1 : ByteArray) (a2 : Int) (a3 : ByteArray) : Bool := c.f0.f0.toList == a0.toList && (c.f0.f1.toList == a1.toList && (c.f0.f2 == a2 && (c.f0.f3.toList == a3.toList)))
def encF_ (x : S29) : List Value := [.string x.f0.f0, .string x.f0.f1, .int .i64 x.f0.f2, .string x.f0.f3, .int .i64 x.f1.f0, .bool x.f1.f1, .int .i64 x.f1.f2, .int .i64 x.f1.f3.f0, .int .i64 x.f1.f3.f1, .string x.f1.f3.f2]
def find_ren : Go.Shelf.Ren := ⟨fun | 6 => 46 | n => n, fun | 0 => 0 | 3 => 3 | 4 => 4 | 22 => 31 | 23 => 29 | 25 => 33 | n => n, fun | n => n⟩
theorem find_lays : Go.Proofs.SlLaysH0.n6 Try.prog find_ren := {
 mixed := by kernel_rfl
 f6 := ⟨Try.f46.name, by decide, Try.func46.trans (congrArg some (by kernel_rfl))⟩
 t0 := Try.underlying0
 a0 := Try.isAgg0
 z0 := Try.sizeOf0
 v0 := Try.zeroValue0
 t3 := Try.underlying3
 a3 := Try.isAgg3
 z3 := Try.sizeOf3
 v3 := Try.zeroValue3
 t4 := Try.underlying4
 a4 := Try.isAgg4
 z4 := Try.sizeOf4
 v4 := Try.zeroValue4
 t22 := Try.underlying31
 a22 := Try.isAgg31
 z22 := Try.sizeOf31
 v22 := Try.zeroValue31
 t25 := Try.underlying33
 a25 := Try.isAgg33
 z25 := Try.sizeOf33
 v25 := Try.zeroValue33 }
attribute [local go_sem high] eqA23
theorem find_clo (B : Nat) (a0 a1 : ByteArray) (a2 : Int) (a3 : ByteArray) (w : World) (hB : B < w.heap.size) (h0 : w.cell? ⟨B, 0, none⟩ = some (.string a0)) (h1 : w.cell? ⟨B, 1, none⟩ = some (.string a1)) (h2 : w.cell? ⟨B, 2, none⟩ = some (.int .i64 a2)) (h3 : w.cell? ⟨B, 3, none⟩ = some (.string a3)) :
  Go.Proofs.PredBelow Try.prog 47 #[.pointer (some ⟨B, 0, none⟩)] (fun x => .agg (encF_ x).toArray) (fun x => keyB x a0 a1 a2 a3) w := by
 intro W x hb
 obtain ⟨⟨y0, y1, y2, y3⟩, ⟨y4, y5, y6, ⟨y7, y8, y9⟩⟩⟩ := x
 have g0 := (hb.cell (p := ⟨B, 0, none⟩) hB).trans h0
 have g1 := (hb.cell (p := ⟨B, 1, none⟩) hB).trans h1
 have g2 := (hb.cell (p := ⟨B, 2, none⟩) hB).trans h2
 have g3 := (hb.cell (p := ⟨B, 3, none⟩) hB).trans h3
 have hBW : B < W.heap.size := Nat.lt_of_lt_of_le hB hb.size
 have HB := Lib.hid hb
 have hb0 := Lib.hid hb.size
 have hu := Try.underlying23
 clear hb h0 h1 h2 h3
 show Calls Try.prog 47 #[.agg #[.string y0, .string y1, .int .i64 y2, .string y3, .int .i64 y4, .bool y5, .int .i64 y6, .int .i64 y7, .int .i64 y8, .string y9], .pointer (some ⟨B, 0, none⟩)] W _
 go_enter Try.func47, Try.ntmps47
 go_wp2
 go_ret
 exact ⟨rfl, by repeat (first | exact HB.out | exact HB.out.trans ((Below.refl _ _).alloc hb0.out _) | apply pw_below_drewN | apply below_drew1)⟩
theorem find_idx0 (A : Option Addr) (c : Nat) (g : Nat) (cb : Array Value) (w : World) : Calls Try.prog 46 #[.slice A 0 c, .func (.func g) #[] cb] w fun e w' => e = .returned (.int .i64 (-1)) ∧ w' = w := by
 go_enter Try.func46, Try.ntmps46
 go_wp2
 go_loopg [8] 0 (fun g1 vi wr => vi = .int .i64 0 ∧ wr = w)
 case atStart => exact ⟨rfl, rfl⟩
 case round =>
  obtain ⟨rfl, rfl⟩ := hrel
  go_wp2
  go_ret
  exact ⟨rfl, rfl⟩
theorem find_at (p : S29 → Bool) (l : List (S29)) : (l.find? p = none ∧ Lib.idxBy (fun _ y => p y) l z29 = -1) ∨ ∃ (j : Nat) (c : S29), j < l.length ∧ l[j]? = some c ∧ l.find? p = some c ∧ Lib.idxBy (fun _ y => p y) l z29 = (j : Int) := by
 have gen : ∀ (l : List (S29)) (i : Nat), (l.find? p = none ∧ Lib.idxByFrom (fun _ y => p y) z29 l i = -1) ∨ ∃ (j : Nat) (c : S29), j < l.length ∧ l[j]? = some c ∧ l.find? p = some c ∧ Lib.idxByFrom (fun _ y => p y) z29 l i = ((i + j : Nat) : Int) := by
  intro l
  induction l with
  | nil => exact fun i => .inl ⟨rfl, rfl⟩
  | cons x l ih =>
   intro i
   cases h : p x
   ·
    rcases ih (i + 1) with ⟨h1, h2⟩ | ⟨j, c, h1, h2, h3, h4⟩
    ·
     exact .inl ⟨by rw [List.find?_cons_of_neg (by simp [h])]; exact h1, by simp [Lib.idxByFrom, h, h2]⟩
    ·
     exact .inr ⟨j + 1, c, by simp; omega, by simpa using h2, by rw [List.find?_cons_of_neg (by simp [h])]; exact h3, by simp only [Lib.idxByFrom, h, Bool.false_eq_true, if_false, h4]; congr 1; omega⟩
   ·
    exact .inr ⟨0, x, by simp, rfl, by rw [List.find?_cons_of_pos h], by simp [Lib.idxByFrom, h]⟩
 have := gen l 0
 simpa [Lib.idxBy] using this
def cell_Find.f (l0 : List (S29)) (a1_0 : ByteArray) (a1_1 : ByteArray) (a1_2 : Int) (a1_3 : ByteArray) : Option (Int × Bool × Int × Int × Int × ByteArray × Bool) :=
 some (match l0.find? (fun c => keyB c a1_0 a1_1 a1_2 a1_3) with
  | some c => (c.f1.f0, c.f1.f1, c.f1.f2, c.f1.f3.f0, c.f1.f3.f1, c.f1.f3.f2, true)
  | none => (0, false, 0, 0, 0, ⟨#[]⟩, false))
set_option maxHeartbeats 2000000 in
theorem cell_Find.calls (A0 : Option Addr) (c0 : Nat) (l0 : List (S29)) (a1_0 : ByteArray) (a1_1 : ByteArray) (a1_2 : Int) (a1_3 : ByteArray) (r1 : Int) (r2 : Bool) (r3 : Int) (r4 : Int) (r5 : Int) (r6 : ByteArray) (r7 : Bool) (w : World) (hr0 : Kd.C k29 w A0 l0.length l0) (hc0 : l0.length ≤ c0) (h : cell_Find.f l0 a1_0 a1_1 a1_2 a1_3 = some (r1, r2, r3, r4, r5, r6, r7)) :
  Calls Try.prog 24 #[.slice A0 l0.length c0, .agg #[.string a1_0, .string a1_1, .int .i64 a1_2, .string a1_3]] w fun e w' => e = .returned (.tuple #[.agg #[.int .i64 r1, .bool r2, .int .i64 r3, .int .i64 r4, .int .i64 r5, .string r6], .bool r7]) ∧ Below w.heap.size w w' := by
 have hp := find_at (fun c => keyB c a1_0 a1_1 a1_2 a1_3) l0
 unfold cell_Find.f at h
 have h := Option.some.inj h
 -- the index
 have hI : ∀ W : World, Below w.heap.size w W → w.heap.size < W.heap.size → W.cell? ⟨w.heap.size, 0, none⟩ = some (.string a1_0) → W.cell? ⟨w.heap.size, 1, none⟩ = some (.string a1_1) → W.cell? ⟨w.heap.size, 2, none⟩ = some (.int .i64 a1_2) → W.cell? ⟨w.heap.size, 3, none⟩ = some (.string a1_3) →
   Calls Try.prog 46 #[.slice A0 l0.length c0, .func (.func 47) #[] #[.pointer (some ⟨w.heap.size, 0, none⟩)]] W fun e w' => e = .returned (.int .i64 (Lib.idxBy (fun _ y => keyB y a1_0 a1_1 a1_2 a1_3) l0 z29)) ∧ Below W.heap.size W w' := by
  intro W hW hs g0 g1 g2 g3
  rcases Nat.eq_zero_or_pos l0.length with h0 | hpos
  ·
   obtain rfl := List.eq_nil_of_length_eq_zero h0
   refine (find_idx0 A0 c0 _ _ W).mono ?_
   rintro e w' ⟨rfl, rfl⟩
   exact ⟨rfl, Below.refl _ _⟩
  ·
   obtain ⟨ad, e, hce⟩ := hr0.2.2 hpos
   subst e
   obtain ⟨b, o, s⟩ := ad
   have hcell : ∀ (W : World), Kd.C k29 W (some ⟨b, o, s⟩) l0.length l0 → ∀ j, j < l0.length → ∀ i v, (encF_ (l0.getD j z29))[i]? = some v → W.cell? ((⟨b, o, s⟩ : Addr).add (j * 10 + i)) = some v := by
    intro W hC j hj i v hv
    obtain ⟨ad, e, hce⟩ := hC.2.2 hpos
    obtain rfl := Option.some.inj e
    obtain ⟨c, hc1, hc2, hc3⟩ := hce j _ (List.getElem?_eq_getElem hj)
    obtain rfl : c = encF_ l0[j] := k29_open hc2
    refine hc3 i v ?_
    rw [List.getD_eq_getElem?_getD, List.getElem?_eq_getElem hj] at hv
    exact hv
   have hs' : s = none ∧ b < w.heap.size := by
    have h1 := hcell w hr0 0 hpos 0 _ rfl
    cases s with
    | none =>
     refine ⟨rfl, ?_⟩
     unfold World.cell? at h1
     simp only [Addr.add] at h1
     rcases Nat.lt_or_ge b w.heap.size with h | h
     ·
      exact h
     ·
      simp [Array.getElem?_eq_none h] at h1
    | some q => simp [World.cell?, Addr.add] at h1; split at h1 <;> simp at h1
   obtain ⟨rfl, hbl⟩ := hs'
   letI : Inhabited (S29) := ⟨z29⟩
   have hWC := Kd.C_below hr0 hW
   have hi := Go.Proofs.AnyQ.slices_IndexFunc find_lays 10 Try.isAgg29 Try.sizeOf29 encF_ (fun _ => rfl) (fun y => keyB y a1_0 a1_1 a1_2 a1_3) 47 #[.pointer (some ⟨w.heap.size, 0, none⟩)] (enters_of Try.func47 (by kernel_rfl) rfl) b o l0.length c0 l0 W
    (find_clo w.heap.size a1_0 a1_1 a1_2 a1_3 W hs g0 g1 g2 g3) (Nat.le_refl _) hr0.2.1 (Nat.lt_of_lt_of_le hbl hW.size) (fun j hj i v hv => by
     have := hcell W hWC j hj i v (by rw [List.getD_eq_getElem?_getD, List.getElem?_eq_getElem hj]; rw [getElem!_pos l0 j hj] at hv; exact hv)
     by_cases hz : j * 10 + i = 0
     ·
      have e1 : o + j * 10 + i = o := by omega
      rw [e1]; simpa [Addr.add, hz] using this
     ·
      have hz' : ¬ (j * 10 = 0 ∧ i = 0) := by omega
      rw [Nat.add_assoc]; simpa [Addr.add, hz'] using this)
   rw [List.take_of_length_le (Nat.le_refl _)] at hi
   exact hi
 have HI := Lib.hid hI
 rcases hp with ⟨p1, p2⟩ | ⟨j, c, p1, p2, p3, p4⟩
 ·
  have HN := Lib.hid (show r1 = 0 ∧ r2 = false ∧ r3 = 0 ∧ r4 = 0 ∧ r5 = 0 ∧ r6 = ⟨#[]⟩ ∧ r7 = false by
   rw [p1] at h
   simp only [Prod.mk.injEq] at h
   obtain ⟨a, b, c, d, e, f, g⟩ := h
   exact ⟨a.symm, b.symm, c.symm, d.symm, e.symm, f.symm, g.symm⟩)
  have P2 := Lib.hid p2
  clear p1 p2 h hI hr0
  go_enter Try.func24, Try.ntmps24
  go_wp2_with fail
  refine (HI.out _ (((Below.refl _ _).alloc (Nat.le_refl _) _).alloc (by simp) _) (by simp; try omega) (by simp) (by simp) (by simp) (by simp)).mono ?_
  rintro e w1 ⟨rfl, hb⟩
  rw [P2.out]
  have z0 : w1.cell? ⟨w.heap.size + 1, 0, none⟩ = some (.int .i64 0) := (hb.cell (p := ⟨w.heap.size + 1, 0, none⟩) (by simp)).trans (by simp)
  have f0 : w1.frozen? ⟨w.heap.size + 1, 0, none⟩ = false := (hb.frozen (p := ⟨w.heap.size + 1, 0, none⟩) (by simp)).trans (by simp)
  have z1 : w1.cell? ⟨w.heap.size + 1, 1, none⟩ = some (.bool false) := (hb.cell (p := ⟨w.heap.size + 1, 1, none⟩) (by simp)).trans (by simp)
  have f1 : w1.frozen? ⟨w.heap.size + 1, 1, none⟩ = false := (hb.frozen (p := ⟨w.heap.size + 1, 1, none⟩) (by simp)).trans (by simp)
  have z2 : w1.cell? ⟨w.heap.size + 1, 2, none⟩ = some (.int .i64 0) := (hb.cell (p := ⟨w.heap.size + 1, 2, none⟩) (by simp)).trans (by simp)
  have f2 : w1.frozen? ⟨w.heap.size + 1, 2, none⟩ = false := (hb.frozen (p := ⟨w.heap.size + 1, 2, none⟩) (by simp)).trans (by simp)
  have z3 : w1.cell? ⟨w.heap.size + 1, 3, none⟩ = some (.int .i64 0) := (hb.cell (p := ⟨w.heap.size + 1, 3, none⟩) (by simp)).trans (by simp)
  have f3 : w1.frozen? ⟨w.heap.size + 1, 3, none⟩ = false := (hb.frozen (p := ⟨w.heap.size + 1, 3, none⟩) (by simp)).trans (by simp)
  have z4 : w1.cell? ⟨w.heap.size + 1, 4, none⟩ = some (.int .i64 0) := (hb.cell (p := ⟨w.heap.size + 1, 4, none⟩) (by simp)).trans (by simp)
  have f4 : w1.frozen? ⟨w.heap.size + 1, 4, none⟩ = false := (hb.frozen (p := ⟨w.heap.size + 1, 4, none⟩) (by simp)).trans (by simp)
  have z5 : w1.cell? ⟨w.heap.size + 1, 5, none⟩ = some (.string ⟨#[]⟩) := (hb.cell (p := ⟨w.heap.size + 1, 5, none⟩) (by simp)).trans (by simp)
  have f5 : w1.frozen? ⟨w.heap.size + 1, 5, none⟩ = false := (hb.frozen (p := ⟨w.heap.size + 1, 5, none⟩) (by simp)).trans (by simp)
  have hs := hb.size
  simp at hs
  have HB := Lib.hid (show Below w.heap.size w w1 from ((((Below.refl _ _).alloc (Nat.le_refl _) _).alloc (by simp) _).trans (hb.mono (by simp; omega))))
  clear hb
  obtain ⟨rfl, rfl, rfl, rfl, rfl, rfl, rfl⟩ := HN.out
  clear HN
  go_wp2
  refine bodyPost_ret (v := .tuple #[.agg #[.int .i64 0, .bool false, .int .i64 0, .int .i64 0, .int .i64 0, .string ⟨#[]⟩], .bool false]) (by simp [results, Try.results24, go_sem, z0, z1, z2, z3, z4, z5]) rfl ⟨rfl, ?_⟩
  (repeat (first | (with_reducible exact HB.out) | (with_reducible refine Below.setCell ?_ (by simp) _)))
 ·
  obtain ⟨⟨k0, k1, k2, k3⟩, ⟨v0, v1, v2, ⟨v3, v4, v5⟩⟩⟩ := c
  have HN := Lib.hid (show r1 = v0 ∧ r2 = v1 ∧ r3 = v2 ∧ r4 = v3 ∧ r5 = v4 ∧ r6 = v5 ∧ r7 = true by
   rw [p3] at h
   simp only [Prod.mk.injEq] at h
   obtain ⟨a, b, c, d, e, f, g⟩ := h
   exact ⟨a.symm, b.symm, c.symm, d.symm, e.symm, f.symm, g.symm⟩)
  have P4 := Lib.hid p4
  have hjz : (j : Int) < (l0.length : Int) := by omega
  have HR := Lib.hid hr0
  have HJ := Lib.hid (show rd_T29 l0 (j : Int) = ⟨⟨k0, k1, k2, k3⟩, ⟨v0, v1, v2, ⟨v3, v4, v5⟩⟩⟩ by simp [rd_T29, List.getD_eq_getElem?_getD, p2])
  clear p2 p3 p4 h hI hr0
  go_enter Try.func24, Try.ntmps24
  go_wp2_with fail
  refine (HI.out _ (((Below.refl _ _).alloc (Nat.le_refl _) _).alloc (by simp) _) (by simp; try omega) (by simp) (by simp) (by simp) (by simp)).mono ?_
  rintro e w1 ⟨rfl, hb⟩
  rw [P4.out]
  have z0 : w1.cell? ⟨w.heap.size + 1, 0, none⟩ = some (.int .i64 0) := (hb.cell (p := ⟨w.heap.size + 1, 0, none⟩) (by simp)).trans (by simp)
  have f0 : w1.frozen? ⟨w.heap.size + 1, 0, none⟩ = false := (hb.frozen (p := ⟨w.heap.size + 1, 0, none⟩) (by simp)).trans (by simp)
  have z1 : w1.cell? ⟨w.heap.size + 1, 1, none⟩ = some (.bool false) := (hb.cell (p := ⟨w.heap.size + 1, 1, none⟩) (by simp)).trans (by simp)
  have f1 : w1.frozen? ⟨w.heap.size + 1, 1, none⟩ = false := (hb.frozen (p := ⟨w.heap.size + 1, 1, none⟩) (by simp)).trans (by simp)
  have z2 : w1.cell? ⟨w.heap.size + 1, 2, none⟩ = some (.int .i64 0) := (hb.cell (p := ⟨w.heap.size + 1, 2, none⟩) (by simp)).trans (by simp)
  have f2 : w1.frozen? ⟨w.heap.size + 1, 2, none⟩ = false := (hb.frozen (p := ⟨w.heap.size + 1, 2, none⟩) (by simp)).trans (by simp)
  have z3 : w1.cell? ⟨w.heap.size + 1, 3, none⟩ = some (.int .i64 0) := (hb.cell (p := ⟨w.heap.size + 1, 3, none⟩) (by simp)).trans (by simp)
  have f3 : w1.frozen? ⟨w.heap.size + 1, 3, none⟩ = false := (hb.frozen (p := ⟨w.heap.size + 1, 3, none⟩) (by simp)).trans (by simp)
  have z4 : w1.cell? ⟨w.heap.size + 1, 4, none⟩ = some (.int .i64 0) := (hb.cell (p := ⟨w.heap.size + 1, 4, none⟩) (by simp)).trans (by simp)
  have f4 : w1.frozen? ⟨w.heap.size + 1, 4, none⟩ = false := (hb.frozen (p := ⟨w.heap.size + 1, 4, none⟩) (by simp)).trans (by simp)
  have z5 : w1.cell? ⟨w.heap.size + 1, 5, none⟩ = some (.string ⟨#[]⟩) := (hb.cell (p := ⟨w.heap.size + 1, 5, none⟩) (by simp)).trans (by simp)
  have f5 : w1.frozen? ⟨w.heap.size + 1, 5, none⟩ = false := (hb.frozen (p := ⟨w.heap.size + 1, 5, none⟩) (by simp)).trans (by simp)
  have hs := hb.size
  simp at hs
  have HB := Lib.hid (show Below w.heap.size w w1 from ((((Below.refl _ _).alloc (Nat.le_refl _) _).alloc (by simp) _).trans (hb.mono (by simp; omega))))
  obtain ⟨ad, ea, d0, d1, d2, d3, d4, d5, d6, d7, d8, d9⟩ := at_T29 (Kd.C_below HR.out HB.out) (j : Int) (by omega) hjz
  subst ea
  rw [HJ.out] at d4 d5 d6 d7 d8 d9
  have ej : ((j : Int)).toNat = j := by omega
  rw [ej] at d4 d5 d6 d7 d8 d9
  clear hb d0 d1 d2 d3 ej
  obtain ⟨rfl, rfl, rfl, rfl, rfl, rfl, rfl⟩ := HN.out
  clear HN
  go_wp2
  refine bodyPost_ret (v := .tuple #[.agg #[.int .i64 r1, .bool r2, .int .i64 r3, .int .i64 r4, .int .i64 r5, .string r6], .bool true]) (by simp [results, Try.results24, go_sem, z0, z1, z2, z3, z4, z5]) rfl ⟨rfl, ?_⟩
  (repeat (first | (with_reducible exact HB.out) | (with_reducible refine Below.setCell ?_ (by simp) _)))
def skerryref04_texts.f (a0 : ByteArray) (a1 : ByteArray) : Option (Int) := if (Op.bytesLess a0.toList a1.toList) = true then (some (-1)) else (if a0.toList = a1.toList then (some 0) else (some 1))
set_option maxHeartbeats 8000000 in
set_option maxRecDepth 100000 in
theorem skerryref04_texts.calls (a0 : ByteArray) (a1 : ByteArray) (r : Int) (w : World) (h : skerryref04_texts.f a0 a1 = some r) :
  Calls Try.prog 48 #[.string a0, .string a1] w fun e w' => e = .returned (.int .i64 r) ∧ Drawn0 w w' := by
 have H : (if (Op.bytesLess a0.toList a1.toList) = true then (some (-1)) else (if a0.toList = a1.toList then (some 0) else (some 1))) = some r := h
 clear h
 by_cases c3 : (Op.bytesLess a0.toList a1.toList) = true
 ·
  rw [if_pos c3] at H
  have c3b0 : (Op.bytesLess a0.toList a1.toList) = true := c3
  clear c3
  obtain rfl := Option.some.inj H
  go_enter Try.func48, Try.ntmps48
  go_wp2
  go_ret
  exact ⟨by first | rfl | (simp; done) | (simp [*]; done), by repeat (first | exact Drawn0.refl _ | apply Drawn0.step)⟩
 ·
  rw [if_neg c3] at H
  have c3b0 : (Op.bytesLess a0.toList a1.toList) = false := by simpa using c3
  clear c3
  by_cases c4 : a0.toList = a1.toList
  ·
   rw [if_pos c4] at H
   have c4b0 : (a0.toList == a1.toList) = true := beq_iff_eq.mpr c4
   have c4b1 : (a0.toList != a1.toList) = false := bne_eq_false_iff_eq.mpr c4
   clear c4
   obtain rfl := Option.some.inj H
   go_enter Try.func48, Try.ntmps48
   go_wp2
   go_ret
   exact ⟨by first | rfl | (simp; done) | (simp [*]; done), by repeat (first | exact Drawn0.refl _ | apply Drawn0.step)⟩
  ·
   rw [if_neg c4] at H
   have c4b0 : (a0.toList == a1.toList) = false := beq_eq_false_iff_ne.mpr c4
   have c4b1 : (a0.toList != a1.toList) = true := bne_iff_ne.mpr c4
   obtain rfl := Option.some.inj H
   go_enter Try.func48, Try.ntmps48
   go_wp2
   go_ret
   exact ⟨by first | rfl | (simp; done) | (simp [*]; done), by repeat (first | exact Drawn0.refl _ | apply Drawn0.step)⟩
end Go.Proofs.Ytaedmofnhjaljaa.Q
