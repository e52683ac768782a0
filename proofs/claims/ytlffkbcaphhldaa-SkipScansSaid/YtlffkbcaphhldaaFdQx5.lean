/- Lemmas for this claim's walk: no condition of their own. -/
import Derived.Test.YtlffkbcaphhldaaFdSq
import Derived.Test.YtlffkbcaphhldaaFdQx0
namespace Go.Proofs.Ytlffkbcaphhldaa.Q
open Go.RowKit Go.Proofs.YtlffkbcaphhldaaW.PrintWords Go.Proofs.YtlffkbcaphhldaaW.PrintLast Go.Proofs.YtlffkbcaphhldaaW.PrintMore
attribute [local go_sem] max2_int min2_int max_two min_two max_three min_three max_four min_four
set_option linter.unusedVariables false
set_option linter.unusedSimpArgs false
def badRune (r : Nat) : Bool := ((decide (r < 97) || decide (122 < r)) && (decide (r < 48) || decide (57 < r))) && !(decide (r = 95))
def nameB (s : ByteArray) : Bool := decide (1 ≤ s.size) && decide (s.size ≤ 16) && decide (97 ≤ bt s 0) && decide (bt s 0 ≤ 122) && decide (Lib.idxFunc badRune true s < 0)
def key_Name.f (a0 : ByteArray) : Option (Bool) := some (nameB a0)
theorem ret_b_ {a b : Bool} (h : a = b) : Ending.returned (.bool a) = .returned (.bool b) := by rw [h]
theorem key_Name.pred (w : World) : Go.Proofs.PredAt Try.prog 59 #[] Go.Proofs.encR badRune w := fun W r _ => by
 unfold Go.Proofs.FnGives
 have z1 : (r : Int) < 97 ↔ r < 97 := by omega
 have z2 : (122 : Int) < (r : Int) ↔ 122 < r := by omega
 have z3 : (r : Int) < 48 ↔ r < 48 := by omega
 have z4 : (57 : Int) < (r : Int) ↔ 57 < r := by omega
 by_cases h5 : r = 95
 ·
  subst h5
  go_enter Try.func59, Try.ntmps59
  go_wp2
  go_ret
  exact ⟨ret_b_ (by simp [badRune]), 0, rfl⟩
 ·
  have b5 : ((r : Int) == 95) = false := by rw [beq_eq_false_iff_ne]; omega
  have b6 : ((r : Int) != 95) = true := by rw [bne_iff_ne]; omega
  by_cases h1 : r < 97
  ·
   by_cases h3 : r < 48
   ·
    have H := Lib.hid (show badRune r = true by simp [badRune, h1, h3, h5])
    clear h5
    go_enter Try.func59, Try.ntmps59
    go_wp2
    go_ret
    exact ⟨ret_b_ (by rw [H.out]), 0, rfl⟩
   ·
    by_cases h4 : 57 < r
    ·
     have H := Lib.hid (show badRune r = true by simp [badRune, h1, h4, h5])
     clear h5
     go_enter Try.func59, Try.ntmps59
     go_wp2
     go_ret
     exact ⟨ret_b_ (by rw [H.out]), 0, rfl⟩
    ·
     have H := Lib.hid (show badRune r = false by simp [badRune, h3, h4])
     clear h5
     go_enter Try.func59, Try.ntmps59
     go_wp2
     go_ret
     exact ⟨ret_b_ (by rw [H.out]), 0, rfl⟩
  ·
   by_cases h2 : 122 < r
   ·
    have h3 : ¬ r < 48 := by omega
    have h4 : 57 < r := by omega
    have H := Lib.hid (show badRune r = true by simp [badRune, h2, h4, h5])
    clear h5
    go_enter Try.func59, Try.ntmps59
    go_wp2
    go_ret
    exact ⟨ret_b_ (by rw [H.out]), 0, rfl⟩
   ·
    have H := Lib.hid (show badRune r = false by simp [badRune, h1, h2])
    clear h5
    go_enter Try.func59, Try.ntmps59
    go_wp2
    go_ret
    exact ⟨ret_b_ (by rw [H.out]), 0, rfl⟩
set_option maxHeartbeats 1000000 in
theorem key_Name.calls (a0 : ByteArray) (r : Bool) (w : World) (h : key_Name.f a0 = some r) :
  Calls Try.prog 50 #[.string a0] w fun e w' => e = .returned (.bool r) ∧ Below w.heap.size w w' := by
 obtain rfl := Option.some.inj h
 clear h
 by_cases h0 : a0.size = 0
 ·
  have e0 : a0 = ⟨#[]⟩ := by
   cases a0 with
   | mk d => congr 1; exact Array.eq_empty_of_size_eq_zero h0
  subst e0
  clear h0
  have H := Lib.hid (show nameB ⟨#[]⟩ = false by simp [nameB, ByteArray.size])
  go_enter Try.func50, Try.ntmps50
  go_wp2
  go_ret
  exact ⟨ret_b_ (by rw [H.out]), Below.refl _ _⟩
 ·
  have e1 : a0.toList.isEmpty = false := by
   rw [List.isEmpty_eq_false_iff, Lib.toList_data]
   intro e
   have e9 : a0.data.toList.length = 0 := by rw [e]; rfl
   exact h0 (by rw [← e9, Array.length_toList]; rfl)
  have e2 : ¬ a0.toList = [] := by
   intro e
   rw [e] at e1
   cases e1
  have q6 : 0 < a0.size := by omega
  have hx6 : ∀ h : 0 < a0.size, ((a0[0]'h).toNat : Int) = bt a0 0 := bt_at a0 0
  have hbr := bt_range a0 0
  clear h0
  by_cases h1 : a0.size ≤ 16
  rotate_left
  ·
   have c1 : decide (16 < (a0.size : Int)) = true := decide_eq_true (by omega)
   have c1b : decide (16 < a0.size) = true := decide_eq_true (by omega)
   have H := Lib.hid (show nameB a0 = false by simp [nameB, h1])
   clear h1
   go_enter Try.func50, Try.ntmps50
   go_wp2
   go_ret
   exact ⟨ret_b_ (by rw [H.out]), Below.refl _ _⟩
  have c1 : decide (16 < (a0.size : Int)) = false := decide_eq_false (by omega)
  have c1b : decide (16 < a0.size) = false := decide_eq_false (by omega)
  have qi6 : (0 < (a0.size : Int)) = True := eq_true (by omega)
  replace q6 := eq_true q6
  by_cases h2 : 97 ≤ bt a0 0
  rotate_left
  ·
   have c2 : decide (bt a0 0 < 97) = true := decide_eq_true (by omega)
   have H := Lib.hid (show nameB a0 = false by simp [nameB, h2])
   clear h1 h2
   go_enter Try.func50, Try.ntmps50
   go_wp2
   go_ret
   exact ⟨ret_b_ (by rw [H.out]), Below.refl _ _⟩
  have c2 : decide (bt a0 0 < 97) = false := decide_eq_false (by omega)
  by_cases h3 : bt a0 0 ≤ 122
  rotate_left
  ·
   have c3 : decide (122 < bt a0 0) = true := decide_eq_true (by omega)
   have H := Lib.hid (show nameB a0 = false by simp [nameB, h3])
   clear h1 h2 h3
   go_enter Try.func50, Try.ntmps50
   go_wp2
   go_ret
   exact ⟨ret_b_ (by rw [H.out]), Below.refl _ _⟩
  have c3 : decide (122 < bt a0 0) = false := decide_eq_false (by omega)
  have hC := Go.Proofs.Try.strings_ContainsFunc 59 #[] (Go.Proofs.enters_of Try.func59 (by kernel_rfl) rfl) badRune a0 w (key_Name.pred w)
  have H := Lib.hid (show nameB a0 = !decide (0 ≤ Lib.idxFunc badRune true a0) by
   have h1' : 1 ≤ a0.size := by have := of_eq_true q6; omega
   simp only [nameB, h1, h1', h2, h3, decide_true, Bool.true_and]
   by_cases h : 0 ≤ Lib.idxFunc badRune true a0 <;> simp [h] <;> omega)
  generalize decide (0 ≤ Lib.idxFunc badRune true a0) = D at *
  have HC := Lib.hid hC
  clear hC h1 h2 h3
  go_enter Try.func50, Try.ntmps50
  go_wp2_with (go_at_call 58; refine HC.out.mono ?_; rintro e w' ⟨rfl, hb⟩)
  go_ret
  exact ⟨ret_b_ (by rw [H.out]), hb⟩
def key_Good.f (a0_0 : ByteArray) (a0_1 : ByteArray) (a0_2 : Int) (a0_3 : ByteArray) : Option (Bool) := (key_Name.f a0_0).bind fun t104 => (if t104 = true then (if a0_1.toList = ([] : List UInt8) then (some false) else (if (a0_1.size : Int) ≤ 64 then (if a0_3.toList = ([] : List UInt8) then (some true) else ((key_Name.f a0_3).bind fun t105 => (some t105))) else (some false))) else (some false))
set_option maxHeartbeats 8000000 in
set_option maxRecDepth 100000 in
theorem key_Good.calls (a0_0 : ByteArray) (a0_1 : ByteArray) (a0_2 : Int) (a0_3 : ByteArray) (r : Bool) (w : World) (h : key_Good.f a0_0 a0_1 a0_2 a0_3 = some r) :
  Calls Try.prog 41 #[.agg #[.string a0_0, .string a0_1, .int .i64 a0_2, .string a0_3]] w fun e w' => e = .returned (.bool r) ∧ Below w.heap.size w w' := by
 have hu31 := Try.underlying31
 have HB := Aside0.mk (Below.refl w.heap.size w)
 have H : ((key_Name.f a0_0).bind fun t104 => (if t104 = true then (if a0_1.toList = ([] : List UInt8) then (some false) else (if (a0_1.size : Int) ≤ 64 then (if a0_3.toList = ([] : List UInt8) then (some true) else ((key_Name.f a0_3).bind fun t105 => (some t105))) else (some false))) else (some false))) = some r := h
 clear h
 replace H := Option.bind_eq_some_iff.mp H
 obtain ⟨t104, A20, H⟩ := H
 have A2 := Aside0.mk A20
 clear A20
 by_cases c3 : t104 = true
 rotate_left
 ·
  replace c3 := Bool.eq_false_iff.mpr c3
  subst c3
  have H1 : (some false) = some r := by rw [if_neg (show ¬ (false = true) by decide)] at H; exact H
  clear H
  have H := H1
  clear H1
  obtain rfl := Option.some.inj H
  go_enter Try.func41, Try.ntmps41
  go_wp2_with (first | ((with_reducible refine gate_dst (N := 1) rfl ?_); (try (refine gate_guard (by rfl) ?_; dsimp only)); refine box_event ?hg (N := 1) ?hd (cs := #[.string a0_0, .string a0_1, .int .i64 a0_2, .string a0_3]) (t := 31) ?hr ?_; (case hd => rfl); (case hg => rfl); (case hr => first | (go_simp; done) | (go_simp; rfl)); intro gb103 hg w25 hbox hb; have BK103 := Aside0.mk (hbox); have GW103 := Aside0.mk ((by rw [hg]; exact (bZ_ (kwW HB)) : w.heap.size ≤ gb103)); replace HB := Aside0.mk (below_step (kwW HB) hb); have GE103 := GW103; clear hb hbox hg; obtain ⟨_, _, _, _, _, _, _, _⟩ := czf4 BK103) | ((with_reducible refine gate_callee (f := 50) rfl ?_); refine goesL_ (some 5) rfl rfl Try.func50 (by kernel_rfl) rfl #[.string a0_0] rfl (by (try simp only [mT_, mC_, mN_]); first | done | rfl) ?_; (with_reducible refine (key_Name.calls a0_0 false _ A2.out).mono ?_); rintro e w27 ⟨rfl, hb⟩; refine ⟨_, rfl, ?_⟩; replace BK103 := kB BK103 hb; replace HB := Aside0.mk (below_step (by repeat (first | (with_reducible first | exact HB.out | apply bA_ | apply bN_ | apply bD_ | refine bS_ ?_ GE103) | exact HB.out)) hb); (try clear hb); (try clear hb2); (try clear hk); (try clear hi)))
  go_ret
  exact ⟨by first | rfl | (simp <;> rfl) | (simp [*] <;> rfl), by repeat (first | (with_reducible first | exact HB.out | apply bA_ | apply bN_ | apply bD_ | refine bS_ ?_ GE103) | exact HB.out)⟩
 subst c3
 have H1 : (if a0_1.toList = ([] : List UInt8) then (some false) else (if (a0_1.size : Int) ≤ 64 then (if a0_3.toList = ([] : List UInt8) then (some true) else ((key_Name.f a0_3).bind fun t105 => (some t105))) else (some false))) = some r := by rw [if_pos rfl] at H; exact H
 clear H
 have H := H1
 clear H1
 by_cases c4 : a0_1.toList = ([] : List UInt8)
 ·
  rw [if_pos c4] at H
  have c4b0 : (a0_1.toList == ([] : List UInt8)) = true := beq_iff_eq.mpr c4
  have c4b1 : (a0_1.toList != ([] : List UInt8)) = false := bne_eq_false_iff_eq.mpr c4
  clear c4
  obtain rfl := Option.some.inj H
  go_enter Try.func41, Try.ntmps41
  go_wp2_with (first | ((with_reducible refine gate_dst (N := 1) rfl ?_); (try (refine gate_guard (by rfl) ?_; dsimp only)); refine box_event ?hg (N := 1) ?hd (cs := #[.string a0_0, .string a0_1, .int .i64 a0_2, .string a0_3]) (t := 31) ?hr ?_; (case hd => rfl); (case hg => rfl); (case hr => first | (go_simp; done) | (go_simp; rfl)); intro gb103 hg w5 hbox hb; have BK103 := Aside0.mk (hbox); have GW103 := Aside0.mk ((by rw [hg]; exact (bZ_ (kwW HB)) : w.heap.size ≤ gb103)); replace HB := Aside0.mk (below_step (kwW HB) hb); have GE103 := GW103; clear hb hbox hg; obtain ⟨_, _, _, _, _, _, _, _⟩ := czf4 BK103) | ((with_reducible refine gate_callee (f := 50) rfl ?_); refine goesL_ (some 5) rfl rfl Try.func50 (by kernel_rfl) rfl #[.string a0_0] rfl (by (try simp only [mT_, mC_, mN_]); first | done | rfl) ?_; (with_reducible refine (key_Name.calls a0_0 true _ A2.out).mono ?_); rintro e w7 ⟨rfl, hb⟩; refine ⟨_, rfl, ?_⟩; replace BK103 := kB BK103 hb; replace HB := Aside0.mk (below_step (by repeat (first | (with_reducible first | exact HB.out | apply bA_ | apply bN_ | apply bD_ | refine bS_ ?_ GE103) | exact HB.out)) hb); (try clear hb); (try clear hb2); (try clear hk); (try clear hi); obtain ⟨_, _, _, _, _, _, _, _⟩ := czf4 BK103))
  go_ret
  exact ⟨by first | rfl | (simp <;> rfl) | (simp [*] <;> rfl), by repeat (first | (with_reducible first | exact HB.out | apply bA_ | apply bN_ | apply bD_ | refine bS_ ?_ GE103) | exact HB.out)⟩
 ·
  rw [if_neg c4] at H
  have c4b0 : (a0_1.toList == ([] : List UInt8)) = false := beq_eq_false_iff_ne.mpr c4
  have c4b1 : (a0_1.toList != ([] : List UInt8)) = true := bne_iff_ne.mpr c4
  by_cases c9 : (a0_1.size : Int) ≤ 64
  rotate_left
  ·
   rw [if_neg c9] at H
   have c9b0 : decide ((a0_1.size : Int) ≤ 64) = false := decide_eq_false c9
   have c9b1 : decide (a0_1.size ≤ 64) = false := decide_eq_false (by omega)
   clear c9
   obtain rfl := Option.some.inj H
   go_enter Try.func41, Try.ntmps41
   go_wp2_with (first | ((with_reducible refine gate_dst (N := 1) rfl ?_); (try (refine gate_guard (by rfl) ?_; dsimp only)); refine box_event ?hg (N := 1) ?hd (cs := #[.string a0_0, .string a0_1, .int .i64 a0_2, .string a0_3]) (t := 31) ?hr ?_; (case hd => rfl); (case hg => rfl); (case hr => first | (go_simp; done) | (go_simp; rfl)); intro gb103 hg w21 hbox hb; have BK103 := Aside0.mk (hbox); have GW103 := Aside0.mk ((by rw [hg]; exact (bZ_ (kwW HB)) : w.heap.size ≤ gb103)); replace HB := Aside0.mk (below_step (kwW HB) hb); have GE103 := GW103; clear hb hbox hg; obtain ⟨_, _, _, _, _, _, _, _⟩ := czf4 BK103) | ((with_reducible refine gate_callee (f := 50) rfl ?_); refine goesL_ (some 5) rfl rfl Try.func50 (by kernel_rfl) rfl #[.string a0_0] rfl (by (try simp only [mT_, mC_, mN_]); first | done | rfl) ?_; (with_reducible refine (key_Name.calls a0_0 true _ A2.out).mono ?_); rintro e w23 ⟨rfl, hb⟩; refine ⟨_, rfl, ?_⟩; replace BK103 := kB BK103 hb; replace HB := Aside0.mk (below_step (by repeat (first | (with_reducible first | exact HB.out | apply bA_ | apply bN_ | apply bD_ | refine bS_ ?_ GE103) | exact HB.out)) hb); (try clear hb); (try clear hb2); (try clear hk); (try clear hi); obtain ⟨_, _, _, _, _, _, _, _⟩ := czf4 BK103))
   go_ret
   exact ⟨by first | rfl | (simp <;> rfl) | (simp [*] <;> rfl), by repeat (first | (with_reducible first | exact HB.out | apply bA_ | apply bN_ | apply bD_ | refine bS_ ?_ GE103) | exact HB.out)⟩
  rw [if_pos c9] at H
  have c9b0 : decide ((a0_1.size : Int) ≤ 64) = true := decide_eq_true c9
  have c9b1 : decide (a0_1.size ≤ 64) = true := decide_eq_true (by omega)
  clear c9
  by_cases c10 : a0_3.toList = ([] : List UInt8)
  ·
   rw [if_pos c10] at H
   have c10b0 : (a0_3.toList == ([] : List UInt8)) = true := beq_iff_eq.mpr c10
   have c10b1 : (a0_3.toList != ([] : List UInt8)) = false := bne_eq_false_iff_eq.mpr c10
   clear c10
   obtain rfl := Option.some.inj H
   go_enter Try.func41, Try.ntmps41
   go_wp2_with (first | ((with_reducible refine gate_dst (N := 1) rfl ?_); (try (refine gate_guard (by rfl) ?_; dsimp only)); refine box_event ?hg (N := 1) ?hd (cs := #[.string a0_0, .string a0_1, .int .i64 a0_2, .string a0_3]) (t := 31) ?hr ?_; (case hd => rfl); (case hg => rfl); (case hr => first | (go_simp; done) | (go_simp; rfl)); intro gb103 hg w11 hbox hb; have BK103 := Aside0.mk (hbox); have GW103 := Aside0.mk ((by rw [hg]; exact (bZ_ (kwW HB)) : w.heap.size ≤ gb103)); replace HB := Aside0.mk (below_step (kwW HB) hb); have GE103 := GW103; clear hb hbox hg; obtain ⟨_, _, _, _, _, _, _, _⟩ := czf4 BK103) | ((with_reducible refine gate_callee (f := 50) rfl ?_); refine goesL_ (some 5) rfl rfl Try.func50 (by kernel_rfl) rfl #[.string a0_0] rfl (by (try simp only [mT_, mC_, mN_]); first | done | rfl) ?_; (with_reducible refine (key_Name.calls a0_0 true _ A2.out).mono ?_); rintro e w13 ⟨rfl, hb⟩; refine ⟨_, rfl, ?_⟩; replace BK103 := kB BK103 hb; replace HB := Aside0.mk (below_step (by repeat (first | (with_reducible first | exact HB.out | apply bA_ | apply bN_ | apply bD_ | refine bS_ ?_ GE103) | exact HB.out)) hb); (try clear hb); (try clear hb2); (try clear hk); (try clear hi); obtain ⟨_, _, _, _, _, _, _, _⟩ := czf4 BK103))
   go_ret
   exact ⟨by first | rfl | (simp <;> rfl) | (simp [*] <;> rfl), by repeat (first | (with_reducible first | exact HB.out | apply bA_ | apply bN_ | apply bD_ | refine bS_ ?_ GE103) | exact HB.out)⟩
  ·
   rw [if_neg c10] at H
   have c10b0 : (a0_3.toList == ([] : List UInt8)) = false := beq_eq_false_iff_ne.mpr c10
   have c10b1 : (a0_3.toList != ([] : List UInt8)) = true := bne_iff_ne.mpr c10
   replace H := Option.bind_eq_some_iff.mp H
   obtain ⟨t105, A150, H⟩ := H
   have A15 := Aside0.mk A150
   clear A150
   obtain rfl := Option.some.inj H
   go_enter Try.func41, Try.ntmps41
   go_wp2_with (first | ((with_reducible refine gate_dst (N := 1) rfl ?_); (try (refine gate_guard (by rfl) ?_; dsimp only)); refine box_event ?hg (N := 1) ?hd (cs := #[.string a0_0, .string a0_1, .int .i64 a0_2, .string a0_3]) (t := 31) ?hr ?_; (case hd => rfl); (case hg => rfl); (case hr => first | (go_simp; done) | (go_simp; rfl)); intro gb103 hg w16 hbox hb; have BK103 := Aside0.mk (hbox); have GW103 := Aside0.mk ((by rw [hg]; exact (bZ_ (kwW HB)) : w.heap.size ≤ gb103)); replace HB := Aside0.mk (below_step (kwW HB) hb); have GE103 := GW103; clear hb hbox hg; obtain ⟨_, _, _, _, _, _, _, _⟩ := czf4 BK103) | ((with_reducible refine gate_callee (f := 50) rfl ?_); refine goesL_ (some 5) rfl rfl Try.func50 (by kernel_rfl) rfl #[.string a0_0] rfl (by (try simp only [mT_, mC_, mN_]); first | done | rfl) ?_; (with_reducible refine (key_Name.calls a0_0 true _ A2.out).mono ?_); rintro e w18 ⟨rfl, hb⟩; refine ⟨_, rfl, ?_⟩; replace BK103 := kB BK103 hb; replace HB := Aside0.mk (below_step (by repeat (first | (with_reducible first | exact HB.out | apply bA_ | apply bN_ | apply bD_ | refine bS_ ?_ GE103) | exact HB.out)) hb); (try clear hb); (try clear hb2); (try clear hk); (try clear hi); obtain ⟨_, _, _, _, _, _, _, _⟩ := czf4 BK103) | (go_at_call 50; (with_reducible refine (key_Name.calls a0_3 t105 _ A15.out).mono ?_); rintro e w20 ⟨rfl, hb⟩; replace BK103 := kB BK103 hb; replace HB := Aside0.mk (below_step (by repeat (first | (with_reducible first | exact HB.out | apply bA_ | apply bN_ | apply bD_ | refine bS_ ?_ GE103) | exact HB.out)) hb); (try clear hb); (try clear hb2); (try clear hk); (try clear hi)))
   go_ret
   exact ⟨by first | rfl | (simp <;> rfl) | (simp [*] <;> rfl), by repeat (first | (with_reducible first | exact HB.out | apply bA_ | apply bN_ | apply bD_ | refine bS_ ?_ GE103) | exact HB.out)⟩
end Go.Proofs.Ytlffkbcaphhldaa.Q
