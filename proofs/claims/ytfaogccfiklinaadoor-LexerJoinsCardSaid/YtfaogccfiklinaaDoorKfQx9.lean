/- Lemmas for this claim's walk: no condition of their own. -/
import Derived.Test.YtfaogccfiklinaaDoorKfSq
import Derived.Test.YtfaogccfiklinaaDoorKfQx0
import Derived.Test.YtfaogccfiklinaaDoorKfQx3
import Derived.Test.YtfaogccfiklinaaDoorKfQx7
import Derived.Test.YtfaogccfiklinaaDoorKfQx8
namespace Go.Proofs.YtfaogccfiklinaaDoor.Q
open Go.RowKit Go.Proofs.YtfaogccfiklinaaDoorW.PrintWords Go.Proofs.YtfaogccfiklinaaDoorW.PrintLast Go.Proofs.YtfaogccfiklinaaDoorW.PrintMore
attribute [local go_sem] max2_int min2_int max_two min_two max_three min_three max_four min_four
set_option linter.unusedVariables false
set_option linter.unusedSimpArgs false
def badRune (r : Nat) : Bool := ((decide (r < 97) || decide (122 < r)) && (decide (r < 48) || decide (57 < r))) && !(decide (r = 95))
def nameB (s : ByteArray) : Bool := decide (1 ≤ s.size) && decide (s.size ≤ 16) && decide (97 ≤ bt s 0) && decide (bt s 0 ≤ 122) && decide (Lib.idxFunc badRune true s < 0)
def key_Name.f (a0 : ByteArray) : Option (Bool) := some (nameB a0)
theorem ret_b_ {a b : Bool} (h : a = b) : Ending.returned (.bool a) = .returned (.bool b) := by rw [h]
theorem key_Name.pred (w : World) : Go.Proofs.PredAt Tryd.prog 57 #[] Go.Proofs.encR badRune w := fun W r _ => by
 unfold Go.Proofs.FnGives
 have z1 : (r : Int) < 97 ↔ r < 97 := by omega
 have z2 : (122 : Int) < (r : Int) ↔ 122 < r := by omega
 have z3 : (r : Int) < 48 ↔ r < 48 := by omega
 have z4 : (57 : Int) < (r : Int) ↔ 57 < r := by omega
 by_cases h5 : r = 95
 ·
  subst h5
  go_enter Tryd.func57, Tryd.ntmps57
  go_wp2
  go_ret
  exact ⟨ret_b_ (by simp [badRune]), 0, rfl⟩
 ·
  have b5 : ((r : Int) == 95) = false := by rw [beq_eq_false_iff_ne]; omega
  have b6 : ((r : Int) != 95) = true := by rw [bne_iff_ne]; omega
  by_cases h1 : r < 97
  ·
   by_cases h3 : r < 48
   ·
    have H := Lib.hid (show badRune r = true by simp [badRune, h1, h3, h5])
    clear h5
    go_enter Tryd.func57, Tryd.ntmps57
    go_wp2
    go_ret
    exact ⟨ret_b_ (by rw [H.out]), 0, rfl⟩
   ·
    by_cases h4 : 57 < r
    ·
     have H := Lib.hid (show badRune r = true by simp [badRune, h1, h4, h5])
     clear h5
     go_enter Tryd.func57, Tryd.ntmps57
     go_wp2
     go_ret
     exact ⟨ret_b_ (by rw [H.out]), 0, rfl⟩
    ·
     have H := Lib.hid (show badRune r = false by simp [badRune, h3, h4])
     clear h5
     go_enter Tryd.func57, Tryd.ntmps57
     go_wp2
     go_ret
     exact ⟨ret_b_ (by rw [H.out]), 0, rfl⟩
  ·
   by_cases h2 : 122 < r
   ·
    have h3 : ¬ r < 48 := by omega
    have h4 : 57 < r := by omega
    have H := Lib.hid (show badRune r = true by simp [badRune, h2, h4, h5])
    clear h5
    go_enter Tryd.func57, Tryd.ntmps57
    go_wp2
    go_ret
    exact ⟨ret_b_ (by rw [H.out]), 0, rfl⟩
   ·
    have H := Lib.hid (show badRune r = false by simp [badRune, h1, h2])
    clear h5
    go_enter Tryd.func57, Tryd.ntmps57
    go_wp2
    go_ret
    exact ⟨ret_b_ (by rw [H.out]), 0, rfl⟩
set_option maxHeartbeats 1000000 in
theorem key_Name.calls (a0 : ByteArray) (r : Bool) (w : World) (h : key_Name.f a0 = some r) :
  Calls Tryd.prog 47 #[.string a0] w fun e w' => e = .returned (.bool r) ∧ Below w.heap.size w w' := by
 obtain rfl := Option.some.inj h
 clear h
 by_cases h0 : a0.size = 0
 ·
  have e0 : a0 = ⟨#[]⟩ := by
   cases a0 with
   | mk d => congr 1; exact Array.eq_empty_of_size_eq_zero h0
  subst e0
  clear h0
  have H := Lib.hid (show nameB ⟨#[]⟩ = false by simp [nameB, ByteArray.size])
  go_enter Tryd.func47, Tryd.ntmps47
  go_wp2
  go_ret
  exact ⟨ret_b_ (by rw [H.out]), Below.refl _ _⟩
 ·
  have e1 : a0.toList.isEmpty = false := by
   rw [List.isEmpty_eq_false_iff, Lib.toList_data]
   intro e
   have e9 : a0.data.toList.length = 0 := by rw [e]; rfl
   exact h0 (by rw [← e9, Array.length_toList]; rfl)
  have e2 : ¬ a0.toList = [] := by
   intro e
   rw [e] at e1
   cases e1
  have q6 : 0 < a0.size := by omega
  have hx6 : ∀ h : 0 < a0.size, ((a0[0]'h).toNat : Int) = bt a0 0 := bt_at a0 0
  have hbr := bt_range a0 0
  clear h0
  by_cases h1 : a0.size ≤ 16
  rotate_left
  ·
   have c1 : decide (16 < (a0.size : Int)) = true := decide_eq_true (by omega)
   have c1b : decide (16 < a0.size) = true := decide_eq_true (by omega)
   have H := Lib.hid (show nameB a0 = false by simp [nameB, h1])
   clear h1
   go_enter Tryd.func47, Tryd.ntmps47
   go_wp2
   go_ret
   exact ⟨ret_b_ (by rw [H.out]), Below.refl _ _⟩
  have c1 : decide (16 < (a0.size : Int)) = false := decide_eq_false (by omega)
  have c1b : decide (16 < a0.size) = false := decide_eq_false (by omega)
  have qi6 : (0 < (a0.size : Int)) = True := eq_true (by omega)
  replace q6 := eq_true q6
  by_cases h2 : 97 ≤ bt a0 0
  rotate_left
  ·
   have c2 : decide (bt a0 0 < 97) = true := decide_eq_true (by omega)
   have H := Lib.hid (show nameB a0 = false by simp [nameB, h2])
   clear h1 h2
   go_enter Tryd.func47, Tryd.ntmps47
   go_wp2
   go_ret
   exact ⟨ret_b_ (by rw [H.out]), Below.refl _ _⟩
  have c2 : decide (bt a0 0 < 97) = false := decide_eq_false (by omega)
  by_cases h3 : bt a0 0 ≤ 122
  rotate_left
  ·
   have c3 : decide (122 < bt a0 0) = true := decide_eq_true (by omega)
   have H := Lib.hid (show nameB a0 = false by simp [nameB, h3])
   clear h1 h2 h3
   go_enter Tryd.func47, Tryd.ntmps47
   go_wp2
   go_ret
   exact ⟨ret_b_ (by rw [H.out]), Below.refl _ _⟩
  have c3 : decide (122 < bt a0 0) = false := decide_eq_false (by omega)
  have hC := Go.Proofs.Tryd.strings_ContainsFunc 57 #[] (Go.Proofs.enters_of Tryd.func57 (by kernel_rfl) rfl) badRune a0 w (key_Name.pred w)
  have H := Lib.hid (show nameB a0 = !decide (0 ≤ Lib.idxFunc badRune true a0) by
   have h1' : 1 ≤ a0.size := by have := of_eq_true q6; omega
   simp only [nameB, h1, h1', h2, h3, decide_true, Bool.true_and]
   by_cases h : 0 ≤ Lib.idxFunc badRune true a0 <;> simp [h] <;> omega)
  generalize decide (0 ≤ Lib.idxFunc badRune true a0) = D at *
  have HC := Lib.hid hC
  clear hC h1 h2 h3
  go_enter Tryd.func47, Tryd.ntmps47
  go_wp2_with (go_at_call 56; refine HC.out.mono ?_; rintro e w' ⟨rfl, hb⟩)
  go_ret
  exact ⟨ret_b_ (by rw [H.out]), hb⟩
def lexer_cutter_word.f (a0_0 : ByteArray) (a0_1 : Int) : Option (Int × ByteArray × Int × Int × ByteArray × Int × Int × Int) := (lexer_cutter_run_46.f a0_0 a0_1).bind fun t188 => ((lexer_cutter_rest.f a0_0 a0_1).bind fun t189 => (if 0 ≤ t188 then (if t188 ≤ (t189.size : Int) then ((lexer_cutter_token.f a0_0 a0_1 2 t188).bind fun bt190 => ((lexer_Word.f (t189.extract 0 (t188 : Int).toNat)).bind fun t198 => (if t198 = true then ((lexer_cased.f (t189.extract 0 (t188 : Int).toNat) 97 122).bind fun t199 => (some (bt190.1, t199, bt190.2.2.1, bt190.2.2.2.1, bt190.2.2.2.2.1, bt190.2.2.2.2.2.1, bt190.2.2.2.2.2.2, (-1)))) else ((lexer_cased.f (t189.extract 0 (t188 : Int).toNat) 65 90).bind fun t200 => ((key_Name.f t200).bind fun t201 => (if t201 = true then (some (3, t200, bt190.2.2.1, bt190.2.2.2.1, bt190.2.2.2.2.1, bt190.2.2.2.2.2.1, bt190.2.2.2.2.2.2, (-1))) else ((lexer_wrong.f a0_1).bind fun bt202 => (some (bt202.1, bt202.2.1, bt202.2.2.1, bt202.2.2.2.1, bt202.2.2.2.2.1, bt202.2.2.2.2.2.1, bt202.2.2.2.2.2.2.1, bt202.2.2.2.2.2.2.2))))))))) else (none)) else (none)))
set_option maxHeartbeats 8000000 in
set_option maxRecDepth 100000 in
theorem lexer_cutter_word.calls (a0_0 : ByteArray) (a0_1 : Int) (r1 : Int) (r2 : ByteArray) (r3 : Int) (r4 : Int) (r5 : ByteArray) (r6 : Int) (r7 : Int) (r8 : Int) (w : World) (h : lexer_cutter_word.f a0_0 a0_1 = some (r1, r2, r3, r4, r5, r6, r7, r8)) :
  Calls Tryd.prog 34 #[.agg #[.string a0_0, .int .i64 a0_1]] w fun e w' => e = .returned (.tuple #[.agg #[.int .i64 r1, .string r2, .int .i64 r3, .int .i64 r4, .string r5, .int .i64 r6, .int .i64 r7], .int .i64 r8]) ∧ Below w.heap.size w w' := by
 have hu48 := Tryd.underlying48
 have hu25 := Tryd.underlying25
 have HB := Aside0.mk (Below.refl w.heap.size w)
 have H : ((lexer_cutter_run_46.f a0_0 a0_1).bind fun t188 => ((lexer_cutter_rest.f a0_0 a0_1).bind fun t189 => (if 0 ≤ t188 then (if t188 ≤ (t189.size : Int) then ((lexer_cutter_token.f a0_0 a0_1 2 t188).bind fun bt190 => ((lexer_Word.f (t189.extract 0 (t188 : Int).toNat)).bind fun t198 => (if t198 = true then ((lexer_cased.f (t189.extract 0 (t188 : Int).toNat) 97 122).bind fun t199 => (some (bt190.1, t199, bt190.2.2.1, bt190.2.2.2.1, bt190.2.2.2.2.1, bt190.2.2.2.2.2.1, bt190.2.2.2.2.2.2, (-1)))) else ((lexer_cased.f (t189.extract 0 (t188 : Int).toNat) 65 90).bind fun t200 => ((key_Name.f t200).bind fun t201 => (if t201 = true then (some (3, t200, bt190.2.2.1, bt190.2.2.2.1, bt190.2.2.2.2.1, bt190.2.2.2.2.2.1, bt190.2.2.2.2.2.2, (-1))) else ((lexer_wrong.f a0_1).bind fun bt202 => (some (bt202.1, bt202.2.1, bt202.2.2.1, bt202.2.2.2.1, bt202.2.2.2.2.1, bt202.2.2.2.2.2.1, bt202.2.2.2.2.2.2.1, bt202.2.2.2.2.2.2.2))))))))) else (none)) else (none)))) = some (r1, r2, r3, r4, r5, r6, r7, r8) := h
 clear h
 replace H := Option.bind_eq_some_iff.mp H
 obtain ⟨t188, A20, H⟩ := H
 have A2 := Aside0.mk A20
 clear A20
 replace H := Option.bind_eq_some_iff.mp H
 obtain ⟨t189, A30, H⟩ := H
 have A3 := Aside0.mk A30
 clear A30
 by_cases c4 : 0 ≤ t188
 rotate_left
 ·
  rw [if_neg c4] at H
  exact absurd H (by simp)
 rw [if_pos c4] at H
 have c4b0 := eq_true c4
 have c4b1 : decide (0 ≤ t188) = true := decide_eq_true c4
 clear c4
 by_cases c5 : t188 ≤ (t189.size : Int)
 rotate_left
 ·
  rw [if_neg c5] at H
  exact absurd H (by simp)
 rw [if_pos c5] at H
 have c5b0 := eq_true c5
 have c5b1 : decide (t188 ≤ (t189.size : Int)) = true := decide_eq_true c5
 clear c5
 replace H := Option.bind_eq_some_iff.mp H
 obtain ⟨⟨t190, t191, t192, t193, t194, t195, t196⟩, A60, H⟩ := H
 have A6 := Aside0.mk A60
 clear A60
 replace H := Option.bind_eq_some_iff.mp H
 obtain ⟨t198, A70, H⟩ := H
 have A7 := Aside0.mk A70
 clear A70
 by_cases c8 : t198 = true
 ·
  subst c8
  have H1 : ((lexer_cased.f (t189.extract 0 (t188 : Int).toNat) 97 122).bind fun t199 => (some (t190, t199, t192, t193, t194, t195, t196, (-1)))) = some (r1, r2, r3, r4, r5, r6, r7, r8) := by rw [if_pos rfl] at H; exact H
  clear H
  have H := H1
  clear H1
  replace H := Option.bind_eq_some_iff.mp H
  obtain ⟨t199, A90, H⟩ := H
  have A9 := Aside0.mk A90
  clear A90
  simp only [Option.some.injEq, Prod.mk.injEq] at H
  obtain ⟨rfl, rfl, rfl, rfl, rfl, rfl, rfl, rfl⟩ := H
  go_enter Tryd.func34, Tryd.ntmps34
  go_wp2_with (first | ((with_reducible refine gate_dst (N := 1) rfl ?_); refine box_event ?hg (N := 1) ?hd (cs := #[.string a0_0, .int .i64 a0_1]) (t := 48) ?hr ?_; (case hd => rfl); (case hg => rfl); (case hr => first | (go_simp; done) | (go_simp; rfl)); intro gb186 hg w10 hbox hb; have BK186 := Aside0.mk (hbox); have GW186 := Aside0.mk ((by rw [hg]; exact (bZ_ (kwW HB)) : w.heap.size ≤ gb186)); replace HB := Aside0.mk (below_step (kwW HB) hb); have GE186 := GW186; clear hb hbox hg) | ((with_reducible refine gate_dst (N := 2) rfl ?_); refine box_event ?hg (N := 2) ?hd (cs := #[.int .i64 0, .string (⟨#[]⟩ : ByteArray), .int .i64 0, .int .i64 0, .string (⟨#[]⟩ : ByteArray), .int .i64 0, .int .i64 0]) (t := 25) ?hr ?_; (case hd => rfl); (case hg => rfl); (case hr => first | (go_simp; done) | (go_simp; rfl)); intro gb187 hg w11 hbox hb; have BK187 := Aside0.mk (hbox); have GW187 := Aside0.mk ((by rw [hg]; exact (bZ_ (by repeat (first | (with_reducible first | exact HB.out | apply bA_ | apply bN_ | apply bD_ | refine bS_ ?_ GE186) | exact HB.out))) : w.heap.size ≤ gb187)); replace HB := Aside0.mk (below_step (by repeat (first | (with_reducible first | exact HB.out | apply bA_ | apply bN_ | apply bD_ | refine bS_ ?_ GE186) | exact HB.out)) hb); have GE187 := GW187; have NB186_187 := Aside0.mk ((by rw [hg]; exact Nat.ne_of_lt (blk_lt (kbW BK186)) : gb186 ≠ gb187)); have NB187_186 := Aside0.mk ((by rw [hg]; exact Nat.ne_of_gt (blk_lt (kbW BK186)) : gb187 ≠ gb186)); replace BK186 := kB BK186 hb; clear hb hbox hg; have hnb12 := NB186_187.out; have hnc12 := NB187_186.out; obtain ⟨_, _, _, _⟩ := czf2 BK186) | ((with_reducible refine gate_callee (f := 25) rfl ?_); refine goesL_ (some 8) rfl rfl Tryd.func25 (by kernel_rfl) rfl #[.agg #[.string a0_0, .int .i64 a0_1], .func (.func 46) #[] #[]] rfl (by (try simp only [mT_, mC_, mN_]); first | done | rfl) ?_; (with_reducible refine (lexer_cutter_run_46.calls a0_0 a0_1  t188 _ A2.out).mono ?_); rintro e w14 ⟨rfl, hb⟩; refine ⟨_, rfl, ?_⟩; replace BK186 := kB BK186 hb; replace BK187 := kB BK187 hb; replace HB := Aside0.mk (below_step (by repeat (first | (with_reducible first | exact HB.out | apply bA_ | apply bN_ | apply bD_ | refine bS_ ?_ GE186 | refine bS_ ?_ GE187) | exact HB.out)) hb); (try clear hb); (try clear hb2); (try clear hk); (try clear hi); obtain ⟨_, _, _, _⟩ := czf2 BK186) | ((with_reducible refine gate_callee (f := 18) rfl ?_); refine goesL_ (some 10) rfl rfl Tryd.func18 (by kernel_rfl) rfl #[.agg #[.string a0_0, .int .i64 a0_1]] rfl (by (try simp only [mT_, mC_, mN_]); first | done | rfl) ?_; (with_reducible refine (lexer_cutter_rest.calls a0_0 a0_1 t189 _ A3.out).mono ?_); rintro e w16 ⟨rfl, hb⟩; refine ⟨_, rfl, ?_⟩; replace BK186 := kB BK186 hb; replace BK187 := kB BK187 hb; replace HB := Aside0.mk (below_step (by repeat (first | (with_reducible first | exact HB.out | apply bA_ | apply bN_ | apply bD_ | refine bS_ ?_ GE186 | refine bS_ ?_ GE187) | exact HB.out)) hb); (try clear hb); (try clear hb2); (try clear hk); (try clear hi); obtain ⟨_, _, _, _⟩ := czf2 BK186) | ((with_reducible refine gate_callee (f := 19) rfl ?_); refine goesL_ (some 15) rfl rfl Tryd.func19 (by kernel_rfl) rfl #[.agg #[.string a0_0, .int .i64 a0_1], .int .i64 2, .int .i64 t188] rfl (by (try simp only [mT_, mC_, mN_]); first | done | rfl) ?_; (with_reducible refine (lexer_cutter_token.calls a0_0 a0_1 2 t188 t190 t191 t192 t193 t194 t195 t196 _ A6.out).mono ?_); rintro e w18 ⟨rfl, hb⟩; refine ⟨_, rfl, ?_⟩; replace BK186 := kB BK186 hb; replace BK187 := kB BK187 hb; replace HB := Aside0.mk (below_step (by repeat (first | (with_reducible first | exact HB.out | apply bA_ | apply bN_ | apply bD_ | refine bS_ ?_ GE186 | refine bS_ ?_ GE187) | exact HB.out)) hb); (try clear hb); (try clear hb2); (try clear hk); (try clear hi)) | ((with_reducible refine gate_dst (N := 6) rfl ?_); refine box_event ?hg (N := 6) ?hd (cs := #[.int .i64 0, .string (⟨#[]⟩ : ByteArray), .int .i64 0, .int .i64 0, .string (⟨#[]⟩ : ByteArray), .int .i64 0, .int .i64 0]) (t := 25) ?hr ?_; (case hd => rfl); (case hg => rfl); (case hr => first | (go_simp; done) | (go_simp; rfl)); intro gb197 hg w19 hbox hb; have BK197 := Aside0.mk (hbox); have GW197 := Aside0.mk ((by rw [hg]; exact (bZ_ (by repeat (first | (with_reducible first | exact HB.out | apply bA_ | apply bN_ | apply bD_ | refine bS_ ?_ GE186 | refine bS_ ?_ GE187) | exact HB.out))) : w.heap.size ≤ gb197)); replace HB := Aside0.mk (below_step (by repeat (first | (with_reducible first | exact HB.out | apply bA_ | apply bN_ | apply bD_ | refine bS_ ?_ GE186 | refine bS_ ?_ GE187) | exact HB.out)) hb); have GE197 := GW197; have NB186_197 := Aside0.mk ((by rw [hg]; exact Nat.ne_of_lt (blk_lt (kbW BK186)) : gb186 ≠ gb197)); have NB197_186 := Aside0.mk ((by rw [hg]; exact Nat.ne_of_gt (blk_lt (kbW BK186)) : gb197 ≠ gb186)); replace BK186 := kB BK186 hb; have NB187_197 := Aside0.mk ((by rw [hg]; exact Nat.ne_of_lt (blk_lt (kbW BK187)) : gb187 ≠ gb197)); have NB197_187 := Aside0.mk ((by rw [hg]; exact Nat.ne_of_gt (blk_lt (kbW BK187)) : gb197 ≠ gb187)); replace BK187 := kB BK187 hb; clear hb hbox hg; have hnb20 := NB197_186.out; have hnc20 := NB186_197.out; have hnb21 := NB197_187.out; have hnc21 := NB187_197.out; obtain ⟨_, _, _, _, _, _, _, _, _, _, _, _, _, _⟩ := czf7 BK197) | ((with_reducible refine gate_callee (f := 23) rfl ?_); refine goesL_ (some 17) rfl rfl Tryd.func23 (by kernel_rfl) rfl #[.string (t189.extract 0 (t188 : Int).toNat)] rfl (by (try simp only [mT_, mC_, mN_]); first | done | rfl) ?_; (with_reducible refine (lexer_Word.calls (t189.extract 0 (t188 : Int).toNat) true _ A7.out).mono ?_); rintro e w23 ⟨rfl, hb⟩; refine ⟨_, rfl, ?_⟩; replace BK186 := kBf BK186 (fun h_ => by (with_reducible repeat (first | refine blk_drewN ?_ _ | refine blk_drew ?_ | refine blk_alloc ?_ _)); refine bf7 ?_ NB186_197.out; (with_reducible repeat (first | refine blk_drewN ?_ _ | refine blk_drew ?_ | refine blk_alloc ?_ _)); exact h_) hb; replace BK187 := kBf BK187 (fun h_ => by (with_reducible repeat (first | refine blk_drewN ?_ _ | refine blk_drew ?_ | refine blk_alloc ?_ _)); refine bf7 ?_ NB187_197.out; (with_reducible repeat (first | refine blk_drewN ?_ _ | refine blk_drew ?_ | refine blk_alloc ?_ _)); exact h_) hb; replace BK197 := Aside0.mk (blk_below (g := gb197) (o := .cells #[.int .i64 t190, .string t191, .int .i64 t192, .int .i64 t193, .string t194, .int .i64 t195, .int .i64 t196] 25 (0, 0)) (by (with_reducible repeat (first | refine blk_drewN ?_ _ | refine blk_drew ?_ | refine blk_alloc ?_ _)); exact bp7 (kbW BK197)) hb); replace HB := Aside0.mk (below_step (by repeat (first | (with_reducible first | exact HB.out | apply bA_ | apply bN_ | apply bD_ | refine bS_ ?_ GE186 | refine bS_ ?_ GE187 | refine bS_ ?_ GE197) | exact HB.out)) hb); (try clear hb); (try clear hb2); (try clear hk); (try clear hi)) | ((with_reducible refine gate_callee (f := 41) rfl ?_); refine goesL_ (some 19) rfl rfl Tryd.func41 (by kernel_rfl) rfl #[.string (t189.extract 0 (t188 : Int).toNat), .int .u8 97, .int .u8 122] rfl (by (try simp only [mT_, mC_, mN_]); first | done | rfl) ?_; (with_reducible refine (lexer_cased.calls (t189.extract 0 (t188 : Int).toNat) 97 122 t199 _ A9.out).mono ?_); rintro e w24 ⟨rfl, hb⟩; refine ⟨_, rfl, ?_⟩; replace BK186 := kB BK186 hb; replace BK187 := kB BK187 hb; replace BK197 := kB BK197 hb; replace HB := Aside0.mk (below_step (by repeat (first | (with_reducible first | exact HB.out | apply bA_ | apply bN_ | apply bD_ | refine bS_ ?_ GE186 | refine bS_ ?_ GE187 | refine bS_ ?_ GE197) | exact HB.out)) hb); (try clear hb); (try clear hb2); (try clear hk); (try clear hi); obtain ⟨_, _, _, _, _, _, _, _, _, _, _, _, _, _⟩ := czf7 BK197; obtain ⟨_, _, _, _, _, _, _, _, _, _, _, _, _, _⟩ := czf7 BK187))
  refine bodyPost_ret (results_ct rfl _ _ gb187 25 #[.int .i64 t190, .string t199, .int .i64 t192, .int .i64 t193, .string t194, .int .i64 t195, .int .i64 t196] (0, 0) _ rfl (by (with_reducible repeat (first | refine blk_drewN ?_ _ | refine blk_drew ?_ | refine blk_alloc ?_ _)); apply bp7; (with_reducible repeat (first | refine blk_drewN ?_ _ | refine blk_drew ?_ | refine blk_alloc ?_ _)); refine blk_far ?_ NB187_197.out _; (with_reducible repeat (first | refine blk_drewN ?_ _ | refine blk_drew ?_ | refine blk_alloc ?_ _)); exact BK187.out) Tryd.underlying25 rfl (by kernel_rfl)) rfl ?_
  exact ⟨by first | rfl | (simp <;> rfl) | (simp [*] <;> rfl), by repeat (first | (with_reducible first | exact HB.out | apply bA_ | apply bN_ | apply bD_ | refine bS_ ?_ GE186 | refine bS_ ?_ GE187 | refine bS_ ?_ GE197) | exact HB.out)⟩
 ·
  replace c8 := Bool.eq_false_iff.mpr c8
  subst c8
  have H1 : ((lexer_cased.f (t189.extract 0 (t188 : Int).toNat) 65 90).bind fun t200 => ((key_Name.f t200).bind fun t201 => (if t201 = true then (some (3, t200, t192, t193, t194, t195, t196, (-1))) else ((lexer_wrong.f a0_1).bind fun bt202 => (some (bt202.1, bt202.2.1, bt202.2.2.1, bt202.2.2.2.1, bt202.2.2.2.2.1, bt202.2.2.2.2.2.1, bt202.2.2.2.2.2.2.1, bt202.2.2.2.2.2.2.2)))))) = some (r1, r2, r3, r4, r5, r6, r7, r8) := by rw [if_neg (show ¬ (false = true) by decide)] at H; exact H
  clear H
  have H := H1
  clear H1
  replace H := Option.bind_eq_some_iff.mp H
  obtain ⟨t200, A270, H⟩ := H
  have A27 := Aside0.mk A270
  clear A270
  replace H := Option.bind_eq_some_iff.mp H
  obtain ⟨t201, A280, H⟩ := H
  have A28 := Aside0.mk A280
  clear A280
  by_cases c29 : t201 = true
  ·
   subst c29
   have H1 : (some (3, t200, t192, t193, t194, t195, t196, (-1))) = some (r1, r2, r3, r4, r5, r6, r7, r8) := by rw [if_pos rfl] at H; exact H
   clear H
   have H := H1
   clear H1
   simp only [Option.some.injEq, Prod.mk.injEq] at H
   obtain ⟨rfl, rfl, rfl, rfl, rfl, rfl, rfl, rfl⟩ := H
   go_enter Tryd.func34, Tryd.ntmps34
   go_wp2_with (first | ((with_reducible refine gate_dst (N := 1) rfl ?_); refine box_event ?hg (N := 1) ?hd (cs := #[.string a0_0, .int .i64 a0_1]) (t := 48) ?hr ?_; (case hd => rfl); (case hg => rfl); (case hr => first | (go_simp; done) | (go_simp; rfl)); intro gb186 hg w30 hbox hb; have BK186 := Aside0.mk (hbox); have GW186 := Aside0.mk ((by rw [hg]; exact (bZ_ (kwW HB)) : w.heap.size ≤ gb186)); replace HB := Aside0.mk (below_step (kwW HB) hb); have GE186 := GW186; clear hb hbox hg) | ((with_reducible refine gate_dst (N := 2) rfl ?_); refine box_event ?hg (N := 2) ?hd (cs := #[.int .i64 0, .string (⟨#[]⟩ : ByteArray), .int .i64 0, .int .i64 0, .string (⟨#[]⟩ : ByteArray), .int .i64 0, .int .i64 0]) (t := 25) ?hr ?_; (case hd => rfl); (case hg => rfl); (case hr => first | (go_simp; done) | (go_simp; rfl)); intro gb187 hg w31 hbox hb; have BK187 := Aside0.mk (hbox); have GW187 := Aside0.mk ((by rw [hg]; exact (bZ_ (by repeat (first | (with_reducible first | exact HB.out | apply bA_ | apply bN_ | apply bD_ | refine bS_ ?_ GE186) | exact HB.out))) : w.heap.size ≤ gb187)); replace HB := Aside0.mk (below_step (by repeat (first | (with_reducible first | exact HB.out | apply bA_ | apply bN_ | apply bD_ | refine bS_ ?_ GE186) | exact HB.out)) hb); have GE187 := GW187; have NB186_187 := Aside0.mk ((by rw [hg]; exact Nat.ne_of_lt (blk_lt (kbW BK186)) : gb186 ≠ gb187)); have NB187_186 := Aside0.mk ((by rw [hg]; exact Nat.ne_of_gt (blk_lt (kbW BK186)) : gb187 ≠ gb186)); replace BK186 := kB BK186 hb; clear hb hbox hg; have hnb32 := NB186_187.out; have hnc32 := NB187_186.out; obtain ⟨_, _, _, _⟩ := czf2 BK186) | ((with_reducible refine gate_callee (f := 25) rfl ?_); refine goesL_ (some 8) rfl rfl Tryd.func25 (by kernel_rfl) rfl #[.agg #[.string a0_0, .int .i64 a0_1], .func (.func 46) #[] #[]] rfl (by (try simp only [mT_, mC_, mN_]); first | done | rfl) ?_; (with_reducible refine (lexer_cutter_run_46.calls a0_0 a0_1  t188 _ A2.out).mono ?_); rintro e w34 ⟨rfl, hb⟩; refine ⟨_, rfl, ?_⟩; replace BK186 := kB BK186 hb; replace BK187 := kB BK187 hb; replace HB := Aside0.mk (below_step (by repeat (first | (with_reducible first | exact HB.out | apply bA_ | apply bN_ | apply bD_ | refine bS_ ?_ GE186 | refine bS_ ?_ GE187) | exact HB.out)) hb); (try clear hb); (try clear hb2); (try clear hk); (try clear hi); obtain ⟨_, _, _, _⟩ := czf2 BK186) | ((with_reducible refine gate_callee (f := 18) rfl ?_); refine goesL_ (some 10) rfl rfl Tryd.func18 (by kernel_rfl) rfl #[.agg #[.string a0_0, .int .i64 a0_1]] rfl (by (try simp only [mT_, mC_, mN_]); first | done | rfl) ?_; (with_reducible refine (lexer_cutter_rest.calls a0_0 a0_1 t189 _ A3.out).mono ?_); rintro e w36 ⟨rfl, hb⟩; refine ⟨_, rfl, ?_⟩; replace BK186 := kB BK186 hb; replace BK187 := kB BK187 hb; replace HB := Aside0.mk (below_step (by repeat (first | (with_reducible first | exact HB.out | apply bA_ | apply bN_ | apply bD_ | refine bS_ ?_ GE186 | refine bS_ ?_ GE187) | exact HB.out)) hb); (try clear hb); (try clear hb2); (try clear hk); (try clear hi); obtain ⟨_, _, _, _⟩ := czf2 BK186) | ((with_reducible refine gate_callee (f := 19) rfl ?_); refine goesL_ (some 15) rfl rfl Tryd.func19 (by kernel_rfl) rfl #[.agg #[.string a0_0, .int .i64 a0_1], .int .i64 2, .int .i64 t188] rfl (by (try simp only [mT_, mC_, mN_]); first | done | rfl) ?_; (with_reducible refine (lexer_cutter_token.calls a0_0 a0_1 2 t188 t190 t191 t192 t193 t194 t195 t196 _ A6.out).mono ?_); rintro e w38 ⟨rfl, hb⟩; refine ⟨_, rfl, ?_⟩; replace BK186 := kB BK186 hb; replace BK187 := kB BK187 hb; replace HB := Aside0.mk (below_step (by repeat (first | (with_reducible first | exact HB.out | apply bA_ | apply bN_ | apply bD_ | refine bS_ ?_ GE186 | refine bS_ ?_ GE187) | exact HB.out)) hb); (try clear hb); (try clear hb2); (try clear hk); (try clear hi)) | ((with_reducible refine gate_dst (N := 6) rfl ?_); refine box_event ?hg (N := 6) ?hd (cs := #[.int .i64 0, .string (⟨#[]⟩ : ByteArray), .int .i64 0, .int .i64 0, .string (⟨#[]⟩ : ByteArray), .int .i64 0, .int .i64 0]) (t := 25) ?hr ?_; (case hd => rfl); (case hg => rfl); (case hr => first | (go_simp; done) | (go_simp; rfl)); intro gb197 hg w39 hbox hb; have BK197 := Aside0.mk (hbox); have GW197 := Aside0.mk ((by rw [hg]; exact (bZ_ (by repeat (first | (with_reducible first | exact HB.out | apply bA_ | apply bN_ | apply bD_ | refine bS_ ?_ GE186 | refine bS_ ?_ GE187) | exact HB.out))) : w.heap.size ≤ gb197)); replace HB := Aside0.mk (below_step (by repeat (first | (with_reducible first | exact HB.out | apply bA_ | apply bN_ | apply bD_ | refine bS_ ?_ GE186 | refine bS_ ?_ GE187) | exact HB.out)) hb); have GE197 := GW197; have NB186_197 := Aside0.mk ((by rw [hg]; exact Nat.ne_of_lt (blk_lt (kbW BK186)) : gb186 ≠ gb197)); have NB197_186 := Aside0.mk ((by rw [hg]; exact Nat.ne_of_gt (blk_lt (kbW BK186)) : gb197 ≠ gb186)); replace BK186 := kB BK186 hb; have NB187_197 := Aside0.mk ((by rw [hg]; exact Nat.ne_of_lt (blk_lt (kbW BK187)) : gb187 ≠ gb197)); have NB197_187 := Aside0.mk ((by rw [hg]; exact Nat.ne_of_gt (blk_lt (kbW BK187)) : gb197 ≠ gb187)); replace BK187 := kB BK187 hb; clear hb hbox hg; have hnb40 := NB197_186.out; have hnc40 := NB186_197.out; have hnb41 := NB197_187.out; have hnc41 := NB187_197.out; obtain ⟨_, _, _, _, _, _, _, _, _, _, _, _, _, _⟩ := czf7 BK197) | ((with_reducible refine gate_callee (f := 23) rfl ?_); refine goesL_ (some 17) rfl rfl Tryd.func23 (by kernel_rfl) rfl #[.string (t189.extract 0 (t188 : Int).toNat)] rfl (by (try simp only [mT_, mC_, mN_]); first | done | rfl) ?_; (with_reducible refine (lexer_Word.calls (t189.extract 0 (t188 : Int).toNat) false _ A7.out).mono ?_); rintro e w43 ⟨rfl, hb⟩; refine ⟨_, rfl, ?_⟩; replace BK186 := kBf BK186 (fun h_ => by (with_reducible repeat (first | refine blk_drewN ?_ _ | refine blk_drew ?_ | refine blk_alloc ?_ _)); refine bf7 ?_ NB186_197.out; (with_reducible repeat (first | refine blk_drewN ?_ _ | refine blk_drew ?_ | refine blk_alloc ?_ _)); exact h_) hb; replace BK187 := kBf BK187 (fun h_ => by (with_reducible repeat (first | refine blk_drewN ?_ _ | refine blk_drew ?_ | refine blk_alloc ?_ _)); refine bf7 ?_ NB187_197.out; (with_reducible repeat (first | refine blk_drewN ?_ _ | refine blk_drew ?_ | refine blk_alloc ?_ _)); exact h_) hb; replace BK197 := Aside0.mk (blk_below (g := gb197) (o := .cells #[.int .i64 t190, .string t191, .int .i64 t192, .int .i64 t193, .string t194, .int .i64 t195, .int .i64 t196] 25 (0, 0)) (by (with_reducible repeat (first | refine blk_drewN ?_ _ | refine blk_drew ?_ | refine blk_alloc ?_ _)); exact bp7 (kbW BK197)) hb); replace HB := Aside0.mk (below_step (by repeat (first | (with_reducible first | exact HB.out | apply bA_ | apply bN_ | apply bD_ | refine bS_ ?_ GE186 | refine bS_ ?_ GE187 | refine bS_ ?_ GE197) | exact HB.out)) hb); (try clear hb); (try clear hb2); (try clear hk); (try clear hi)) | ((with_reducible refine gate_callee (f := 41) rfl ?_); refine goesL_ (some 23) rfl rfl Tryd.func41 (by kernel_rfl) rfl #[.string (t189.extract 0 (t188 : Int).toNat), .int .u8 65, .int .u8 90] rfl (by (try simp only [mT_, mC_, mN_]); first | done | rfl) ?_; (with_reducible refine (lexer_cased.calls (t189.extract 0 (t188 : Int).toNat) 65 90 t200 _ A27.out).mono ?_); rintro e w44 ⟨rfl, hb⟩; refine ⟨_, rfl, ?_⟩; replace BK186 := kB BK186 hb; replace BK187 := kB BK187 hb; replace BK197 := kB BK197 hb; replace HB := Aside0.mk (below_step (by repeat (first | (with_reducible first | exact HB.out | apply bA_ | apply bN_ | apply bD_ | refine bS_ ?_ GE186 | refine bS_ ?_ GE187 | refine bS_ ?_ GE197) | exact HB.out)) hb); (try clear hb); (try clear hb2); (try clear hk); (try clear hi); obtain ⟨_, _, _, _, _, _, _, _, _, _, _, _, _, _⟩ := czf7 BK197) | ((with_reducible refine gate_callee (f := 47) rfl ?_); refine goesL_ (some 28) rfl rfl Tryd.func47 (by kernel_rfl) rfl #[.string t200] rfl (by (try simp only [mT_, mC_, mN_]); first | done | rfl) ?_; (with_reducible refine (key_Name.calls t200 true _ A28.out).mono ?_); rintro e w46 ⟨rfl, hb⟩; refine ⟨_, rfl, ?_⟩; replace BK186 := kBf BK186 (fun h_ => by (with_reducible repeat (first | refine blk_drewN ?_ _ | refine blk_drew ?_ | refine blk_alloc ?_ _)); refine blk_far ?_ NB186_197.out _; (with_reducible repeat (first | refine blk_drewN ?_ _ | refine blk_drew ?_ | refine blk_alloc ?_ _)); refine blk_far ?_ NB186_197.out _; (with_reducible repeat (first | refine blk_drewN ?_ _ | refine blk_drew ?_ | refine blk_alloc ?_ _)); exact h_) hb; replace BK187 := kBf BK187 (fun h_ => by (with_reducible repeat (first | refine blk_drewN ?_ _ | refine blk_drew ?_ | refine blk_alloc ?_ _)); refine blk_far ?_ NB187_197.out _; (with_reducible repeat (first | refine blk_drewN ?_ _ | refine blk_drew ?_ | refine blk_alloc ?_ _)); refine blk_far ?_ NB187_197.out _; (with_reducible repeat (first | refine blk_drewN ?_ _ | refine blk_drew ?_ | refine blk_alloc ?_ _)); exact h_) hb; replace BK197 := Aside0.mk (blk_below (g := gb197) (o := .cells #[.int .i64 3, .string t200, .int .i64 t192, .int .i64 t193, .string t194, .int .i64 t195, .int .i64 t196] 25 (0, 0)) (by (with_reducible repeat (first | refine blk_drewN ?_ _ | refine blk_drew ?_ | refine blk_alloc ?_ _)); refine blk_put (cs := #[.int .i64 3, .string t191, .int .i64 t192, .int .i64 t193, .string t194, .int .i64 t195, .int .i64 t196]) ?_ 1 _ rfl; (with_reducible repeat (first | refine blk_drewN ?_ _ | refine blk_drew ?_ | refine blk_alloc ?_ _)); refine blk_put (cs := #[.int .i64 t190, .string t191, .int .i64 t192, .int .i64 t193, .string t194, .int .i64 t195, .int .i64 t196]) ?_ 0 _ rfl; (with_reducible repeat (first | refine blk_drewN ?_ _ | refine blk_drew ?_ | refine blk_alloc ?_ _)); exact BK197.out) hb); replace HB := Aside0.mk (below_step (by repeat (first | (with_reducible first | exact HB.out | apply bA_ | apply bN_ | apply bD_ | refine bS_ ?_ GE186 | refine bS_ ?_ GE187 | refine bS_ ?_ GE197) | exact HB.out)) hb); (try clear hb); (try clear hb2); (try clear hk); (try clear hi); obtain ⟨_, _, _, _, _, _, _, _, _, _, _, _, _, _⟩ := czf7 BK197; obtain ⟨_, _, _, _, _, _, _, _, _, _, _, _, _, _⟩ := czf7 BK187))
   refine bodyPost_ret (results_ct rfl _ _ gb187 25 #[.int .i64 3, .string t200, .int .i64 t192, .int .i64 t193, .string t194, .int .i64 t195, .int .i64 t196] (0, 0) _ rfl (by (with_reducible repeat (first | refine blk_drewN ?_ _ | refine blk_drew ?_ | refine blk_alloc ?_ _)); exact bp7 (kbW BK187)) Tryd.underlying25 rfl (by kernel_rfl)) rfl ?_
   exact ⟨by first | rfl | (simp <;> rfl) | (simp [*] <;> rfl), by repeat (first | (with_reducible first | exact HB.out | apply bA_ | apply bN_ | apply bD_ | refine bS_ ?_ GE186 | refine bS_ ?_ GE187 | refine bS_ ?_ GE197) | exact HB.out)⟩
  ·
   replace c29 := Bool.eq_false_iff.mpr c29
   subst c29
   have H1 : ((lexer_wrong.f a0_1).bind fun bt202 => (some (bt202.1, bt202.2.1, bt202.2.2.1, bt202.2.2.2.1, bt202.2.2.2.2.1, bt202.2.2.2.2.2.1, bt202.2.2.2.2.2.2.1, bt202.2.2.2.2.2.2.2))) = some (r1, r2, r3, r4, r5, r6, r7, r8) := by rw [if_neg (show ¬ (false = true) by decide)] at H; exact H
   clear H
   have H := H1
   clear H1
   replace H := Option.bind_eq_some_iff.mp H
   obtain ⟨⟨t202, t203, t204, t205, t206, t207, t208, t209⟩, A490, H⟩ := H
   have A49 := Aside0.mk A490
   clear A490
   simp only [Option.some.injEq, Prod.mk.injEq] at H
   obtain ⟨rfl, rfl, rfl, rfl, rfl, rfl, rfl, rfl⟩ := H
   go_enter Tryd.func34, Tryd.ntmps34
   go_wp2_with (first | ((with_reducible refine gate_dst (N := 1) rfl ?_); refine box_event ?hg (N := 1) ?hd (cs := #[.string a0_0, .int .i64 a0_1]) (t := 48) ?hr ?_; (case hd => rfl); (case hg => rfl); (case hr => first | (go_simp; done) | (go_simp; rfl)); intro gb186 hg w50 hbox hb; have BK186 := Aside0.mk (hbox); have GW186 := Aside0.mk ((by rw [hg]; exact (bZ_ (kwW HB)) : w.heap.size ≤ gb186)); replace HB := Aside0.mk (below_step (kwW HB) hb); have GE186 := GW186; clear hb hbox hg) | ((with_reducible refine gate_dst (N := 2) rfl ?_); refine box_event ?hg (N := 2) ?hd (cs := #[.int .i64 0, .string (⟨#[]⟩ : ByteArray), .int .i64 0, .int .i64 0, .string (⟨#[]⟩ : ByteArray), .int .i64 0, .int .i64 0]) (t := 25) ?hr ?_; (case hd => rfl); (case hg => rfl); (case hr => first | (go_simp; done) | (go_simp; rfl)); intro gb187 hg w51 hbox hb; have BK187 := Aside0.mk (hbox); have GW187 := Aside0.mk ((by rw [hg]; exact (bZ_ (by repeat (first | (with_reducible first | exact HB.out | apply bA_ | apply bN_ | apply bD_ | refine bS_ ?_ GE186) | exact HB.out))) : w.heap.size ≤ gb187)); replace HB := Aside0.mk (below_step (by repeat (first | (with_reducible first | exact HB.out | apply bA_ | apply bN_ | apply bD_ | refine bS_ ?_ GE186) | exact HB.out)) hb); have GE187 := GW187; have NB186_187 := Aside0.mk ((by rw [hg]; exact Nat.ne_of_lt (blk_lt (kbW BK186)) : gb186 ≠ gb187)); have NB187_186 := Aside0.mk ((by rw [hg]; exact Nat.ne_of_gt (blk_lt (kbW BK186)) : gb187 ≠ gb186)); replace BK186 := kB BK186 hb; clear hb hbox hg; have hnb52 := NB186_187.out; have hnc52 := NB187_186.out; obtain ⟨_, _, _, _⟩ := czf2 BK186) | ((with_reducible refine gate_callee (f := 25) rfl ?_); refine goesL_ (some 8) rfl rfl Tryd.func25 (by kernel_rfl) rfl #[.agg #[.string a0_0, .int .i64 a0_1], .func (.func 46) #[] #[]] rfl (by (try simp only [mT_, mC_, mN_]); first | done | rfl) ?_; (with_reducible refine (lexer_cutter_run_46.calls a0_0 a0_1  t188 _ A2.out).mono ?_); rintro e w54 ⟨rfl, hb⟩; refine ⟨_, rfl, ?_⟩; replace BK186 := kB BK186 hb; replace BK187 := kB BK187 hb; replace HB := Aside0.mk (below_step (by repeat (first | (with_reducible first | exact HB.out | apply bA_ | apply bN_ | apply bD_ | refine bS_ ?_ GE186 | refine bS_ ?_ GE187) | exact HB.out)) hb); (try clear hb); (try clear hb2); (try clear hk); (try clear hi); obtain ⟨_, _, _, _⟩ := czf2 BK186) | ((with_reducible refine gate_callee (f := 18) rfl ?_); refine goesL_ (some 10) rfl rfl Tryd.func18 (by kernel_rfl) rfl #[.agg #[.string a0_0, .int .i64 a0_1]] rfl (by (try simp only [mT_, mC_, mN_]); first | done | rfl) ?_; (with_reducible refine (lexer_cutter_rest.calls a0_0 a0_1 t189 _ A3.out).mono ?_); rintro e w56 ⟨rfl, hb⟩; refine ⟨_, rfl, ?_⟩; replace BK186 := kB BK186 hb; replace BK187 := kB BK187 hb; replace HB := Aside0.mk (below_step (by repeat (first | (with_reducible first | exact HB.out | apply bA_ | apply bN_ | apply bD_ | refine bS_ ?_ GE186 | refine bS_ ?_ GE187) | exact HB.out)) hb); (try clear hb); (try clear hb2); (try clear hk); (try clear hi); obtain ⟨_, _, _, _⟩ := czf2 BK186) | ((with_reducible refine gate_callee (f := 19) rfl ?_); refine goesL_ (some 15) rfl rfl Tryd.func19 (by kernel_rfl) rfl #[.agg #[.string a0_0, .int .i64 a0_1], .int .i64 2, .int .i64 t188] rfl (by (try simp only [mT_, mC_, mN_]); first | done | rfl) ?_; (with_reducible refine (lexer_cutter_token.calls a0_0 a0_1 2 t188 t190 t191 t192 t193 t194 t195 t196 _ A6.out).mono ?_); rintro e w58 ⟨rfl, hb⟩; refine ⟨_, rfl, ?_⟩; replace BK186 := kB BK186 hb; replace BK187 := kB BK187 hb; replace HB := Aside0.mk (below_step (by repeat (first | (with_reducible first | exact HB.out | apply bA_ | apply bN_ | apply bD_ | refine bS_ ?_ GE186 | refine bS_ ?_ GE187) | exact HB.out)) hb); (try clear hb); (try clear hb2); (try clear hk); (try clear hi)) | ((with_reducible refine gate_dst (N := 6) rfl ?_); refine box_event ?hg (N := 6) ?hd (cs := #[.int .i64 0, .string (⟨#[]⟩ : ByteArray), .int .i64 0, .int .i64 0, .string (⟨#[]⟩ : ByteArray), .int .i64 0, .int .i64 0]) (t := 25) ?hr ?_; (case hd => rfl); (case hg => rfl); (case hr => first | (go_simp; done) | (go_simp; rfl)); intro gb197 hg w59 hbox hb; have BK197 := Aside0.mk (hbox); have GW197 := Aside0.mk ((by rw [hg]; exact (bZ_ (by repeat (first | (with_reducible first | exact HB.out | apply bA_ | apply bN_ | apply bD_ | refine bS_ ?_ GE186 | refine bS_ ?_ GE187) | exact HB.out))) : w.heap.size ≤ gb197)); replace HB := Aside0.mk (below_step (by repeat (first | (with_reducible first | exact HB.out | apply bA_ | apply bN_ | apply bD_ | refine bS_ ?_ GE186 | refine bS_ ?_ GE187) | exact HB.out)) hb); have GE197 := GW197; have NB186_197 := Aside0.mk ((by rw [hg]; exact Nat.ne_of_lt (blk_lt (kbW BK186)) : gb186 ≠ gb197)); have NB197_186 := Aside0.mk ((by rw [hg]; exact Nat.ne_of_gt (blk_lt (kbW BK186)) : gb197 ≠ gb186)); replace BK186 := kB BK186 hb; have NB187_197 := Aside0.mk ((by rw [hg]; exact Nat.ne_of_lt (blk_lt (kbW BK187)) : gb187 ≠ gb197)); have NB197_187 := Aside0.mk ((by rw [hg]; exact Nat.ne_of_gt (blk_lt (kbW BK187)) : gb197 ≠ gb187)); replace BK187 := kB BK187 hb; clear hb hbox hg; have hnb60 := NB197_186.out; have hnc60 := NB186_197.out; have hnb61 := NB197_187.out; have hnc61 := NB187_197.out; obtain ⟨_, _, _, _, _, _, _, _, _, _, _, _, _, _⟩ := czf7 BK197) | ((with_reducible refine gate_callee (f := 23) rfl ?_); refine goesL_ (some 17) rfl rfl Tryd.func23 (by kernel_rfl) rfl #[.string (t189.extract 0 (t188 : Int).toNat)] rfl (by (try simp only [mT_, mC_, mN_]); first | done | rfl) ?_; (with_reducible refine (lexer_Word.calls (t189.extract 0 (t188 : Int).toNat) false _ A7.out).mono ?_); rintro e w63 ⟨rfl, hb⟩; refine ⟨_, rfl, ?_⟩; replace BK186 := kBf BK186 (fun h_ => by (with_reducible repeat (first | refine blk_drewN ?_ _ | refine blk_drew ?_ | refine blk_alloc ?_ _)); refine bf7 ?_ NB186_197.out; (with_reducible repeat (first | refine blk_drewN ?_ _ | refine blk_drew ?_ | refine blk_alloc ?_ _)); exact h_) hb; replace BK187 := kBf BK187 (fun h_ => by (with_reducible repeat (first | refine blk_drewN ?_ _ | refine blk_drew ?_ | refine blk_alloc ?_ _)); refine bf7 ?_ NB187_197.out; (with_reducible repeat (first | refine blk_drewN ?_ _ | refine blk_drew ?_ | refine blk_alloc ?_ _)); exact h_) hb; replace BK197 := Aside0.mk (blk_below (g := gb197) (o := .cells #[.int .i64 t190, .string t191, .int .i64 t192, .int .i64 t193, .string t194, .int .i64 t195, .int .i64 t196] 25 (0, 0)) (by (with_reducible repeat (first | refine blk_drewN ?_ _ | refine blk_drew ?_ | refine blk_alloc ?_ _)); exact bp7 (kbW BK197)) hb); replace HB := Aside0.mk (below_step (by repeat (first | (with_reducible first | exact HB.out | apply bA_ | apply bN_ | apply bD_ | refine bS_ ?_ GE186 | refine bS_ ?_ GE187 | refine bS_ ?_ GE197) | exact HB.out)) hb); (try clear hb); (try clear hb2); (try clear hk); (try clear hi)) | ((with_reducible refine gate_callee (f := 41) rfl ?_); refine goesL_ (some 23) rfl rfl Tryd.func41 (by kernel_rfl) rfl #[.string (t189.extract 0 (t188 : Int).toNat), .int .u8 65, .int .u8 90] rfl (by (try simp only [mT_, mC_, mN_]); first | done | rfl) ?_; (with_reducible refine (lexer_cased.calls (t189.extract 0 (t188 : Int).toNat) 65 90 t200 _ A27.out).mono ?_); rintro e w64 ⟨rfl, hb⟩; refine ⟨_, rfl, ?_⟩; replace BK186 := kB BK186 hb; replace BK187 := kB BK187 hb; replace BK197 := kB BK197 hb; replace HB := Aside0.mk (below_step (by repeat (first | (with_reducible first | exact HB.out | apply bA_ | apply bN_ | apply bD_ | refine bS_ ?_ GE186 | refine bS_ ?_ GE187 | refine bS_ ?_ GE197) | exact HB.out)) hb); (try clear hb); (try clear hb2); (try clear hk); (try clear hi); obtain ⟨_, _, _, _, _, _, _, _, _, _, _, _, _, _⟩ := czf7 BK197) | ((with_reducible refine gate_callee (f := 47) rfl ?_); refine goesL_ (some 28) rfl rfl Tryd.func47 (by kernel_rfl) rfl #[.string t200] rfl (by (try simp only [mT_, mC_, mN_]); first | done | rfl) ?_; (with_reducible refine (key_Name.calls t200 false _ A28.out).mono ?_); rintro e w66 ⟨rfl, hb⟩; refine ⟨_, rfl, ?_⟩; replace BK186 := kBf BK186 (fun h_ => by (with_reducible repeat (first | refine blk_drewN ?_ _ | refine blk_drew ?_ | refine blk_alloc ?_ _)); refine blk_far ?_ NB186_197.out _; (with_reducible repeat (first | refine blk_drewN ?_ _ | refine blk_drew ?_ | refine blk_alloc ?_ _)); refine blk_far ?_ NB186_197.out _; (with_reducible repeat (first | refine blk_drewN ?_ _ | refine blk_drew ?_ | refine blk_alloc ?_ _)); exact h_) hb; replace BK187 := kBf BK187 (fun h_ => by (with_reducible repeat (first | refine blk_drewN ?_ _ | refine blk_drew ?_ | refine blk_alloc ?_ _)); refine blk_far ?_ NB187_197.out _; (with_reducible repeat (first | refine blk_drewN ?_ _ | refine blk_drew ?_ | refine blk_alloc ?_ _)); refine blk_far ?_ NB187_197.out _; (with_reducible repeat (first | refine blk_drewN ?_ _ | refine blk_drew ?_ | refine blk_alloc ?_ _)); exact h_) hb; replace BK197 := Aside0.mk (blk_below (g := gb197) (o := .cells #[.int .i64 3, .string t200, .int .i64 t192, .int .i64 t193, .string t194, .int .i64 t195, .int .i64 t196] 25 (0, 0)) (by (with_reducible repeat (first | refine blk_drewN ?_ _ | refine blk_drew ?_ | refine blk_alloc ?_ _)); refine blk_put (cs := #[.int .i64 3, .string t191, .int .i64 t192, .int .i64 t193, .string t194, .int .i64 t195, .int .i64 t196]) ?_ 1 _ rfl; (with_reducible repeat (first | refine blk_drewN ?_ _ | refine blk_drew ?_ | refine blk_alloc ?_ _)); refine blk_put (cs := #[.int .i64 t190, .string t191, .int .i64 t192, .int .i64 t193, .string t194, .int .i64 t195, .int .i64 t196]) ?_ 0 _ rfl; (with_reducible repeat (first | refine blk_drewN ?_ _ | refine blk_drew ?_ | refine blk_alloc ?_ _)); exact BK197.out) hb); replace HB := Aside0.mk (below_step (by repeat (first | (with_reducible first | exact HB.out | apply bA_ | apply bN_ | apply bD_ | refine bS_ ?_ GE186 | refine bS_ ?_ GE187 | refine bS_ ?_ GE197) | exact HB.out)) hb); (try clear hb); (try clear hb2); (try clear hk); (try clear hi); obtain ⟨_, _, _, _⟩ := czf2 BK186) | ((with_reducible refine gate_callee (f := 44) rfl ?_); refine goesL_ (some 32) rfl rfl Tryd.func44 (by kernel_rfl) rfl #[.int .i64 a0_1] rfl (by (try simp only [mT_, mC_, mN_]); first | done | rfl) ?_; (with_reducible refine (lexer_wrong.calls a0_1 t202 t203 t204 t205 t206 t207 t208 t209 _ A49.out).mono ?_); rintro e w68 ⟨rfl, hb⟩; refine ⟨_, rfl, ?_⟩; replace BK186 := kB BK186 hb; replace BK187 := kB BK187 hb; replace BK197 := kB BK197 hb; replace HB := Aside0.mk (below_step (by repeat (first | (with_reducible first | exact HB.out | apply bA_ | apply bN_ | apply bD_ | refine bS_ ?_ GE186 | refine bS_ ?_ GE187 | refine bS_ ?_ GE197) | exact HB.out)) hb); (try clear hb); (try clear hb2); (try clear hk); (try clear hi); obtain ⟨_, _, _, _, _, _, _, _, _, _, _, _, _, _⟩ := czf7 BK187))
   refine bodyPost_ret (results_ct rfl _ _ gb187 25 #[.int .i64 t202, .string t203, .int .i64 t204, .int .i64 t205, .string t206, .int .i64 t207, .int .i64 t208] (0, 0) _ rfl (by (with_reducible repeat (first | refine blk_drewN ?_ _ | refine blk_drew ?_ | refine blk_alloc ?_ _)); exact bp7 (kbW BK187)) Tryd.underlying25 rfl (by kernel_rfl)) rfl ?_
   exact ⟨by first | rfl | (simp <;> rfl) | (simp [*] <;> rfl), by repeat (first | (with_reducible first | exact HB.out | apply bA_ | apply bN_ | apply bD_ | refine bS_ ?_ GE186 | refine bS_ ?_ GE187 | refine bS_ ?_ GE197) | exact HB.out)⟩
end Go.Proofs.YtfaogccfiklinaaDoor.Q
