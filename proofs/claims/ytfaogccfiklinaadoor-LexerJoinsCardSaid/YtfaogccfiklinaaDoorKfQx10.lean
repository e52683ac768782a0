/- Lemmas for this claim's walk: no condition of their own. -/
import Derived.Test.YtfaogccfiklinaaDoorKfSq
import Derived.Test.YtfaogccfiklinaaDoorKfQx0
import Derived.Test.YtfaogccfiklinaaDoorKfQx3
import Derived.Test.YtfaogccfiklinaaDoorKfJ12
import Derived.Test.YtfaogccfiklinaaDoorKfQx7
namespace Go.Proofs.YtfaogccfiklinaaDoor.Q
open Go.RowKit Go.Proofs.YtfaogccfiklinaaDoorW.PrintWords Go.Proofs.YtfaogccfiklinaaDoorW.PrintLast Go.Proofs.YtfaogccfiklinaaDoorW.PrintMore
attribute [local go_sem] max2_int min2_int max_two min_two max_three min_three max_four min_four
set_option linter.unusedVariables false
set_option linter.unusedSimpArgs false
def stringslite_HasPrefix.f (a0 : ByteArray) (a1 : ByteArray) : Option (Bool) := if (a0.size : Int) ≥ (a1.size : Int) then (if 0 ≤ (a1.size : Int) then (if (a1.size : Int) ≤ (a0.size : Int) then (some ((a0.extract 0 ((a1.size : Int) : Int).toNat).toList == a1.toList)) else (none)) else (none)) else (some false)
set_option maxHeartbeats 8000000 in
set_option maxRecDepth 100000 in
theorem stringslite_HasPrefix.calls (a0 : ByteArray) (a1 : ByteArray) (r : Bool) (w : World) (h : stringslite_HasPrefix.f a0 a1 = some r) :
  Calls Tryd.prog 43 #[.string a0, .string a1] w fun e w' => e = .returned (.bool r) ∧ Drawn0 w w' := by
 have H : (if (a0.size : Int) ≥ (a1.size : Int) then (if 0 ≤ (a1.size : Int) then (if (a1.size : Int) ≤ (a0.size : Int) then (some ((a0.extract 0 ((a1.size : Int) : Int).toNat).toList == a1.toList)) else (none)) else (none)) else (some false)) = some r := h
 clear h
 by_cases c3 : (a0.size : Int) ≥ (a1.size : Int)
 rotate_left
 ·
  rw [if_neg c3] at H
  have c3b0 : decide ((a1.size : Int) ≤ (a0.size : Int)) = false := decide_eq_false c3
  have c3b1 : decide (a1.size ≤ a0.size) = false := decide_eq_false (fun h => c3 (Int.ofNat_le.mpr h))
  clear c3
  obtain rfl := Option.some.inj H
  go_enter Tryd.func43, Tryd.ntmps43
  go_wp2
  go_ret
  exact ⟨by first | rfl | (simp; done) | (simp [*]; done), by repeat (first | exact Drawn0.refl _ | apply Drawn0.step)⟩
 rw [if_pos c3] at H
 have c3b0 : decide ((a1.size : Int) ≤ (a0.size : Int)) = true := decide_eq_true c3
 have c3b1 : decide (a1.size ≤ a0.size) = true := decide_eq_true (Int.ofNat_le.mp c3)
 clear c3
 by_cases c4 : 0 ≤ (a1.size : Int)
 rotate_left
 ·
  rw [if_neg c4] at H
  exact absurd H (by simp)
 rw [if_pos c4] at H
 have c4b0 := eq_true c4
 have c4b1 : decide (0 ≤ (a1.size : Int)) = true := decide_eq_true c4
 clear c4
 by_cases c5 : (a1.size : Int) ≤ (a0.size : Int)
 rotate_left
 ·
  rw [if_neg c5] at H
  exact absurd H (by simp)
 rw [if_pos c5] at H
 have c5b0 := eq_true c5
 have c5b1 : decide ((a1.size : Int) ≤ (a0.size : Int)) = true := decide_eq_true c5
 clear c5
 obtain rfl := Option.some.inj H
 go_enter Tryd.func43, Tryd.ntmps43
 go_wp2
 go_ret
 exact ⟨by first | rfl | (simp; done) | (simp [*]; done), by repeat (first | exact Drawn0.refl _ | apply Drawn0.step)⟩
def strings_HasPrefix.f (a0 : ByteArray) (a1 : ByteArray) : Option (Bool) := (stringslite_HasPrefix.f a0 a1).bind fun t210 => (some t210)
set_option maxHeartbeats 8000000 in
set_option maxRecDepth 100000 in
theorem strings_HasPrefix.calls (a0 : ByteArray) (a1 : ByteArray) (r : Bool) (w : World) (h : strings_HasPrefix.f a0 a1 = some r) :
  Calls Tryd.prog 27 #[.string a0, .string a1] w fun e w' => e = .returned (.bool r) ∧ Drawn0 w w' := by
 have H : ((stringslite_HasPrefix.f a0 a1).bind fun t210 => (some t210)) = some r := h
 clear h
 replace H := Option.bind_eq_some_iff.mp H
 obtain ⟨t210, A30, H⟩ := H
 have A3 := Aside0.mk A30
 clear A30
 obtain rfl := Option.some.inj H
 go_enter Tryd.func27, Tryd.ntmps27
 go_wp2_with (first | ((with_reducible refine gate_callee (f := 43) rfl ?_); refine goesL_ (some 7) rfl rfl Tryd.func43 (by kernel_rfl) rfl #[.string a0, .string a1] rfl (by (try simp only [mT_, mC_, mN_]); first | done | rfl) ?_; (with_reducible refine (stringslite_HasPrefix.calls a0 a1 t210 _ A3.out).mono ?_); rintro e w' ⟨rfl, ⟨nd, rfl⟩⟩; refine ⟨_, rfl, ?_⟩))
 go_ret
 exact ⟨by first | rfl | (simp; done) | (simp [*]; done), by repeat (first | exact Drawn0.refl _ | apply Drawn0.step)⟩
def lexer_cutter_sign.f (a0_0 : ByteArray) (a0_1 : Int) : Option (Int × ByteArray × Int × Int × ByteArray × Int × Int × Int) := (lexer_cutter_rest.f a0_0 a0_1).bind fun t213 => ((strings_HasPrefix.f t213 (⟨#[62, 61]⟩ : ByteArray)).bind fun t214 => (if t214 = true then ((lexer_cutter_token.f a0_0 a0_1 1 2).bind fun bt215 => ((lexer_cutter_rest.f a0_0 a0_1).bind fun t223 => (if 0 ≤ 2 then (if 2 ≤ (t223.size : Int) then (some (bt215.1, t223.extract 0 2, bt215.2.2.1, bt215.2.2.2.1, bt215.2.2.2.2.1, bt215.2.2.2.2.2.1, bt215.2.2.2.2.2.2, (-1))) else (none)) else (none)))) else ((lexer_cutter_peek.f a0_0 a0_1 0).bind fun t224 => ((strings_IndexByte.f (⟨#[61, 60, 40, 41, 44, 42]⟩ : ByteArray) t224).bind fun t225 => (if t225 < 0 then ((lexer_wrong.f a0_1).bind fun bt226 => (some (bt226.1, bt226.2.1, bt226.2.2.1, bt226.2.2.2.1, bt226.2.2.2.2.1, bt226.2.2.2.2.2.1, bt226.2.2.2.2.2.2.1, bt226.2.2.2.2.2.2.2))) else ((lexer_cutter_token.f a0_0 a0_1 1 1).bind fun bt234 => ((lexer_cutter_rest.f a0_0 a0_1).bind fun t242 => (if 0 ≤ 1 then (if 1 ≤ (t242.size : Int) then (some (bt234.1, t242.extract 0 1, bt234.2.2.1, bt234.2.2.2.1, bt234.2.2.2.2.1, bt234.2.2.2.2.2.1, bt234.2.2.2.2.2.2, (-1))) else (none)) else (none)))))))))
set_option maxHeartbeats 8000000 in
set_option maxRecDepth 100000 in
theorem lexer_cutter_sign.calls (a0_0 : ByteArray) (a0_1 : Int) (r1 : Int) (r2 : ByteArray) (r3 : Int) (r4 : Int) (r5 : ByteArray) (r6 : Int) (r7 : Int) (r8 : Int) (w : World) (h : lexer_cutter_sign.f a0_0 a0_1 = some (r1, r2, r3, r4, r5, r6, r7, r8)) :
  Calls Tryd.prog 35 #[.agg #[.string a0_0, .int .i64 a0_1]] w fun e w' => e = .returned (.tuple #[.agg #[.int .i64 r1, .string r2, .int .i64 r3, .int .i64 r4, .string r5, .int .i64 r6, .int .i64 r7], .int .i64 r8]) ∧ Below w.heap.size w w' := by
 have hu48 := Tryd.underlying48
 have hu25 := Tryd.underlying25
 have HB := Aside0.mk (Below.refl w.heap.size w)
 have H : ((lexer_cutter_rest.f a0_0 a0_1).bind fun t213 => ((strings_HasPrefix.f t213 (⟨#[62, 61]⟩ : ByteArray)).bind fun t214 => (if t214 = true then ((lexer_cutter_token.f a0_0 a0_1 1 2).bind fun bt215 => ((lexer_cutter_rest.f a0_0 a0_1).bind fun t223 => (if 0 ≤ 2 then (if 2 ≤ (t223.size : Int) then (some (bt215.1, t223.extract 0 2, bt215.2.2.1, bt215.2.2.2.1, bt215.2.2.2.2.1, bt215.2.2.2.2.2.1, bt215.2.2.2.2.2.2, (-1))) else (none)) else (none)))) else ((lexer_cutter_peek.f a0_0 a0_1 0).bind fun t224 => ((strings_IndexByte.f (⟨#[61, 60, 40, 41, 44, 42]⟩ : ByteArray) t224).bind fun t225 => (if t225 < 0 then ((lexer_wrong.f a0_1).bind fun bt226 => (some (bt226.1, bt226.2.1, bt226.2.2.1, bt226.2.2.2.1, bt226.2.2.2.2.1, bt226.2.2.2.2.2.1, bt226.2.2.2.2.2.2.1, bt226.2.2.2.2.2.2.2))) else ((lexer_cutter_token.f a0_0 a0_1 1 1).bind fun bt234 => ((lexer_cutter_rest.f a0_0 a0_1).bind fun t242 => (if 0 ≤ 1 then (if 1 ≤ (t242.size : Int) then (some (bt234.1, t242.extract 0 1, bt234.2.2.1, bt234.2.2.2.1, bt234.2.2.2.2.1, bt234.2.2.2.2.2.1, bt234.2.2.2.2.2.2, (-1))) else (none)) else (none)))))))))) = some (r1, r2, r3, r4, r5, r6, r7, r8) := h
 clear h
 replace H := Option.bind_eq_some_iff.mp H
 obtain ⟨t213, A20, H⟩ := H
 have A2 := Aside0.mk A20
 clear A20
 replace H := Option.bind_eq_some_iff.mp H
 obtain ⟨t214, A30, H⟩ := H
 have A3 := Aside0.mk A30
 clear A30
 by_cases c4 : t214 = true
 ·
  subst c4
  have H1 : ((lexer_cutter_token.f a0_0 a0_1 1 2).bind fun bt215 => ((lexer_cutter_rest.f a0_0 a0_1).bind fun t223 => (if 0 ≤ 2 then (if 2 ≤ (t223.size : Int) then (some (bt215.1, t223.extract 0 2, bt215.2.2.1, bt215.2.2.2.1, bt215.2.2.2.2.1, bt215.2.2.2.2.2.1, bt215.2.2.2.2.2.2, (-1))) else (none)) else (none)))) = some (r1, r2, r3, r4, r5, r6, r7, r8) := by rw [if_pos rfl] at H; exact H
  clear H
  have H := H1
  clear H1
  replace H := Option.bind_eq_some_iff.mp H
  obtain ⟨⟨t215, t216, t217, t218, t219, t220, t221⟩, A50, H⟩ := H
  have A5 := Aside0.mk A50
  clear A50
  replace H := Option.bind_eq_some_iff.mp H
  obtain ⟨t223, A60, H⟩ := H
  have A6 := Aside0.mk A60
  clear A60
  by_cases c7 : 0 ≤ 2
  rotate_left
  ·
   rw [if_neg c7] at H
   exact absurd H (by simp)
  rw [if_pos c7] at H
  have c7b0 := eq_true c7
  have c7b1 : decide (0 ≤ 2) = true := decide_eq_true c7
  clear c7
  by_cases c8 : 2 ≤ (t223.size : Int)
  rotate_left
  ·
   rw [if_neg c8] at H
   exact absurd H (by simp)
  rw [if_pos c8] at H
  have c8b0 := eq_true c8
  have c8b1 : decide (2 ≤ (t223.size : Int)) = true := decide_eq_true c8
  clear c8
  simp only [Option.some.injEq, Prod.mk.injEq] at H
  obtain ⟨rfl, rfl, rfl, rfl, rfl, rfl, rfl, rfl⟩ := H
  go_enter Tryd.func35, Tryd.ntmps35
  go_wp2_with (first | ((with_reducible refine gate_dst (N := 1) rfl ?_); refine box_event ?hg (N := 1) ?hd (cs := #[.string a0_0, .int .i64 a0_1]) (t := 48) ?hr ?_; (case hd => rfl); (case hg => rfl); (case hr => first | (go_simp; done) | (go_simp; rfl)); intro gb211 hg w9 hbox hb; have BK211 := Aside0.mk (hbox); have GW211 := Aside0.mk ((by rw [hg]; exact (bZ_ (kwW HB)) : w.heap.size ≤ gb211)); replace HB := Aside0.mk (below_step (kwW HB) hb); have GE211 := GW211; clear hb hbox hg) | ((with_reducible refine gate_dst (N := 2) rfl ?_); refine box_event ?hg (N := 2) ?hd (cs := #[.int .i64 0, .string (⟨#[]⟩ : ByteArray), .int .i64 0, .int .i64 0, .string (⟨#[]⟩ : ByteArray), .int .i64 0, .int .i64 0]) (t := 25) ?hr ?_; (case hd => rfl); (case hg => rfl); (case hr => first | (go_simp; done) | (go_simp; rfl)); intro gb212 hg w10 hbox hb; have BK212 := Aside0.mk (hbox); have GW212 := Aside0.mk ((by rw [hg]; exact (bZ_ (by repeat (first | (with_reducible first | exact HB.out | apply bA_ | apply bN_ | apply bD_ | refine bS_ ?_ GE211) | exact HB.out))) : w.heap.size ≤ gb212)); replace HB := Aside0.mk (below_step (by repeat (first | (with_reducible first | exact HB.out | apply bA_ | apply bN_ | apply bD_ | refine bS_ ?_ GE211) | exact HB.out)) hb); have GE212 := GW212; have NB211_212 := Aside0.mk ((by rw [hg]; exact Nat.ne_of_lt (blk_lt (kbW BK211)) : gb211 ≠ gb212)); have NB212_211 := Aside0.mk ((by rw [hg]; exact Nat.ne_of_gt (blk_lt (kbW BK211)) : gb212 ≠ gb211)); replace BK211 := kB BK211 hb; clear hb hbox hg; have hnb11 := NB211_212.out; have hnc11 := NB212_211.out; obtain ⟨_, _, _, _⟩ := czf2 BK211) | ((with_reducible refine gate_callee (f := 18) rfl ?_); refine goesL_ (some 8) rfl rfl Tryd.func18 (by kernel_rfl) rfl #[.agg #[.string a0_0, .int .i64 a0_1]] rfl (by (try simp only [mT_, mC_, mN_]); first | done | rfl) ?_; (with_reducible refine (lexer_cutter_rest.calls a0_0 a0_1 t213 _ A2.out).mono ?_); rintro e w13 ⟨rfl, hb⟩; refine ⟨_, rfl, ?_⟩; replace BK211 := kB BK211 hb; replace BK212 := kB BK212 hb; replace HB := Aside0.mk (below_step (by repeat (first | (with_reducible first | exact HB.out | apply bA_ | apply bN_ | apply bD_ | refine bS_ ?_ GE211 | refine bS_ ?_ GE212) | exact HB.out)) hb); (try clear hb); (try clear hb2); (try clear hk); (try clear hi)) | ((with_reducible refine gate_callee (f := 27) rfl ?_); refine goesL_ (some 9) rfl rfl Tryd.func27 (by kernel_rfl) rfl #[.string t213, .string (⟨#[62, 61]⟩ : ByteArray)] rfl (by (try simp only [mT_, mC_, mN_]); first | done | rfl) ?_; (with_reducible refine (strings_HasPrefix.calls t213 (⟨#[62, 61]⟩ : ByteArray) true _ A3.out).mono ?_); rintro e w' ⟨rfl, ⟨nd, rfl⟩⟩; refine ⟨_, rfl, ?_⟩; (try (rw [drewN_self w13]; generalize hq_ : World.drewN w13 _ = w13; have n0_ : Aside0 (w13.heap[gb211]? = some (.cells #[.string a0_0, .int .i64 a0_1] 48 (0, 0))) := ⟨by rw [← hq_]; exact (kbW BK211)⟩; have n1_ : Aside0 (w13.heap[gb212]? = some (.cells #[.int .i64 0, .string (⟨#[]⟩ : ByteArray), .int .i64 0, .int .i64 0, .string (⟨#[]⟩ : ByteArray), .int .i64 0, .int .i64 0] 25 (0, 0))) := ⟨by rw [← hq_]; exact (kbW BK212)⟩; have n2_ : Aside0 (Below w.heap.size w w13) := ⟨by rw [← hq_]; exact (by repeat (first | (with_reducible first | exact HB.out | apply bA_ | apply bN_ | apply bD_ | refine bS_ ?_ GE211 | refine bS_ ?_ GE212) | exact HB.out))⟩; clear BK211 BK212 HB hq_; have BK211 := n0_; have BK212 := n1_; have HB := n2_; clear n0_ n1_ n2_)); obtain ⟨_, _, _, _⟩ := czf2 BK211) | ((with_reducible refine gate_callee (f := 19) rfl ?_); refine goesL_ (some 22) rfl rfl Tryd.func19 (by kernel_rfl) rfl #[.agg #[.string a0_0, .int .i64 a0_1], .int .i64 1, .int .i64 2] rfl (by (try simp only [mT_, mC_, mN_]); first | done | rfl) ?_; (with_reducible refine (lexer_cutter_token.calls a0_0 a0_1 1 2 t215 t216 t217 t218 t219 t220 t221 _ A5.out).mono ?_); rintro e w15 ⟨rfl, hb⟩; refine ⟨_, rfl, ?_⟩; replace BK211 := kB BK211 hb; replace BK212 := kB BK212 hb; replace HB := Aside0.mk (below_step (by repeat (first | (with_reducible first | exact HB.out | apply bA_ | apply bN_ | apply bD_ | refine bS_ ?_ GE211 | refine bS_ ?_ GE212) | exact HB.out)) hb); (try clear hb); (try clear hb2); (try clear hk); (try clear hi)) | ((with_reducible refine gate_dst (N := 5) rfl ?_); refine box_event ?hg (N := 5) ?hd (cs := #[.int .i64 0, .string (⟨#[]⟩ : ByteArray), .int .i64 0, .int .i64 0, .string (⟨#[]⟩ : ByteArray), .int .i64 0, .int .i64 0]) (t := 25) ?hr ?_; (case hd => rfl); (case hg => rfl); (case hr => first | (go_simp; done) | (go_simp; rfl)); intro gb222 hg w16 hbox hb; have BK222 := Aside0.mk (hbox); have GW222 := Aside0.mk ((by rw [hg]; exact (bZ_ (by repeat (first | (with_reducible first | exact HB.out | apply bA_ | apply bN_ | apply bD_ | refine bS_ ?_ GE211 | refine bS_ ?_ GE212) | exact HB.out))) : w.heap.size ≤ gb222)); replace HB := Aside0.mk (below_step (by repeat (first | (with_reducible first | exact HB.out | apply bA_ | apply bN_ | apply bD_ | refine bS_ ?_ GE211 | refine bS_ ?_ GE212) | exact HB.out)) hb); have GE222 := GW222; have NB211_222 := Aside0.mk ((by rw [hg]; exact Nat.ne_of_lt (blk_lt (kbW BK211)) : gb211 ≠ gb222)); have NB222_211 := Aside0.mk ((by rw [hg]; exact Nat.ne_of_gt (blk_lt (kbW BK211)) : gb222 ≠ gb211)); replace BK211 := kB BK211 hb; have NB212_222 := Aside0.mk ((by rw [hg]; exact Nat.ne_of_lt (blk_lt (kbW BK212)) : gb212 ≠ gb222)); have NB222_212 := Aside0.mk ((by rw [hg]; exact Nat.ne_of_gt (blk_lt (kbW BK212)) : gb222 ≠ gb212)); replace BK212 := kB BK212 hb; clear hb hbox hg; have hnb17 := NB222_211.out; have hnc17 := NB211_222.out; have hnb18 := NB222_212.out; have hnc18 := NB212_222.out; obtain ⟨_, _, _, _, _, _, _, _, _, _, _, _, _, _⟩ := czf7 BK222; obtain ⟨_, _, _, _⟩ := czf2 BK211) | ((with_reducible refine gate_callee (f := 18) rfl ?_); refine goesL_ (some 24) rfl rfl Tryd.func18 (by kernel_rfl) rfl #[.agg #[.string a0_0, .int .i64 a0_1]] rfl (by (try simp only [mT_, mC_, mN_]); first | done | rfl) ?_; (with_reducible refine (lexer_cutter_rest.calls a0_0 a0_1 t223 _ A6.out).mono ?_); rintro e w21 ⟨rfl, hb⟩; refine ⟨_, rfl, ?_⟩; replace BK211 := kBf BK211 (fun h_ => by (with_reducible repeat (first | refine blk_drewN ?_ _ | refine blk_drew ?_ | refine blk_alloc ?_ _)); refine bf7 ?_ NB211_222.out; (with_reducible repeat (first | refine blk_drewN ?_ _ | refine blk_drew ?_ | refine blk_alloc ?_ _)); exact h_) hb; replace BK212 := kBf BK212 (fun h_ => by (with_reducible repeat (first | refine blk_drewN ?_ _ | refine blk_drew ?_ | refine blk_alloc ?_ _)); refine bf7 ?_ NB212_222.out; (with_reducible repeat (first | refine blk_drewN ?_ _ | refine blk_drew ?_ | refine blk_alloc ?_ _)); exact h_) hb; replace BK222 := Aside0.mk (blk_below (g := gb222) (o := .cells #[.int .i64 t215, .string t216, .int .i64 t217, .int .i64 t218, .string t219, .int .i64 t220, .int .i64 t221] 25 (0, 0)) (by (with_reducible repeat (first | refine blk_drewN ?_ _ | refine blk_drew ?_ | refine blk_alloc ?_ _)); exact bp7 (kbW BK222)) hb); replace HB := Aside0.mk (below_step (by repeat (first | (with_reducible first | exact HB.out | apply bA_ | apply bN_ | apply bD_ | refine bS_ ?_ GE211 | refine bS_ ?_ GE212 | refine bS_ ?_ GE222) | exact HB.out)) hb); (try clear hb); (try clear hb2); (try clear hk); (try clear hi); obtain ⟨_, _, _, _, _, _, _, _, _, _, _, _, _, _⟩ := czf7 BK222; obtain ⟨_, _, _, _, _, _, _, _, _, _, _, _, _, _⟩ := czf7 BK212))
  refine bodyPost_ret (results_ct rfl _ _ gb212 25 #[.int .i64 t215, .string (t223.extract 0 2), .int .i64 t217, .int .i64 t218, .string t219, .int .i64 t220, .int .i64 t221] (0, 0) _ rfl (by (with_reducible repeat (first | refine blk_drewN ?_ _ | refine blk_drew ?_ | refine blk_alloc ?_ _)); apply bp7; (with_reducible repeat (first | refine blk_drewN ?_ _ | refine blk_drew ?_ | refine blk_alloc ?_ _)); refine blk_far ?_ NB212_222.out _; (with_reducible repeat (first | refine blk_drewN ?_ _ | refine blk_drew ?_ | refine blk_alloc ?_ _)); exact BK212.out) Tryd.underlying25 rfl (by kernel_rfl)) rfl ?_
  exact ⟨by first | rfl | (simp <;> rfl) | (simp [*] <;> rfl), by repeat (first | (with_reducible first | exact HB.out | apply bA_ | apply bN_ | apply bD_ | refine bS_ ?_ GE211 | refine bS_ ?_ GE212 | refine bS_ ?_ GE222) | exact HB.out)⟩
 ·
  replace c4 := Bool.eq_false_iff.mpr c4
  subst c4
  have H1 : ((lexer_cutter_peek.f a0_0 a0_1 0).bind fun t224 => ((strings_IndexByte.f (⟨#[61, 60, 40, 41, 44, 42]⟩ : ByteArray) t224).bind fun t225 => (if t225 < 0 then ((lexer_wrong.f a0_1).bind fun bt226 => (some (bt226.1, bt226.2.1, bt226.2.2.1, bt226.2.2.2.1, bt226.2.2.2.2.1, bt226.2.2.2.2.2.1, bt226.2.2.2.2.2.2.1, bt226.2.2.2.2.2.2.2))) else ((lexer_cutter_token.f a0_0 a0_1 1 1).bind fun bt234 => ((lexer_cutter_rest.f a0_0 a0_1).bind fun t242 => (if 0 ≤ 1 then (if 1 ≤ (t242.size : Int) then (some (bt234.1, t242.extract 0 1, bt234.2.2.1, bt234.2.2.2.1, bt234.2.2.2.2.1, bt234.2.2.2.2.2.1, bt234.2.2.2.2.2.2, (-1))) else (none)) else (none))))))) = some (r1, r2, r3, r4, r5, r6, r7, r8) := by rw [if_neg (show ¬ (false = true) by decide)] at H; exact H
  clear H
  have H := H1
  clear H1
  replace H := Option.bind_eq_some_iff.mp H
  obtain ⟨t224, A240, H⟩ := H
  have A24 := Aside0.mk A240
  clear A240
  replace H := Option.bind_eq_some_iff.mp H
  obtain ⟨t225, A250, H⟩ := H
  have A25 := Aside0.mk A250
  clear A250
  by_cases c26 : t225 < 0
  ·
   rw [if_pos c26] at H
   have c26b0 : decide (t225 < 0) = true := decide_eq_true c26
   clear c26
   replace H := Option.bind_eq_some_iff.mp H
   obtain ⟨⟨t226, t227, t228, t229, t230, t231, t232, t233⟩, A270, H⟩ := H
   have A27 := Aside0.mk A270
   clear A270
   simp only [Option.some.injEq, Prod.mk.injEq] at H
   obtain ⟨rfl, rfl, rfl, rfl, rfl, rfl, rfl, rfl⟩ := H
   go_enter Tryd.func35, Tryd.ntmps35
   go_wp2_with (first | ((with_reducible refine gate_dst (N := 1) rfl ?_); refine box_event ?hg (N := 1) ?hd (cs := #[.string a0_0, .int .i64 a0_1]) (t := 48) ?hr ?_; (case hd => rfl); (case hg => rfl); (case hr => first | (go_simp; done) | (go_simp; rfl)); intro gb211 hg w28 hbox hb; have BK211 := Aside0.mk (hbox); have GW211 := Aside0.mk ((by rw [hg]; exact (bZ_ (kwW HB)) : w.heap.size ≤ gb211)); replace HB := Aside0.mk (below_step (kwW HB) hb); have GE211 := GW211; clear hb hbox hg) | ((with_reducible refine gate_dst (N := 2) rfl ?_); refine box_event ?hg (N := 2) ?hd (cs := #[.int .i64 0, .string (⟨#[]⟩ : ByteArray), .int .i64 0, .int .i64 0, .string (⟨#[]⟩ : ByteArray), .int .i64 0, .int .i64 0]) (t := 25) ?hr ?_; (case hd => rfl); (case hg => rfl); (case hr => first | (go_simp; done) | (go_simp; rfl)); intro gb212 hg w29 hbox hb; have BK212 := Aside0.mk (hbox); have GW212 := Aside0.mk ((by rw [hg]; exact (bZ_ (by repeat (first | (with_reducible first | exact HB.out | apply bA_ | apply bN_ | apply bD_ | refine bS_ ?_ GE211) | exact HB.out))) : w.heap.size ≤ gb212)); replace HB := Aside0.mk (below_step (by repeat (first | (with_reducible first | exact HB.out | apply bA_ | apply bN_ | apply bD_ | refine bS_ ?_ GE211) | exact HB.out)) hb); have GE212 := GW212; have NB211_212 := Aside0.mk ((by rw [hg]; exact Nat.ne_of_lt (blk_lt (kbW BK211)) : gb211 ≠ gb212)); have NB212_211 := Aside0.mk ((by rw [hg]; exact Nat.ne_of_gt (blk_lt (kbW BK211)) : gb212 ≠ gb211)); replace BK211 := kB BK211 hb; clear hb hbox hg; have hnb30 := NB211_212.out; have hnc30 := NB212_211.out; obtain ⟨_, _, _, _⟩ := czf2 BK211) | ((with_reducible refine gate_callee (f := 18) rfl ?_); refine goesL_ (some 8) rfl rfl Tryd.func18 (by kernel_rfl) rfl #[.agg #[.string a0_0, .int .i64 a0_1]] rfl (by (try simp only [mT_, mC_, mN_]); first | done | rfl) ?_; (with_reducible refine (lexer_cutter_rest.calls a0_0 a0_1 t213 _ A2.out).mono ?_); rintro e w32 ⟨rfl, hb⟩; refine ⟨_, rfl, ?_⟩; replace BK211 := kB BK211 hb; replace BK212 := kB BK212 hb; replace HB := Aside0.mk (below_step (by repeat (first | (with_reducible first | exact HB.out | apply bA_ | apply bN_ | apply bD_ | refine bS_ ?_ GE211 | refine bS_ ?_ GE212) | exact HB.out)) hb); (try clear hb); (try clear hb2); (try clear hk); (try clear hi)) | ((with_reducible refine gate_callee (f := 27) rfl ?_); refine goesL_ (some 9) rfl rfl Tryd.func27 (by kernel_rfl) rfl #[.string t213, .string (⟨#[62, 61]⟩ : ByteArray)] rfl (by (try simp only [mT_, mC_, mN_]); first | done | rfl) ?_; (with_reducible refine (strings_HasPrefix.calls t213 (⟨#[62, 61]⟩ : ByteArray) false _ A3.out).mono ?_); rintro e w' ⟨rfl, ⟨nd, rfl⟩⟩; refine ⟨_, rfl, ?_⟩; (try (rw [drewN_self w32]; generalize hq_ : World.drewN w32 _ = w32; have n0_ : Aside0 (w32.heap[gb211]? = some (.cells #[.string a0_0, .int .i64 a0_1] 48 (0, 0))) := ⟨by rw [← hq_]; exact (kbW BK211)⟩; have n1_ : Aside0 (w32.heap[gb212]? = some (.cells #[.int .i64 0, .string (⟨#[]⟩ : ByteArray), .int .i64 0, .int .i64 0, .string (⟨#[]⟩ : ByteArray), .int .i64 0, .int .i64 0] 25 (0, 0))) := ⟨by rw [← hq_]; exact (kbW BK212)⟩; have n2_ : Aside0 (Below w.heap.size w w32) := ⟨by rw [← hq_]; exact (by repeat (first | (with_reducible first | exact HB.out | apply bA_ | apply bN_ | apply bD_ | refine bS_ ?_ GE211 | refine bS_ ?_ GE212) | exact HB.out))⟩; clear BK211 BK212 HB hq_; have BK211 := n0_; have BK212 := n1_; have HB := n2_; clear n0_ n1_ n2_)); obtain ⟨_, _, _, _⟩ := czf2 BK211) | ((with_reducible refine gate_callee (f := 29) rfl ?_); refine goesL_ (some 12) rfl rfl Tryd.func29 (by kernel_rfl) rfl #[.agg #[.string a0_0, .int .i64 a0_1], .int .i64 0] rfl (by (try simp only [mT_, mC_, mN_]); first | done | rfl) ?_; (with_reducible refine (lexer_cutter_peek.calls a0_0 a0_1 0 t224 _ A24.out).mono ?_); rintro e w34 ⟨rfl, hb⟩; refine ⟨_, rfl, ?_⟩; replace BK211 := kB BK211 hb; replace BK212 := kB BK212 hb; replace HB := Aside0.mk (below_step (by repeat (first | (with_reducible first | exact HB.out | apply bA_ | apply bN_ | apply bD_ | refine bS_ ?_ GE211 | refine bS_ ?_ GE212) | exact HB.out)) hb); (try clear hb); (try clear hb2); (try clear hk); (try clear hi)) | ((with_reducible refine gate_callee (f := 45) rfl ?_); refine goesL_ (some 13) rfl rfl Tryd.func45 (by kernel_rfl) rfl #[.string (⟨#[61, 60, 40, 41, 44, 42]⟩ : ByteArray), .int .u8 t224] rfl (by (try simp only [mT_, mC_, mN_]); first | done | rfl) ?_; (with_reducible refine (strings_IndexByte.calls (⟨#[61, 60, 40, 41, 44, 42]⟩ : ByteArray) t224 t225 _ A25.out).mono ?_); rintro e w' ⟨rfl, ⟨nd, rfl⟩⟩; refine ⟨_, rfl, ?_⟩; (try (rw [drewN_self w34]; generalize hq_ : World.drewN w34 _ = w34; have n0_ : Aside0 (w34.heap[gb211]? = some (.cells #[.string a0_0, .int .i64 a0_1] 48 (0, 0))) := ⟨by rw [← hq_]; exact (kbW BK211)⟩; have n1_ : Aside0 (w34.heap[gb212]? = some (.cells #[.int .i64 0, .string (⟨#[]⟩ : ByteArray), .int .i64 0, .int .i64 0, .string (⟨#[]⟩ : ByteArray), .int .i64 0, .int .i64 0] 25 (0, 0))) := ⟨by rw [← hq_]; exact (kbW BK212)⟩; have n2_ : Aside0 (Below w.heap.size w w34) := ⟨by rw [← hq_]; exact (by repeat (first | (with_reducible first | exact HB.out | apply bA_ | apply bN_ | apply bD_ | refine bS_ ?_ GE211 | refine bS_ ?_ GE212) | exact HB.out))⟩; clear BK211 BK212 HB hq_; have BK211 := n0_; have BK212 := n1_; have HB := n2_; clear n0_ n1_ n2_)); obtain ⟨_, _, _, _⟩ := czf2 BK211) | ((with_reducible refine gate_callee (f := 44) rfl ?_); refine goesL_ (some 17) rfl rfl Tryd.func44 (by kernel_rfl) rfl #[.int .i64 a0_1] rfl (by (try simp only [mT_, mC_, mN_]); first | done | rfl) ?_; (with_reducible refine (lexer_wrong.calls a0_1 t226 t227 t228 t229 t230 t231 t232 t233 _ A27.out).mono ?_); rintro e w36 ⟨rfl, hb⟩; refine ⟨_, rfl, ?_⟩; replace BK211 := kB BK211 hb; replace BK212 := kB BK212 hb; replace HB := Aside0.mk (below_step (by repeat (first | (with_reducible first | exact HB.out | apply bA_ | apply bN_ | apply bD_ | refine bS_ ?_ GE211 | refine bS_ ?_ GE212) | exact HB.out)) hb); (try clear hb); (try clear hb2); (try clear hk); (try clear hi); obtain ⟨_, _, _, _, _, _, _, _, _, _, _, _, _, _⟩ := czf7 BK212))
   refine bodyPost_ret (results_ct rfl _ _ gb212 25 #[.int .i64 t226, .string t227, .int .i64 t228, .int .i64 t229, .string t230, .int .i64 t231, .int .i64 t232] (0, 0) _ rfl (by (with_reducible repeat (first | refine blk_drewN ?_ _ | refine blk_drew ?_ | refine blk_alloc ?_ _)); exact bp7 (kbW BK212)) Tryd.underlying25 rfl (by kernel_rfl)) rfl ?_
   exact ⟨by first | rfl | (simp <;> rfl) | (simp [*] <;> rfl), by repeat (first | (with_reducible first | exact HB.out | apply bA_ | apply bN_ | apply bD_ | refine bS_ ?_ GE211 | refine bS_ ?_ GE212) | exact HB.out)⟩
  ·
   rw [if_neg c26] at H
   have c26b0 : decide (t225 < 0) = false := decide_eq_false c26
   clear c26
   replace H := Option.bind_eq_some_iff.mp H
   obtain ⟨⟨t234, t235, t236, t237, t238, t239, t240⟩, A380, H⟩ := H
   have A38 := Aside0.mk A380
   clear A380
   replace H := Option.bind_eq_some_iff.mp H
   obtain ⟨t242, A390, H⟩ := H
   have A39 := Aside0.mk A390
   clear A390
   by_cases c40 : 0 ≤ 1
   rotate_left
   ·
    rw [if_neg c40] at H
    exact absurd H (by simp)
   rw [if_pos c40] at H
   have c40b0 := eq_true c40
   have c40b1 : decide (0 ≤ 1) = true := decide_eq_true c40
   clear c40
   by_cases c41 : 1 ≤ (t242.size : Int)
   rotate_left
   ·
    rw [if_neg c41] at H
    exact absurd H (by simp)
   rw [if_pos c41] at H
   have c41b0 := eq_true c41
   have c41b1 : decide (1 ≤ (t242.size : Int)) = true := decide_eq_true c41
   clear c41
   simp only [Option.some.injEq, Prod.mk.injEq] at H
   obtain ⟨rfl, rfl, rfl, rfl, rfl, rfl, rfl, rfl⟩ := H
   go_enter Tryd.func35, Tryd.ntmps35
   go_wp2_with (first | ((with_reducible refine gate_dst (N := 1) rfl ?_); refine box_event ?hg (N := 1) ?hd (cs := #[.string a0_0, .int .i64 a0_1]) (t := 48) ?hr ?_; (case hd => rfl); (case hg => rfl); (case hr => first | (go_simp; done) | (go_simp; rfl)); intro gb211 hg w42 hbox hb; have BK211 := Aside0.mk (hbox); have GW211 := Aside0.mk ((by rw [hg]; exact (bZ_ (kwW HB)) : w.heap.size ≤ gb211)); replace HB := Aside0.mk (below_step (kwW HB) hb); have GE211 := GW211; clear hb hbox hg) | ((with_reducible refine gate_dst (N := 2) rfl ?_); refine box_event ?hg (N := 2) ?hd (cs := #[.int .i64 0, .string (⟨#[]⟩ : ByteArray), .int .i64 0, .int .i64 0, .string (⟨#[]⟩ : ByteArray), .int .i64 0, .int .i64 0]) (t := 25) ?hr ?_; (case hd => rfl); (case hg => rfl); (case hr => first | (go_simp; done) | (go_simp; rfl)); intro gb212 hg w43 hbox hb; have BK212 := Aside0.mk (hbox); have GW212 := Aside0.mk ((by rw [hg]; exact (bZ_ (by repeat (first | (with_reducible first | exact HB.out | apply bA_ | apply bN_ | apply bD_ | refine bS_ ?_ GE211) | exact HB.out))) : w.heap.size ≤ gb212)); replace HB := Aside0.mk (below_step (by repeat (first | (with_reducible first | exact HB.out | apply bA_ | apply bN_ | apply bD_ | refine bS_ ?_ GE211) | exact HB.out)) hb); have GE212 := GW212; have NB211_212 := Aside0.mk ((by rw [hg]; exact Nat.ne_of_lt (blk_lt (kbW BK211)) : gb211 ≠ gb212)); have NB212_211 := Aside0.mk ((by rw [hg]; exact Nat.ne_of_gt (blk_lt (kbW BK211)) : gb212 ≠ gb211)); replace BK211 := kB BK211 hb; clear hb hbox hg; have hnb44 := NB211_212.out; have hnc44 := NB212_211.out; obtain ⟨_, _, _, _⟩ := czf2 BK211) | ((with_reducible refine gate_callee (f := 18) rfl ?_); refine goesL_ (some 8) rfl rfl Tryd.func18 (by kernel_rfl) rfl #[.agg #[.string a0_0, .int .i64 a0_1]] rfl (by (try simp only [mT_, mC_, mN_]); first | done | rfl) ?_; (with_reducible refine (lexer_cutter_rest.calls a0_0 a0_1 t213 _ A2.out).mono ?_); rintro e w46 ⟨rfl, hb⟩; refine ⟨_, rfl, ?_⟩; replace BK211 := kB BK211 hb; replace BK212 := kB BK212 hb; replace HB := Aside0.mk (below_step (by repeat (first | (with_reducible first | exact HB.out | apply bA_ | apply bN_ | apply bD_ | refine bS_ ?_ GE211 | refine bS_ ?_ GE212) | exact HB.out)) hb); (try clear hb); (try clear hb2); (try clear hk); (try clear hi)) | ((with_reducible refine gate_callee (f := 27) rfl ?_); refine goesL_ (some 9) rfl rfl Tryd.func27 (by kernel_rfl) rfl #[.string t213, .string (⟨#[62, 61]⟩ : ByteArray)] rfl (by (try simp only [mT_, mC_, mN_]); first | done | rfl) ?_; (with_reducible refine (strings_HasPrefix.calls t213 (⟨#[62, 61]⟩ : ByteArray) false _ A3.out).mono ?_); rintro e w' ⟨rfl, ⟨nd, rfl⟩⟩; refine ⟨_, rfl, ?_⟩; (try (rw [drewN_self w46]; generalize hq_ : World.drewN w46 _ = w46; have n0_ : Aside0 (w46.heap[gb211]? = some (.cells #[.string a0_0, .int .i64 a0_1] 48 (0, 0))) := ⟨by rw [← hq_]; exact (kbW BK211)⟩; have n1_ : Aside0 (w46.heap[gb212]? = some (.cells #[.int .i64 0, .string (⟨#[]⟩ : ByteArray), .int .i64 0, .int .i64 0, .string (⟨#[]⟩ : ByteArray), .int .i64 0, .int .i64 0] 25 (0, 0))) := ⟨by rw [← hq_]; exact (kbW BK212)⟩; have n2_ : Aside0 (Below w.heap.size w w46) := ⟨by rw [← hq_]; exact (by repeat (first | (with_reducible first | exact HB.out | apply bA_ | apply bN_ | apply bD_ | refine bS_ ?_ GE211 | refine bS_ ?_ GE212) | exact HB.out))⟩; clear BK211 BK212 HB hq_; have BK211 := n0_; have BK212 := n1_; have HB := n2_; clear n0_ n1_ n2_)); obtain ⟨_, _, _, _⟩ := czf2 BK211) | ((with_reducible refine gate_callee (f := 29) rfl ?_); refine goesL_ (some 12) rfl rfl Tryd.func29 (by kernel_rfl) rfl #[.agg #[.string a0_0, .int .i64 a0_1], .int .i64 0] rfl (by (try simp only [mT_, mC_, mN_]); first | done | rfl) ?_; (with_reducible refine (lexer_cutter_peek.calls a0_0 a0_1 0 t224 _ A24.out).mono ?_); rintro e w48 ⟨rfl, hb⟩; refine ⟨_, rfl, ?_⟩; replace BK211 := kB BK211 hb; replace BK212 := kB BK212 hb; replace HB := Aside0.mk (below_step (by repeat (first | (with_reducible first | exact HB.out | apply bA_ | apply bN_ | apply bD_ | refine bS_ ?_ GE211 | refine bS_ ?_ GE212) | exact HB.out)) hb); (try clear hb); (try clear hb2); (try clear hk); (try clear hi)) | ((with_reducible refine gate_callee (f := 45) rfl ?_); refine goesL_ (some 13) rfl rfl Tryd.func45 (by kernel_rfl) rfl #[.string (⟨#[61, 60, 40, 41, 44, 42]⟩ : ByteArray), .int .u8 t224] rfl (by (try simp only [mT_, mC_, mN_]); first | done | rfl) ?_; (with_reducible refine (strings_IndexByte.calls (⟨#[61, 60, 40, 41, 44, 42]⟩ : ByteArray) t224 t225 _ A25.out).mono ?_); rintro e w' ⟨rfl, ⟨nd, rfl⟩⟩; refine ⟨_, rfl, ?_⟩; (try (rw [drewN_self w48]; generalize hq_ : World.drewN w48 _ = w48; have n0_ : Aside0 (w48.heap[gb211]? = some (.cells #[.string a0_0, .int .i64 a0_1] 48 (0, 0))) := ⟨by rw [← hq_]; exact (kbW BK211)⟩; have n1_ : Aside0 (w48.heap[gb212]? = some (.cells #[.int .i64 0, .string (⟨#[]⟩ : ByteArray), .int .i64 0, .int .i64 0, .string (⟨#[]⟩ : ByteArray), .int .i64 0, .int .i64 0] 25 (0, 0))) := ⟨by rw [← hq_]; exact (kbW BK212)⟩; have n2_ : Aside0 (Below w.heap.size w w48) := ⟨by rw [← hq_]; exact (by repeat (first | (with_reducible first | exact HB.out | apply bA_ | apply bN_ | apply bD_ | refine bS_ ?_ GE211 | refine bS_ ?_ GE212) | exact HB.out))⟩; clear BK211 BK212 HB hq_; have BK211 := n0_; have BK212 := n1_; have HB := n2_; clear n0_ n1_ n2_)); obtain ⟨_, _, _, _⟩ := czf2 BK211) | ((with_reducible refine gate_callee (f := 19) rfl ?_); refine goesL_ (some 22) rfl rfl Tryd.func19 (by kernel_rfl) rfl #[.agg #[.string a0_0, .int .i64 a0_1], .int .i64 1, .int .i64 1] rfl (by (try simp only [mT_, mC_, mN_]); first | done | rfl) ?_; (with_reducible refine (lexer_cutter_token.calls a0_0 a0_1 1 1 t234 t235 t236 t237 t238 t239 t240 _ A38.out).mono ?_); rintro e w50 ⟨rfl, hb⟩; refine ⟨_, rfl, ?_⟩; replace BK211 := kB BK211 hb; replace BK212 := kB BK212 hb; replace HB := Aside0.mk (below_step (by repeat (first | (with_reducible first | exact HB.out | apply bA_ | apply bN_ | apply bD_ | refine bS_ ?_ GE211 | refine bS_ ?_ GE212) | exact HB.out)) hb); (try clear hb); (try clear hb2); (try clear hk); (try clear hi)) | ((with_reducible refine gate_dst (N := 5) rfl ?_); refine box_event ?hg (N := 5) ?hd (cs := #[.int .i64 0, .string (⟨#[]⟩ : ByteArray), .int .i64 0, .int .i64 0, .string (⟨#[]⟩ : ByteArray), .int .i64 0, .int .i64 0]) (t := 25) ?hr ?_; (case hd => rfl); (case hg => rfl); (case hr => first | (go_simp; done) | (go_simp; rfl)); intro gb241 hg w51 hbox hb; have BK241 := Aside0.mk (hbox); have GW241 := Aside0.mk ((by rw [hg]; exact (bZ_ (by repeat (first | (with_reducible first | exact HB.out | apply bA_ | apply bN_ | apply bD_ | refine bS_ ?_ GE211 | refine bS_ ?_ GE212) | exact HB.out))) : w.heap.size ≤ gb241)); replace HB := Aside0.mk (below_step (by repeat (first | (with_reducible first | exact HB.out | apply bA_ | apply bN_ | apply bD_ | refine bS_ ?_ GE211 | refine bS_ ?_ GE212) | exact HB.out)) hb); have GE241 := GW241; have NB211_241 := Aside0.mk ((by rw [hg]; exact Nat.ne_of_lt (blk_lt (kbW BK211)) : gb211 ≠ gb241)); have NB241_211 := Aside0.mk ((by rw [hg]; exact Nat.ne_of_gt (blk_lt (kbW BK211)) : gb241 ≠ gb211)); replace BK211 := kB BK211 hb; have NB212_241 := Aside0.mk ((by rw [hg]; exact Nat.ne_of_lt (blk_lt (kbW BK212)) : gb212 ≠ gb241)); have NB241_212 := Aside0.mk ((by rw [hg]; exact Nat.ne_of_gt (blk_lt (kbW BK212)) : gb241 ≠ gb212)); replace BK212 := kB BK212 hb; clear hb hbox hg; have hnb52 := NB241_211.out; have hnc52 := NB211_241.out; have hnb53 := NB241_212.out; have hnc53 := NB212_241.out; obtain ⟨_, _, _, _, _, _, _, _, _, _, _, _, _, _⟩ := czf7 BK241; obtain ⟨_, _, _, _⟩ := czf2 BK211) | ((with_reducible refine gate_callee (f := 18) rfl ?_); refine goesL_ (some 24) rfl rfl Tryd.func18 (by kernel_rfl) rfl #[.agg #[.string a0_0, .int .i64 a0_1]] rfl (by (try simp only [mT_, mC_, mN_]); first | done | rfl) ?_; (with_reducible refine (lexer_cutter_rest.calls a0_0 a0_1 t242 _ A39.out).mono ?_); rintro e w56 ⟨rfl, hb⟩; refine ⟨_, rfl, ?_⟩; replace BK211 := kBf BK211 (fun h_ => by (with_reducible repeat (first | refine blk_drewN ?_ _ | refine blk_drew ?_ | refine blk_alloc ?_ _)); refine bf7 ?_ NB211_241.out; (with_reducible repeat (first | refine blk_drewN ?_ _ | refine blk_drew ?_ | refine blk_alloc ?_ _)); exact h_) hb; replace BK212 := kBf BK212 (fun h_ => by (with_reducible repeat (first | refine blk_drewN ?_ _ | refine blk_drew ?_ | refine blk_alloc ?_ _)); refine bf7 ?_ NB212_241.out; (with_reducible repeat (first | refine blk_drewN ?_ _ | refine blk_drew ?_ | refine blk_alloc ?_ _)); exact h_) hb; replace BK241 := Aside0.mk (blk_below (g := gb241) (o := .cells #[.int .i64 t234, .string t235, .int .i64 t236, .int .i64 t237, .string t238, .int .i64 t239, .int .i64 t240] 25 (0, 0)) (by (with_reducible repeat (first | refine blk_drewN ?_ _ | refine blk_drew ?_ | refine blk_alloc ?_ _)); exact bp7 (kbW BK241)) hb); replace HB := Aside0.mk (below_step (by repeat (first | (with_reducible first | exact HB.out | apply bA_ | apply bN_ | apply bD_ | refine bS_ ?_ GE211 | refine bS_ ?_ GE212 | refine bS_ ?_ GE241) | exact HB.out)) hb); (try clear hb); (try clear hb2); (try clear hk); (try clear hi); obtain ⟨_, _, _, _, _, _, _, _, _, _, _, _, _, _⟩ := czf7 BK241; obtain ⟨_, _, _, _, _, _, _, _, _, _, _, _, _, _⟩ := czf7 BK212))
   refine bodyPost_ret (results_ct rfl _ _ gb212 25 #[.int .i64 t234, .string (t242.extract 0 1), .int .i64 t236, .int .i64 t237, .string t238, .int .i64 t239, .int .i64 t240] (0, 0) _ rfl (by (with_reducible repeat (first | refine blk_drewN ?_ _ | refine blk_drew ?_ | refine blk_alloc ?_ _)); apply bp7; (with_reducible repeat (first | refine blk_drewN ?_ _ | refine blk_drew ?_ | refine blk_alloc ?_ _)); refine blk_far ?_ NB212_241.out _; (with_reducible repeat (first | refine blk_drewN ?_ _ | refine blk_drew ?_ | refine blk_alloc ?_ _)); exact BK212.out) Tryd.underlying25 rfl (by kernel_rfl)) rfl ?_
   exact ⟨by first | rfl | (simp <;> rfl) | (simp [*] <;> rfl), by repeat (first | (with_reducible first | exact HB.out | apply bA_ | apply bN_ | apply bD_ | refine bS_ ?_ GE211 | refine bS_ ?_ GE212 | refine bS_ ?_ GE241) | exact HB.out)⟩
end Go.Proofs.YtfaogccfiklinaaDoor.Q
