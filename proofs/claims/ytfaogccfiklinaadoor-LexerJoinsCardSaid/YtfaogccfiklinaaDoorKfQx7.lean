/- Lemmas for this claim's walk: no condition of their own. -/
import Derived.Test.YtfaogccfiklinaaDoorKfSq
import Derived.Test.YtfaogccfiklinaaDoorKfBy
import Derived.Test.YtfaogccfiklinaaDoorKfSpl
import Derived.Test.YtfaogccfiklinaaDoorKfQx0
namespace Go.Proofs.YtfaogccfiklinaaDoor.Q
open Go.RowKit Go.Proofs.YtfaogccfiklinaaDoorW.PrintWords Go.Proofs.YtfaogccfiklinaaDoorW.PrintLast Go.Proofs.YtfaogccfiklinaaDoorW.PrintMore
attribute [local go_sem] max2_int min2_int max_two min_two max_three min_three max_four min_four
set_option linter.unusedVariables false
set_option linter.unusedSimpArgs false
def lexer_cutter_rest.f (a0_0 : ByteArray) (a0_1 : Int) : Option (ByteArray) := if 0 ≤ a0_1 then (if a0_1 ≤ (a0_0.size : Int) then (some (a0_0.extract (a0_1 : Int).toNat a0_0.size)) else (none)) else (none)
set_option maxHeartbeats 8000000 in
set_option maxRecDepth 100000 in
theorem lexer_cutter_rest.calls (a0_0 : ByteArray) (a0_1 : Int) (r : ByteArray) (w : World) (h : lexer_cutter_rest.f a0_0 a0_1 = some r) :
  Calls Tryd.prog 18 #[.agg #[.string a0_0, .int .i64 a0_1]] w fun e w' => e = .returned (.string r) ∧ Below w.heap.size w w' := by
 have hu48 := Tryd.underlying48
 have HB := Aside0.mk (Below.refl w.heap.size w)
 have H : (if 0 ≤ a0_1 then (if a0_1 ≤ (a0_0.size : Int) then (some (a0_0.extract (a0_1 : Int).toNat a0_0.size)) else (none)) else (none)) = some r := h
 clear h
 by_cases c2 : 0 ≤ a0_1
 ·
  rw [if_pos c2] at H
  have c2b0 := eq_true c2
  have c2b1 : decide (0 ≤ a0_1) = true := decide_eq_true c2
  clear c2
  by_cases c3 : a0_1 ≤ (a0_0.size : Int)
  ·
   rw [if_pos c3] at H
   have c3b0 := eq_true c3
   have c3b1 : decide (a0_1 ≤ (a0_0.size : Int)) = true := decide_eq_true c3
   clear c3
   obtain rfl := Option.some.inj H
   go_enter Tryd.func18, Tryd.ntmps18
   go_wp2_with (first | ((with_reducible refine gate_dst (N := 1) rfl ?_); refine box_event ?hg (N := 1) ?hd (cs := #[.string a0_0, .int .i64 a0_1]) (t := 48) ?hr ?_; (case hd => rfl); (case hg => rfl); (case hr => first | (go_simp; done) | (go_simp; rfl)); intro gb183 hg w4 hbox hb; have BK183 := Aside0.mk (hbox); have GW183 := Aside0.mk ((by rw [hg]; exact (bZ_ (kwW HB)) : w.heap.size ≤ gb183)); replace HB := Aside0.mk (below_step (kwW HB) hb); have GE183 := GW183; clear hb hbox hg; obtain ⟨_, _, _, _⟩ := czf2 BK183))
   go_ret
   exact ⟨by first | rfl | (simp <;> rfl) | (simp [*] <;> rfl), by repeat (first | (with_reducible first | exact HB.out | apply bA_ | apply bN_ | apply bD_ | refine bS_ ?_ GE183) | exact HB.out)⟩
  ·
   rw [if_neg c3] at H
   exact absurd H (by simp)
 ·
  rw [if_neg c2] at H
  exact absurd H (by simp)
def lexer_cutter_token.f (a0_0 : ByteArray) (a0_1 : Int) (a1 : Int) (a2 : Int) : Option (Int × ByteArray × Int × Int × ByteArray × Int × Int) := some (a1, (⟨#[]⟩ : ByteArray), 0, 0, (⟨#[]⟩ : ByteArray), a0_1, wrap64 (a0_1 + a2))
set_option maxHeartbeats 8000000 in
set_option maxRecDepth 100000 in
theorem lexer_cutter_token.calls (a0_0 : ByteArray) (a0_1 : Int) (a1 : Int) (a2 : Int) (r1 : Int) (r2 : ByteArray) (r3 : Int) (r4 : Int) (r5 : ByteArray) (r6 : Int) (r7 : Int) (w : World) (h : lexer_cutter_token.f a0_0 a0_1 a1 a2 = some (r1, r2, r3, r4, r5, r6, r7)) :
  Calls Tryd.prog 19 #[.agg #[.string a0_0, .int .i64 a0_1], .int .i64 a1, .int .i64 a2] w fun e w' => e = .returned (.agg #[.int .i64 r1, .string r2, .int .i64 r3, .int .i64 r4, .string r5, .int .i64 r6, .int .i64 r7]) ∧ Below w.heap.size w w' := by
 have hu48 := Tryd.underlying48
 have hu25 := Tryd.underlying25
 have HB := Aside0.mk (Below.refl w.heap.size w)
 have H : (some (a1, (⟨#[]⟩ : ByteArray), 0, 0, (⟨#[]⟩ : ByteArray), a0_1, wrap64 (a0_1 + a2))) = some (r1, r2, r3, r4, r5, r6, r7) := h
 clear h
 simp only [Option.some.injEq, Prod.mk.injEq] at H
 obtain ⟨rfl, rfl, rfl, rfl, rfl, rfl, rfl⟩ := H
 go_enter Tryd.func19, Tryd.ntmps19
 go_wp2_with (first | ((with_reducible refine gate_dst (N := 3) rfl ?_); refine box_event ?hg (N := 3) ?hd (cs := #[.string a0_0, .int .i64 a0_1]) (t := 48) ?hr ?_; (case hd => rfl); (case hg => rfl); (case hr => first | (go_simp; done) | (go_simp; rfl)); intro gb184 hg w4 hbox hb; have BK184 := Aside0.mk (hbox); have GW184 := Aside0.mk ((by rw [hg]; exact (bZ_ (kwW HB)) : w.heap.size ≤ gb184)); replace HB := Aside0.mk (below_step (kwW HB) hb); have GE184 := GW184; clear hb hbox hg) | ((with_reducible refine gate_dst (N := 6) rfl ?_); refine box_event ?hg (N := 6) ?hd (cs := #[.int .i64 0, .string (⟨#[]⟩ : ByteArray), .int .i64 0, .int .i64 0, .string (⟨#[]⟩ : ByteArray), .int .i64 0, .int .i64 0]) (t := 25) ?hr ?_; (case hd => rfl); (case hg => rfl); (case hr => first | (go_simp; done) | (go_simp; rfl)); intro gb185 hg w5 hbox hb; have BK185 := Aside0.mk (hbox); have GW185 := Aside0.mk ((by rw [hg]; exact (bZ_ (by repeat (first | (with_reducible first | exact HB.out | apply bA_ | apply bN_ | apply bD_ | refine bS_ ?_ GE184) | exact HB.out))) : w.heap.size ≤ gb185)); replace HB := Aside0.mk (below_step (by repeat (first | (with_reducible first | exact HB.out | apply bA_ | apply bN_ | apply bD_ | refine bS_ ?_ GE184) | exact HB.out)) hb); have GE185 := GW185; have NB184_185 := Aside0.mk ((by rw [hg]; exact Nat.ne_of_lt (blk_lt (kbW BK184)) : gb184 ≠ gb185)); have NB185_184 := Aside0.mk ((by rw [hg]; exact Nat.ne_of_gt (blk_lt (kbW BK184)) : gb185 ≠ gb184)); replace BK184 := kB BK184 hb; clear hb hbox hg; have hnb6 := NB184_185.out; have hnc6 := NB185_184.out; obtain ⟨_, _, _, _⟩ := czf2 BK184; obtain ⟨_, _, _, _, _, _, _, _, _, _, _, _, _, _⟩ := czf7 BK185))
 refine bodyPost_ret (results_cell_row rfl _ _ gb185 25 #[.int .i64 a1, .string (⟨#[]⟩ : ByteArray), .int .i64 0, .int .i64 0, .string (⟨#[]⟩ : ByteArray), .int .i64 a0_1, .int .i64 (wrap64 (a0_1 + a2))] (0, 0) _ rfl (by (with_reducible repeat (first | refine blk_drewN ?_ _ | refine blk_drew ?_ | refine blk_alloc ?_ _)); exact bp7 (kbW BK185)) Tryd.underlying25 rfl (by kernel_rfl)) rfl ?_
 exact ⟨by first | rfl | (simp <;> rfl) | (simp [*] <;> rfl), by repeat (first | (with_reducible first | exact HB.out | apply bA_ | apply bN_ | apply bD_ | refine bS_ ?_ GE184 | refine bS_ ?_ GE185) | exact HB.out)⟩
def casG (lo hi : Int) (c : Int) : Int := if lo ≤ c ∧ c ≤ hi then Go.bits .xor .u8 c 32 else c
def lexer_cased.f (a0 : ByteArray) (lo hi : Int) : Option (ByteArray) := if a0.size ≤ 9223372036854775807 then some (By.mapB (casG lo hi) a0) else none
set_option maxHeartbeats 1000000 in
set_option maxRecDepth 100000 in
theorem lexer_cased.calls (a0 : ByteArray) (lo hi : Int) (r : ByteArray) (w : World) (h : lexer_cased.f a0 lo hi = some r) :
  Calls Tryd.prog 41 #[.string a0, .int .u8 lo, .int .u8 hi] w fun e w' => e = .returned (.string r) ∧ Below w.heap.size w w' := by
 unfold lexer_cased.f at h
 split at h
 case isFalse => cases h
 rename_i hs
 obtain rfl := Option.some.inj h
 clear h
 have kb := fun W => print_bytes (P := Tryd.prog) 9 58 5 Tryd.underlying9 Tryd.underlying58 Tryd.underlying5 a0 W
 have hb0 := bytes_below (Below.refl w.heap.size w) (Nat.le_refl _) 5 a0
 have hR := By.RowB.made w 5 a0
 have hlt : w.heap.size < (Lib.bytesWorld w 5 a0).heap.size := by rw [Lib.bytesWorld_size]; omega
 obtain ⟨cap, hcap⟩ : ∃ c, grownCap w a0.size 0 5 = c := ⟨_, rfl⟩
 have kb0 := kb w
 rw [hcap] at kb0
 obtain ⟨w1, hw1⟩ : ∃ w1, Lib.bytesWorld w 5 a0 = w1 := ⟨_, rfl⟩
 rw [hw1] at kb0 hb0 hR hlt
 have hL := bytesOf_length a0
 obtain ⟨l, hl⟩ : ∃ l, bytesOf a0 = l := ⟨_, rfl⟩
 have hbt : ∀ i, i < a0.size → l[i]? = some (bt a0 i) := fun i hi => by rw [← hl]; exact By.bytesOf_get' a0 i hi
 rw [hl] at hR hL
 have HBT := Lib.hid hbt
 have HL := Lib.hid hL
 have HR := Lib.hid hR
 have HB0 := Lib.hid hb0
 have HLT := Lib.hid hlt
 have HE := Lib.hid (show By.mapB (casG lo hi) a0 = strOfNums (l.map (casG lo hi)) by unfold By.mapB; rw [hl])
 clear kb hbt hL hR hb0 hlt hl hw1 hcap
 go_enter Tryd.func41, Tryd.ntmps41
 go_wp2
 clear kb0
 go_loopg [13] a0.size (fun g1 v13 wr => ∃ i : Nat, v13 = .int .i64 i ∧ i ≤ a0.size ∧ a0.size - i ≤ g1 ∧ Aside0 (By.RowB wr w.heap.size (By.upto (casG lo hi) l i)) ∧ Aside0 (Below w.heap.size w wr) ∧ Aside0 (w.heap.size < wr.heap.size))
 case atStart => exact ⟨0, rfl, Nat.zero_le _, by omega, ⟨by rw [By.upto_zero]; exact HR.out⟩, ⟨HB0.out⟩, ⟨HLT.out⟩⟩
 case round =>
  obtain ⟨i, rfl, hin, hg, HRW, HBW, HLW⟩ := hrel
  by_cases h : i < a0.size
  rotate_left
  ·
   have hz : ¬ (i : Int) < (a0.size : Int) := by omega
   obtain rfl : i = a0.size := by omega
   have hR2 := HRW.out
   have e1 : By.upto (casG lo hi) l a0.size = l.map (casG lo hi) := by rw [← HL.out]; exact By.upto_all _ _
   rw [e1] at hR2
   have hcv := hR2.string (P := Tryd.prog) 58 5 9 Tryd.underlying58 Tryd.underlying5 Tryd.underlying9 cap
   rw [List.length_map, HL.out] at hcv
   clear hR2 e1
   go_wp2
   go_ret
   exact ⟨By.ret_s_ HE.out.symm, HBW.out⟩
  have hz : (i : Int) < (a0.size : Int) := by omega
  obtain ⟨y, hy⟩ : ∃ y, bt a0 i = y := ⟨_, rfl⟩
  have hy0 := bt_range a0 i
  have hli := HBT.out i h
  rw [hy] at hy0 hli
  obtain ⟨hy1, hy2⟩ := hy0
  have hc := HRW.out.cell i y (By.upto_get (casG lo hi) l i y hli)
  have hf := HRW.out.free i (by rw [By.upto_length, HL.out]; exact h)
  have HLI := Lib.hid hli
  clear hli hy
  by_cases h1 : lo ≤ y
  rotate_left
  ·
   have HG := Lib.hid (show casG lo hi y = y by unfold casG; rw [if_neg (by omega)])
   go_wp2
   go_roundg (a0.size - (i + 1))
   case measure => omega
   case rel => exact ⟨i + 1, by go_num, by omega, Nat.le_refl _, ⟨by rw [By.upto_same (casG lo hi) l i y HLI.out HG.out]; exact HRW.out⟩, HBW, HLW⟩
  by_cases h2 : y ≤ hi
  rotate_left
  ·
   have HG := Lib.hid (show casG lo hi y = y by unfold casG; rw [if_neg (by omega)])
   go_wp2
   go_roundg (a0.size - (i + 1))
   case measure => omega
   case rel => exact ⟨i + 1, by go_num, by omega, Nat.le_refl _, ⟨by rw [By.upto_same (casG lo hi) l i y HLI.out HG.out]; exact HRW.out⟩, HBW, HLW⟩
  have HG := Lib.hid (show casG lo hi y = Go.bits .xor .u8 y 32 by unfold casG; rw [if_pos ⟨h1, h2⟩])
  go_wp2
  go_roundg (a0.size - (i + 1))
  case measure => omega
  case rel => exact ⟨i + 1, by go_num, by omega, Nat.le_refl _, ⟨by
   have hs2 := HRW.out.set i (Go.bits .xor .u8 y 32) (by rw [By.upto_length, HL.out]; exact h)
   rw [By.upto_snoc (casG lo hi) l i y HLI.out, HG.out]
   exact hs2⟩, ⟨HBW.out.setCell (p := ⟨w.heap.size, i, none⟩) (Nat.le_refl _) _⟩, ⟨by simpa using HLW.out⟩⟩
def vocab : ByteArray := ⟨#[67, 82, 69, 65, 84, 69, 32, 84, 65, 66, 76, 69, 32, 80, 82, 73, 77, 65, 82, 89, 32, 75, 69, 89, 32, 73, 78, 83, 69, 82, 84, 32, 73, 78, 84, 79, 32, 86, 65, 76, 85, 69, 83, 32, 85, 83, 73, 78, 71, 32, 84, 73, 77, 69, 83, 84, 65, 77, 80, 32, 67, 79, 78, 83, 73, 83, 84, 69, 78, 67, 89, 32, 85, 80, 68, 65, 84, 69, 32, 83, 69, 84, 32, 87, 72, 69, 82, 69, 32, 65, 78, 68, 32, 68, 69, 76, 69, 84, 69, 32, 70, 82, 79, 77, 32, 83, 69, 76, 69, 67, 84, 32, 76, 73, 77, 73, 84, 32, 79, 78, 69, 32, 81, 85, 79, 82, 85, 77, 32, 65, 76, 76, 32, 84, 69, 88, 84, 32, 73, 78, 84]⟩
def upperB (s : ByteArray) : ByteArray := By.mapB (casG 97 122) s
def wordB (s : ByteArray) : Bool := (Spl.split vocab).any fun w => w.toList == (upperB s).toList
def lexer_Word.f (a0 : ByteArray) : Option Bool := if a0.size ≤ 9223372036854775807 then some (wordB a0) else none
theorem ret_wb_ {a b : Bool} (h : a = b) : Ending.returned (.bool a) = .returned (.bool b) := by rw [h]
section
open Go.Proofs.YtfaogccfiklinaaDoor.Rf
attribute [local go_sem] Oper.semAt_some
set_option maxHeartbeats 2000000 in
set_option maxRecDepth 100000 in
theorem lexer_Word.calls (a0 : ByteArray) (r : Bool) (w : World) (h : lexer_Word.f a0 = some r) :
  Calls Tryd.prog 23 #[.string a0] w fun e w' => e = .returned (.bool r) ∧ Below w.heap.size w w' := by
 unfold lexer_Word.f at h
 split at h
 case isFalse => cases h
 rename_i hs
 obtain rfl := Option.some.inj h
 clear h
 obtain ⟨up, hup⟩ : ∃ up, upperB a0 = up := ⟨_, rfl⟩
 have hC := fun W => callsIn_wide (n := 3) |>.2 (lexer_cased.calls a0 97 122 up W (by unfold lexer_cased.f; rw [if_pos hs, ← hup]; rfl))
 have HC := Lib.hid hC
 have HS := Lib.hid (fun W => callsIn_wide (n := 3) |>.2 (Spl.seq_any vocab W))
 have HR := Lib.hid (show wordB a0 = (Spl.split vocab).any fun w => w.toList == up.toList by unfold wordB; rw [hup])
 clear hC hs hup
 refine (callsIn_wide (n := 4)).1 ?_
 refine callsIn_of_wp_marks Tryd.func23 rfl trivial ?_ rfl
 simp only [Tryd.ntmps23, List.size_toArray, List.length_cons, List.length_nil, Nat.reduceAdd, Nat.reduceSub, Array.replicate_succ, Array.replicate_zero, List.push_toArray, List.append_toArray, List.nil_append, List.cons_append]
 gi_wp2_with (first | (refine ⟨trivial, ?_⟩; gi_at_call 41; refine (HC.out _).mono ?_; rintro e w1 ⟨rfl, hb1⟩) | (refine ⟨trivial, ?_⟩; gi_at_call 42; refine (HS.out _).mono ?_; rintro e w2 ⟨rfl, rfl⟩))
 have hA : Below w.heap.size w (w.alloc (.cells #[.bool false] 4)) := (Below.refl _ w).alloc (Nat.le_refl _) _
 have hlt : w.heap.size < w1.heap.size := Nat.lt_of_lt_of_le (by simp) hb1.size
 have cR := cell_new_l w (.bool false) 4
 have cR1 := (hb1.cell (p := ⟨w.heap.size, 0, none⟩) (by simp)).trans cR.1
 have fR1 := (hb1.frozen (p := ⟨w.heap.size, 0, none⟩) (by simp)).trans cR.2
 have cU := cell_new_l w1 (.string up) 9
 have cM := cell_new_l (w1.alloc (.cells #[.string up] 9)) (.string vocab) 9
 have cM1 := cell_new_l ((w1.alloc (.cells #[.string up] 9)).alloc (.cells #[.string vocab] 9)) (.string ⟨#[32]⟩) 9
 have cM2 := cell_new_l (((w1.alloc (.cells #[.string up] 9)).alloc (.cells #[.string vocab] 9)).alloc (.cells #[.string ⟨#[32]⟩] 9)) (.int .i64 0) 3
 simp only [World.size_alloc] at cM cM1 cM2
 have kR := cell_alloc_l (.cells #[.int .i64 0] 3) (cell_alloc_l (.cells #[.string ⟨#[32]⟩] 9) (cell_alloc_l (.cells #[.string vocab] 9) (cell_alloc_l (.cells #[.string up] 9) cR1)))
 have gR := frozen_alloc_l (.cells #[.int .i64 0] 3) (cell_alloc_l (.cells #[.string ⟨#[32]⟩] 9) (cell_alloc_l (.cells #[.string vocab] 9) (cell_alloc_l (.cells #[.string up] 9) cR1))) (frozen_alloc_l (.cells #[.string ⟨#[32]⟩] 9) (cell_alloc_l (.cells #[.string vocab] 9) (cell_alloc_l (.cells #[.string up] 9) cR1)) (frozen_alloc_l (.cells #[.string vocab] 9) (cell_alloc_l (.cells #[.string up] 9) cR1) (frozen_alloc_l (.cells #[.string up] 9) cR1 fR1)))
 have kU := cell_alloc_l (.cells #[.int .i64 0] 3) (cell_alloc_l (.cells #[.string ⟨#[32]⟩] 9) (cell_alloc_l (.cells #[.string vocab] 9) cU.1))
 have kM := cell_alloc_l (.cells #[.int .i64 0] 3) (cell_alloc_l (.cells #[.string ⟨#[32]⟩] 9) cM.1)
 have gM := frozen_alloc_l (.cells #[.int .i64 0] 3) (cell_alloc_l (.cells #[.string ⟨#[32]⟩] 9) cM.1) (frozen_alloc_l (.cells #[.string ⟨#[32]⟩] 9) cM.1 cM.2)
 have kM1 := cell_alloc_l (.cells #[.int .i64 0] 3) cM1.1
 have kM2 := cM2.1
 have hB0 : Below w.heap.size w ((((w1.alloc (.cells #[.string up] 9)).alloc (.cells #[.string vocab] 9)).alloc (.cells #[.string ⟨#[32]⟩] 9)).alloc (.cells #[.int .i64 0] 3)) :=
  (hA.trans (hb1.mono hA.size)).trans (((((Below.refl _ w1).alloc (by omega) _).alloc (by simp; omega) _).alloc (by simp; omega) _).alloc (by simp; omega) _)
 obtain ⟨z, hz⟩ : ∃ z, w1.heap.size = z := ⟨_, rfl⟩
 have hsz : ((((w1.alloc (.cells #[.string up] 9)).alloc (.cells #[.string vocab] 9)).alloc (.cells #[.string ⟨#[32]⟩] 9)).alloc (.cells #[.int .i64 0] 3)).heap.size = z + 4 := by simp [hz]
 rw [hz] at kU kM gM kM1 kM2 hlt
 rw [hz]
 generalize (((w1.alloc (.cells #[.string up] 9)).alloc (.cells #[.string vocab] 9)).alloc (.cells #[.string ⟨#[32]⟩] 9)).alloc (.cells #[.int .i64 0] 3) = W0 at *
 clear cU cM cM1 cM2 cR cR1 fR1
 have hst := Spl.split_stops 3 (z + 1) W0.heap.size vocab W0 (by omega) (by omega) (Nat.le_refl _) (by decide) kM gM kM1 kM2
 refine wpIn_range_cell rfl (by omega) (gf := 59) (lb := #[.pointer (some ⟨z + 1 + 1, 0, none⟩), .pointer (some ⟨z + 1, 0, none⟩), .pointer (some ⟨z + 1 + 2, 0, none⟩)]) rfl trivial (Go.Proofs.enters_of Tryd.func59 (by kernel_rfl) rfl) (Nat.le_refl _) hst
  (fun pre W => (W.cell? ⟨w.heap.size, 0, none⟩ = some (.bool false) ∧ W.frozen? ⟨w.heap.size, 0, none⟩ = false ∧ W.cell? ⟨z, 0, none⟩ = some (.string up) ∧ RowKit.Hid (∀ y ∈ pre, (y.toList == up.toList) = false)) ∧ Below w.heap.size w W)
  (fun pre W => (W.cell? ⟨w.heap.size, 0, none⟩ = some (.bool true) ∧ RowKit.Hid (∃ y ∈ pre, (y.toList == up.toList) = true)) ∧ Below w.heap.size w W)
  (OwnFrom.and (Own.from (fun s A B row hs hg hr => ⟨cell_kept hs.1 hg hr, (frozen_kept hs.1 hg hr).trans hs.2.1, cell_kept hs.2.2.1 hg hr, hs.2.2.2⟩) _) (ownFrom_below (Nat.le_refl _) (by omega)))
  (OwnFrom.and (Own.from (fun s A B row hs hg hr => ⟨cell_kept hs.1 hg hr, hs.2⟩) _) (ownFrom_below (Nat.le_refl _) (by omega)))
  (fun s A v hs => ⟨⟨by rw [World.cell?_setCell_other _ _ _ _ (by intro e; injection e; omega)]; exact hs.1.1, by rw [World.frozen?_setCell]; exact hs.1.2.1, by rw [World.cell?_setCell_other _ _ _ _ (by intro e; injection e; omega)]; exact hs.1.2.2.1, hs.1.2.2.2⟩, hs.2.setCell (p := ⟨z + 1, 0, none⟩) (by show _ ≤ z + 1; omega) _⟩)
  ⟨⟨kR, gR, kU, Lib.hid (by simp)⟩, hB0⟩
  (fun x => { tmps := #[.string a0, undef, .pointer (some ⟨w.heap.size, 0, none⟩), .pointer (some ⟨z, 0, none⟩), .string x, .string a0, .string up, .func (.func 59) #[] #[.pointer (some ⟨z + 1 + 1, 0, none⟩), .pointer (some ⟨z + 1, 0, none⟩), .pointer (some ⟨z + 1 + 2, 0, none⟩)], .string x, undef, undef, undef], defers := [] }) ?assign ?body ?done ?stop
 case assign =>
  intro l x W K hK
  gi_wp2
  exact hK
 case body =>
  rintro l pre x W ⟨⟨hc, hf, hu, HP⟩, hB⟩ _
  by_cases hx : (x.toList == up.toList) = true
  ·
   have HX := Lib.hid hx
   gi_wp2
   exact ⟨KeepsOthers.setCell _ _ _, ⟨World.cell?_setCell_same _ _ _ hc, Lib.hid ⟨x, by simp, HX.out⟩⟩, hB.setCell (p := ⟨w.heap.size, 0, none⟩) (Nat.le_refl _) _⟩
  ·
   have hx' := Bool.eq_false_iff.2 hx
   have HX := Lib.hid hx'
   clear hx
   gi_wp2
   exact ⟨KeepsOthers.refl _, Below.refl _ _, ⟨hc, hf, hu, Lib.hid (fun y hy => (List.mem_append.1 hy).elim (HP.out y) (fun e => by simp at e; subst e; exact HX.out))⟩, hB⟩
 case done =>
  rintro D W hD ⟨⟨hc, hf, hu, HP⟩, hB⟩ hK
  gi_wp2
  have hK' := (KeepsOthers.setCell W ⟨w.heap.size, 0, none⟩ (.bool false)).same D _ hK rfl
  refine ⟨by simp, .inl ⟨_, _, rfl, run_takeDeferred hK', ?_⟩⟩
  have hc5 := cell_kept (World.cell?_setCell_same W ⟨w.heap.size, 0, none⟩ (.bool false) hc) (grownBy_putObj' _ D (.deferred none)) (fun r e => by cases e; exact ⟨_, hK', rfl⟩)
  refine ⟨.bool false, ?_, ret_wb_ (by rw [HR.out, List.any_eq_false.2 (fun y hy => by rw [HP.out y hy]; simp)]), (hB.setCell (p := ⟨w.heap.size, 0, none⟩) (Nat.le_refl _) _).trans (belowK_b (w := w) (Nat.le_refl _) _ D _ _ (by omega) hK' rfl rfl)⟩
  simp [results, Tryd.f23, go_sem, hc5]
 case stop =>
  rintro D pre W hD hpre ⟨⟨hc, HP⟩, hB⟩ hK
  gi_wp2
  refine ⟨by simp, .inl ⟨_, _, rfl, run_takeDeferred hK, ?_⟩⟩
  have hc5 := cell_kept hc (grownBy_putObj' _ D (.deferred none)) (fun r e => by cases e; exact ⟨_, hK, rfl⟩)
  refine ⟨.bool true, ?_, ret_wb_ (by obtain ⟨y, hy, hy2⟩ := HP.out; rw [HR.out, List.any_eq_true.2 ⟨y, hpre.subset hy, hy2⟩]), hB.trans (belowK_b (w := w) (Nat.le_refl _) W D _ _ (by omega) hK rfl rfl)⟩
  simp [results, Tryd.f23, go_sem, hc5]
end
end Go.Proofs.YtfaogccfiklinaaDoor.Q
