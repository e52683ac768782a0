/- Lemmas for this claim's walk: no condition of their own. -/
import Derived.Test.YtfaogccfiklinaaDoorKfSq
import Derived.Test.YtfaogccfiklinaaDoorKfQx0
import Derived.Test.YtfaogccfiklinaaDoorKfQx3
namespace Go.Proofs.YtfaogccfiklinaaDoor.Q
open Go.RowKit Go.Proofs.YtfaogccfiklinaaDoorW.PrintWords Go.Proofs.YtfaogccfiklinaaDoorW.PrintLast Go.Proofs.YtfaogccfiklinaaDoorW.PrintMore
attribute [local go_sem] max2_int min2_int max_two min_two max_three min_three max_four min_four
set_option linter.unusedVariables false
set_option linter.unusedSimpArgs false
mutual
def lexer_cutter_number.j0 : Nat → Int → Int → Bool → ByteArray → Int → Option (Int × ByteArray × Int × Int × ByteArray × Int × Int × Int)
 | 0, _, _, _, _, _ => none
 | k + 1, x4, x5, x6, x104000, x104001 => lexer_cutter_number.l0 k x4 x5 x6 x104000 x104001
def lexer_cutter_number.l0 : Nat → Int → Int → Bool → ByteArray → Int → Option (Int × ByteArray × Int × Int × ByteArray × Int × Int × Int)
 | 0, _, _, _, _, _ => none
 | k + 1, x4, x5, x6, x104000, x104001 => (lexer_cutter_peek.f x104000 x104001 0).bind fun t106 => ((lexer_isDigit.f (wrap32 (t106))).bind fun t107 => (if t107 = true then ((lexer_cutter_peek.f x104000 x104001 0).bind fun t108 => (if x5 < (Int.tdiv ((-9223372036854775808) + ((t108 - 48) % 256)) 10) then ((lexer_wrong.f x4).bind fun bt109 => (some (bt109.1, bt109.2.1, bt109.2.2.1, bt109.2.2.2.1, bt109.2.2.2.2.1, bt109.2.2.2.2.2.1, bt109.2.2.2.2.2.2.1, bt109.2.2.2.2.2.2.2))) else ((lexer_cutter_peek.f x104000 (wrap64 (x104001 + 1)) 0).bind fun t117 => (if t117 = 95 then ((lexer_cutter_peek.f x104000 (wrap64 (x104001 + 1)) 1).bind fun t118 => ((lexer_isDigit.f (wrap32 (t118))).bind fun t119 => (if t119 = true then (lexer_cutter_number.l0 k x4 (wrap64 ((wrap64 (10 * x5)) - ((t108 - 48) % 256))) x6 x104000 (wrap64 ((wrap64 (x104001 + 1)) + 1))) else (lexer_cutter_number.l0 k x4 (wrap64 ((wrap64 (10 * x5)) - ((t108 - 48) % 256))) x6 x104000 (wrap64 (x104001 + 1)))))) else (lexer_cutter_number.l0 k x4 (wrap64 ((wrap64 (10 * x5)) - ((t108 - 48) % 256))) x6 x104000 (wrap64 (x104001 + 1))))))) else (if x6 = true then (some (4, (⟨#[]⟩ : ByteArray), 1, x5, (⟨#[]⟩ : ByteArray), x4, x104001, (-1))) else (if x5 = (-9223372036854775808) then ((lexer_wrong.f x4).bind fun bt120 => (some (bt120.1, bt120.2.1, bt120.2.2.1, bt120.2.2.2.1, bt120.2.2.2.2.1, bt120.2.2.2.2.2.1, bt120.2.2.2.2.2.2.1, bt120.2.2.2.2.2.2.2))) else (some (4, (⟨#[]⟩ : ByteArray), 1, wrap64 (-x5), (⟨#[]⟩ : ByteArray), x4, x104001, (-1)))))))
end
def lexer_cutter_number.f (k : Nat) (a0_0 : ByteArray) (a0_1 : Int) : Option (Int × ByteArray × Int × Int × ByteArray × Int × Int × Int) := (lexer_cutter_peek.f a0_0 a0_1 0).bind fun t105 => (if t105 = 45 then (lexer_cutter_number.j0 k a0_1 0 (t105 == 45) a0_0 (wrap64 (a0_1 + 1))) else (lexer_cutter_number.j0 k a0_1 0 (t105 == 45) a0_0 a0_1))
theorem lexer_cutter_number.mono_l : ∀ k, (∀ y0 y1 y2 y3 y4, LeO (lexer_cutter_number.j0 k y0 y1 y2 y3 y4) (lexer_cutter_number.j0 (k + 1) y0 y1 y2 y3 y4)) ∧ (∀ y0 y1 y2 y3 y4, LeO (lexer_cutter_number.l0 k y0 y1 y2 y3 y4) (lexer_cutter_number.l0 (k + 1) y0 y1 y2 y3 y4))
 | 0 => ⟨fun _ _ _ _ _ r h => by simp [lexer_cutter_number.j0] at h, fun _ _ _ _ _ r h => by simp [lexer_cutter_number.l0] at h⟩
 | k + 1 => by
  obtain ⟨ih0, ih1⟩ := lexer_cutter_number.mono_l k
  refine ⟨?_, ?_⟩
  ·
   intro y0 y1 y2 y3 y4
   unfold lexer_cutter_number.j0
   repeat' first
   | (with_reducible exact ih0 _ _ _ _ _)
   | (with_reducible exact ih1 _ _ _ _ _)
   | (with_reducible exact LeO.refl _)
   | (with_reducible exact LeO.none _)
   | (with_reducible refine LeO.ite ?_ ?_)
   | (with_reducible refine LeO.bind ?_ (fun _ => ?_))
   | exact ih0 _ _ _ _ _
   | exact ih1 _ _ _ _ _
   | exact LeO.none _
   | refine LeO.ite ?_ ?_
   | refine LeO.bind ?_ (fun _ => ?_)
  ·
   intro y0 y1 y2 y3 y4
   unfold lexer_cutter_number.l0
   repeat' first
   | (with_reducible exact ih0 _ _ _ _ _)
   | (with_reducible exact ih1 _ _ _ _ _)
   | (with_reducible exact LeO.refl _)
   | (with_reducible exact LeO.none _)
   | (with_reducible refine LeO.ite ?_ ?_)
   | (with_reducible refine LeO.bind ?_ (fun _ => ?_))
   | exact ih0 _ _ _ _ _
   | exact ih1 _ _ _ _ _
   | exact LeO.none _
   | refine LeO.ite ?_ ?_
   | refine LeO.bind ?_ (fun _ => ?_)
theorem lexer_cutter_number.mono : ∀ a0 a1 k, LeO (lexer_cutter_number.f k a0 a1) (lexer_cutter_number.f (k + 1) a0 a1) := by
 intro a0 a1 k
 obtain ⟨ih0, ih1⟩ := lexer_cutter_number.mono_l k
 unfold lexer_cutter_number.f
 repeat' first
   | (with_reducible exact ih0 _ _ _ _ _)
   | (with_reducible exact ih1 _ _ _ _ _)
   | (with_reducible exact LeO.refl _)
   | (with_reducible exact LeO.none _)
   | (with_reducible refine LeO.ite ?_ ?_)
   | (with_reducible refine LeO.bind ?_ (fun _ => ?_))
   | exact ih0 _ _ _ _ _
   | exact ih1 _ _ _ _ _
   | exact LeO.none _
   | refine LeO.ite ?_ ?_
   | refine LeO.bind ?_ (fun _ => ?_)
set_option maxHeartbeats 8000000 in
set_option maxRecDepth 100000 in
theorem lexer_cutter_number.calls (k : Nat) (a0_0 : ByteArray) (a0_1 : Int) (r1 : Int) (r2 : ByteArray) (r3 : Int) (r4 : Int) (r5 : ByteArray) (r6 : Int) (r7 : Int) (r8 : Int) (w : World) (h : lexer_cutter_number.f k a0_0 a0_1 = some (r1, r2, r3, r4, r5, r6, r7, r8)) :
  Calls Tryd.prog 31 #[.agg #[.string a0_0, .int .i64 a0_1]] w fun e w' => e = .returned (.tuple #[.agg #[.int .i64 r1, .string r2, .int .i64 r3, .int .i64 r4, .string r5, .int .i64 r6, .int .i64 r7], .int .i64 r8]) ∧ Below w.heap.size w w' := by
 have hu48 := Tryd.underlying48
 have hu25 := Tryd.underlying25
 have hu23 := Tryd.underlying23
 have HB := Aside0.mk (Below.refl w.heap.size w)
 have H : ((lexer_cutter_peek.f a0_0 a0_1 0).bind fun t105 => (if t105 = 45 then (lexer_cutter_number.j0 k a0_1 0 (t105 == 45) a0_0 (wrap64 (a0_1 + 1))) else (lexer_cutter_number.j0 k a0_1 0 (t105 == 45) a0_0 a0_1))) = some (r1, r2, r3, r4, r5, r6, r7, r8) := h
 clear h
 replace H := Option.bind_eq_some_iff.mp H
 obtain ⟨t105, A20, H⟩ := H
 have A2 := Aside0.mk A20
 clear A20
 have HC3 := Aside0.mk H
 clear H
 go_enter Tryd.func31, Tryd.ntmps31
 go_upto_if 13 with (first | ((with_reducible refine gate_dst (N := 1) rfl ?_); refine box_event ?hg (N := 1) ?hd (cs := #[.string a0_0, .int .i64 a0_1]) (t := 48) ?hr ?_; (case hd => rfl); (case hg => rfl); (case hr => first | (go_simp; done) | (go_simp; rfl)); intro gb103 hg w4 hbox hb; have BK103 := Aside0.mk (hbox); have GW103 := Aside0.mk ((by rw [hg]; exact (bZ_ (kwW HB)) : w.heap.size ≤ gb103)); replace HB := Aside0.mk (below_step (kwW HB) hb); have GE103 := GW103; clear hb hbox hg) | ((with_reducible refine gate_dst (N := 2) rfl ?_); refine box_event ?hg (N := 2) ?hd (cs := #[.int .i64 0, .string (⟨#[]⟩ : ByteArray), .int .i64 0, .int .i64 0, .string (⟨#[]⟩ : ByteArray), .int .i64 0, .int .i64 0]) (t := 25) ?hr ?_; (case hd => rfl); (case hg => rfl); (case hr => first | (go_simp; done) | (go_simp; rfl)); intro gb104 hg w5 hbox hb; have BK104 := Aside0.mk (hbox); have GW104 := Aside0.mk ((by rw [hg]; exact (bZ_ (by repeat (first | (with_reducible first | exact HB.out | apply bA_ | apply bN_ | apply bD_ | refine bS_ ?_ GE103) | exact HB.out))) : w.heap.size ≤ gb104)); replace HB := Aside0.mk (below_step (by repeat (first | (with_reducible first | exact HB.out | apply bA_ | apply bN_ | apply bD_ | refine bS_ ?_ GE103) | exact HB.out)) hb); have GE104 := GW104; have NB103_104 := Aside0.mk ((by rw [hg]; exact Nat.ne_of_lt (blk_lt (kbW BK103)) : gb103 ≠ gb104)); have NB104_103 := Aside0.mk ((by rw [hg]; exact Nat.ne_of_gt (blk_lt (kbW BK103)) : gb104 ≠ gb103)); replace BK103 := kB BK103 hb; clear hb hbox hg; have hnb6 := NB103_104.out; have hnc6 := NB104_103.out; obtain ⟨hcz7_0, hcz7_1, hfz7_0, hfz7_1⟩ := czf2 BK103) | ((with_reducible refine gate_callee (f := 29) rfl ?_); refine goesL_ (some 11) rfl rfl Tryd.func29 (by kernel_rfl) rfl #[.agg #[.string a0_0, .int .i64 a0_1], .int .i64 0] rfl (by (try simp only [mT_, mC_, mN_]); first | done | rfl) ?_; (with_reducible refine (lexer_cutter_peek.calls a0_0 a0_1 0 t105 _ A2.out).mono ?_); rintro e w8 ⟨rfl, hb⟩; refine ⟨_, rfl, ?_⟩; replace BK103 := kB BK103 hb; replace BK104 := kB BK104 hb; replace HB := Aside0.mk (below_step (by repeat (first | (with_reducible first | exact HB.out | apply bA_ | apply bN_ | apply bD_ | refine bS_ ?_ GE103 | refine bS_ ?_ GE104) | exact HB.out)) hb); (try clear hb); (try clear hb2); (try clear hk); (try clear hi)))
 (try simp only [Act.put, List.setIfInBounds_toArray, List.set_cons_zero, List.set_cons_succ])
 go_cut [6] (fun v6 wc => ∃ (kq : Nat) (x6_2 : Bool) (x104001_2 : Int), v6 = .bool x6_2 ∧ Aside0 (lexer_cutter_number.j0 kq a0_1 0 x6_2 a0_0 x104001_2 = some (r1, r2, r3, r4, r5, r6, r7, r8)) ∧ Aside0 (kq ≤ k) ∧ Aside0 (wc.heap[gb103]? = some (.cells #[.string a0_0, .int .i64 x104001_2] 48 (0, 0))) ∧ Aside0 (wc.heap[gb104]? = some (.cells #[.int .i64 0, .string (⟨#[]⟩ : ByteArray), .int .i64 0, .int .i64 0, .string (⟨#[]⟩ : ByteArray), .int .i64 0, .int .i64 0] 25 (0, 0))) ∧ Aside0 (Below w.heap.size w wc))
 case first =>
  have H := HC3.out
  clear HC3
  by_cases c9 : t105 = 45
  rotate_left
  ·
   rw [if_neg c9] at H
   have c9b0 : (t105 == 45) = false := beq_eq_false_iff_ne.mpr c9
   have c9b1 : (t105 != 45) = true := bne_iff_ne.mpr c9
   (first | rw [c9b0] | (simp only [i64_w, i32_w]; rw [c9b0]) | skip)
   have H' := Aside0.mk H
   clear H
   go_wp2
   go_meet
   case rel => exact ⟨_, ((t105 == 45)), (a0_1), (by first | rfl | (simp; done) | (simp [bne, *]; done)), H', ⟨by first | omega | exact Nat.le_refl _⟩, ⟨by (with_reducible repeat (first | refine blk_drewN ?_ _ | refine blk_drew ?_ | refine blk_alloc ?_ _)); exact BK103.out⟩, ⟨by (with_reducible repeat (first | refine blk_drewN ?_ _ | refine blk_drew ?_ | refine blk_alloc ?_ _)); exact BK104.out⟩, ⟨by repeat (first | (with_reducible first | exact HB.out | apply bA_ | apply bN_ | apply bD_ | refine bS_ ?_ GE103 | refine bS_ ?_ GE104) | exact HB.out)⟩⟩
  rw [if_pos c9] at H
  have c9b0 : (t105 == 45) = true := beq_iff_eq.mpr c9
  have c9b1 : (t105 != 45) = false := bne_eq_false_iff_eq.mpr c9
  clear c9
  (first | rw [c9b0] | (simp only [i64_w, i32_w]; rw [c9b0]) | skip)
  have H' := Aside0.mk H
  clear H
  have hnb10 := NB103_104.out
  have hnc10 := NB104_103.out
  obtain ⟨hcz11_0, hcz11_1, hfz11_0, hfz11_1⟩ := czf2 BK103
  go_wp2
  go_meet
  case rel => exact ⟨_, ((t105 == 45)), (wrap64 (a0_1 + 1)), (by first | rfl | (simp; done) | (simp [bne, *]; done)), H', ⟨by first | omega | exact Nat.le_refl _⟩, ⟨by (with_reducible repeat (first | refine blk_drewN ?_ _ | refine blk_drew ?_ | refine blk_alloc ?_ _)); refine blk_put (cs := #[.string a0_0, .int .i64 a0_1]) ?_ 1 _ rfl; (with_reducible repeat (first | refine blk_drewN ?_ _ | refine blk_drew ?_ | refine blk_alloc ?_ _)); exact BK103.out⟩, ⟨by (with_reducible repeat (first | refine blk_drewN ?_ _ | refine blk_drew ?_ | refine blk_alloc ?_ _)); refine blk_far ?_ NB104_103.out _; (with_reducible repeat (first | refine blk_drewN ?_ _ | refine blk_drew ?_ | refine blk_alloc ?_ _)); exact BK104.out⟩, ⟨by repeat (first | (with_reducible first | exact HB.out | apply bA_ | apply bN_ | apply bD_ | refine bS_ ?_ GE103 | refine bS_ ?_ GE104) | exact HB.out)⟩⟩
 case rest =>
  clear HC3
  try clear c1
  try clear c2
  try clear p2
  try clear c3
  try clear c6
  try clear p6
  try clear c9
  try clear c9b0
  try clear c9b1
  try clear c10
  try clear hcz11_0
  try clear hcz11_1
  try clear hcz7_0
  try clear hcz7_1
  try clear hfz11_0
  try clear hfz11_1
  try clear hfz7_0
  try clear hfz7_1
  obtain ⟨kq, x6_2, x104001_2, rfl, HA, HJ2, BK103, BK104, HB⟩ := hcut
  cases kq with
  | zero => exact absurd HA.out (by simp [lexer_cutter_number.j0])
  | succ kj2 =>
   have H := HA.out
   clear HA
   simp only [lexer_cutter_number.j0] at H
   have H' := Aside0.mk H
   clear H
   go_wp2
   go_loopg [5] kj2 (fun kq v5 w' => ∃ (x5_2 : Int) (x104001_2 : Int) (x105000_2 : Int) (x105001_2 : ByteArray) (x105002_2 : Int) (x105003_2 : Int) (x105004_2 : ByteArray) (x105005_2 : Int) (x105006_2 : Int), v5 = .int .i64 x5_2 ∧ Aside0 (lexer_cutter_number.l0 kq a0_1 x5_2 x6_2 a0_0 x104001_2 = some (r1, r2, r3, r4, r5, r6, r7, r8)) ∧ Aside0 (kq ≤ kj2) ∧ Aside0 (w'.heap[gb103]? = some (.cells #[.string a0_0, .int .i64 x104001_2] 48 (0, 0))) ∧ Aside0 (w'.heap[gb104]? = some (.cells #[.int .i64 x105000_2, .string x105001_2, .int .i64 x105002_2, .int .i64 x105003_2, .string x105004_2, .int .i64 x105005_2, .int .i64 x105006_2] 25 (0, 0))) ∧ Aside0 (Below w.heap.size w w'))
   case atStart => exact ⟨(0), (x104001_2), (0), ((⟨#[]⟩ : ByteArray)), (0), (0), ((⟨#[]⟩ : ByteArray)), (0), (0), (by first | rfl | (simp; done) | (simp [bne, *]; done)), H', ⟨Nat.le_refl _⟩, ⟨by (with_reducible repeat (first | refine blk_drewN ?_ _ | refine blk_drew ?_ | refine blk_alloc ?_ _)); exact BK103.out⟩, ⟨by (with_reducible repeat (first | refine blk_drewN ?_ _ | refine blk_drew ?_ | refine blk_alloc ?_ _)); exact BK104.out⟩, ⟨by repeat (first | (with_reducible first | exact HB.out | apply bA_ | apply bN_ | apply bD_ | refine bS_ ?_ GE103 | refine bS_ ?_ GE104) | exact HB.out)⟩⟩
   case round =>
    clear H'
    try clear c1
    try clear c2
    try clear p2
    try clear c3
    try clear c6
    try clear p6
    try clear c9
    try clear c9b0
    try clear c9b1
    try clear c10
    try clear hcz11_0
    try clear hcz11_1
    try clear hcz7_0
    try clear hcz7_1
    try clear hfz11_0
    try clear hfz11_1
    try clear hfz7_0
    try clear hfz7_1
    try clear p2
    try clear p6
    obtain ⟨x5_2, x104001_2, x105000_2, x105001_2, x105002_2, x105003_2, x105004_2, x105005_2, x105006_2, rfl, HA, HK2, BK103, BK104, HB⟩ := hrel
    cases gk with
    | zero => exact absurd HA.out (by simp [lexer_cutter_number.l0])
    | succ k2 =>
     have H := HA.out
     clear HA
     simp only [lexer_cutter_number.l0] at H
     replace H := Option.bind_eq_some_iff.mp H
     obtain ⟨t106, A120, H⟩ := H
     have A12 := Aside0.mk A120
     clear A120
     replace H := Option.bind_eq_some_iff.mp H
     obtain ⟨t107, A130, H⟩ := H
     have A13 := Aside0.mk A130
     clear A130
     by_cases c14 : t107 = true
     rotate_left
     ·
      replace c14 := Bool.eq_false_iff.mpr c14
      subst c14
      have H1 : (if x6_2 = true then (some (4, (⟨#[]⟩ : ByteArray), 1, x5_2, (⟨#[]⟩ : ByteArray), a0_1, x104001_2, (-1))) else (if x5_2 = (-9223372036854775808) then ((lexer_wrong.f a0_1).bind fun bt120 => (some (bt120.1, bt120.2.1, bt120.2.2.1, bt120.2.2.2.1, bt120.2.2.2.2.1, bt120.2.2.2.2.2.1, bt120.2.2.2.2.2.2.1, bt120.2.2.2.2.2.2.2))) else (some (4, (⟨#[]⟩ : ByteArray), 1, wrap64 (-x5_2), (⟨#[]⟩ : ByteArray), a0_1, x104001_2, (-1))))) = some (r1, r2, r3, r4, r5, r6, r7, r8) := by rw [if_neg (show ¬ (false = true) by decide)] at H; exact H
      clear H
      have H := H1
      clear H1
      by_cases c56 : x6_2 = true
      ·
       subst c56
       have H1 : (some (4, (⟨#[]⟩ : ByteArray), 1, x5_2, (⟨#[]⟩ : ByteArray), a0_1, x104001_2, (-1))) = some (r1, r2, r3, r4, r5, r6, r7, r8) := by rw [if_pos rfl] at H; exact H
       clear H
       have H := H1
       clear H1
       simp only [Option.some.injEq, Prod.mk.injEq] at H
       obtain ⟨rfl, rfl, rfl, rfl, rfl, rfl, rfl, rfl⟩ := H
       have hnb57 := NB103_104.out
       have hnc57 := NB104_103.out
       obtain ⟨_, _, _, _⟩ := czf2 BK103
       go_wp2_with (first | ((with_reducible refine gate_callee (f := 29) rfl ?_); refine goesL_ (some 19) rfl rfl Tryd.func29 (by kernel_rfl) rfl #[.agg #[.string a0_0, .int .i64 x104001_2], .int .i64 0] rfl (by (try simp only [mT_, mC_, mN_]); first | done | rfl) ?_; (with_reducible refine (lexer_cutter_peek.calls a0_0 x104001_2 0 t106 _ A12.out).mono ?_); rintro e w59 ⟨rfl, hb⟩; refine ⟨_, rfl, ?_⟩; replace BK103 := kB BK103 hb; replace BK104 := kB BK104 hb; replace HB := Aside0.mk (below_step (by repeat (first | (with_reducible first | exact HB.out | apply bA_ | apply bN_ | apply bD_ | refine bS_ ?_ GE103 | refine bS_ ?_ GE104) | exact HB.out)) hb); (try clear hb); (try clear hb2); (try clear hk); (try clear hi)) | ((with_reducible refine gate_callee (f := 30) rfl ?_); refine goesL_ (some 21) rfl rfl Tryd.func30 (by kernel_rfl) rfl #[.int .i32 (wrap32 (t106))] rfl (by (try simp only [mT_, mC_, mN_]); first | done | rfl) ?_; (with_reducible refine (lexer_isDigit.calls (wrap32 (t106)) false _ A13.out).mono ?_); rintro e w' ⟨rfl, ⟨nd, rfl⟩⟩; refine ⟨_, rfl, ?_⟩; (try (rw [drewN_self w59]; generalize hq_ : World.drewN w59 _ = w59; have n0_ : Aside0 (w59.heap[gb103]? = some (.cells #[.string a0_0, .int .i64 x104001_2] 48 (0, 0))) := ⟨by rw [← hq_]; exact (kbW BK103)⟩; have n1_ : Aside0 (w59.heap[gb104]? = some (.cells #[.int .i64 x105000_2, .string x105001_2, .int .i64 x105002_2, .int .i64 x105003_2, .string x105004_2, .int .i64 x105005_2, .int .i64 x105006_2] 25 (0, 0))) := ⟨by rw [← hq_]; exact (kbW BK104)⟩; have n2_ : Aside0 (Below w.heap.size w w59) := ⟨by rw [← hq_]; exact (by repeat (first | (with_reducible first | exact HB.out | apply bA_ | apply bN_ | apply bD_ | refine bS_ ?_ GE103 | refine bS_ ?_ GE104) | exact HB.out))⟩; clear BK103 BK104 HB hq_; have BK103 := n0_; have BK104 := n1_; have HB := n2_; clear n0_ n1_ n2_)); obtain ⟨_, _, _, _⟩ := czf2 BK103; obtain ⟨_, _, _, _, _, _, _, _, _, _, _, _, _, _⟩ := czf7 BK104))
       refine bodyPost_ret (results_ct rfl _ _ gb104 25 #[.int .i64 4, .string (⟨#[]⟩ : ByteArray), .int .i64 1, .int .i64 x5_2, .string (⟨#[]⟩ : ByteArray), .int .i64 a0_1, .int .i64 x104001_2] (0, 0) _ rfl (by (with_reducible repeat (first | refine blk_drewN ?_ _ | refine blk_drew ?_ | refine blk_alloc ?_ _)); exact bp7 (kbW BK104)) Tryd.underlying25 rfl (by kernel_rfl)) rfl ?_
       exact ⟨by first | rfl | (simp <;> rfl) | (simp [*] <;> rfl), by repeat (first | (with_reducible first | exact HB.out | apply bA_ | apply bN_ | apply bD_ | refine bS_ ?_ GE103 | refine bS_ ?_ GE104) | exact HB.out)⟩
      ·
       replace c56 := Bool.eq_false_iff.mpr c56
       subst c56
       have H1 : (if x5_2 = (-9223372036854775808) then ((lexer_wrong.f a0_1).bind fun bt120 => (some (bt120.1, bt120.2.1, bt120.2.2.1, bt120.2.2.2.1, bt120.2.2.2.2.1, bt120.2.2.2.2.2.1, bt120.2.2.2.2.2.2.1, bt120.2.2.2.2.2.2.2))) else (some (4, (⟨#[]⟩ : ByteArray), 1, wrap64 (-x5_2), (⟨#[]⟩ : ByteArray), a0_1, x104001_2, (-1)))) = some (r1, r2, r3, r4, r5, r6, r7, r8) := by rw [if_neg (show ¬ (false = true) by decide)] at H; exact H
       clear H
       have H := H1
       clear H1
       by_cases c62 : x5_2 = (-9223372036854775808)
       rotate_left
       ·
        rw [if_neg c62] at H
        have c62b0 : (x5_2 == (-9223372036854775808)) = false := beq_eq_false_iff_ne.mpr c62
        have c62b1 : (x5_2 != (-9223372036854775808)) = true := bne_iff_ne.mpr c62
        simp only [Option.some.injEq, Prod.mk.injEq] at H
        obtain ⟨rfl, rfl, rfl, rfl, rfl, rfl, rfl, rfl⟩ := H
        have hnb69 := NB103_104.out
        have hnc69 := NB104_103.out
        obtain ⟨_, _, _, _⟩ := czf2 BK103
        go_wp2_with (first | ((with_reducible refine gate_callee (f := 29) rfl ?_); refine goesL_ (some 19) rfl rfl Tryd.func29 (by kernel_rfl) rfl #[.agg #[.string a0_0, .int .i64 x104001_2], .int .i64 0] rfl (by (try simp only [mT_, mC_, mN_]); first | done | rfl) ?_; (with_reducible refine (lexer_cutter_peek.calls a0_0 x104001_2 0 t106 _ A12.out).mono ?_); rintro e w71 ⟨rfl, hb⟩; refine ⟨_, rfl, ?_⟩; replace BK103 := kB BK103 hb; replace BK104 := kB BK104 hb; replace HB := Aside0.mk (below_step (by repeat (first | (with_reducible first | exact HB.out | apply bA_ | apply bN_ | apply bD_ | refine bS_ ?_ GE103 | refine bS_ ?_ GE104) | exact HB.out)) hb); (try clear hb); (try clear hb2); (try clear hk); (try clear hi)) | ((with_reducible refine gate_callee (f := 30) rfl ?_); refine goesL_ (some 21) rfl rfl Tryd.func30 (by kernel_rfl) rfl #[.int .i32 (wrap32 (t106))] rfl (by (try simp only [mT_, mC_, mN_]); first | done | rfl) ?_; (with_reducible refine (lexer_isDigit.calls (wrap32 (t106)) false _ A13.out).mono ?_); rintro e w' ⟨rfl, ⟨nd, rfl⟩⟩; refine ⟨_, rfl, ?_⟩; (try (rw [drewN_self w71]; generalize hq_ : World.drewN w71 _ = w71; have n0_ : Aside0 (w71.heap[gb103]? = some (.cells #[.string a0_0, .int .i64 x104001_2] 48 (0, 0))) := ⟨by rw [← hq_]; exact (kbW BK103)⟩; have n1_ : Aside0 (w71.heap[gb104]? = some (.cells #[.int .i64 x105000_2, .string x105001_2, .int .i64 x105002_2, .int .i64 x105003_2, .string x105004_2, .int .i64 x105005_2, .int .i64 x105006_2] 25 (0, 0))) := ⟨by rw [← hq_]; exact (kbW BK104)⟩; have n2_ : Aside0 (Below w.heap.size w w71) := ⟨by rw [← hq_]; exact (by repeat (first | (with_reducible first | exact HB.out | apply bA_ | apply bN_ | apply bD_ | refine bS_ ?_ GE103 | refine bS_ ?_ GE104) | exact HB.out))⟩; clear BK103 BK104 HB hq_; have BK103 := n0_; have BK104 := n1_; have HB := n2_; clear n0_ n1_ n2_)); obtain ⟨_, _, _, _⟩ := czf2 BK103; obtain ⟨_, _, _, _, _, _, _, _, _, _, _, _, _, _⟩ := czf7 BK104))
        refine bodyPost_ret (results_ct rfl _ _ gb104 25 #[.int .i64 4, .string (⟨#[]⟩ : ByteArray), .int .i64 1, .int .i64 (wrap64 (-x5_2)), .string (⟨#[]⟩ : ByteArray), .int .i64 a0_1, .int .i64 x104001_2] (0, 0) _ rfl (by (with_reducible repeat (first | refine blk_drewN ?_ _ | refine blk_drew ?_ | refine blk_alloc ?_ _)); exact bp7 (kbW BK104)) Tryd.underlying25 rfl (by kernel_rfl)) rfl ?_
        exact ⟨by first | rfl | (simp <;> rfl) | (simp [*] <;> rfl), by repeat (first | (with_reducible first | exact HB.out | apply bA_ | apply bN_ | apply bD_ | refine bS_ ?_ GE103 | refine bS_ ?_ GE104) | exact HB.out)⟩
       rw [if_pos c62] at H
       have c62b0 : (x5_2 == (-9223372036854775808)) = true := beq_iff_eq.mpr c62
       have c62b1 : (x5_2 != (-9223372036854775808)) = false := bne_eq_false_iff_eq.mpr c62
       clear c62
       replace H := Option.bind_eq_some_iff.mp H
       obtain ⟨⟨t120, t121, t122, t123, t124, t125, t126, t127⟩, A630, H⟩ := H
       have A63 := Aside0.mk A630
       clear A630
       simp only [Option.some.injEq, Prod.mk.injEq] at H
       obtain ⟨rfl, rfl, rfl, rfl, rfl, rfl, rfl, rfl⟩ := H
       have hnb64 := NB103_104.out
       have hnc64 := NB104_103.out
       obtain ⟨_, _, _, _⟩ := czf2 BK103
       go_wp2_with (first | ((with_reducible refine gate_callee (f := 29) rfl ?_); refine goesL_ (some 19) rfl rfl Tryd.func29 (by kernel_rfl) rfl #[.agg #[.string a0_0, .int .i64 x104001_2], .int .i64 0] rfl (by (try simp only [mT_, mC_, mN_]); first | done | rfl) ?_; (with_reducible refine (lexer_cutter_peek.calls a0_0 x104001_2 0 t106 _ A12.out).mono ?_); rintro e w66 ⟨rfl, hb⟩; refine ⟨_, rfl, ?_⟩; replace BK103 := kB BK103 hb; replace BK104 := kB BK104 hb; replace HB := Aside0.mk (below_step (by repeat (first | (with_reducible first | exact HB.out | apply bA_ | apply bN_ | apply bD_ | refine bS_ ?_ GE103 | refine bS_ ?_ GE104) | exact HB.out)) hb); (try clear hb); (try clear hb2); (try clear hk); (try clear hi)) | ((with_reducible refine gate_callee (f := 30) rfl ?_); refine goesL_ (some 21) rfl rfl Tryd.func30 (by kernel_rfl) rfl #[.int .i32 (wrap32 (t106))] rfl (by (try simp only [mT_, mC_, mN_]); first | done | rfl) ?_; (with_reducible refine (lexer_isDigit.calls (wrap32 (t106)) false _ A13.out).mono ?_); rintro e w' ⟨rfl, ⟨nd, rfl⟩⟩; refine ⟨_, rfl, ?_⟩; (try (rw [drewN_self w66]; generalize hq_ : World.drewN w66 _ = w66; have n0_ : Aside0 (w66.heap[gb103]? = some (.cells #[.string a0_0, .int .i64 x104001_2] 48 (0, 0))) := ⟨by rw [← hq_]; exact (kbW BK103)⟩; have n1_ : Aside0 (w66.heap[gb104]? = some (.cells #[.int .i64 x105000_2, .string x105001_2, .int .i64 x105002_2, .int .i64 x105003_2, .string x105004_2, .int .i64 x105005_2, .int .i64 x105006_2] 25 (0, 0))) := ⟨by rw [← hq_]; exact (kbW BK104)⟩; have n2_ : Aside0 (Below w.heap.size w w66) := ⟨by rw [← hq_]; exact (by repeat (first | (with_reducible first | exact HB.out | apply bA_ | apply bN_ | apply bD_ | refine bS_ ?_ GE103 | refine bS_ ?_ GE104) | exact HB.out))⟩; clear BK103 BK104 HB hq_; have BK103 := n0_; have BK104 := n1_; have HB := n2_; clear n0_ n1_ n2_))) | ((with_reducible refine gate_callee (f := 44) rfl ?_); refine goesL_ (some 64) rfl rfl Tryd.func44 (by kernel_rfl) rfl #[.int .i64 a0_1] rfl (by (try simp only [mT_, mC_, mN_]); first | done | rfl) ?_; (with_reducible refine (lexer_wrong.calls a0_1 t120 t121 t122 t123 t124 t125 t126 t127 _ A63.out).mono ?_); rintro e w67 ⟨rfl, hb⟩; refine ⟨_, rfl, ?_⟩; replace BK103 := kB BK103 hb; replace BK104 := kB BK104 hb; replace HB := Aside0.mk (below_step (by repeat (first | (with_reducible first | exact HB.out | apply bA_ | apply bN_ | apply bD_ | refine bS_ ?_ GE103 | refine bS_ ?_ GE104) | exact HB.out)) hb); (try clear hb); (try clear hb2); (try clear hk); (try clear hi); obtain ⟨_, _, _, _, _, _, _, _, _, _, _, _, _, _⟩ := czf7 BK104))
       refine bodyPost_ret (results_ct rfl _ _ gb104 25 #[.int .i64 t120, .string t121, .int .i64 t122, .int .i64 t123, .string t124, .int .i64 t125, .int .i64 t126] (0, 0) _ rfl (by (with_reducible repeat (first | refine blk_drewN ?_ _ | refine blk_drew ?_ | refine blk_alloc ?_ _)); exact bp7 (kbW BK104)) Tryd.underlying25 rfl (by kernel_rfl)) rfl ?_
       exact ⟨by first | rfl | (simp <;> rfl) | (simp [*] <;> rfl), by repeat (first | (with_reducible first | exact HB.out | apply bA_ | apply bN_ | apply bD_ | refine bS_ ?_ GE103 | refine bS_ ?_ GE104) | exact HB.out)⟩
     subst c14
     have H1 : ((lexer_cutter_peek.f a0_0 x104001_2 0).bind fun t108 => (if x5_2 < (Int.tdiv ((-9223372036854775808) + ((t108 - 48) % 256)) 10) then ((lexer_wrong.f a0_1).bind fun bt109 => (some (bt109.1, bt109.2.1, bt109.2.2.1, bt109.2.2.2.1, bt109.2.2.2.2.1, bt109.2.2.2.2.2.1, bt109.2.2.2.2.2.2.1, bt109.2.2.2.2.2.2.2))) else ((lexer_cutter_peek.f a0_0 (wrap64 (x104001_2 + 1)) 0).bind fun t117 => (if t117 = 95 then ((lexer_cutter_peek.f a0_0 (wrap64 (x104001_2 + 1)) 1).bind fun t118 => ((lexer_isDigit.f (wrap32 (t118))).bind fun t119 => (if t119 = true then (lexer_cutter_number.l0 k2 a0_1 (wrap64 ((wrap64 (10 * x5_2)) - ((t108 - 48) % 256))) x6_2 a0_0 (wrap64 ((wrap64 (x104001_2 + 1)) + 1))) else (lexer_cutter_number.l0 k2 a0_1 (wrap64 ((wrap64 (10 * x5_2)) - ((t108 - 48) % 256))) x6_2 a0_0 (wrap64 (x104001_2 + 1)))))) else (lexer_cutter_number.l0 k2 a0_1 (wrap64 ((wrap64 (10 * x5_2)) - ((t108 - 48) % 256))) x6_2 a0_0 (wrap64 (x104001_2 + 1))))))) = some (r1, r2, r3, r4, r5, r6, r7, r8) := by rw [if_pos rfl] at H; exact H
     clear H
     have H := H1
     clear H1
     replace H := Option.bind_eq_some_iff.mp H
     obtain ⟨t108, A150, H⟩ := H
     have A15 := Aside0.mk A150
     clear A150
     by_cases c16 : x5_2 < (Int.tdiv ((-9223372036854775808) + ((t108 - 48) % 256)) 10)
     ·
      rw [if_pos c16] at H
      have c16b0 : decide (x5_2 < (Int.tdiv ((-9223372036854775808) + ((t108 - 48) % 256)) 10)) = true := decide_eq_true c16
      clear c16
      replace H := Option.bind_eq_some_iff.mp H
      obtain ⟨⟨t109, t110, t111, t112, t113, t114, t115, t116⟩, A170, H⟩ := H
      have A17 := Aside0.mk A170
      clear A170
      simp only [Option.some.injEq, Prod.mk.injEq] at H
      obtain ⟨rfl, rfl, rfl, rfl, rfl, rfl, rfl, rfl⟩ := H
      have hnb18 := NB103_104.out
      have hnc18 := NB104_103.out
      obtain ⟨_, _, _, _⟩ := czf2 BK103
      go_wp2_with (first | ((with_reducible refine gate_callee (f := 29) rfl ?_); refine goesL_ (some 19) rfl rfl Tryd.func29 (by kernel_rfl) rfl #[.agg #[.string a0_0, .int .i64 x104001_2], .int .i64 0] rfl (by (try simp only [mT_, mC_, mN_]); first | done | rfl) ?_; (with_reducible refine (lexer_cutter_peek.calls a0_0 x104001_2 0 t106 _ A12.out).mono ?_); rintro e w20 ⟨rfl, hb⟩; refine ⟨_, rfl, ?_⟩; replace BK103 := kB BK103 hb; replace BK104 := kB BK104 hb; replace HB := Aside0.mk (below_step (by repeat (first | (with_reducible first | exact HB.out | apply bA_ | apply bN_ | apply bD_ | refine bS_ ?_ GE103 | refine bS_ ?_ GE104) | exact HB.out)) hb); (try clear hb); (try clear hb2); (try clear hk); (try clear hi)) | ((with_reducible refine gate_callee (f := 30) rfl ?_); refine goesL_ (some 21) rfl rfl Tryd.func30 (by kernel_rfl) rfl #[.int .i32 (wrap32 (t106))] rfl (by (try simp only [mT_, mC_, mN_]); first | done | rfl) ?_; (with_reducible refine (lexer_isDigit.calls (wrap32 (t106)) true _ A13.out).mono ?_); rintro e w' ⟨rfl, ⟨nd, rfl⟩⟩; refine ⟨_, rfl, ?_⟩; (try (rw [drewN_self w20]; generalize hq_ : World.drewN w20 _ = w20; have n0_ : Aside0 (w20.heap[gb103]? = some (.cells #[.string a0_0, .int .i64 x104001_2] 48 (0, 0))) := ⟨by rw [← hq_]; exact (kbW BK103)⟩; have n1_ : Aside0 (w20.heap[gb104]? = some (.cells #[.int .i64 x105000_2, .string x105001_2, .int .i64 x105002_2, .int .i64 x105003_2, .string x105004_2, .int .i64 x105005_2, .int .i64 x105006_2] 25 (0, 0))) := ⟨by rw [← hq_]; exact (kbW BK104)⟩; have n2_ : Aside0 (Below w.heap.size w w20) := ⟨by rw [← hq_]; exact (by repeat (first | (with_reducible first | exact HB.out | apply bA_ | apply bN_ | apply bD_ | refine bS_ ?_ GE103 | refine bS_ ?_ GE104) | exact HB.out))⟩; clear BK103 BK104 HB hq_; have BK103 := n0_; have BK104 := n1_; have HB := n2_; clear n0_ n1_ n2_)); obtain ⟨_, _, _, _⟩ := czf2 BK103) | ((with_reducible refine gate_callee (f := 29) rfl ?_); refine goesL_ (some 23) rfl rfl Tryd.func29 (by kernel_rfl) rfl #[.agg #[.string a0_0, .int .i64 x104001_2], .int .i64 0] rfl (by (try simp only [mT_, mC_, mN_]); first | done | rfl) ?_; (with_reducible refine (lexer_cutter_peek.calls a0_0 x104001_2 0 t108 _ A15.out).mono ?_); rintro e w22 ⟨rfl, hb⟩; refine ⟨_, rfl, ?_⟩; replace BK103 := kB BK103 hb; replace BK104 := kB BK104 hb; replace HB := Aside0.mk (below_step (by repeat (first | (with_reducible first | exact HB.out | apply bA_ | apply bN_ | apply bD_ | refine bS_ ?_ GE103 | refine bS_ ?_ GE104) | exact HB.out)) hb); (try clear hb); (try clear hb2); (try clear hk); (try clear hi)) | ((with_reducible refine gate_callee (f := 44) rfl ?_); refine goesL_ (some 32) rfl rfl Tryd.func44 (by kernel_rfl) rfl #[.int .i64 a0_1] rfl (by (try simp only [mT_, mC_, mN_]); first | done | rfl) ?_; (with_reducible refine (lexer_wrong.calls a0_1 t109 t110 t111 t112 t113 t114 t115 t116 _ A17.out).mono ?_); rintro e w23 ⟨rfl, hb⟩; refine ⟨_, rfl, ?_⟩; replace BK103 := kB BK103 hb; replace BK104 := kB BK104 hb; replace HB := Aside0.mk (below_step (by repeat (first | (with_reducible first | exact HB.out | apply bA_ | apply bN_ | apply bD_ | refine bS_ ?_ GE103 | refine bS_ ?_ GE104) | exact HB.out)) hb); (try clear hb); (try clear hb2); (try clear hk); (try clear hi); obtain ⟨_, _, _, _, _, _, _, _, _, _, _, _, _, _⟩ := czf7 BK104))
      refine bodyPost_ret (results_ct rfl _ _ gb104 25 #[.int .i64 t109, .string t110, .int .i64 t111, .int .i64 t112, .string t113, .int .i64 t114, .int .i64 t115] (0, 0) _ rfl (by (with_reducible repeat (first | refine blk_drewN ?_ _ | refine blk_drew ?_ | refine blk_alloc ?_ _)); exact bp7 (kbW BK104)) Tryd.underlying25 rfl (by kernel_rfl)) rfl ?_
      exact ⟨by first | rfl | (simp <;> rfl) | (simp [*] <;> rfl), by repeat (first | (with_reducible first | exact HB.out | apply bA_ | apply bN_ | apply bD_ | refine bS_ ?_ GE103 | refine bS_ ?_ GE104) | exact HB.out)⟩
     ·
      rw [if_neg c16] at H
      have c16b0 : decide (x5_2 < (Int.tdiv ((-9223372036854775808) + ((t108 - 48) % 256)) 10)) = false := decide_eq_false c16
      clear c16
      replace H := Option.bind_eq_some_iff.mp H
      obtain ⟨t117, A250, H⟩ := H
      have A25 := Aside0.mk A250
      clear A250
      by_cases c26 : t117 = 95
      rotate_left
      ·
       rw [if_neg c26] at H
       have c26b0 : (t117 == 95) = false := beq_eq_false_iff_ne.mpr c26
       have c26b1 : (t117 != 95) = true := bne_iff_ne.mpr c26
       have H' := Aside0.mk H
       clear H
       have hnb49 := NB103_104.out
       have hnc49 := NB104_103.out
       obtain ⟨_, _, _, _⟩ := czf2 BK103
       go_wp2_with (first | ((with_reducible refine gate_callee (f := 29) rfl ?_); refine goesL_ (some 19) rfl rfl Tryd.func29 (by kernel_rfl) rfl #[.agg #[.string a0_0, .int .i64 x104001_2], .int .i64 0] rfl (by (try simp only [mT_, mC_, mN_]); first | done | rfl) ?_; (with_reducible refine (lexer_cutter_peek.calls a0_0 x104001_2 0 t106 _ A12.out).mono ?_); rintro e w51 ⟨rfl, hb⟩; refine ⟨_, rfl, ?_⟩; replace BK103 := kB BK103 hb; replace BK104 := kB BK104 hb; replace HB := Aside0.mk (below_step (by repeat (first | (with_reducible first | exact HB.out | apply bA_ | apply bN_ | apply bD_ | refine bS_ ?_ GE103 | refine bS_ ?_ GE104) | exact HB.out)) hb); (try clear hb); (try clear hb2); (try clear hk); (try clear hi)) | ((with_reducible refine gate_callee (f := 30) rfl ?_); refine goesL_ (some 21) rfl rfl Tryd.func30 (by kernel_rfl) rfl #[.int .i32 (wrap32 (t106))] rfl (by (try simp only [mT_, mC_, mN_]); first | done | rfl) ?_; (with_reducible refine (lexer_isDigit.calls (wrap32 (t106)) true _ A13.out).mono ?_); rintro e w' ⟨rfl, ⟨nd, rfl⟩⟩; refine ⟨_, rfl, ?_⟩; (try (rw [drewN_self w51]; generalize hq_ : World.drewN w51 _ = w51; have n0_ : Aside0 (w51.heap[gb103]? = some (.cells #[.string a0_0, .int .i64 x104001_2] 48 (0, 0))) := ⟨by rw [← hq_]; exact (kbW BK103)⟩; have n1_ : Aside0 (w51.heap[gb104]? = some (.cells #[.int .i64 x105000_2, .string x105001_2, .int .i64 x105002_2, .int .i64 x105003_2, .string x105004_2, .int .i64 x105005_2, .int .i64 x105006_2] 25 (0, 0))) := ⟨by rw [← hq_]; exact (kbW BK104)⟩; have n2_ : Aside0 (Below w.heap.size w w51) := ⟨by rw [← hq_]; exact (by repeat (first | (with_reducible first | exact HB.out | apply bA_ | apply bN_ | apply bD_ | refine bS_ ?_ GE103 | refine bS_ ?_ GE104) | exact HB.out))⟩; clear BK103 BK104 HB hq_; have BK103 := n0_; have BK104 := n1_; have HB := n2_; clear n0_ n1_ n2_)); obtain ⟨_, _, _, _⟩ := czf2 BK103) | ((with_reducible refine gate_callee (f := 29) rfl ?_); refine goesL_ (some 23) rfl rfl Tryd.func29 (by kernel_rfl) rfl #[.agg #[.string a0_0, .int .i64 x104001_2], .int .i64 0] rfl (by (try simp only [mT_, mC_, mN_]); first | done | rfl) ?_; (with_reducible refine (lexer_cutter_peek.calls a0_0 x104001_2 0 t108 _ A15.out).mono ?_); rintro e w53 ⟨rfl, hb⟩; refine ⟨_, rfl, ?_⟩; replace BK103 := kB BK103 hb; replace BK104 := kB BK104 hb; replace HB := Aside0.mk (below_step (by repeat (first | (with_reducible first | exact HB.out | apply bA_ | apply bN_ | apply bD_ | refine bS_ ?_ GE103 | refine bS_ ?_ GE104) | exact HB.out)) hb); (try clear hb); (try clear hb2); (try clear hk); (try clear hi); obtain ⟨_, _, _, _⟩ := czf2 BK103) | ((with_reducible refine gate_callee (f := 29) rfl ?_); refine goesL_ (some 44) rfl rfl Tryd.func29 (by kernel_rfl) rfl #[.agg #[.string a0_0, .int .i64 (wrap64 (x104001_2 + 1))], .int .i64 0] rfl (by (try simp only [mT_, mC_, mN_]); first | done | rfl) ?_; (with_reducible refine (lexer_cutter_peek.calls a0_0 (wrap64 (x104001_2 + 1)) 0 t117 _ A25.out).mono ?_); rintro e w55 ⟨rfl, hb⟩; refine ⟨_, rfl, ?_⟩; replace BK103 := Aside0.mk (blk_below (g := gb103) (o := .cells #[.string a0_0, .int .i64 (wrap64 (x104001_2 + 1))] 48 (0, 0)) (by (with_reducible repeat (first | refine blk_drewN ?_ _ | refine blk_drew ?_ | refine blk_alloc ?_ _)); refine blk_put (cs := #[.string a0_0, .int .i64 x104001_2]) ?_ 1 _ rfl; (with_reducible repeat (first | refine blk_drewN ?_ _ | refine blk_drew ?_ | refine blk_alloc ?_ _)); exact BK103.out) hb); replace BK104 := kBf BK104 (fun h_ => by (with_reducible repeat (first | refine blk_drewN ?_ _ | refine blk_drew ?_ | refine blk_alloc ?_ _)); refine blk_far ?_ NB104_103.out _; (with_reducible repeat (first | refine blk_drewN ?_ _ | refine blk_drew ?_ | refine blk_alloc ?_ _)); exact h_) hb; replace HB := Aside0.mk (below_step (by repeat (first | (with_reducible first | exact HB.out | apply bA_ | apply bN_ | apply bD_ | refine bS_ ?_ GE103 | refine bS_ ?_ GE104) | exact HB.out)) hb); (try clear hb); (try clear hb2); (try clear hk); (try clear hi)))
       go_roundg k2
       case measure => have := HJ2.out; have := HK2.out; omega
       case rel => exact ⟨(wrap64 ((wrap64 (10 * x5_2)) - ((t108 - 48) % 256))), (wrap64 (x104001_2 + 1)), (x105000_2), (x105001_2), (x105002_2), (x105003_2), (x105004_2), (x105005_2), (x105006_2), (by first | rfl | (simp; done) | (simp [bne, *]; done)), H', ⟨by have := HJ2.out; have := HK2.out; omega⟩, ⟨by (with_reducible repeat (first | refine blk_drewN ?_ _ | refine blk_drew ?_ | refine blk_alloc ?_ _)); exact BK103.out⟩, ⟨by (with_reducible repeat (first | refine blk_drewN ?_ _ | refine blk_drew ?_ | refine blk_alloc ?_ _)); exact BK104.out⟩, ⟨by repeat (first | (with_reducible first | exact HB.out | apply bA_ | apply bN_ | apply bD_ | refine bS_ ?_ GE103 | refine bS_ ?_ GE104) | exact HB.out)⟩⟩
      rw [if_pos c26] at H
      have c26b0 : (t117 == 95) = true := beq_iff_eq.mpr c26
      have c26b1 : (t117 != 95) = false := bne_eq_false_iff_eq.mpr c26
      clear c26
      replace H := Option.bind_eq_some_iff.mp H
      obtain ⟨t118, A270, H⟩ := H
      have A27 := Aside0.mk A270
      clear A270
      replace H := Option.bind_eq_some_iff.mp H
      obtain ⟨t119, A280, H⟩ := H
      have A28 := Aside0.mk A280
      clear A280
      by_cases c29 : t119 = true
      ·
       subst c29
       have H1 : (lexer_cutter_number.l0 k2 a0_1 (wrap64 ((wrap64 (10 * x5_2)) - ((t108 - 48) % 256))) x6_2 a0_0 (wrap64 ((wrap64 (x104001_2 + 1)) + 1))) = some (r1, r2, r3, r4, r5, r6, r7, r8) := by rw [if_pos rfl] at H; exact H
       clear H
       have H := H1
       clear H1
       have H' := Aside0.mk H
       clear H
       have hnb30 := NB103_104.out
       have hnc30 := NB104_103.out
       obtain ⟨_, _, _, _⟩ := czf2 BK103
       go_wp2_with (first | ((with_reducible refine gate_callee (f := 29) rfl ?_); refine goesL_ (some 19) rfl rfl Tryd.func29 (by kernel_rfl) rfl #[.agg #[.string a0_0, .int .i64 x104001_2], .int .i64 0] rfl (by (try simp only [mT_, mC_, mN_]); first | done | rfl) ?_; (with_reducible refine (lexer_cutter_peek.calls a0_0 x104001_2 0 t106 _ A12.out).mono ?_); rintro e w32 ⟨rfl, hb⟩; refine ⟨_, rfl, ?_⟩; replace BK103 := kB BK103 hb; replace BK104 := kB BK104 hb; replace HB := Aside0.mk (below_step (by repeat (first | (with_reducible first | exact HB.out | apply bA_ | apply bN_ | apply bD_ | refine bS_ ?_ GE103 | refine bS_ ?_ GE104) | exact HB.out)) hb); (try clear hb); (try clear hb2); (try clear hk); (try clear hi)) | ((with_reducible refine gate_callee (f := 30) rfl ?_); refine goesL_ (some 21) rfl rfl Tryd.func30 (by kernel_rfl) rfl #[.int .i32 (wrap32 (t106))] rfl (by (try simp only [mT_, mC_, mN_]); first | done | rfl) ?_; (with_reducible refine (lexer_isDigit.calls (wrap32 (t106)) true _ A13.out).mono ?_); rintro e w' ⟨rfl, ⟨nd, rfl⟩⟩; refine ⟨_, rfl, ?_⟩; (try (rw [drewN_self w32]; generalize hq_ : World.drewN w32 _ = w32; have n0_ : Aside0 (w32.heap[gb103]? = some (.cells #[.string a0_0, .int .i64 x104001_2] 48 (0, 0))) := ⟨by rw [← hq_]; exact (kbW BK103)⟩; have n1_ : Aside0 (w32.heap[gb104]? = some (.cells #[.int .i64 x105000_2, .string x105001_2, .int .i64 x105002_2, .int .i64 x105003_2, .string x105004_2, .int .i64 x105005_2, .int .i64 x105006_2] 25 (0, 0))) := ⟨by rw [← hq_]; exact (kbW BK104)⟩; have n2_ : Aside0 (Below w.heap.size w w32) := ⟨by rw [← hq_]; exact (by repeat (first | (with_reducible first | exact HB.out | apply bA_ | apply bN_ | apply bD_ | refine bS_ ?_ GE103 | refine bS_ ?_ GE104) | exact HB.out))⟩; clear BK103 BK104 HB hq_; have BK103 := n0_; have BK104 := n1_; have HB := n2_; clear n0_ n1_ n2_)); obtain ⟨_, _, _, _⟩ := czf2 BK103) | ((with_reducible refine gate_callee (f := 29) rfl ?_); refine goesL_ (some 23) rfl rfl Tryd.func29 (by kernel_rfl) rfl #[.agg #[.string a0_0, .int .i64 x104001_2], .int .i64 0] rfl (by (try simp only [mT_, mC_, mN_]); first | done | rfl) ?_; (with_reducible refine (lexer_cutter_peek.calls a0_0 x104001_2 0 t108 _ A15.out).mono ?_); rintro e w34 ⟨rfl, hb⟩; refine ⟨_, rfl, ?_⟩; replace BK103 := kB BK103 hb; replace BK104 := kB BK104 hb; replace HB := Aside0.mk (below_step (by repeat (first | (with_reducible first | exact HB.out | apply bA_ | apply bN_ | apply bD_ | refine bS_ ?_ GE103 | refine bS_ ?_ GE104) | exact HB.out)) hb); (try clear hb); (try clear hb2); (try clear hk); (try clear hi); obtain ⟨_, _, _, _⟩ := czf2 BK103) | ((with_reducible refine gate_callee (f := 29) rfl ?_); refine goesL_ (some 44) rfl rfl Tryd.func29 (by kernel_rfl) rfl #[.agg #[.string a0_0, .int .i64 (wrap64 (x104001_2 + 1))], .int .i64 0] rfl (by (try simp only [mT_, mC_, mN_]); first | done | rfl) ?_; (with_reducible refine (lexer_cutter_peek.calls a0_0 (wrap64 (x104001_2 + 1)) 0 t117 _ A25.out).mono ?_); rintro e w36 ⟨rfl, hb⟩; refine ⟨_, rfl, ?_⟩; replace BK103 := Aside0.mk (blk_below (g := gb103) (o := .cells #[.string a0_0, .int .i64 (wrap64 (x104001_2 + 1))] 48 (0, 0)) (by (with_reducible repeat (first | refine blk_drewN ?_ _ | refine blk_drew ?_ | refine blk_alloc ?_ _)); refine blk_put (cs := #[.string a0_0, .int .i64 x104001_2]) ?_ 1 _ rfl; (with_reducible repeat (first | refine blk_drewN ?_ _ | refine blk_drew ?_ | refine blk_alloc ?_ _)); exact BK103.out) hb); replace BK104 := kBf BK104 (fun h_ => by (with_reducible repeat (first | refine blk_drewN ?_ _ | refine blk_drew ?_ | refine blk_alloc ?_ _)); refine blk_far ?_ NB104_103.out _; (with_reducible repeat (first | refine blk_drewN ?_ _ | refine blk_drew ?_ | refine blk_alloc ?_ _)); exact h_) hb; replace HB := Aside0.mk (below_step (by repeat (first | (with_reducible first | exact HB.out | apply bA_ | apply bN_ | apply bD_ | refine bS_ ?_ GE103 | refine bS_ ?_ GE104) | exact HB.out)) hb); (try clear hb); (try clear hb2); (try clear hk); (try clear hi); obtain ⟨_, _, _, _⟩ := czf2 BK103) | (go_at_call 29; (with_reducible refine (lexer_cutter_peek.calls a0_0 (wrap64 (x104001_2 + 1)) 1 t118 _ A27.out).mono ?_); rintro e w38 ⟨rfl, hb⟩; replace BK103 := kB BK103 hb; replace BK104 := kB BK104 hb; replace HB := Aside0.mk (below_step (by repeat (first | (with_reducible first | exact HB.out | apply bA_ | apply bN_ | apply bD_ | refine bS_ ?_ GE103 | refine bS_ ?_ GE104) | exact HB.out)) hb); (try clear hb); (try clear hb2); (try clear hk); (try clear hi)) | (go_at_call 30; (with_reducible refine (lexer_isDigit.calls (wrap32 (t118)) true _ A28.out).mono ?_); rintro e w' ⟨rfl, ⟨nd, rfl⟩⟩; (try (rw [drewN_self w38]; generalize hq_ : World.drewN w38 _ = w38; have n0_ : Aside0 (w38.heap[gb103]? = some (.cells #[.string a0_0, .int .i64 (wrap64 (x104001_2 + 1))] 48 (0, 0))) := ⟨by rw [← hq_]; exact (kbW BK103)⟩; have n1_ : Aside0 (w38.heap[gb104]? = some (.cells #[.int .i64 x105000_2, .string x105001_2, .int .i64 x105002_2, .int .i64 x105003_2, .string x105004_2, .int .i64 x105005_2, .int .i64 x105006_2] 25 (0, 0))) := ⟨by rw [← hq_]; exact (kbW BK104)⟩; have n2_ : Aside0 (Below w.heap.size w w38) := ⟨by rw [← hq_]; exact (by repeat (first | (with_reducible first | exact HB.out | apply bA_ | apply bN_ | apply bD_ | refine bS_ ?_ GE103 | refine bS_ ?_ GE104) | exact HB.out))⟩; clear BK103 BK104 HB hq_; have BK103 := n0_; have BK104 := n1_; have HB := n2_; clear n0_ n1_ n2_)); obtain ⟨_, _, _, _⟩ := czf2 BK103))
       go_roundg k2
       case measure => have := HJ2.out; have := HK2.out; omega
       case rel => exact ⟨(wrap64 ((wrap64 (10 * x5_2)) - ((t108 - 48) % 256))), (wrap64 ((wrap64 (x104001_2 + 1)) + 1)), (x105000_2), (x105001_2), (x105002_2), (x105003_2), (x105004_2), (x105005_2), (x105006_2), (by first | rfl | (simp; done) | (simp [bne, *]; done)), H', ⟨by have := HJ2.out; have := HK2.out; omega⟩, ⟨by (with_reducible repeat (first | refine blk_drewN ?_ _ | refine blk_drew ?_ | refine blk_alloc ?_ _)); refine blk_put (cs := #[.string a0_0, .int .i64 (wrap64 (x104001_2 + 1))]) ?_ 1 _ rfl; (with_reducible repeat (first | refine blk_drewN ?_ _ | refine blk_drew ?_ | refine blk_alloc ?_ _)); exact BK103.out⟩, ⟨by (with_reducible repeat (first | refine blk_drewN ?_ _ | refine blk_drew ?_ | refine blk_alloc ?_ _)); refine blk_far ?_ NB104_103.out _; (with_reducible repeat (first | refine blk_drewN ?_ _ | refine blk_drew ?_ | refine blk_alloc ?_ _)); exact BK104.out⟩, ⟨by repeat (first | (with_reducible first | exact HB.out | apply bA_ | apply bN_ | apply bD_ | refine bS_ ?_ GE103 | refine bS_ ?_ GE104) | exact HB.out)⟩⟩
      ·
       replace c29 := Bool.eq_false_iff.mpr c29
       subst c29
       have H1 : (lexer_cutter_number.l0 k2 a0_1 (wrap64 ((wrap64 (10 * x5_2)) - ((t108 - 48) % 256))) x6_2 a0_0 (wrap64 (x104001_2 + 1))) = some (r1, r2, r3, r4, r5, r6, r7, r8) := by rw [if_neg (show ¬ (false = true) by decide)] at H; exact H
       clear H
       have H := H1
       clear H1
       have H' := Aside0.mk H
       clear H
       have hnb40 := NB103_104.out
       have hnc40 := NB104_103.out
       obtain ⟨_, _, _, _⟩ := czf2 BK103
       go_wp2_with (first | ((with_reducible refine gate_callee (f := 29) rfl ?_); refine goesL_ (some 19) rfl rfl Tryd.func29 (by kernel_rfl) rfl #[.agg #[.string a0_0, .int .i64 x104001_2], .int .i64 0] rfl (by (try simp only [mT_, mC_, mN_]); first | done | rfl) ?_; (with_reducible refine (lexer_cutter_peek.calls a0_0 x104001_2 0 t106 _ A12.out).mono ?_); rintro e w42 ⟨rfl, hb⟩; refine ⟨_, rfl, ?_⟩; replace BK103 := kB BK103 hb; replace BK104 := kB BK104 hb; replace HB := Aside0.mk (below_step (by repeat (first | (with_reducible first | exact HB.out | apply bA_ | apply bN_ | apply bD_ | refine bS_ ?_ GE103 | refine bS_ ?_ GE104) | exact HB.out)) hb); (try clear hb); (try clear hb2); (try clear hk); (try clear hi)) | ((with_reducible refine gate_callee (f := 30) rfl ?_); refine goesL_ (some 21) rfl rfl Tryd.func30 (by kernel_rfl) rfl #[.int .i32 (wrap32 (t106))] rfl (by (try simp only [mT_, mC_, mN_]); first | done | rfl) ?_; (with_reducible refine (lexer_isDigit.calls (wrap32 (t106)) true _ A13.out).mono ?_); rintro e w' ⟨rfl, ⟨nd, rfl⟩⟩; refine ⟨_, rfl, ?_⟩; (try (rw [drewN_self w42]; generalize hq_ : World.drewN w42 _ = w42; have n0_ : Aside0 (w42.heap[gb103]? = some (.cells #[.string a0_0, .int .i64 x104001_2] 48 (0, 0))) := ⟨by rw [← hq_]; exact (kbW BK103)⟩; have n1_ : Aside0 (w42.heap[gb104]? = some (.cells #[.int .i64 x105000_2, .string x105001_2, .int .i64 x105002_2, .int .i64 x105003_2, .string x105004_2, .int .i64 x105005_2, .int .i64 x105006_2] 25 (0, 0))) := ⟨by rw [← hq_]; exact (kbW BK104)⟩; have n2_ : Aside0 (Below w.heap.size w w42) := ⟨by rw [← hq_]; exact (by repeat (first | (with_reducible first | exact HB.out | apply bA_ | apply bN_ | apply bD_ | refine bS_ ?_ GE103 | refine bS_ ?_ GE104) | exact HB.out))⟩; clear BK103 BK104 HB hq_; have BK103 := n0_; have BK104 := n1_; have HB := n2_; clear n0_ n1_ n2_)); obtain ⟨_, _, _, _⟩ := czf2 BK103) | ((with_reducible refine gate_callee (f := 29) rfl ?_); refine goesL_ (some 23) rfl rfl Tryd.func29 (by kernel_rfl) rfl #[.agg #[.string a0_0, .int .i64 x104001_2], .int .i64 0] rfl (by (try simp only [mT_, mC_, mN_]); first | done | rfl) ?_; (with_reducible refine (lexer_cutter_peek.calls a0_0 x104001_2 0 t108 _ A15.out).mono ?_); rintro e w44 ⟨rfl, hb⟩; refine ⟨_, rfl, ?_⟩; replace BK103 := kB BK103 hb; replace BK104 := kB BK104 hb; replace HB := Aside0.mk (below_step (by repeat (first | (with_reducible first | exact HB.out | apply bA_ | apply bN_ | apply bD_ | refine bS_ ?_ GE103 | refine bS_ ?_ GE104) | exact HB.out)) hb); (try clear hb); (try clear hb2); (try clear hk); (try clear hi); obtain ⟨_, _, _, _⟩ := czf2 BK103) | ((with_reducible refine gate_callee (f := 29) rfl ?_); refine goesL_ (some 44) rfl rfl Tryd.func29 (by kernel_rfl) rfl #[.agg #[.string a0_0, .int .i64 (wrap64 (x104001_2 + 1))], .int .i64 0] rfl (by (try simp only [mT_, mC_, mN_]); first | done | rfl) ?_; (with_reducible refine (lexer_cutter_peek.calls a0_0 (wrap64 (x104001_2 + 1)) 0 t117 _ A25.out).mono ?_); rintro e w46 ⟨rfl, hb⟩; refine ⟨_, rfl, ?_⟩; replace BK103 := Aside0.mk (blk_below (g := gb103) (o := .cells #[.string a0_0, .int .i64 (wrap64 (x104001_2 + 1))] 48 (0, 0)) (by (with_reducible repeat (first | refine blk_drewN ?_ _ | refine blk_drew ?_ | refine blk_alloc ?_ _)); refine blk_put (cs := #[.string a0_0, .int .i64 x104001_2]) ?_ 1 _ rfl; (with_reducible repeat (first | refine blk_drewN ?_ _ | refine blk_drew ?_ | refine blk_alloc ?_ _)); exact BK103.out) hb); replace BK104 := kBf BK104 (fun h_ => by (with_reducible repeat (first | refine blk_drewN ?_ _ | refine blk_drew ?_ | refine blk_alloc ?_ _)); refine blk_far ?_ NB104_103.out _; (with_reducible repeat (first | refine blk_drewN ?_ _ | refine blk_drew ?_ | refine blk_alloc ?_ _)); exact h_) hb; replace HB := Aside0.mk (below_step (by repeat (first | (with_reducible first | exact HB.out | apply bA_ | apply bN_ | apply bD_ | refine bS_ ?_ GE103 | refine bS_ ?_ GE104) | exact HB.out)) hb); (try clear hb); (try clear hb2); (try clear hk); (try clear hi); obtain ⟨_, _, _, _⟩ := czf2 BK103) | (go_at_call 29; (with_reducible refine (lexer_cutter_peek.calls a0_0 (wrap64 (x104001_2 + 1)) 1 t118 _ A27.out).mono ?_); rintro e w48 ⟨rfl, hb⟩; replace BK103 := kB BK103 hb; replace BK104 := kB BK104 hb; replace HB := Aside0.mk (below_step (by repeat (first | (with_reducible first | exact HB.out | apply bA_ | apply bN_ | apply bD_ | refine bS_ ?_ GE103 | refine bS_ ?_ GE104) | exact HB.out)) hb); (try clear hb); (try clear hb2); (try clear hk); (try clear hi)) | (go_at_call 30; (with_reducible refine (lexer_isDigit.calls (wrap32 (t118)) false _ A28.out).mono ?_); rintro e w' ⟨rfl, ⟨nd, rfl⟩⟩))
       go_roundg k2
       case measure => have := HJ2.out; have := HK2.out; omega
       case rel => exact ⟨(wrap64 ((wrap64 (10 * x5_2)) - ((t108 - 48) % 256))), (wrap64 (x104001_2 + 1)), (x105000_2), (x105001_2), (x105002_2), (x105003_2), (x105004_2), (x105005_2), (x105006_2), (by first | rfl | (simp; done) | (simp [bne, *]; done)), H', ⟨by have := HJ2.out; have := HK2.out; omega⟩, ⟨by (with_reducible repeat (first | refine blk_drewN ?_ _ | refine blk_drew ?_ | refine blk_alloc ?_ _)); exact BK103.out⟩, ⟨by (with_reducible repeat (first | refine blk_drewN ?_ _ | refine blk_drew ?_ | refine blk_alloc ?_ _)); exact BK104.out⟩, ⟨by repeat (first | (with_reducible first | exact HB.out | apply bA_ | apply bN_ | apply bD_ | refine bS_ ?_ GE103 | refine bS_ ?_ GE104) | exact HB.out)⟩⟩
end Go.Proofs.YtfaogccfiklinaaDoor.Q
