/- Lemmas for this claim's walk: no condition of their own. -/
import Derived.Test.YtfaogccfiklinaaDoorKfSq
import Derived.Test.YtfaogccfiklinaaDoorKfQx0
import Derived.Test.YtfaogccfiklinaaDoorKfQx7
import Derived.Test.YtfaogccfiklinaaDoorKfQx8
import Derived.Test.YtfaogccfiklinaaDoorKfQx10
namespace Go.Proofs.YtfaogccfiklinaaDoor.Q
open Go.RowKit Go.Proofs.YtfaogccfiklinaaDoorW.PrintWords Go.Proofs.YtfaogccfiklinaaDoorW.PrintLast Go.Proofs.YtfaogccfiklinaaDoorW.PrintMore
attribute [local go_sem] max2_int min2_int max_two min_two max_three min_three max_four min_four
set_option linter.unusedVariables false
set_option linter.unusedSimpArgs false
def lexer_cutter_blank.l0 : Nat → ByteArray → Int → Option (ByteArray × Int)
 | 0, _, _ => none
 | k + 1, x244000, x244001 => (lexer_cutter_run_26.f x244000 x244001).bind fun t245 => ((lexer_cutter_rest.f x244000 (wrap64 (x244001 + t245))).bind fun t246 => ((strings_HasPrefix.f t246 (⟨#[45, 45]⟩ : ByteArray)).bind fun t247 => (if t247 = true then ((lexer_cutter_run_28.f x244000 (wrap64 (x244001 + t245))).bind fun t248 => (lexer_cutter_blank.l0 k x244000 (wrap64 ((wrap64 (x244001 + t245)) + t248)))) else (some (x244000, wrap64 (x244001 + t245))))))
def lexer_cutter_blank.f (k : Nat) (a0_0 : ByteArray) (a0_1 : Int) : Option (ByteArray × Int) := lexer_cutter_blank.l0 k a0_0 a0_1
theorem lexer_cutter_blank.mono_l : ∀ k, (∀ y0 y1, LeO (lexer_cutter_blank.l0 k y0 y1) (lexer_cutter_blank.l0 (k + 1) y0 y1))
 | 0 => fun _ _ r h => by simp [lexer_cutter_blank.l0] at h
 | k + 1 => by
  have ih0 := lexer_cutter_blank.mono_l k
  ·
   intro y0 y1
   unfold lexer_cutter_blank.l0
   repeat' first
   | (with_reducible exact ih0 _ _)
   | (with_reducible exact LeO.refl _)
   | (with_reducible exact LeO.none _)
   | (with_reducible refine LeO.ite ?_ ?_)
   | (with_reducible refine LeO.bind ?_ (fun _ => ?_))
   | exact ih0 _ _
   | exact LeO.none _
   | refine LeO.ite ?_ ?_
   | refine LeO.bind ?_ (fun _ => ?_)
theorem lexer_cutter_blank.mono : ∀ a0 a1 k, LeO (lexer_cutter_blank.f k a0 a1) (lexer_cutter_blank.f (k + 1) a0 a1) := by
 intro a0 a1 k
 have ih0 := lexer_cutter_blank.mono_l k
 unfold lexer_cutter_blank.f
 repeat' first
   | (with_reducible exact ih0 _ _)
   | (with_reducible exact LeO.refl _)
   | (with_reducible exact LeO.none _)
   | (with_reducible refine LeO.ite ?_ ?_)
   | (with_reducible refine LeO.bind ?_ (fun _ => ?_))
   | exact ih0 _ _
   | exact LeO.none _
   | refine LeO.ite ?_ ?_
   | refine LeO.bind ?_ (fun _ => ?_)
set_option maxHeartbeats 8000000 in
set_option maxRecDepth 100000 in
theorem lexer_cutter_blank.calls (k : Nat) (a0_0 : ByteArray) (a0_1 : Int) (r1 : ByteArray) (r2 : Int) (w : World) (h : lexer_cutter_blank.f k a0_0 a0_1 = some (r1, r2)) :
  Calls Tryd.prog 17 #[.agg #[.string a0_0, .int .i64 a0_1]] w fun e w' => e = .returned (.agg #[.string r1, .int .i64 r2]) ∧ Below w.heap.size w w' := by
 have hu48 := Tryd.underlying48
 have HB := Aside0.mk (Below.refl w.heap.size w)
 have H : (lexer_cutter_blank.l0 k a0_0 a0_1) = some (r1, r2) := h
 clear h
 have H' := Aside0.mk H
 clear H
 go_enter Tryd.func17, Tryd.ntmps17
 go_wp2_with (first | ((with_reducible refine gate_dst (N := 1) rfl ?_); refine box_event ?hg (N := 1) ?hd (cs := #[.string a0_0, .int .i64 a0_1]) (t := 48) ?hr ?_; (case hd => rfl); (case hg => rfl); (case hr => first | (go_simp; done) | (go_simp; rfl)); intro gb243 hg w2 hbox hb; have BK243 := Aside0.mk (hbox); have GW243 := Aside0.mk ((by rw [hg]; exact (bZ_ (kwW HB)) : w.heap.size ≤ gb243)); replace HB := Aside0.mk (below_step (kwW HB) hb); have GE243 := GW243; clear hb hbox hg) | ((with_reducible refine gate_dst (N := 2) rfl ?_); refine box_event ?hg (N := 2) ?hd (cs := #[.string (⟨#[]⟩ : ByteArray), .int .i64 0]) (t := 48) ?hr ?_; (case hd => rfl); (case hg => rfl); (case hr => first | (go_simp; done) | (go_simp; rfl)); intro gb244 hg w3 hbox hb; have BK244 := Aside0.mk (hbox); have GW244 := Aside0.mk ((by rw [hg]; exact (bZ_ (by repeat (first | (with_reducible first | exact HB.out | apply bA_ | apply bN_ | apply bD_ | refine bS_ ?_ GE243) | exact HB.out))) : w.heap.size ≤ gb244)); replace HB := Aside0.mk (below_step (by repeat (first | (with_reducible first | exact HB.out | apply bA_ | apply bN_ | apply bD_ | refine bS_ ?_ GE243) | exact HB.out)) hb); have GE244 := GW244; have NB243_244 := Aside0.mk ((by rw [hg]; exact Nat.ne_of_lt (blk_lt (kbW BK243)) : gb243 ≠ gb244)); have NB244_243 := Aside0.mk ((by rw [hg]; exact Nat.ne_of_gt (blk_lt (kbW BK243)) : gb244 ≠ gb243)); replace BK243 := kB BK243 hb; clear hb hbox hg))
 (try simp only [Act.put, List.setIfInBounds_toArray, List.set_cons_zero, List.set_cons_succ])
 go_loopg [] k (fun kq w' => ∃ (x244001_1 : Int) (x245000_1 : ByteArray) (x245001_1 : Int), Aside0 (lexer_cutter_blank.l0 kq a0_0 x244001_1 = some (r1, r2)) ∧ Aside0 (kq ≤ k) ∧ Aside0 (w'.heap[gb243]? = some (.cells #[.string a0_0, .int .i64 x244001_1] 48 (0, 0))) ∧ Aside0 (w'.heap[gb244]? = some (.cells #[.string x245000_1, .int .i64 x245001_1] 48 (0, 0))) ∧ Aside0 (Below w.heap.size w w'))
 case atStart => exact ⟨(a0_1), ((⟨#[]⟩ : ByteArray)), (0), H', ⟨Nat.le_refl _⟩, ⟨by (with_reducible repeat (first | refine blk_drewN ?_ _ | refine blk_drew ?_ | refine blk_alloc ?_ _)); exact BK243.out⟩, ⟨by (with_reducible repeat (first | refine blk_drewN ?_ _ | refine blk_drew ?_ | refine blk_alloc ?_ _)); exact BK244.out⟩, ⟨by repeat (first | (with_reducible first | exact HB.out | apply bA_ | apply bN_ | apply bD_ | refine bS_ ?_ GE243 | refine bS_ ?_ GE244) | exact HB.out)⟩⟩
 case round =>
  clear H'
  try clear c1
  try clear p2
  obtain ⟨x244001_1, x245000_1, x245001_1, HA, HK1, BK243, BK244, HB⟩ := hrel
  cases gk with
  | zero => exact absurd HA.out (by simp [lexer_cutter_blank.l0])
  | succ k1 =>
   have H := HA.out
   clear HA
   simp only [lexer_cutter_blank.l0] at H
   replace H := Option.bind_eq_some_iff.mp H
   obtain ⟨t245, A40, H⟩ := H
   have A4 := Aside0.mk A40
   clear A40
   replace H := Option.bind_eq_some_iff.mp H
   obtain ⟨t246, A50, H⟩ := H
   have A5 := Aside0.mk A50
   clear A50
   replace H := Option.bind_eq_some_iff.mp H
   obtain ⟨t247, A60, H⟩ := H
   have A6 := Aside0.mk A60
   clear A60
   by_cases c7 : t247 = true
   rotate_left
   ·
    replace c7 := Bool.eq_false_iff.mpr c7
    subst c7
    have H1 : (some (a0_0, wrap64 (x244001_1 + t245))) = some (r1, r2) := by rw [if_neg (show ¬ (false = true) by decide)] at H; exact H
    clear H
    have H := H1
    clear H1
    simp only [Option.some.injEq, Prod.mk.injEq] at H
    obtain ⟨rfl, rfl⟩ := H
    try go_wp2
    replace BK243 := Aside0.mk (blk_drew BK243.out)
    replace BK244 := Aside0.mk (blk_drew BK244.out)
    replace HB := Aside0.mk (below_drew1 HB.out)
    refine start_ (n := 7) (S := fun w' => w'.cell? ⟨gb243, 0, none⟩ = some (.string a0_0) ∧ w'.cell? ⟨gb243, 1, none⟩ = some (.int .i64 x244001_1)) (ds := [6]) (tf_ 0 7) (by kernel_rfl) rfl rfl (cd2 BK243) (fun hHeld => ?_)
    generalize wr.drew = w18 at BK243 BK244 HB hHeld ⊢
    refine pure_ (i := 0) (N := some 3) (v := ?_) (a' := ?_) (tf_ 1 6) rfl rfl (by kernel_rfl) (fun _ _ _ h => h) (Or.inl ⟨by rfl, ?_⟩) ?_ ?_
    rotate_left; · (intro w'; go_simp; with_reducible rfl)
    rotate_left; · (simp only [Act.put, sT_, sO_, sN_, i64_w, i32_w]; rfl)
    refine take_ (i := 1) (N := some 4) (v := ?_) (a' := ?_) (tf_ 2 5) rfl rfl (by kernel_rfl) (fun _ _ _ h => h) (Or.inl ⟨by rfl, ?_⟩) hHeld ?_ ?_
    rotate_left; · (rintro w' ⟨s0, s1⟩; go_simp; with_reducible rfl)
    rotate_left; · (simp only [Act.put, sT_, sO_, sN_, i64_w, i32_w]; rfl)
    refine take_ (i := 2) (N := some 5) (v := ?_) (a' := ?_) (tf_ 3 4) rfl rfl (by kernel_rfl) (fun _ _ _ h => h) (Or.inl ⟨by rfl, ?_⟩) hHeld ?_ ?_
    rotate_left; · (rintro w' ⟨s0, s1⟩; go_simp; with_reducible rfl)
    rotate_left; · (simp only [Act.put, sT_, sO_, sN_, i64_w, i32_w]; rfl)
    refine one_ (i := 3) (N := some 6) (tf_ 4 3) rfl rfl (by kernel_rfl) (by decide) (fun K hK => ?_)
    refine goes_ Tryd.func25 (by kernel_rfl) rfl #[.agg #[.string a0_0, .int .i64 x244001_1], .func (.func 26) #[] #[]] (by rfl) rfl rfl (by (try simp only [mT_, mC_, mN_]); first | done | rfl) ?_
    with_reducible refine (lexer_cutter_run_26.calls a0_0 x244001_1  t245 _ A4.out).mono ?_
    rintro e w19 ⟨rfl, hb⟩
    refine ⟨_, rfl, ?_⟩
    replace BK243 := kB BK243 hb
    replace BK244 := kB BK244 hb
    replace HB := Aside0.mk (below_step (by repeat (first | (with_reducible first | exact HB.out | apply bA_ | apply bN_ | apply bD_ | refine bS_ ?_ GE243 | refine bS_ ?_ GE244) | exact HB.out)) hb)
    (try clear hb)
    (try clear hb2)
    (try clear hk)
    (try clear hi)
    refine hK.out _ _ (cd2 BK243) (fun hHeld => ?_)
    clear hK K
    refine norm_ (a' := ?_) ?_ ?_
    rotate_left
    ·
     show Act.put _ (some 6) _ = _
     simp only [Act.put, sT_, sO_, sN_, i64_w, i32_w]
     rfl
    refine pure_ (i := 4) (N := some 7) (v := ?_) (a' := ?_) (tf_ 5 2) rfl rfl (by kernel_rfl) (fun _ _ _ h => h) (Or.inl ⟨by rfl, ?_⟩) ?_ ?_
    rotate_left; · (intro w'; go_simp; with_reducible rfl)
    rotate_left; · (simp only [Act.put, sT_, sO_, sN_, i64_w, i32_w]; rfl)
    refine pure_ (i := 5) (N := some 8) (v := ?_) (a' := ?_) (tf_ 6 1) rfl rfl (by kernel_rfl) (fun _ _ _ h => h) (Or.inl ⟨by rfl, ?_⟩) ?_ ?_
    rotate_left; · (intro w'; go_simp; with_reducible rfl)
    rotate_left; · (simp only [Act.put, sT_, sO_, sN_, i64_w, i32_w]; rfl)
    refine last_ (i := 6) (N := none) (tf_ 7 0) rfl rfl (by kernel_rfl) (by decide) (fun K hK => ?_)
    have hs20 : w19.cell? ⟨gb243, 1, none⟩ = some (.int .i64 x244001_1) := (blk_cell BK243.out 1).trans rfl
    have hfs20 := blk_frozen BK243.out 1
    have hns20_1 := NB244_243.out
    have hms20_1 := NB243_244.out
    refine skip_ (w1 := ?_) (by rfl) rfl ?_ ?_
    rotate_left
    ·
     go_simp
     rfl
    refine hK.out _ _ ?_
    clear hK K
    refine done_ (by kernel_rfl) ?_
    have hnb21 := NB243_244.out
    have hnc21 := NB244_243.out
    obtain ⟨_, _, _, _⟩ := czf2 BK243
    try go_wp2_with (first | ((with_reducible refine gate_callee (f := 18) rfl ?_); refine goesL_ (some 10) rfl rfl Tryd.func18 (by kernel_rfl) rfl #[.agg #[.string a0_0, .int .i64 (wrap64 (x244001_1 + t245))]] rfl (by (try simp only [mT_, mC_, mN_]); first | done | rfl) ?_; (with_reducible refine (lexer_cutter_rest.calls a0_0 (wrap64 (x244001_1 + t245)) t246 _ A5.out).mono ?_); rintro e w23 ⟨rfl, hb⟩; refine ⟨_, rfl, ?_⟩; replace BK243 := Aside0.mk (blk_below (g := gb243) (o := .cells #[.string a0_0, .int .i64 (wrap64 (x244001_1 + t245))] 48 (0, 0)) (by (with_reducible repeat (first | refine blk_drewN ?_ _ | refine blk_drew ?_ | refine blk_alloc ?_ _)); refine blk_put (cs := #[.string a0_0, .int .i64 x244001_1]) ?_ 1 _ rfl; (with_reducible repeat (first | refine blk_drewN ?_ _ | refine blk_drew ?_ | refine blk_alloc ?_ _)); exact BK243.out) hb); replace BK244 := kBf BK244 (fun h_ => by (with_reducible repeat (first | refine blk_drewN ?_ _ | refine blk_drew ?_ | refine blk_alloc ?_ _)); refine blk_far ?_ NB244_243.out _; (with_reducible repeat (first | refine blk_drewN ?_ _ | refine blk_drew ?_ | refine blk_alloc ?_ _)); exact h_) hb; replace HB := Aside0.mk (below_step (by repeat (first | (with_reducible first | exact HB.out | apply bA_ | apply bN_ | apply bD_ | refine bS_ ?_ GE243 | refine bS_ ?_ GE244) | exact HB.out)) hb); (try clear hb); (try clear hb2); (try clear hk); (try clear hi)) | ((with_reducible refine gate_callee (f := 27) rfl ?_); refine goesL_ (some 11) rfl rfl Tryd.func27 (by kernel_rfl) rfl #[.string t246, .string (⟨#[45, 45]⟩ : ByteArray)] rfl (by (try simp only [mT_, mC_, mN_]); first | done | rfl) ?_; (with_reducible refine (strings_HasPrefix.calls t246 (⟨#[45, 45]⟩ : ByteArray) false _ A6.out).mono ?_); rintro e w' ⟨rfl, ⟨nd, rfl⟩⟩; refine ⟨_, rfl, ?_⟩; (try (rw [drewN_self w23]; generalize hq_ : World.drewN w23 _ = w23; have n0_ : Aside0 (w23.heap[gb243]? = some (.cells #[.string a0_0, .int .i64 (wrap64 (x244001_1 + t245))] 48 (0, 0))) := ⟨by rw [← hq_]; exact (kbW BK243)⟩; have n1_ : Aside0 (w23.heap[gb244]? = some (.cells #[.string x245000_1, .int .i64 x245001_1] 48 (0, 0))) := ⟨by rw [← hq_]; exact (kbW BK244)⟩; have n2_ : Aside0 (Below w.heap.size w w23) := ⟨by rw [← hq_]; exact (by repeat (first | (with_reducible first | exact HB.out | apply bA_ | apply bN_ | apply bD_ | refine bS_ ?_ GE243 | refine bS_ ?_ GE244) | exact HB.out))⟩; clear BK243 BK244 HB hq_; have BK243 := n0_; have BK244 := n1_; have HB := n2_; clear n0_ n1_ n2_)); obtain ⟨_, _, _, _⟩ := czf2 BK243; obtain ⟨_, _, _, _⟩ := czf2 BK244))
    refine bodyPost_ret (results_cell_row rfl _ _ gb244 48 #[.string a0_0, .int .i64 (wrap64 (x244001_1 + t245))] (0, 0) _ rfl (by (with_reducible repeat (first | refine blk_drewN ?_ _ | refine blk_drew ?_ | refine blk_alloc ?_ _)); refine blk_put (cs := #[.string a0_0, .int .i64 x245001_1]) ?_ 1 _ rfl; (with_reducible repeat (first | refine blk_drewN ?_ _ | refine blk_drew ?_ | refine blk_alloc ?_ _)); refine blk_put (cs := #[.string x245000_1, .int .i64 x245001_1]) ?_ 0 _ rfl; (with_reducible repeat (first | refine blk_drewN ?_ _ | refine blk_drew ?_ | refine blk_alloc ?_ _)); exact BK244.out) Tryd.underlying48 rfl (by kernel_rfl)) rfl ?_
    exact ⟨by first | rfl | (simp <;> rfl) | (simp [*] <;> rfl), by repeat (first | (with_reducible first | exact HB.out | apply bA_ | apply bN_ | apply bD_ | refine bS_ ?_ GE243 | refine bS_ ?_ GE244) | exact HB.out)⟩
   subst c7
   have H1 : ((lexer_cutter_run_28.f a0_0 (wrap64 (x244001_1 + t245))).bind fun t248 => (lexer_cutter_blank.l0 k1 a0_0 (wrap64 ((wrap64 (x244001_1 + t245)) + t248)))) = some (r1, r2) := by rw [if_pos rfl] at H; exact H
   clear H
   have H := H1
   clear H1
   replace H := Option.bind_eq_some_iff.mp H
   obtain ⟨t248, A80, H⟩ := H
   have A8 := Aside0.mk A80
   clear A80
   have H' := Aside0.mk H
   clear H
   try go_wp2
   replace BK243 := Aside0.mk (blk_drew BK243.out)
   replace BK244 := Aside0.mk (blk_drew BK244.out)
   replace HB := Aside0.mk (below_drew1 HB.out)
   refine start_ (n := 7) (S := fun w' => w'.cell? ⟨gb243, 0, none⟩ = some (.string a0_0) ∧ w'.cell? ⟨gb243, 1, none⟩ = some (.int .i64 x244001_1)) (ds := [6]) (tf_ 0 7) (by kernel_rfl) rfl rfl (cd2 BK243) (fun hHeld => ?_)
   generalize wr.drew = w9 at BK243 BK244 HB hHeld ⊢
   refine pure_ (i := 0) (N := some 3) (v := ?_) (a' := ?_) (tf_ 1 6) rfl rfl (by kernel_rfl) (fun _ _ _ h => h) (Or.inl ⟨by rfl, ?_⟩) ?_ ?_
   rotate_left; · (intro w'; go_simp; with_reducible rfl)
   rotate_left; · (simp only [Act.put, sT_, sO_, sN_, i64_w, i32_w]; rfl)
   refine take_ (i := 1) (N := some 4) (v := ?_) (a' := ?_) (tf_ 2 5) rfl rfl (by kernel_rfl) (fun _ _ _ h => h) (Or.inl ⟨by rfl, ?_⟩) hHeld ?_ ?_
   rotate_left; · (rintro w' ⟨s0, s1⟩; go_simp; with_reducible rfl)
   rotate_left; · (simp only [Act.put, sT_, sO_, sN_, i64_w, i32_w]; rfl)
   refine take_ (i := 2) (N := some 5) (v := ?_) (a' := ?_) (tf_ 3 4) rfl rfl (by kernel_rfl) (fun _ _ _ h => h) (Or.inl ⟨by rfl, ?_⟩) hHeld ?_ ?_
   rotate_left; · (rintro w' ⟨s0, s1⟩; go_simp; with_reducible rfl)
   rotate_left; · (simp only [Act.put, sT_, sO_, sN_, i64_w, i32_w]; rfl)
   refine one_ (i := 3) (N := some 6) (tf_ 4 3) rfl rfl (by kernel_rfl) (by decide) (fun K hK => ?_)
   refine goes_ Tryd.func25 (by kernel_rfl) rfl #[.agg #[.string a0_0, .int .i64 x244001_1], .func (.func 26) #[] #[]] (by rfl) rfl rfl (by (try simp only [mT_, mC_, mN_]); first | done | rfl) ?_
   with_reducible refine (lexer_cutter_run_26.calls a0_0 x244001_1  t245 _ A4.out).mono ?_
   rintro e w10 ⟨rfl, hb⟩
   refine ⟨_, rfl, ?_⟩
   replace BK243 := kB BK243 hb
   replace BK244 := kB BK244 hb
   replace HB := Aside0.mk (below_step (by repeat (first | (with_reducible first | exact HB.out | apply bA_ | apply bN_ | apply bD_ | refine bS_ ?_ GE243 | refine bS_ ?_ GE244) | exact HB.out)) hb)
   (try clear hb)
   (try clear hb2)
   (try clear hk)
   (try clear hi)
   refine hK.out _ _ (cd2 BK243) (fun hHeld => ?_)
   clear hK K
   refine norm_ (a' := ?_) ?_ ?_
   rotate_left
   ·
    show Act.put _ (some 6) _ = _
    simp only [Act.put, sT_, sO_, sN_, i64_w, i32_w]
    rfl
   refine pure_ (i := 4) (N := some 7) (v := ?_) (a' := ?_) (tf_ 5 2) rfl rfl (by kernel_rfl) (fun _ _ _ h => h) (Or.inl ⟨by rfl, ?_⟩) ?_ ?_
   rotate_left; · (intro w'; go_simp; with_reducible rfl)
   rotate_left; · (simp only [Act.put, sT_, sO_, sN_, i64_w, i32_w]; rfl)
   refine pure_ (i := 5) (N := some 8) (v := ?_) (a' := ?_) (tf_ 6 1) rfl rfl (by kernel_rfl) (fun _ _ _ h => h) (Or.inl ⟨by rfl, ?_⟩) ?_ ?_
   rotate_left; · (intro w'; go_simp; with_reducible rfl)
   rotate_left; · (simp only [Act.put, sT_, sO_, sN_, i64_w, i32_w]; rfl)
   refine last_ (i := 6) (N := none) (tf_ 7 0) rfl rfl (by kernel_rfl) (by decide) (fun K hK => ?_)
   have hs11 : w10.cell? ⟨gb243, 1, none⟩ = some (.int .i64 x244001_1) := (blk_cell BK243.out 1).trans rfl
   have hfs11 := blk_frozen BK243.out 1
   have hns11_1 := NB244_243.out
   have hms11_1 := NB243_244.out
   refine skip_ (w1 := ?_) (by rfl) rfl ?_ ?_
   rotate_left
   ·
    go_simp
    rfl
   refine hK.out _ _ ?_
   clear hK K
   refine done_ (by kernel_rfl) ?_
   have hnb12 := NB243_244.out
   have hnc12 := NB244_243.out
   obtain ⟨_, _, _, _⟩ := czf2 BK243
   try go_wp2_with (first | ((with_reducible refine gate_callee (f := 18) rfl ?_); refine goesL_ (some 10) rfl rfl Tryd.func18 (by kernel_rfl) rfl #[.agg #[.string a0_0, .int .i64 (wrap64 (x244001_1 + t245))]] rfl (by (try simp only [mT_, mC_, mN_]); first | done | rfl) ?_; (with_reducible refine (lexer_cutter_rest.calls a0_0 (wrap64 (x244001_1 + t245)) t246 _ A5.out).mono ?_); rintro e w14 ⟨rfl, hb⟩; refine ⟨_, rfl, ?_⟩; replace BK243 := Aside0.mk (blk_below (g := gb243) (o := .cells #[.string a0_0, .int .i64 (wrap64 (x244001_1 + t245))] 48 (0, 0)) (by (with_reducible repeat (first | refine blk_drewN ?_ _ | refine blk_drew ?_ | refine blk_alloc ?_ _)); refine blk_put (cs := #[.string a0_0, .int .i64 x244001_1]) ?_ 1 _ rfl; (with_reducible repeat (first | refine blk_drewN ?_ _ | refine blk_drew ?_ | refine blk_alloc ?_ _)); exact BK243.out) hb); replace BK244 := kBf BK244 (fun h_ => by (with_reducible repeat (first | refine blk_drewN ?_ _ | refine blk_drew ?_ | refine blk_alloc ?_ _)); refine blk_far ?_ NB244_243.out _; (with_reducible repeat (first | refine blk_drewN ?_ _ | refine blk_drew ?_ | refine blk_alloc ?_ _)); exact h_) hb; replace HB := Aside0.mk (below_step (by repeat (first | (with_reducible first | exact HB.out | apply bA_ | apply bN_ | apply bD_ | refine bS_ ?_ GE243 | refine bS_ ?_ GE244) | exact HB.out)) hb); (try clear hb); (try clear hb2); (try clear hk); (try clear hi)) | ((with_reducible refine gate_callee (f := 27) rfl ?_); refine goesL_ (some 11) rfl rfl Tryd.func27 (by kernel_rfl) rfl #[.string t246, .string (⟨#[45, 45]⟩ : ByteArray)] rfl (by (try simp only [mT_, mC_, mN_]); first | done | rfl) ?_; (with_reducible refine (strings_HasPrefix.calls t246 (⟨#[45, 45]⟩ : ByteArray) true _ A6.out).mono ?_); rintro e w' ⟨rfl, ⟨nd, rfl⟩⟩; refine ⟨_, rfl, ?_⟩; (try (rw [drewN_self w14]; generalize hq_ : World.drewN w14 _ = w14; have n0_ : Aside0 (w14.heap[gb243]? = some (.cells #[.string a0_0, .int .i64 (wrap64 (x244001_1 + t245))] 48 (0, 0))) := ⟨by rw [← hq_]; exact (kbW BK243)⟩; have n1_ : Aside0 (w14.heap[gb244]? = some (.cells #[.string x245000_1, .int .i64 x245001_1] 48 (0, 0))) := ⟨by rw [← hq_]; exact (kbW BK244)⟩; have n2_ : Aside0 (Below w.heap.size w w14) := ⟨by rw [← hq_]; exact (by repeat (first | (with_reducible first | exact HB.out | apply bA_ | apply bN_ | apply bD_ | refine bS_ ?_ GE243 | refine bS_ ?_ GE244) | exact HB.out))⟩; clear BK243 BK244 HB hq_; have BK243 := n0_; have BK244 := n1_; have HB := n2_; clear n0_ n1_ n2_))))
   replace BK243 := Aside0.mk (blk_drew BK243.out)
   replace BK244 := Aside0.mk (blk_drew BK244.out)
   replace HB := Aside0.mk (below_drew1 HB.out)
   refine start_ (n := 7) (S := fun w' => w'.cell? ⟨gb243, 0, none⟩ = some (.string a0_0) ∧ w'.cell? ⟨gb243, 1, none⟩ = some (.int .i64 (wrap64 (x244001_1 + t245)))) (ds := [6]) (tf_ 0 7) (by kernel_rfl) rfl rfl (cd2 BK243) (fun hHeld => ?_)
   generalize w14.drew = w15 at BK243 BK244 HB hHeld ⊢
   refine pure_ (i := 0) (N := some 14) (v := ?_) (a' := ?_) (tf_ 1 6) rfl rfl (by kernel_rfl) (fun _ _ _ h => h) (Or.inl ⟨by rfl, ?_⟩) ?_ ?_
   rotate_left; · (intro w'; go_simp; with_reducible rfl)
   rotate_left; · (simp only [Act.put, sT_, sO_, sN_, i64_w, i32_w]; rfl)
   refine take_ (i := 1) (N := some 15) (v := ?_) (a' := ?_) (tf_ 2 5) rfl rfl (by kernel_rfl) (fun _ _ _ h => h) (Or.inl ⟨by rfl, ?_⟩) hHeld ?_ ?_
   rotate_left; · (rintro w' ⟨s0, s1⟩; go_simp; with_reducible rfl)
   rotate_left; · (simp only [Act.put, sT_, sO_, sN_, i64_w, i32_w]; rfl)
   refine take_ (i := 2) (N := some 16) (v := ?_) (a' := ?_) (tf_ 3 4) rfl rfl (by kernel_rfl) (fun _ _ _ h => h) (Or.inl ⟨by rfl, ?_⟩) hHeld ?_ ?_
   rotate_left; · (rintro w' ⟨s0, s1⟩; go_simp; with_reducible rfl)
   rotate_left; · (simp only [Act.put, sT_, sO_, sN_, i64_w, i32_w]; rfl)
   refine one_ (i := 3) (N := some 17) (tf_ 4 3) rfl rfl (by kernel_rfl) (by decide) (fun K hK => ?_)
   refine goes_ Tryd.func25 (by kernel_rfl) rfl #[.agg #[.string a0_0, .int .i64 (wrap64 (x244001_1 + t245))], .func (.func 28) #[] #[]] (by rfl) rfl rfl (by (try simp only [mT_, mC_, mN_]); first | done | rfl) ?_
   with_reducible refine (lexer_cutter_run_28.calls a0_0 (wrap64 (x244001_1 + t245))  t248 _ A8.out).mono ?_
   rintro e w16 ⟨rfl, hb⟩
   refine ⟨_, rfl, ?_⟩
   replace BK243 := kB BK243 hb
   replace BK244 := kB BK244 hb
   replace HB := Aside0.mk (below_step (by repeat (first | (with_reducible first | exact HB.out | apply bA_ | apply bN_ | apply bD_ | refine bS_ ?_ GE243 | refine bS_ ?_ GE244) | exact HB.out)) hb)
   (try clear hb)
   (try clear hb2)
   (try clear hk)
   (try clear hi)
   refine hK.out _ _ (cd2 BK243) (fun hHeld => ?_)
   clear hK K
   refine norm_ (a' := ?_) ?_ ?_
   rotate_left
   ·
    show Act.put _ (some 17) _ = _
    simp only [Act.put, sT_, sO_, sN_, i64_w, i32_w]
    rfl
   refine pure_ (i := 4) (N := some 18) (v := ?_) (a' := ?_) (tf_ 5 2) rfl rfl (by kernel_rfl) (fun _ _ _ h => h) (Or.inl ⟨by rfl, ?_⟩) ?_ ?_
   rotate_left; · (intro w'; go_simp; with_reducible rfl)
   rotate_left; · (simp only [Act.put, sT_, sO_, sN_, i64_w, i32_w]; rfl)
   refine pure_ (i := 5) (N := some 19) (v := ?_) (a' := ?_) (tf_ 6 1) rfl rfl (by kernel_rfl) (fun _ _ _ h => h) (Or.inl ⟨by rfl, ?_⟩) ?_ ?_
   rotate_left; · (intro w'; go_simp; with_reducible rfl)
   rotate_left; · (simp only [Act.put, sT_, sO_, sN_, i64_w, i32_w]; rfl)
   refine last_ (i := 6) (N := none) (tf_ 7 0) rfl rfl (by kernel_rfl) (by decide) (fun K hK => ?_)
   have hs17 : w16.cell? ⟨gb243, 1, none⟩ = some (.int .i64 (wrap64 (x244001_1 + t245))) := (blk_cell BK243.out 1).trans rfl
   have hfs17 := blk_frozen BK243.out 1
   have hns17_1 := NB244_243.out
   have hms17_1 := NB243_244.out
   refine skip_ (w1 := ?_) (by rfl) rfl ?_ ?_
   rotate_left
   ·
    go_simp
    rfl
   refine hK.out _ _ ?_
   clear hK K
   refine done_ (by kernel_rfl) ?_
   try go_wp2
   go_roundg k1
   case measure => have := HK1.out; omega
   case rel => exact ⟨(wrap64 ((wrap64 (x244001_1 + t245)) + t248)), (x245000_1), (x245001_1), H', ⟨by have := HK1.out; omega⟩, ⟨by (with_reducible repeat (first | refine blk_drewN ?_ _ | refine blk_drew ?_ | refine blk_alloc ?_ _)); refine blk_put (cs := #[.string a0_0, .int .i64 (wrap64 (x244001_1 + t245))]) ?_ 1 _ rfl; (with_reducible repeat (first | refine blk_drewN ?_ _ | refine blk_drew ?_ | refine blk_alloc ?_ _)); exact BK243.out⟩, ⟨by (with_reducible repeat (first | refine blk_drewN ?_ _ | refine blk_drew ?_ | refine blk_alloc ?_ _)); refine blk_far ?_ NB244_243.out _; (with_reducible repeat (first | refine blk_drewN ?_ _ | refine blk_drew ?_ | refine blk_alloc ?_ _)); exact BK244.out⟩, ⟨by repeat (first | (with_reducible first | exact HB.out | apply bA_ | apply bN_ | apply bD_ | refine bS_ ?_ GE243 | refine bS_ ?_ GE244) | exact HB.out)⟩⟩
end Go.Proofs.YtfaogccfiklinaaDoor.Q
