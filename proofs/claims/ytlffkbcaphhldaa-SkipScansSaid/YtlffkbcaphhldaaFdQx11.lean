/- Lemmas for this claim's walk: no condition of their own. -/
import Derived.Test.YtlffkbcaphhldaaFdSq
import Derived.Test.YtlffkbcaphhldaaFdQx0
import Derived.Test.YtlffkbcaphhldaaFdQx8
import Derived.Test.YtlffkbcaphhldaaFdJ10
namespace Go.Proofs.Ytlffkbcaphhldaa.Q
open Go.RowKit Go.Proofs.YtlffkbcaphhldaaW.PrintWords Go.Proofs.YtlffkbcaphhldaaW.PrintLast Go.Proofs.YtlffkbcaphhldaaW.PrintMore
attribute [local go_sem] max2_int min2_int max_two min_two max_three min_three max_four min_four
set_option linter.unusedVariables false
set_option linter.unusedSimpArgs false
theorem eqCVal (d : Nat) (w : World) (x0 y0 : Int) (x1 y1 : Int) (x2 y2 : ByteArray) :
  (Op.equalIn (d + 2) 33 (.agg #[.int .i64 x0, .int .i64 x1, .string x2]) (.agg #[.int .i64 y0, .int .i64 y1, .string y2])).run Try.prog w = .ok (x0 == y0 && (x1 == y1 && (x2.toList == y2.toList))) w := by
 refine eqA_of Try.underlying33 (by kernel_rfl) ?_
 refine eqf_cons (by rfl) (by go_simp; rfl) (by go_simp; rfl) (by go_simp) ?_
 refine eqf_cons (by rfl) (by go_simp; rfl) (by go_simp; rfl) (by go_simp) ?_
 exact eqf_last (by rfl) (by go_simp; rfl) (by go_simp; rfl) (by go_simp)
theorem eqCVer (d : Nat) (w : World) (x0 y0 : Int) (x1 y1 : Bool) (x2 y2 : Int) (x3 y3 : Int) (x4 y4 : Int) (x5 y5 : ByteArray) :
  (Op.equalIn (d + 3) 35 (.agg #[.int .i64 x0, .bool x1, .int .i64 x2, .int .i64 x3, .int .i64 x4, .string x5]) (.agg #[.int .i64 y0, .bool y1, .int .i64 y2, .int .i64 y3, .int .i64 y4, .string y5])).run Try.prog w = .ok (x0 == y0 && (x1 == y1 && (x2 == y2 && ((x3 == y3 && (x4 == y4 && (x5.toList == y5.toList))))))) w := by
 refine eqA_of Try.underlying35 (by kernel_rfl) ?_
 refine eqf_cons (by rfl) (by go_simp; rfl) (by go_simp; rfl) (by go_simp) ?_
 refine eqf_cons (by rfl) (by go_simp; rfl) (by go_simp; rfl) (by go_simp) ?_
 refine eqf_cons (by rfl) (by go_simp; rfl) (by go_simp; rfl) (by go_simp) ?_
 exact eqf_last (by rfl) (by go_simp) (by go_simp) (eqCVal (d + 0) w _ _ _ _ _ _)
attribute [local go_sem high] eqCVer
def cell_Cmp.f (k : Nat) (a0_0 : Int) (a0_1 : Bool) (a0_2 : Int) (a0_3 : Int) (a0_4 : Int) (a0_5 : ByteArray) (a1_0 : Int) (a1_1 : Bool) (a1_2 : Int) (a1_3 : Int) (a1_4 : Int) (a1_5 : ByteArray) : Option (Int) := if (a0_0 == a1_0 && (a0_1 == a1_1 && (a0_2 == a1_2 && ((a0_3 == a1_3 && (a0_4 == a1_4 && (a0_5.toList == a1_5.toList))))))) = true then (some 0) else ((cmp_Compare_int.f a0_0 a1_0).bind fun t127 => ((cell_rank.f a0_1).bind fun t128 => ((cell_rank.f a1_1).bind fun t129 => ((cmp_Compare_int.f t128 t129).bind fun t130 => ((cmp_Or_int.f k (([t127, t130] : List Int))).bind fun t134 => (if t134 = 0 then (if a0_1 = true then ((cmp_Compare_int.f a0_2 a1_2).bind fun t135 => (some t135)) else ((cmp_Compare_int.f a0_3 a1_3).bind fun t138 => ((cmp_Compare_int.f a0_4 a1_4).bind fun t139 => ((cmp_Compare_string.f a0_5 a1_5).bind fun t140 => ((cmp_Or_int.f k (([t138, t139, t140] : List Int))).bind fun t144 => (some t144)))))) else (some t134)))))))
theorem C_newI {k : IntKind} (W : World) (t : TypeId) (xs : List Int) (h : xs.length ≤ 9223372036854775807) : Kd.C (Kd.int k) (W.alloc (.cells (xs.map (Value.int k)).toArray t)) (some ⟨W.heap.size, 0, none⟩) xs.length xs := by
 refine ⟨rfl, h, fun _ => ⟨_, rfl, fun j p hp => ⟨[.int k p], rfl, rfl, fun i u hu => ?_⟩⟩⟩
 have hj := (List.getElem?_eq_some_iff.1 hp).1
 have h0 : i = 0 := by
  have := (List.getElem?_eq_some_iff.1 hu).1
  simp at this
  exact this
 subst h0
 have hu' : Value.int k p = u := by simpa using hu
 subst hu'
 rw [show j * (Kd.int k).sz + 0 = j from Nat.mul_one j]
 have e : ((⟨W.heap.size, 0, none⟩ : Addr).add j) = ⟨W.heap.size, j, none⟩ := by by_cases h : j = 0 <;> simp [Addr.add, h]
 rw [e, blk_cell (blk_new W _) j]
 simp [hp]
structure VS (w : World) (g2 g3 : Nat) (o2 o3 : Obj) (W : World) : Prop where
 b2 : W.heap[g2]? = some o2
 b3 : W.heap[g3]? = some o3
 bel : Below w.heap.size w W
theorem VS.drewN {w : World} {g2 g3 : Nat} {o2 o3 : Obj} {W : World} (h : VS w g2 g3 o2 o3 W) (m : Nat) : VS w g2 g3 o2 o3 (W.drewN m) := ⟨blk_drewN h.b2 m, blk_drewN h.b3 m, pw_below_drewN h.bel m⟩
theorem VS.drew {w : World} {g2 g3 : Nat} {o2 o3 : Obj} {W : World} (h : VS w g2 g3 o2 o3 W) : VS w g2 g3 o2 o3 W.drew := ⟨blk_drew h.b2, blk_drew h.b3, below_drew1 h.bel⟩
theorem VS.alloc {w : World} {g2 g3 : Nat} {o2 o3 : Obj} {W : World} (h : VS w g2 g3 o2 o3 W) (o : Obj) : VS w g2 g3 o2 o3 (W.alloc o) := ⟨blk_alloc h.b2 o, blk_alloc h.b3 o, below_alloc h.bel o⟩
theorem blk_newV {W : World} {g : Nat} (h : g = W.heap.size) (o : Obj) : (W.alloc o).heap[g]? = some o := h ▸ blk_new W o
theorem size_allocV (W : World) (o : Obj) : (W.alloc o).heap.size = W.heap.size + 1 := by unfold World.alloc; exact Array.size_push ..
set_option maxHeartbeats 400000 in
set_option maxRecDepth 100000 in
theorem cell_Cmp.calls (k : Nat) (a0_0 : Int) (a0_1 : Bool) (a0_2 : Int) (a0_3 : Int) (a0_4 : Int) (a0_5 : ByteArray) (a1_0 : Int) (a1_1 : Bool) (a1_2 : Int) (a1_3 : Int) (a1_4 : Int) (a1_5 : ByteArray) (r : Int) (w : World) (h : cell_Cmp.f k a0_0 a0_1 a0_2 a0_3 a0_4 a0_5 a1_0 a1_1 a1_2 a1_3 a1_4 a1_5 = some r) :
  Calls Try.prog 42 #[.agg #[.int .i64 a0_0, .bool a0_1, .int .i64 a0_2, .int .i64 a0_3, .int .i64 a0_4, .string a0_5], .agg #[.int .i64 a1_0, .bool a1_1, .int .i64 a1_2, .int .i64 a1_3, .int .i64 a1_4, .string a1_5]] w fun e w' => e = .returned (.int .i64 r) ∧ Below w.heap.size w w' := by
 have hu1 := Try.underlying35
 have hu2 := Try.underlying33
 unfold cell_Cmp.f at h
 by_cases c1 : (a0_0 == a1_0 && (a0_1 == a1_1 && (a0_2 == a1_2 && ((a0_3 == a1_3 && (a0_4 == a1_4 && (a0_5.toList == a1_5.toList))))))) = true
 ·
  rw [if_pos c1] at h
  obtain rfl := Option.some.inj h
  clear h
  go_enter Try.func42, Try.ntmps42
  go_wp2
  go_ret
  exact ⟨rfl, by repeat (first | exact Below.refl _ _ | apply below_alloc | apply pw_below_drewN | apply below_drew1)⟩
 ·
  rw [if_neg c1] at h
  replace c1 := Bool.eq_false_iff.mpr c1
  obtain ⟨t1, a1, h⟩ := Option.bind_eq_some_iff.1 h
  obtain ⟨t2, a2, h⟩ := Option.bind_eq_some_iff.1 h
  obtain ⟨t3, a3, h⟩ := Option.bind_eq_some_iff.1 h
  obtain ⟨t4, a4, h⟩ := Option.bind_eq_some_iff.1 h
  obtain ⟨t5, a5, h⟩ := Option.bind_eq_some_iff.1 h
  have H1 := Lib.hid (fun W => cmp_Compare_int.calls a0_0 a1_0 t1 W a1)
  have H2 := Lib.hid (fun W => cell_rank.calls a0_1 t2 W a2)
  have H3 := Lib.hid (fun W => cell_rank.calls a1_1 t3 W a3)
  have H4 := Lib.hid (fun W => cmp_Compare_int.calls t2 t3 t4 W a4)
  have H5 := Lib.hid (fun (W : World) (A : Option Addr) (hC : Kd.C (Kd.int .i64) W A 2 [t1, t4]) => show Calls Try.prog 51 #[.slice A 2 2] W _ from cmp_Or_int.calls k A 2 [t1, t4] t5 W hC (Nat.le_refl _) a5)
  have H := Lib.hid h
  clear h a1 a2 a3 a4 a5
  go_enter Try.func42, Try.ntmps42
  go_upto_region 0 with fail
  go_cut [2, 3] (fun v2 v3 wc => ∃ g2 g3 : Nat, v2 = .pointer (some ⟨g2, 0, none⟩) ∧ v3 = .pointer (some ⟨g3, 0, none⟩) ∧ Aside0 (VS w g2 g3 (.cells #[.int .i64 a0_0, .bool a0_1, .int .i64 a0_2, .int .i64 a0_3, .int .i64 a0_4, .string a0_5] 35 (0, 0)) (.cells #[.int .i64 a1_0, .bool a1_1, .int .i64 a1_2, .int .i64 a1_3, .int .i64 a1_4, .string a1_5] 35 (0, 0)) wc))
  case first =>
   go_wp2
   go_meet
   case rel => exact ⟨_, _, rfl, rfl, ⟨⟨blk_alloc (blk_new _ _) _, blk_newV (by rw [size_allocV]) _, below_alloc (below_alloc (Below.refl _ _) _) _⟩⟩⟩
  case rest =>
   obtain ⟨g2, g3, rfl, rfl, HS⟩ := hcut
   have x0 := (blk_cell HS.out.b2 0).trans (show _ = some (Value.int .i64 a0_0) from rfl)
   have x1 := (blk_cell HS.out.b2 1).trans (show _ = some (Value.bool a0_1) from rfl)
   have x2 := (blk_cell HS.out.b2 2).trans (show _ = some (Value.int .i64 a0_2) from rfl)
   have x3 := (blk_cell HS.out.b2 3).trans (show _ = some (Value.int .i64 a0_3) from rfl)
   have x4 := (blk_cell HS.out.b2 4).trans (show _ = some (Value.int .i64 a0_4) from rfl)
   have x5 := (blk_cell HS.out.b2 5).trans (show _ = some (Value.string a0_5) from rfl)
   have y0 := (blk_cell HS.out.b3 0).trans (show _ = some (Value.int .i64 a1_0) from rfl)
   have y1 := (blk_cell HS.out.b3 1).trans (show _ = some (Value.bool a1_1) from rfl)
   have y2 := (blk_cell HS.out.b3 2).trans (show _ = some (Value.int .i64 a1_2) from rfl)
   have y3 := (blk_cell HS.out.b3 3).trans (show _ = some (Value.int .i64 a1_3) from rfl)
   have y4 := (blk_cell HS.out.b3 4).trans (show _ = some (Value.int .i64 a1_4) from rfl)
   have y5 := (blk_cell HS.out.b3 5).trans (show _ = some (Value.string a1_5) from rfl)
   go_upto_region 3 with fail
   go_cut [5] (fun v5 wc => v5 = .int .i64 t5 ∧ Aside0 (VS w g2 g3 (.cells #[.int .i64 a0_0, .bool a0_1, .int .i64 a0_2, .int .i64 a0_3, .int .i64 a0_4, .string a0_5] 35 (0, 0)) (.cells #[.int .i64 a1_0, .bool a1_1, .int .i64 a1_2, .int .i64 a1_3, .int .i64 a1_4, .string a1_5] 35 (0, 0)) wc))
   case first =>
    go_region_held3 (fun w' => w'.cell? ⟨g2, 0, none⟩ = some (.int .i64 a0_0) ∧ w'.cell? ⟨g2, 1, none⟩ = some (.bool a0_1) ∧ w'.cell? ⟨g3, 0, none⟩ = some (.int .i64 a1_0) ∧ w'.cell? ⟨g3, 1, none⟩ = some (.bool a1_1)) (first | go_keep) (first | (go_at_call 47; (with_reducible refine (H1.out _).mono ?_); rintro e w9 ⟨rfl, m9, rfl⟩) | (go_at_call 47; (with_reducible refine (H4.out _).mono ?_); rintro e w9 ⟨rfl, m9, rfl⟩) | (go_at_call 52; (with_reducible refine (H2.out _).mono ?_); rintro e w9 ⟨rfl, m9, rfl⟩) | (go_at_call 52; (with_reducible refine (H3.out _).mono ?_); rintro e w9 ⟨rfl, m9, rfl⟩) | (go_at_call 51; (with_reducible refine (H5.out _ _ (C_newI _ _ [t1, t4] (by simp))).mono ?_); rintro e w9 ⟨rfl, m9, rfl⟩))
    all_goals go_wp2
    all_goals go_meet
    all_goals exact ⟨rfl, ⟨by (with_reducible repeat (first | apply VS.alloc | apply VS.drewN | apply VS.drew)); exact HS.out⟩⟩
   case rest =>
    clear x0 x1 x2 x3 x4 x5 y0 y1 y2 y3 y4 y5
    obtain ⟨rfl, HT⟩ := hcut
    have x0 := (blk_cell HT.out.b2 0).trans (show _ = some (Value.int .i64 a0_0) from rfl)
    have x1 := (blk_cell HT.out.b2 1).trans (show _ = some (Value.bool a0_1) from rfl)
    have x2 := (blk_cell HT.out.b2 2).trans (show _ = some (Value.int .i64 a0_2) from rfl)
    have x3 := (blk_cell HT.out.b2 3).trans (show _ = some (Value.int .i64 a0_3) from rfl)
    have x4 := (blk_cell HT.out.b2 4).trans (show _ = some (Value.int .i64 a0_4) from rfl)
    have x5 := (blk_cell HT.out.b2 5).trans (show _ = some (Value.string a0_5) from rfl)
    have y0 := (blk_cell HT.out.b3 0).trans (show _ = some (Value.int .i64 a1_0) from rfl)
    have y1 := (blk_cell HT.out.b3 1).trans (show _ = some (Value.bool a1_1) from rfl)
    have y2 := (blk_cell HT.out.b3 2).trans (show _ = some (Value.int .i64 a1_2) from rfl)
    have y3 := (blk_cell HT.out.b3 3).trans (show _ = some (Value.int .i64 a1_3) from rfl)
    have y4 := (blk_cell HT.out.b3 4).trans (show _ = some (Value.int .i64 a1_4) from rfl)
    have y5 := (blk_cell HT.out.b3 5).trans (show _ = some (Value.string a1_5) from rfl)
    have h5 := H.out
    by_cases c2 : t5 = 0
    rotate_left
    ·
     rw [if_neg c2] at h5
     obtain rfl := Option.some.inj h5
     have c2b : (t5 != 0) = true := by simp [c2]
     clear h5 c2
     go_wp2
     go_ret
     exact ⟨rfl, HT.out.bel⟩
    rw [if_pos c2] at h5
    have c2b : (t5 != 0) = false := by simp [c2]
    cases a0_1 with
    | true =>
     rw [if_pos rfl] at h5
     obtain ⟨t6, b1, b2⟩ := Option.bind_eq_some_iff.1 h5
     obtain rfl := Option.some.inj b2
     have H6 := Lib.hid (fun W => cmp_Compare_int.calls a0_2 a1_2 t6 W b1)
     clear h5 b1 b2 c2
     go_wp2_with (go_at_call 47; (with_reducible refine (H6.out _).mono ?_); rintro e w9 ⟨rfl, m9, rfl⟩)
     go_ret
     exact ⟨rfl, by (with_reducible repeat (first | apply pw_below_drewN | apply below_drew1)); exact HT.out.bel⟩
    | false =>
     rw [if_neg (by simp)] at h5
     obtain ⟨t6, b1, h5⟩ := Option.bind_eq_some_iff.1 h5
     obtain ⟨t7, b2, h5⟩ := Option.bind_eq_some_iff.1 h5
     obtain ⟨t8, b3, h5⟩ := Option.bind_eq_some_iff.1 h5
     obtain ⟨t9, b4, b5⟩ := Option.bind_eq_some_iff.1 h5
     obtain rfl := Option.some.inj b5
     have H6 := Lib.hid (fun W => cmp_Compare_int.calls a0_3 a1_3 t6 W b1)
     have H7 := Lib.hid (fun W => cmp_Compare_int.calls a0_4 a1_4 t7 W b2)
     have H8 := Lib.hid (fun W => cmp_Compare_string.calls a0_5 a1_5 t8 W b3)
     have H9 := Lib.hid (fun (W : World) (A : Option Addr) (hC : Kd.C (Kd.int .i64) W A 3 [t6, t7, t8]) => show Calls Try.prog 51 #[.slice A 3 3] W _ from cmp_Or_int.calls k A 3 [t6, t7, t8] t9 W hC (Nat.le_refl _) b4)
     clear h5 b1 b2 b3 b4 b5 c2
     go_upto_region 8 with fail
     go_cut [6, 7] (fun v6 v7 wc => ∃ g6 g7 : Nat, v6 = .pointer (some ⟨g6, 0, none⟩) ∧ v7 = .pointer (some ⟨g7, 0, none⟩) ∧ Aside0 (VS w g6 g7 (.cells #[.int .i64 a0_3, .int .i64 a0_4, .string a0_5] 33 (0, 0)) (.cells #[.int .i64 a1_3, .int .i64 a1_4, .string a1_5] 33 (0, 0)) wc))
     case first =>
      have u03 := fun (o : Obj) => (blk_cell (blk_alloc HT.out.b2 o) 3).trans (show _ = some (Value.int .i64 a0_3) from rfl)
      have v03 := fun (o o' : Obj) => (blk_cell (blk_alloc (blk_alloc HT.out.b2 o) o') 3).trans (show _ = some (Value.int .i64 a0_3) from rfl)
      have u04 := fun (o : Obj) => (blk_cell (blk_alloc HT.out.b2 o) 4).trans (show _ = some (Value.int .i64 a0_4) from rfl)
      have v04 := fun (o o' : Obj) => (blk_cell (blk_alloc (blk_alloc HT.out.b2 o) o') 4).trans (show _ = some (Value.int .i64 a0_4) from rfl)
      have u05 := fun (o : Obj) => (blk_cell (blk_alloc HT.out.b2 o) 5).trans (show _ = some (Value.string a0_5) from rfl)
      have v05 := fun (o o' : Obj) => (blk_cell (blk_alloc (blk_alloc HT.out.b2 o) o') 5).trans (show _ = some (Value.string a0_5) from rfl)
      have u13 := fun (o : Obj) => (blk_cell (blk_alloc HT.out.b3 o) 3).trans (show _ = some (Value.int .i64 a1_3) from rfl)
      have v13 := fun (o o' : Obj) => (blk_cell (blk_alloc (blk_alloc HT.out.b3 o) o') 3).trans (show _ = some (Value.int .i64 a1_3) from rfl)
      have u14 := fun (o : Obj) => (blk_cell (blk_alloc HT.out.b3 o) 4).trans (show _ = some (Value.int .i64 a1_4) from rfl)
      have v14 := fun (o o' : Obj) => (blk_cell (blk_alloc (blk_alloc HT.out.b3 o) o') 4).trans (show _ = some (Value.int .i64 a1_4) from rfl)
      have u15 := fun (o : Obj) => (blk_cell (blk_alloc HT.out.b3 o) 5).trans (show _ = some (Value.string a1_5) from rfl)
      have v15 := fun (o o' : Obj) => (blk_cell (blk_alloc (blk_alloc HT.out.b3 o) o') 5).trans (show _ = some (Value.string a1_5) from rfl)
      go_region
      all_goals go_wp2
      all_goals go_meet
      all_goals (first
       | exact ⟨_, _, rfl, rfl, ⟨⟨blk_drew (blk_alloc (blk_newV rfl _) _), blk_drew (blk_newV (by rw [size_allocV]) _), below_drew1 (below_alloc (below_alloc HT.out.bel _) _)⟩⟩⟩
       | exact ⟨_, _, rfl, rfl, ⟨⟨blk_drew (blk_newV (by rw [size_allocV]) _), blk_drew (blk_alloc (blk_newV rfl _) _), below_drew1 (below_alloc (below_alloc HT.out.bel _) _)⟩⟩⟩)
     case rest =>
      clear x0 x1 x2 x3 x4 x5 y0 y1 y2 y3 y4 y5 HT
      obtain ⟨g6, g7, rfl, rfl, HU⟩ := hcut
      have x0 := (blk_cell HU.out.b2 0).trans (show _ = some (Value.int .i64 a0_3) from rfl)
      have x1 := (blk_cell HU.out.b2 1).trans (show _ = some (Value.int .i64 a0_4) from rfl)
      have x2 := (blk_cell HU.out.b2 2).trans (show _ = some (Value.string a0_5) from rfl)
      have y0 := (blk_cell HU.out.b3 0).trans (show _ = some (Value.int .i64 a1_3) from rfl)
      have y1 := (blk_cell HU.out.b3 1).trans (show _ = some (Value.int .i64 a1_4) from rfl)
      have y2 := (blk_cell HU.out.b3 2).trans (show _ = some (Value.string a1_5) from rfl)
      go_upto_region 9 with fail
      go_region_held3 (fun w' => w'.cell? ⟨g6, 0, none⟩ = some (.int .i64 a0_3) ∧ w'.cell? ⟨g6, 1, none⟩ = some (.int .i64 a0_4) ∧ w'.cell? ⟨g6, 2, none⟩ = some (.string a0_5) ∧ w'.cell? ⟨g7, 0, none⟩ = some (.int .i64 a1_3) ∧ w'.cell? ⟨g7, 1, none⟩ = some (.int .i64 a1_4) ∧ w'.cell? ⟨g7, 2, none⟩ = some (.string a1_5)) (first | go_keep) (first | (go_at_call 47; (with_reducible refine (H6.out _).mono ?_); rintro e w9 ⟨rfl, m9, rfl⟩) | (go_at_call 47; (with_reducible refine (H7.out _).mono ?_); rintro e w9 ⟨rfl, m9, rfl⟩) | (go_at_call 46; (with_reducible refine (H8.out _).mono ?_); rintro e w9 ⟨rfl, m9, rfl⟩) | (go_at_call 51; (with_reducible refine (H9.out _ _ (C_newI _ _ [t6, t7, t8] (by simp))).mono ?_); rintro e w9 ⟨rfl, m9, rfl⟩))
      all_goals go_wp2
      go_ret
      exact ⟨rfl, by (with_reducible repeat (first | apply below_alloc | apply pw_below_drewN | apply below_drew1)); exact HU.out.bel⟩
def cell_Join.f (k : Nat) (a0_0 : Int) (a0_1 : Bool) (a0_2 : Int) (a0_3 : Int) (a0_4 : Int) (a0_5 : ByteArray) (a1_0 : Int) (a1_1 : Bool) (a1_2 : Int) (a1_3 : Int) (a1_4 : Int) (a1_5 : ByteArray) : Option (Int × Bool × Int × Int × Int × ByteArray) := (cell_Cmp.f k a0_0 a0_1 a0_2 a0_3 a0_4 a0_5 a1_0 a1_1 a1_2 a1_3 a1_4 a1_5).bind fun t131 => (if t131 < 0 then (some (a1_0, a1_1, a1_2, a1_3, a1_4, a1_5)) else (some (a0_0, a0_1, a0_2, a0_3, a0_4, a0_5)))
set_option maxHeartbeats 8000000 in
set_option maxRecDepth 100000 in
theorem cell_Join.calls (k : Nat) (a0_0 : Int) (a0_1 : Bool) (a0_2 : Int) (a0_3 : Int) (a0_4 : Int) (a0_5 : ByteArray) (a1_0 : Int) (a1_1 : Bool) (a1_2 : Int) (a1_3 : Int) (a1_4 : Int) (a1_5 : ByteArray) (r1 : Int) (r2 : Bool) (r3 : Int) (r4 : Int) (r5 : Int) (r6 : ByteArray) (w : World) (h : cell_Join.f k a0_0 a0_1 a0_2 a0_3 a0_4 a0_5 a1_0 a1_1 a1_2 a1_3 a1_4 a1_5 = some (r1, r2, r3, r4, r5, r6)) :
  Calls Try.prog 31 #[.agg #[.int .i64 a0_0, .bool a0_1, .int .i64 a0_2, .int .i64 a0_3, .int .i64 a0_4, .string a0_5], .agg #[.int .i64 a1_0, .bool a1_1, .int .i64 a1_2, .int .i64 a1_3, .int .i64 a1_4, .string a1_5]] w fun e w' => e = .returned (.agg #[.int .i64 r1, .bool r2, .int .i64 r3, .int .i64 r4, .int .i64 r5, .string r6]) ∧ Below w.heap.size w w' := by
 have hu35 := Try.underlying35
 have HB := Aside0.mk (Below.refl w.heap.size w)
 have H : ((cell_Cmp.f k a0_0 a0_1 a0_2 a0_3 a0_4 a0_5 a1_0 a1_1 a1_2 a1_3 a1_4 a1_5).bind fun t131 => (if t131 < 0 then (some (a1_0, a1_1, a1_2, a1_3, a1_4, a1_5)) else (some (a0_0, a0_1, a0_2, a0_3, a0_4, a0_5)))) = some (r1, r2, r3, r4, r5, r6) := h
 clear h
 replace H := Option.bind_eq_some_iff.mp H
 obtain ⟨t131, A30, H⟩ := H
 have A3 := Aside0.mk A30
 clear A30
 by_cases c4 : t131 < 0
 ·
  rw [if_pos c4] at H
  have c4b0 : decide (t131 < 0) = true := decide_eq_true c4
  clear c4
  simp only [Option.some.injEq, Prod.mk.injEq] at H
  obtain ⟨rfl, rfl, rfl, rfl, rfl, rfl⟩ := H
  go_enter Try.func31, Try.ntmps31
  go_wp2_with (first | ((with_reducible refine gate_dst (N := 2) rfl ?_); refine box_event ?hg (N := 2) ?hd (cs := #[.int .i64 a0_0, .bool a0_1, .int .i64 a0_2, .int .i64 a0_3, .int .i64 a0_4, .string a0_5]) (t := 35) ?hr ?_; (case hd => rfl); (case hg => rfl); (case hr => first | (go_simp; done) | (go_simp; rfl)); intro gb128 hg w5 hbox hb; have BK128 := Aside0.mk (hbox); have GW128 := Aside0.mk ((by rw [hg]; exact (bZ_ (kwW HB)) : w.heap.size ≤ gb128)); replace HB := Aside0.mk (below_step (kwW HB) hb); have GE128 := GW128; clear hb hbox hg) | ((with_reducible refine gate_dst (N := 3) rfl ?_); refine box_event ?hg (N := 3) ?hd (cs := #[.int .i64 a1_0, .bool a1_1, .int .i64 a1_2, .int .i64 a1_3, .int .i64 a1_4, .string a1_5]) (t := 35) ?hr ?_; (case hd => rfl); (case hg => rfl); (case hr => first | (go_simp; done) | (go_simp; rfl)); intro gb129 hg w6 hbox hb; have BK129 := Aside0.mk (hbox); have GW129 := Aside0.mk ((by rw [hg]; exact (bZ_ (by repeat (first | (with_reducible first | exact HB.out | apply bA_ | apply bN_ | apply bD_ | refine bS_ ?_ GE128) | exact HB.out))) : w.heap.size ≤ gb129)); replace HB := Aside0.mk (below_step (by repeat (first | (with_reducible first | exact HB.out | apply bA_ | apply bN_ | apply bD_ | refine bS_ ?_ GE128) | exact HB.out)) hb); have GE129 := GW129; have NB128_129 := Aside0.mk ((by rw [hg]; exact Nat.ne_of_lt (blk_lt (kbW BK128)) : gb128 ≠ gb129)); have NB129_128 := Aside0.mk ((by rw [hg]; exact Nat.ne_of_gt (blk_lt (kbW BK128)) : gb129 ≠ gb128)); replace BK128 := kB BK128 hb; clear hb hbox hg) | ((with_reducible refine gate_dst (N := 4) rfl ?_); refine box_event ?hg (N := 4) ?hd (cs := #[.int .i64 0, .bool false, .int .i64 0, .int .i64 0, .int .i64 0, .string (⟨#[]⟩ : ByteArray)]) (t := 35) ?hr ?_; (case hd => rfl); (case hg => rfl); (case hr => first | (go_simp; done) | (go_simp; rfl)); intro gb130 hg w7 hbox hb; have BK130 := Aside0.mk (hbox); have GW130 := Aside0.mk ((by rw [hg]; exact (bZ_ (by repeat (first | (with_reducible first | exact HB.out | apply bA_ | apply bN_ | apply bD_ | refine bS_ ?_ GE128 | refine bS_ ?_ GE129) | exact HB.out))) : w.heap.size ≤ gb130)); replace HB := Aside0.mk (below_step (by repeat (first | (with_reducible first | exact HB.out | apply bA_ | apply bN_ | apply bD_ | refine bS_ ?_ GE128 | refine bS_ ?_ GE129) | exact HB.out)) hb); have GE130 := GW130; have NB128_130 := Aside0.mk ((by rw [hg]; exact Nat.ne_of_lt (blk_lt (kbW BK128)) : gb128 ≠ gb130)); have NB130_128 := Aside0.mk ((by rw [hg]; exact Nat.ne_of_gt (blk_lt (kbW BK128)) : gb130 ≠ gb128)); replace BK128 := kB BK128 hb; have NB129_130 := Aside0.mk ((by rw [hg]; exact Nat.ne_of_lt (blk_lt (kbW BK129)) : gb129 ≠ gb130)); have NB130_129 := Aside0.mk ((by rw [hg]; exact Nat.ne_of_gt (blk_lt (kbW BK129)) : gb130 ≠ gb129)); replace BK129 := kB BK129 hb; clear hb hbox hg; have hnb8 := NB128_129.out; have hnc8 := NB129_128.out; have hnb9 := NB128_130.out; have hnc9 := NB130_128.out; obtain ⟨_, _, _, _, _, _, _, _, _, _, _, _⟩ := czf6 BK128; have hnb11 := NB129_130.out; have hnc11 := NB130_129.out; obtain ⟨_, _, _, _, _, _, _, _, _, _, _, _⟩ := czf6 BK129) | ((with_reducible refine gate_callee (f := 42) rfl ?_); refine goesL_ (some 7) rfl rfl Try.func42 (by kernel_rfl) rfl #[.agg #[.int .i64 a0_0, .bool a0_1, .int .i64 a0_2, .int .i64 a0_3, .int .i64 a0_4, .string a0_5], .agg #[.int .i64 a1_0, .bool a1_1, .int .i64 a1_2, .int .i64 a1_3, .int .i64 a1_4, .string a1_5]] rfl (by (try simp only [mT_, mC_, mN_]); first | done | rfl) ?_; (with_reducible refine (cell_Cmp.calls k a0_0 a0_1 a0_2 a0_3 a0_4 a0_5 a1_0 a1_1 a1_2 a1_3 a1_4 a1_5 t131 _ A3.out).mono ?_); rintro e w13 ⟨rfl, hb⟩; refine ⟨_, rfl, ?_⟩; replace BK128 := kB BK128 hb; replace BK129 := kB BK129 hb; replace BK130 := kB BK130 hb; replace HB := Aside0.mk (below_step (by repeat (first | (with_reducible first | exact HB.out | apply bA_ | apply bN_ | apply bD_ | refine bS_ ?_ GE128 | refine bS_ ?_ GE129 | refine bS_ ?_ GE130) | exact HB.out)) hb); (try clear hb); (try clear hb2); (try clear hk); (try clear hi); obtain ⟨_, _, _, _, _, _, _, _, _, _, _, _⟩ := czf6 BK129; obtain ⟨_, _, _, _, _, _, _, _, _, _, _, _⟩ := czf6 BK130))
  refine bodyPost_ret (results_cell_row rfl _ _ gb130 35 #[.int .i64 a1_0, .bool a1_1, .int .i64 a1_2, .int .i64 a1_3, .int .i64 a1_4, .string a1_5] (0, 0) _ rfl (by (with_reducible repeat (first | refine blk_drewN ?_ _ | refine blk_drew ?_ | refine blk_alloc ?_ _)); exact bp6 (kbW BK130)) Try.underlying35 rfl (by kernel_rfl)) rfl ?_
  exact ⟨by first | rfl | (simp <;> rfl) | (simp [*] <;> rfl), by repeat (first | (with_reducible first | exact HB.out | apply bA_ | apply bN_ | apply bD_ | refine bS_ ?_ GE128 | refine bS_ ?_ GE129 | refine bS_ ?_ GE130) | exact HB.out)⟩
 ·
  rw [if_neg c4] at H
  have c4b0 : decide (t131 < 0) = false := decide_eq_false c4
  clear c4
  simp only [Option.some.injEq, Prod.mk.injEq] at H
  obtain ⟨rfl, rfl, rfl, rfl, rfl, rfl⟩ := H
  go_enter Try.func31, Try.ntmps31
  go_wp2_with (first | ((with_reducible refine gate_dst (N := 2) rfl ?_); refine box_event ?hg (N := 2) ?hd (cs := #[.int .i64 a0_0, .bool a0_1, .int .i64 a0_2, .int .i64 a0_3, .int .i64 a0_4, .string a0_5]) (t := 35) ?hr ?_; (case hd => rfl); (case hg => rfl); (case hr => first | (go_simp; done) | (go_simp; rfl)); intro gb128 hg w16 hbox hb; have BK128 := Aside0.mk (hbox); have GW128 := Aside0.mk ((by rw [hg]; exact (bZ_ (kwW HB)) : w.heap.size ≤ gb128)); replace HB := Aside0.mk (below_step (kwW HB) hb); have GE128 := GW128; clear hb hbox hg) | ((with_reducible refine gate_dst (N := 3) rfl ?_); refine box_event ?hg (N := 3) ?hd (cs := #[.int .i64 a1_0, .bool a1_1, .int .i64 a1_2, .int .i64 a1_3, .int .i64 a1_4, .string a1_5]) (t := 35) ?hr ?_; (case hd => rfl); (case hg => rfl); (case hr => first | (go_simp; done) | (go_simp; rfl)); intro gb129 hg w17 hbox hb; have BK129 := Aside0.mk (hbox); have GW129 := Aside0.mk ((by rw [hg]; exact (bZ_ (by repeat (first | (with_reducible first | exact HB.out | apply bA_ | apply bN_ | apply bD_ | refine bS_ ?_ GE128) | exact HB.out))) : w.heap.size ≤ gb129)); replace HB := Aside0.mk (below_step (by repeat (first | (with_reducible first | exact HB.out | apply bA_ | apply bN_ | apply bD_ | refine bS_ ?_ GE128) | exact HB.out)) hb); have GE129 := GW129; have NB128_129 := Aside0.mk ((by rw [hg]; exact Nat.ne_of_lt (blk_lt (kbW BK128)) : gb128 ≠ gb129)); have NB129_128 := Aside0.mk ((by rw [hg]; exact Nat.ne_of_gt (blk_lt (kbW BK128)) : gb129 ≠ gb128)); replace BK128 := kB BK128 hb; clear hb hbox hg) | ((with_reducible refine gate_dst (N := 4) rfl ?_); refine box_event ?hg (N := 4) ?hd (cs := #[.int .i64 0, .bool false, .int .i64 0, .int .i64 0, .int .i64 0, .string (⟨#[]⟩ : ByteArray)]) (t := 35) ?hr ?_; (case hd => rfl); (case hg => rfl); (case hr => first | (go_simp; done) | (go_simp; rfl)); intro gb130 hg w18 hbox hb; have BK130 := Aside0.mk (hbox); have GW130 := Aside0.mk ((by rw [hg]; exact (bZ_ (by repeat (first | (with_reducible first | exact HB.out | apply bA_ | apply bN_ | apply bD_ | refine bS_ ?_ GE128 | refine bS_ ?_ GE129) | exact HB.out))) : w.heap.size ≤ gb130)); replace HB := Aside0.mk (below_step (by repeat (first | (with_reducible first | exact HB.out | apply bA_ | apply bN_ | apply bD_ | refine bS_ ?_ GE128 | refine bS_ ?_ GE129) | exact HB.out)) hb); have GE130 := GW130; have NB128_130 := Aside0.mk ((by rw [hg]; exact Nat.ne_of_lt (blk_lt (kbW BK128)) : gb128 ≠ gb130)); have NB130_128 := Aside0.mk ((by rw [hg]; exact Nat.ne_of_gt (blk_lt (kbW BK128)) : gb130 ≠ gb128)); replace BK128 := kB BK128 hb; have NB129_130 := Aside0.mk ((by rw [hg]; exact Nat.ne_of_lt (blk_lt (kbW BK129)) : gb129 ≠ gb130)); have NB130_129 := Aside0.mk ((by rw [hg]; exact Nat.ne_of_gt (blk_lt (kbW BK129)) : gb130 ≠ gb129)); replace BK129 := kB BK129 hb; clear hb hbox hg; have hnb19 := NB128_129.out; have hnc19 := NB129_128.out; have hnb20 := NB128_130.out; have hnc20 := NB130_128.out; obtain ⟨_, _, _, _, _, _, _, _, _, _, _, _⟩ := czf6 BK128; have hnb22 := NB129_130.out; have hnc22 := NB130_129.out; obtain ⟨_, _, _, _, _, _, _, _, _, _, _, _⟩ := czf6 BK129) | ((with_reducible refine gate_callee (f := 42) rfl ?_); refine goesL_ (some 7) rfl rfl Try.func42 (by kernel_rfl) rfl #[.agg #[.int .i64 a0_0, .bool a0_1, .int .i64 a0_2, .int .i64 a0_3, .int .i64 a0_4, .string a0_5], .agg #[.int .i64 a1_0, .bool a1_1, .int .i64 a1_2, .int .i64 a1_3, .int .i64 a1_4, .string a1_5]] rfl (by (try simp only [mT_, mC_, mN_]); first | done | rfl) ?_; (with_reducible refine (cell_Cmp.calls k a0_0 a0_1 a0_2 a0_3 a0_4 a0_5 a1_0 a1_1 a1_2 a1_3 a1_4 a1_5 t131 _ A3.out).mono ?_); rintro e w24 ⟨rfl, hb⟩; refine ⟨_, rfl, ?_⟩; replace BK128 := kB BK128 hb; replace BK129 := kB BK129 hb; replace BK130 := kB BK130 hb; replace HB := Aside0.mk (below_step (by repeat (first | (with_reducible first | exact HB.out | apply bA_ | apply bN_ | apply bD_ | refine bS_ ?_ GE128 | refine bS_ ?_ GE129 | refine bS_ ?_ GE130) | exact HB.out)) hb); (try clear hb); (try clear hb2); (try clear hk); (try clear hi); obtain ⟨_, _, _, _, _, _, _, _, _, _, _, _⟩ := czf6 BK128; obtain ⟨_, _, _, _, _, _, _, _, _, _, _, _⟩ := czf6 BK130))
  refine bodyPost_ret (results_cell_row rfl _ _ gb130 35 #[.int .i64 a0_0, .bool a0_1, .int .i64 a0_2, .int .i64 a0_3, .int .i64 a0_4, .string a0_5] (0, 0) _ rfl (by (with_reducible repeat (first | refine blk_drewN ?_ _ | refine blk_drew ?_ | refine blk_alloc ?_ _)); exact bp6 (kbW BK130)) Try.underlying35 rfl (by kernel_rfl)) rfl ?_
  exact ⟨by first | rfl | (simp <;> rfl) | (simp [*] <;> rfl), by repeat (first | (with_reducible first | exact HB.out | apply bA_ | apply bN_ | apply bD_ | refine bS_ ?_ GE128 | refine bS_ ?_ GE129 | refine bS_ ?_ GE130) | exact HB.out)⟩
end Go.Proofs.Ytlffkbcaphhldaa.Q
