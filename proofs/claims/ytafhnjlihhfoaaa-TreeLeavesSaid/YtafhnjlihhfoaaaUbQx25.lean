/- Lemmas for this claim's walk: no condition of their own. -/
import Derived.Test.YtafhnjlihhfoaaaUbJ13
import Derived.Test.YtafhnjlihhfoaaaUbQx0
import Derived.Test.YtafhnjlihhfoaaaUbQx11
import Derived.Test.YtafhnjlihhfoaaaUbQx24
namespace Go.Proofs.Ytafhnjlihhfoaaa.Q
open Go.RowKit Go.Proofs.YtafhnjlihhfoaaaW.PrintWords Go.Proofs.YtafhnjlihhfoaaaW.PrintLast Go.Proofs.YtafhnjlihhfoaaaW.PrintMore
attribute [local go_sem] max2_int min2_int max_two min_two max_three min_three max_four min_four
set_option linter.unusedVariables false
set_option linter.unusedSimpArgs false
def codec_Cells.one (k : Nat) (x3 : List Int) (c : S38) : Option (List Int) := (codec_text.f k x3 c.f0.f0).bind fun t1 => (codec_text.f k t1 c.f0.f1).bind fun t2 => (codec_Zig.f c.f0.f2).bind fun z1 => (codec_put.f k t2 z1).bind fun t3 => (codec_text.f k t3 c.f0.f3).bind fun t4 => (codec_Zig.f c.f1.f0).bind fun z2 => (codec_put.f k t4 z2).bind fun t5 => if t5.length < 140737488355328 then (if c.f1.f1 = true then (codec_Zig.f c.f1.f2).bind fun z3 => codec_put.f k (t5 ++ [1]) z3 else (codec_put.f k (t5 ++ [0]) (IntKind.u64.wrap c.f1.f3.f0)).bind fun t6 => (codec_Zig.f c.f1.f3.f1).bind fun z4 => (codec_put.f k t6 z4).bind fun t7 => codec_text.f k t7 c.f1.f3.f2) else none
def codec_Cells.l0 : Nat → List Int → List (S38) → Option (List Int)
 | _, x, [] => some x
 | k, x, c :: l => (codec_Cells.one k x c).bind fun y => codec_Cells.l0 k y l
def codec_Cells.f (k : Nat) (l0 : List (S38)) : Option (List Int) := (codec_put.f k ([] : List Int) (IntKind.u64.wrap ((l0.length : Int)))).bind fun t => codec_Cells.l0 k t l0
theorem blk_newAtC {W : World} {g : Nat} (h : g = W.heap.size) (o : Obj) : (W.alloc o).heap[g]? = some o := h ▸ blk_new W o
theorem size_allocC (W : World) (o : Obj) : (W.alloc o).heap.size = W.heap.size + 1 := by unfold World.alloc; exact Array.size_push ..
structure CS (w : World) (gk gv : Nat) (c : S38) (W : World) (v : Value) (l : List Int) : Prop where
 bk : W.heap[gk]? = some (.cells #[.string c.f0.f0, .string c.f0.f1, .int .i64 c.f0.f2, .string c.f0.f3] 32 (0, 0))
 bv : W.heap[gv]? = some (.cells #[.int .i64 c.f1.f0, .bool c.f1.f1, .int .i64 c.f1.f2, .int .i64 c.f1.f3.f0, .int .i64 c.f1.f3.f1, .string c.f1.f3.f2] 36 (0, 0))
 ro : Kd.R (Kd.int .u8) 5 W w.heap.size (fun k => k ≠ gk ∧ k ≠ gv) v l
 bel : Below w.heap.size w W
theorem CS.drew {w : World} {gk gv : Nat} {c : S38} {W : World} {v : Value} {l : List Int} (h : CS w gk gv c W v l) (m : Nat) : CS w gk gv c (W.drewN m) v l := ⟨blk_drewN h.bk m, blk_drewN h.bv m, Kd.R_drewN h.ro m, pw_below_drewN h.bel m⟩
theorem CS.drew1 {w : World} {gk gv : Nat} {c : S38} {W : World} {v : Value} {l : List Int} (h : CS w gk gv c W v l) : CS w gk gv c W.drew v l := ⟨blk_drew h.bk, blk_drew h.bv, Kd.R_drew h.ro, below_drew1 h.bel⟩
def CS.K4 (gk : Nat) (c : S38) (W : World) : Prop := W.cell? ⟨gk, 0, none⟩ = some (.string c.f0.f0) ∧ W.cell? ⟨gk, 1, none⟩ = some (.string c.f0.f1) ∧ W.cell? ⟨gk, 2, none⟩ = some (.int .i64 c.f0.f2) ∧ W.cell? ⟨gk, 3, none⟩ = some (.string c.f0.f3)
def CS.V6 (gv : Nat) (c : S38) (W : World) : Prop := W.cell? ⟨gv, 0, none⟩ = some (.int .i64 c.f1.f0) ∧ W.cell? ⟨gv, 1, none⟩ = some (.bool c.f1.f1) ∧ W.cell? ⟨gv, 2, none⟩ = some (.int .i64 c.f1.f2) ∧ W.cell? ⟨gv, 3, none⟩ = some (.int .i64 c.f1.f3.f0) ∧ W.cell? ⟨gv, 4, none⟩ = some (.int .i64 c.f1.f3.f1) ∧ W.cell? ⟨gv, 5, none⟩ = some (.string c.f1.f3.f2)
theorem CS.k4 {w : World} {gk gv : Nat} {c : S38} {W : World} {v : Value} {l : List Int} (h : CS w gk gv c W v l) : CS.K4 gk c W := ⟨(blk_cell h.bk 0).trans rfl, (blk_cell h.bk 1).trans rfl, (blk_cell h.bk 2).trans rfl, (blk_cell h.bk 3).trans rfl⟩
theorem CS.v6 {w : World} {gk gv : Nat} {c : S38} {W : World} {v : Value} {l : List Int} (h : CS w gk gv c W v l) : CS.V6 gv c W := ⟨(blk_cell h.bv 0).trans rfl, (blk_cell h.bv 1).trans rfl, (blk_cell h.bv 2).trans rfl, (blk_cell h.bv 3).trans rfl, (blk_cell h.bv 4).trans rfl, (blk_cell h.bv 5).trans rfl⟩
theorem CS.step {w : World} {gk gv : Nat} {c : S38} {W W1 : World} {v v1 : Value} {l l1 : List Int} (h : CS w gk gv c W v l) (ho : Kd.R (Kd.int .u8) 5 W1 w.heap.size (fun k => (k ≠ gk ∧ k ≠ gv) ∨ W.heap.size ≤ k) v1 l1) (hb : Below w.heap.size w W1) (hk : Kept W W1 (fun k => k ≠ gk ∧ k ≠ gv)) : CS w gk gv c W1 v1 l1 :=
 ⟨blk_kept h.bk hk (fun e => e.1 rfl), blk_kept h.bv hk (fun e => e.2 rfl), Kd.R_mono ho (fun k hk => hk.elim id (fun hk => by have := blk_lt h.bk; have := blk_lt h.bv; omega)), hb⟩
theorem CS.put {w : World} {gk gv : Nat} {c : S38} {W : World} {v : Value} {l l1 : List Int} {k : Nat} {u : Int} (h : CS w gk gv c W v l) (hf : codec_put.f k l u = some l1) : Calls Try.prog 72 #[v, .int .u64 u] W fun e w' => ∃ v1, e = .returned v1 ∧ CS w gk gv c w' v1 l1 :=
 (codec_put.calls k (fun k => k ≠ gk ∧ k ≠ gv) v l u l1 w W h.bel h.ro hf).mono fun e w' ⟨v1, he, ho, hb, hk⟩ => ⟨v1, he, h.step ho hb hk⟩
theorem CS.text {w : World} {gk gv : Nat} {c : S38} {W : World} {v : Value} {l l1 : List Int} {k : Nat} {u : ByteArray} (h : CS w gk gv c W v l) (hf : codec_text.f k l u = some l1) : Calls Try.prog 73 #[v, .string u] W fun e w' => ∃ v1, e = .returned v1 ∧ CS w gk gv c w' v1 l1 :=
 (codec_text.calls k (fun k => k ≠ gk ∧ k ≠ gv) v l u l1 w W h.bel h.ro hf).mono fun e w' ⟨v1, he, ho, hb, hk⟩ => ⟨v1, he, h.step ho hb hk⟩
theorem CS.grown {w : World} {gk gv : Nat} {c : S38} {W W1 : World} {v v1 : Value} {l l1 : List Int} (h : CS w gk gv c W v l) (ho : Kd.R (Kd.int .u8) 5 W1 w.heap.size (fun k => k ≠ gk ∧ k ≠ gv) v1 l1) (hb : Below w.heap.size w W1) (hg : W.grownBy W1 v.ownBlock) : CS w gk gv c W1 v1 l1 :=
 ⟨blk_grown h.bk hg (fun e => (h.ro.1 gk e.symm).1 rfl), blk_grown h.bv hg (fun e => (h.ro.1 gv e.symm).2 rfl), ho, hb⟩
theorem CS.fresh {w : World} {gk gv : Nat} {c : S38} {W : World} {v : Value} {l : List Int} (h : CS w gk gv c W v l) : ∀ k, W.heap.size ≤ k → k ≠ gk ∧ k ≠ gv := fun k hk => by have := blk_lt h.bk; have := blk_lt h.bv; omega
set_option maxHeartbeats 400000 in
set_option maxRecDepth 100000 in
theorem codec_Cells.calls (k : Nat) (A0 : Option Addr) (c0 : Nat) (l0 : List (S38)) (r : List Int) (w : World) (hr0 : Kd.C k38 w A0 l0.length l0) (hc0 : l0.length ≤ c0) (h : codec_Cells.f k l0 = some r) :
  Calls Try.prog 51 #[.slice A0 l0.length c0] w fun e w' => ∃ v0_ : Value, e = .returned (v0_) ∧ Kd.R (Kd.int .u8) 5 w' w.heap.size (fun _ => True) v0_ r ∧ Below w.heap.size w w' := by
 have HR0 := Lib.hid hr0
 have hm0 := hr0.2.1
 clear hr0
 obtain ⟨t0, h1, h2⟩ := Option.bind_eq_some_iff.1 h
 have ew : IntKind.u64.wrap (l0.length : Int) = (l0.length : Int) := by rw [IntKind.wrap_u64]; omega
 rw [ew] at h1
 clear ew
 have HP0 := Lib.hid (codec_put.calls k (fun _ => True) (.slice none 0 0) [] (l0.length : Int) t0 w w (Below.refl _ _) (Kd.R_nil _ _ _ _ _) h1)
 have H2 := Lib.hid h2
 clear h h1 h2
 go_enter Try.func51, Try.ntmps51
 go_wp2_with (go_at_call 72; (with_reducible refine HP0.out.mono ?_); rintro e w1 ⟨v1, rfl, ho, hb, -⟩; have HO := Lib.hid (Kd.R_mono (ok' := fun _ => True) ho (fun _ _ => trivial)); have HB := Lib.hid hb; clear ho hb)
 go_loopg [3, 14] l0.length (fun gk v3 v14 wr => ∃ (i : Nat) (l : List Int), v14 = .int .i64 i ∧ Aside0 (i ≤ l0.length ∧ l0.length - i ≤ gk ∧ codec_Cells.l0 k l (l0.drop i) = some r) ∧ Aside0 (Kd.R (Kd.int .u8) 5 wr w.heap.size (fun _ => True) v3 l) ∧ Aside0 (Below w.heap.size w wr))
 case atStart => exact ⟨0, t0, rfl, ⟨Nat.zero_le _, by omega, H2.out⟩, ⟨HO.out⟩, ⟨HB.out⟩⟩
 case round =>
  obtain ⟨i, l, rfl, HI, HO1, HB1⟩ := hrel
  clear HO HB
  by_cases hi : i < l0.length
  rotate_left
  ·
   have hz : ¬ (i : Int) < (l0.length : Int) := by omega
   go_wp2
   go_ret
   have h3 := HI.out.2.2
   rw [List.drop_of_length_le (by omega), codec_Cells.l0] at h3
   exact ⟨_, rfl, Option.some.inj h3 ▸ HO1.out, HB1.out⟩
  have hz : (i : Int) < (l0.length : Int) := by omega
  have hz0 : (0 : Int) ≤ (i : Int) := by omega
  obtain ⟨c, hc⟩ : ∃ c, l0[i] = c := ⟨_, rfl⟩
  have h3 := HI.out.2.2
  rw [List.drop_eq_getElem_cons hi, hc, codec_Cells.l0] at h3
  obtain ⟨y, h4, h5⟩ := Option.bind_eq_some_iff.1 h3
  have HY := Lib.hid h5
  unfold codec_Cells.one at h4
  obtain ⟨t1, a1, h4⟩ := Option.bind_eq_some_iff.1 h4
  obtain ⟨t2, a2, h4⟩ := Option.bind_eq_some_iff.1 h4
  obtain ⟨z1, a3, h4⟩ := Option.bind_eq_some_iff.1 h4
  obtain ⟨t3, a4, h4⟩ := Option.bind_eq_some_iff.1 h4
  obtain ⟨t4, a5, h4⟩ := Option.bind_eq_some_iff.1 h4
  obtain ⟨z2, a6, h4⟩ := Option.bind_eq_some_iff.1 h4
  obtain ⟨t5, a7, h4⟩ := Option.bind_eq_some_iff.1 h4
  split at h4
  case isFalse => cases h4
  rename_i hl5
  have HA := Lib.hid (And.intro a1 (And.intro a2 (And.intro a3 (And.intro a4 (And.intro a5 (And.intro a6 (And.intro a7 hl5)))))))
  have H4 := Lib.hid h4
  obtain ⟨ad, ea, hx0, hx1, hx2, hx3, hx4, hx5, hx6, hx7, hx8, hx9⟩ := at_T38 (Kd.C_below HR0.out HB1.out) i hz0 hz
  rw [Int.toNat_natCast] at hx0 hx1 hx2 hx3 hx4 hx5 hx6 hx7 hx8 hx9
  have er : rd_T38 l0 (i : Int) = c := by unfold rd_T38; rw [Int.toNat_natCast, List.getD_eq_getElem?_getD, List.getElem?_eq_getElem hi]; exact hc
  rw [er] at hx0 hx1 hx2 hx3 hx4 hx5 hx6 hx7 hx8 hx9
  have HC := Lib.hid hc
  have EA := Lib.hid ea
  subst ea
  clear hc h3 h4 h5 er a1 a2 a3 a4 a5 a6 a7 hl5
  go_upto_region 5 with fail
  go_cut [6, 7] (fun v6 v7 wc => ∃ gk gv : Nat, v6 = .pointer (some ⟨gk, 0, none⟩) ∧ v7 = .pointer (some ⟨gv, 0, none⟩) ∧ Aside0 (CS w gk gv c wc u3 l))
  case first =>
   go_region
   all_goals (go_wp2)
   all_goals go_meet
   all_goals (
    have hro : Kd.R (Kd.int .u8) 5 wr w.heap.size (fun k => k < wr.heap.size) _ l := Kd.R_mono (Kd.R_bound HO1.out) (fun _ hk => hk.2.2.1)
    first
    | exact ⟨_, _, rfl, rfl, ⟨⟨blk_drew (blk_alloc (blk_newAtC (by rw [size_allocC]) _) _), blk_drew (blk_newAtC (by rw [size_allocC, size_allocC]) _), Kd.R_drew (Kd.R_alloc (Kd.R_alloc (Kd.R_alloc (Kd.R_mono hro (fun k hk => ⟨by omega, by omega⟩)) _) _) _), below_drew1 (below_alloc (below_alloc (below_alloc HB1.out _) _) _)⟩⟩⟩
    | exact ⟨_, _, rfl, rfl, ⟨⟨blk_drew (blk_newAtC (by rw [size_allocC, size_allocC]) _), blk_drew (blk_alloc (blk_newAtC (by rw [size_allocC]) _) _), Kd.R_drew (Kd.R_alloc (Kd.R_alloc (Kd.R_alloc (Kd.R_mono hro (fun k hk => ⟨by omega, by omega⟩)) _) _) _), below_drew1 (below_alloc (below_alloc (below_alloc HB1.out _) _) _)⟩⟩⟩)
  case rest =>
   clear HO1 HB1 hx0 hx1 hx2 hx3 hx4 hx5 hx6 hx7 hx8 hx9
   obtain ⟨gk, gv, rfl, rfl, HS⟩ := hcut
   have hk4 : CS.K4 gk c wc := HS.out.k4
   unfold CS.K4 at hk4
   obtain ⟨y0, y1, y2, y3⟩ := hk4
   go_upto_region 6 with fail
   have HZ1 := Lib.hid (fun W => codec_Zig.calls c.f0.f2 z1 W HA.out.2.2.1)
   have HZ2 := Lib.hid (fun W => codec_Zig.calls c.f1.f0 z2 W HA.out.2.2.2.2.2.1)
   go_cut [3] (fun v3 wx => Aside0 (CS w gk gv c wx v3 t4))
   case first =>
    go_region_held3 (fun w' => w'.cell? ⟨gk, 0, none⟩ = some (.string c.f0.f0) ∧ w'.cell? ⟨gk, 1, none⟩ = some (.string c.f0.f1) ∧ w'.cell? ⟨gk, 2, none⟩ = some (.int .i64 c.f0.f2) ∧ w'.cell? ⟨gk, 3, none⟩ = some (.string c.f0.f3)) (first | go_keep | exact q1 | exact q2 | exact q3 | exact q4) (first | (go_at_call 73; (with_reducible refine (HS.out.drew1.text HA.out.1).mono ?_); rintro e w1 ⟨v1, rfl, hs⟩; have HS1 := Lib.hid hs; have q1 := hs.k4; clear hs) | (go_at_call 73; (with_reducible refine (HS1.out.text HA.out.2.1).mono ?_); rintro e w2 ⟨v2, rfl, hs⟩; have HS2 := Lib.hid hs; have q2 := hs.k4; clear hs) | (go_at_call 74; (with_reducible refine (HZ1.out _).mono ?_); rintro e w9 ⟨rfl, m9, rfl⟩) | (go_at_call 72; (first | (with_reducible refine (HS2.out.put HA.out.2.2.2.1).mono ?_) | (with_reducible refine ((HS2.out.drew _).put HA.out.2.2.2.1).mono ?_)); rintro e w3 ⟨v3, rfl, hs⟩; have HS3 := Lib.hid hs; have q3 := hs.k4; clear hs) | (go_at_call 73; (with_reducible refine (HS3.out.text HA.out.2.2.2.2.1).mono ?_); rintro e w4 ⟨v4, rfl, hs⟩; have HS4 := Lib.hid hs; have q4 := hs.k4; clear hs))
    all_goals (go_wp2)
    all_goals go_meet
    exact ⟨HS4.out⟩
   case rest =>
    clear HS y0 y1 y2 y3
    have HS := hcut
    have hv6 := HS.out.v6
    unfold CS.V6 at hv6
    obtain ⟨y0, y1, y2, y3, y4, y5⟩ := hv6
    go_upto_region 7 with fail
    go_cut [3] (fun v3 wx2 => Aside0 (CS w gk gv c wx2 v3 t5))
    case first =>
     go_wp2_with (first | (go_at_call 74; (with_reducible refine (HZ2.out _).mono ?_); rintro e w9 ⟨rfl, m9, rfl⟩) | (go_at_call 72; (first | (with_reducible refine (HS.out.put HA.out.2.2.2.2.2.2.1).mono ?_) | (with_reducible refine ((HS.out.drew _).put HA.out.2.2.2.2.2.2.1).mono ?_)); rintro e w5 ⟨v5, rfl, hs⟩; have HS5 := Lib.hid hs; have q5 := And.intro hs.v6.1 hs.v6.2.2; clear hs))
     all_goals go_meet
     exact ⟨HS5.out⟩
    case rest =>
     clear HS y0 y1 y2 y3 y4 y5
     have HT := hcut
     have hv6 := HT.out.v6
     unfold CS.V6 at hv6
     obtain ⟨y0, y1, y2, y3, y4, y5⟩ := hv6
     cases hd : c.f1.f1 with
     | true =>
      have h4 := H4.out
      rw [if_pos hd] at h4
      obtain ⟨z3, b1, b2⟩ := Option.bind_eq_some_iff.1 h4
      have HZ3 := Lib.hid (fun W => codec_Zig.calls c.f1.f2 z3 W b1)
      have B2 := Lib.hid b2
      rw [hd] at y1
      have HD := Lib.hid hd
      clear h4 b1 b2 hd
      go_upto_region 9 with fail
      go_region_held3 (fun w' => w'.cell? ⟨gv, 0, none⟩ = some (.int .i64 c.f1.f0) ∧ w'.cell? ⟨gv, 2, none⟩ = some (.int .i64 c.f1.f2) ∧ w'.cell? ⟨gv, 3, none⟩ = some (.int .i64 c.f1.f3.f0) ∧ w'.cell? ⟨gv, 4, none⟩ = some (.int .i64 c.f1.f3.f1) ∧ w'.cell? ⟨gv, 5, none⟩ = some (.string c.f1.f3.f2)) (first | go_keep | exact q5 | exact q6) (first | (go_at_call 74; (with_reducible refine (HZ3.out _).mono ?_); rintro e w9 ⟨rfl, m9, rfl⟩) | (refine Kd.R_append_step (Kd.int .u8) (w0 := w) w.heap.size (by rfl) (.tmp 43) (.tmp 44) 55 5 (.int .u8 0) 1 (by rfl) Try.underlying55 info5 rfl (by decide) (by omega) _ t5 1 [.int .u8 1] (fun k => k ≠ gk ∧ k ≠ gv) (fun _ => False) (by rfl) (by rfl) rfl (fun _ hk => hk.elim) HT.out.drew1.fresh HT.out.drew1.ro HT.out.drew1.bel (below_size HT.out.drew1.bel) (by have := HA.out.2.2.2.2.2.2.2; omega) ?_; intro v5 w5 ho hb hg hat; have hs := HT.out.drew1.grown ho hb hg; have HS5 := Lib.hid hs; have q5 := And.intro hs.v6.1 hs.v6.2.2; clear ho hb hg hat hs) | (go_at_call 72; (first | (with_reducible refine (HS5.out.put B2.out).mono ?_) | (with_reducible refine ((HS5.out.drew _).put B2.out).mono ?_)); rintro e w6 ⟨v6, rfl, hs⟩; have HS6 := Lib.hid hs; have q6 := And.intro hs.v6.1 hs.v6.2.2; clear hs))
      all_goals (go_wp2)
      all_goals (
       go_roundg (l0.length - (i + 1))
       case measure => have := HI.out; omega
       case rel => exact ⟨i + 1, _, by go_num, ⟨by omega, Nat.le_refl _, HY.out⟩, ⟨Kd.R_mono HS6.out.ro (fun _ _ => trivial)⟩, ⟨HS6.out.bel⟩⟩)
     | false =>
      have h4 := H4.out
      rw [if_neg (by rw [hd]; simp)] at h4
      obtain ⟨t6, b1, h4⟩ := Option.bind_eq_some_iff.1 h4
      obtain ⟨z4, b2, h4⟩ := Option.bind_eq_some_iff.1 h4
      obtain ⟨t7, b3, b4⟩ := Option.bind_eq_some_iff.1 h4
      have HZ4 := Lib.hid (fun W => codec_Zig.calls c.f1.f3.f1 z4 W b2)
      have B1 := Lib.hid b1
      have B3 := Lib.hid b3
      have B4 := Lib.hid b4
      rw [hd] at y1
      have HD := Lib.hid hd
      clear h4 b1 b2 b3 b4 hd
      go_upto_region 10 with fail
      go_region_held3 (fun w' => w'.cell? ⟨gv, 0, none⟩ = some (.int .i64 c.f1.f0) ∧ w'.cell? ⟨gv, 2, none⟩ = some (.int .i64 c.f1.f2) ∧ w'.cell? ⟨gv, 3, none⟩ = some (.int .i64 c.f1.f3.f0) ∧ w'.cell? ⟨gv, 4, none⟩ = some (.int .i64 c.f1.f3.f1) ∧ w'.cell? ⟨gv, 5, none⟩ = some (.string c.f1.f3.f2)) (first | go_keep | exact q5 | exact q6 | exact q7 | exact q8) (first | (go_at_call 74; (with_reducible refine (HZ4.out _).mono ?_); rintro e w9 ⟨rfl, m9, rfl⟩) | (refine Kd.R_append_step (Kd.int .u8) (w0 := w) w.heap.size (by rfl) (.tmp 50) (.tmp 51) 55 5 (.int .u8 0) 1 (by rfl) Try.underlying55 info5 rfl (by decide) (by omega) _ t5 0 [.int .u8 0] (fun k => k ≠ gk ∧ k ≠ gv) (fun _ => False) (by rfl) (by rfl) rfl (fun _ hk => hk.elim) HT.out.drew1.fresh HT.out.drew1.ro HT.out.drew1.bel (below_size HT.out.drew1.bel) (by have := HA.out.2.2.2.2.2.2.2; omega) ?_; intro v5 w5 ho hb hg hat; have hs := HT.out.drew1.grown ho hb hg; have HS5 := Lib.hid hs; have q5 := And.intro hs.v6.1 hs.v6.2.2; clear ho hb hg hat hs) | (go_at_call 72; (first | (with_reducible refine (HS5.out.put B1.out).mono ?_) | (with_reducible refine ((HS5.out.drew _).put B1.out).mono ?_)); rintro e w6 ⟨v6, rfl, hs⟩; have HS6 := Lib.hid hs; have q6 := And.intro hs.v6.1 hs.v6.2.2; clear hs) | (go_at_call 72; (first | (with_reducible refine (HS6.out.put B3.out).mono ?_) | (with_reducible refine ((HS6.out.drew _).put B3.out).mono ?_)); rintro e w7 ⟨v7, rfl, hs⟩; have HS7 := Lib.hid hs; have q7 := And.intro hs.v6.1 hs.v6.2.2; clear hs) | (go_at_call 73; (first | (with_reducible refine (HS7.out.text B4.out).mono ?_) | (with_reducible refine ((HS7.out.drew _).text B4.out).mono ?_)); rintro e w8 ⟨v8, rfl, hs⟩; have HS8 := Lib.hid hs; have q8 := And.intro hs.v6.1 hs.v6.2.2; clear hs))
      all_goals (go_wp2)
      all_goals (
       go_roundg (l0.length - (i + 1))
       case measure => have := HI.out; omega
       case rel => exact ⟨i + 1, _, by go_num, ⟨by omega, Nat.le_refl _, HY.out⟩, ⟨Kd.R_mono HS8.out.ro (fun _ _ => trivial)⟩, ⟨HS8.out.bel⟩⟩)
def cell_Digest.f (k : Nat) (l0 : List (S38)) : Option (Int) := (codec_Cells.f k l0).bind fun t231 => ((murmur_Sum.f t231 0).bind fun bt234 => (some bt234.1))
set_option maxHeartbeats 8000000 in
set_option maxRecDepth 100000 in
theorem cell_Digest.calls (k : Nat) (A0 : Option Addr) (c0 : Nat) (l0 : List (S38)) (r : Int) (w : World) (hr0 : Kd.C k38 w A0 l0.length l0) (hc0 : l0.length ≤ c0) (h : cell_Digest.f k l0 = some r) :
  Calls Try.prog 28 #[.slice A0 l0.length c0] w fun e w' => e = .returned (.int .u64 r) ∧ Below w.heap.size w w' := by
 have HR0 := Aside0.mk hr0
 have HC0 := Aside0.mk hc0
 clear hr0 hc0
 have HB := Aside0.mk (Below.refl w.heap.size w)
 have H : ((codec_Cells.f k l0).bind fun t231 => ((murmur_Sum.f t231 0).bind fun bt234 => (some bt234.1))) = some r := h
 clear h
 replace H := Option.bind_eq_some_iff.mp H
 obtain ⟨t231, A20, H⟩ := H
 have A2 := Aside0.mk A20
 clear A20
 replace H := Option.bind_eq_some_iff.mp H
 obtain ⟨⟨t234, t235⟩, A30, H⟩ := H
 have A3 := Aside0.mk A30
 clear A30
 obtain rfl := Option.some.inj H
 go_enter Try.func28, Try.ntmps28
 go_wp2_with (first | ((with_reducible refine gate_callee (f := 51) rfl ?_); refine goesL_ (some 7) rfl rfl Try.func51 (by kernel_rfl) rfl #[.slice A0 l0.length c0] rfl (by (try simp only [mT_, mC_, mN_]); first | done | rfl) ?_; (with_reducible refine (codec_Cells.calls k _ _ l0 t231 _ ?side1 ?side2 A2.out).mono ?_); (case side1 => repeat (first | exact HR0.out | (with_reducible refine Kd.C_alloc ?_ _) | (with_reducible refine Kd.C_drewN ?_ _) | (with_reducible refine Kd.C_drew ?_))); (case side2 => exact HC0.out); rintro e w4 ⟨v232, rfl, ho0, hb⟩; refine ⟨_, rfl, ?_⟩; have HO233 := Aside0.mk (Kd.R_lower ho0 (bZ_ (kwW HB))); replace HB := Aside0.mk (below_step (kwW HB) hb); (try clear hb); (try clear hb2); (try clear hk); (try clear hi); (try clear ho0); obtain ⟨Ao5, co5, eo5⟩ := Kd.R_slice HO233.out; subst eo5) | ((with_reducible refine gate_callee (f := 30) rfl ?_); refine goesL_ (some 8) rfl rfl Try.func30 (by kernel_rfl) rfl #[.slice Ao5 t231.length co5, .int .u64 0] rfl (by (try simp only [mT_, mC_, mN_]); first | done | rfl) ?_; (with_reducible refine (murmur_Sum.calls _ _ t231 0 t234 t235 _ ?side1 ?side2 A3.out).mono ?_); (case side1 => repeat (first | exact (Kd.R_reads' HO233.out).2.2 | (with_reducible refine Kd.C_alloc ?_ _) | (with_reducible refine Kd.C_drewN ?_ _) | (with_reducible refine Kd.C_drew ?_))); (case side2 => exact (Kd.R_reads' HO233.out).2.1); rintro e w6 ⟨rfl, hb⟩; refine ⟨_, rfl, ?_⟩; replace HO233 := kR HO233 hb; replace HB := Aside0.mk (below_step (kwW HB) hb); (try clear hb); (try clear hb2); (try clear hk); (try clear hi)))
 go_ret
 exact ⟨by first | rfl | (simp <;> rfl) | (simp [*] <;> rfl), kwW HB⟩
end Go.Proofs.Ytafhnjlihhfoaaa.Q
