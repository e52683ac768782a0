/- Lemmas for this claim's walk: no condition of their own. -/
import Derived.Test.YtafhnjlihhfoaaaUbJ13
import Derived.Test.YtafhnjlihhfoaaaUbQx0
import Derived.Test.YtafhnjlihhfoaaaUbQx30
import Derived.Test.YtafhnjlihhfoaaaUbJ15
namespace Go.Proofs.Ytafhnjlihhfoaaa.Q
open Go.RowKit Go.Proofs.YtafhnjlihhfoaaaW.PrintWords Go.Proofs.YtafhnjlihhfoaaaW.PrintLast Go.Proofs.YtafhnjlihhfoaaaW.PrintMore
attribute [local go_sem] max2_int min2_int max_two min_two max_three min_three max_four min_four
set_option linter.unusedVariables false
set_option linter.unusedSimpArgs false
def skerryref01_Cells.one (k : Nat) (x3 : List Int) (c : S38) : Option (List Int) := (skerryref01_PutText.f k x3 c.f0.f0).bind fun t1 => (skerryref01_PutText.f k t1 c.f0.f1).bind fun t2 => (skerryref01_Zig.f c.f0.f2).bind fun z1 => (skerryref01_Put.f k t2 z1).bind fun t3 => (skerryref01_PutText.f k t3 c.f0.f3).bind fun t4 => (skerryref01_Zig.f c.f1.f0).bind fun z2 => (skerryref01_Put.f k t4 z2).bind fun t5 => if t5.length < 140737488355328 then (if c.f1.f1 = true then (skerryref01_Zig.f c.f1.f2).bind fun z3 => skerryref01_Put.f k (t5 ++ [1]) z3 else (skerryref01_Put.f k (t5 ++ [0]) (IntKind.u64.wrap c.f1.f3.f0)).bind fun t6 => (skerryref01_Zig.f c.f1.f3.f1).bind fun z4 => (skerryref01_Put.f k t6 z4).bind fun t7 => skerryref01_PutText.f k t7 c.f1.f3.f2) else none
def skerryref01_Cells.l0 : Nat → List Int → List (S38) → Option (List Int)
 | _, x, [] => some x
 | k, x, c :: l => (skerryref01_Cells.one k x c).bind fun y => skerryref01_Cells.l0 k y l
def skerryref01_Cells.f (k : Nat) (l0 : List (S38)) : Option (List Int) := (skerryref01_Put.f k ([] : List Int) (IntKind.u64.wrap ((l0.length : Int)))).bind fun t => skerryref01_Cells.l0 k t l0
structure RS (w : World) (g : Nat) (o : Obj) (W : World) (v : Value) (l : List Int) : Prop where
 b : W.heap[g]? = some o
 ro : Kd.R (Kd.int .u8) 5 W w.heap.size (fun k => k ≠ g) v l
 bel : Below w.heap.size w W
theorem RS.drew {w : World} {g : Nat} {o : Obj} {W : World} {v : Value} {l : List Int} (h : RS w g o W v l) (m : Nat) : RS w g o (W.drewN m) v l := ⟨blk_drewN h.b m, Kd.R_drewN h.ro m, pw_below_drewN h.bel m⟩
theorem RS.drew1 {w : World} {g : Nat} {o : Obj} {W : World} {v : Value} {l : List Int} (h : RS w g o W v l) : RS w g o W.drew v l := ⟨blk_drew h.b, Kd.R_drew h.ro, below_drew1 h.bel⟩
theorem RS.fresh {w : World} {g : Nat} {o : Obj} {W : World} {v : Value} {l : List Int} (h : RS w g o W v l) : ∀ k, W.heap.size ≤ k → k ≠ g := fun k hk => by have := blk_lt h.b; omega
theorem RS.step {w : World} {g : Nat} {o : Obj} {W W1 : World} {v v1 : Value} {l l1 : List Int} (h : RS w g o W v l) (ho : Kd.R (Kd.int .u8) 5 W1 W.heap.size (fun _ => True) v1 l1) (hb : Below W.heap.size W W1) : RS w g o W1 v1 l1 :=
 ⟨(hb.block g (blk_lt h.b)).trans h.b, Kd.R_lower (Kd.R_mono (Kd.R_bound ho) (fun k hk => h.fresh k hk.2.1)) (below_size h.bel), below_step h.bel hb⟩
theorem RS.grown {w : World} {g : Nat} {o : Obj} {W W1 : World} {v v1 : Value} {l l1 : List Int} (h : RS w g o W v l) (ho : Kd.R (Kd.int .u8) 5 W1 w.heap.size (fun k => k ≠ g) v1 l1) (hb : Below w.heap.size w W1) (hg : W.grownBy W1 v.ownBlock) : RS w g o W1 v1 l1 :=
 ⟨blk_grown h.b hg (fun e => (h.ro.1 g e.symm) rfl), ho, hb⟩
theorem RS.put {w : World} {g : Nat} {o : Obj} {W : World} {A : Option Addr} {n cc : Nat} {l l1 : List Int} {k : Nat} {u : Int} (h : RS w g o W (.slice A n cc) l) (hf : skerryref01_Put.f k l u = some l1) : Calls Try.prog 78 #[.slice A n cc, .int .u64 u] W fun e w' => ∃ A1 c1, e = .returned (.slice A1 l1.length c1) ∧ RS w g o w' (.slice A1 l1.length c1) l1 := by
 obtain ⟨rfl, hc, hC⟩ := Kd.R_reads' h.ro
 refine (skerryref01_Put.calls k A cc l u l1 W hC hc hf).mono fun e w' ⟨v1, he, ho, hb⟩ => ?_
 obtain ⟨A1, c1, rfl⟩ := Kd.R_slice ho
 exact ⟨A1, c1, he, h.step ho hb⟩
theorem RS.text {w : World} {g : Nat} {o : Obj} {W : World} {A : Option Addr} {n cc : Nat} {l l1 : List Int} {k : Nat} {u : ByteArray} (h : RS w g o W (.slice A n cc) l) (hf : skerryref01_PutText.f k l u = some l1) : Calls Try.prog 79 #[.slice A n cc, .string u] W fun e w' => ∃ A1 c1, e = .returned (.slice A1 l1.length c1) ∧ RS w g o w' (.slice A1 l1.length c1) l1 := by
 obtain ⟨rfl, hc, hC⟩ := Kd.R_reads' h.ro
 refine (skerryref01_PutText.calls k A cc l u l1 W hC hc hf).mono fun e w' ⟨v1, he, ho, hb⟩ => ?_
 obtain ⟨A1, c1, rfl⟩ := Kd.R_slice ho
 exact ⟨A1, c1, he, h.step ho hb⟩
set_option maxHeartbeats 800000 in
set_option maxRecDepth 100000 in
theorem skerryref01_Cells.calls (k : Nat) (A0 : Option Addr) (c0 : Nat) (l0 : List (S38)) (r : List Int) (w : World) (hr0 : Kd.C k38 w A0 l0.length l0) (hc0 : l0.length ≤ c0) (h : skerryref01_Cells.f k l0 = some r) :
  Calls Try.prog 61 #[.slice A0 l0.length c0] w fun e w' => ∃ v0_ : Value, e = .returned (v0_) ∧ Kd.R (Kd.int .u8) 5 w' w.heap.size (fun _ => True) v0_ r ∧ Below w.heap.size w w' := by
 have HR0 := Lib.hid hr0
 have hm0 := hr0.2.1
 clear hr0
 obtain ⟨t0, h1, h2⟩ := Option.bind_eq_some_iff.1 h
 have ew : IntKind.u64.wrap (l0.length : Int) = (l0.length : Int) := by rw [IntKind.wrap_u64]; omega
 rw [ew] at h1
 clear ew
 have HP0 := Lib.hid (show Calls Try.prog 78 #[.slice none 0 0, .int .u64 (l0.length : Int)] w _ from skerryref01_Put.calls k none 0 [] (l0.length : Int) t0 w (Kd.C_nil _ _) (Nat.le_refl _) h1)
 have H2 := Lib.hid h2
 clear h h1 h2
 go_enter Try.func61, Try.ntmps61
 go_wp2_with (go_at_call 78; (with_reducible refine HP0.out.mono ?_); rintro e w1 ⟨v1, rfl, ho, hb⟩; obtain ⟨Av, cv, ev⟩ := Kd.R_slice ho; subst ev; have HO := Lib.hid ho; have HB := Lib.hid hb; clear ho hb)
 go_loopg [3, 13] l0.length (fun gk v3 v13 wr => ∃ (i : Nat) (l : List Int) (Av : Option Addr) (cv : Nat), v13 = .int .i64 i ∧ v3 = .slice Av l.length cv ∧ Aside0 (i ≤ l0.length ∧ l0.length - i ≤ gk ∧ skerryref01_Cells.l0 k l (l0.drop i) = some r) ∧ Aside0 (Kd.R (Kd.int .u8) 5 wr w.heap.size (fun _ => True) (.slice Av l.length cv) l) ∧ Aside0 (Below w.heap.size w wr))
 case atStart => exact ⟨0, t0, Av, cv, rfl, rfl, ⟨Nat.zero_le _, by omega, H2.out⟩, ⟨HO.out⟩, ⟨HB.out⟩⟩
 case round =>
  clear HO HB
  obtain ⟨i, l, Av, cv, rfl, rfl, HI, HO1, HB1⟩ := hrel
  by_cases hi : i < l0.length
  rotate_left
  ·
   have hz : ¬ (i : Int) < (l0.length : Int) := by omega
   go_wp2
   go_ret
   have h3 := HI.out.2.2
   rw [List.drop_of_length_le (by omega), skerryref01_Cells.l0] at h3
   exact ⟨_, rfl, Option.some.inj h3 ▸ HO1.out, HB1.out⟩
  have hz : (i : Int) < (l0.length : Int) := by omega
  have hz0 : (0 : Int) ≤ (i : Int) := by omega
  obtain ⟨c, hc⟩ : ∃ c, l0[i] = c := ⟨_, rfl⟩
  have h3 := HI.out.2.2
  rw [List.drop_eq_getElem_cons hi, hc, skerryref01_Cells.l0] at h3
  obtain ⟨y, h4, h5⟩ := Option.bind_eq_some_iff.1 h3
  have HY := Lib.hid h5
  unfold skerryref01_Cells.one at h4
  obtain ⟨t1, a1, h4⟩ := Option.bind_eq_some_iff.1 h4
  obtain ⟨t2, a2, h4⟩ := Option.bind_eq_some_iff.1 h4
  obtain ⟨z1, a3, h4⟩ := Option.bind_eq_some_iff.1 h4
  obtain ⟨t3, a4, h4⟩ := Option.bind_eq_some_iff.1 h4
  obtain ⟨t4, a5, h4⟩ := Option.bind_eq_some_iff.1 h4
  obtain ⟨z2, a6, h4⟩ := Option.bind_eq_some_iff.1 h4
  obtain ⟨t5, a7, h4⟩ := Option.bind_eq_some_iff.1 h4
  split at h4
  case isFalse => cases h4
  rename_i hl5
  have HA := Lib.hid (And.intro a1 (And.intro a2 (And.intro a3 (And.intro a4 (And.intro a5 (And.intro a6 (And.intro a7 hl5)))))))
  have H4 := Lib.hid h4
  have HZ1 := Lib.hid (fun W => skerryref01_Zig.calls c.f0.f2 z1 W a3)
  have HZ2 := Lib.hid (fun W => skerryref01_Zig.calls c.f1.f0 z2 W a6)
  obtain ⟨ad, ea, hx0, hx1, hx2, hx3, hx4, hx5, hx6, hx7, hx8, hx9⟩ := at_T38 (Kd.C_below HR0.out HB1.out) i hz0 hz
  rw [Int.toNat_natCast] at hx0 hx1 hx2 hx3 hx4 hx5 hx6 hx7 hx8 hx9
  have er : rd_T38 l0 (i : Int) = c := by unfold rd_T38; rw [Int.toNat_natCast, List.getD_eq_getElem?_getD, List.getElem?_eq_getElem hi]; exact hc
  rw [er] at hx0 hx1 hx2 hx3 hx4 hx5 hx6 hx7 hx8 hx9
  subst ea
  clear hc h3 h4 h5 er a1 a2 a3 a4 a5 a6 a7 hl5
  go_upto_region 4 with fail
  go_cut [5] (fun v5 wc => ∃ gc : Nat, v5 = .pointer (some ⟨gc, 0, none⟩) ∧ Aside0 (RS w gc (.cells #[.string c.f0.f0, .string c.f0.f1, .int .i64 c.f0.f2, .string c.f0.f3, .int .i64 c.f1.f0, .bool c.f1.f1, .int .i64 c.f1.f2, .int .i64 c.f1.f3.f0, .int .i64 c.f1.f3.f1, .string c.f1.f3.f2] 38 (0, 0)) wc (.slice Av l.length cv) l))
  case first =>
   go_wp2
   go_meet
   case rel => exact ⟨_, rfl, ⟨⟨blk_new _ _, Kd.R_alloc (Kd.R_mono (Kd.R_bound HO1.out) (fun k hk => Nat.ne_of_lt hk.2.2.1)) _, below_alloc HB1.out _⟩⟩⟩
  case rest =>
   clear HO1 HB1 hx0 hx1 hx2 hx3 hx4 hx5 hx6 hx7 hx8 hx9
   obtain ⟨gc, rfl, HS⟩ := hcut
   have y0 := (blk_cell HS.out.b 0).trans (show _ = some (.string c.f0.f0) from rfl); have y1 := (blk_cell HS.out.b 1).trans (show _ = some (.string c.f0.f1) from rfl)
   go_upto_region 5 with fail
   go_cut [3] (fun v3 wx => ∃ A3 c3, v3 = .slice A3 t2.length c3 ∧ Aside0 (RS w gc (.cells #[.string c.f0.f0, .string c.f0.f1, .int .i64 c.f0.f2, .string c.f0.f3, .int .i64 c.f1.f0, .bool c.f1.f1, .int .i64 c.f1.f2, .int .i64 c.f1.f3.f0, .int .i64 c.f1.f3.f1, .string c.f1.f3.f2] 38 (0, 0)) wx (.slice A3 t2.length c3) t2))
   case first =>
    go_region_held3 (fun w' => w'.cell? ⟨gc, 0, none⟩ = some (.string c.f0.f0) ∧ w'.cell? ⟨gc, 1, none⟩ = some (.string c.f0.f1)) (first | go_keep | exact q1 | exact q2) (first | (go_at_call 79; (first | (with_reducible refine (HS.out.text HA.out.1).mono ?_) | (with_reducible refine (HS.out.drew1.text HA.out.1).mono ?_) | (with_reducible refine ((HS.out.drew _).text HA.out.1).mono ?_)); rintro e w1 ⟨A1, cc1, rfl, hs⟩; have HS1 := Lib.hid hs; have q1 := (⟨(blk_cell hs.b 0).trans rfl, (blk_cell hs.b 1).trans rfl⟩ : World.cell? w1 ⟨gc, 0, none⟩ = some (.string c.f0.f0) ∧ World.cell? w1 ⟨gc, 1, none⟩ = some (.string c.f0.f1)); clear hs) | (go_at_call 79; (first | (with_reducible refine (HS1.out.text HA.out.2.1).mono ?_) | (with_reducible refine (HS1.out.drew1.text HA.out.2.1).mono ?_) | (with_reducible refine ((HS1.out.drew _).text HA.out.2.1).mono ?_)); rintro e w2 ⟨A2, cc2, rfl, hs⟩; have HS2 := Lib.hid hs; have q2 := (⟨(blk_cell hs.b 0).trans rfl, (blk_cell hs.b 1).trans rfl⟩ : World.cell? w2 ⟨gc, 0, none⟩ = some (.string c.f0.f0) ∧ World.cell? w2 ⟨gc, 1, none⟩ = some (.string c.f0.f1)); clear hs))
    all_goals (go_wp2)
    all_goals go_meet
    exact ⟨_, _, rfl, ⟨HS2.out⟩⟩
   case rest =>
    clear HS y0 y1
    obtain ⟨A3, c3, rfl, HS⟩ := hcut
    have y2 := (blk_cell HS.out.b 2).trans (show _ = some (.int .i64 c.f0.f2) from rfl); have y3 := (blk_cell HS.out.b 3).trans (show _ = some (.string c.f0.f3) from rfl)
    go_upto_region 6 with fail
    go_cut [3] (fun v3 wx => ∃ A3 c3, v3 = .slice A3 t4.length c3 ∧ Aside0 (RS w gc (.cells #[.string c.f0.f0, .string c.f0.f1, .int .i64 c.f0.f2, .string c.f0.f3, .int .i64 c.f1.f0, .bool c.f1.f1, .int .i64 c.f1.f2, .int .i64 c.f1.f3.f0, .int .i64 c.f1.f3.f1, .string c.f1.f3.f2] 38 (0, 0)) wx (.slice A3 t4.length c3) t4))
    case first =>
     go_region_held3 (fun w' => w'.cell? ⟨gc, 2, none⟩ = some (.int .i64 c.f0.f2) ∧ w'.cell? ⟨gc, 3, none⟩ = some (.string c.f0.f3)) (first | go_keep | exact q3 | exact q4) (first | (go_at_call 80; (with_reducible refine (HZ1.out _).mono ?_); rintro e w9 ⟨rfl, m9, rfl⟩) | (go_at_call 78; (first | (with_reducible refine (HS.out.put HA.out.2.2.2.1).mono ?_) | (with_reducible refine (HS.out.drew1.put HA.out.2.2.2.1).mono ?_) | (with_reducible refine ((HS.out.drew _).put HA.out.2.2.2.1).mono ?_)); rintro e w3 ⟨A3, cc3, rfl, hs⟩; have HS3 := Lib.hid hs; have q3 := (⟨(blk_cell hs.b 2).trans rfl, (blk_cell hs.b 3).trans rfl⟩ : World.cell? w3 ⟨gc, 2, none⟩ = some (.int .i64 c.f0.f2) ∧ World.cell? w3 ⟨gc, 3, none⟩ = some (.string c.f0.f3)); clear hs) | (go_at_call 79; (first | (with_reducible refine (HS3.out.text HA.out.2.2.2.2.1).mono ?_) | (with_reducible refine (HS3.out.drew1.text HA.out.2.2.2.2.1).mono ?_) | (with_reducible refine ((HS3.out.drew _).text HA.out.2.2.2.2.1).mono ?_)); rintro e w4 ⟨A4, cc4, rfl, hs⟩; have HS4 := Lib.hid hs; have q4 := (⟨(blk_cell hs.b 2).trans rfl, (blk_cell hs.b 3).trans rfl⟩ : World.cell? w4 ⟨gc, 2, none⟩ = some (.int .i64 c.f0.f2) ∧ World.cell? w4 ⟨gc, 3, none⟩ = some (.string c.f0.f3)); clear hs))
     all_goals (go_wp2)
     all_goals go_meet
     exact ⟨_, _, rfl, ⟨HS4.out⟩⟩
    case rest =>
     clear HS y2 y3
     obtain ⟨A4, c4, rfl, HS⟩ := hcut
     have y4 := (blk_cell HS.out.b 4).trans (show _ = some (.int .i64 c.f1.f0) from rfl); have y5 := (blk_cell HS.out.b 5).trans (show _ = some (.bool c.f1.f1) from rfl); have y6 := (blk_cell HS.out.b 6).trans (show _ = some (.int .i64 c.f1.f2) from rfl); have y7 := (blk_cell HS.out.b 7).trans (show _ = some (.int .i64 c.f1.f3.f0) from rfl); have y8 := (blk_cell HS.out.b 8).trans (show _ = some (.int .i64 c.f1.f3.f1) from rfl); have y9 := (blk_cell HS.out.b 9).trans (show _ = some (.string c.f1.f3.f2) from rfl)
     go_upto_region 7 with fail
     go_cut [6] (fun v6 wx => ∃ gv : Nat, v6 = .pointer (some ⟨gv, 0, none⟩) ∧ Aside0 (RS w gv (.cells #[.int .i64 c.f1.f0, .bool c.f1.f1, .int .i64 c.f1.f2, .int .i64 c.f1.f3.f0, .int .i64 c.f1.f3.f1, .string c.f1.f3.f2] 36 (0, 0)) wx (.slice A4 t4.length c4) t4))
     case first =>
      go_wp2
      go_meet
      case rel => exact ⟨_, rfl, ⟨⟨blk_new _ _, Kd.R_alloc (Kd.R_mono (Kd.R_bound HS.out.ro) (fun k hk => Nat.ne_of_lt hk.2.2.1)) _, below_alloc HS.out.bel _⟩⟩⟩
     case rest =>
      clear HS y4 y5 y6 y7 y8 y9
      obtain ⟨gv, rfl, HS⟩ := hcut
      have y0 := (blk_cell HS.out.b 0).trans (show _ = some (.int .i64 c.f1.f0) from rfl); have y1 := (blk_cell HS.out.b 1).trans (show _ = some (.bool c.f1.f1) from rfl); have y2 := (blk_cell HS.out.b 2).trans (show _ = some (.int .i64 c.f1.f2) from rfl); have y3 := (blk_cell HS.out.b 3).trans (show _ = some (.int .i64 c.f1.f3.f0) from rfl); have y4 := (blk_cell HS.out.b 4).trans (show _ = some (.int .i64 c.f1.f3.f1) from rfl); have y5 := (blk_cell HS.out.b 5).trans (show _ = some (.string c.f1.f3.f2) from rfl)
      go_upto_region 8 with fail
      go_cut [3] (fun v3 wx => ∃ A3 c3, v3 = .slice A3 t5.length c3 ∧ Aside0 (RS w gv (.cells #[.int .i64 c.f1.f0, .bool c.f1.f1, .int .i64 c.f1.f2, .int .i64 c.f1.f3.f0, .int .i64 c.f1.f3.f1, .string c.f1.f3.f2] 36 (0, 0)) wx (.slice A3 t5.length c3) t5))
      case first =>
       go_wp2_with (first | (go_at_call 80; (with_reducible refine (HZ2.out _).mono ?_); rintro e w9 ⟨rfl, m9, rfl⟩) | (go_at_call 78; (first | (with_reducible refine (HS.out.put HA.out.2.2.2.2.2.2.1).mono ?_) | (with_reducible refine (HS.out.drew1.put HA.out.2.2.2.2.2.2.1).mono ?_) | (with_reducible refine ((HS.out.drew _).put HA.out.2.2.2.2.2.2.1).mono ?_)); rintro e w5 ⟨A5, cc5, rfl, hs⟩; have HS5 := Lib.hid hs; have q5 := (⟨(blk_cell hs.b 0).trans rfl, (blk_cell hs.b 2).trans rfl, (blk_cell hs.b 3).trans rfl, (blk_cell hs.b 4).trans rfl, (blk_cell hs.b 5).trans rfl⟩ : World.cell? w5 ⟨gv, 0, none⟩ = some (.int .i64 c.f1.f0) ∧ World.cell? w5 ⟨gv, 2, none⟩ = some (.int .i64 c.f1.f2) ∧ World.cell? w5 ⟨gv, 3, none⟩ = some (.int .i64 c.f1.f3.f0) ∧ World.cell? w5 ⟨gv, 4, none⟩ = some (.int .i64 c.f1.f3.f1) ∧ World.cell? w5 ⟨gv, 5, none⟩ = some (.string c.f1.f3.f2)); clear hs))
       all_goals go_meet
       exact ⟨_, _, rfl, ⟨HS5.out⟩⟩
      case rest =>
       clear HS y0 y1 y2 y3 y4 y5
       obtain ⟨A5, c5, rfl, HT⟩ := hcut
       have y0 := (blk_cell HT.out.b 0).trans (show _ = some (.int .i64 c.f1.f0) from rfl); have y1 := (blk_cell HT.out.b 1).trans (show _ = some (.bool c.f1.f1) from rfl); have y2 := (blk_cell HT.out.b 2).trans (show _ = some (.int .i64 c.f1.f2) from rfl); have y3 := (blk_cell HT.out.b 3).trans (show _ = some (.int .i64 c.f1.f3.f0) from rfl); have y4 := (blk_cell HT.out.b 4).trans (show _ = some (.int .i64 c.f1.f3.f1) from rfl); have y5 := (blk_cell HT.out.b 5).trans (show _ = some (.string c.f1.f3.f2) from rfl)
       cases hd : c.f1.f1 with
       | true =>
        have h4 := H4.out
        rw [if_pos hd] at h4
        obtain ⟨z3, b1, b2⟩ := Option.bind_eq_some_iff.1 h4
        have HZ3 := Lib.hid (fun W => skerryref01_Zig.calls c.f1.f2 z3 W b1)
        have B2 := Lib.hid b2
        rw [hd] at y1
        have HD := Lib.hid hd
        clear h4 b1 b2 hd
        go_upto_region 10 with fail
        go_region_held3 (fun w' => w'.cell? ⟨gv, 0, none⟩ = some (.int .i64 c.f1.f0) ∧ w'.cell? ⟨gv, 2, none⟩ = some (.int .i64 c.f1.f2) ∧ w'.cell? ⟨gv, 3, none⟩ = some (.int .i64 c.f1.f3.f0) ∧ w'.cell? ⟨gv, 4, none⟩ = some (.int .i64 c.f1.f3.f1) ∧ w'.cell? ⟨gv, 5, none⟩ = some (.string c.f1.f3.f2)) (first | go_keep | exact q5 | exact q6) (first | (go_at_call 80; (with_reducible refine (HZ3.out _).mono ?_); rintro e w9 ⟨rfl, m9, rfl⟩) | (refine Kd.R_append_step (Kd.int .u8) (w0 := w) w.heap.size (by rfl) (.tmp 45) (.tmp 46) 55 5 (.int .u8 0) 1 (by rfl) Try.underlying55 info5 rfl (by decide) (by omega) _ t5 1 [.int .u8 1] (fun k => k ≠ gv) (fun _ => False) (by rfl) (by rfl) rfl (fun _ hk => hk.elim) HT.out.drew1.fresh HT.out.drew1.ro HT.out.drew1.bel (below_size HT.out.drew1.bel) (by have := HA.out.2.2.2.2.2.2.2; omega) ?_; intro v5 w5 ho hb hg hat; obtain ⟨A5, cc5, ev⟩ := Kd.R_slice ho; subst ev; have hs := HT.out.drew1.grown ho hb hg; rw [show (t5 ++ [(1 : Int)]).length = t5.length + 1 by rw [List.length_append]; rfl] at hs; have HS5 := Lib.hid hs; have q5 := (⟨(blk_cell hs.b 0).trans rfl, (blk_cell hs.b 2).trans rfl, (blk_cell hs.b 3).trans rfl, (blk_cell hs.b 4).trans rfl, (blk_cell hs.b 5).trans rfl⟩ : World.cell? w5 ⟨gv, 0, none⟩ = some (.int .i64 c.f1.f0) ∧ World.cell? w5 ⟨gv, 2, none⟩ = some (.int .i64 c.f1.f2) ∧ World.cell? w5 ⟨gv, 3, none⟩ = some (.int .i64 c.f1.f3.f0) ∧ World.cell? w5 ⟨gv, 4, none⟩ = some (.int .i64 c.f1.f3.f1) ∧ World.cell? w5 ⟨gv, 5, none⟩ = some (.string c.f1.f3.f2)); clear ho hb hg hat hs) | (go_at_call 78; (first | (with_reducible refine (HS5.out.put B2.out).mono ?_) | (with_reducible refine (HS5.out.drew1.put B2.out).mono ?_) | (with_reducible refine ((HS5.out.drew _).put B2.out).mono ?_)); rintro e w6 ⟨A6, cc6, rfl, hs⟩; have HS6 := Lib.hid hs; have q6 := (⟨(blk_cell hs.b 0).trans rfl, (blk_cell hs.b 2).trans rfl, (blk_cell hs.b 3).trans rfl, (blk_cell hs.b 4).trans rfl, (blk_cell hs.b 5).trans rfl⟩ : World.cell? w6 ⟨gv, 0, none⟩ = some (.int .i64 c.f1.f0) ∧ World.cell? w6 ⟨gv, 2, none⟩ = some (.int .i64 c.f1.f2) ∧ World.cell? w6 ⟨gv, 3, none⟩ = some (.int .i64 c.f1.f3.f0) ∧ World.cell? w6 ⟨gv, 4, none⟩ = some (.int .i64 c.f1.f3.f1) ∧ World.cell? w6 ⟨gv, 5, none⟩ = some (.string c.f1.f3.f2)); clear hs))
        all_goals (go_wp2)
        all_goals (
         go_roundg (l0.length - (i + 1))
         case measure => have := HI.out; omega
         case rel => exact ⟨i + 1, _, _, _, by go_num, rfl, ⟨by omega, Nat.le_refl _, HY.out⟩, ⟨Kd.R_mono HS6.out.ro (fun _ _ => trivial)⟩, ⟨HS6.out.bel⟩⟩)
       | false =>
        have h4 := H4.out
        rw [if_neg (by rw [hd]; simp)] at h4
        obtain ⟨t6, b1, h4⟩ := Option.bind_eq_some_iff.1 h4
        obtain ⟨z4, b2, h4⟩ := Option.bind_eq_some_iff.1 h4
        obtain ⟨t7, b3, b4⟩ := Option.bind_eq_some_iff.1 h4
        have HZ4 := Lib.hid (fun W => skerryref01_Zig.calls c.f1.f3.f1 z4 W b2)
        have B1 := Lib.hid b1
        have B3 := Lib.hid b3
        have B4 := Lib.hid b4
        rw [hd] at y1
        have HD := Lib.hid hd
        clear h4 b1 b2 b3 b4 hd
        go_upto_region 11 with fail
        go_cut [3] (fun v3 wx => ∃ A3 c3, v3 = .slice A3 t6.length c3 ∧ Aside0 (RS w gv (.cells #[.int .i64 c.f1.f0, .bool c.f1.f1, .int .i64 c.f1.f2, .int .i64 c.f1.f3.f0, .int .i64 c.f1.f3.f1, .string c.f1.f3.f2] 36 (0, 0)) wx (.slice A3 t6.length c3) t6))
        case first =>
         go_region_held3 (fun w' => w'.cell? ⟨gv, 0, none⟩ = some (.int .i64 c.f1.f0) ∧ w'.cell? ⟨gv, 2, none⟩ = some (.int .i64 c.f1.f2) ∧ w'.cell? ⟨gv, 3, none⟩ = some (.int .i64 c.f1.f3.f0) ∧ w'.cell? ⟨gv, 4, none⟩ = some (.int .i64 c.f1.f3.f1) ∧ w'.cell? ⟨gv, 5, none⟩ = some (.string c.f1.f3.f2)) (first | go_keep | exact q5 | exact q6) (first | (refine Kd.R_append_step (Kd.int .u8) (w0 := w) w.heap.size (by rfl) (.tmp 52) (.tmp 53) 55 5 (.int .u8 0) 1 (by rfl) Try.underlying55 info5 rfl (by decide) (by omega) _ t5 0 [.int .u8 0] (fun k => k ≠ gv) (fun _ => False) (by rfl) (by rfl) rfl (fun _ hk => hk.elim) HT.out.drew1.fresh HT.out.drew1.ro HT.out.drew1.bel (below_size HT.out.drew1.bel) (by have := HA.out.2.2.2.2.2.2.2; omega) ?_; intro v5 w5 ho hb hg hat; obtain ⟨A5, cc5, ev⟩ := Kd.R_slice ho; subst ev; have hs := HT.out.drew1.grown ho hb hg; rw [show (t5 ++ [(0 : Int)]).length = t5.length + 1 by rw [List.length_append]; rfl] at hs; have HS5 := Lib.hid hs; have q5 := (⟨(blk_cell hs.b 0).trans rfl, (blk_cell hs.b 2).trans rfl, (blk_cell hs.b 3).trans rfl, (blk_cell hs.b 4).trans rfl, (blk_cell hs.b 5).trans rfl⟩ : World.cell? w5 ⟨gv, 0, none⟩ = some (.int .i64 c.f1.f0) ∧ World.cell? w5 ⟨gv, 2, none⟩ = some (.int .i64 c.f1.f2) ∧ World.cell? w5 ⟨gv, 3, none⟩ = some (.int .i64 c.f1.f3.f0) ∧ World.cell? w5 ⟨gv, 4, none⟩ = some (.int .i64 c.f1.f3.f1) ∧ World.cell? w5 ⟨gv, 5, none⟩ = some (.string c.f1.f3.f2)); clear ho hb hg hat hs) | (go_at_call 78; (first | (with_reducible refine (HS5.out.put B1.out).mono ?_) | (with_reducible refine (HS5.out.drew1.put B1.out).mono ?_) | (with_reducible refine ((HS5.out.drew _).put B1.out).mono ?_)); rintro e w6 ⟨A6, cc6, rfl, hs⟩; have HS6 := Lib.hid hs; have q6 := (⟨(blk_cell hs.b 0).trans rfl, (blk_cell hs.b 2).trans rfl, (blk_cell hs.b 3).trans rfl, (blk_cell hs.b 4).trans rfl, (blk_cell hs.b 5).trans rfl⟩ : World.cell? w6 ⟨gv, 0, none⟩ = some (.int .i64 c.f1.f0) ∧ World.cell? w6 ⟨gv, 2, none⟩ = some (.int .i64 c.f1.f2) ∧ World.cell? w6 ⟨gv, 3, none⟩ = some (.int .i64 c.f1.f3.f0) ∧ World.cell? w6 ⟨gv, 4, none⟩ = some (.int .i64 c.f1.f3.f1) ∧ World.cell? w6 ⟨gv, 5, none⟩ = some (.string c.f1.f3.f2)); clear hs))
         all_goals (go_wp2)
         all_goals go_meet
         exact ⟨_, _, rfl, ⟨HS6.out⟩⟩
        case rest =>
         clear HT y0 y1 y2 y3 y4 y5
         obtain ⟨A6, c6, rfl, HS6⟩ := hcut
         have y0 := (blk_cell HS6.out.b 0).trans (show _ = some (.int .i64 c.f1.f0) from rfl); have y1 := (blk_cell HS6.out.b 1).trans (show _ = some (.bool c.f1.f1) from rfl); have y2 := (blk_cell HS6.out.b 2).trans (show _ = some (.int .i64 c.f1.f2) from rfl); have y3 := (blk_cell HS6.out.b 3).trans (show _ = some (.int .i64 c.f1.f3.f0) from rfl); have y4 := (blk_cell HS6.out.b 4).trans (show _ = some (.int .i64 c.f1.f3.f1) from rfl); have y5 := (blk_cell HS6.out.b 5).trans (show _ = some (.string c.f1.f3.f2) from rfl)
         go_upto_region 12 with fail
         go_region_held3 (fun w' => w'.cell? ⟨gv, 0, none⟩ = some (.int .i64 c.f1.f0) ∧ w'.cell? ⟨gv, 2, none⟩ = some (.int .i64 c.f1.f2) ∧ w'.cell? ⟨gv, 3, none⟩ = some (.int .i64 c.f1.f3.f0) ∧ w'.cell? ⟨gv, 4, none⟩ = some (.int .i64 c.f1.f3.f1) ∧ w'.cell? ⟨gv, 5, none⟩ = some (.string c.f1.f3.f2)) (first | go_keep | exact q7 | exact q8) (first | (go_at_call 80; (with_reducible refine (HZ4.out _).mono ?_); rintro e w9 ⟨rfl, m9, rfl⟩) | (go_at_call 78; (first | (with_reducible refine (HS6.out.put B3.out).mono ?_) | (with_reducible refine (HS6.out.drew1.put B3.out).mono ?_) | (with_reducible refine ((HS6.out.drew _).put B3.out).mono ?_)); rintro e w7 ⟨A7, cc7, rfl, hs⟩; have HS7 := Lib.hid hs; have q7 := (⟨(blk_cell hs.b 0).trans rfl, (blk_cell hs.b 2).trans rfl, (blk_cell hs.b 3).trans rfl, (blk_cell hs.b 4).trans rfl, (blk_cell hs.b 5).trans rfl⟩ : World.cell? w7 ⟨gv, 0, none⟩ = some (.int .i64 c.f1.f0) ∧ World.cell? w7 ⟨gv, 2, none⟩ = some (.int .i64 c.f1.f2) ∧ World.cell? w7 ⟨gv, 3, none⟩ = some (.int .i64 c.f1.f3.f0) ∧ World.cell? w7 ⟨gv, 4, none⟩ = some (.int .i64 c.f1.f3.f1) ∧ World.cell? w7 ⟨gv, 5, none⟩ = some (.string c.f1.f3.f2)); clear hs) | (go_at_call 79; (first | (with_reducible refine (HS7.out.text B4.out).mono ?_) | (with_reducible refine (HS7.out.drew1.text B4.out).mono ?_) | (with_reducible refine ((HS7.out.drew _).text B4.out).mono ?_)); rintro e w8 ⟨A8, cc8, rfl, hs⟩; have HS8 := Lib.hid hs; have q8 := (⟨(blk_cell hs.b 0).trans rfl, (blk_cell hs.b 2).trans rfl, (blk_cell hs.b 3).trans rfl, (blk_cell hs.b 4).trans rfl, (blk_cell hs.b 5).trans rfl⟩ : World.cell? w8 ⟨gv, 0, none⟩ = some (.int .i64 c.f1.f0) ∧ World.cell? w8 ⟨gv, 2, none⟩ = some (.int .i64 c.f1.f2) ∧ World.cell? w8 ⟨gv, 3, none⟩ = some (.int .i64 c.f1.f3.f0) ∧ World.cell? w8 ⟨gv, 4, none⟩ = some (.int .i64 c.f1.f3.f1) ∧ World.cell? w8 ⟨gv, 5, none⟩ = some (.string c.f1.f3.f2)); clear hs))
         all_goals (go_wp2)
         all_goals (
          go_roundg (l0.length - (i + 1))
          case measure => have := HI.out; omega
          case rel => exact ⟨i + 1, _, _, _, by go_num, rfl, ⟨by omega, Nat.le_refl _, HY.out⟩, ⟨Kd.R_mono HS8.out.ro (fun _ _ => trivial)⟩, ⟨HS8.out.bel⟩⟩)
def skerryref05_Digest.f (k : Nat) (l0 : List (S38)) : Option (Int) := (skerryref01_Cells.f k l0).bind fun t348 => ((skerryref02_Sum.f k t348 0).bind fun bt351 => (some bt351.1))
set_option maxHeartbeats 8000000 in
set_option maxRecDepth 100000 in
theorem skerryref05_Digest.calls (k : Nat) (A0 : Option Addr) (c0 : Nat) (l0 : List (S38)) (r : Int) (w : World) (hr0 : Kd.C k38 w A0 l0.length l0) (hc0 : l0.length ≤ c0) (h : skerryref05_Digest.f k l0 = some r) :
  Calls Try.prog 36 #[.slice A0 l0.length c0] w fun e w' => e = .returned (.int .u64 r) ∧ Below w.heap.size w w' := by
 have HR0 := Aside0.mk hr0
 have HC0 := Aside0.mk hc0
 clear hr0 hc0
 have HB := Aside0.mk (Below.refl w.heap.size w)
 have H : ((skerryref01_Cells.f k l0).bind fun t348 => ((skerryref02_Sum.f k t348 0).bind fun bt351 => (some bt351.1))) = some r := h
 clear h
 replace H := Option.bind_eq_some_iff.mp H
 obtain ⟨t348, A20, H⟩ := H
 have A2 := Aside0.mk A20
 clear A20
 replace H := Option.bind_eq_some_iff.mp H
 obtain ⟨⟨t351, t352⟩, A30, H⟩ := H
 have A3 := Aside0.mk A30
 clear A30
 obtain rfl := Option.some.inj H
 go_enter Try.func36, Try.ntmps36
 go_wp2_with (first | ((with_reducible refine gate_callee (f := 61) rfl ?_); refine goesL_ (some 7) rfl rfl Try.func61 (by kernel_rfl) rfl #[.slice A0 l0.length c0] rfl (by (try simp only [mT_, mC_, mN_]); first | done | rfl) ?_; (with_reducible refine (skerryref01_Cells.calls k _ _ l0 t348 _ ?side1 ?side2 A2.out).mono ?_); (case side1 => repeat (first | exact HR0.out | (with_reducible refine Kd.C_alloc ?_ _) | (with_reducible refine Kd.C_drewN ?_ _) | (with_reducible refine Kd.C_drew ?_))); (case side2 => exact HC0.out); rintro e w4 ⟨v349, rfl, ho0, hb⟩; refine ⟨_, rfl, ?_⟩; have HO350 := Aside0.mk (Kd.R_lower ho0 (bZ_ (kwW HB))); replace HB := Aside0.mk (below_step (kwW HB) hb); (try clear hb); (try clear hb2); (try clear hk); (try clear hi); (try clear ho0); obtain ⟨Ao5, co5, eo5⟩ := Kd.R_slice HO350.out; subst eo5) | ((with_reducible refine gate_callee (f := 33) rfl ?_); refine goesL_ (some 8) rfl rfl Try.func33 (by kernel_rfl) rfl #[.slice Ao5 t348.length co5, .int .u64 0] rfl (by (try simp only [mT_, mC_, mN_]); first | done | rfl) ?_; (with_reducible refine (skerryref02_Sum.calls k _ _ t348 0 t351 t352 _ ?side1 ?side2 A3.out).mono ?_); (case side1 => repeat (first | exact (Kd.R_reads' HO350.out).2.2 | (with_reducible refine Kd.C_alloc ?_ _) | (with_reducible refine Kd.C_drewN ?_ _) | (with_reducible refine Kd.C_drew ?_))); (case side2 => exact (Kd.R_reads' HO350.out).2.1); rintro e w' ⟨rfl, ⟨nd, rfl⟩⟩; refine ⟨_, rfl, ?_⟩))
 go_ret
 exact ⟨by first | rfl | (simp <;> rfl) | (simp [*] <;> rfl), kwW HB⟩
end Go.Proofs.Ytafhnjlihhfoaaa.Q
