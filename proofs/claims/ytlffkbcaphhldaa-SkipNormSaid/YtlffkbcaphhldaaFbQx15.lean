/- Lemmas for this claim's walk: no condition of their own. -/
import Derived.Test.YtlffkbcaphhldaaFbSq
import Derived.Test.YtlffkbcaphhldaaFbQx0
import Derived.Test.YtlffkbcaphhldaaFbQx13
import Derived.Test.YtlffkbcaphhldaaFbQx14
namespace Go.Proofs.Ytlffkbcaphhldaa.Q
open Go.RowKit Go.Proofs.YtlffkbcaphhldaaW.PrintWords Go.Proofs.YtlffkbcaphhldaaW.PrintLast Go.Proofs.YtlffkbcaphhldaaW.PrintMore
attribute [local go_sem] max2_int min2_int max_two min_two max_three min_three max_four min_four
set_option linter.unusedVariables false
set_option linter.unusedSimpArgs false
def skerryref05_Add.turn (x c : S37) (d : Int) (done : Bool) : Option (S37 × Bool) := if d = 0 then (skerryref05_Join.f x.f1.f0 x.f1.f1 x.f1.f2 x.f1.f3.f0 x.f1.f3.f1 x.f1.f3.f2 c.f1.f0 c.f1.f1 c.f1.f2 c.f1.f3.f0 c.f1.f3.f1 c.f1.f3.f2).bind fun v => some (⟨x.f0, ⟨v.1, v.2.1, v.2.2.1, ⟨v.2.2.2.1, v.2.2.2.2.1, v.2.2.2.2.2⟩⟩⟩, true) else some (x, done)
def skerryref05_Add.go (c : S37) : List (S37) → List (S37) → Bool → Option (List (S37))
 | [], out, done => if done = true then some out else if out.length < 1256584717458 then some (out ++ [c]) else none
 | x :: l, out, done => (skerryref04_Cmp.f x.f0.f0 x.f0.f1 x.f0.f2 x.f0.f3 c.f0.f0 c.f0.f1 c.f0.f2 c.f0.f3).bind fun d => (skerryref05_Add.turn x c d done).bind fun q => if q.2 = false ∧ d > 0 then (if out.length + 1 < 1256584717458 then skerryref05_Add.go c l ((out ++ [c]) ++ [q.1]) true else none) else (if out.length < 1256584717458 then skerryref05_Add.go c l (out ++ [q.1]) q.2 else none)
def skerryref05_Add.f (l0 : List (S37)) (a1_0 : ByteArray) (a1_1 : ByteArray) (a1_2 : Int) (a1_3 : ByteArray) (a1_4 : Int) (a1_5 : Bool) (a1_6 : Int) (a1_7 : Int) (a1_8 : Int) (a1_9 : ByteArray) : Option (List (S37)) := skerryref05_Add.go ⟨⟨a1_0, a1_1, a1_2, a1_3⟩, ⟨a1_4, a1_5, a1_6, ⟨a1_7, a1_8, a1_9⟩⟩⟩ l0 [] false
structure AS (w : World) (g3 g8 : Nat) (c x : S37) (W : World) (v : Value) (out : List (S37)) : Prop where
 b3 : W.heap[g3]? = some (.cells #[.string c.f0.f0, .string c.f0.f1, .int .i64 c.f0.f2, .string c.f0.f3, .int .i64 c.f1.f0, .bool c.f1.f1, .int .i64 c.f1.f2, .int .i64 c.f1.f3.f0, .int .i64 c.f1.f3.f1, .string c.f1.f3.f2] 37 (0, 0))
 b8 : W.heap[g8]? = some (.cells #[.string x.f0.f0, .string x.f0.f1, .int .i64 x.f0.f2, .string x.f0.f3, .int .i64 x.f1.f0, .bool x.f1.f1, .int .i64 x.f1.f2, .int .i64 x.f1.f3.f0, .int .i64 x.f1.f3.f1, .string x.f1.f3.f2] 37 (0, 0))
 ro : Kd.R k37 37 W w.heap.size (fun k => k ≠ g3 ∧ k ≠ g8) v out
 bel : Below w.heap.size w W
 ge : w.heap.size ≤ g8
 ne : g3 ≠ g8
theorem AS.below {w : World} {g3 g8 : Nat} {c x : S37} {W W1 : World} {v : Value} {out : List (S37)} (h : AS w g3 g8 c x W v out) (hb : Below W.heap.size W W1) : AS w g3 g8 c x W1 v out :=
 ⟨blk_below h.b3 hb, blk_below h.b8 hb, Kd.R_below h.ro hb, below_step h.bel hb, h.ge, h.ne⟩
theorem AS.fresh {w : World} {g3 g8 : Nat} {c x : S37} {W : World} {v : Value} {out : List (S37)} (h : AS w g3 g8 c x W v out) : ∀ k, W.heap.size ≤ k → k ≠ g3 ∧ k ≠ g8 := fun k hk => by have := blk_lt h.b3; have := blk_lt h.b8; omega
theorem AS.grown {w : World} {g3 g8 : Nat} {c x : S37} {W W1 : World} {v v1 : Value} {out out1 : List (S37)} (h : AS w g3 g8 c x W v out) (ho : Kd.R k37 37 W1 w.heap.size (fun k => k ≠ g3 ∧ k ≠ g8) v1 out1) (hb : Below w.heap.size w W1) (hg : W.grownBy W1 v.ownBlock) : AS w g3 g8 c x W1 v1 out1 :=
 ⟨blk_grown h.b3 hg (fun e => (h.ro.1 g3 e.symm).1 rfl), blk_grown h.b8 hg (fun e => (h.ro.1 g8 e.symm).2 rfl), ho, hb, h.ge, h.ne⟩
theorem AS.join {w : World} {g3 g8 : Nat} {c x : S37} {W : World} {v : Value} {out : List (S37)} (h : AS w g3 g8 c x W v out) (j0 : Int) (j1 : Bool) (j2 j3 j4 : Int) (j5 : ByteArray) :
  AS w g3 g8 c ⟨x.f0, ⟨j0, j1, j2, ⟨j3, j4, j5⟩⟩⟩ ((((((W.setCell ⟨g8, 4, none⟩ (.int .i64 j0)).setCell ⟨g8, 5, none⟩ (.bool j1)).setCell ⟨g8, 6, none⟩ (.int .i64 j2)).setCell ⟨g8, 7, none⟩ (.int .i64 j3)).setCell ⟨g8, 8, none⟩ (.int .i64 j4)).setCell ⟨g8, 9, none⟩ (.string j5)) v out := by
 have far : ∀ (W : World) (j : Nat) (u : Value), W.heap[g3]? = some (.cells #[.string c.f0.f0, .string c.f0.f1, .int .i64 c.f0.f2, .string c.f0.f3, .int .i64 c.f1.f0, .bool c.f1.f1, .int .i64 c.f1.f2, .int .i64 c.f1.f3.f0, .int .i64 c.f1.f3.f1, .string c.f1.f3.f2] 37 (0, 0)) → (W.setCell ⟨g8, j, none⟩ u).heap[g3]? = some (.cells #[.string c.f0.f0, .string c.f0.f1, .int .i64 c.f0.f2, .string c.f0.f3, .int .i64 c.f1.f0, .bool c.f1.f1, .int .i64 c.f1.f2, .int .i64 c.f1.f3.f0, .int .i64 c.f1.f3.f1, .string c.f1.f3.f2] 37 (0, 0)) := fun W j u hb => (Below.heap_setCell W ⟨g8, j, none⟩ u g3 h.ne).trans hb
 have rf : ∀ (W : World) (j : Nat) (u : Value), Kd.R k37 37 W w.heap.size (fun k => k ≠ g3 ∧ k ≠ g8) v out → Kd.R k37 37 (W.setCell ⟨g8, j, none⟩ u) w.heap.size (fun k => k ≠ g3 ∧ k ≠ g8) v out := fun W j u hr => Kd.R_far (p := ⟨g8, j, none⟩) hr (fun k hk => hk.2) u
 have bs : ∀ (W : World) (j : Nat) (u : Value), Below w.heap.size w W → Below w.heap.size w (W.setCell ⟨g8, j, none⟩ u) := fun W j u hb => below_set hb h.ge
 exact ⟨far _ _ _ (far _ _ _ (far _ _ _ (far _ _ _ (far _ _ _ (far _ _ _ h.b3))))), blk_put (blk_put (blk_put (blk_put (blk_put (blk_put h.b8 4 _ rfl) 5 _ rfl) 6 _ rfl) 7 _ rfl) 8 _ rfl) 9 _ rfl, rf _ _ _ (rf _ _ _ (rf _ _ _ (rf _ _ _ (rf _ _ _ (rf _ _ _ h.ro))))), bs _ _ _ (bs _ _ _ (bs _ _ _ (bs _ _ _ (bs _ _ _ (bs _ _ _ h.bel))))), h.ge, h.ne⟩
set_option maxHeartbeats 800000 in
set_option maxRecDepth 100000 in
theorem skerryref05_Add.calls (A0 : Option Addr) (c0 : Nat) (l0 : List (S37)) (a1_0 : ByteArray) (a1_1 : ByteArray) (a1_2 : Int) (a1_3 : ByteArray) (a1_4 : Int) (a1_5 : Bool) (a1_6 : Int) (a1_7 : Int) (a1_8 : Int) (a1_9 : ByteArray) (r : List (S37)) (w : World) (hr0 : Kd.C k37 w A0 l0.length l0) (hc0 : l0.length ≤ c0) (h : skerryref05_Add.f l0 a1_0 a1_1 a1_2 a1_3 a1_4 a1_5 a1_6 a1_7 a1_8 a1_9 = some r) :
  Calls Try.prog 33 #[.slice A0 l0.length c0, .agg #[.string a1_0, .string a1_1, .int .i64 a1_2, .string a1_3, .int .i64 a1_4, .bool a1_5, .int .i64 a1_6, .int .i64 a1_7, .int .i64 a1_8, .string a1_9]] w fun e w' => ∃ v0_ : Value, e = .returned (v0_) ∧ Kd.R k37 37 w' w.heap.size (fun _ => True) v0_ r ∧ Below w.heap.size w w' := by
 have HR0 := Lib.hid hr0
 have hm0 := hr0.2.1
 unfold skerryref05_Add.f at h
 obtain ⟨c, hc⟩ : ∃ c : S37, c = ⟨⟨a1_0, a1_1, a1_2, a1_3⟩, ⟨a1_4, a1_5, a1_6, ⟨a1_7, a1_8, a1_9⟩⟩⟩ := ⟨_, rfl⟩
 rw [← hc] at h
 obtain ⟨rfl, rfl, rfl, rfl, rfl, rfl, rfl, rfl, rfl, rfl⟩ : c.f0.f0 = a1_0 ∧ c.f0.f1 = a1_1 ∧ c.f0.f2 = a1_2 ∧ c.f0.f3 = a1_3 ∧ c.f1.f0 = a1_4 ∧ c.f1.f1 = a1_5 ∧ c.f1.f2 = a1_6 ∧ c.f1.f3.f0 = a1_7 ∧ c.f1.f3.f1 = a1_8 ∧ c.f1.f3.f2 = a1_9 := by rw [hc]; exact ⟨rfl, rfl, rfl, rfl, rfl, rfl, rfl, rfl, rfl, rfl⟩
 have H := Lib.hid h
 clear h hc hr0
 go_enter Try.func33, Try.ntmps33
 go_upto_region 0 with fail
 go_cut [3] (fun v3 wc => ∃ g3 : Nat, v3 = .pointer (some ⟨g3, 0, none⟩) ∧ Aside0 (wc.heap[g3]? = some (.cells #[.string c.f0.f0, .string c.f0.f1, .int .i64 c.f0.f2, .string c.f0.f3, .int .i64 c.f1.f0, .bool c.f1.f1, .int .i64 c.f1.f2, .int .i64 c.f1.f3.f0, .int .i64 c.f1.f3.f1, .string c.f1.f3.f2] 37 (0, 0))) ∧ Aside0 (w.heap.size ≤ g3) ∧ Aside0 (Below w.heap.size w wc))
 case first =>
  go_wp2
  go_meet
  case rel => exact ⟨_, rfl, ⟨blk_new _ _⟩, ⟨Nat.le_refl _⟩, ⟨below_alloc (Below.refl _ _) _⟩⟩
 case rest =>
  obtain ⟨g3, rfl, HB3, HG3, HB⟩ := hcut
  go_upto_region 4 with fail
  go_loopg [5, 6, 12] l0.length (fun gk v5 v6 v12 wr => ∃ (i : Nat) (out : List (S37)) (done : Bool) (A : Option Addr) (cc : Nat), v12 = .int .i64 i ∧ v5 = .slice A out.length cc ∧ v6 = .bool done ∧ Aside0 (i ≤ l0.length ∧ l0.length - i ≤ gk ∧ skerryref05_Add.go c (l0.drop i) out done = some r) ∧ Aside0 (wr.heap[g3]? = some (.cells #[.string c.f0.f0, .string c.f0.f1, .int .i64 c.f0.f2, .string c.f0.f3, .int .i64 c.f1.f0, .bool c.f1.f1, .int .i64 c.f1.f2, .int .i64 c.f1.f3.f0, .int .i64 c.f1.f3.f1, .string c.f1.f3.f2] 37 (0, 0))) ∧ Aside0 (Kd.R k37 37 wr w.heap.size (fun k => k ≠ g3) (.slice A out.length cc) out) ∧ Aside0 (Below w.heap.size w wr))
  case atStart => exact ⟨0, [], false, none, 0, rfl, rfl, rfl, ⟨Nat.zero_le _, by omega, H.out⟩, HB3, ⟨Kd.R_nil _ _ _ _ _⟩, HB⟩
  case round =>
   clear HB3 HB
   obtain ⟨i, out, done, A, cc, rfl, rfl, rfl, HI, HB3, HO, HB⟩ := hrel
   by_cases hi : i < l0.length
   rotate_left
   ·
    have hz : ¬ (i : Int) < (l0.length : Int) := by omega
    have h3 := HI.out.2.2
    rw [List.drop_of_length_le (by omega), skerryref05_Add.go] at h3
    cases done with
    | true =>
     rw [if_pos rfl] at h3
     have H3 := Lib.hid (Option.some.inj h3)
     clear h3
     go_wp2
     go_ret
     exact ⟨_, rfl, H3.out ▸ Kd.R_mono HO.out (fun _ _ => trivial), HB.out⟩
    | false =>
     rw [if_neg (by simp)] at h3
     split at h3
     case isFalse => cases h3
     rename_i hlen
     have HL := Lib.hid hlen
     have H3 := Lib.hid (Option.some.inj h3)
     have y0 := (blk_cell HB3.out 0).trans (show _ = some (Value.string c.f0.f0) from rfl)
     have y1 := (blk_cell HB3.out 1).trans (show _ = some (Value.string c.f0.f1) from rfl)
     have y2 := (blk_cell HB3.out 2).trans (show _ = some (Value.int .i64 c.f0.f2) from rfl)
     have y3 := (blk_cell HB3.out 3).trans (show _ = some (Value.string c.f0.f3) from rfl)
     have y4 := (blk_cell HB3.out 4).trans (show _ = some (Value.int .i64 c.f1.f0) from rfl)
     have y5 := (blk_cell HB3.out 5).trans (show _ = some (Value.bool c.f1.f1) from rfl)
     have y6 := (blk_cell HB3.out 6).trans (show _ = some (Value.int .i64 c.f1.f2) from rfl)
     have y7 := (blk_cell HB3.out 7).trans (show _ = some (Value.int .i64 c.f1.f3.f0) from rfl)
     have y8 := (blk_cell HB3.out 8).trans (show _ = some (Value.int .i64 c.f1.f3.f1) from rfl)
     have y9 := (blk_cell HB3.out 9).trans (show _ = some (Value.string c.f1.f3.f2) from rfl)
     clear h3 hlen
     go_wp2_with (((with_reducible refine gate_builtin (b := .append) (xs := #[.tmp 46, .tmp 48]) rfl ?_); (try (refine gate_guard (by rfl) ?_; dsimp only)); at_builtin; refine Kd.R_append k37 (w0 := w) w.heap.size rfl (.tmp 46) (.tmp 48) 23 37 (.agg #[(.string ⟨#[]⟩), (.string ⟨#[]⟩), (.int .i64 0), (.string ⟨#[]⟩), (.int .i64 0), (.bool false), (.int .i64 0), (.int .i64 0), (.int .i64 0), (.string ⟨#[]⟩)]) 112 rfl Try.underlying23 info37 rfl (by decide) (by omega) _ out c _ (fun k => k ≠ g3) (fun _ => False) rfl rfl (k37_mkM _ _ _ _) (fun _ hk => hk.elim) (fun k hk => by have := blk_lt HB3.out; omega) HO.out HB.out (below_size HB.out) (by have := HL.out; omega) ?_; intro v1 w1 ho hb hg hat; obtain ⟨A1, c1, ev⟩ := Kd.R_slice ho; subst ev; have HO1 := Lib.hid ho; have HB1 := Lib.hid hb; clear ho hb hg hat))
     go_ret
     exact ⟨.slice A1 (out.length + 1) c1, rfl, by have h := HO1.out; rw [show (out ++ [c]).length = out.length + 1 by rw [List.length_append]; rfl] at h; rw [← H3.out]; exact Kd.R_mono h (fun _ _ => trivial), HB1.out⟩
   have hz : (i : Int) < (l0.length : Int) := by omega
   have hz0 : (0 : Int) ≤ (i : Int) := by omega
   obtain ⟨x, hx⟩ : ∃ x, l0[i] = x := ⟨_, rfl⟩
   have h3 := HI.out.2.2
   rw [List.drop_eq_getElem_cons hi, hx, skerryref05_Add.go] at h3
   obtain ⟨d, a1, h4⟩ := Option.bind_eq_some_iff.1 h3
   obtain ⟨⟨x', dn⟩, a2, h5⟩ := Option.bind_eq_some_iff.1 h4
   dsimp only at h5
   have H1 := Lib.hid (fun W => skerryref04_Cmp.calls x.f0.f0 x.f0.f1 x.f0.f2 x.f0.f3 c.f0.f0 c.f0.f1 c.f0.f2 c.f0.f3 d W a1)
   have H2 := Lib.hid a2
   have H5 := Lib.hid h5
   obtain ⟨ad, ea, hx0, hx1, hx2, hx3, hx4, hx5, hx6, hx7, hx8, hx9⟩ := at_T37 (Kd.C_below HR0.out HB.out) i hz0 hz
   rw [Int.toNat_natCast] at hx0 hx1 hx2 hx3 hx4 hx5 hx6 hx7 hx8 hx9
   have er : rd_T37 l0 (i : Int) = x := by unfold rd_T37; rw [Int.toNat_natCast, List.getD_eq_getElem?_getD, List.getElem?_eq_getElem hi]; exact hx
   rw [er] at hx0 hx1 hx2 hx3 hx4 hx5 hx6 hx7 hx8 hx9
   subst ea
   clear hx h3 h4 h5 er a1 a2
   go_upto_region 5 with fail
   go_cut [8] (fun v8 wc => ∃ g8 : Nat, v8 = .pointer (some ⟨g8, 0, none⟩) ∧ Aside0 (AS w g3 g8 c x wc (.slice A out.length cc) out))
   case first =>
    go_wp2
    go_meet
    case rel => exact ⟨_, rfl, ⟨⟨blk_alloc HB3.out _, blk_new _ _, Kd.R_alloc (Kd.R_mono (Kd.R_bound HO.out) (fun k hk => ⟨hk.1, Nat.ne_of_lt hk.2.2.1⟩)) _, below_alloc HB.out _, below_size HB.out, Nat.ne_of_lt (blk_lt HB3.out)⟩⟩⟩
   case rest =>
    clear HB3 HO HB hx0 hx1 hx2 hx3 hx4 hx5 hx6 hx7 hx8 hx9
    obtain ⟨g8, rfl, HS⟩ := hcut
    have x0 := (blk_cell HS.out.b8 0).trans (show _ = some (Value.string x.f0.f0) from rfl)
    have x1 := (blk_cell HS.out.b8 1).trans (show _ = some (Value.string x.f0.f1) from rfl)
    have x2 := (blk_cell HS.out.b8 2).trans (show _ = some (Value.int .i64 x.f0.f2) from rfl)
    have x3 := (blk_cell HS.out.b8 3).trans (show _ = some (Value.string x.f0.f3) from rfl)
    have y0 := (blk_cell HS.out.b3 0).trans (show _ = some (Value.string c.f0.f0) from rfl)
    have y1 := (blk_cell HS.out.b3 1).trans (show _ = some (Value.string c.f0.f1) from rfl)
    have y2 := (blk_cell HS.out.b3 2).trans (show _ = some (Value.int .i64 c.f0.f2) from rfl)
    have y3 := (blk_cell HS.out.b3 3).trans (show _ = some (Value.string c.f0.f3) from rfl)
    go_upto_region 6 with fail
    go_cut [9] (fun v9 wc => v9 = .int .i64 d ∧ Aside0 (AS w g3 g8 c x wc (.slice A out.length cc) out))
    case first =>
     go_wp2_with (go_at_call 19; (with_reducible refine (H1.out _).mono ?_); rintro e w1 ⟨rfl, hb⟩; have HS1 := Lib.hid (HS.out.below hb); clear hb)
     go_meet
     exact ⟨rfl, ⟨HS1.out⟩⟩
    case rest =>
     clear HS x0 x1 x2 x3 y0 y1 y2 y3
     obtain ⟨rfl, HS⟩ := hcut
     go_upto_if 22 with fail
     go_cut [6] (fun v6 wc => v6 = .bool dn ∧ Aside0 (AS w g3 g8 c x' wc (.slice A out.length cc) out))
     case first =>
      have h2 := H2.out
      unfold skerryref05_Add.turn at h2
      by_cases hd : d = 0
      rotate_left
      ·
       rw [if_neg hd] at h2
       have hdb : (d == 0) = false := by simp [hd]
       injection Option.some.inj h2 with b2 b3
       subst b2 b3
       clear h2 hd
       go_wp2
       go_meet
       exact ⟨rfl, ⟨HS.out⟩⟩
      rw [if_pos hd] at h2
      have hdb : (d == 0) = true := by simp [hd]
      obtain ⟨⟨j0, j1, j2, j3, j4, j5⟩, b1, b2⟩ := Option.bind_eq_some_iff.1 h2
      injection Option.some.inj b2 with b2 b3
      subst b2 b3
      have HJ := Lib.hid (fun W => skerryref05_Join.calls x.f1.f0 x.f1.f1 x.f1.f2 x.f1.f3.f0 x.f1.f3.f1 x.f1.f3.f2 c.f1.f0 c.f1.f1 c.f1.f2 c.f1.f3.f0 c.f1.f3.f1 c.f1.f3.f2 j0 j1 j2 j3 j4 j5 W b1)
      have x4 := (blk_cell HS.out.b8 4).trans (show _ = some (Value.int .i64 x.f1.f0) from rfl)
      have x5 := (blk_cell HS.out.b8 5).trans (show _ = some (Value.bool x.f1.f1) from rfl)
      have x6 := (blk_cell HS.out.b8 6).trans (show _ = some (Value.int .i64 x.f1.f2) from rfl)
      have x7 := (blk_cell HS.out.b8 7).trans (show _ = some (Value.int .i64 x.f1.f3.f0) from rfl)
      have x8 := (blk_cell HS.out.b8 8).trans (show _ = some (Value.int .i64 x.f1.f3.f1) from rfl)
      have x9 := (blk_cell HS.out.b8 9).trans (show _ = some (Value.string x.f1.f3.f2) from rfl)
      have y4 := (blk_cell HS.out.b3 4).trans (show _ = some (Value.int .i64 c.f1.f0) from rfl)
      have y5 := (blk_cell HS.out.b3 5).trans (show _ = some (Value.bool c.f1.f1) from rfl)
      have y6 := (blk_cell HS.out.b3 6).trans (show _ = some (Value.int .i64 c.f1.f2) from rfl)
      have y7 := (blk_cell HS.out.b3 7).trans (show _ = some (Value.int .i64 c.f1.f3.f0) from rfl)
      have y8 := (blk_cell HS.out.b3 8).trans (show _ = some (Value.int .i64 c.f1.f3.f1) from rfl)
      have y9 := (blk_cell HS.out.b3 9).trans (show _ = some (Value.string c.f1.f3.f2) from rfl)
      clear h2 hd b1
      go_wp2_with (go_at_call 17; (with_reducible refine (HJ.out _).mono ?_); rintro e w1 ⟨rfl, hb⟩; have hs := HS.out.below hb; have HS1 := Lib.hid hs; have z4 := (blk_cell hs.b8 4).trans (show _ = some (Value.int .i64 x.f1.f0) from rfl); have z5 := (blk_cell hs.b8 5).trans (show _ = some (Value.bool x.f1.f1) from rfl); have z6 := (blk_cell hs.b8 6).trans (show _ = some (Value.int .i64 x.f1.f2) from rfl); have z7 := (blk_cell hs.b8 7).trans (show _ = some (Value.int .i64 x.f1.f3.f0) from rfl); have z8 := (blk_cell hs.b8 8).trans (show _ = some (Value.int .i64 x.f1.f3.f1) from rfl); have z9 := (blk_cell hs.b8 9).trans (show _ = some (Value.string x.f1.f3.f2) from rfl); have f4 := blk_frozen hs.b8 4; have f5 := blk_frozen hs.b8 5; have f6 := blk_frozen hs.b8 6; have f7 := blk_frozen hs.b8 7; have f8 := blk_frozen hs.b8 8; have f9 := blk_frozen hs.b8 9; clear hb hs)
      go_meet
      exact ⟨rfl, ⟨HS1.out.join j0 j1 j2 j3 j4 j5⟩⟩
     case rest =>
      clear HS
      obtain ⟨rfl, HS⟩ := hcut
      go_upto_region 10 with fail
      go_cut [34] (fun v34 wc => v34 = .bool (decide ((0 : Int) < d) && !dn) ∧ Aside0 (AS w g3 g8 c x' wc (.slice A out.length cc) out))
      case first =>
       cases hdd : decide ((0 : Int) < d) <;> cases dn
       all_goals go_wp2
       all_goals go_meet
       all_goals exact ⟨by simp [hdd], ⟨HS.out⟩⟩
      case rest =>
      clear HS
      obtain ⟨rfl, HS⟩ := hcut
      obtain ⟨bq, hbq⟩ : ∃ b, (decide ((0 : Int) < d) && !dn) = b := ⟨_, rfl⟩
      rw [hbq]
      have HBQ := Lib.hid hbq
      clear hbq
      go_upto_if 34 with fail
      go_cut [5, 6] (fun v5 v6 wc => ∃ (o2 : List (S37)) (A2 : Option Addr) (c2 : Nat) (dn2 : Bool), v5 = .slice A2 o2.length c2 ∧ v6 = .bool dn2 ∧ Aside0 (o2.length < 1256584717458 ∧ skerryref05_Add.go c (l0.drop (i + 1)) (o2 ++ [x']) dn2 = some r) ∧ Aside0 (AS w g3 g8 c x' wc (.slice A2 o2.length c2) o2))
      case first =>
       cases bq with
       | true =>
        have hcd : dn = false ∧ d > 0 := by have := HBQ.out; simp at this; exact ⟨this.2, this.1⟩
        have h5 := H5.out
        rw [if_pos hcd] at h5
        split at h5
        case isFalse => cases h5
        rename_i hlen
        have HL := Lib.hid hlen
        have H6 := Lib.hid h5
        have y0 := (blk_cell HS.out.b3 0).trans (show _ = some (Value.string c.f0.f0) from rfl)
        have y1 := (blk_cell HS.out.b3 1).trans (show _ = some (Value.string c.f0.f1) from rfl)
        have y2 := (blk_cell HS.out.b3 2).trans (show _ = some (Value.int .i64 c.f0.f2) from rfl)
        have y3 := (blk_cell HS.out.b3 3).trans (show _ = some (Value.string c.f0.f3) from rfl)
        have y4 := (blk_cell HS.out.b3 4).trans (show _ = some (Value.int .i64 c.f1.f0) from rfl)
        have y5 := (blk_cell HS.out.b3 5).trans (show _ = some (Value.bool c.f1.f1) from rfl)
        have y6 := (blk_cell HS.out.b3 6).trans (show _ = some (Value.int .i64 c.f1.f2) from rfl)
        have y7 := (blk_cell HS.out.b3 7).trans (show _ = some (Value.int .i64 c.f1.f3.f0) from rfl)
        have y8 := (blk_cell HS.out.b3 8).trans (show _ = some (Value.int .i64 c.f1.f3.f1) from rfl)
        have y9 := (blk_cell HS.out.b3 9).trans (show _ = some (Value.string c.f1.f3.f2) from rfl)
        clear h5 hlen hcd
        go_wp2_with (((with_reducible refine gate_builtin (b := .append) (xs := #[.tmp 35, .tmp 37]) rfl ?_); (try (refine gate_guard (by rfl) ?_; dsimp only)); at_builtin; refine Kd.R_append k37 (w0 := w) w.heap.size rfl (.tmp 35) (.tmp 37) 23 37 (.agg #[(.string ⟨#[]⟩), (.string ⟨#[]⟩), (.int .i64 0), (.string ⟨#[]⟩), (.int .i64 0), (.bool false), (.int .i64 0), (.int .i64 0), (.int .i64 0), (.string ⟨#[]⟩)]) 112 rfl Try.underlying23 info37 rfl (by decide) (by omega) _ out c _ (fun k => k ≠ g3 ∧ k ≠ g8) (fun _ => False) rfl rfl (k37_mkM _ _ _ _) (fun _ hk => hk.elim) HS.out.fresh HS.out.ro HS.out.bel (below_size HS.out.bel) (by have := HL.out; omega) ?_; intro v1 w1 ho hb hg hat; obtain ⟨A1, c1, ev⟩ := Kd.R_slice ho; subst ev; have hs := HS.out.grown ho hb hg; have HS1 := Lib.hid hs; clear ho hb hg hat hs))
        go_meet
        have hT := HS1.out
        have hl := HL.out
        exact ⟨out ++ [c], A1, c1, true, by first | rfl | (rw [List.length_append]; rfl), rfl, ⟨by rw [List.length_append]; exact hl, H6.out⟩, ⟨hT⟩⟩
       | false =>
        have hcd : ¬ (dn = false ∧ d > 0) := fun hh => by have := HBQ.out; rw [hh.1, decide_eq_true hh.2] at this; cases this
        have h5 := H5.out
        rw [if_neg hcd] at h5
        split at h5
        case isFalse => cases h5
        rename_i hlen
        have HL := Lib.hid hlen
        have H6 := Lib.hid h5
        clear h5 hlen hcd
        go_wp2
        go_meet
        exact ⟨out, A, cc, dn, rfl, rfl, ⟨HL.out, H6.out⟩, ⟨HS.out⟩⟩
      case rest =>
       clear HS
       obtain ⟨o2, A2, c2, dn2, rfl, rfl, HL, HT⟩ := hcut
       have y0 := (blk_cell HT.out.b8 0).trans (show _ = some (Value.string x'.f0.f0) from rfl)
       have y1 := (blk_cell HT.out.b8 1).trans (show _ = some (Value.string x'.f0.f1) from rfl)
       have y2 := (blk_cell HT.out.b8 2).trans (show _ = some (Value.int .i64 x'.f0.f2) from rfl)
       have y3 := (blk_cell HT.out.b8 3).trans (show _ = some (Value.string x'.f0.f3) from rfl)
       have y4 := (blk_cell HT.out.b8 4).trans (show _ = some (Value.int .i64 x'.f1.f0) from rfl)
       have y5 := (blk_cell HT.out.b8 5).trans (show _ = some (Value.bool x'.f1.f1) from rfl)
       have y6 := (blk_cell HT.out.b8 6).trans (show _ = some (Value.int .i64 x'.f1.f2) from rfl)
       have y7 := (blk_cell HT.out.b8 7).trans (show _ = some (Value.int .i64 x'.f1.f3.f0) from rfl)
       have y8 := (blk_cell HT.out.b8 8).trans (show _ = some (Value.int .i64 x'.f1.f3.f1) from rfl)
       have y9 := (blk_cell HT.out.b8 9).trans (show _ = some (Value.string x'.f1.f3.f2) from rfl)
       go_wp2_with (((with_reducible refine gate_builtin (b := .append) (xs := #[.tmp 39, .tmp 41]) rfl ?_); (try (refine gate_guard (by rfl) ?_; dsimp only)); at_builtin; refine Kd.R_append k37 (w0 := w) w.heap.size rfl (.tmp 39) (.tmp 41) 23 37 (.agg #[(.string ⟨#[]⟩), (.string ⟨#[]⟩), (.int .i64 0), (.string ⟨#[]⟩), (.int .i64 0), (.bool false), (.int .i64 0), (.int .i64 0), (.int .i64 0), (.string ⟨#[]⟩)]) 112 rfl Try.underlying23 info37 rfl (by decide) (by omega) _ o2 x' _ (fun k => k ≠ g3 ∧ k ≠ g8) (fun _ => False) rfl rfl (k37_mkM _ _ _ _) (fun _ hk => hk.elim) HT.out.fresh HT.out.ro HT.out.bel (below_size HT.out.bel) (by have := HL.out.1; omega) ?_; intro v1 w1 ho hb hg hat; obtain ⟨A1, c1, ev⟩ := Kd.R_slice ho; subst ev; have hs := HT.out.grown ho hb hg; have HS1 := Lib.hid hs; clear ho hb hg hat hs))
       go_roundg (l0.length - (i + 1))
       case measure => have := HI.out; omega
       case rel => exact ⟨i + 1, o2 ++ [x'], dn2, A1, c1, by go_num, by first | rfl | (rw [List.length_append]; rfl), rfl, ⟨by omega, Nat.le_refl _, HL.out.2⟩, ⟨HS1.out.b3⟩, ⟨Kd.R_mono HS1.out.ro (fun k hk => hk.1)⟩, ⟨HS1.out.bel⟩⟩
end Go.Proofs.Ytlffkbcaphhldaa.Q
