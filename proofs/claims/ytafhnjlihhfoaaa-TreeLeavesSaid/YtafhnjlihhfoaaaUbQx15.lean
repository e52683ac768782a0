/- Lemmas for this claim's walk: no condition of their own. -/
import Derived.Test.YtafhnjlihhfoaaaUbJ13
import Derived.Test.YtafhnjlihhfoaaaUbQx0
import Derived.Test.YtafhnjlihhfoaaaUbQx10
namespace Go.Proofs.Ytafhnjlihhfoaaa.Q
open Go.RowKit Go.Proofs.YtafhnjlihhfoaaaW.PrintWords Go.Proofs.YtafhnjlihhfoaaaW.PrintLast Go.Proofs.YtafhnjlihhfoaaaW.PrintMore
attribute [local go_sem] max2_int min2_int max_two min_two max_three min_three max_four min_four
set_option linter.unusedVariables false
set_option linter.unusedSimpArgs false
def difF (la lb : List Int) (n : Nat) : Nat → Nat → List Int
 | 0, i => if rd la i = rd lb i then [] else [wrap64 ((i : Int) - n)]
 | d + 1, i => if rd la i = rd lb i then [] else if n ≤ i then [wrap64 ((i : Int) - n)] else difF la lb n d (2 * i) ++ difF la lb n d (2 * i + 1)
theorem difF_len (la lb : List Int) (n : Nat) : ∀ d i, (difF la lb n d i).length ≤ 2 ^ d
 | 0, i => by unfold difF; split <;> simp
 | d + 1, i => by
  unfold difF
  have h1 := difF_len la lb n d (2 * i)
  have h2 := difF_len la lb n d (2 * i + 1)
  have h3 : 0 < 2 ^ d := Nat.pos_of_ne_zero (by simp)
  split
  ·
   simp
  ·
   split
   ·
    simp; omega
   ·
    rw [List.length_append]; omega
structure DI (w : World) (g2 g3 g5 g6 g7 : Nat) (A B : Option Addr) (ca cb : Nat) (la lb : List Int) (n : Nat) (W : World) (v : Value) (os : List Int) : Prop where
 b2 : W.heap[g2]? = some (.cells #[.slice A la.length ca] 22 (0, 0))
 b3 : W.heap[g3]? = some (.cells #[.slice B lb.length cb] 22 (0, 0))
 b5 : W.heap[g5]? = some (.cells #[.int .i64 n] 3 (0, 0))
 b6 : W.heap[g6]? = some (.cells #[v] 27 (0, 0))
 b7 : W.heap[g7]? = some (.cells #[.func (.func 34) #[] #[.pointer (some ⟨g2, 0, none⟩), .pointer (some ⟨g3, 0, none⟩), .pointer (some ⟨g5, 0, none⟩), .pointer (some ⟨g6, 0, none⟩), .pointer (some ⟨g7, 0, none⟩)]] 57 (0, 0))
 ro : Kd.R (Kd.int .i64) 3 W w.heap.size (fun k => k ≠ g2 ∧ k ≠ g3 ∧ k ≠ g5 ∧ k ≠ g6 ∧ k ≠ g7) v os
 bel : Below w.heap.size w W
 ra : Kd.C (Kd.int .u64) w A la.length la
 rb : Kd.C (Kd.int .u64) w B lb.length lb
 ge : w.heap.size ≤ g6
 ne : g6 ≠ g2 ∧ g6 ≠ g3 ∧ g6 ≠ g5 ∧ g6 ≠ g7
 eq : la.length = lb.length
 tw : n + n ≤ la.length ∧ la.length ≤ n + n + 1 ∧ n ≤ 64
theorem DI.setOut {w : World} {g2 g3 g5 g6 g7 : Nat} {A B : Option Addr} {ca cb : Nat} {la lb : List Int} {n : Nat} {W W1 : World} {v v1 : Value} {os os1 : List Int} (h : DI w g2 g3 g5 g6 g7 A B ca cb la lb n W v os)
  (hR : Kd.R (Kd.int .i64) 3 W1 w.heap.size (fun k => k ≠ g2 ∧ k ≠ g3 ∧ k ≠ g5 ∧ k ≠ g6 ∧ k ≠ g7) v1 os1) (hB : Below w.heap.size w W1) (hg : W.grownBy W1 v.ownBlock) : DI w g2 g3 g5 g6 g7 A B ca cb la lb n (W1.setCell ⟨g6, 0, none⟩ v1) v1 os1 := by
 have ho : ∀ k, some k = v.ownBlock → k ≠ g2 ∧ k ≠ g3 ∧ k ≠ g5 ∧ k ≠ g6 ∧ k ≠ g7 := fun k hk => h.ro.1 k hk.symm
 have kp : ∀ g o, (some g = v.ownBlock → False) → W.heap[g]? = some o → W1.heap[g]? = some o := fun g o hn hb => blk_grown hb hg (fun e => hn e)
 have far : ∀ g o, g6 ≠ g → W1.heap[g]? = some o → (W1.setCell ⟨g6, 0, none⟩ v1).heap[g]? = some o := fun g o hn hb => (Below.heap_setCell _ ⟨g6, 0, none⟩ v1 g (fun e => hn e.symm)).trans hb
 exact ⟨far _ _ h.ne.1 (kp _ _ (fun e => (ho _ e).1 rfl) h.b2), far _ _ h.ne.2.1 (kp _ _ (fun e => (ho _ e).2.1 rfl) h.b3), far _ _ h.ne.2.2.1 (kp _ _ (fun e => (ho _ e).2.2.1 rfl) h.b5),
  blk_put (kp _ _ (fun e => (ho _ e).2.2.2.1 rfl) h.b6) 0 _ rfl, far _ _ h.ne.2.2.2 (kp _ _ (fun e => (ho _ e).2.2.2.2 rfl) h.b7), Kd.R_far (p := ⟨g6, 0, none⟩) hR (fun k hk => hk.2.2.2.1) _, below_set hB h.ge, h.ra, h.rb, h.ge, h.ne, h.eq, h.tw⟩
theorem DI.drew {w : World} {g2 g3 g5 g6 g7 : Nat} {A B : Option Addr} {ca cb : Nat} {la lb : List Int} {n : Nat} {W : World} {v : Value} {os : List Int} (h : DI w g2 g3 g5 g6 g7 A B ca cb la lb n W v os) (m : Nat) : DI w g2 g3 g5 g6 g7 A B ca cb la lb n (W.drewN m) v os :=
 ⟨blk_drewN h.b2 m, blk_drewN h.b3 m, blk_drewN h.b5 m, blk_drewN h.b6 m, blk_drewN h.b7 m, Kd.R_drewN h.ro m, pw_below_drewN h.bel m, h.ra, h.rb, h.ge, h.ne, h.eq, h.tw⟩
set_option maxHeartbeats 2000000 in
set_option maxRecDepth 100000 in
theorem dif_leaf (w : World) (g2 g3 g5 g6 g7 : Nat) (A B : Option Addr) (ca cb : Nat) (la lb : List Int) (n : Nat) (i : Nat) (x : Int) (W : World) (v : Value) (os : List Int) (hx : x = (i : Int)) (h1 : 1 ≤ i) (h2 : i < n + n) (h3 : rd la i ≠ rd lb i → n ≤ i) (h4 : os.length < 1000) (hI : DI w g2 g3 g5 g6 g7 A B ca cb la lb n W v os) :
  Calls Try.prog 34 #[.int .i64 x, .pointer (some ⟨g2, 0, none⟩), .pointer (some ⟨g3, 0, none⟩), .pointer (some ⟨g5, 0, none⟩), .pointer (some ⟨g6, 0, none⟩), .pointer (some ⟨g7, 0, none⟩)] W fun e w' => e = .returned (.tuple #[]) ∧ ∃ v', DI w g2 g3 g5 g6 g7 A B ca cb la lb n w' v' (os ++ if rd la i = rd lb i then [] else [wrap64 ((i : Int) - n)]) := by
 subst hx
 have HI := Lib.hid hI
 have c2 := (blk_cell hI.b2 0).trans (show _ = some (Value.slice A la.length ca) from rfl)
 have c3 := (blk_cell hI.b3 0).trans (show _ = some (Value.slice B lb.length cb) from rfl)
 have c5 := (blk_cell hI.b5 0).trans (show _ = some (Value.int .i64 n) from rfl)
 have c6 := (blk_cell hI.b6 0).trans (show _ = some v from rfl)
 have f6 := blk_frozen hI.b6 0
 have ht := hI.tw
 have hq := hI.eq
 have p0 : (0 : Int) ≤ (i : Int) := by omega
 have p1 : (i : Int) < (la.length : Int) := by omega
 have p2 : (i : Int) < (lb.length : Int) := by omega
 obtain ⟨aa, ea, ha⟩ := Kd.at_int (Kd.C_below hI.ra hI.bel) i p0 p1
 obtain ⟨ab, eb, hb⟩ := Kd.at_int (Kd.C_below hI.rb hI.bel) i p0 p2
 rw [Int.toNat_natCast] at ha hb
 subst ea eb
 clear hI hq
 have HT := Lib.hid ht
 have H4 := Lib.hid h4
 have H3 := Lib.hid h3
 clear ht h3 h4
 by_cases heq : rd la i = rd lb i
 ·
  have hd : (rd la i == rd lb i) = true := by simpa using heq
  have HQ := Lib.hid heq
  clear heq
  go_enter Try.func34, Try.ntmps34
  go_wp2
  go_quiet (fail)
  go_wp2
  go_end0
  exact ⟨rfl, v, by first | exact HI.out.drew _ | (rw [if_pos HQ.out, List.append_nil]; exact HI.out.drew _)⟩
 ·
  have hd : (rd la i == rd lb i) = false := by simpa using heq
  have hn : (n : Int) ≤ (i : Int) := by have := H3.out heq; omega
  have HQ := Lib.hid heq
  clear heq
  have hn2 : IntKind.i64.wrap ((i : Int) - (n : Int)) = wrap64 ((i : Int) - n) := i64_w _
  go_enter Try.func34, Try.ntmps34
  go_wp2
  have u2 := blk_lt HI.out.b2
  have u3 := blk_lt HI.out.b3
  have u5 := blk_lt HI.out.b5
  have u6 := blk_lt HI.out.b6
  have u7 := blk_lt HI.out.b7
  have HU := Lib.hid (And.intro u2 (And.intro u3 (And.intro u5 (And.intro u6 u7))))
  clear u2 u3 u5 u6 u7
  go_quiet (fail)
  go_wp2_with ((with_reducible refine gate_builtin (b := .append) (xs := #[.tmp 30, .tmp 34]) rfl ?_); (try (refine gate_guard (by rfl) ?_; dsimp only)); at_builtin; refine Kd.R_append (Kd.int .i64) (w0 := w) w.heap.size rfl (.tmp 30) (.tmp 34) 27 3 (.int .i64 0) 8 rfl Try.underlying27 info3 rfl (by decide) (by omega) v os (wrap64 ((i : Int) - n)) [.int .i64 (wrap64 ((i : Int) - n))] (fun k => k ≠ g2 ∧ k ≠ g3 ∧ k ≠ g5 ∧ k ≠ g6 ∧ k ≠ g7) (fun _ => False) rfl rfl rfl (fun _ hk => hk.elim) ?aF (HI.out.drew _).ro (HI.out.drew _).bel (below_size (HI.out.drew _).bel) ?aL ?_; (case aF => intro k hk; have hk' : W.heap.size ≤ k := hk; have := HU.out; exact ⟨by omega, by omega, by omega, by omega, by omega⟩); (case aL => have := H4.out; omega); intro v1 w1 ho hb1 hg1 hat1; obtain ⟨Ao, co, eo⟩ := Kd.R_slice ho; subst eo; have HS := Lib.hid ((HI.out.drew _).setOut ho hb1 hg1); have c6' := (blk_cell (blk_grown (HI.out.drew _).b6 hg1 (fun e => (HI.out.ro.1 g6 e.symm).2.2.2.1 rfl)) 0).trans (show _ = some v from rfl); have f6' := blk_frozen (blk_grown (HI.out.drew _).b6 hg1 (fun e => (HI.out.ro.1 g6 e.symm).2.2.2.1 rfl)) 0; clear ho hb1 hg1 hat1)
  go_end0
  exact ⟨rfl, .slice Ao (os.length + 1) co, by have h := HS.out; rw [List.length_append] at h; exact h⟩
theorem difF_leaf (la lb : List Int) (n d i : Nat) (h : n ≤ i) : difF la lb n d i = if rd la i = rd lb i then [] else [wrap64 ((i : Int) - n)] := by
 cases d with
 | zero => rfl
 | succ d => unfold difF; rw [if_pos h]
theorem difF_same (la lb : List Int) (n d i : Nat) (h : rd la i = rd lb i) : difF la lb n d i = if rd la i = rd lb i then [] else [wrap64 ((i : Int) - n)] := by
 cases d with
 | zero => rfl
 | succ d => unfold difF; rw [if_pos h, if_pos h]
set_option maxHeartbeats 2000000 in
set_option maxRecDepth 100000 in
theorem dif_clo (w : World) (g2 g3 g5 g6 g7 : Nat) (A B : Option Addr) (ca cb : Nat) (la lb : List Int) (n : Nat) : ∀ (d i : Nat) (x : Int) (W : World) (v : Value) (os : List Int), x = (i : Int) → 1 ≤ i → i < n + n → n ≤ i * 2 ^ d → os.length + 2 ^ d ≤ 1000 → DI w g2 g3 g5 g6 g7 A B ca cb la lb n W v os →
  Calls Try.prog 34 #[.int .i64 x, .pointer (some ⟨g2, 0, none⟩), .pointer (some ⟨g3, 0, none⟩), .pointer (some ⟨g5, 0, none⟩), .pointer (some ⟨g6, 0, none⟩), .pointer (some ⟨g7, 0, none⟩)] W fun e w' => e = .returned (.tuple #[]) ∧ ∃ v', DI w g2 g3 g5 g6 g7 A B ca cb la lb n w' v' (os ++ difF la lb n d i) := by
 intro d
 induction d with
 | zero =>
  intro i x W v os hx h1 h2 h3 h4 hI
  exact dif_leaf w g2 g3 g5 g6 g7 A B ca cb la lb n i x W v os hx h1 h2 (fun _ => by omega) (by omega) hI
 | succ d ih =>
  intro i x W v os hx h1 h2 h3 h4 hI
  have hpd : 0 < 2 ^ d := Nat.pos_of_ne_zero (by simp)
  by_cases heq : rd la i = rd lb i
  ·
   rw [difF_same la lb n _ i heq]
   exact dif_leaf w g2 g3 g5 g6 g7 A B ca cb la lb n i x W v os hx h1 h2 (fun h => absurd heq h) (by omega) hI
  ·
   by_cases hni : n ≤ i
   ·
    rw [difF_leaf la lb n _ i hni]
    exact dif_leaf w g2 g3 g5 g6 g7 A B ca cb la lb n i x W v os hx h1 h2 (fun _ => hni) (by omega) hI
   ·
    have e1 : difF la lb n (d + 1) i = difF la lb n d (2 * i) ++ difF la lb n d (2 * i + 1) := by
     rw [difF, if_neg heq, if_neg hni]
    rw [e1]
    have hl1 := difF_len la lb n d (2 * i)
    have hpw : 2 ^ (d + 1) = 2 ^ d + 2 ^ d := by omega
    have hm : i * 2 ^ (d + 1) = (2 * i) * 2 ^ d := by rw [Nat.pow_succ, Nat.mul_comm 2 i, Nat.mul_assoc, Nat.mul_comm 2]
    have k1 := fun (m : Nat) => ih (2 * i) (2 * (i : Int)) (W.drewN m) v os (by omega) (by omega) (by omega) (by omega) (by omega) (hI.drew m)
    have k2 := fun W1 v1 (h : DI w g2 g3 g5 g6 g7 A B ca cb la lb n W1 v1 (os ++ difF la lb n d (2 * i))) => ih (2 * i + 1) (2 * (i : Int) + 1) W1 v1 (os ++ difF la lb n d (2 * i)) (by omega) (by omega) (by omega) (by have : (2 * i) * 2 ^ d ≤ (2 * i + 1) * 2 ^ d := Nat.mul_le_mul_right _ (by omega); omega) (by rw [List.length_append]; omega) h
    have K1 := Lib.hid k1
    have K2 := Lib.hid k2
    subst hx
    have HI := Lib.hid hI
    have c2 := (blk_cell hI.b2 0).trans (show _ = some (Value.slice A la.length ca) from rfl)
    have c3 := (blk_cell hI.b3 0).trans (show _ = some (Value.slice B lb.length cb) from rfl)
    have c5 := (blk_cell hI.b5 0).trans (show _ = some (Value.int .i64 n) from rfl)
    have c7 := (blk_cell hI.b7 0).trans (show _ = some (Value.func (.func 34) #[] #[.pointer (some ⟨g2, 0, none⟩), .pointer (some ⟨g3, 0, none⟩), .pointer (some ⟨g5, 0, none⟩), .pointer (some ⟨g6, 0, none⟩), .pointer (some ⟨g7, 0, none⟩)]) from rfl)
    have ht := hI.tw
    have hq := hI.eq
    have p0 : (0 : Int) ≤ (i : Int) := by omega
    have p1 : (i : Int) < (la.length : Int) := by omega
    have p2 : (i : Int) < (lb.length : Int) := by omega
    have p3 : (i : Int) ≤ 64 := by omega
    obtain ⟨aa, ea, ha⟩ := Kd.at_int (Kd.C_below hI.ra hI.bel) i p0 p1
    obtain ⟨ab, eb, hb⟩ := Kd.at_int (Kd.C_below hI.rb hI.bel) i p0 p2
    rw [Int.toNat_natCast] at ha hb
    subst ea eb
    clear hI hq ih h3 h4 hl1 hm hpw hpd e1 k1 k2 ht
    have hd : (rd la i == rd lb i) = false := by simpa using heq
    have hn : (i : Int) < (n : Int) := by omega
    have hn2 : ¬ (n : Int) ≤ (i : Int) := by omega
    have HQ := Lib.hid heq
    clear heq
    go_enter Try.func34, Try.ntmps34
    go_wp2
    go_quiet (fail)
    go_wp2_with (first | (go_at_call 34; (with_reducible refine (K2.out _ _ HD.out).mono ?_); rintro e w2 ⟨rfl, v2, hD2⟩; have HD2 := Lib.hid hD2; clear hD2) | (go_at_call 34; (with_reducible refine (K1.out _).mono ?_); rintro e w1 ⟨rfl, v1, hD⟩; have d7 := (blk_cell hD.b7 0).trans (show _ = some (Value.func (.func 34) #[] #[.pointer (some ⟨g2, 0, none⟩), .pointer (some ⟨g3, 0, none⟩), .pointer (some ⟨g5, 0, none⟩), .pointer (some ⟨g6, 0, none⟩), .pointer (some ⟨g7, 0, none⟩)]) from rfl); have HD := Lib.hid hD; clear hD))
    go_end0
    exact ⟨rfl, v2, by rw [← List.append_assoc]; exact HD2.out⟩
theorem blk_newAt {W : World} {g : Nat} (h : g = W.heap.size) (o : Obj) : (W.alloc o).heap[g]? = some o := h ▸ blk_new W o
theorem size_alloc_ (W : World) (o : Obj) : (W.alloc o).heap.size = W.heap.size + 1 := by unfold World.alloc; exact Array.size_push ..
theorem DI.start (w : World) (m : Nat) (A B : Option Addr) (ca cb : Nat) (la lb : List Int) (ra : Kd.C (Kd.int .u64) w A la.length la) (rb : Kd.C (Kd.int .u64) w B lb.length lb) (h1 : la.length = lb.length) (h2 : 2 ≤ la.length) (h3 : la.length ≤ 129) :
  DI w w.heap.size (w.heap.size + 1) (w.heap.size + 1 + 1) (w.heap.size + 1 + 1 + 1) (w.heap.size + 1 + 1 + 1 + 1) A B ca cb la lb (la.length / 2) ((((((w.alloc (Obj.cells #[Value.slice A la.length ca] 22)).alloc (Obj.cells #[Value.slice B lb.length cb] 22)).drewN m).alloc (Obj.cells #[Value.int IntKind.i64 ((la.length : Int) / 2)] 3)).alloc (Obj.cells #[Value.slice none 0 0] 27)).alloc
   (Obj.cells #[.func (.func 34) #[] #[.pointer (some ⟨w.heap.size, 0, none⟩), .pointer (some ⟨w.heap.size + 1, 0, none⟩), .pointer (some ⟨w.heap.size + 1 + 1, 0, none⟩), .pointer (some ⟨w.heap.size + 1 + 1 + 1, 0, none⟩), .pointer (some ⟨w.heap.size + 1 + 1 + 1 + 1, 0, none⟩)]] 57)) (.slice none 0 0) [] := by
 have s := size_alloc_
 have sd : ∀ W : World, (W.drewN m).heap.size = W.heap.size := fun _ => rfl
 refine ⟨blk_alloc (blk_alloc (blk_alloc (blk_drewN (blk_alloc (blk_newAt rfl _) _) m) _) _) _, blk_alloc (blk_alloc (blk_alloc (blk_drewN (blk_newAt (by rw [s]) _) m) _) _) _, blk_alloc (blk_alloc (blk_newAt (by rw [sd, s, s]) _) _) _, blk_alloc (blk_newAt (by rw [s, sd, s, s]) _) _, blk_newAt (by rw [s, s, sd, s, s]) _, Kd.R_nil _ _ _ _ _, ?_, ra, rb, by omega, ⟨by omega, by omega, by omega, by omega⟩, h1, ⟨by omega, by omega, by omega⟩⟩
 exact below_alloc (below_alloc (below_alloc (pw_below_drewN (below_alloc (below_alloc (Below.refl _ _) _) _) m) _) _) _
def tree_Diff.f (l0 : List Int) (l1 : List Int) : Option (List Int) := if l0.length = l1.length then (if 2 ≤ l0.length then (tree_power.f (l0.length : Int) 128).bind fun b => if b = true then (if l0.length ≤ 129 then some (difF l0 l1 (l0.length / 2) 7 1) else none) else some [] else some []) else some []
set_option maxHeartbeats 2000000 in
set_option maxRecDepth 100000 in
theorem tree_Diff.calls (A0 : Option Addr) (c0 : Nat) (l0 : List Int) (A1 : Option Addr) (c1 : Nat) (l1 : List Int) (r : List Int) (w : World) (hr0 : Kd.C (Kd.int .u64) w A0 l0.length l0) (hc0 : l0.length ≤ c0) (hr1 : Kd.C (Kd.int .u64) w A1 l1.length l1) (hc1 : l1.length ≤ c1) (h : tree_Diff.f l0 l1 = some r) :
  Calls Try.prog 13 #[.slice A0 l0.length c0, .slice A1 l1.length c1] w fun e w' => ∃ v0_ : Value, e = .returned (v0_) ∧ Kd.R (Kd.int .i64) 3 w' w.heap.size (fun _ => True) v0_ r ∧ Below w.heap.size w w' := by
 have HR0 := Lib.hid hr0
 have HR1 := Lib.hid hr1
 have hm0 := hr0.2.1
 have hm1 := hr1.2.1
 clear hr0 hr1
 unfold tree_Diff.f at h
 by_cases c1 : l0.length = l1.length
 rotate_left
 ·
  rw [if_neg c1] at h
  have e1 : ((l0.length : Int) != (l1.length : Int)) = true := by simp; omega
  have H := Lib.hid (Option.some.inj h)
  clear h c1
  go_enter Try.func13, Try.ntmps13
  go_wp2
  go_ret
  exact ⟨.slice none 0 0, rfl, H.out ▸ Kd.R_nil _ _ _ _ _, by repeat (first | exact Below.refl _ _ | apply below_alloc | apply pw_below_drewN | apply below_drew1)⟩
 rw [if_pos c1] at h
 have e1 : ((l0.length : Int) != (l1.length : Int)) = false := by simp [c1]
 by_cases c2 : 2 ≤ l0.length
 rotate_left
 ·
  rw [if_neg c2] at h
  have e2 : decide ((l0.length : Int) < 2) = true := decide_eq_true (by omega)
  have H := Lib.hid (Option.some.inj h)
  clear h c2 c1
  go_enter Try.func13, Try.ntmps13
  go_wp2
  go_ret
  exact ⟨.slice none 0 0, rfl, H.out ▸ Kd.R_nil _ _ _ _ _, by repeat (first | exact Below.refl _ _ | apply below_alloc | apply pw_below_drewN | apply below_drew1)⟩
 rw [if_pos c2] at h
 have e2 : decide ((l0.length : Int) < 2) = false := decide_eq_false (by omega)
 obtain ⟨b, hp, h⟩ := Option.bind_eq_some_iff.1 h
 have HP := Lib.hid (fun W => tree_power.calls (l0.length : Int) 128 b W hp)
 clear hp
 have C1 := Lib.hid c1
 have C2 := Lib.hid c2
 clear c1 c2
 cases b with
 | true =>
  rw [if_pos rfl] at h
  split at h
  case isFalse => cases h
  rename_i c3
  have C3 := Lib.hid c3
  have H := Lib.hid (Option.some.inj h)
  clear h c3
  go_enter Try.func13, Try.ntmps13
  go_upto_region 6 with (go_at_call 29; refine (HP.out _).mono ?_; rintro e W1 ⟨rfl, m, rfl⟩)
  go_cut [2, 3, 5, 6, 7, 4] (fun v2 v3 v5 v6 v7 v4 wc => ∃ g2 g3 g5 g6 g7 : Nat, v2 = .pointer (some ⟨g2, 0, none⟩) ∧ v3 = .pointer (some ⟨g3, 0, none⟩) ∧ v5 = .pointer (some ⟨g5, 0, none⟩) ∧ v6 = .pointer (some ⟨g6, 0, none⟩) ∧ v7 = .pointer (some ⟨g7, 0, none⟩) ∧ Aside0 (DI w g2 g3 g5 g6 g7 A0 A1 c0 c1 l0 l1 (l0.length / 2) wc (.slice none 0 0) []))
  case first =>
   go_wp2
   go_meet
   case rel =>
    exact ⟨_, _, _, _, _, rfl, rfl, rfl, rfl, rfl, ⟨DI.start w m A0 A1 c0 c1 l0 l1 HR0.out HR1.out C1.out C2.out C3.out⟩⟩
  case rest =>
   obtain ⟨g2, g3, g5, g6, g7, rfl, rfl, rfl, rfl, rfl, HI⟩ := hcut
   have d7 := (blk_cell HI.out.b7 0).trans (show _ = some (Value.func (.func 34) #[] #[.pointer (some ⟨g2, 0, none⟩), .pointer (some ⟨g3, 0, none⟩), .pointer (some ⟨g5, 0, none⟩), .pointer (some ⟨g6, 0, none⟩), .pointer (some ⟨g7, 0, none⟩)]) from rfl)
   have HK := Lib.hid (dif_clo w g2 g3 g5 g6 g7 A0 A1 c0 c1 l0 l1 (l0.length / 2) 7 1 1 wc (.slice none 0 0) [] rfl (Nat.le_refl _) (by have := C2.out; omega) (by have := C3.out; omega) (by simp) HI.out)
   go_wp2_with (go_at_call 34; refine (HK.out).mono ?_; rintro e w2 ⟨rfl, v2, hD2⟩; have HD2 := Lib.hid hD2; have d6 := (blk_cell hD2.b6 0).trans (show _ = some v2 from rfl); clear hD2)
   go_ret
   exact ⟨v2, rfl, by rw [← H.out]; exact Kd.R_mono HD2.out.ro (fun _ _ => trivial), HD2.out.bel⟩
 | false =>
  have H := Lib.hid (show ([] : List Int) = r from Option.some.inj (by simpa using h))
  clear h
  go_enter Try.func13, Try.ntmps13
  go_wp2_with (go_at_call 29; refine (HP.out _).mono ?_; rintro e W1 ⟨rfl, m, rfl⟩)
  go_ret
  exact ⟨.slice none 0 0, rfl, H.out ▸ Kd.R_nil _ _ _ _ _, by repeat (first | exact Below.refl _ _ | apply below_alloc | apply pw_below_drewN | apply below_drew1)⟩
end Go.Proofs.Ytafhnjlihhfoaaa.Q
