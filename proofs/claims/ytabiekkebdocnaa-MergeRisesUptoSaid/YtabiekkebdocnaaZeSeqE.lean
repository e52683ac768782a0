/- Lemmas for this claim's walk: no condition of their own. -/
import Derived.Test.YtabiekkebdocnaaZeQx23
import Derived.Test.YtabiekkebdocnaaZeJ32
import Derived.Test.YtabiekkebdocnaaZeJ0
import Derived.Test.YtabiekkebdocnaaZeDown
import Derived.Test.YtabiekkebdocnaaZeSorted
import Derived.Test.YtabiekkebdocnaaZeTake
import Derived.Test.YtabiekkebdocnaaZeEach
import Derived.Test.YtabiekkebdocnaaZeGrp
import Derived.Test.YtabiekkebdocnaaZeRh
import Derived.Test.YtabiekkebdocnaaZeJ16
import Derived.Sort.CutIn
import Derived.Deep.MidRow
import Derived.WalkLawsBesides
import Derived.WalkSpells
import Derived.Lib.Hide
import Derived.Deep.DeepFit
import Derived.Outline
namespace Go.Proofs.Ytabiekkebdocnaa.Q
open Go.RowKit Go.Proofs.YtabiekkebdocnaaW.PrintWords Go.Proofs.YtabiekkebdocnaaW.PrintLast Go.Proofs.YtabiekkebdocnaaW.PrintMore
attribute [local go_sem] max2_int min2_int max_two min_two max_three min_three max_four min_four
set_option linter.unusedVariables false
set_option linter.unusedSimpArgs false
open Go.Lib Go.Proofs.Ytabiekkebdocnaa.Hp Go.Proofs.Ytabiekkebdocnaa.Pl Go.Proofs.Ytabiekkebdocnaa.Rh Go.Proofs.Ytabiekkebdocnaa.Ord Go.Proofs.Ytabiekkebdocnaa.Nm
attribute [local go_sem high] eqA33
abbrev TH : Nat := 59
def qIn (n0 n1 : Nat) : Nat → Prop := fun k => n0 ≤ k ∧ k < n1
theorem HW.below {lt : It → It → Bool} {base : Nat} {q : Nat → Prop} {w w1 : World} {v : Value} {ys : List It} (h : HW lt base q w v ys) (hb : Below w.heap.size w w1) : HW lt base q w1 v ys :=
 ⟨Kd.R_below h.row hb, srcs_below hb h.src, h.hp⟩
theorem HW.kp {lt : It → It → Bool} {base n0 n1 : Nat} {w w1 : World} {v : Value} {ys : List It} (h : HW lt base (qIn n0 n1) w v ys) (hk : Kp TH n0 n1 w w1) : HW lt base (qIn n0 n1) w1 v ys := by
 refine ⟨Kd.R_mono (Kd.R_move (Kd.R_bound h.row) fun k hk' => ?_) (fun _ _ => trivial), fun t ht => ⟨(h.src t ht).1.step fun k cells hc hq => hk.same k (blk_lt hc) (.inl hq), (h.src t ht).2⟩, h.hp⟩
 obtain ⟨-, -, h2, qq, h3, cells, h4⟩ := hk'
 have : qq = TH := by simpa [kIt] using h3
 subst this
 exact hk.same k h2 (.inr ⟨cells, _, h4⟩)
theorem HW.putN {lt : It → It → Bool} {base n0 n1 b : Nat} {w : World} {v : Value} {ys : List It} {y : Cl} (h : HW lt base (qIn n0 n1) w v ys) (hb : w.heap[b]? = some (.cells (cellL y).toArray 39 (0, 0))) (hn : n1 ≤ b) (o : Nat) (seg : List Value) : HW lt base (qIn n0 n1) (w.setCells b o seg) v ys :=
 ⟨Kd.R_mono (Kd.R_step (Kd.R_types h.row hb (fun q hq => by simp only [kIt, List.mem_cons, List.not_mem_nil, or_false] at hq; subst hq; decide)) (fun k hk _ => setCells_far _ _ k hk.2)) (fun _ _ => trivial), fun t ht => ⟨(h.src t ht).1.step fun k cells hc hq => setCells_far _ _ k (by have := hq.2; omega), (h.src t ht).2⟩, h.hp⟩
theorem Mv.refl {n1 : Nat} (A : World) : Mv TH n1 A A := ⟨rfl, rfl, rfl, Nat.le_refl _, fun _ _ _ => rfl⟩
theorem Mv.below {n1 : Nat} {A B C : World} (h : Mv TH n1 A B) (hb : Below B.heap.size B C) : Mv TH n1 A C :=
 ⟨hb.os.trans h.os, hb.tape.trans h.tape, hb.output.trans h.output, Nat.le_trans h.size hb.size, fun k hk hT => (hb.block k (Nat.lt_of_lt_of_le hk h.size)).trans (h.same k hk hT)⟩
theorem Mv.putN {n1 : Nat} {A B : World} (h : Mv TH n1 A B) {b : Nat} (hb : A.heap.size ≤ b) (o : Nat) (seg : List Value) : Mv TH n1 A (B.setCells b o seg) := by
 obtain ⟨s1, s2, s3, s4⟩ := setCells_same b seg o B
 exact ⟨s1.trans h.os, s2.trans h.tape, s3.trans h.output, by rw [s4]; exact h.size, fun k hk hT => (setCells_far _ _ k (by omega)).trans (h.same k hk hT)⟩
theorem Mv.grown {n1 : Nat} {A B C : World} (h : Mv TH n1 A B) {base : Nat} {v : Value} {ys : List It} (hR : Kd.R kIt 59 B base (fun _ => True) v ys) (hg : B.grownBy C v.ownBlock) (hA : ∀ k, k < A.heap.size → v.ownBlock = some k → n1 ≤ k ∧ ∃ cells fr, A.heap[k]? = some (.cells cells TH fr)) : Mv TH n1 A C := by
 refine ⟨hg.os.trans h.os, hg.tape.trans h.tape, hg.output.trans h.output, Nat.le_trans h.size hg.size, fun k hk hT => (hg.block k (Nat.lt_of_lt_of_le hk h.size) fun e => ?_).trans (h.same k hk hT)⟩
 obtain ⟨hn, cells, fr, hc⟩ := hA k hk e.symm
 rcases hT with hT | hT
 ·
  omega
 ·
  exact hT _ _ hc
theorem row_elder {n1 : Nat} {A B : World} (h : Mv TH n1 A B) {base : Nat} {v : Value} {ys : List It} (hR : Kd.R kIt 59 B base (fun _ => True) v ys) (hO : ∀ (k : Nat) (o : Obj), A.heap[k]? = some o → (∀ (cells : Array Value) (fr : Nat × Nat), o ≠ Obj.cells cells TH fr) → B.heap[k]? = some o) : ∀ k, k < A.heap.size → v.ownBlock = some k → ∃ cells fr, A.heap[k]? = some (.cells cells TH fr) := fun k hk e => by
 obtain ⟨o, ho⟩ : ∃ o, A.heap[k]? = some o := ⟨_, Array.getElem?_eq_getElem hk⟩
 by_cases hT : ∀ (cells : Array Value) (fr : Nat × Nat), o ≠ Obj.cells cells TH fr
 ·
  obtain ⟨cells, h2⟩ := Kd.R_typed hR k e
  rw [hO k o ho hT] at h2
  injection h2 with h2
  exact absurd h2 (hT _ _)
 ·
  obtain ⟨cells, h1⟩ := Classical.not_forall.1 hT
  obtain ⟨fr, h2⟩ := Classical.not_forall.1 h1
  exact ⟨cells, fr, ho.trans (congrArg some (Classical.not_not.1 h2))⟩
theorem Mv.elder {n1 : Nat} {A B : World} (h : Mv TH n1 A B) (k : Nat) (o : Obj) (ho : A.heap[k]? = some o) (hT : ∀ (cells : Array Value) (fr : Nat × Nat), o ≠ Obj.cells cells TH fr) : B.heap[k]? = some o :=
 (h.same k (blk_lt ho) (.inr fun cells fr e => by rw [ho] at e; injection e with e; exact hT _ _ e)).trans ho
theorem Mv.take {n1 : Nat} {A B C : World} (h : Mv TH n1 A B) {base : Nat} {v : Value} {ys : List It} (hR : Kd.R kIt 59 B base (fun _ => True) v ys) (hg : B.grownBy C v.ownBlock) (hb : n1 ≤ base) : Mv TH n1 A C :=
 Mv.grown h hR hg fun k hk e => ⟨Nat.le_trans hb (Kd.R_base hR k e), row_elder h hR (Mv.elder h) k hk e⟩
def verL (x : S37) : List Value := [.int .i64 x.f0, .bool x.f1, .int .i64 x.f2, .int .i64 x.f3.f0, .int .i64 x.f3.f1, .string x.f3.f2]
theorem put6 {w : World} {b : Nat} {c : Cl} (h : w.heap[b]? = some (.cells (cellL c).toArray 39 (0, 0))) (x : S37) : (w.setCells b 4 (verL x)).heap[b]? = some (.cells (cellL ⟨c.f0, x⟩).toArray 39 (0, 0)) := by
 refine blk_put (cs := #[.string c.f0.f0, .string c.f0.f1, .int .i64 c.f0.f2, .string c.f0.f3, .int .i64 x.f0, .bool x.f1, .int .i64 x.f2, .int .i64 x.f3.f0, .int .i64 x.f3.f1, .string c.f1.f3.f2]) ?_ 9 _ rfl
 refine blk_put (cs := #[.string c.f0.f0, .string c.f0.f1, .int .i64 c.f0.f2, .string c.f0.f3, .int .i64 x.f0, .bool x.f1, .int .i64 x.f2, .int .i64 x.f3.f0, .int .i64 c.f1.f3.f1, .string c.f1.f3.f2]) ?_ 8 _ rfl
 refine blk_put (cs := #[.string c.f0.f0, .string c.f0.f1, .int .i64 c.f0.f2, .string c.f0.f3, .int .i64 x.f0, .bool x.f1, .int .i64 x.f2, .int .i64 c.f1.f3.f0, .int .i64 c.f1.f3.f1, .string c.f1.f3.f2]) ?_ 7 _ rfl
 refine blk_put (cs := #[.string c.f0.f0, .string c.f0.f1, .int .i64 c.f0.f2, .string c.f0.f3, .int .i64 x.f0, .bool x.f1, .int .i64 c.f1.f2, .int .i64 c.f1.f3.f0, .int .i64 c.f1.f3.f1, .string c.f1.f3.f2]) ?_ 6 _ rfl
 refine blk_put (cs := #[.string c.f0.f0, .string c.f0.f1, .int .i64 c.f0.f2, .string c.f0.f3, .int .i64 x.f0, .bool c.f1.f1, .int .i64 c.f1.f2, .int .i64 c.f1.f3.f0, .int .i64 c.f1.f3.f1, .string c.f1.f3.f2]) ?_ 5 _ rfl
 exact blk_put h 4 _ rfl
theorem storeC {P : Program} {w : World} {b : Nat} {y : Cl} (h : w.heap[b]? = some (.cells (cellL y).toArray 39 (0, 0))) (x : Cl) : Sem.run P (storeCells ⟨b, 0, none⟩ (cellL x)) w = .ok () (w.setCells b 0 (cellL x)) := by
 have hst := run_storeCells_cells (P := P) b 0 (cellL x) 0 w (fun j hj => by rw [cell_of_row w b _ (cellL y).toArray 39 (0, 0) h]; simp [cellL] at hj ⊢; omega) (fun j _ => blk_frozen h _) (fun q hq => by simp [cellL] at hq; rcases hq with rfl | rfl | rfl | rfl | rfl | rfl | rfl | rfl | rfl | rfl <;> rfl)
 simpa using hst
structure IN (W wr wi : World) (n0 n1 b4 b5 : Nat) (v : Value) (ys : List It) (c : Cl) (m : Nat) (S : SL) (all pre : List (Cl × Int)) : Prop where
 mv : Mv TH n1 wr wi
 hw : HW ltI W.heap.size (qIn n0 n1) wi v ys
 k4 : wi.heap[b4]? = some (.cells (cellL c).toArray 39 (0, 0))
 k5 : ∃ d : Cl, wi.heap[b5]? = some (.cells (cellL d).toArray 39 (0, 0))
 ge : wr.heap.size ≤ b4 ∧ b4 < b5 ∧ n1 ≤ wr.heap.size
 pm : (ys.map It.c).Perm S
 ok : OkS S
 eq : pre ++ outsG c m S = all
 le : ∀ y ∈ flat S, cmpK c.f0 y.f0 ≤ 0
 bd : m + (flat S).length ≤ 2000000000000
 len : ys.length ≤ 1000000
theorem IN.below {W wr wi w2 : World} {n0 n1 b4 b5 : Nat} {v : Value} {ys : List It} {c : Cl} {m : Nat} {S : SL} {all pre : List (Cl × Int)} (h : IN W wr wi n0 n1 b4 b5 v ys c m S all pre) (hb : Below wi.heap.size wi w2) : IN W wr w2 n0 n1 b4 b5 v ys c m S all pre := by
 obtain ⟨d, hd⟩ := h.k5
 exact ⟨Mv.below h.mv hb, HW.below h.hw hb, blk_below h.k4 hb, ⟨d, blk_below hd hb⟩, h.ge, h.pm, h.ok, h.eq, h.le, h.bd, h.len⟩
theorem root_least {base : Nat} {q : Nat → Prop} {w : World} {v : Value} {t : It} {rest : List It} (h : HW ltI base q w v (t :: rest)) {S : SL} (hp : ((t :: rest).map It.c).Perm S) (hS : OkS S) {x : Cl} {tl : List Cl} (ht : t.l = x :: tl) :
  ∃ A B, S = A ++ (t.n, x :: tl) :: B ∧ Least t.n x tl A B := by
 have hc : It.c t = (t.n, x :: tl) := by unfold It.c; rw [ht]
 refine least_of hS (hp.mem_iff.1 (by rw [List.map_cons, hc]; exact List.mem_cons_self)) fun p hpS => ?_
 obtain ⟨u, hu, rfl⟩ := List.mem_map.1 (hp.mem_iff.2 hpS)
 obtain ⟨j, hj, rfl⟩ := List.getElem_of_mem hu
 have h1 := Hp.min ltI_ord h.hp j hj
 rw [List.getD_eq_getElem?_getD, List.getElem?_eq_getElem hj] at h1
 have h2 : ltI ((t :: rest)[j]) t = false := h1
 have h3 : (t.n, t.l) = (t.n, x :: tl) := by rw [ht]
 unfold ltI at h2
 rw [h3] at h2
 exact h2
theorem root_greater {base : Nat} {q : Nat → Prop} {w : World} {v : Value} {zs : List It} (h : HW ltI base q w v zs) {S : SL} (hp : (zs.map It.c).Perm S) (hS : OkS S) {c : Cl} (hle : ∀ y ∈ flat S, cmpK c.f0 y.f0 ≤ 0) (hne : ¬ ∃ t rest x tl, zs = t :: rest ∧ t.l = x :: tl ∧ x.f0 = c.f0) : ∀ y ∈ flat S, cmpK c.f0 y.f0 < 0 := fun y hy => by
 cases zs with
 | nil =>
  obtain rfl := List.Perm.nil_eq hp
  cases hy
 | cons t rest =>
  obtain ⟨x, tl, hxt⟩ := List.exists_cons_of_ne_nil (h.src t List.mem_cons_self).2
  obtain ⟨A, B, rfl, hl⟩ := root_least h hp hS hxt
  have hxc : x.f0 ≠ c.f0 := fun e => hne ⟨t, rest, x, tl, rfl, hxt, e⟩
  have h1 : cmpK c.f0 x.f0 ≤ 0 := hle x (by rw [flat_take]; simp)
  have h2 : cmpK c.f0 x.f0 ≠ 0 := fun e => hxc (key_same e).symm
  have h3 : cmpK x.f0 y.f0 ≤ 0 := by
   rw [flat_take] at hy
   rcases List.mem_append.1 hy with hy | hy
   ·
    have := hl.a y hy; omega
   ·
    rcases List.mem_cons.1 hy with rfl | hy
    ·
     rw [cmpK_cmp.refl]; omega
    ·
     rcases List.mem_append.1 hy with hy | hy
     ·
      have := hl.t y hy; omega
     ·
      exact hl.b y hy
  have t1 := cmpK_cmp.trans c.f0 x.f0 y.f0; have t2 := cmpK_cmp.trans x.f0 y.f0 c.f0; have a1 := cmpK_cmp.anti c.f0 y.f0; have a2 := cmpK_cmp.anti c.f0 x.f0
  omega
theorem take_len {zs : List It} {t : It} {tl : List Cl} {rest : List It} (h : (zs.map It.c).Perm (popC t tl rest)) : zs.length ≤ rest.length + 1 := by
 have h1 := h.length_eq
 unfold popC at h1
 rw [List.length_map, List.length_append, List.length_map] at h1
 split at h1 <;> simp at h1 <;> omega
theorem take_perm {zs : List It} {t : It} {x : Cl} {tl : List Cl} {rest : List It} {A B : SL} (h : (zs.map It.c).Perm (popC t tl rest)) (hp : ((t :: rest).map It.c).Perm (A ++ (t.n, x :: tl) :: B)) (ht : t.l = x :: tl) : (zs.map It.c).Perm (A ++ popS t.n tl ++ B) := by
 refine h.trans ?_
 have hc : It.c t = (t.n, x :: tl) := by unfold It.c; rw [ht]
 rw [List.map_cons, hc] at hp
 exact perm_pop hp
theorem inc_of {S A B : SL} {n : Int} {x : Cl} {tl : List Cl} (h : OkS (A ++ (n, x :: tl) :: B)) : Inc cmpK keyC (x :: tl) := (h.l (n, x :: tl) (List.mem_append_right _ List.mem_cons_self)).1
theorem le_left {n : Int} {x : Cl} {tl : List Cl} {A B : SL} (h : Least n x tl A B) : ∀ y ∈ flat (A ++ popS n tl ++ B), cmpK x.f0 y.f0 ≤ 0 := fun y hy => by
 rw [flat_left] at hy
 rcases List.mem_append.1 hy with hy | hy
 ·
  have := h.a y hy; omega
 ·
  rcases List.mem_append.1 hy with hy | hy
  ·
   have := h.t y hy; omega
  ·
   exact h.b y hy
set_option maxHeartbeats 4000000 in
set_option maxRecDepth 100000 in
theorem each_seq (n : Nat) (hn : 3 ≤ n) (n0 B : Nat) (v : Value) (ys : List It) (S : SL) (w : World) (hB0 : n0 ≤ B) (hB : w.heap[B]? = some (.cells #[v] 54 (0, 0))) (hH : HW ltI n0 (fun k => n0 ≤ k) w v ys) (hP : (ys.map It.c).Perm S) (hS : OkS S) (ht : (flat S).length ≤ 1999999999999) (hl : ys.length ≤ 1000000) :
  SeqH TH n0 w.heap.size Fence.wide n Try.prog 29 #[.pointer (some ⟨B, 0, none⟩)] (fun p : Cl × Int => #[.agg (cellL p.1).toArray, .int .i64 p.2]) (outs S) w := by
 intro l J Jx W hb hM hY h0
 refine callsIn_wide.2 ?_
 obtain ⟨Av, cv, rfl, hcv, hCv⟩ := Kd.R_reads hH.row
 have cB := (blk_cell (blk_below hB hb) 0).trans (show _ = some (Value.slice Av ys.length cv) from rfl)
 have HM := Lib.hid hM
 have HY := Lib.hid hY
 have HJ := Lib.hid h0
 have HS1 := Lib.hid (fun t ht => And.intro ((((hH.src t ht).1).weaker (q' := qIn n0 w.heap.size) (fun k cells hk hq => ⟨hq, blk_lt hk⟩)).below hb) (hH.src t ht).2)
 have HP := Lib.hid (And.intro hH.hp (And.intro hP hS))
 have HL := Lib.hid (And.intro ht hl)
 have HSZ := Lib.hid (show w.heap.size ≤ W.heap.size from hb.size)
 have HC := Lib.hid (cloneH.calls Av cv ys ys W (Kd.C_below hCv hb) hcv (by unfold cloneH.f; rw [if_pos (by omega)]))
 have HN := Lib.hid (show 1 ≤ n by omega)
 clear hM hY h0 hB hH hP hS ht hl hCv hcv hb hn hB0
 show Calls Try.prog 29 #[.func (.yield l) #[] #[], .pointer (some ⟨B, 0, none⟩)] W _
 go_enter Try.func29, Try.ntmps29
 go_wp2_with (go_at_call 30; (with_reducible refine HC.out.mono ?_); rintro e w1 ⟨v0, rfl, ho, hb⟩; have HR1 := Lib.hid ho; have HB1 := Lib.hid hb; clear ho hb)
 go_loopg [3] (flat S).length (fun gk v3 wr => ∃ (pre : List (Cl × Int)) (S' : SL) (ys' : List It), Aside0 (J pre wr) ∧ Aside0 (HW ltI W.heap.size (qIn n0 w.heap.size) wr v3 ys' ∧ (ys'.map It.c).Perm S' ∧ OkS S' ∧ pre ++ outs S' = outs S) ∧ Aside0 ((flat S').length ≤ gk ∧ (flat S').length ≤ 1999999999999 ∧ ys'.length ≤ 1000000 ∧ w.heap.size ≤ wr.heap.size))
 case atStart => exact ⟨[], S, ys, ⟨HM.out _ _ _ HJ.out (Mv.below (Mv.refl _) HB1.out)⟩, ⟨⟨HR1.out, srcs_below HB1.out HS1.out, HP.out.1⟩, HP.out.2.1, HP.out.2.2, rfl⟩, ⟨Nat.le_refl _, HL.out.1, HL.out.2, Nat.le_trans HSZ.out (below_size HB1.out)⟩⟩
 case round =>
  clear HR1 HB1 HS1 HP HJ HC
  obtain ⟨pre, S', ys', HJ, HH, HZ⟩ := hrel
  obtain ⟨A3, c3, rfl⟩ := Kd.R_slice HH.out.1.row
  cases ys' with
  | nil =>
   have q1 : ¬ (0 : Int) < ((([] : List It).length : Nat) : Int) := by simp
   go_wp2_with fail
   go_end0
   obtain ⟨-, hp, -, he⟩ := HH.out
   obtain rfl := List.Perm.nil_eq hp
   rw [outs_nil, List.append_nil] at he
   exact ⟨⟨_, rfl⟩, .inl (he ▸ HJ.out)⟩
  | cons t rest =>
   simp only [List.length_cons]
   have q1 : (0 : Int) < ((rest.length + 1 : Nat) : Int) := by omega
   go_upto_region 2 with fail
   go_cut [4, 5] (fun v4 v5 wc => ∃ b4 : Nat, v4 = .pointer (some ⟨b4, 0, none⟩) ∧ v5 = .pointer (some ⟨b4 + 1, 0, none⟩) ∧ Aside0 (b4 = wr.heap.size ∧ wc.heap[b4]? = some (.cells (cellL z39).toArray 39 (0, 0)) ∧ wc.heap[b4 + 1]? = some (.cells (cellL z39).toArray 39 (0, 0))) ∧ Aside0 (Below wr.heap.size wr wc))
   case first =>
    go_wp2_with fail
    go_meet
    case rel => exact ⟨wr.heap.size, rfl, by simp, ⟨rfl, blk_alloc (heap_new_ _ _) _, by have h := heap_new_ (wr.alloc (.cells (cellL z39).toArray 39)) (.cells (cellL z39).toArray 39); simp only [World.size_alloc] at h; exact h⟩, ⟨below_alloc (below_alloc (Below.refl _ _) _) _⟩⟩
   case rest =>
    obtain ⟨b4, rfl, rfl, HB4, HBc⟩ := hcut
    have hsrc := (HH.out.1.src t List.mem_cons_self).2
    obtain ⟨x, tl, hxt⟩ := List.exists_cons_of_ne_nil hsrc
    obtain ⟨A, B', hAB, hLe⟩ := root_least HH.out.1 HH.out.2.1 HH.out.2.2.1 hxt
    subst hAB
    have HX := Lib.hid hxt
    have HLE := Lib.hid hLe
    have HT := Lib.hid (take_calls ltI_lt ltI_ord W.heap.size (qIn n0 w.heap.size) (.slice A3 (rest.length + 1) c3) t x tl rest wc (HW.below HH.out.1 HBc.out) hxt (by have := HZ.out.2.2.1; simp at this; omega))
    clear hsrc hxt hLe
    go_upto_region 3 with fail
    go_cut [3] (fun v3 wd => ∃ (zs : List It), Aside0 (IN W wr wd n0 w.heap.size b4 (b4 + 1) v3 zs x 1 (A ++ popS t.n tl ++ B') (outs S) pre))
    case first =>
     go_wp2_with (go_at_call 31; (with_reducible refine HT.out.mono ?_); rintro e w1 ⟨v', zs, rfl, hh, hp, hg⟩; have HW1 := Lib.hid hh; have HP1 := Lib.hid hp; have HG1 := Lib.hid hg; have hk4 := (blk_grown HB4.out.2.1 hg (fun e => by obtain ⟨cells, h2⟩ := Kd.R_typed (HW.below HH.out.1 HBc.out).row b4 e.symm; rw [HB4.out.2.1] at h2; injection h2 with h2; injection h2 with _ h2; exact absurd h2 (by decide))); have HK4 := Lib.hid hk4; clear hh hp hg hk4)
     rw [storeC HK4.out x]
     go_wp2_with fail
     go_meet
     case rel =>
      have hge : wr.heap.size ≤ b4 := Nat.le_of_eq HB4.out.1.symm
      have hMv := Mv.take (Mv.below (Mv.refl wr) HBc.out) (HW.below HH.out.1 HBc.out).row HG1.out HSZ.out
      have hk5 := blk_grown HB4.out.2.2 HG1.out (fun e => by obtain ⟨cells, h2⟩ := Kd.R_typed (HW.below HH.out.1 HBc.out).row (b4 + 1) e.symm; rw [HB4.out.2.2] at h2; injection h2 with h2; injection h2 with _ h2; exact absurd h2 (by decide))
      have hst := inc_of (S := []) HH.out.2.2.1
      refine ⟨zs, ⟨Mv.putN hMv hge _ _, HW.putN HW1.out HK4.out (Nat.le_trans HZ.out.2.2.2 hge) _ _, put10 HK4.out x, ⟨z39, (setCells_far _ _ _ (by omega)).trans hk5⟩, ⟨hge, by omega, HZ.out.2.2.2⟩, take_perm HP1.out HH.out.2.1 HX.out, HH.out.2.2.1.pop, ?_, le_left HLE.out, ?_, ?_⟩⟩
      ·
       rw [← outs_first hst HLE.out]; exact HH.out.2.2.2
      ·
       have := tot_pop A B' t.n x tl; have := HZ.out.2.1; omega
      ·
       have := take_len HP1.out; have := HZ.out.2.2.1; simp at this; omega
    case rest =>
     have HF := Lib.hid (tot_pop A B' t.n x tl)
     have HZ1 := Lib.hid HZ.out
     have HJ1 := Lib.hid HJ.out
     clear HT HLE HX HB4 HBc HH HZ HJ
     obtain ⟨zs, HI⟩ := hcut
     obtain ⟨wo, rfl⟩ : ∃ wo, wo = wr := ⟨_, rfl⟩
     obtain ⟨gko, rfl⟩ : ∃ g, g = gk := ⟨_, rfl⟩
     obtain ⟨M1, hM1⟩ : ∃ M1, (flat (A ++ popS t.n tl ++ B')).length = M1 := ⟨_, rfl⟩
     rw [hM1] at HF
     have HM1 := Lib.hid hM1
     clear hM1
     go_wp2_with fail
     go_loopg [3, 6] M1 (fun gk v3 v6 wr => ∃ (zs : List It) (c : Cl) (m : Nat) (S2 : SL), v6 = .int .i64 m ∧ Aside0 (IN W wo wr n0 w.heap.size b4 (b4 + 1) v3 zs c m S2 (outs S) pre) ∧ Aside0 ((flat S2).length ≤ gk ∧ (flat S2).length ≤ M1))
     case atStart => exact ⟨zs, x, 1, _, rfl, ⟨HI.out⟩, ⟨Nat.le_of_eq HM1.out, Nat.le_of_eq HM1.out⟩⟩
     case round =>
      clear HI
      obtain ⟨zs, c, m, S2, rfl, HI, HG⟩ := hrel
      obtain ⟨A3, c3, rfl⟩ := Kd.R_slice HI.out.hw.row
      go_upto_region 5 with fail
      go_cut [31] (fun v31 we => ∃ b : Bool, v31 = .bool b ∧ Aside0 (b = true ↔ ∃ t rest x tl, zs = t :: rest ∧ t.l = x :: tl ∧ x.f0 = c.f0) ∧ Aside0 (Below wr.heap.size wr we))
      case first =>
       cases zs with
       | nil =>
        have q1 : ¬ (0 : Int) < ((([] : List It).length : Nat) : Int) := by simp
        go_quiet (fail)
        go_wp2_with fail
        go_meet
        case rel => exact ⟨false, rfl, ⟨by simp⟩, ⟨pw_below_drewN (Below.refl _ _) _⟩⟩
       | cons t rest =>
        have q1 : (0 : Int) < ((rest.length + 1 : Nat) : Int) := by omega
        obtain ⟨x, tl, hxt⟩ := List.exists_cons_of_ne_nil (HI.out.hw.src t List.mem_cons_self).2
        obtain ⟨g, cap, ev, -, -, -⟩ := Kd.R_form HI.out.hw.row (by simp)
        injection ev with ev1 ev2 ev3
        subst ev1 ev3
        obtain ⟨c1, -, -⟩ := it_cells HI.out.hw.row 0 (by simp)
        rw [show (t :: rest).getD 0 It.z = t from rfl] at c1
        obtain ⟨ad, hA, d0, d1, d2, d3, -⟩ := src_head (HI.out.hw.src t List.mem_cons_self).1 hxt
        rw [hA, hxt] at c1
        simp only [List.length_cons]
        simp only [List.length_cons] at c1
        have q2 : (0 : Int) < ((tl.length + 1 : Nat) : Int) := by omega
        have e0 := (blk_cell HI.out.k4 0).trans (show _ = some (Value.string c.f0.f0) from rfl)
        have e1 := (blk_cell HI.out.k4 1).trans (show _ = some (Value.string c.f0.f1) from rfl)
        have e2 := (blk_cell HI.out.k4 2).trans (show _ = some (Value.int .i64 c.f0.f2) from rfl)
        have e3 := (blk_cell HI.out.k4 3).trans (show _ = some (Value.string c.f0.f3) from rfl)
        have HXT := Lib.hid hxt
        clear hxt hA
        go_quiet (fail)
        go_wp2_with fail
        go_meet
        case rel =>
         refine ⟨_, rfl, ⟨?_⟩, ⟨pw_below_drewN (Below.refl _ _) _⟩⟩
         rw [keyB_cmp]
         constructor
         ·
          intro h
          exact ⟨t, rest, x, tl, rfl, HXT.out, key_same (by simpa using h)⟩
         ·
          rintro ⟨t', r', x', tl', e, h1, h2⟩
          injection e with e1 e2
          subst e1
          rw [HXT.out] at h1
          injection h1 with h1
          subst h1
          rw [h2, cmpK_cmp.refl]; rfl
      case rest =>
       obtain ⟨b, rfl, HBT, HBe⟩ := hcut
       have HE := Lib.hid (IN.below HI.out HBe.out)
       clear HI HBe
       cases b
       ·
        have hgt := root_greater HE.out.hw HE.out.pm HE.out.ok HE.out.le (fun h => by have := HBT.out.2 h; cases this)
        have heq : pre ++ (c, (m : Int)) :: outs S2 = outs S := by rw [← outs_end hgt]; exact HE.out.eq
        have HEQ := Lib.hid heq
        obtain ⟨fn, tmps, assign, body, hy, hR⟩ := HY.out pre (c, (m : Int)) wc (HM.out _ _ _ HJ1.out HE.out.mv) ⟨outs S2, by rw [← heq]; simp⟩
        have HYR := Lib.hid hR
        dsimp only [cellL] at hy
        have d0 := (blk_cell HE.out.k4 0).trans (show _ = some (Value.string c.f0.f0) from rfl)
        have d1 := (blk_cell HE.out.k4 1).trans (show _ = some (Value.string c.f0.f1) from rfl)
        have d2 := (blk_cell HE.out.k4 2).trans (show _ = some (Value.int .i64 c.f0.f2) from rfl)
        have d3 := (blk_cell HE.out.k4 3).trans (show _ = some (Value.string c.f0.f3) from rfl)
        have d4 := (blk_cell HE.out.k4 4).trans (show _ = some (Value.int .i64 c.f1.f0) from rfl)
        have d5 := (blk_cell HE.out.k4 5).trans (show _ = some (Value.bool c.f1.f1) from rfl)
        have d6 := (blk_cell HE.out.k4 6).trans (show _ = some (Value.int .i64 c.f1.f2) from rfl)
        have d7 := (blk_cell HE.out.k4 7).trans (show _ = some (Value.int .i64 c.f1.f3.f0) from rfl)
        have d8 := (blk_cell HE.out.k4 8).trans (show _ = some (Value.int .i64 c.f1.f3.f1) from rfl)
        have d9 := (blk_cell HE.out.k4 9).trans (show _ = some (Value.string c.f1.f3.f2) from rfl)
        clear hgt heq hR HBT
        go_upto_region 9 with fail
        refine (wpIn_wide (n := n)).1 ?_
        gi_wp2_with fail
        refine ⟨fun _ => HN.out, HYR.out.mono ?_⟩
        rintro e W3 (⟨rfl, hJ3, hk3⟩ | ⟨rfl, hJx3⟩)
        ·
         have HJ3 := Lib.hid hJ3
         have HK3 := Lib.hid hk3
         clear hJ3 hk3
         gi_wp2
         go_wp2_with fail
         go_roundg ((flat S2).length)
         case measure => have := HG.out.2; have := HF.out; have := HZ1.out.1; omega
         case rel =>
          have hle : wc.heap.size ≤ W3.heap.size := HK3.out.size
          have hws : wo.heap.size ≤ wc.heap.size := HE.out.mv.size
          exact ⟨pre ++ [(c, (m : Int))], S2, zs, ⟨HJ3.out⟩, ⟨HW.kp HE.out.hw HK3.out, HE.out.pm, HE.out.ok, by rw [← HEQ.out]; simp⟩, ⟨Nat.le_refl _, by have := HG.out.2; have := HF.out; have := HZ1.out.2.1; omega, HE.out.len, by have := HZ1.out.2.2.2; omega⟩⟩
        ·
         gi_wp2
         go_wp2_with fail
         refine bodyPost_ret (results_none rfl _ _ _) rfl ?_
         exact ⟨⟨_, rfl⟩, .inr ⟨_, ⟨outs S2, by rw [← HEQ.out]; simp⟩, hJx3⟩⟩
       ·
        obtain ⟨t2, rest2, x2, tl2, rfl, hxt2, hxc⟩ := HBT.out.1 rfl
        obtain ⟨A2, B2, hAB2, hLe2⟩ := root_least HE.out.hw HE.out.pm HE.out.ok hxt2
        subst hAB2
        have HX2 := Lib.hid (And.intro hxt2 hxc)
        have HLE2 := Lib.hid hLe2
        have HT2 := Lib.hid (take_calls ltI_lt ltI_ord W.heap.size (qIn n0 w.heap.size) (.slice A3 (rest2.length + 1) c3) t2 x2 tl2 rest2 wc HE.out.hw hxt2 (by have := HE.out.len; simp at this; omega))
        simp only [List.length_cons]
        clear hxt2 hxc hLe2 HBT
        go_upto_region 6 with fail
        go_cut [3] (fun v3 wd => ∃ (zs : List It), Aside0 (HW ltI W.heap.size (qIn n0 w.heap.size) wd v3 zs ∧ (zs.map It.c).Perm (popC t2 tl2 rest2) ∧ Mv TH w.heap.size wo wd ∧ wd.heap[b4]? = some (.cells (cellL c).toArray 39 (0, 0)) ∧ wd.heap[b4 + 1]? = some (.cells (cellL x2).toArray 39 (0, 0))))
        case first =>
         obtain ⟨d, hd⟩ := HE.out.k5
         have HD := Lib.hid hd
         clear hd
         go_wp2_with (go_at_call 31; (with_reducible refine HT2.out.mono ?_); rintro e w1 ⟨v', zs', rfl, hh, hp, hg⟩; have HW1 := Lib.hid hh; have HP1 := Lib.hid hp; have HG1 := Lib.hid hg; have hk5 := (blk_grown HD.out hg (fun e => by obtain ⟨cells, h2⟩ := Kd.R_typed HE.out.hw.row (b4 + 1) e.symm; rw [HD.out] at h2; injection h2 with h2; injection h2 with _ h2; exact absurd h2 (by decide))); have HK5 := Lib.hid hk5; clear hh hp hg hk5)
         rw [storeC HK5.out x2]
         go_wp2_with fail
         go_meet
         case rel =>
          have hk4 := blk_grown HE.out.k4 HG1.out (fun e => by obtain ⟨cells, h2⟩ := Kd.R_typed HE.out.hw.row b4 e.symm; rw [HE.out.k4] at h2; injection h2 with h2; injection h2 with _ h2; exact absurd h2 (by decide))
          have hge := HE.out.ge
          exact ⟨zs', ⟨HW.putN HW1.out HK5.out (by omega) _ _, HP1.out, Mv.putN (Mv.take HE.out.mv HE.out.hw.row HG1.out HSZ.out) (by omega) _ _, (setCells_far _ _ _ (by omega)).trans hk4, put10 HK5.out x2⟩⟩
        case rest =>
         obtain ⟨zs', HR⟩ := hcut
         obtain ⟨y, hy⟩ : ∃ y, joinV c.f1 x2.f1 = y := ⟨_, rfl⟩
         have HJN := Lib.hid (fun W' => cell_Join.calls 5 c.f1.f0 c.f1.f1 c.f1.f2 c.f1.f3.f0 c.f1.f3.f1 c.f1.f3.f2 x2.f1.f0 x2.f1.f1 x2.f1.f2 x2.f1.f3.f0 x2.f1.f3.f1 x2.f1.f3.f2 y.f0 y.f1 y.f2 y.f3.f0 y.f3.f1 y.f3.f2 W' (by have h := join_f 5 (Nat.le_refl _) c.f1.f0 c.f1.f1 c.f1.f2 c.f1.f3.f0 c.f1.f3.f1 c.f1.f3.f2 x2.f1.f0 x2.f1.f1 x2.f1.f2 x2.f1.f3.f0 x2.f1.f3.f1 x2.f1.f3.f2; rw [h]; show some (tupV (joinV c.f1 x2.f1)) = _; rw [hy]; rfl))
         have HYY := Lib.hid hy
         have g4 := (blk_cell HR.out.2.2.2.1 4).trans (show _ = some (Value.int .i64 c.f1.f0) from rfl)
         have g5 := (blk_cell HR.out.2.2.2.1 5).trans (show _ = some (Value.bool c.f1.f1) from rfl)
         have g6 := (blk_cell HR.out.2.2.2.1 6).trans (show _ = some (Value.int .i64 c.f1.f2) from rfl)
         have g7 := (blk_cell HR.out.2.2.2.1 7).trans (show _ = some (Value.int .i64 c.f1.f3.f0) from rfl)
         have g8 := (blk_cell HR.out.2.2.2.1 8).trans (show _ = some (Value.int .i64 c.f1.f3.f1) from rfl)
         have g9 := (blk_cell HR.out.2.2.2.1 9).trans (show _ = some (Value.string c.f1.f3.f2) from rfl)
         have h4 := (blk_cell HR.out.2.2.2.2 4).trans (show _ = some (Value.int .i64 x2.f1.f0) from rfl)
         have h5 := (blk_cell HR.out.2.2.2.2 5).trans (show _ = some (Value.bool x2.f1.f1) from rfl)
         have h6 := (blk_cell HR.out.2.2.2.2 6).trans (show _ = some (Value.int .i64 x2.f1.f2) from rfl)
         have h7 := (blk_cell HR.out.2.2.2.2 7).trans (show _ = some (Value.int .i64 x2.f1.f3.f0) from rfl)
         have h8 := (blk_cell HR.out.2.2.2.2 8).trans (show _ = some (Value.int .i64 x2.f1.f3.f1) from rfl)
         have h9 := (blk_cell HR.out.2.2.2.2 9).trans (show _ = some (Value.string x2.f1.f3.f2) from rfl)
         have qm : (m : Int) ≤ 2000000000000 := by have := HE.out.bd; omega
         clear hy
         go_wp2_with (go_at_call 32; (with_reducible refine (HJN.out _).mono ?_); rintro e w8 ⟨rfl, hb⟩; have hk8 := blk_below HR.out.2.2.2.1 hb; have f4 := blk_frozen hk8 4; have f5 := blk_frozen hk8 5; have f6 := blk_frozen hk8 6; have f7 := blk_frozen hk8 7; have f8 := blk_frozen hk8 8; have f9 := blk_frozen hk8 9; have k4 := (blk_cell hk8 4).trans (show _ = some (Value.int .i64 c.f1.f0) from rfl); have k5 := (blk_cell hk8 5).trans (show _ = some (Value.bool c.f1.f1) from rfl); have k6 := (blk_cell hk8 6).trans (show _ = some (Value.int .i64 c.f1.f2) from rfl); have k7 := (blk_cell hk8 7).trans (show _ = some (Value.int .i64 c.f1.f3.f0) from rfl); have k8 := (blk_cell hk8 8).trans (show _ = some (Value.int .i64 c.f1.f3.f1) from rfl); have k9 := (blk_cell hk8 9).trans (show _ = some (Value.string c.f1.f3.f2) from rfl); have HB8 := Lib.hid hb; have HK8 := Lib.hid hk8; clear hb hk8)
         clear g4 g5 g6 g7 g8 g9 h4 h5 h6 h7 h8 h9 f4 f5 f6 f7 f8 f9 k4 k5 k6 k7 k8 k9
         go_roundg ((flat (A2 ++ popS t2.n tl2 ++ B2)).length)
         case measure => have := HG.out.1; have := tot_pop A2 B2 t2.n x2 tl2; omega
         case rel =>
          have hge := HE.out.ge
          have htp := tot_pop A2 B2 t2.n x2 tl2
          have hin := HE.out
          refine ⟨zs', joinC c x2, m + 1, A2 ++ popS t2.n tl2 ++ B2, by go_num, ⟨?_⟩, ⟨Nat.le_refl _, by have := HG.out.2; omega⟩⟩
          show IN W wo (w8.setCells b4 4 (verL y)) n0 w.heap.size b4 (b4 + 1) _ zs' (joinC c x2) (m + 1) _ (outs S) pre
          have hj : joinC c x2 = ⟨c.f0, y⟩ := by rw [← HYY.out]; rfl
          refine ⟨Mv.putN (Mv.below HR.out.2.2.1 HB8.out) (by omega) _ _, HW.putN (HW.below HR.out.1 HB8.out) HK8.out (by omega) _ _, by rw [hj]; exact put6 HK8.out y, ⟨x2, (setCells_far _ _ _ (by omega)).trans (blk_below HR.out.2.2.2.2 HB8.out)⟩, hge, take_perm HR.out.2.1 hin.pm HX2.out.1, hin.ok.pop, ?_, ?_, by have := hin.bd; omega, by have := take_len HR.out.2.1; have := hin.len; simp at this; omega⟩
          ·
           rw [← outs_more (inc_of (S := []) hin.ok) HLE2.out HX2.out.2]; exact hin.eq
          ·
           intro z hz
           have := le_left HLE2.out z hz
           rw [HX2.out.2] at this
           exact this
end Go.Proofs.Ytabiekkebdocnaa.Q
