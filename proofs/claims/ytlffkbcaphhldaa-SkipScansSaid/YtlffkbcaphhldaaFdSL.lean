/- A skip list in memory: its box, its towers, its levels; what a call leaves as it was; what Put makes of the towers. -/
import Derived.Test.YtlffkbcaphhldaaFdTw
namespace Go.Proofs.Ytlffkbcaphhldaa.Sk
open Go Go.RowKit Go.Lib Go.Proofs Go.Proofs.YtlffkbcaphhldaaW.PrintWords Go.Proofs.YtlffkbcaphhldaaW.PrintLast Go.Proofs.YtlffkbcaphhldaaW.PrintMore Go.Proofs.Ytlffkbcaphhldaa.Q Go.Proofs.Ytlffkbcaphhldaa.Pl Go.Proofs.Ytlffkbcaphhldaa.Ord Go.Proofs.Ytlffkbcaphhldaa.Nm
set_option linter.unusedVariables false
set_option linter.unusedSimpArgs false
structure Ch (S : Nat → Prop) (w w' : World) : Prop where
 os : w'.os = w.os
 tape : w'.tape = w.tape
 output : w'.output = w.output
 size : w.heap.size ≤ w'.heap.size
 same : ∀ k, k < w.heap.size → ¬ S k → w'.heap[k]? = w.heap[k]?
theorem Ch.refl (S : Nat → Prop) (w : World) : Ch S w w := ⟨rfl, rfl, rfl, Nat.le_refl _, fun _ _ _ => rfl⟩
theorem Ch.of_below {w w' : World} (S : Nat → Prop) (h : Below w.heap.size w w') : Ch S w w' := ⟨h.os, h.tape, h.output, h.size, fun k hk _ => h.block k hk⟩
theorem Ch.then_ {S S2 : Nat → Prop} {w W W2 : World} (h : Ch S w W) (k : Ch S2 W W2) (hs : ∀ i, S2 i → S i ∨ w.heap.size ≤ i) : Ch S w W2 :=
 ⟨k.os.trans h.os, k.tape.trans h.tape, k.output.trans h.output, Nat.le_trans h.size k.size, fun i hi hn => (k.same i (Nat.lt_of_lt_of_le hi h.size) fun h2 => (hs i h2).elim hn fun h3 => by omega).trans (h.same i hi hn)⟩
theorem Ch.below {S : Nat → Prop} {w W W2 : World} (h : Ch S w W) (hb : Below W.heap.size W W2) : Ch S w W2 := h.then_ (Ch.of_below (fun _ => False) hb) fun _ h => h.elim
theorem Ch.set {S : Nat → Prop} {w W : World} (h : Ch S w W) {g j : Nat} (hg : S g ∨ w.heap.size ≤ g) (u : Value) : Ch S w (W.setCell ⟨g, j, none⟩ u) :=
 ⟨h.os, h.tape, h.output, Nat.le_trans h.size (Nat.le_of_eq (by simp [World.setCell])), fun k hk hn => (Below.heap_setCell W ⟨g, j, none⟩ u k (fun e => by
  have e2 : k = g := e
  subst e2
  rcases hg with hg | hg
  ·
   exact hn hg
  ·
   omega)).trans (h.same k hk hn)⟩
theorem Ch.to_below {S : Nat → Prop} {w0 w W : World} (h : Ch S w W) (h0 : Below w0.heap.size w0 w) (hs : ∀ k, S k → w0.heap.size ≤ k) : Below w0.heap.size w0 W :=
 ⟨h.os.trans h0.os, h.tape.trans h0.tape, h.output.trans h0.output, Nat.le_trans h0.size h.size, fun k hk => (h.same k (Nat.lt_of_lt_of_le hk h0.size) fun h2 => by have := hs k h2; omega).trans (h0.block k hk)⟩
theorem Ch.blk {S : Nat → Prop} {w W : World} (h : Ch S w W) {g : Nat} {o : Obj} (hb : w.heap[g]? = some o) (hn : ¬ S g) : W.heap[g]? = some o := (h.same g (blk_lt hb) hn).trans hb
theorem Ch.R {S : Nat → Prop} {w W : World} (h : Ch S w W) {α : Type} {d : Kd α} {e base : Nat} {ok : Nat → Prop} {v : Value} {xs : List α} (hr : d.R e w base ok v xs) (hn : ∀ k, ok k → ¬ S k) : d.R e W base ok v xs := Kd.R_step hr fun k ho hk => h.same k hk (hn k ho)
theorem spot_zero {T : List Tw} : ∀ m, (∀ p, p ≤ m → 1 ≤ (tg T p).h) → spot T 0 m = m
 | 0, _ => rfl
 | m + 1, h => by unfold spot; rw [if_pos (show 0 < (tg T (m + 1)).h from h (m + 1) (Nat.le_refl _))]
theorem Mem.next0 {w : World} {T : List Tw} (h : Mem w T) {p : Nat} (hp : p < T.length) : lk' T p (tg T p).h 0 = if p + 1 < T.length then some (tg T (p + 1)).b else none := by
 unfold lk'
 rw [if_pos (show 0 < (tg T p).h from (h.hi p hp).1)]
 rcases fst_cases T 0 p with ⟨h1, h2⟩ | ⟨q, h1, h2, h3, h4, h5⟩
 ·
  rw [h1]
  by_cases e : p + 1 < T.length
  ·
   exact absurd (h.hi (p + 1) e).1 (h2 (p + 1) (by omega) e)
  ·
   rw [if_neg e]
 ·
  rw [h5]
  have e : q = p + 1 := by
   by_cases e : q = p + 1
   ·
    exact e
   ·
    exact absurd (h.hi (p + 1) (by omega)).1 (h4 (p + 1) (by omega) (by omega))
  subst e
  rw [if_pos h2]
theorem blk_setCells {b t : Nat} : ∀ (vs pre cs : List Value) (W : World), W.heap[b]? = some (.cells (pre ++ cs).toArray t (0, 0)) → cs.length = vs.length → (W.setCells b pre.length vs).heap[b]? = some (.cells (pre ++ vs).toArray t (0, 0))
 | [], pre, cs, W, h, hl => by
  obtain rfl := List.eq_nil_of_length_eq_zero hl
  exact h
 | v :: vs, pre, [], W, h, hl => by simp at hl
 | v :: vs, pre, c :: cs, W, h, hl => by
  have h1 := blk_put h pre.length v (cs' := ((pre ++ [v]) ++ cs).toArray) (by simp)
  have h2 := blk_setCells vs (pre ++ [v]) cs (W.setCell ⟨b, pre.length, none⟩ v) h1 (by simpa using hl)
  rw [List.length_append, List.length_singleton, List.append_assoc, List.singleton_append] at h2
  exact h2
def Own (l : Nat) (T : List Tw) (A : Option Addr) (k : Nat) : Prop := k = l ∨ (∃ p, p < T.length ∧ (tg T p).b = k) ∨ ∃ a, A = some a ∧ a.block = k
structure SL (w : World) (base l : Nat) (T : List Tw) (A : Option Addr) (c : Nat) (lv : List Int) : Prop where
 box : w.heap[l]? = some (.cells #[.pointer (some ⟨(tg T 0).b, 0, none⟩), .slice A lv.length c, .int .i64 ((T.length - 1 : Nat) : Int)] 67 (0, 0))
 mem : Mem w T
 up : Up T
 lvr : Kd.R (Kd.int .i64) 3 w base (fun _ => True) (.slice A lv.length c) lv
 hb : base ≤ l
 tb : ∀ p, p < T.length → base ≤ (tg T p).b
theorem SL.own_lt {w : World} {base l : Nat} {T : List Tw} {A : Option Addr} {c : Nat} {lv : List Int} (h : SL w base l T A c lv) {k : Nat} (hk : Own l T A k) : k < w.heap.size := by
 rcases hk with rfl | ⟨p, hp, rfl⟩ | ⟨a, rfl, rfl⟩
 ·
  exact blk_lt h.box
 ·
  exact blk_lt (h.mem.blk p hp)
 ·
  exact Kd.R_lt h.lvr a.block rfl
theorem SL.own_ge {w : World} {base l : Nat} {T : List Tw} {A : Option Addr} {c : Nat} {lv : List Int} (h : SL w base l T A c lv) {k : Nat} (hk : Own l T A k) : base ≤ k := by
 rcases hk with rfl | ⟨p, hp, rfl⟩ | ⟨a, rfl, rfl⟩
 ·
  exact h.hb
 ·
  exact h.tb p hp
 ·
  exact Kd.R_base h.lvr a.block rfl
theorem SL.ch {w w' : World} {base l : Nat} {T : List Tw} {A : Option Addr} {c : Nat} {lv : List Int} {S : Nat → Prop} (h : SL w base l T A c lv) (hc : Ch S w w') (hS : ∀ k, Own l T A k → ¬ S k) : SL w' base l T A c lv := by
 refine ⟨hc.blk h.box (hS _ (.inl rfl)), h.mem.keep fun p hp => hc.same _ (blk_lt (h.mem.blk p hp)) (hS _ (.inr (.inl ⟨p, hp, rfl⟩))), h.up, ?_, h.hb, h.tb⟩
 have h1 := Kd.R_reok rfl h.lvr (ok := fun k => ∃ a, A = some a ∧ a.block = k) (fun k hk => by
  cases A with
  | none => simp [Value.ownBlock] at hk
  | some a => exact ⟨a, rfl, by simpa [Value.ownBlock] using hk⟩)
 exact Kd.R_mono (hc.R h1 fun k hk => hS k (.inr (.inr hk))) fun _ _ => trivial
theorem SL.below {w w' : World} {base l : Nat} {T : List Tw} {A : Option Addr} {c : Nat} {lv : List Int} (h : SL w base l T A c lv) (hb : Below w.heap.size w w') : SL w' base l T A c lv := h.ch (Ch.of_below (fun _ => False) hb) fun _ _ h => h
theorem lv_set {w : World} {base : Nat} {v : Value} {lv : List Int} (h : Kd.R (Kd.int .i64) 3 w base (fun _ => True) v lv) {g t : Nat} {cells : Array Value} (hb : w.heap[g]? = some (.cells cells t (0, 0))) (ht : 3 ≠ t) (j : Nat) (u : Value) : Kd.R (Kd.int .i64) 3 (w.setCell ⟨g, j, none⟩ u) base (fun _ => True) v lv :=
 Kd.R_set h hb (fun q hq => by have hq : q ∈ [3] := hq; rw [List.mem_singleton] at hq; subst hq; exact ht) j u
def cellsT (T : List Tw) : List Cl := (T.drop 1).map (·.c)
def hisT (T : List Tw) : List Int := (T.drop 1).map fun t => (t.h : Int)
def hasT (T : List Tw) (k : Ky) : Prop := Sk.below T k + 1 < T.length ∧ cmpK (tg T (Sk.below T k + 1)).c.f0 k = 0
def htv (lv : List Int) (n : Nat) : Int := if lv = [] then 1 else min (max (lv.getD (n % lv.length) 0) 1) 8
theorem htv_bd (lv : List Int) (n : Nat) : 1 ≤ htv lv n ∧ htv lv n ≤ 8 := by unfold htv; split <;> omega
def setT (T : List Tw) (p : Nat) (c : Cl) : List Tw := T.set p { tg T p with c := c }
theorem setT_len (T : List Tw) (p : Nat) (c : Cl) : (setT T p c).length = T.length := List.length_set ..
theorem setT_at {T : List Tw} {p : Nat} (c : Cl) (hp : p < T.length) : tg (setT T p c) p = { tg T p with c := c } := by
 unfold setT
 generalize ({ tg T p with c := c } : Tw) = t
 unfold tg; rw [List.getD_eq_getElem?_getD, List.getElem?_set_self hp]; rfl
theorem setT_other {T : List Tw} {p q : Nat} (c : Cl) (h : p ≠ q) : tg (setT T p c) q = tg T q := by
 unfold setT
 generalize ({ tg T p with c := c } : Tw) = t
 unfold tg; rw [List.getD_eq_getElem?_getD, List.getElem?_set_ne h, ← List.getD_eq_getElem?_getD]
theorem setT_b (T : List Tw) (p q : Nat) (c : Cl) (hp : p < T.length) : (tg (setT T p c) q).b = (tg T q).b ∧ (tg (setT T p c) q).h = (tg T q).h := by
 by_cases h : p = q
 ·
  subst h; rw [setT_at c hp]; exact ⟨rfl, rfl⟩
 ·
  rw [setT_other c h]; exact ⟨rfl, rfl⟩
theorem fst_set (j : Nat) : ∀ (L : List Tw) (n : Nat) (t : Tw), (∀ (u : Tw), L[n]? = some u → u.b = t.b ∧ u.h = t.h) → fst j (L.set n t) = fst j L
 | [], n, t, _ => rfl
 | u :: L, 0, t, h => by
  obtain ⟨h1, h2⟩ := h u rfl
  rw [List.set_cons_zero, fst_cons, fst_cons, h1, h2]
 | u :: L, n + 1, t, h => by
  rw [List.set_cons_succ, fst_cons, fst_cons, fst_set j L n t (fun v hv => h v (by simpa using hv))]
theorem setT_lk {T : List Tw} {p : Nat} (c : Cl) (hp : p < T.length) (q h j : Nat) : lk' (setT T p c) q h j = lk' T q h j := by
 unfold lk' setT
 by_cases e : q + 1 ≤ p
 ·
  rw [List.drop_set, if_neg (show ¬ p < q + 1 by omega), fst_set]
  intro u hu
  rw [List.getElem?_drop, show q + 1 + (p - (q + 1)) = p by omega, tg_lt hp] at hu
  injection hu with hu
  subst hu
  exact ⟨rfl, rfl⟩
 ·
  rw [List.drop_set_of_lt (by omega)]
theorem setT_cells {T : List Tw} {p : Nat} (c : Cl) (h0 : 0 < p) : cellsT (setT T p c) = (cellsT T).set (p - 1) c := by
 unfold cellsT setT
 rw [List.drop_set, if_neg (by omega), List.map_set]
theorem setT_his {T : List Tw} {p : Nat} (c : Cl) (h0 : 0 < p) (hp : p < T.length) : hisT (setT T p c) = hisT T := by
 unfold hisT setT
 rw [List.drop_set, if_neg (by omega), List.map_set]
 refine List.ext_getElem? fun i => ?_
 by_cases e : p - 1 = i
 ·
  subst e
  rw [List.getElem?_set_self (by simp; omega)]
  have := tg_lt hp
  simp only [List.getElem?_map, List.getElem?_drop, show 1 + (p - 1) = p by omega, this, Option.map_some]
 ·
  rw [List.getElem?_set_ne e]
theorem ins_cells {T : List Tw} {m : Nat} (t : Tw) (hm : m < T.length) : cellsT (ins T m t) = (cellsT T).take m ++ t.c :: (cellsT T).drop m := by
 unfold cellsT
 cases T with
 | nil => simp at hm
 | cons x T => simp [ins, List.map_take, List.map_drop]
theorem ins_his {T : List Tw} {m : Nat} (t : Tw) (hm : m < T.length) : hisT (ins T m t) = (hisT T).take m ++ (t.h : Int) :: (hisT T).drop m := by
 unfold hisT
 cases T with
 | nil => simp at hm
 | cons x T => simp [ins, List.map_take, List.map_drop]
noncomputable def putT (T : List Tw) (lv : List Int) (c : Cl) (b : Nat) : List Tw :=
 open Classical in if hasT T c.f0 then setT T (Sk.below T c.f0 + 1) (joinC (tg T (Sk.below T c.f0 + 1)).c c) else ins T (Sk.below T c.f0) ⟨b, c, (htv lv (T.length - 1)).toNat⟩
theorem add_at (x : Cl) : ∀ (l : List Cl), Inc cmpK keyC l →
  add cmpK keyC joinC x l = match l[(l.filter fun y => decide (cmpK y.f0 x.f0 < 0)).length]? with
   | some y => if cmpK y.f0 x.f0 = 0 then l.set (l.filter fun y => decide (cmpK y.f0 x.f0 < 0)).length (joinC y x) else l.take (l.filter fun y => decide (cmpK y.f0 x.f0 < 0)).length ++ x :: l.drop (l.filter fun y => decide (cmpK y.f0 x.f0 < 0)).length
   | none => l.take (l.filter fun y => decide (cmpK y.f0 x.f0 < 0)).length ++ x :: l.drop (l.filter fun y => decide (cmpK y.f0 x.f0 < 0)).length
 | [], _ => rfl
 | y :: l, h => by
  unfold Inc at h
  rw [List.pairwise_cons] at h
  have ih := add_at x l h.2
  rcases Int.lt_trichotomy (cmpK y.f0 x.f0) 0 with hy | hy | hy
  ·
   rw [add_less x (show cmpK (keyC y) (keyC x) < 0 from hy), ih, List.filter_cons, if_pos (by simpa using hy), List.length_cons, List.getElem?_cons_succ]
   split
   ·
    split
    ·
     rw [List.set_cons_succ]
    ·
     rfl
   ·
    rfl
  ·
   have hn : l.filter (fun y => decide (cmpK y.f0 x.f0 < 0)) = [] := List.filter_eq_nil_iff.2 fun z hz => by
    have h1 := h.1 z hz
    have h2 : cmpK y.f0 z.f0 < 0 := h1
    have h3 := cmpK_cmp.trans z.f0 x.f0 y.f0
    have h4 := cmpK_cmp.anti y.f0 z.f0
    have h5 := cmpK_cmp.anti x.f0 y.f0
    simp only [decide_eq_true_eq]
    omega
   rw [add_same x (show cmpK (keyC y) (keyC x) = 0 from hy), List.filter_cons, if_neg (by simp; omega), hn]
   simp [hy]
  ·
   have hn : l.filter (fun y => decide (cmpK y.f0 x.f0 < 0)) = [] := List.filter_eq_nil_iff.2 fun z hz => by
    have h1 := h.1 z hz
    have h2 : cmpK y.f0 z.f0 < 0 := h1
    have h3 := cmpK_cmp.trans z.f0 x.f0 y.f0
    have h4 := cmpK_cmp.anti y.f0 z.f0
    have h5 := cmpK_cmp.anti x.f0 y.f0
    simp only [decide_eq_true_eq]
    omega
   rw [add_more x (show cmpK (keyC y) (keyC x) > 0 from hy), List.filter_cons, if_neg (by simp; omega), hn]
   simp
   intro h; omega
theorem tg_get {T : List Tw} {p : Nat} (hp : p < T.length) : T[p] = tg T p := by
 have := tg_lt hp
 rw [List.getElem?_eq_getElem hp] at this
 injection this
theorem twr_ver (c : Cl) (h : Nat) (f : Nat → Option Nat) (v : S35) : ((((((twr c h f).setIfInBounds 4 (.int .i64 v.f0)).setIfInBounds 5 (.bool v.f1)).setIfInBounds 6 (.int .i64 v.f2)).setIfInBounds 7 (.int .i64 v.f3.f0)).setIfInBounds 8 (.int .i64 v.f3.f1)).setIfInBounds 9 (.string v.f3.f2) = twr ⟨c.f0, v⟩ h f := by
 simp [twr]
def setV (W : World) (q : Nat) (v : S35) : World := (((((W.setCell ⟨q, 4, none⟩ (.int .i64 v.f0)).setCell ⟨q, 5, none⟩ (.bool v.f1)).setCell ⟨q, 6, none⟩ (.int .i64 v.f2)).setCell ⟨q, 7, none⟩ (.int .i64 v.f3.f0)).setCell ⟨q, 8, none⟩ (.int .i64 v.f3.f1)).setCell ⟨q, 9, none⟩ (.string v.f3.f2)
theorem setV_blk {W : World} {q : Nat} {c : Cl} {h : Nat} {f : Nat → Option Nat} (hb : W.heap[q]? = some (.cells (twr c h f) 72 (0, 0))) (v : S35) : (setV W q v).heap[q]? = some (.cells (twr ⟨c.f0, v⟩ h f) 72 (0, 0)) := by
 rw [← twr_ver c h f v]
 exact blk_set (blk_set (blk_set (blk_set (blk_set (blk_set hb 4 _) 5 _) 6 _) 7 _) 8 _) 9 _
theorem setV_ch {W : World} (q : Nat) (v : S35) : Ch (fun k => k = q) W (setV W q v) := by
 have e : (fun k => k = q) q := rfl
 exact ((((((Ch.refl (fun k => k = q) W).set (.inl e) _).set (.inl e) _).set (.inl e) _).set (.inl e) _).set (.inl e) _).set (.inl e) _
theorem cells_get {T : List Tw} {p : Nat} (h0 : 0 < p) (hp : p < T.length) : (cellsT T)[p - 1]? = some (tg T p).c := by
 unfold cellsT
 rw [List.getElem?_map, List.getElem?_drop, show 1 + (p - 1) = p by omega, tg_lt hp]; rfl
theorem up_set {T : List Tw} (h : Up T) {p : Nat} (h0 : 0 < p) (hp : p < T.length) (v : S35) : Up (setT T p ⟨(tg T p).c.f0, v⟩) := by
 show Inc cmpK keyC (cellsT (setT T p ⟨(tg T p).c.f0, v⟩))
 have e : (cellsT (setT T p ⟨(tg T p).c.f0, v⟩)).map keyC = (cellsT T).map keyC := by
  rw [setT_cells _ h0, List.map_set]
  refine List.ext_getElem? fun i => ?_
  by_cases e : p - 1 = i
  ·
   subst e
   rw [List.getElem?_set_self (by simp [cellsT]; omega), List.getElem?_map, cells_get h0 hp]; rfl
  ·
   rw [List.getElem?_set_ne e]
 have h1 : ((cellsT T).map keyC).Pairwise fun a b => cmpK a b < 0 := List.pairwise_map.2 h
 rw [← e] at h1
 exact List.pairwise_map.1 h1
theorem SL.set_ver {w : World} {base l : Nat} {T : List Tw} {A : Option Addr} {c : Nat} {lv : List Int} (h : SL w base l T A c lv) {p : Nat} (h0 : 0 < p) (hp : p < T.length) (v : S35) : SL (setV w (tg T p).b v) base l (setT T p ⟨(tg T p).c.f0, v⟩) A c lv := by
 have hch := setV_ch (W := w) (tg T p).b v
 have hl : (setT T p ⟨(tg T p).c.f0, v⟩).length = T.length := setT_len ..
 refine ⟨?_, ⟨fun q hq => ?_, fun q hq => ?_, fun a b ha hb e => ?_, ?_, ?_⟩, up_set h.up h0 hp v, ?_, h.hb, fun q hq => ?_⟩
 ·
  rw [(setT_b T p 0 _ hp).1, hl]
  exact hch.blk h.box (blk_ne h.box (h.mem.blk p hp) (by decide))
 ·
  rw [hl] at hq
  by_cases e : p = q
  ·
   subst e
   have h1 := setV_blk (h.mem.blk p hp) v
   rw [setT_at _ hp]
   show (setV w (tg T p).b v).heap[(tg T p).b]? = some (.cells (twr ⟨(tg T p).c.f0, v⟩ (tg T p).h (lk' _ p (tg T p).h)) _ (0, 0))
   rw [h1, show lk' (setT T p ⟨(tg T p).c.f0, v⟩) p (tg T p).h = lk' T p (tg T p).h from funext fun j => setT_lk _ hp _ _ _]
  ·
   rw [setT_other _ e, show lk' (setT T p ⟨(tg T p).c.f0, v⟩) q (tg T q).h = lk' T q (tg T q).h from funext fun j => setT_lk _ hp _ _ _]
   exact hch.blk (h.mem.blk q hq) fun e2 => e (h.mem.nd q p hq hp e2).symm
 ·
  rw [hl] at hq
  rw [(setT_b T p q _ hp).2]; exact h.mem.hi q hq
 ·
  rw [hl] at ha hb
  rw [(setT_b T p a _ hp).1, (setT_b T p b _ hp).1] at e
  exact h.mem.nd a b ha hb e
 ·
  rw [(setT_b T p 0 _ hp).2]; exact h.mem.h0
 ·
  rw [hl]; exact h.mem.len
 ·
  have hb1 := h.mem.blk p hp
  obtain ⟨cs, hcs⟩ : ∃ cs, twr (tg T p).c (tg T p).h (lk' T p (tg T p).h) = cs := ⟨_, rfl⟩
  rw [hcs] at hb1
  exact lv_set (lv_set (lv_set (lv_set (lv_set (lv_set h.lvr hb1 (by decide) 4 _) (blk_set hb1 4 _) (by decide) 5 _) (blk_set (blk_set hb1 4 _) 5 _) (by decide) 6 _) (blk_set (blk_set (blk_set hb1 4 _) 5 _) 6 _) (by decide) 7 _) (blk_set (blk_set (blk_set (blk_set hb1 4 _) 5 _) 6 _) 7 _) (by decide) 8 _) (blk_set (blk_set (blk_set (blk_set (blk_set hb1 4 _) 5 _) 6 _) 7 _) 8 _) (by decide) 9 _
 ·
  rw [hl] at hq
  rw [(setT_b T p q _ hp).1]; exact h.tb q hq
theorem own_set {l : Nat} {T : List Tw} {A : Option Addr} {p : Nat} {x : Cl} (hp : p < T.length) {k : Nat} (h : Own l (setT T p x) A k) : Own l T A k := by
 rcases h with h | ⟨q, hq, h⟩ | h
 ·
  exact .inl h
 ·
  rw [setT_len] at hq
  rw [(setT_b T p q _ hp).1] at h
  exact .inr (.inl ⟨q, hq, h⟩)
 ·
  exact .inr (.inr h)
structure Part (W : World) (T : List Tw) (m : Nat) (x : Cl) (b h i : Nat) : Prop where
 lo : ∀ p, p < T.length → W.heap[(tg T p).b]? = some (.cells (twr (tg T p).c (tg T p).h fun j => if j < i ∧ p = spot T j m then some b else lk' T p (tg T p).h j) 72 (0, 0))
 nw : W.heap[b]? = some (.cells (twr x h fun j => if j < i then fst j (T.drop (m + 1)) else none) 72 (0, 0))
theorem twr_congr (c : Cl) (h : Nat) {f g : Nat → Option Nat} (e : ∀ j, j < 8 → f j = g j) : twr c h f = twr c h g := by
 unfold twr
 rw [e 0 (by omega), e 1 (by omega), e 2 (by omega), e 3 (by omega), e 4 (by omega), e 5 (by omega), e 6 (by omega), e 7 (by omega)]
theorem Part.step {W : World} {T : List Tw} {m : Nat} {x : Cl} {b h i : Nat} (P : Part W T m x b h i) (hm : m < T.length) (hi : i < 8) (hne : ∀ p, p < T.length → (tg T p).b ≠ b) (nd : ∀ p q, p < T.length → q < T.length → (tg T p).b = (tg T q).b → p = q) :
  Part ((W.setCell ⟨b, 11 + i, none⟩ (pw (fst i (T.drop (m + 1))))).setCell ⟨(tg T (spot T i m)).b, 11 + i, none⟩ (pw (some b))) T m x b h (i + 1) := by
 have hs : spot T i m < T.length := by have := spot_le T i m; omega
 refine ⟨fun p hp => ?_, ?_⟩
 ·
  have h1 := blk_far (P.lo p hp) (p := ⟨b, 11 + i, none⟩) (hne p hp) (pw (fst i (T.drop (m + 1))))
  by_cases e : p = spot T i m
  ·
   subst e
   have h2 := blk_put h1 (11 + i) (pw (some b)) (twr_put _ _ _ i hi _)
   rw [h2]
   refine congrArg some (congrArg (fun cs => Obj.cells cs _ (0, 0)) (twr_congr _ _ fun j hj => ?_))
   by_cases ej : j = i
   ·
    subst ej; rw [if_pos rfl, if_pos ⟨Nat.lt_succ_self _, rfl⟩]
   ·
    rw [if_neg ej]
    by_cases hc : j < i ∧ spot T i m = spot T j m
    ·
     rw [if_pos hc, if_pos ⟨by omega, hc.2⟩]
    ·
     rw [if_neg hc, if_neg (fun h => hc ⟨by omega, h.2⟩)]
  ·
   have h2 := blk_far h1 (p := ⟨(tg T (spot T i m)).b, 11 + i, none⟩) (fun e2 => e (nd p _ hp hs e2)) (pw (some b))
   rw [h2]
   refine congrArg some (congrArg (fun cs => Obj.cells cs _ (0, 0)) (twr_congr _ _ fun j hj => ?_))
   by_cases ej : j = i
   ·
    subst ej; rw [if_neg (fun h => Nat.lt_irrefl _ h.1), if_neg (fun h => e h.2)]
   ·
    by_cases hc : j < i ∧ p = spot T j m
    ·
     rw [if_pos hc, if_pos ⟨by omega, hc.2⟩]
    ·
     rw [if_neg hc, if_neg (fun h => hc ⟨by omega, h.2⟩)]
 ·
  have h1 := blk_put P.nw (11 + i) (pw (fst i (T.drop (m + 1)))) (twr_put _ _ _ i hi _)
  have h2 := blk_far h1 (p := ⟨(tg T (spot T i m)).b, 11 + i, none⟩) (fun e => hne _ hs e.symm) (pw (some b))
  rw [h2]
  refine congrArg some (congrArg (fun cs => Obj.cells cs _ (0, 0)) (twr_congr _ _ fun j hj => ?_))
  by_cases ej : j = i
  ·
   subst ej; rw [if_pos rfl, if_pos (Nat.lt_succ_self _)]
  ·
   rw [if_neg ej]
   by_cases hc : j < i
   ·
    rw [if_pos hc, if_pos (by omega)]
   ·
    rw [if_neg hc, if_neg (by omega)]
theorem Part.done {W w : World} {T : List Tw} {m : Nat} {x : Cl} {b h : Nat} (P : Part W T m x b h h) (M : Mem w T) (hm : m < T.length) (hh : 1 ≤ h ∧ h ≤ 8) (hne : ∀ p, p < T.length → (tg T p).b ≠ b) : Mem W (ins T m ⟨b, x, h⟩) := by
 have h0 : ∀ j, j < 8 → j < (tg T 0).h := fun j hj => by rw [M.h0]; exact hj
 have hl := ins_len (t := ⟨b, x, h⟩) hm
 have cs : ∀ p, p < T.length + 1 → p ≤ m ∨ p = m + 1 ∨ ∃ q, m < q ∧ q < T.length ∧ p = q + 1 := fun p hp => by
  by_cases h1 : p ≤ m
  ·
   exact .inl h1
  ·
   by_cases h2 : p = m + 1
   ·
    exact .inr (.inl h2)
   ·
    exact .inr (.inr ⟨p - 1, by omega, by omega, by omega⟩)
 have bb : ∀ p, p < T.length + 1 → ((tg (ins T m ⟨b, x, h⟩) p).b = b ∧ p = m + 1) ∨ ∃ q, q < T.length ∧ (tg (ins T m ⟨b, x, h⟩) p) = tg T q ∧ p = if q ≤ m then q else q + 1 := fun p hp => by
  rcases cs p hp with h1 | rfl | ⟨q, h1, h2, rfl⟩
  ·
   exact .inr ⟨p, by omega, ins_lo hm h1, by rw [if_pos h1]⟩
  ·
   exact .inl ⟨by rw [ins_at hm], rfl⟩
  ·
   exact .inr ⟨q, h2, ins_hi hm h1, by rw [if_neg (by omega)]⟩
 refine ⟨fun p hp => ?_, fun p hp => ?_, fun p q hp hq e => ?_, ?_, by omega⟩
 ·
  rw [hl] at hp
  rcases cs p hp with h1 | rfl | ⟨q, h1, h2, rfl⟩
  ·
   rw [ins_lo hm h1, P.lo p (by omega)]
   exact congrArg some (congrArg (fun cs => Obj.cells cs _ (0, 0)) (twr_congr _ _ fun j hj => (lk_ins (t := ⟨b, x, h⟩) hm h0 h1 hj).symm))
  ·
   rw [ins_at hm]
   show W.heap[b]? = _
   rw [P.nw]
   exact congrArg some (congrArg (fun cs => Obj.cells cs _ (0, 0)) (twr_congr _ _ fun j hj => (lk_ins_at (t := ⟨b, x, h⟩) hm h j).symm))
  ·
   rw [ins_hi hm h1, P.lo q h2]
   refine congrArg some (congrArg (fun cs => Obj.cells cs _ (0, 0)) (twr_congr _ _ fun j hj => ?_))
   rw [if_neg (fun h => by have := spot_le T j m; omega), lk_ins_hi hm h1]
 ·
  rw [hl] at hp
  rcases cs p hp with h1 | rfl | ⟨q, h1, h2, rfl⟩
  ·
   rw [ins_lo hm h1]; exact M.hi p (by omega)
  ·
   rw [ins_at hm]; exact hh
  ·
   rw [ins_hi hm h1]; exact M.hi q h2
 ·
  rw [hl] at hp hq
  rcases bb p hp with ⟨h1, h2⟩ | ⟨p', h1, h2, h3⟩ <;> rcases bb q hq with ⟨k1, k2⟩ | ⟨q', k1, k2, k3⟩
  ·
   omega
  ·
   rw [h1, k2] at e; exact absurd e.symm (hne q' k1)
  ·
   rw [k1, h2] at e; exact absurd e (hne p' h1)
  ·
   rw [h2, k2] at e
   have := M.nd p' q' h1 k1 e
   subst this
   omega
 ·
  rw [ins_lo hm (Nat.zero_le _)]; exact M.h0
theorem low_len (T : List Tw) (k : Ky) : ((cellsT T).filter fun y => decide (cmpK y.f0 k < 0)).length = Sk.below T k := by
 unfold cellsT Sk.below
 rw [List.filter_map, List.length_map]; rfl
theorem cells_len (T : List Tw) : (cellsT T).length = T.length - 1 := by unfold cellsT; simp
theorem put_cells {T : List Tw} (hU : Up T) (h0 : 0 < T.length) (lv : List Int) (x : Cl) (b : Nat) : cellsT (putT T lv x b) = add cmpK keyC joinC x (cellsT T) := by
 have hm : Sk.below T x.f0 < T.length := by have := below_le T x.f0; omega
 rw [add_at x (cellsT T) hU, low_len]
 unfold putT
 by_cases hh : hasT T x.f0
 ·
  rw [if_pos hh]
  obtain ⟨h1, h2⟩ := hh
  have hg : (cellsT T)[Sk.below T x.f0]? = some (tg T (Sk.below T x.f0 + 1)).c := cells_get (Nat.succ_pos _) h1
  rw [hg, setT_cells _ (Nat.succ_pos _), Nat.succ_sub_one]
  simp only [h2, if_true]
 ·
  rw [if_neg hh, ins_cells _ hm]
  by_cases h1 : Sk.below T x.f0 + 1 < T.length
  ·
   have hg : (cellsT T)[Sk.below T x.f0]? = some (tg T (Sk.below T x.f0 + 1)).c := cells_get (Nat.succ_pos _) h1
   rw [hg]
   simp only [show ¬ cmpK (tg T (Sk.below T x.f0 + 1)).c.f0 x.f0 = 0 from fun h => hh ⟨h1, h⟩, if_false]
  ·
   rw [List.getElem?_eq_none (by rw [cells_len]; omega)]
theorem put_up {T : List Tw} (hU : Up T) (h0 : 0 < T.length) (lv : List Int) (x : Cl) (b : Nat) : Up (putT T lv x b) := by
 show Inc cmpK keyC (cellsT _)
 rw [put_cells hU h0]
 exact add_inc cmpK_cmp joinC_key x _ hU
theorem put_his {T : List Tw} (h0 : 0 < T.length) (lv : List Int) (x : Cl) (b : Nat) : (hasT T x.f0 → hisT (putT T lv x b) = hisT T) ∧ (¬ hasT T x.f0 → hisT (putT T lv x b) = (hisT T).take (Sk.below T x.f0) ++ htv lv (T.length - 1) :: (hisT T).drop (Sk.below T x.f0)) := by
 have hm : Sk.below T x.f0 < T.length := by have := below_le T x.f0; omega
 unfold putT
 refine ⟨fun hh => ?_, fun hh => ?_⟩
 ·
  rw [if_pos hh, setT_his _ (Nat.succ_pos _) hh.1]
 ·
  rw [if_neg hh, ins_his _ hm]
  have := htv_bd lv (T.length - 1)
  show (hisT T).take _ ++ (((htv lv (T.length - 1)).toNat : Nat) : Int) :: _ = _
  rw [show (((htv lv (T.length - 1)).toNat : Nat) : Int) = htv lv (T.length - 1) by omega]
theorem own_ins {l : Nat} {T : List Tw} {A : Option Addr} {m : Nat} {t : Tw} (hm : m < T.length) {k : Nat} (h : Own l (ins T m t) A k) : Own l T A k ∨ k = t.b := by
 rcases h with h | ⟨q, hq, h⟩ | h
 ·
  exact .inl (.inl h)
 ·
  rw [ins_len hm] at hq
  by_cases h1 : q ≤ m
  ·
   rw [ins_lo hm h1] at h; exact .inl (.inr (.inl ⟨q, by omega, h⟩))
  ·
   by_cases h2 : q = m + 1
   ·
    subst h2; rw [ins_at hm] at h; exact .inr h.symm
   ·
    obtain ⟨r, rfl⟩ : ∃ r, q = r + 1 := ⟨q - 1, by omega⟩
    rw [ins_hi hm (by omega)] at h; exact .inl (.inr (.inl ⟨r, by omega, h⟩))
 ·
  exact .inl (.inr (.inr h))
theorem SL.of_ins {W w : World} {base l : Nat} {T : List Tw} {A : Option Addr} {c : Nat} {lv : List Int} {m n : Nat} {x : Cl} {b h : Nat} (H : SL w base l T A c lv) (hM : Mem W (ins T m ⟨b, x, h⟩)) (hU : Up (ins T m ⟨b, x, h⟩)) (hm : m < T.length) (hn : T.length - 1 = n)
  (hbx : W.heap[l]? = some (.cells #[.pointer (some ⟨(tg T 0).b, 0, none⟩), .slice A lv.length c, .int .i64 (n : Int)] 67 (0, 0))) (hlv : Kd.R (Kd.int .i64) 3 W base (fun _ => True) (.slice A lv.length c) lv) (hb : base ≤ b) :
  SL (W.setCell ⟨l, 2, none⟩ (.int .i64 ((n : Int) + 1))) base l (ins T m ⟨b, x, h⟩) A c lv := by
 have hil := ins_len (t := ⟨b, x, h⟩) hm
 have hlen := H.mem.len
 refine ⟨?_, hM.keep fun p hp => ?_, hU, lv_set hlv hbx (by decide) _ _, H.hb, fun p hp => ?_⟩
 ·
  refine blk_put hbx 2 _ ?_
  rw [ins_lo hm (Nat.zero_le _), hil, show T.length + 1 - 1 = n + 1 by omega]
  rfl
 ·
  exact Below.heap_setCell W ⟨l, 2, none⟩ _ _ (fun e => blk_ne (hM.blk p hp) hbx (by decide) e)
 ·
  have := own_ins hm (k := (tg (ins T m ⟨b, x, h⟩) p).b) (l := l) (A := none) (.inr (.inl ⟨p, hp, rfl⟩))
  rcases this with (h1 | ⟨q, hq, h1⟩ | ⟨a, h1, -⟩) | h1
  ·
   rw [h1]; exact H.hb
  ·
   rw [← h1]; exact H.tb q hq
  ·
   cases h1
  ·
   rw [h1]; exact hb
end Go.Proofs.Ytlffkbcaphhldaa.Sk
