/- Lemmas for this claim's walk: no condition of their own. -/
import Derived.Test.YtafhnjlihhfoaaaUbWApart
import Derived.Test.YtafhnjlihhfoaaaUbJ11
import Derived.Test.YtafhnjlihhfoaaaUbWWords
import Derived.Test.YtafhnjlihhfoaaaUbWLast
import Derived.Test.YtafhnjlihhfoaaaProg
import Derived.Lib.Hide
import Derived.Outline
import Derived.StillTailTactics
import Derived.WalkMore
import Derived.RegionTactic
import Derived.BigRegion
import Derived.Deep.QuietTactic
import Derived.BigQuiet
import Derived.Deep.MidRow
import Derived.WalkLawsBesides
import Derived.WalkSpells
import Derived.Deep.DeepFit
import Derived.Deep.DeepCutAuto
namespace Go.Proofs.YtafhnjlihhfoaaaW.PrintWords
open Go.RowKit
namespace Kd
structure Heap {α : Type} (d : Kd α) : Prop where
 K : ∀ {w w1 : World} {x : α} {cs : List Value}, (∀ k, k < w.heap.size → w1.heap[k]? = w.heap[k]?) → d.K w x cs → d.K w1 x cs
theorem cell_heap {w w1 : World} (hb : ∀ k, k < w.heap.size → w1.heap[k]? = w.heap[k]?) {a : Addr} {v : Value} (h : w.cell? a = some v) : w1.cell? a = some v := by
 have := hb a.block (World.block_lt_of_cell? w a h)
 simpa [World.cell?, this] using h
theorem Heap.C {α : Type} {d : Kd α} (hd : Heap d) {w w1 : World} {A : Option Addr} {n : Nat} {xs : List α} (hb : ∀ k, k < w.heap.size → w1.heap[k]? = w.heap[k]?) (h : d.C w A n xs) : d.C w1 A n xs :=
 ⟨h.1, h.2.1, fun hn => by
  obtain ⟨ad, e, hc⟩ := h.2.2 hn
  refine ⟨ad, e, fun j p hj => ?_⟩
  obtain ⟨c, hs, hr, hcell⟩ := hc j p hj
  exact ⟨c, hs, hd.K hb hr, fun i u hu => cell_heap hb (hcell i u hu)⟩⟩
section
variable {α : Type} {d : Kd α} {e base g n c : Nat} {ok : Nat → Prop} {w w0 W : World} {A : Option Addr} {xs : List α}
end
end Kd
end Go.Proofs.YtafhnjlihhfoaaaW.PrintWords
namespace Go.Proofs.YtafhnjlihhfoaaaW.PrintWords
open Go.RowKit
def Kept (w W : World) (S : Nat → Prop) : Prop := w.heap.size ≤ W.heap.size ∧ ∀ i, i < w.heap.size → ¬ S i → W.heap[i]? = w.heap[i]?
section
variable {w W W2 : World} {S S2 S' : Nat → Prop}
theorem Kept.refl (w : World) (S : Nat → Prop) : Kept w w S := ⟨Nat.le_refl _, fun _ _ _ => rfl⟩
theorem Kept.of_below (h : Below w.heap.size w W) (S : Nat → Prop) : Kept w W S := ⟨h.size, fun i hi _ => h.block i hi⟩
theorem Kept.then_ (h : Kept w W S) (k : Kept W W2 S2) (hs : ∀ k, S2 k → S k ∨ w.heap.size ≤ k) : Kept w W2 S :=
 ⟨Nat.le_trans h.1 k.1, fun i hi hn => (k.2 i (Nat.lt_of_lt_of_le hi h.1) (fun h2 => (hs i h2).elim hn (fun h3 => by omega))).trans (h.2 i hi hn)⟩
theorem Kept.of_grown {row : Option Nat} (hg : W.grownBy W2 row) (h : Kept w W S) (hr : ∀ k, row = some k → S k ∨ w.heap.size ≤ k) : Kept w W2 S :=
 h.then_ (S2 := fun k => row = some k) ⟨hg.size, fun i hi hn => hg.block i hi (fun he => hn he.symm)⟩ hr
theorem Kept.below (h : Kept w W S) (hb : Below W.heap.size W W2) : Kept w W2 S := h.then_ (Kept.of_below hb (fun _ => False)) (fun _ hk => hk.elim)
theorem Kept.alloc (h : Kept w W S) (o : Obj) : Kept w (W.alloc o) S := h.below (below_alloc (Below.refl _ _) o)
theorem Kept.drew (h : Kept w W S) : Kept w W.drew S := h
theorem Kept.drewN (h : Kept w W S) (m : Nat) : Kept w (W.drewN m) S := h
theorem Kept.setCell (h : Kept w W S) {p : Addr} (hp : S p.block ∨ w.heap.size ≤ p.block) (u : Value) : Kept w (W.setCell p u) S :=
 h.then_ (S2 := fun k => k = p.block) ⟨by simp [World.setCell], fun i _ hn => Below.heap_setCell W p u i hn⟩ (fun k hk => by rw [hk]; exact hp)
theorem Kept.keep {g : Nat} (h : KeepBut w W g none) (k : Kept W W2 S2) (hs : ∀ k, S2 k → w.heap.size ≤ k) : KeepBut w W2 g none :=
 ⟨Nat.le_trans h.1 k.1, fun i hi hg hr => (k.2 i (Nat.lt_of_lt_of_le hi h.1) (fun h2 => by have := hs i h2; omega)).trans (h.2 i hi hg hr)⟩
theorem blk_kept {g : Nat} {o : Obj} (hb : W.heap[g]? = some o) (hk : Kept W W2 S) (hne : ¬ S g) : W2.heap[g]? = some o := (hk.2 g (blk_lt hb) hne).trans hb
end
namespace Kd
section
variable {α : Type} {d : Kd α} {e base n c : Nat} {ok oki S S2 : Nat → Prop} {w w0 W W1 W2 : World} {v : Value} {A : Option Addr} {xs : List α} {i : Int} {cs : List Value}
end
end Kd
end Go.Proofs.YtafhnjlihhfoaaaW.PrintWords
namespace Go.Proofs.YtafhnjlihhfoaaaW.PrintWords
open Go.RowKit
def Foot (P : World → Prop) (W : World) (ok : Nat → Prop) : Prop := ∀ W' : World, (∀ k, ok k → k < W.heap.size → W'.heap[k]? = W.heap[k]?) → P W'
theorem heap_lt {W W1 : World} {k : Nat} (h : W1.heap[k]? = W.heap[k]?) (hlt : k < W.heap.size) : k < W1.heap.size := by
 rw [Array.getElem?_eq_getElem hlt] at h
 exact (Array.getElem?_eq_some_iff.1 h).1
namespace Foot
variable {P Q : World → Prop} {W W1 : World} {ok ok' : Nat → Prop}
theorem mono (h : Foot P W ok) (hok : ∀ k, ok k → ok' k) : Foot P W ok' := fun W' hW => h W' (fun k hk hlt => hW k (hok k hk) hlt)
theorem step (h : Foot P W ok) (hm : ∀ k, ok k → k < W.heap.size → W1.heap[k]? = W.heap[k]?) : Foot P W1 ok := fun W' hW => h W' (fun k hk hlt => (hW k hk (heap_lt (hm k hk hlt) hlt)).trans (hm k hk hlt))
theorem imp (h : Foot P W ok) (hi : ∀ W', P W' → Q W') : Foot Q W ok := fun W' hW => hi W' (h W' hW)
end Foot
namespace Kd
def F {α : Type} (d : Kd α) (W : World) (ok : Nat → Prop) (A : Option Addr) (n : Nat) (xs : List α) : Prop := Foot (fun W => d.C W A n xs) W ok
def FK {α : Type} (d : Kd α) (W : World) (ok : Nat → Prop) (x : α) (c : List Value) : Prop := Foot (fun W => d.K W x c) W ok
section
variable {α β : Type} {d : Kd α} {e base n n' cc g N : Nat} {ok ok' okp S : Nat → Prop} {w w0 w1 W W1 : World} {A A' : Option Addr} {u v v1 : Value} {xs : List α} {xs' : List β} {d' : Kd β} {x : α} {c : List Value}
theorem F_nil (d : Kd α) (W : World) (ok : Nat → Prop) : F d W ok none ([] : List α).length [] := fun W' _ => C_nil d W'
theorem FK_of_M (h : d.M W base ok x c) : FK d W ok x c := fun _ hW => d.K_of_M (M_step h hW)
end
end Kd
end Go.Proofs.YtafhnjlihhfoaaaW.PrintWords
namespace Go.Proofs.YtafhnjlihhfoaaaW.PrintWords
open Go.RowKit
namespace Kd
def chunks (sz : Nat) (n : Nat) (inner : List Value) : List (List Value) := (List.range n).map fun j => (inner.drop (j * sz)).take sz
theorem chunks_length (sz n : Nat) (inner : List Value) : (chunks sz n inner).length = n := by simp [chunks]
theorem chunks_at {sz n : Nat} {inner : List Value} {j : Nat} (hj : j < n) : (chunks sz n inner)[j]? = some ((inner.drop (j * sz)).take sz) := by simp [chunks, hj]
theorem chunks_get {sz n : Nat} {inner : List Value} {j : Nat} {c : List Value} (h : (chunks sz n inner)[j]? = some c) : c = (inner.drop (j * sz)).take sz := by
 have hj : j < n := by have := (List.getElem?_eq_some_iff.1 h).1; rwa [chunks_length] at this
 rw [chunks_at hj] at h
 injection h with h
 exact h.symm
theorem reps_raw {α : Type} {Rr : α → List Value → Prop} {sz : Nat} {xs : List α} {inner : List Value} (h : Reps Rr sz xs inner) (hR : ∀ x c, Rr x c → c.length = sz ∧ ∀ u ∈ c, u.oneCell' = true) : Reps (fun x cs => cs = x ∧ cs.length = sz ∧ ∀ u ∈ cs, u.oneCell' = true) sz (chunks sz xs.length inner) inner := by
 refine ⟨by rw [chunks_length]; exact h.1, fun j p hj => ?_⟩
 have hjl : j < xs.length := by have := (List.getElem?_eq_some_iff.1 hj).1; rwa [chunks_length] at this
 have hp := chunks_get hj
 exact ⟨hp.symm, hR _ _ (h.2 j _ (List.getElem?_eq_getElem hjl))⟩
section
variable {α : Type} {d : Kd α} {e base n cc g : Nat} {ok ok' okp S : Nat → Prop} {w w1 W W1 : World} {A : Option Addr} {u v v1 : Value} {xs : List α} {x : α} {c : List Value}
def N {α : Type} (d : Kd α) (e : Nat) (w : World) (base : Nat) (ok : Nat → Prop) (v : Value) (xs : List α) : Prop :=
 (∀ k, v.ownBlock = some k → ok k) ∧ ∃ rows : List (List Value), rows.length = xs.length ∧ (raw d.sz).R e w base (fun k => some k = v.ownBlock) v rows ∧ ∀ (j : Nat) (x : α) (c : List Value), xs[j]? = some x → rows[j]? = some c → FK d w (fun k => ok k ∧ some k ≠ v.ownBlock) x c
theorem R_N (h : d.R e w base ok v xs) : N d e w base ok v xs := by
 obtain ⟨h0, inner, ho, hr⟩ := h
 refine ⟨h0, chunks d.sz xs.length inner, chunks_length _ _ _, ⟨fun k hk => hk.symm, inner, by rw [chunks_length]; exact ho, reps_raw hr (fun x c hp => ⟨d.K_len (d.K_of_M hp), d.K_one (d.K_of_M hp)⟩)⟩, fun j x c hx hc => ?_⟩
 rw [chunks_get hc]
 exact FK_of_M (hr.2 j x hx)
theorem N_nil (d : Kd α) (e : Nat) (w : World) (base : Nat) (ok : Nat → Prop) : N d e w base ok (.slice none 0 0) [] := R_N (R_nil _ _ _ _ _)
end
end Kd
end Go.Proofs.YtafhnjlihhfoaaaW.PrintWords
namespace Go.Proofs.YtafhnjlihhfoaaaW.PrintWords
open Go.RowKit
section
variable {w w' u : World} {m B g : Nat} {o : Obj} {row : Option Nat} {S : Nat → Prop} {a : Addr} {v : Value}
theorem below_at (hq : w.drewN m = w') (h : Below B u w) : Below B u w' := by subst hq; exact pw_below_drewN h m
end
namespace Kd
section
variable {α : Type} {d : Kd α} {e base n m : Nat} {ok : Nat → Prop} {w w' : World} {v : Value} {A : Option Addr} {xs : List α}
theorem R_at (hq : w.drewN m = w') (h : d.R e w base ok v xs) : d.R e w' base ok v xs := by subst hq; exact R_drewN h m
end
end Kd
end Go.Proofs.YtafhnjlihhfoaaaW.PrintWords
namespace Go.Proofs.YtafhnjlihhfoaaaW.PrintMore
open Go.RowKit Go.Proofs.YtafhnjlihhfoaaaW.PrintWords
namespace Kd
open Go.Proofs.YtafhnjlihhfoaaaW.PrintWords.Kd
end Kd
namespace Kd
open Go.Proofs.YtafhnjlihhfoaaaW.PrintWords.Kd
section
variable {α : Type} {d : Kd α} {e base g N : Nat} {ok : Nat → Prop} {W w1 : World} {u v : Value} {xs : List α}
end
end Kd
theorem max2_int (k k' : IntKind) (x y : Int) : Builtin.max2 (.int k x) (.int k' y) = pure (.int k (if x < y then y else x)) := by simp only [Builtin.max2, gt_iff_lt]
theorem min2_int (k k' : IntKind) (x y : Int) : Builtin.min2 (.int k x) (.int k' y) = pure (.int k (if y < x then y else x)) := by simp only [Builtin.min2]
theorem max_two (ats : Array TypeId) (ty : TypeId) (a b : Value) : Builtin.max_ ats ty #[a, b] = (Builtin.max2 a b >>= fun s => pure s) := by simp only [Builtin.max_, List.foldlM_cons, List.foldlM_nil]
theorem min_two (ats : Array TypeId) (ty : TypeId) (a b : Value) : Builtin.min_ ats ty #[a, b] = (Builtin.min2 a b >>= fun s => pure s) := by simp only [Builtin.min_, List.foldlM_cons, List.foldlM_nil]
theorem max_three (ats : Array TypeId) (ty : TypeId) (a b c : Value) : Builtin.max_ ats ty #[a, b, c] = (Builtin.max2 a b >>= fun s => Builtin.max2 s c >>= fun s => pure s) := by simp only [Builtin.max_, List.foldlM_cons, List.foldlM_nil]
theorem min_three (ats : Array TypeId) (ty : TypeId) (a b c : Value) : Builtin.min_ ats ty #[a, b, c] = (Builtin.min2 a b >>= fun s => Builtin.min2 s c >>= fun s => pure s) := by simp only [Builtin.min_, List.foldlM_cons, List.foldlM_nil]
theorem max_four (ats : Array TypeId) (ty : TypeId) (a b c d : Value) : Builtin.max_ ats ty #[a, b, c, d] = (Builtin.max2 a b >>= fun s => Builtin.max2 s c >>= fun s => Builtin.max2 s d >>= fun s => pure s) := by simp only [Builtin.max_, List.foldlM_cons, List.foldlM_nil]
theorem min_four (ats : Array TypeId) (ty : TypeId) (a b c d : Value) : Builtin.min_ ats ty #[a, b, c, d] = (Builtin.min2 a b >>= fun s => Builtin.min2 s c >>= fun s => Builtin.min2 s d >>= fun s => pure s) := by simp only [Builtin.min_, List.foldlM_cons, List.foldlM_nil]
end Go.Proofs.YtafhnjlihhfoaaaW.PrintMore
namespace Go.Proofs.YtafhnjlihhfoaaaW.PrintWords
open Go.RowKit
section
variable {P : Program} {ops : Array Oper} {rest : List Oper} {o : Oper} {a : Act} {Q : Exit → Act → World → Prop} {W : World}
theorem gate_callee {f : FuncId} {as_ : Array Operand} {ts : Array TypeId} (_ho : o.op = .call { callee := .value (.func f), args := as_, argTypes := ts }) (h : wpList P ops Q (o :: rest) a W) : wpList P ops Q (o :: rest) a W := h
theorem gate_builtin {b : Builtin} {xs : Array Operand} {ts : Array TypeId} (_ho : o.op = .call { callee := .builtin b, args := xs, argTypes := ts }) (h : wpList P ops Q (o :: rest) a W) : wpList P ops Q (o :: rest) a W := h
end
theorem calls_of_args {P : Program} {f : FuncId} {args args' : Array Value} {w : World} {Q : Ending → World → Prop} (h : args = args') (hc : Calls P f args' w Q) : Calls P f args w Q := h ▸ hc
def mx (a b : Int) : Int := if a < b then b else a
def mn (a b : Int) : Int := if b < a then b else a
def shl (k : IntKind) (x y : Int) : Int := k.wrap (x * 2 ^ min y.toNat k.bits)
def shr (k : IntKind) (x y : Int) : Int := x / 2 ^ min y.toNat k.bits
theorem shl_small {k : IntKind} {x y j : Int} (h : shl k x y = j) (hy : y ≤ k.bits) : k.wrap (x * 2 ^ y.toNat) = j := by rw [← h]; unfold shl; rw [Nat.min_eq_left (by omega)]
theorem shr_small {k : IntKind} {x y j : Int} (h : shr k x y = j) (hy : y ≤ k.bits) : x / 2 ^ y.toNat = j := by rw [← h]; unfold shr; rw [Nat.min_eq_left (by omega)]
theorem drewN_self (w : World) (n : Nat) : w.drewN n = w.drewN n := rfl
theorem cell_unalloc {W : World} {o : Obj} {a : Addr} {v : Value} (h : (W.alloc o).cell? a = some v) (hlt : a.block < W.heap.size) : W.cell? a = some v := (World.cell?_alloc_lt _ _ _ hlt).symm.trans h
theorem cell_grown {W w1 : World} {row : Option Nat} (hg : W.grownBy w1 row) {a : Addr} {v : Value} (h : W.cell? a = some v) (hne : some a.block ≠ row) : w1.cell? a = some v := by
 have := hg.block a.block (World.block_lt_of_cell? W a h) hne
 simpa [World.cell?, this] using h
namespace Kd
section
variable {α : Type} {d : Kd α} {e base : Nat} {ok : Nat → Prop} {W w1 : World} {v : Value} {xs : List α}
theorem R_grown2 (h : d.R e W base ok v xs) (hE : d.E = []) {row : Option Nat} (hg : W.grownBy w1 row) (hne : ∀ k, row = some k → some k ≠ v.ownBlock) : d.R e w1 base ok v xs :=
 R_mono (R_grown (R_tight hE h) hg (fun k hk e_ => hne k e_.symm hk)) (fun k hk => h.1 k hk.symm)
end
section
variable {α : Type} {d : Kd α} {e base g n cap : Nat} {ok oki okp : Nat → Prop} {W : World} {xs : List α} {i : Int} {c : List Value}
theorem H_at (h : H d e W base ok (.slice (some ⟨g, 0, none⟩) n cap) xs i oki c) (h0 : 0 ≤ i) (h1 : i < n) : (∀ j u, c[j]? = some u → W.cell? ⟨g, i.toNat * d.sz + j, none⟩ = some u) ∧ ∀ j, W.frozen? ⟨g, i.toNat * d.sz + j, none⟩ = false := by
 obtain ⟨rows, _, hraw, _, _, hcc, _⟩ := H_raw h h0 h1
 obtain ⟨_, _, _, _, hfr⟩ := R_elem hraw [] i h0 h1
 exact ⟨hcc, hfr⟩
theorem S_seg0 (hH : H d e W base ok (.slice (some ⟨g, 0, none⟩) n cap) xs i oki c) (h0 : 0 ≤ i) (h1 : i < n) {seg : List Value} {j : Nat} (hj : j + seg.length ≤ d.sz)
  {x' : α} (hM : d.M W base okp x' (c.take j ++ seg ++ c.drop (j + seg.length))) (hokp : ∀ k, okp k → oki k) :
  S d e (W.setCells g (i.toNat * d.sz + j) seg) base ok (.slice (some ⟨g, 0, none⟩) n cap) (xs.set i.toNat x') ∧ W.grownBy (W.setCells g (i.toNat * d.sz + j) seg) (some g) :=
 S_seg (okg := fun _ => False) (H_mono hH (fun _ hk => ⟨hk, fun h => h⟩)) h0 h1 hj hM (fun k hk => .inl (hokp k hk)) (fun _ hk => hk.elim)
end
section
variable {α : Type} {d : Kd α} {e base b b' g N : Nat} {ok ok1 : Nat → Prop} {W W2 w1 : World} {u v : Value} {xs ys : List α} {S : Nat → Prop}
theorem R_reok (hE : d.E = []) (h : d.R e W base ok1 v xs) (hok : ∀ k, v.ownBlock = some k → ok k) : d.R e W base ok v xs := R_mono (R_tight hE h) (fun k hk => hok k hk.symm)
end
end Kd
end Go.Proofs.YtafhnjlihhfoaaaW.PrintWords
namespace Go.Proofs.YtafhnjlihhfoaaaW.PrintWords
open Go.RowKit
namespace Kd
def V {α : Type} (d : Kd α) (_e : Nat) (W : World) (_base : Nat) (ok : Nat → Prop) (v : Value) (xs : List α) : Prop := ∃ A c, v = .slice A xs.length c ∧ xs.length ≤ c ∧ F d W ok A xs.length xs
section
variable {α β : Type} {d : Kd α} {e base base' n m c g N' lo hi : Nat} {ok ok' S : Nat → Prop} {w W w1 : World} {A : Option Addr} {ad : Addr} {u v v1 : Value} {xs : List α}
theorem V_nil (d : Kd α) (e : Nat) (W : World) (base : Nat) (ok : Nat → Prop) : V d e W base ok (.slice none 0 0) [] := ⟨none, 0, rfl, Nat.le_refl _, F_nil d W ok⟩
end
end Kd
end Go.Proofs.YtafhnjlihhfoaaaW.PrintWords
namespace Go.Proofs.Ytafhnjlihhfoaaa.Srt
open Go Go.RowKit Go.Lib Go.Proofs Go.Proofs.YtafhnjlihhfoaaaW.PrintWords
set_option linter.unusedVariables false
set_option linter.unusedSimpArgs false
set_option maxHeartbeats 2000000 in
theorem index_int (A : Option Addr) (c : Nat) (l : List Int) (x : Int) (w : World) (hC : (Kd.int .i64).C w A l.length l) :
  Calls Try.prog 63 #[.slice A l.length c, .int .i64 x] w fun e w' => w' = w ∧ ∃ r : Int, e = .returned (.int .i64 r) ∧ (0 ≤ r ↔ x ∈ l) := by
 have HC := Lib.hid hC
 have hm := hC.2.1
 clear hC
 go_enter Try.func63, Try.ntmps63
 go_wp2
 go_loopg [8] l.length (fun g1 vi wr => ∃ i : Nat, vi = .int .i64 i ∧ i ≤ l.length ∧ l.length - i ≤ g1 ∧ wr = w ∧ RowKit.Hid (∀ j, j < i → l[j]? ≠ some x))
 case atStart => exact ⟨0, rfl, Nat.zero_le _, by omega, rfl, Lib.hid (fun j hj => absurd hj (Nat.not_lt_zero _))⟩
 case round =>
  obtain ⟨i, rfl, hi, hg, rfl, HN⟩ := hrel
  by_cases h : i < l.length
  ·
   have hz : (i : Int) < (l.length : Int) := by omega
   obtain ⟨ad, e1, hcell⟩ := HC.out.2.2 (by omega)
   subst e1
   obtain ⟨cs, hc1, hc2, hc3⟩ := hcell i l[i] (List.getElem?_eq_getElem h)
   obtain rfl : cs = [.int .i64 l[i]] := hc2
   have hv := hc3 0 _ rfl
   rw [show i * (Kd.int .i64).sz + 0 = i from Nat.mul_one i] at hv
   obtain ⟨y, hy⟩ : ∃ y, l[i] = y := ⟨_, rfl⟩
   rw [hy] at hv
   have HY := Lib.hid hy
   clear hc3 hcell hy hc1
   by_cases hxy : x = y
   ·
    have HE := Lib.hid hxy
    subst hxy
    go_wp2
    go_ret
    exact ⟨rfl, i, rfl, ⟨fun _ => HY.out ▸ List.getElem_mem h, fun _ => Int.natCast_nonneg _⟩⟩
   ·
    have HE := Lib.hid hxy
    go_wp2
    go_roundg (l.length - (i + 1))
    case measure => omega
    case rel => exact ⟨i + 1, by go_num, by omega, Nat.le_refl _, rfl, Lib.hid (fun j hj => by
     by_cases e : j = i
     ·
      subst e
      rw [List.getElem?_eq_getElem h, HY.out]
      intro e2
      exact HE.out (Option.some.inj e2).symm
     ·
      exact HN.out j (by omega))⟩
  ·
   have hz : ¬ (i : Int) < (l.length : Int) := by omega
   go_wp2
   go_ret
   refine ⟨rfl, -1, rfl, ⟨fun h => absurd h (by decide), fun hx => ?_⟩⟩
   obtain ⟨j, hj⟩ := List.mem_iff_getElem?.1 hx
   exact absurd hj (HN.out j (by have := (List.getElem?_eq_some_iff.1 hj).1; omega))
theorem contains_int (A : Option Addr) (c : Nat) (l : List Int) (x : Int) (w : World) (hC : (Kd.int .i64).C w A l.length l) :
  Calls Try.prog 39 #[.slice A l.length c, .int .i64 x] w fun e w' => w' = w ∧ e = .returned (.bool (l.contains x)) := by
 have HI := Lib.hid (index_int A c l x w hC)
 clear hC
 go_enter Try.func39, Try.ntmps39
 go_wp2_with (go_at_call 63; refine HI.out.mono ?_; rintro e w1 ⟨rfl, r, rfl, hr⟩)
 go_ret
 refine ⟨rfl, ?_⟩
 by_cases h : 0 ≤ r
 ·
  have h2 : x ∈ l := hr.1 h
  simp [h, h2]
 ·
  have h2 : x ∉ l := fun h3 => h (hr.2 h3)
  simp [h, h2]
end Go.Proofs.Ytafhnjlihhfoaaa.Srt
namespace Go.Proofs.YtafhnjlihhfoaaaW.PrintWords
open Go Go.RowKit
/-- W has come of w0 by draws and new blocks. -/
class GW (w0 W : World) : Prop where
 out : Below w0.heap.size w0 W
instance GW.refl (w : World) : GW w w := ⟨Below.refl _ _⟩
instance GW.drew {w0 W : World} [h : GW w0 W] : GW w0 W.drew := ⟨below_drew h.out⟩
instance GW.drewN {w0 W : World} [h : GW w0 W] (n : Nat) : GW w0 (W.drewN n) := ⟨pw_below_drewN h.out n⟩
instance GW.alloc {w0 W : World} [h : GW w0 W] (o : Obj) : GW w0 (W.alloc o) := ⟨below_alloc h.out o⟩
theorem kbW {w0 W : World} {g : Nat} {o : Obj} (h : Aside0 (w0.heap[g]? = some o)) [G : GW w0 W] : W.heap[g]? = some o := blk_below h.out G.out
theorem kB {w0 W w1 : World} {g : Nat} {o : Obj} (h : Aside0 (w0.heap[g]? = some o)) (hb : Below W.heap.size W w1) [G : GW w0 W] : Aside0 (w1.heap[g]? = some o) := ⟨blk_below (blk_below h.out G.out) hb⟩
theorem kBf {w0 W w1 : World} {g : Nat} {o : Obj} (h : Aside0 (w0.heap[g]? = some o)) (f : w0.heap[g]? = some o → W.heap[g]? = some o) (hb : Below W.heap.size W w1) : Aside0 (w1.heap[g]? = some o) := ⟨blk_below (f h.out) hb⟩
theorem kwW {w wr W : World} (h : Aside0 (Below w.heap.size w wr)) [G : GW wr W] : Below w.heap.size w W := below_step h.out G.out
theorem bA_ {w W : World} (h : Below w.heap.size w W) (o : Obj) : Below w.heap.size w (W.alloc o) := below_alloc h o
theorem bN_ {B : Nat} {w W : World} (h : Below B w W) (n : Nat) : Below B w (W.drewN n) := pw_below_drewN h n
theorem bD_ {base : Nat} {w W : World} (h : Below base w W) : Below base w W.drew := h.drew
theorem bS_ {w W : World} {g j : Nat} {v : Value} (h : Below w.heap.size w W) (hg : Aside0 (w.heap.size ≤ g)) : Below w.heap.size w (W.setCell ⟨g, j, none⟩ v) := below_set h hg.out
theorem bZ_ {w W : World} (h : Below w.heap.size w W) : w.heap.size ≤ W.heap.size := h.size
theorem cf_ {w : World} {g g' o j : Nat} {u : Value} {x : Option Value} (h : Aside0 (g ≠ g')) (hc : w.cell? ⟨g, o, none⟩ = x) : (w.setCell ⟨g', j, none⟩ u).cell? ⟨g, o, none⟩ = x := (cell_far (p := ⟨g', j, none⟩) h.out _).trans hc
theorem mT_ {α β : Type} {f : α → β} {l : List α} : l.toArray.map f = (l.map f).toArray := List.map_toArray ..
theorem mC_ {α β : Type} {f : α → β} {a : α} {l : List α} : (a :: l).map f = f a :: l.map f := rfl
theorem mN_ {α β : Type} {f : α → β} : ([] : List α).map f = [] := rfl
theorem sT_ {α : Type} {l : List α} {i : Nat} {a : α} : l.toArray.setIfInBounds i a = (l.set i a).toArray := List.setIfInBounds_toArray ..
theorem sO_ {α : Type} {x : α} {xs : List α} {a : α} : (x :: xs).set 0 a = a :: xs := List.set_cons_zero
theorem sN_ {α : Type} {x : α} {xs : List α} {i : Nat} {a : α} : (x :: xs).set (i + 1) a = x :: xs.set i a := List.set_cons_succ
theorem cB_ {w wr : World} {a : Addr} {v : Value} (h : Aside0 (Below w.heap.size w wr)) (hx : w.cell? a = some v) : wr.cell? a = some v := (h.out.cell (World.block_lt_of_cell? w _ hx)).trans hx
abbrev tf_ (a b : Nat) : Array Bool := ⟨List.replicate a true ++ List.replicate b false⟩
def tb_ (n m : Nat) : Array Bool := ⟨(List.range m).map fun i => n.testBit i⟩
section
variable {α : Type} {d : Kd α} {e : TypeId} {base : Nat} {ok : Nat → Prop} {v : Value} {xs : List α}
theorem krW {w0 W : World} (h : Aside0 (d.R e w0 base ok v xs)) [G : GW w0 W] : d.R e W base ok v xs := Kd.R_below h.out G.out
theorem kR {w0 W w1 : World} (h : Aside0 (d.R e w0 base ok v xs)) (hb : Below W.heap.size W w1) [G : GW w0 W] : Aside0 (d.R e w1 base ok v xs) := ⟨Kd.R_below (Kd.R_below h.out G.out) hb⟩
theorem rf10 {w : World} {g o0 o1 o2 o3 o4 o5 o6 o7 o8 o9 : Nat} {u0 u1 u2 u3 u4 u5 u6 u7 u8 u9 : Value} (h : d.R e w base ok v xs) (hok : ∀ k, ok k → k ≠ g) : d.R e ((((((((((w.setCell ⟨g, o0, none⟩ u0).setCell ⟨g, o1, none⟩ u1).setCell ⟨g, o2, none⟩ u2).setCell ⟨g, o3, none⟩ u3).setCell ⟨g, o4, none⟩ u4).setCell ⟨g, o5, none⟩ u5).setCell ⟨g, o6, none⟩ u6).setCell ⟨g, o7, none⟩ u7).setCell ⟨g, o8, none⟩ u8).setCell ⟨g, o9, none⟩ u9) base ok v xs := (Kd.R_far (p := ⟨g, o9, none⟩) (Kd.R_far (p := ⟨g, o8, none⟩) (Kd.R_far (p := ⟨g, o7, none⟩) (Kd.R_far (p := ⟨g, o6, none⟩) (Kd.R_far (p := ⟨g, o5, none⟩) (Kd.R_far (p := ⟨g, o4, none⟩) (Kd.R_far (p := ⟨g, o3, none⟩) (Kd.R_far (p := ⟨g, o2, none⟩) (Kd.R_far (p := ⟨g, o1, none⟩) (Kd.R_far (p := ⟨g, o0, none⟩) h hok u0) hok u1) hok u2) hok u3) hok u4) hok u5) hok u6) hok u7) hok u8) hok u9)
end
theorem cz4 {w : World} {g : Nat} {t : TypeId} {a0 a1 a2 a3 : Value} (h : Aside0 (w.heap[g]? = some (.cells #[a0, a1, a2, a3] t (0, 0)))) : w.cell? ⟨g, 0, none⟩ = some a0 ∧ w.cell? ⟨g, 1, none⟩ = some a1 ∧ w.cell? ⟨g, 2, none⟩ = some a2 ∧ w.cell? ⟨g, 3, none⟩ = some a3 := ⟨(blk_cell h.out 0).trans rfl, (blk_cell h.out 1).trans rfl, (blk_cell h.out 2).trans rfl, (blk_cell h.out 3).trans rfl⟩
theorem czf4 {w : World} {g : Nat} {t : TypeId} {a0 a1 a2 a3 : Value} (h : Aside0 (w.heap[g]? = some (.cells #[a0, a1, a2, a3] t (0, 0)))) : w.cell? ⟨g, 0, none⟩ = some a0 ∧ w.cell? ⟨g, 1, none⟩ = some a1 ∧ w.cell? ⟨g, 2, none⟩ = some a2 ∧ w.cell? ⟨g, 3, none⟩ = some a3 ∧ w.frozen? ⟨g, 0, none⟩ = false ∧ w.frozen? ⟨g, 1, none⟩ = false ∧ w.frozen? ⟨g, 2, none⟩ = false ∧ w.frozen? ⟨g, 3, none⟩ = false := ⟨(blk_cell h.out 0).trans rfl, (blk_cell h.out 1).trans rfl, (blk_cell h.out 2).trans rfl, (blk_cell h.out 3).trans rfl, blk_frozen h.out 0, blk_frozen h.out 1, blk_frozen h.out 2, blk_frozen h.out 3⟩
theorem cd4 {w : World} {g : Nat} {t : TypeId} {a0 a1 a2 a3 : Value} (h : Aside0 (w.heap[g]? = some (.cells #[a0, a1, a2, a3] t (0, 0)))) : w.cell? ⟨g, 0, none⟩ = some a0 ∧ w.cell? ⟨g, 1, none⟩ = some a1 ∧ w.cell? ⟨g, 2, none⟩ = some a2 ∧ w.cell? ⟨g, 3, none⟩ = some a3 := cz4 h
theorem cc4 {w : World} {g : Nat} {t : TypeId} {a0 a1 a2 a3 : Value} (h : Aside0 (w.heap[g]? = some (.cells #[a0, a1, a2, a3] t (0, 0)))) {q : Prop} (hq : q) : w.cell? ⟨g, 0, none⟩ = some a0 ∧ w.cell? ⟨g, 1, none⟩ = some a1 ∧ w.cell? ⟨g, 2, none⟩ = some a2 ∧ w.cell? ⟨g, 3, none⟩ = some a3 ∧ q := ⟨(blk_cell h.out 0).trans rfl, (blk_cell h.out 1).trans rfl, (blk_cell h.out 2).trans rfl, (blk_cell h.out 3).trans rfl, hq⟩
theorem cz6 {w : World} {g : Nat} {t : TypeId} {a0 a1 a2 a3 a4 a5 : Value} (h : Aside0 (w.heap[g]? = some (.cells #[a0, a1, a2, a3, a4, a5] t (0, 0)))) : w.cell? ⟨g, 0, none⟩ = some a0 ∧ w.cell? ⟨g, 1, none⟩ = some a1 ∧ w.cell? ⟨g, 2, none⟩ = some a2 ∧ w.cell? ⟨g, 3, none⟩ = some a3 ∧ w.cell? ⟨g, 4, none⟩ = some a4 ∧ w.cell? ⟨g, 5, none⟩ = some a5 := ⟨(blk_cell h.out 0).trans rfl, (blk_cell h.out 1).trans rfl, (blk_cell h.out 2).trans rfl, (blk_cell h.out 3).trans rfl, (blk_cell h.out 4).trans rfl, (blk_cell h.out 5).trans rfl⟩
theorem czf6 {w : World} {g : Nat} {t : TypeId} {a0 a1 a2 a3 a4 a5 : Value} (h : Aside0 (w.heap[g]? = some (.cells #[a0, a1, a2, a3, a4, a5] t (0, 0)))) : w.cell? ⟨g, 0, none⟩ = some a0 ∧ w.cell? ⟨g, 1, none⟩ = some a1 ∧ w.cell? ⟨g, 2, none⟩ = some a2 ∧ w.cell? ⟨g, 3, none⟩ = some a3 ∧ w.cell? ⟨g, 4, none⟩ = some a4 ∧ w.cell? ⟨g, 5, none⟩ = some a5 ∧ w.frozen? ⟨g, 0, none⟩ = false ∧ w.frozen? ⟨g, 1, none⟩ = false ∧ w.frozen? ⟨g, 2, none⟩ = false ∧ w.frozen? ⟨g, 3, none⟩ = false ∧ w.frozen? ⟨g, 4, none⟩ = false ∧ w.frozen? ⟨g, 5, none⟩ = false := ⟨(blk_cell h.out 0).trans rfl, (blk_cell h.out 1).trans rfl, (blk_cell h.out 2).trans rfl, (blk_cell h.out 3).trans rfl, (blk_cell h.out 4).trans rfl, (blk_cell h.out 5).trans rfl, blk_frozen h.out 0, blk_frozen h.out 1, blk_frozen h.out 2, blk_frozen h.out 3, blk_frozen h.out 4, blk_frozen h.out 5⟩
theorem cz10 {w : World} {g : Nat} {t : TypeId} {a0 a1 a2 a3 a4 a5 a6 a7 a8 a9 : Value} (h : Aside0 (w.heap[g]? = some (.cells #[a0, a1, a2, a3, a4, a5, a6, a7, a8, a9] t (0, 0)))) : w.cell? ⟨g, 0, none⟩ = some a0 ∧ w.cell? ⟨g, 1, none⟩ = some a1 ∧ w.cell? ⟨g, 2, none⟩ = some a2 ∧ w.cell? ⟨g, 3, none⟩ = some a3 ∧ w.cell? ⟨g, 4, none⟩ = some a4 ∧ w.cell? ⟨g, 5, none⟩ = some a5 ∧ w.cell? ⟨g, 6, none⟩ = some a6 ∧ w.cell? ⟨g, 7, none⟩ = some a7 ∧ w.cell? ⟨g, 8, none⟩ = some a8 ∧ w.cell? ⟨g, 9, none⟩ = some a9 := ⟨(blk_cell h.out 0).trans rfl, (blk_cell h.out 1).trans rfl, (blk_cell h.out 2).trans rfl, (blk_cell h.out 3).trans rfl, (blk_cell h.out 4).trans rfl, (blk_cell h.out 5).trans rfl, (blk_cell h.out 6).trans rfl, (blk_cell h.out 7).trans rfl, (blk_cell h.out 8).trans rfl, (blk_cell h.out 9).trans rfl⟩
theorem czf10 {w : World} {g : Nat} {t : TypeId} {a0 a1 a2 a3 a4 a5 a6 a7 a8 a9 : Value} (h : Aside0 (w.heap[g]? = some (.cells #[a0, a1, a2, a3, a4, a5, a6, a7, a8, a9] t (0, 0)))) : w.cell? ⟨g, 0, none⟩ = some a0 ∧ w.cell? ⟨g, 1, none⟩ = some a1 ∧ w.cell? ⟨g, 2, none⟩ = some a2 ∧ w.cell? ⟨g, 3, none⟩ = some a3 ∧ w.cell? ⟨g, 4, none⟩ = some a4 ∧ w.cell? ⟨g, 5, none⟩ = some a5 ∧ w.cell? ⟨g, 6, none⟩ = some a6 ∧ w.cell? ⟨g, 7, none⟩ = some a7 ∧ w.cell? ⟨g, 8, none⟩ = some a8 ∧ w.cell? ⟨g, 9, none⟩ = some a9 ∧ w.frozen? ⟨g, 0, none⟩ = false ∧ w.frozen? ⟨g, 1, none⟩ = false ∧ w.frozen? ⟨g, 2, none⟩ = false ∧ w.frozen? ⟨g, 3, none⟩ = false ∧ w.frozen? ⟨g, 4, none⟩ = false ∧ w.frozen? ⟨g, 5, none⟩ = false ∧ w.frozen? ⟨g, 6, none⟩ = false ∧ w.frozen? ⟨g, 7, none⟩ = false ∧ w.frozen? ⟨g, 8, none⟩ = false ∧ w.frozen? ⟨g, 9, none⟩ = false := ⟨(blk_cell h.out 0).trans rfl, (blk_cell h.out 1).trans rfl, (blk_cell h.out 2).trans rfl, (blk_cell h.out 3).trans rfl, (blk_cell h.out 4).trans rfl, (blk_cell h.out 5).trans rfl, (blk_cell h.out 6).trans rfl, (blk_cell h.out 7).trans rfl, (blk_cell h.out 8).trans rfl, (blk_cell h.out 9).trans rfl, blk_frozen h.out 0, blk_frozen h.out 1, blk_frozen h.out 2, blk_frozen h.out 3, blk_frozen h.out 4, blk_frozen h.out 5, blk_frozen h.out 6, blk_frozen h.out 7, blk_frozen h.out 8, blk_frozen h.out 9⟩
theorem cd10 {w : World} {g : Nat} {t : TypeId} {a0 a1 a2 a3 a4 a5 a6 a7 a8 a9 : Value} (h : Aside0 (w.heap[g]? = some (.cells #[a0, a1, a2, a3, a4, a5, a6, a7, a8, a9] t (0, 0)))) : w.cell? ⟨g, 0, none⟩ = some a0 ∧ w.cell? ⟨g, 1, none⟩ = some a1 ∧ w.cell? ⟨g, 2, none⟩ = some a2 ∧ w.cell? ⟨g, 3, none⟩ = some a3 ∧ w.cell? ⟨g, 4, none⟩ = some a4 ∧ w.cell? ⟨g, 5, none⟩ = some a5 ∧ w.cell? ⟨g, 6, none⟩ = some a6 ∧ w.cell? ⟨g, 7, none⟩ = some a7 ∧ w.cell? ⟨g, 8, none⟩ = some a8 ∧ w.cell? ⟨g, 9, none⟩ = some a9 := cz10 h
theorem cc10 {w : World} {g : Nat} {t : TypeId} {a0 a1 a2 a3 a4 a5 a6 a7 a8 a9 : Value} (h : Aside0 (w.heap[g]? = some (.cells #[a0, a1, a2, a3, a4, a5, a6, a7, a8, a9] t (0, 0)))) {q : Prop} (hq : q) : w.cell? ⟨g, 0, none⟩ = some a0 ∧ w.cell? ⟨g, 1, none⟩ = some a1 ∧ w.cell? ⟨g, 2, none⟩ = some a2 ∧ w.cell? ⟨g, 3, none⟩ = some a3 ∧ w.cell? ⟨g, 4, none⟩ = some a4 ∧ w.cell? ⟨g, 5, none⟩ = some a5 ∧ w.cell? ⟨g, 6, none⟩ = some a6 ∧ w.cell? ⟨g, 7, none⟩ = some a7 ∧ w.cell? ⟨g, 8, none⟩ = some a8 ∧ w.cell? ⟨g, 9, none⟩ = some a9 ∧ q := ⟨(blk_cell h.out 0).trans rfl, (blk_cell h.out 1).trans rfl, (blk_cell h.out 2).trans rfl, (blk_cell h.out 3).trans rfl, (blk_cell h.out 4).trans rfl, (blk_cell h.out 5).trans rfl, (blk_cell h.out 6).trans rfl, (blk_cell h.out 7).trans rfl, (blk_cell h.out 8).trans rfl, (blk_cell h.out 9).trans rfl, hq⟩
theorem bp6 {w : World} {g : Nat} {t : TypeId} {a0 a1 a2 a3 a4 a5 u0 u1 u2 u3 u4 u5 : Value} (h : w.heap[g]? = some (.cells #[a0, a1, a2, a3, a4, a5] t (0, 0))) : ((((((w.setCell ⟨g, 0, none⟩ u0).setCell ⟨g, 1, none⟩ u1).setCell ⟨g, 2, none⟩ u2).setCell ⟨g, 3, none⟩ u3).setCell ⟨g, 4, none⟩ u4).setCell ⟨g, 5, none⟩ u5).heap[g]? = some (.cells #[u0, u1, u2, u3, u4, u5] t (0, 0)) := (blk_put (cs := #[u0, u1, u2, u3, u4, a5]) (blk_put (cs := #[u0, u1, u2, u3, a4, a5]) (blk_put (cs := #[u0, u1, u2, a3, a4, a5]) (blk_put (cs := #[u0, u1, a2, a3, a4, a5]) (blk_put (cs := #[u0, a1, a2, a3, a4, a5]) (blk_put (cs := #[a0, a1, a2, a3, a4, a5]) h 0 u0 rfl) 1 u1 rfl) 2 u2 rfl) 3 u3 rfl) 4 u4 rfl) 5 u5 rfl)
theorem bp10 {w : World} {g : Nat} {t : TypeId} {a0 a1 a2 a3 a4 a5 a6 a7 a8 a9 u0 u1 u2 u3 u4 u5 u6 u7 u8 u9 : Value} (h : w.heap[g]? = some (.cells #[a0, a1, a2, a3, a4, a5, a6, a7, a8, a9] t (0, 0))) : ((((((((((w.setCell ⟨g, 0, none⟩ u0).setCell ⟨g, 1, none⟩ u1).setCell ⟨g, 2, none⟩ u2).setCell ⟨g, 3, none⟩ u3).setCell ⟨g, 4, none⟩ u4).setCell ⟨g, 5, none⟩ u5).setCell ⟨g, 6, none⟩ u6).setCell ⟨g, 7, none⟩ u7).setCell ⟨g, 8, none⟩ u8).setCell ⟨g, 9, none⟩ u9).heap[g]? = some (.cells #[u0, u1, u2, u3, u4, u5, u6, u7, u8, u9] t (0, 0)) := (blk_put (cs := #[u0, u1, u2, u3, u4, u5, u6, u7, u8, a9]) (blk_put (cs := #[u0, u1, u2, u3, u4, u5, u6, u7, a8, a9]) (blk_put (cs := #[u0, u1, u2, u3, u4, u5, u6, a7, a8, a9]) (blk_put (cs := #[u0, u1, u2, u3, u4, u5, a6, a7, a8, a9]) (blk_put (cs := #[u0, u1, u2, u3, u4, a5, a6, a7, a8, a9]) (blk_put (cs := #[u0, u1, u2, u3, a4, a5, a6, a7, a8, a9]) (blk_put (cs := #[u0, u1, u2, a3, a4, a5, a6, a7, a8, a9]) (blk_put (cs := #[u0, u1, a2, a3, a4, a5, a6, a7, a8, a9]) (blk_put (cs := #[u0, a1, a2, a3, a4, a5, a6, a7, a8, a9]) (blk_put (cs := #[a0, a1, a2, a3, a4, a5, a6, a7, a8, a9]) h 0 u0 rfl) 1 u1 rfl) 2 u2 rfl) 3 u3 rfl) 4 u4 rfl) 5 u5 rfl) 6 u6 rfl) 7 u7 rfl) 8 u8 rfl) 9 u9 rfl)
end Go.Proofs.YtafhnjlihhfoaaaW.PrintWords
namespace Go.Proofs.Ytafhnjlihhfoaaa.Mur
open Go.RowKit Go.Proofs.YtafhnjlihhfoaaaW.PrintWords Go.Proofs.YtafhnjlihhfoaaaW.PrintLast Go.Proofs.YtafhnjlihhfoaaaW.PrintMore
attribute [local go_sem] max2_int min2_int max_two min_two max_three min_three max_four min_four
set_option linter.unusedVariables false
set_option linter.unusedSimpArgs false
def wordN (l : List Int) : Int := l.foldr (fun x u => Go.bits .or .u64 (IntKind.u64.wrap (u * 256)) (IntKind.u64.wrap x)) 0
def rotN (a k : Int) : Int := Go.bits .or .u64 (shl .u64 a k) (shr .u64 a (64 - k))
def lowN (l : List Int) : Int := IntKind.u64.wrap (rotN (IntKind.u64.wrap (wordN (l.take 8) * 9782798678568883157)) 31 * 5545529020109919103)
def highN (l : List Int) : Int := IntKind.u64.wrap (rotN (IntKind.u64.wrap (wordN (l.take 8) * 5545529020109919103)) 33 * 9782798678568883157)
theorem mur_rot27 (a : Int) (w : World) : Calls Try.prog 53 #[.int .u64 a, .int .i64 27] w fun e w' => e = .returned (.int .u64 (rotN a 27)) ∧ w' = w := by
 have hb : Go.bits .and .u64 27 63 = 27 := by decide
 go_enter Try.func53, Try.ntmps53
 go_wp2
 go_ret
 exact ⟨rfl, rfl⟩
theorem mur_rot31 (a : Int) (w : World) : Calls Try.prog 53 #[.int .u64 a, .int .i64 31] w fun e w' => e = .returned (.int .u64 (rotN a 31)) ∧ w' = w := by
 have hb : Go.bits .and .u64 31 63 = 31 := by decide
 go_enter Try.func53, Try.ntmps53
 go_wp2
 go_ret
 exact ⟨rfl, rfl⟩
theorem mur_rot33 (a : Int) (w : World) : Calls Try.prog 53 #[.int .u64 a, .int .i64 33] w fun e w' => e = .returned (.int .u64 (rotN a 33)) ∧ w' = w := by
 have hb : Go.bits .and .u64 33 63 = 33 := by decide
 go_enter Try.func53, Try.ntmps53
 go_wp2
 go_ret
 exact ⟨rfl, rfl⟩
theorem wordN_step (l : List Int) (j : Nat) (h : j < l.length) : wordN (l.drop j) = Go.bits .or .u64 (IntKind.u64.wrap (wordN (l.drop (j + 1)) * 256)) (IntKind.u64.wrap l[j]) := by
 rw [List.drop_eq_getElem_cons h]; rfl
set_option maxHeartbeats 1000000 in
theorem mur_word (A0 : Option Addr) (c0 : Nat) (l0 : List Int) (w : World) (hr0 : Kd.C (Kd.int .u8) w A0 l0.length l0) (hc0 : l0.length ≤ c0) : Calls Try.prog 77 #[.slice A0 l0.length c0] w fun e w' => e = .returned (.int .u64 (wordN (l0.take 8))) ∧ w' = w := by
 have hm := hr0.2.1
 have HR := Lib.hid (Kd.reads_of_C (d := (0 : Int)) hr0)
 obtain ⟨M, hM⟩ : ∃ M : Nat, M = (l0.take 8).length := ⟨_, rfl⟩
 have hM' := hM
 rw [List.length_take] at hM'
 have HM := Lib.hid hM
 clear hr0 hM
 go_enter Try.func77, Try.ntmps77
 by_cases h8 : 8 < l0.length
 ·
  have h8z : (8 : Int) < (l0.length : Int) := by omega
  have h8y : ¬ (l0.length : Int) ≤ 8 := by omega
  have hMe : M = 8 := by omega
  have HE := Lib.hid hMe
  clear hM' hMe
  go_wp2
  go_loopg [3, 4] M (fun g1 vu vi wr => ∃ j : Nat, vi = .int .i64 ((j : Int) - 1) ∧ j ≤ M ∧ j ≤ g1 ∧ vu = .int .u64 (wordN ((l0.take 8).drop j)) ∧ wr = w)
  case atStart => exact ⟨M, by rw [HE.out] <;> first | rfl | go_num, Nat.le_refl _, Nat.le_refl _, by rw [HM.out, List.drop_length]; rfl, rfl⟩
  case round =>
   obtain ⟨j, rfl, hjM, hjg, rfl, rfl⟩ := hrel
   cases j with
   | zero =>
    go_wp2
    go_ret
    exact ⟨rfl, rfl⟩
   | succ j =>
    have hjl : j < l0.length := by have h1 := HM.out; rw [List.length_take] at h1; omega
    have hj8 : j < (l0.take 8).length := by have h1 := HM.out; omega
    obtain ⟨ad, e, hc⟩ := HR.out.2.2 (by omega)
    subst e
    have hcj := hc j hjl
    have hv : l0.getD j 0 = l0[j] := by rw [List.getD_eq_getElem?_getD, List.getElem?_eq_getElem hjl]; rfl
    rw [hv] at hcj
    have hjz : (j : Int) < (l0.length : Int) := by omega
    have HS := Lib.hid (wordN_step (l0.take 8) j hj8)
    have HT := Lib.hid (show (l0.take 8)[j] = l0[j] by simp)
    clear hc hv
    go_wp2
    go_roundg j
    case measure => omega
    case rel => exact ⟨j, by go_num, by omega, Nat.le_refl _, by rw [HS.out, HT.out], rfl⟩
 ·
  have h8z : (l0.length : Int) ≤ 8 := by omega
  have hMe : M = l0.length := by omega
  have HE := Lib.hid hMe
  clear hM' hMe
  go_wp2
  go_loopg [3, 4] M (fun g1 vu vi wr => ∃ j : Nat, vi = .int .i64 ((j : Int) - 1) ∧ j ≤ M ∧ j ≤ g1 ∧ vu = .int .u64 (wordN ((l0.take 8).drop j)) ∧ wr = w)
  case atStart => exact ⟨M, by rw [HE.out] <;> first | rfl | go_num, Nat.le_refl _, Nat.le_refl _, by rw [HM.out, List.drop_length]; rfl, rfl⟩
  case round =>
   obtain ⟨j, rfl, hjM, hjg, rfl, rfl⟩ := hrel
   cases j with
   | zero =>
    go_wp2
    go_ret
    exact ⟨rfl, rfl⟩
   | succ j =>
    have hjl : j < l0.length := by have h1 := HM.out; rw [List.length_take] at h1; omega
    have hj8 : j < (l0.take 8).length := by have h1 := HM.out; omega
    obtain ⟨ad, e, hc⟩ := HR.out.2.2 (by omega)
    subst e
    have hcj := hc j hjl
    have hv : l0.getD j 0 = l0[j] := by rw [List.getD_eq_getElem?_getD, List.getElem?_eq_getElem hjl]; rfl
    rw [hv] at hcj
    have hjz : (j : Int) < (l0.length : Int) := by omega
    have HS := Lib.hid (wordN_step (l0.take 8) j hj8)
    have HT := Lib.hid (show (l0.take 8)[j] = l0[j] by simp)
    clear hc hv
    go_wp2
    go_roundg j
    case measure => omega
    case rel => exact ⟨j, by go_num, by omega, Nat.le_refl _, by rw [HS.out, HT.out], rfl⟩
theorem mur_low (A0 : Option Addr) (c0 : Nat) (l0 : List Int) (w : World) (hr0 : Kd.C (Kd.int .u8) w A0 l0.length l0) (hc0 : l0.length ≤ c0) : Calls Try.prog 54 #[.slice A0 l0.length c0] w fun e w' => e = .returned (.int .u64 (lowN l0)) ∧ w' = w := by
 have HW := Lib.hid (mur_word A0 c0 l0 w hr0 hc0)
 have E := Lib.hid (show lowN l0 = IntKind.u64.wrap (rotN (IntKind.u64.wrap (wordN (l0.take 8) * 9782798678568883157)) 31 * 5545529020109919103) from rfl)
 clear hr0
 go_enter Try.func54, Try.ntmps54
 go_wp2_with (first | (go_at_call 77; refine HW.out.mono ?_; rintro e w1 ⟨rfl, rfl⟩) | (go_at_call 53; refine (mur_rot31 _ _).mono ?_; rintro e w2 ⟨rfl, rfl⟩))
 go_ret
 exact ⟨by rw [E.out]; rfl, rfl⟩
theorem mur_high (A0 : Option Addr) (c0 : Nat) (l0 : List Int) (w : World) (hr0 : Kd.C (Kd.int .u8) w A0 l0.length l0) (hc0 : l0.length ≤ c0) : Calls Try.prog 55 #[.slice A0 l0.length c0] w fun e w' => e = .returned (.int .u64 (highN l0)) ∧ w' = w := by
 have HW := Lib.hid (mur_word A0 c0 l0 w hr0 hc0)
 have E := Lib.hid (show highN l0 = IntKind.u64.wrap (rotN (IntKind.u64.wrap (wordN (l0.take 8) * 5545529020109919103)) 33 * 9782798678568883157) from rfl)
 clear hr0
 go_enter Try.func55, Try.ntmps55
 go_wp2_with (first | (go_at_call 77; refine HW.out.mono ?_; rintro e w1 ⟨rfl, rfl⟩) | (go_at_call 53; refine (mur_rot33 _ _).mono ?_; rintro e w2 ⟨rfl, rfl⟩))
 go_ret
 exact ⟨by rw [E.out]; rfl, rfl⟩
def mixS (a : Int) : Int := Go.bits .xor .u64 a (a / 8589934592)
def mixN (a : Int) : Int := mixS (IntKind.u64.wrap (mixS (IntKind.u64.wrap (mixS a * 18397679294719823053)) * 14181476777654086739))
set_option maxHeartbeats 1000000 in
theorem mur_mix (a : Int) (w : World) : Calls Try.prog 57 #[.int .u64 a] w fun e w' => e = .returned (.int .u64 (mixN a)) ∧ w' = w := by
 have i0 : ∀ (w : World) (x y : Value), (Instr.index 90 (.agg #[x, y]) (.int .i64 0)).run Try.prog w = .ok x w := fun w x y => by kernel_rfl
 have i1 : ∀ (w : World) (x y : Value), (Instr.index 90 (.agg #[x, y]) (.int .i64 1)).run Try.prog w = .ok y w := fun w x y => by kernel_rfl
 go_enter Try.func57, Try.ntmps57
 go_wp2
 go_loopg [0, 6] 2 (fun g1 va vi wr => ((vi = .int .i64 0 ∧ va = .int .u64 a ∧ 2 ≤ g1) ∨ (vi = .int .i64 1 ∧ va = .int .u64 (IntKind.u64.wrap (mixS a * 18397679294719823053)) ∧ 1 ≤ g1) ∨ (vi = .int .i64 2 ∧ va = .int .u64 (IntKind.u64.wrap (mixS (IntKind.u64.wrap (mixS a * 18397679294719823053)) * 14181476777654086739)))) ∧ wr = w)
 case atStart => exact ⟨.inl ⟨rfl, rfl, Nat.le_refl _⟩, rfl⟩
 case round =>
  obtain ⟨h | h | h, rfl⟩ := hrel
  ·
   obtain ⟨rfl, rfl, hg⟩ := h
   go_wp2
   go_roundg 1
   case measure => omega
   case rel => exact ⟨.inr (.inl ⟨rfl, rfl, Nat.le_refl _⟩), rfl⟩
  ·
   obtain ⟨rfl, rfl, hg⟩ := h
   go_wp2
   go_roundg 0
   case measure => omega
   case rel => exact ⟨.inr (.inr ⟨rfl, rfl⟩), rfl⟩
  ·
   obtain ⟨rfl, rfl⟩ := h
   go_wp2
   go_ret
   exact ⟨rfl, rfl⟩
structure H2 (w W : World) (h g : Int) : Prop where
 below : Below w.heap.size w W
 b1 : W.heap[w.heap.size]? = some (.cells #[.int .u64 h] 50 (0, 0))
 b2 : W.heap[w.heap.size + 1]? = some (.cells #[.int .u64 g] 50 (0, 0))
theorem H2.c1 {w W : World} {h g : Int} (H : H2 w W h g) : W.cell? ⟨w.heap.size, 0, none⟩ = some (.int .u64 h) := by unfold World.cell?; simp only [H.b1]; rfl
theorem H2.c2 {w W : World} {h g : Int} (H : H2 w W h g) : W.cell? ⟨w.heap.size + 1, 0, none⟩ = some (.int .u64 g) := by unfold World.cell?; simp only [H.b2]; rfl
theorem H2.f1 {w W : World} {h g : Int} (H : H2 w W h g) : W.frozen? ⟨w.heap.size, 0, none⟩ = false := by unfold World.frozen?; simp only [H.b1]; rfl
theorem H2.f2 {w W : World} {h g : Int} (H : H2 w W h g) : W.frozen? ⟨w.heap.size + 1, 0, none⟩ = false := by unfold World.frozen?; simp only [H.b2]; rfl
theorem H2.set1 {w W : World} {h g : Int} (H : H2 w W h g) (x : Int) : H2 w (W.setCell ⟨w.heap.size, 0, none⟩ (.int .u64 x)) x g :=
 ⟨H.below.setCell (Nat.le_refl _) _, by simp only [World.setCell, Array.getElem?_modify, if_true, H.b1]; rfl, by simp only [World.setCell, Array.getElem?_modify]; rw [if_neg (by omega)]; exact H.b2⟩
theorem H2.set2 {w W : World} {h g : Int} (H : H2 w W h g) (x : Int) : H2 w (W.setCell ⟨w.heap.size + 1, 0, none⟩ (.int .u64 x)) h x :=
 ⟨H.below.setCell (by simp) _, by simp only [World.setCell, Array.getElem?_modify]; rw [if_neg (by omega)]; exact H.b1, by simp only [World.setCell, Array.getElem?_modify, if_true, H.b2]; rfl⟩
theorem H2.drew {w W : World} {h g : Int} (H : H2 w W h g) : H2 w W.drew h g := ⟨below_drew1 H.below, H.b1, H.b2⟩
theorem H2.start (w : World) (h g : Int) : H2 w ((w.alloc (.cells #[.int .u64 h] 50)).alloc (.cells #[.int .u64 g] 50)) h g :=
 ⟨((Below.refl _ _).alloc (Nat.le_refl _) _).alloc (by simp) _, by show ((w.heap.push _).push _)[w.heap.size]? = _; rw [Array.getElem?_push_lt (by simp)]; simp, by
  have e : w.heap.size + 1 = (w.heap.push (Obj.cells #[.int .u64 h] 50)).size := by simp
  show ((w.heap.push (Obj.cells #[.int .u64 h] 50)).push _)[w.heap.size + 1]? = _
  rw [e, Array.getElem?_push_size]⟩
theorem mur_add (w W : World) (h g : Int) (H : H2 w W h g) : Calls Try.prog 56 #[.pointer (some ⟨w.heap.size, 0, none⟩), .pointer (some ⟨w.heap.size + 1, 0, none⟩)] W fun e w' => e = .returned (.tuple #[]) ∧ H2 w w' (IntKind.u64.wrap (h + g)) (IntKind.u64.wrap (g + IntKind.u64.wrap (h + g))) := by
 have c1 := H.c1
 have c2 := H.c2
 have f1 := H.f1
 have f2 := H.f2
 have HH := Lib.hid H
 clear H
 go_enter Try.func56, Try.ntmps56
 go_wp2
 go_end0
 exact ⟨rfl, (HH.out.set1 _).set2 _⟩
def sumL : Nat → List Int → Int → Int → Int × Int
 | 0, _, h, g => (h, g)
 | k + 1, l, h, g => if l.length < 16 then (if 0 < l.length then Go.bits .xor .u64 h (lowN l) else h, if 8 < l.length then Go.bits .xor .u64 g (highN (l.drop 8)) else g) else
   let h1 := IntKind.u64.wrap (IntKind.u64.wrap (IntKind.u64.wrap (rotN (Go.bits .xor .u64 h (lowN l)) 27 + g) * 5) + 1390208809)
   sumL k (l.drop 16) h1 (IntKind.u64.wrap (IntKind.u64.wrap (IntKind.u64.wrap (rotN (Go.bits .xor .u64 g (highN (l.drop 8))) 31 + h1) * 5) + 944331445))
def sumF (n h g : Int) : Int × Int :=
 (IntKind.u64.wrap (mixN (IntKind.u64.wrap (Go.bits .xor .u64 h n + Go.bits .xor .u64 g n)) + mixN (IntKind.u64.wrap (Go.bits .xor .u64 g n + IntKind.u64.wrap (Go.bits .xor .u64 h n + Go.bits .xor .u64 g n)))),
  IntKind.u64.wrap (mixN (IntKind.u64.wrap (Go.bits .xor .u64 g n + IntKind.u64.wrap (Go.bits .xor .u64 h n + Go.bits .xor .u64 g n))) + IntKind.u64.wrap (mixN (IntKind.u64.wrap (Go.bits .xor .u64 h n + Go.bits .xor .u64 g n)) + mixN (IntKind.u64.wrap (Go.bits .xor .u64 g n + IntKind.u64.wrap (Go.bits .xor .u64 h n + Go.bits .xor .u64 g n))))))
theorem ret2_ {a b c d : Int} (h : a = c ∧ b = d) : Ending.returned (.tuple #[.int .u64 a, .int .u64 b]) = .returned (.tuple #[.int .u64 c, .int .u64 d]) := by rw [h.1, h.2]
theorem sumF_inj {n h g r1 r2 : Int} (H : sumF n h g = (r1, r2)) : IntKind.u64.wrap (mixN (IntKind.u64.wrap (Go.bits .xor .u64 h n + Go.bits .xor .u64 g n)) + mixN (IntKind.u64.wrap (Go.bits .xor .u64 g n + IntKind.u64.wrap (Go.bits .xor .u64 h n + Go.bits .xor .u64 g n)))) = r1 ∧
  IntKind.u64.wrap (mixN (IntKind.u64.wrap (Go.bits .xor .u64 g n + IntKind.u64.wrap (Go.bits .xor .u64 h n + Go.bits .xor .u64 g n))) + IntKind.u64.wrap (mixN (IntKind.u64.wrap (Go.bits .xor .u64 h n + Go.bits .xor .u64 g n)) + mixN (IntKind.u64.wrap (Go.bits .xor .u64 g n + IntKind.u64.wrap (Go.bits .xor .u64 h n + Go.bits .xor .u64 g n))))) = r2 := by
 unfold sumF at H
 exact Prod.mk.inj H
def sumN (l : List Int) (seed : Int) : Int × Int := let p := sumL (l.length + 1) l seed seed; sumF (l.length : Int) p.1 p.2
theorem mur_drop (A : Option Addr) (c : Nat) (l : List Int) (j : Nat) (hj : j ≤ l.length) (hc : l.length ≤ c) : ∃ A' : Option Addr, (∀ W : World, (Instr.slice 55 (.slice A l.length c) (some (.int .i64 (j : Int))) none none).run Try.prog W = .ok (.slice A' (l.drop j).length (c - j)) W) ∧
  (∀ w : World, Kd.C (Kd.int .u8) w A l.length l → Kd.C (Kd.int .u8) w A' (l.drop j).length (l.drop j)) ∧ (l.drop j).length ≤ c - j := by
 have hinfo : (Try.prog.info? 5).map (fun i => i.size) = some 1 := by kernel_rfl
 obtain ⟨i0, hi, hz⟩ := Option.map_eq_some_iff.1 hinfo
 obtain ⟨A', h1, h2, h3⟩ := print_drop_of (Value.int .u8) (0 : Int) 55 5 .i64 Try.underlying55 hi hz A c l (j : Int) (by omega) (by omega) hc
 exact ⟨A', h1, fun w h => Kd.C_of_reads (h2 w (Kd.reads_of_C (d := (0 : Int)) h)), h3⟩
end Go.Proofs.Ytafhnjlihhfoaaa.Mur
namespace Go.Proofs.Ytafhnjlihhfoaaa.Mur
open Go.RowKit Go.Proofs.YtafhnjlihhfoaaaW.PrintWords Go.Proofs.YtafhnjlihhfoaaaW.PrintLast Go.Proofs.YtafhnjlihhfoaaaW.PrintMore
attribute [local go_sem] max2_int min2_int max_two min_two max_three min_three max_four min_four
set_option linter.unusedVariables false
set_option linter.unusedSimpArgs false
set_option maxHeartbeats 4000000 in
set_option maxRecDepth 1000000 in
theorem mur_sum (A0 : Option Addr) (c0 : Nat) (l0 : List Int) (a1 : Int) (r1 : Int) (r2 : Int) (w : World) (hr0 : Kd.C (Kd.int .u8) w A0 l0.length l0) (hc0 : l0.length ≤ c0) (hh : sumN l0 a1 = (r1, r2)) :
  Calls Try.prog 30 #[.slice A0 l0.length c0, .int .u64 a1] w fun e w' => e = .returned (.tuple #[.int .u64 r1, .int .u64 r2]) ∧ Below w.heap.size w w' := by
 have hmx : Try.prog.follows .mixedOrders = true := by kernel_rfl
 have HN := Lib.hid hh
 have HR := Lib.hid hr0
 have hm := hr0.2.1
 clear hh hr0
 go_enter Try.func30, Try.ntmps30
 go_wp2
 go_step3
 go_wp2
 go_step3
 go_wp2
 go_loopg [8] (l0.length + 1) (fun g1 v8 wr => ∃ (A : Option Addr) (c : Nat) (l : List Int) (h g : Int), v8 = .slice A l.length c ∧ l.length ≤ c ∧ l.length < g1 ∧ l.length ≤ 9223372036854775807 ∧ Hid (Kd.C (Kd.int .u8) w A l.length l) ∧ Hid (sumL g1 l h g = sumL (l0.length + 1) l0 a1 a1) ∧ Hid (H2 w wr h g))
 case atStart => exact ⟨A0, c0, l0, a1, a1, rfl, hc0, Nat.lt_succ_self _, hm, HR.out, rfl, H2.start w a1 a1⟩
 case round =>
  obtain ⟨A, c, l, hv, g, rfl, hc, hlt, hml, HC, HS, HW⟩ := hrel
  cases gk with
  | zero => omega
  | succ gk =>
  have c1 := HW.out.c1
  have c2 := HW.out.c2
  have f1 := HW.out.f1
  have f2 := HW.out.f2
  by_cases h16 : l.length < 16
  ·
   have h16z : (l.length : Int) < 16 := by omega
   have HT := Lib.hid (show sumL (gk + 1) l hv g = (if 0 < l.length then Go.bits .xor .u64 hv (lowN l) else hv, if 8 < l.length then Go.bits .xor .u64 g (highN (l.drop 8)) else g) by rw [sumL, if_pos h16])
   go_upto_if 41 with fail
   go_cut [] (fun wx => ∃ g2 : Int, Hid (g2 = if 8 < l.length then Go.bits .xor .u64 g (highN (l.drop 8)) else g) ∧ Hid (H2 w wx hv g2))
   case first =>
    by_cases h8 : 8 < l.length
    ·
     as_aux_lemma =>
      have h8z : (8 : Int) < (l.length : Int) := by omega
      obtain ⟨A8, hr8, hC8, hl8⟩ := mur_drop A c l 8 (by omega) hc
      have h8w : 8 ≤ (l.length : Int) := by omega
      have h16q : (l.length : Int) < 16 := by omega
      have q8 : (Instr.slice 55 (.slice A l.length c) (some (.int .i64 8)) none none).run Try.prog w = .ok (.slice (if c = 8 then A else Option.map (fun x => { block := x.block, off := x.off + 8 }) A) (l.length - 8) (c - 8)) w := by go_simp
      have eA8 : A8 = (if c = 8 then A else Option.map (fun x => { block := x.block, off := x.off + 8 }) A) := by
       have := (hr8 w).symm.trans q8
       injection this with e1 _
       injection e1
      clear q8 hr8
      have HC8 := Lib.hid (hC8 w HC.out)
      have e8 : (l.drop 8).length = l.length - 8 := List.length_drop
      have E8 := Lib.hid e8
      have EA8 := Lib.hid eA8
      have HL8 := Lib.hid hl8
      have hc8 : ¬ c = 8 := by omega
      clear hC8 hl8 e8 eA8
      go_wp2_with fail
      clear c1 c2 f1 f2
      have HH2 := Lib.hid HW.out.drew
      have c1 := HH2.out.c1
      have c2 := HH2.out.c2
      have f1 := HH2.out.f1
      have f2 := HH2.out.f2
      have CH := Lib.hid (mur_high A8 (c - 8) (l.drop 8) wr.drew (Kd.C_below HC8.out HH2.out.below) HL8.out)
      rw [EA8.out, E8.out, if_neg hc8] at CH
      go_still_tail 5, hmx
      repeat still_step
      still_call CH.out
      repeat still_step
      refine wpStill_nil ?_
      change wpList _ _ _ _ _ wr.drew
      generalize wr.drew = wh at HH2 c1 c2 f1 f2 ⊢
      clear CH
      go_wp2_with fail
      have HY := Lib.hid (HH2.out.set2 (Go.bits .xor .u64 g (highN (l.drop 8))))
      generalize (wh.setCell ⟨w.heap.size + 1, 0, none⟩ (.int .u64 (Go.bits .xor .u64 g (highN (l.drop 8))))) = wy at HY ⊢
      go_meet
      case rel => exact ⟨_, Lib.hid (by rw [if_pos h8]), HY⟩
    ·
     as_aux_lemma =>
      have h8z : ¬ (8 : Int) < (l.length : Int) := by omega
      go_wp2_with fail
      go_meet
      case rel => exact ⟨_, Lib.hid (by rw [if_neg h8]), HW⟩
   case rest =>
    clear c1 c2 f1 f2 HW
    obtain ⟨g2, HG2, HW⟩ := hcut
    have c1 := HW.out.c1
    have c2 := HW.out.c2
    have f1 := HW.out.f1
    have f2 := HW.out.f2
    go_upto_if 49 with fail
    go_cut [] (fun wx => ∃ h2 : Int, Hid (h2 = if 0 < l.length then Go.bits .xor .u64 hv (lowN l) else hv) ∧ Hid (H2 w wx h2 g2))
    case first =>
     by_cases h0 : 0 < l.length
     ·
      as_aux_lemma =>
       have h0z : (0 : Int) < (l.length : Int) := by omega
       go_wp2_with fail
       have CL := Lib.hid (mur_low A c l wc.drew (Kd.C_below HC.out HW.out.drew.below) hc)
       clear c1 c2 f1 f2
       have HL := Lib.hid HW.out.drew
       have c1 := HL.out.c1
       have c2 := HL.out.c2
       have f1 := HL.out.f1
       have f2 := HL.out.f2
       go_still_tail 4, hmx
       still_call CL.out
       repeat still_step
       refine wpStill_nil ?_
       change wpList _ _ _ _ _ wc.drew
       generalize wc.drew = wl at HL c1 c2 f1 f2 ⊢
       clear CL
       go_wp2_with fail
       have HX := Lib.hid (HL.out.set1 (Go.bits .xor .u64 hv (lowN l)))
       generalize (wl.setCell ⟨w.heap.size, 0, none⟩ (.int .u64 (Go.bits .xor .u64 hv (lowN l)))) = wx at HX ⊢
       go_meet
       case rel => exact ⟨_, Lib.hid (by rw [if_pos h0]), HX⟩
     ·
      as_aux_lemma =>
       have h0z : ¬ (0 : Int) < (l.length : Int) := by omega
       go_wp2_with fail
       go_meet
       case rel => exact ⟨_, Lib.hid (by rw [if_neg h0]), HW⟩
    case rest =>
     clear c1 c2 f1 f2 HW
     obtain ⟨h2, HH2, HX⟩ := hcut
     have c1 := HX.out.c1
     have c2 := HX.out.c2
     have f1 := HX.out.f1
     have f2 := HX.out.f2
     as_aux_lemma =>
      have FIN := Lib.hid (show sumF (l0.length : Int) h2 g2 = (r1, r2) by
       have h1 := HN.out
       unfold sumN at h1
       rw [← HS.out, HT.out, ← HH2.out, ← HG2.out] at h1
       exact h1)
      go_wp2_with fail
      go_region
      go_wp2_with fail
      refine (mur_add w _ _ _ (by with_reducible exact ((HX.out.set1 _).set2 _).drew)).mono ?_
      rintro e w3 ⟨rfl, H3⟩
      clear c1 c2 f1 f2
      have HW3 := Lib.hid H3
      have c1 := H3.c1
      have c2 := H3.c2
      have f1 := H3.f1
      have f2 := H3.f2
      clear H3
      go_wp2_with fail
      go_region_with (first | (go_at_call 57; refine (mur_mix _ _).mono ?_; rintro e w' ⟨rfl, rfl⟩))
      all_goals (go_wp2_with fail)
      all_goals
       refine (mur_add w _ _ _ (by with_reducible exact ((HW3.out.set1 _).set2 _).drew)).mono ?_
       rintro e w5 ⟨rfl, H5⟩
       clear c1 c2 f1 f2
       have HW5 := Lib.hid H5
       have c1 := H5.c1
       have c2 := H5.c2
       clear H5
       go_wp2_with fail
       go_quiet (fail)
       go_wp2
       rw [Exit.noGoto_ret]
       go_ret2
       exact ⟨ret2_ (sumF_inj FIN.out), pw_below_drewN HW5.out.below _⟩
  ·
   as_aux_lemma =>
    have h16z : ¬ (l.length : Int) < 16 := by omega
    have h8 : 8 ≤ l.length := by omega
    have h8z : 8 ≤ (l.length : Int) := by omega
    have h16y : 16 ≤ (l.length : Int) := by omega
    obtain ⟨A8, hr8, hC8, hl8⟩ := mur_drop A c l 8 h8 hc
    obtain ⟨A16, hr16, hC16, hl16⟩ := mur_drop A c l 16 (by omega) hc
    have q8 : (Instr.slice 55 (.slice A l.length c) (some (.int .i64 8)) none none).run Try.prog w = .ok (.slice (if c = 8 then A else Option.map (fun x => { block := x.block, off := x.off + 8 }) A) (l.length - 8) (c - 8)) w := by go_simp
    have eA8 : A8 = (if c = 8 then A else Option.map (fun x => { block := x.block, off := x.off + 8 }) A) := by
     have := (hr8 w).symm.trans q8
     injection this with e1 _
     injection e1
    clear q8 hr8
    have q16 : (Instr.slice 55 (.slice A l.length c) (some (.int .i64 16)) none none).run Try.prog w = .ok (.slice (if c = 16 then A else Option.map (fun x => { block := x.block, off := x.off + 16 }) A) (l.length - 16) (c - 16)) w := by go_simp
    have eA16 : A16 = (if c = 16 then A else Option.map (fun x => { block := x.block, off := x.off + 16 }) A) := by
     have := (hr16 w).symm.trans q16
     injection this with e1 _
     injection e1
    clear q16 hr16
    have HC8 := Lib.hid (hC8 w HC.out)
    have HC16 := Lib.hid (hC16 w HC.out)
    have e8 : (l.drop 8).length = l.length - 8 := List.length_drop
    have e16 : (l.drop 16).length = l.length - 16 := List.length_drop
    have E8 := Lib.hid e8
    have EA8 := Lib.hid eA8
    have EA16 := Lib.hid eA16
    have E16 := Lib.hid e16
    have hl16' : (l.drop 16).length ≤ c - 16 := hl16
    have HL8 := Lib.hid hl8
    clear hC8 hC16 hl8 hl16 e8 e16 eA8 eA16
    go_wp2_with fail
    have HW2 := Lib.hid HW.out.drew
    clear c1 c2 f1 f2
    have c1 := HW2.out.c1
    have c2 := HW2.out.c2
    have f1 := HW2.out.f1
    have f2 := HW2.out.f2
    have CL := Lib.hid (mur_low A c l wr.drew (Kd.C_below HC.out HW2.out.below) hc)
    go_still_tail 9, hmx
    still_call CL.out
    repeat still_step
    still_call (mur_rot27 _ _)
    repeat still_step
    refine wpStill_nil ?_
    change wpList _ _ _ _ _ wr.drew
    generalize wr.drew = w2 at HW2 c1 c2 f1 f2 ⊢
    clear CL
    go_wp2_with fail
    generalize eh : IntKind.u64.wrap (IntKind.u64.wrap (IntKind.u64.wrap (rotN (Go.bits .xor .u64 hv (lowN l)) 27 + g) * 5) + 1390208809) = h1
    have HW3 := Lib.hid (HW2.out.set1 h1).drew
    have EH := Lib.hid eh
    clear c1 c2 f1 f2 eh
    have c1 := HW3.out.c1
    have c2 := HW3.out.c2
    have f1 := HW3.out.f1
    have f2 := HW3.out.f2
    have CH := Lib.hid (mur_high A8 (c - 8) (l.drop 8) _ (Kd.C_below HC8.out HW3.out.below) HL8.out)
    rw [EA8.out, E8.out] at CH
    generalize hw3 : (w2.setCell ⟨w.heap.size, 0, none⟩ (.int .u64 h1)) = w3 at HW3 c1 c2 f1 f2 CH ⊢
    go_still_tail 10, hmx
    still_call CH.out
    repeat still_step
    still_call (mur_rot31 _ _)
    repeat still_step
    refine wpStill_nil ?_
    change wpList _ _ _ _ _ w3.drew
    clear hw3
    generalize w3.drew = w4 at HW3 c1 c2 f1 f2 ⊢
    clear CH
    have eg0 : ∃ g1, IntKind.u64.wrap (IntKind.u64.wrap (IntKind.u64.wrap (rotN (Go.bits .xor .u64 g (highN (l.drop 8))) 31 + h1) * 5) + 944331445) = g1 := ⟨_, rfl⟩
    obtain ⟨g1, eg⟩ := eg0
    have EG := Lib.hid eg
    have HW4 := Lib.hid (HW3.out.set2 g1)
    by_cases hc16 : c = 16
    ·
     have EC := Lib.hid hc16
     clear eg
     go_wp2_with fail
     rw [EG.out]
     generalize (w4.setCell ⟨w.heap.size + 1, 0, none⟩ (.int .u64 g1)) = w5 at HW4 ⊢
     clear c1 c2 f1 f2
     go_roundg gk
     case measure => omega
     case rel =>
      refine ⟨A16, c - 16, l.drop 16, h1, g1, by rw [EA16.out, E16.out, if_pos EC.out]; simp [EC.out], hl16', by rw [E16.out]; omega, by rw [E16.out]; omega, HC16, ?_, HW4⟩
      show _ = _
      rw [← HS.out]
      conv => rhs; rw [sumL]
      rw [if_neg h16]
      simp only [EH.out, EG.out]
    ·
     have EC := Lib.hid hc16
     clear eg
     go_wp2_with fail
     rw [EG.out]
     generalize (w4.setCell ⟨w.heap.size + 1, 0, none⟩ (.int .u64 g1)) = w5 at HW4 ⊢
     clear c1 c2 f1 f2
     go_roundg gk
     case measure => omega
     case rel =>
      refine ⟨A16, c - 16, l.drop 16, h1, g1, by rw [EA16.out, E16.out, if_neg EC.out], hl16', by rw [E16.out]; omega, by rw [E16.out]; omega, HC16, ?_, HW4⟩
      show _ = _
      rw [← HS.out]
      conv => rhs; rw [sumL]
      rw [if_neg h16]
      simp only [EH.out, EG.out]
end Go.Proofs.Ytafhnjlihhfoaaa.Mur
