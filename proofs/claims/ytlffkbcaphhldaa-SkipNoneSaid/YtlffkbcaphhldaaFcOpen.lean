/- From a row's reading of an argument to the print's words (Kd): plain lemmas, for any program. -/
import Derived.Test.YtlffkbcaphhldaaFcWWords
import Derived.ChangeArms
import Derived.OpenShut
import Derived.WideShapes
import Derived.ProofKit
namespace Go.Proofs.Ytlffkbcaphhldaa.Opn
open Go.RowKit Go.Proofs.YtlffkbcaphhldaaW.PrintWords Go.ChangeShapes Go.WideShapes
def Opens {α : Type} (P : Program) (t : TypeId) (d : Kd α) (Wf : α → Prop) : Prop :=
 ∀ {H : Type} (enc : TypeId × Value → H) (w : World) (base : Nat) (spare : Nat → Bool) (held : Bool) (fuel : Nat) (cs : List Value) (x : DataW H × List MemPlace),
  DataW.trod enc P w base spare held fuel t cs = some x → ∃ y : α, d.K w y cs ∧ Wf y
theorem Opens.int {P : Program} {t : TypeId} {k : IntKind} (ht : P.underlying t = some (.int k)) : Opens P t (Kd.int k) (fun n => (Lit.int k n).wf = true) := by
 intro H enc w base spare held fuel cs x h
 obtain ⟨n, rfl, _, hw⟩ := DataW.trod_int ht h
 exact ⟨n, rfl, hw⟩
theorem Opens.bool {P : Program} {t : TypeId} (ht : P.underlying t = some .bool) : Opens P t Kd.bool (fun _ => True) := by
 intro H enc w base spare held fuel cs x h
 obtain ⟨n, rfl, _⟩ := DataW.trod_bool ht h
 exact ⟨n, rfl, trivial⟩
theorem Opens.string {P : Program} {t : TypeId} (ht : P.underlying t = some .string) : Opens P t Kd.string (fun s => s.size ≤ maxLen) := by
 intro H enc w base spare held fuel cs x h
 obtain ⟨s, rfl, _, hs⟩ := DataW.trod_string ht h
 exact ⟨s, rfl, hs⟩
def OpensF {α : Type} (P : Program) : List Field → Nat → Kd α → (α → Prop) → Prop := fun fs o d Wf =>
 ∀ {H : Type} (enc : TypeId × Value → H) (w : World) (base : Nat) (spare : Nat → Bool) (held : Bool) (n : Nat) (cs : List Value),
  (∀ f ∈ fs, ∃ x, DataW.trod enc P w base spare held n f.type ((cs.drop f.offset).take (P.cellsOf f.type)) = some x) → cs.length = o + d.sz → ∃ y : α, d.K w y (cs.drop o) ∧ Wf y
theorem OpensF.one {α : Type} {P : Program} {f : Field} {o : Nat} {d : Kd α} {Wf : α → Prop} (h : Opens P f.type d Wf) (ho : f.offset = o) (hc : P.cellsOf f.type = d.sz) : OpensF P [f] o d Wf := by
 intro H enc w base spare held n cs hall hl
 obtain ⟨x, hx⟩ := hall f (by simp)
 rw [ho, hc, List.take_of_length_le (by rw [List.length_drop]; omega)] at hx
 exact h enc w base spare held n _ x hx
theorem OpensF.cons {α β : Type} {P : Program} {f : Field} {fs : List Field} {o : Nat} {d : Kd α} {e : Kd β} {Wf : α → Prop} {Wg : β → Prop} (h : Opens P f.type d Wf) (ho : f.offset = o) (hc : P.cellsOf f.type = d.sz)
  (hr : OpensF P fs (o + d.sz) e Wg) : OpensF P (f :: fs) o (Kd.pair d e) (fun y => Wf y.1 ∧ Wg y.2) := by
 intro H enc w base spare held n cs hall hl
 have hsz : (Kd.pair d e).sz = d.sz + e.sz := rfl
 obtain ⟨x, hx⟩ := hall f (by simp)
 rw [ho, hc] at hx
 obtain ⟨y, hy, wy⟩ := h enc w base spare held n _ x hx
 obtain ⟨z, hz, wz⟩ := hr enc w base spare held n cs (fun g hg => hall g (List.mem_cons_of_mem _ hg)) (by omega)
 refine ⟨(y, z), ⟨(cs.drop o).take d.sz, cs.drop (o + d.sz), ?_, hy, hz⟩, wy, wz⟩
 rw [← List.drop_drop, List.take_append_drop]
theorem Opens.struct {α β : Type} {P : Program} {t : TypeId} {fs : Array Field} {d : Kd α} {Wf : α → Prop} (ht : P.underlying t = some (.struct fs)) (hc : P.cellsOf t = d.sz) (h : OpensF P fs.toList 0 d Wf) (f : β → α) (g : α → β) (hfg : ∀ y, f (g y) = y) :
  Opens P t (Kd.iso d f) (fun b => Wf (f b)) := by
 intro H enc w base spare held fuel cs x hx
 obtain ⟨xs, n, _, _, hl, hn, hel⟩ := DataW.trod_struct ht hx
 obtain ⟨y, hy, wy⟩ := h enc w base spare held n cs (fun fd hfd => by
  obtain ⟨i, hi, he⟩ := List.getElem_of_mem hfd
  have h1 := hel i fd (by simp only [Array.length_toList] at hi; rw [Array.getElem?_eq_getElem hi]; simpa using he)
  simp only [Array.length_toList] at hi
  rw [List.getElem?_eq_getElem (by omega)] at h1
  exact ⟨_, h1⟩) (by omega)
 refine ⟨g y, ?_, ?_⟩
 ·
  show d.K w (f (g y)) cs
  rw [hfg]; simpa using hy
 ·
  show Wf (f (g y))
  rw [hfg]; exact wy
theorem add_of_add (a : Addr) (i j : Nat) : (a.add i).add j = a.add (i + j) := by
 unfold Addr.add
 by_cases hi : i = 0 <;> by_cases hj : j = 0 <;> simp [hi, hj, Nat.add_assoc]
theorem list_of {α : Type} {p : Nat → α → Prop} (n : Nat) (h : ∀ i, i < n → ∃ x, p i x) : ∃ xs : List α, xs.length = n ∧ ∀ i x, xs[i]? = some x → p i x := by
 induction n with
 | zero => exact ⟨[], rfl, by simp⟩
 | succ n ih =>
  obtain ⟨xs, hl, hx⟩ := ih (fun i hi => h i (by omega))
  obtain ⟨y, hy⟩ := h n (by omega)
  refine ⟨xs ++ [y], by simp [hl], fun i x hi => ?_⟩
  rcases Nat.lt_or_ge i n with h' | h'
  ·
   rw [List.getElem?_append_left (by omega)] at hi
   exact hx i x hi
  ·
   rw [List.getElem?_append_right (by omega)] at hi
   have : i = n := by
    rcases Nat.lt_or_ge (i - xs.length) 1 with h1 | h1
    ·
     omega
    ·
     rw [List.getElem?_eq_none (by simpa using h1)] at hi; cases hi
   subst this
   rw [show i - xs.length = 0 by omega] at hi
   simp only [List.getElem?_cons_zero, Option.some.injEq] at hi
   rw [← hi]; exact hy
theorem Opens.slice {α : Type} {P : Program} {t e : TypeId} {d : Kd α} {Wf : α → Prop} (ht : P.underlying t = some (.slice e)) (hc : P.cellsOf e = d.sz) (h : Opens P e d Wf) :
  Opens P t (Kd.slice e d) (fun xs => (∀ x ∈ xs, Wf x) ∧ xs.length ≤ maxLen) := by
 intro H enc w base spare held fuel cs x hx
 rcases DataW.trod_slice ht hx with ⟨rfl, _⟩ | ⟨a, len, cap, elems, rest, n, _, rfl, _, _, hl, hm, hlen, hel, _, _⟩
 ·
  exact ⟨[], ⟨none, 0, rfl, Nat.le_refl _, ⟨rfl, by simp, fun h => absurd h (by simp)⟩⟩, by simp, by simp⟩
 ·
  have each : ∀ i, i < len → ∃ y : α, (∃ c, c.length = d.sz ∧ d.K w y c ∧ ∀ j u, c[j]? = some u → w.cell? (a.add (i * d.sz + j)) = some u) ∧ Wf y := by
   intro i hi
   have h1 := hel i hi
   rw [List.getElem?_eq_getElem (by omega), hc] at h1
   obtain ⟨c, hc1, hc2⟩ := Option.bind_eq_some_iff.1 h1
   obtain ⟨y, hy, wy⟩ := h enc w base spare held n c _ hc2
   obtain ⟨_, hcl, hcc⟩ := World.cells?_some hc1
   refine ⟨y, ⟨c, hcl, hy, fun j u hu => ?_⟩, wy⟩
   have hj : j < d.sz := by
    rw [← hcl]
    rcases Nat.lt_or_ge j c.length with h' | h'
    ·
     exact h'
    ·
     rw [List.getElem?_eq_none h'] at hu; cases hu
   rw [← add_of_add, hcc j hj, hu]
  obtain ⟨ys, hyl, hy⟩ := list_of len each
  have hml : ys.length ≤ maxLen := by omega
  refine ⟨ys, ⟨some a, cap, by rw [hyl], by omega, ⟨rfl, by simpa only [maxLen] using hml, fun _ => ⟨a, rfl, fun j p hp => (hy j p hp).1⟩⟩⟩, fun y hmem => ?_, hml⟩
  obtain ⟨i, hi, rfl⟩ := List.getElem_of_mem hmem
  exact (hy i _ (List.getElem?_eq_getElem hi)).2
end Go.Proofs.Ytlffkbcaphhldaa.Opn
