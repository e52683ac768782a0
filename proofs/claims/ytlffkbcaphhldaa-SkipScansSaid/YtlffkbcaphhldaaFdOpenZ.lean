/- From a row's reading of an argument to the print's words (Kd), with what its weights allow: plain lemmas, for any program. -/
import Derived.Test.YtlffkbcaphhldaaFdJ4
import Derived.ChangeArms
import Derived.OpenShut
import Derived.WideShapes
import Derived.ProofKit
import Derived.SizedLaws
import Derived.ShutString
import Derived.ChangeMaps
namespace Go.Proofs.Ytlffkbcaphhldaa.Opn
open Go.RowKit Go.Proofs.YtlffkbcaphhldaaW.PrintWords Go.ChangeShapes Go.WideShapes
def OpensZ {α : Type} (P : Program) (t : TypeId) (d : Kd α) (Wf : α → Prop) : Prop :=
 ∀ {H : Type} (enc : TypeId × Value → H) (w : World) (base : Nat) (spare : Nat → Bool) (held : Bool) (fuel : Nat) (cs : List Value) (x : DataW H × List MemPlace),
  DataW.trod enc P w base spare held fuel t cs = some x → (∀ n ∈ x.1.weights P t, n ≤ 140737488351232) → ∃ y : α, d.K w y cs ∧ Wf y
theorem OpensZ.of {α : Type} {P : Program} {t : TypeId} {d : Kd α} {Wf : α → Prop} (h : Opens P t d Wf) : OpensZ P t d Wf := fun enc w base spare held fuel cs x hx _ => h enc w base spare held fuel cs x hx
theorem OpensZ.imp {α : Type} {P : Program} {t : TypeId} {d : Kd α} {Wf Wg : α → Prop} (h : OpensZ P t d Wf) (f : ∀ y, Wf y → Wg y) : OpensZ P t d Wg := fun enc w base spare held fuel cs x hx hz => by
 obtain ⟨y, h1, h2⟩ := h enc w base spare held fuel cs x hx hz
 exact ⟨y, h1, f y h2⟩
theorem OpensZ.int {P : Program} {t : TypeId} {k : IntKind} (ht : P.underlying t = some (.int k)) : OpensZ P t (Kd.int k) (fun n => (Lit.int k n).wf = true)   := OpensZ.of (Opens.int ht)
theorem OpensZ.bool {P : Program} {t : TypeId} (ht : P.underlying t = some .bool) : OpensZ P t Kd.bool (fun _ => True)   := OpensZ.of (Opens.bool ht)
theorem OpensZ.string {P : Program} {t : TypeId} (ht : P.underlying t = some .string) : OpensZ P t Kd.string (fun s => s.size ≤ 140737488351232) := by
 intro H enc w base spare held fuel cs x h hz
 obtain ⟨s, rfl, rfl, hs⟩ := DataW.trod_string ht h
 exact ⟨s, rfl, by have := hz s.data.toList.length (by simp [DataW.weights]); rw [Array.length_toList] at this; exact this⟩
def OpensFZ {α : Type} (P : Program) : List Field → Nat → Kd α → (α → Prop) → Prop := fun fs o d Wf =>
 ∀ {H : Type} (enc : TypeId × Value → H) (w : World) (base : Nat) (spare : Nat → Bool) (held : Bool) (n : Nat) (cs : List Value),
  (∀ f ∈ fs, ∃ x, DataW.trod enc P w base spare held n f.type ((cs.drop f.offset).take (P.cellsOf f.type)) = some x ∧ ∀ m ∈ x.1.weights P f.type, m ≤ 140737488351232) → cs.length = o + d.sz → ∃ y : α, d.K w y (cs.drop o) ∧ Wf y
theorem OpensFZ.one {α : Type} {P : Program} {f : Field} {o : Nat} {d : Kd α} {Wf : α → Prop} (h : OpensZ P f.type d Wf) (ho : f.offset = o) (hc : P.cellsOf f.type = d.sz) : OpensFZ P [f] o d Wf := by
 intro H enc w base spare held n cs hall hl
 obtain ⟨x, hx, hz⟩ := hall f (by simp)
 rw [ho, hc, List.take_of_length_le (by rw [List.length_drop]; omega)] at hx
 exact h enc w base spare held n _ x hx hz
theorem OpensFZ.cons {α β : Type} {P : Program} {f : Field} {fs : List Field} {o : Nat} {d : Kd α} {e : Kd β} {Wf : α → Prop} {Wg : β → Prop} (h : OpensZ P f.type d Wf) (ho : f.offset = o) (hc : P.cellsOf f.type = d.sz)
  (hr : OpensFZ P fs (o + d.sz) e Wg) : OpensFZ P (f :: fs) o (Kd.pair d e) (fun y => Wf y.1 ∧ Wg y.2) := by
 intro H enc w base spare held n cs hall hl
 have hsz : (Kd.pair d e).sz = d.sz + e.sz := rfl
 obtain ⟨x, hx, hxz⟩ := hall f (by simp)
 rw [ho, hc] at hx
 obtain ⟨y, hy, wy⟩ := h enc w base spare held n _ x hx hxz
 obtain ⟨z, hz, wz⟩ := hr enc w base spare held n cs (fun g hg => hall g (List.mem_cons_of_mem _ hg)) (by omega)
 refine ⟨(y, z), ⟨(cs.drop o).take d.sz, cs.drop (o + d.sz), ?_, hy, hz⟩, wy, wz⟩
 rw [← List.drop_drop, List.take_append_drop]
theorem weightsEach_mem {H : Type} {P : Program} : ∀ {ts : List TypeId} {ds : List (DataW H)} {i : Nat} {t : TypeId} {d : DataW H}, ts[i]? = some t → ds[i]? = some d → ∀ m ∈ d.weights P t, m ∈ DataW.weightsEach P ts ds
 | [], _, i, t, d, h, _, _, _ => by simp at h
 | _ :: _, [], i, t, d, _, h, _, _ => by simp at h
 | t' :: ts, d' :: ds, 0, t, d, h, h', m, hm => by
  simp at h h'
  subst h h'
  simp [DataW.weightsEach, hm]
 | t' :: ts, d' :: ds, i + 1, t, d, h, h', m, hm => by
  simp [DataW.weightsEach, weightsEach_mem (ts := ts) (ds := ds) (i := i) (by simpa using h) (by simpa using h') m hm]
theorem OpensZ.struct {α β : Type} {P : Program} {t : TypeId} {fs : Array Field} {d : Kd α} {Wf : α → Prop} (ht : P.underlying t = some (.struct fs)) (hc : P.cellsOf t = d.sz) (h : OpensFZ P fs.toList 0 d Wf) (f : β → α) (g : α → β) (hfg : ∀ y, f (g y) = y) :
  OpensZ P t (Kd.iso d f) (fun b => Wf (f b)) := by
 intro H enc w base spare held fuel cs x hx hz
 obtain ⟨xs, n, _, rfl, hl, hn, hel⟩ := DataW.trod_struct ht hx
 obtain ⟨y, hy, wy⟩ := h enc w base spare held n cs (fun fd hfd => by
  obtain ⟨i, hi, he⟩ := List.getElem_of_mem hfd
  have hfi : fs[i]? = some fd := by simp only [Array.length_toList] at hi; rw [Array.getElem?_eq_getElem hi]; simpa using he
  have h1 := hel i fd hfi
  simp only [Array.length_toList] at hi
  rw [List.getElem?_eq_getElem (by omega)] at h1
  refine ⟨_, h1, fun m hm => hz m ?_⟩
  simp only [DataW.weights, ht]
  exact weightsEach_mem (i := i) (t := fd.type) (d := xs[i].1) (by rw [List.getElem?_map, Array.getElem?_toList, hfi]; rfl) (by rw [List.getElem?_map, List.getElem?_eq_getElem (by omega)]; rfl) m hm) (by omega)
 refine ⟨g y, ?_, ?_⟩
 ·
  show d.K w (f (g y)) cs
  rw [hfg]; simpa using hy
 ·
  show Wf (f (g y))
  rw [hfg]; exact wy
theorem weightsAll_mem {H : Type} {P : Program} {e : TypeId} : ∀ {l : List (DataW H)} {d : DataW H}, d ∈ l → ∀ n ∈ d.weights P e, n ∈ DataW.weightsAll P e l
 | d' :: r, d, hd, n, hn => by
  simp only [DataW.weightsAll, List.mem_append]
  rcases List.mem_cons.1 hd with rfl | h
  ·
   exact Or.inl hn
  ·
   exact Or.inr (weightsAll_mem h n hn)
theorem OpensZ.slice {α : Type} {P : Program} {t e : TypeId} {d : Kd α} {Wf : α → Prop} {B : Nat} (ht : P.underlying t = some (.slice e)) (hc : P.cellsOf e = d.sz) (hB : P.bytesOf e = B) (h : OpensZ P e d Wf) :
  OpensZ P t (Kd.slice e d) (fun xs => (∀ x ∈ xs, Wf x) ∧ xs.length * B ≤ 140737488351232 ∧ xs.length ≤ maxLen) := by
 intro H enc w base spare held fuel cs x hx hz
 rcases DataW.trod_slice ht hx with ⟨rfl, _⟩ | ⟨a, len, cap, elems, rest, n, _, rfl, rfl, _, hl, hm, hlen, hel, _, _⟩
 ·
  exact ⟨[], ⟨none, 0, rfl, Nat.le_refl _, ⟨rfl, by simp, fun h => absurd h (by simp)⟩⟩, by simp, by simp, by simp⟩
 ·
  have hw : (elems.length + rest.length) * B ≤ 140737488351232 := by
   have := hz ((elems.length + rest.length) * B) (by simp [DataW.weights, ht, hB])
   exact this
  have each : ∀ i, i < len → ∃ y : α, (∃ c, c.length = d.sz ∧ d.K w y c ∧ ∀ j u, c[j]? = some u → w.cell? (a.add (i * d.sz + j)) = some u) ∧ Wf y := by
   intro i hi
   have h1 := hel i hi
   rw [List.getElem?_eq_getElem (by omega), hc] at h1
   obtain ⟨c, hc1, hc2⟩ := Option.bind_eq_some_iff.1 h1
   obtain ⟨y, hy, wy⟩ := h enc w base spare held n c _ hc2 (fun m hm' => hz m (by
    simp only [DataW.weights, ht, List.mem_cons, List.mem_append]
    exact Or.inr (Or.inl (weightsAll_mem (d := elems[i].1) (List.mem_map.2 ⟨elems[i], List.getElem_mem (by omega), rfl⟩) m hm'))))
   obtain ⟨_, hcl, hcc⟩ := World.cells?_some hc1
   refine ⟨y, ⟨c, hcl, hy, fun j u hu => ?_⟩, wy⟩
   have hj : j < d.sz := by
    rw [← hcl]
    rcases Nat.lt_or_ge j c.length with h' | h'
    ·
     exact h'
    ·
     rw [List.getElem?_eq_none h'] at hu; cases hu
   rw [← add_of_add, hcc j hj, hu]
  obtain ⟨ys, hyl, hy⟩ := list_of len each
  have hml : ys.length ≤ maxLen := by omega
  refine ⟨ys, ⟨some a, cap, by rw [hyl], by omega, ⟨rfl, by simpa only [maxLen] using hml, fun _ => ⟨a, rfl, fun j p hp => (hy j p hp).1⟩⟩⟩, fun y hmem => ?_, ?_, hml⟩
  ·
   obtain ⟨i, hi, rfl⟩ := List.getElem_of_mem hmem
   exact (hy i _ (List.getElem?_eq_getElem hi)).2
  ·
   exact Nat.le_trans (Nat.mul_le_mul_right B (by omega)) hw
theorem weights_arg {H : Type} {P : Program} {ts : List TypeId} {ds : List (DataW H)} (h : (DataW.weightsEach P ts ds).all (· ≤ reachBytes) = true) {i : Nat} {t : TypeId} {d : DataW H} (ht : ts[i]? = some t) (hd : ds[i]? = some d) : ∀ m ∈ d.weights P t, m ≤ 140737488351232 :=
 fun m hm => of_decide_eq_true (List.all_eq_true.1 h m (weightsEach_mem ht hd m hm))
theorem open_structZ {α : Type} {P : Program} {t : TypeId} {fs : Array Field} {d : Kd α} {Wf : α → Prop} {H : Type} {enc : TypeId × Value → H} {w : World} {base : Nat} {spare : Nat → Bool} {held : Bool} {r : Reach} {b0 : Nat} {v : Value} {x : DataW H} {p : List MemPlace}
  (ho : OpensZ P t d Wf) (ht : P.underlying t = some (.struct fs)) (hv : Value.okWide P w r b0 t v) (h : DataW.Trod enc P w base spare held t v x p) (hz : ∀ m ∈ x.weights P t, m ≤ 140737488351232) : ∃ (y : α) (cs : List Value), v = .agg cs.toArray ∧ d.K w y cs ∧ Wf y := by
 simp only [Value.okWide, ht] at hv
 obtain ⟨cs, rfl, _⟩ := hv
 obtain ⟨fuel, hf⟩ := h
 obtain ⟨y, hy, wy⟩ := ho enc w base spare held fuel _ _ hf hz
 exact ⟨y, cs.toList, by simp, by simpa [Value.cells] using hy, wy⟩
theorem open_sliceZ {α : Type} {P : Program} {t e : TypeId} {d : Kd α} {Wf : α → Prop} {B : Nat} {H : Type} {enc : TypeId × Value → H} {w : World} {base : Nat} {spare : Nat → Bool} {held : Bool} {r : Reach} {b0 : Nat} {v : Value} {x : DataW H} {p : List MemPlace}
  (ht : P.underlying t = some (.slice e)) (hc : P.cellsOf e = d.sz) (hB : P.bytesOf e = B) (ho : OpensZ P e d Wf) (hv : Value.okWide P w r b0 t v) (h : DataW.Trod enc P w base spare held t v x p) (hz : ∀ m ∈ x.weights P t, m ≤ 140737488351232) :
  ∃ (A : Option Addr) (c : Nat) (ys : List α), v = .slice A ys.length c ∧ ys.length ≤ c ∧ d.C w A ys.length ys ∧ (∀ y ∈ ys, Wf y) ∧ ys.length * B ≤ 140737488351232 ∧ ys.length ≤ maxLen := by
 obtain ⟨a, len, cap, rfl⟩ := okWide_slice ht hv
 obtain ⟨fuel, hf⟩ := h
 obtain ⟨ys, ⟨A, c, he, hl, hC⟩, hw, hb, hm⟩ := OpensZ.slice ht hc hB ho enc w base spare held fuel _ _ hf hz
 have he : [Value.slice a len cap] = [Value.slice A ys.length c] := by simpa [Value.cells] using he
 injection he with he
 exact ⟨A, c, ys, he, hl, hC, hw, hb, hm⟩
end Go.Proofs.Ytlffkbcaphhldaa.Opn
