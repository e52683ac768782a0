/- The structs of cells: what reads as one, and is no heavier than a row's data may be. -/
import Derived.Test.YtabiekkebdocnaaZeQx6
import Derived.Test.YtabiekkebdocnaaZeJ13
import Derived.Test.YtabiekkebdocnaaRows
import Derived.Deep.CondSized
namespace Go.Proofs.Ytabiekkebdocnaa.Opn
open Go.RowKit Go.Proofs.YtabiekkebdocnaaW.PrintWords Go.ChangeShapes Go.WideShapes
open Go.Proofs.Ytabiekkebdocnaa.Q
set_option linter.unusedVariables false
set_option linter.unusedSimpArgs false
def WK (x : S33) : Prop := x.f0.size ≤ 140737488351232 ∧ x.f1.size ≤ 140737488351232 ∧ (Lit.int .i64 x.f2).wf = true ∧ x.f3.size ≤ 140737488351232
def WV (x : S35) : Prop := (Lit.int .i64 x.f0).wf = true ∧ (Lit.int .i64 x.f1).wf = true ∧ x.f2.size ≤ 140737488351232
def WVer (x : S37) : Prop := (Lit.int .i64 x.f0).wf = true ∧ True ∧ (Lit.int .i64 x.f2).wf = true ∧ WV x.f3
def WC (x : S39) : Prop := WK x.f0 ∧ WVer x.f1
theorem z33 : OpensZ Try.prog 33 k33 WK :=
 OpensZ.struct (f := fun x : S33 => (x.f0, x.f1, x.f2, x.f3)) Try.underlying33 (by kernel_rfl)
  (OpensFZ.cons (OpensZ.string Try.underlying9) rfl (by kernel_rfl) (OpensFZ.cons (OpensZ.string Try.underlying9) rfl (by kernel_rfl)
   (OpensFZ.cons (OpensZ.int Try.underlying3) rfl (by kernel_rfl) (OpensFZ.one (OpensZ.string Try.underlying9) rfl (by kernel_rfl)))))
  (fun y => ⟨y.1, y.2.1, y.2.2.1, y.2.2.2⟩) (fun _ => rfl)
theorem z35 : OpensZ Try.prog 35 k35 WV :=
 OpensZ.struct (f := fun x : S35 => (x.f0, x.f1, x.f2)) Try.underlying35 (by kernel_rfl)
  (OpensFZ.cons (OpensZ.int Try.underlying3) rfl (by kernel_rfl) (OpensFZ.cons (OpensZ.int Try.underlying3) rfl (by kernel_rfl) (OpensFZ.one (OpensZ.string Try.underlying9) rfl (by kernel_rfl))))
  (fun y => ⟨y.1, y.2.1, y.2.2⟩) (fun _ => rfl)
theorem z37 : OpensZ Try.prog 37 k37 WVer :=
 OpensZ.struct (f := fun x : S37 => (x.f0, x.f1, x.f2, x.f3)) Try.underlying37 (by kernel_rfl)
  (OpensFZ.cons (OpensZ.int Try.underlying3) rfl (by kernel_rfl) (OpensFZ.cons (OpensZ.bool Try.underlying4) rfl (by kernel_rfl) (OpensFZ.cons (OpensZ.int Try.underlying3) rfl (by kernel_rfl) (OpensFZ.one z35 rfl (by kernel_rfl)))))
  (fun y => ⟨y.1, y.2.1, y.2.2.1, y.2.2.2⟩) (fun _ => rfl)
theorem z39 : OpensZ Try.prog 39 k39 WC :=
 OpensZ.struct (f := fun x : S39 => (x.f0, x.f1)) Try.underlying39 (by kernel_rfl)
  (OpensFZ.cons z33 rfl (by kernel_rfl) (OpensFZ.one z37 rfl (by kernel_rfl))) (fun y => ⟨y.1, y.2⟩) (fun _ => rfl)
end Go.Proofs.Ytabiekkebdocnaa.Opn
namespace Go.Proofs.Ytabiekkebdocnaa.Opn
open Go.RowKit Go.Proofs.YtabiekkebdocnaaW.PrintWords Go.ChangeShapes Go.WideShapes
set_option linter.unusedVariables false
set_option linter.unusedSimpArgs false
theorem bulk_one {H : Type} (d : DataW H) : 1 ≤ Rows.uptoBulk d := by
 cases d with
 | lit l => cases l <;> simp [Rows.uptoBulk]
 | nil => simp [Rows.uptoBulk]
 | ptr d => simp [Rows.uptoBulk]
 | slice elems spare => simp [Rows.uptoBulk]
 | agg parts => simp [Rows.uptoBulk]
 | iface t d => simp [Rows.uptoBulk]
 | map entries => simp [Rows.uptoBulk]
 | held h => simp [Rows.uptoBulk]
theorem bulk_bound {H : Type} {l : List (DataW H)} (hk : Rows.uptoSmall H l = true) : Rows.uptoBulkAll l ≤ 1048576 := of_decide_eq_true hk
def OpensM {α : Type} (P : Program) (t : TypeId) (d : Kd α) (Wf : α → Prop) (sz : α → Nat) : Prop :=
 ∀ {H : Type} (enc : TypeId × Value → H) (w : World) (base : Nat) (spare : Nat → Bool) (held : Bool) (fuel : Nat) (cs : List Value) (x : DataW H × List MemPlace),
  DataW.trod enc P w base spare held fuel t cs = some x → (∀ n ∈ x.1.weights P t, n ≤ 140737488351232) → ∃ y : α, d.K w y cs ∧ Wf y ∧ sz y ≤ Rows.uptoBulk x.1
theorem OpensM.of {α : Type} {P : Program} {t : TypeId} {d : Kd α} {Wf : α → Prop} (h : OpensZ P t d Wf) : OpensM P t d Wf fun _ => 1 := fun enc w base spare held fuel cs x hx hz => by
 obtain ⟨y, h1, h2⟩ := h enc w base spare held fuel cs x hx hz
 exact ⟨y, h1, h2, bulk_one _⟩
theorem bulk_sum {α H : Type} {sz : α → Nat} : ∀ (ys : List α) (es : List (DataW H)), ys.length ≤ es.length → (∀ (i : Nat) (y : α) (e : DataW H), ys[i]? = some y → es[i]? = some e → sz y ≤ Rows.uptoBulk e) → (ys.map sz).sum ≤ Rows.uptoBulkAll es
 | [], es, _, _ => Nat.zero_le _
 | y :: ys, [], h, _ => by simp at h
 | y :: ys, e :: es, h, hy => by
  have h1 := hy 0 y e rfl rfl
  have h2 := bulk_sum ys es (by simpa using h) (fun i y e h3 h4 => hy (i + 1) y e (by simpa using h3) (by simpa using h4))
  simp only [List.map_cons, List.sum_cons, Rows.uptoBulkAll]
  omega
theorem OpensM.slice {α : Type} {P : Program} {t e : TypeId} {d : Kd α} {Wf : α → Prop} {sz : α → Nat} {B : Nat} (ht : P.underlying t = some (.slice e)) (hc : P.cellsOf e = d.sz) (hB : P.bytesOf e = B) (h : OpensM P e d Wf sz) :
  OpensM P t (Kd.slice e d) (fun xs => (∀ x ∈ xs, Wf x) ∧ xs.length * B ≤ 140737488351232 ∧ xs.length ≤ maxLen) (fun xs => (xs.map sz).sum + 1) := by
 intro H enc w base spare held fuel cs x hx hz
 rcases DataW.trod_slice ht hx with ⟨rfl, _⟩ | ⟨a, len, cap, elems, rest, n, _, rfl, rfl, _, hl, hm, hlen, hel, _, _⟩
 ·
  exact ⟨[], ⟨none, 0, rfl, Nat.le_refl _, ⟨rfl, by simp, fun h => absurd h (by simp)⟩⟩, by simp, by simpa using bulk_one _⟩
 ·
  have hw : (elems.length + rest.length) * B ≤ 140737488351232 := by
   have := hz ((elems.length + rest.length) * B) (by simp [DataW.weights, ht, hB])
   exact this
  have each : ∀ i, i < len → ∃ y : α, (∃ c, c.length = d.sz ∧ d.K w y c ∧ ∀ j u, c[j]? = some u → w.cell? (a.add (i * d.sz + j)) = some u) ∧ Wf y ∧ ∀ e, elems[i]? = some e → sz y ≤ Rows.uptoBulk e.1 := by
   intro i hi
   have h1 := hel i hi
   rw [List.getElem?_eq_getElem (by omega), hc] at h1
   obtain ⟨c, hc1, hc2⟩ := Option.bind_eq_some_iff.1 h1
   obtain ⟨y, hy, wy, sy⟩ := h enc w base spare held n c _ hc2 (fun m hm' => hz m (by
    simp only [DataW.weights, ht, List.mem_cons, List.mem_append]
    exact Or.inr (Or.inl (weightsAll_mem (d := elems[i].1) (List.mem_map.2 ⟨elems[i], List.getElem_mem (by omega), rfl⟩) m hm'))))
   obtain ⟨_, hcl, hcc⟩ := World.cells?_some hc1
   refine ⟨y, ⟨c, hcl, hy, fun j u hu => ?_⟩, wy, fun e he => ?_⟩
   ·
    have hj : j < d.sz := by
     rw [← hcl]
     rcases Nat.lt_or_ge j c.length with h' | h'
     ·
      exact h'
     ·
      rw [List.getElem?_eq_none h'] at hu; cases hu
    rw [← add_of_add, hcc j hj, hu]
   ·
    rw [List.getElem?_eq_getElem (by omega)] at he
    injection he with he
    rw [← he]; exact sy
  obtain ⟨ys, hyl, hy⟩ := list_of len each
  have hml : ys.length ≤ maxLen := by omega
  refine ⟨ys, ⟨some a, cap, by rw [hyl], by omega, ⟨rfl, by simpa only [maxLen] using hml, fun _ => ⟨a, rfl, fun j p hp => (hy j p hp).1⟩⟩⟩, ⟨fun y hmem => ?_, ?_, hml⟩, ?_⟩
  ·
   obtain ⟨i, hi, rfl⟩ := List.getElem_of_mem hmem
   exact (hy i _ (List.getElem?_eq_getElem hi)).2.1
  ·
   exact Nat.le_trans (Nat.mul_le_mul_right B (by omega)) hw
  ·
   have hs := bulk_sum (sz := sz) ys (elems.map Prod.fst) (by rw [List.length_map]; omega) (fun i y e h1 h2 => by
    rw [List.getElem?_map] at h2
    obtain ⟨e', h3, h4⟩ := Option.map_eq_some_iff.1 h2
    rw [← h4]
    exact (hy i y h1).2.2 e' h3)
   show (ys.map sz).sum + 1 ≤ Rows.uptoBulkAll (elems.map Prod.fst) + _ + 1
   exact Nat.succ_le_succ (Nat.le_trans hs (Nat.le_add_right _ _))
theorem open_sliceM {α : Type} {P : Program} {t e : TypeId} {d : Kd α} {Wf : α → Prop} {sz : α → Nat} {B : Nat} {H : Type} {enc : TypeId × Value → H} {w : World} {base : Nat} {spare : Nat → Bool} {held : Bool} {r : Reach} {b0 : Nat} {v : Value} {x : DataW H} {p : List MemPlace}
  (ht : P.underlying t = some (.slice e)) (hc : P.cellsOf e = d.sz) (hB : P.bytesOf e = B) (ho : OpensM P e d Wf sz) (hv : Value.okWide P w r b0 t v) (h : DataW.Trod enc P w base spare held t v x p) (hz : ∀ m ∈ x.weights P t, m ≤ 140737488351232) :
  ∃ (A : Option Addr) (c : Nat) (ys : List α), v = .slice A ys.length c ∧ ys.length ≤ c ∧ d.C w A ys.length ys ∧ (∀ y ∈ ys, Wf y) ∧ ys.length * B ≤ 140737488351232 ∧ ys.length ≤ maxLen ∧ (ys.map sz).sum + 1 ≤ Rows.uptoBulk x := by
 obtain ⟨a, len, cap, rfl⟩ := okWide_slice ht hv
 obtain ⟨fuel, hf⟩ := h
 obtain ⟨ys, ⟨A, c, he, hl, hC⟩, ⟨hw, hb, hm⟩, hs⟩ := OpensM.slice ht hc hB ho enc w base spare held fuel _ _ hf hz
 have he : [Value.slice a len cap] = [Value.slice A ys.length c] := by simpa [Value.cells] using he
 injection he with he
 exact ⟨A, c, ys, he, hl, hC, hw, hb, hm, hs⟩
end Go.Proofs.Ytabiekkebdocnaa.Opn
