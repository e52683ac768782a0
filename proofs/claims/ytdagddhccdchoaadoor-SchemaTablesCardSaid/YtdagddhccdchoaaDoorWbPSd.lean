/- The examples, and the laws on names, tables, orders, fits: plain. -/
import Derived.Test.YtdagddhccdchoaaDoorWbQx9
import Derived.Test.YtdagddhccdchoaaDoorWbQx12
import Derived.Test.YtdagddhccdchoaaDoorWbQx16
import Derived.Test.YtdagddhccdchoaaDoorWbPSc
set_option linter.unusedVariables false
set_option linter.unusedSimpArgs false
namespace Go.Proofs.YtdagddhccdchoaaDoor.Pl
open Go.RowKit Go.Proofs.YtdagddhccdchoaaDoorW.PrintWords
open Go.Proofs.YtdagddhccdchoaaDoor.Q
theorem nm1 (s : ByteArray) (h : okFrom s s.size 0 = true) (h1 : 1 ≤ s.size) (h2 : s.size ≤ 16) (h3 : 97 ≤ bt s 0) (h4 : bt s 0 ≤ 122) (h5 : words.contains s.data.toList = false) : nameS s = true := by
 have hi := (idx_ok s s.size 0 (by omega)).2 h
 have : decide (Lib.idxFunc badRune true s < 0) = true := decide_eq_true hi
 unfold nameS nameB
 rw [isWord_is, h5, this, decide_eq_true h1, decide_eq_true h2, decide_eq_true h3, decide_eq_true h4]; rfl
theorem nm_t : nameS ⟨#[116]⟩ = true := nm1 _ (by decide +kernel) (by decide) (by decide) (by decide +kernel) (by decide +kernel) (by decide +kernel)
theorem nm_k : nameS ⟨#[107]⟩ = true := nm1 _ (by decide +kernel) (by decide) (by decide) (by decide +kernel) (by decide +kernel) (by decide +kernel)
theorem nm_r : nameS ⟨#[114]⟩ = true := nm1 _ (by decide +kernel) (by decide) (by decide) (by decide +kernel) (by decide +kernel) (by decide +kernel)
theorem nm_a : nameS ⟨#[97]⟩ = true := nm1 _ (by decide +kernel) (by decide) (by decide) (by decide +kernel) (by decide +kernel) (by decide +kernel)
theorem nm_b : nameS ⟨#[98]⟩ = true := nm1 _ (by decide +kernel) (by decide) (by decide) (by decide +kernel) (by decide +kernel) (by decide +kernel)
theorem nm_select : nameS ⟨#[115, 101, 108, 101, 99, 116]⟩ = false := by unfold nameS; rw [isWord_is, show words.contains (⟨#[115, 101, 108, 101, 99, 116]⟩ : ByteArray).data.toList = true by decide +kernel]; rfl
theorem ex_bad : tabE ⟨#[116]⟩ ⟨#[107]⟩ ⟨#[114]⟩ [⟨⟨#[97]⟩, 1⟩, ⟨⟨#[97]⟩, 2⟩] = 5 := by
 unfold tabE
 rw [nm_t, if_neg (by decide), if_neg (by simp [tabNames, nm_k, nm_r, nm_a]), if_neg (by decide), if_neg (by decide), if_pos (by rw [twice_is]; decide +kernel)]
theorem ex_good : tabE ⟨#[116]⟩ ⟨#[107]⟩ ⟨#[114]⟩ [⟨⟨#[97]⟩, 1⟩, ⟨⟨#[98]⟩, 2⟩] = 0 := by
 unfold tabE
 rw [nm_t, if_neg (by decide), if_neg (by simp [tabNames, nm_k, nm_r, nm_a, nm_b]), if_neg (by decide), if_neg (by decide), if_neg (by rw [twice_is]; decide +kernel)]
theorem lives (k : Nat) (hk : 100 < k) : skerrylaw17_lives.f k = some true := by
 unfold skerrylaw17_lives.f
 rw [Option.bind_some, order_f _ _ _ _ (by decide) _ (by decide) k (by simp; omega), Option.bind_some, table_f _ _ _ _ (by decide), Option.bind_some, ex_bad, if_pos rfl, table_f _ _ _ _ (by decide), Option.bind_some, ex_good, if_pos rfl]
 unfold schema_Name.f
 rw [Option.bind_some, nm_select, if_neg (by decide)]
 rw [if_pos (show ([(⟨#[98]⟩ : ByteArray), ⟨#[97]⟩, ⟨#[98]⟩].all fun s => (colR [(⟨⟨#[97]⟩, 1⟩ : Col), ⟨⟨#[98]⟩, 2⟩] s).2.2) = true by decide +kernel)]
 rw [if_pos rfl]
 have e : ordR [(⟨⟨#[97]⟩, 1⟩ : Col), ⟨⟨#[98]⟩, 2⟩] [(⟨#[98]⟩ : ByteArray), ⟨#[97]⟩, ⟨#[98]⟩] = [⟨#[97]⟩, ⟨#[98]⟩] := by decide +kernel
 rw [e, texts_self _ (by decide) k (by simp; omega)]; rfl
theorem lives_ev : Ev (fun k => skerrylaw17_lives.f k) true := ⟨101, fun k hk => lives k (by omega)⟩
theorem lives2 : Ev (fun k => (skerrylaw17_lives.f k).bind fun t => some t) true := Ev.bind lives_ev (Ev.now _)
theorem tables_ok (t0 t1 t2 : ByteArray) (l : List Col) (n : ByteArray) (cols : List ByteArray) : ∃ k, skerrylaw17_SchemaTables.f k t0 t1 t2 l n cols = some true := by
 have hj0 : ∀ b : Bool, (b = false → l.length ≤ 200 ∧ cols.length ≤ 200) → Ev (fun k => skerrylaw17_SchemaTables.j0 k n cols b t0 t1 t2 l) true := fun b hb => by
  cases b with
  | true => exact Ev.step (fun k => by rw [skerrylaw17_SchemaTables.j0, if_pos rfl]) lives2
  | false =>
   obtain ⟨h1, h2⟩ := hb rfl
   obtain ⟨K, hK⟩ := rtable t0 t1 t2 l (by omega)
   refine Ev.step (fun k => by rw [skerrylaw17_SchemaTables.j0, if_neg (by decide)]) ⟨K + 2000, fun k hk => ?_⟩
   have hord : ∀ p : List ByteArray × Bool, p = (if cols.all (fun s => (colR l s).2.2) = true then (ordR l cols, true) else ([], false)) → p.1.length ≤ 200 := fun p hp => by
    rw [hp]; split
    ·
     have := ordR_len l cols; simp; omega
    ·
     simp
   rw [scol_f _ _ _ l n k (by omega) (by omega), Option.bind_some, column_f _ _ _ l n k (by omega) (by omega), Option.bind_some, order_f _ _ _ cols (by omega) l (by omega) k (by omega), Option.bind_some, rorder_f _ _ _ cols (by omega) l (by omega), Option.bind_some, table_f _ _ _ l (by omega), Option.bind_some, show skerryref17_Table.f k t0 t1 t2 l = _ from hK k (by omega), Option.bind_some, if_pos rfl]
   rw [if_pos (by simp), if_pos (by simp)]
   generalize hp : (if cols.all (fun s => (colR l s).2.2) = true then (ordR l cols, true) else (([] : List ByteArray), false)) = p
   have := hord p hp.symm
   rw [texts_self _ (by omega) k (by omega), Option.bind_some, if_pos rfl, if_pos (by simp), lives k (by omega)]; rfl
 refine Ev.rounds ?_
 unfold skerrylaw17_SchemaTables.f
 by_cases h : (l.length : Int) > 200
 ·
  exact Ev.congr (fun k => if_pos h) (hj0 true (fun h => by cases h))
 ·
  exact Ev.congr (fun k => if_neg h) (hj0 _ (fun h2 => ⟨by omega, by have := of_decide_eq_false h2; omega⟩))
end Go.Proofs.YtdagddhccdchoaaDoor.Pl
