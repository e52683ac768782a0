/- The examples, and the laws on names, tables, orders, fits: plain. -/
import Derived.Test.YtdagddhccdchoaaDoorWaQx9
import Derived.Test.YtdagddhccdchoaaDoorWaQx12
import Derived.Test.YtdagddhccdchoaaDoorWaJ10
import Derived.Test.YtdagddhccdchoaaDoorWaQx4
import Derived.Test.YtdagddhccdchoaaDoorWaQx6
import Derived.Test.YtdagddhccdchoaaDoorWaQx7
import Derived.Test.YtdagddhccdchoaaDoorWaQx8
import Derived.Test.YtdagddhccdchoaaDoorWaPSc
set_option linter.unusedVariables false
set_option linter.unusedSimpArgs false
namespace Go.Proofs.YtdagddhccdchoaaDoor.Pl
open Go.RowKit Go.Proofs.YtdagddhccdchoaaDoorW.PrintWords
open Go.Proofs.YtdagddhccdchoaaDoor.Q
theorem nm1 (s : ByteArray) (h : okFrom s s.size 0 = true) (h1 : 1 ≤ s.size) (h2 : s.size ≤ 16) (h3 : 97 ≤ bt s 0) (h4 : bt s 0 ≤ 122) (h5 : words.contains s.data.toList = false) : nameS s = true := by
 have hi := (idx_ok s s.size 0 (by omega)).2 h
 have : decide (Lib.idxFunc badRune true s < 0) = true := decide_eq_true hi
 unfold nameS nameB
 rw [isWord_is, h5, this, decide_eq_true h1, decide_eq_true h2, decide_eq_true h3, decide_eq_true h4]; rfl
theorem nm_t : nameS ⟨#[116]⟩ = true := nm1 _ (by decide +kernel) (by decide) (by decide) (by decide +kernel) (by decide +kernel) (by decide +kernel)
theorem nm_k : nameS ⟨#[107]⟩ = true := nm1 _ (by decide +kernel) (by decide) (by decide) (by decide +kernel) (by decide +kernel) (by decide +kernel)
theorem nm_r : nameS ⟨#[114]⟩ = true := nm1 _ (by decide +kernel) (by decide) (by decide) (by decide +kernel) (by decide +kernel) (by decide +kernel)
theorem nm_a : nameS ⟨#[97]⟩ = true := nm1 _ (by decide +kernel) (by decide) (by decide) (by decide +kernel) (by decide +kernel) (by decide +kernel)
theorem nm_b : nameS ⟨#[98]⟩ = true := nm1 _ (by decide +kernel) (by decide) (by decide) (by decide +kernel) (by decide +kernel) (by decide +kernel)
theorem nm_select : nameS ⟨#[115, 101, 108, 101, 99, 116]⟩ = false := by unfold nameS; rw [isWord_is, show words.contains (⟨#[115, 101, 108, 101, 99, 116]⟩ : ByteArray).data.toList = true by decide +kernel]; rfl
theorem ex_bad : tabE ⟨#[116]⟩ ⟨#[107]⟩ ⟨#[114]⟩ [⟨⟨#[97]⟩, 1⟩, ⟨⟨#[97]⟩, 2⟩] = 5 := by
 unfold tabE
 rw [nm_t, if_neg (by decide), if_neg (by simp [tabNames, nm_k, nm_r, nm_a]), if_neg (by decide), if_neg (by decide), if_pos (by rw [twice_is]; decide +kernel)]
theorem ex_good : tabE ⟨#[116]⟩ ⟨#[107]⟩ ⟨#[114]⟩ [⟨⟨#[97]⟩, 1⟩, ⟨⟨#[98]⟩, 2⟩] = 0 := by
 unfold tabE
 rw [nm_t, if_neg (by decide), if_neg (by simp [tabNames, nm_k, nm_r, nm_a, nm_b]), if_neg (by decide), if_neg (by decide), if_neg (by rw [twice_is]; decide +kernel)]
theorem lives (k : Nat) (hk : 100 < k) : skerrylaw17_lives.f k = some true := by
 unfold skerrylaw17_lives.f
 rw [Option.bind_some, order_f _ _ _ _ (by decide) _ (by decide) k (by simp; omega), Option.bind_some, table_f _ _ _ _ (by decide), Option.bind_some, ex_bad, if_pos rfl, table_f _ _ _ _ (by decide), Option.bind_some, ex_good, if_pos rfl]
 unfold schema_Name.f
 rw [Option.bind_some, nm_select, if_neg (by decide)]
 rw [if_pos (show ([(⟨#[98]⟩ : ByteArray), ⟨#[97]⟩, ⟨#[98]⟩].all fun s => (colR [(⟨⟨#[97]⟩, 1⟩ : Col), ⟨⟨#[98]⟩, 2⟩] s).2.2) = true by decide +kernel)]
 rw [if_pos rfl]
 have e : ordR [(⟨⟨#[97]⟩, 1⟩ : Col), ⟨⟨#[98]⟩, 2⟩] [(⟨#[98]⟩ : ByteArray), ⟨#[97]⟩, ⟨#[98]⟩] = [⟨#[97]⟩, ⟨#[98]⟩] := by decide +kernel
 rw [e, texts_self _ (by decide) k (by simp; omega)]; rfl
theorem lives_ev : Ev (fun k => skerrylaw17_lives.f k) true := ⟨101, fun k hk => lives k (by omega)⟩
theorem lives2 : Ev (fun k => (skerrylaw17_lives.f k).bind fun t => some t) true := Ev.bind lives_ev (Ev.now _)
theorem names_ok (s : ByteArray) : ∃ k, skerrylaw17_SchemaNames.f k s = some true := by
 refine Ev.rounds ?_
 unfold skerrylaw17_SchemaNames.f
 by_cases h : (s.size : Int) > 10000
 ·
  exact Ev.congr (fun k => if_pos h) lives2
 ·
  refine Ev.congr (f := fun k => (skerryref17_Name.f k s).bind fun t152 => if (nameS s == t152) = true then (skerrylaw17_lives.f k).bind fun t153 => some t153 else none) (fun k => by rw [if_neg h]; rfl) ?_
  exact Ev.bind (name17 s) (Ev.congr (fun k => if_pos (by simp)) lives2)
end Go.Proofs.YtdagddhccdchoaaDoor.Pl
