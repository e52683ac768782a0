/- Tables: plain. -/
import Derived.Test.YtdagddhccdchoaaDoorWeQx7
import Derived.Test.YtdagddhccdchoaaDoorWeJ10
import Derived.Test.YtdagddhccdchoaaDoorWeQx3
import Derived.Test.YtdagddhccdchoaaDoorWeQx9
import Derived.Test.YtdagddhccdchoaaDoorWePSb
import Derived.Test.YtdagddhccdchoaaDoorWeQx4
import Derived.Test.YtdagddhccdchoaaDoorWeQx6
import Derived.Test.YtdagddhccdchoaaDoorWeQx8
set_option linter.unusedVariables false
set_option linter.unusedSimpArgs false
namespace Go.Proofs.YtdagddhccdchoaaDoor.Pl
open Go.RowKit Go.Proofs.YtdagddhccdchoaaDoorW.PrintWords
open Go.Proofs.YtdagddhccdchoaaDoor.Q
theorem compact_lt (zs : List (List UInt8)) : (Lib.compact zs).length < zs.length ↔ ∃ j, 0 < j ∧ ∃ h : j < zs.length, zs[j] = zs[j - 1]'(by omega) := by
 unfold Lib.compact Lib.compactUpTo
 have h1 : (((List.range zs.length).filter (Lib.keeps zs.toArray)).map (zs.toArray[·]!)).length = ((List.range zs.length).filter (Lib.keeps zs.toArray)).length := List.length_map _
 rw [h1]
 have h2 : zs.length = (List.range zs.length).length := by simp
 conv => lhs; rhs; rw [h2]
 rw [List.length_filter_lt_length_iff_exists]
 constructor
 ·
  rintro ⟨j, hj, hk⟩
  rw [List.mem_range] at hj
  have hk2 : Lib.keeps zs.toArray j = false := by simpa using hk
  unfold Lib.keeps at hk2
  simp only [Bool.or_eq_false_iff, decide_eq_false_iff_not] at hk2
  have hk3 := not_or.1 hk2
  have h3 := Decidable.not_not.1 hk3.2
  refine ⟨j, Nat.pos_of_ne_zero hk3.1, hj, ?_⟩
  rw [getElem!_pos zs.toArray j (by simpa using hj), getElem!_pos zs.toArray (j - 1) (by simp; omega)] at h3
  simpa using h3
 ·
  rintro ⟨j, h0, hj, he⟩
  refine ⟨j, List.mem_range.2 hj, ?_⟩
  rw [Lib.keeps_neg h0 (by rw [getElem!_pos _ j (by simpa using hj), getElem!_pos _ (j - 1) (by simp; omega)]; simpa using he)]
  decide
theorem le_tr (a b c : List UInt8) (h1 : decide (a ≤ b) = true) (h2 : decide (b ≤ c) = true) : decide (a ≤ c) = true := decide_eq_true (List.le_trans (of_decide_eq_true h1) (of_decide_eq_true h2))
theorem le_tot (a b : List UInt8) : (decide (a ≤ b) || decide (b ≤ a)) = true := by
 rcases List.le_total a b with h | h <;> simp [h]
theorem twice_is (ns : List ByteArray) : twice ns = decide (¬ (ns.map Srt.lets).Nodup) := by
 unfold twice
 refine decide_eq_decide.2 ?_
 have hl : (Srt.srtS ns).length = ns.length := by unfold Srt.srtS; simp
 have hp : (Srt.srtS ns).Perm (ns.map Srt.lets) := List.mergeSort_perm _ _
 have hs : (Srt.srtS ns).Pairwise (fun a b => decide (a ≤ b) = true) := List.pairwise_mergeSort le_tr le_tot _
 rw [← hl, compact_lt, ← hp.nodup_iff]
 generalize Srt.srtS ns = zs at hs
 constructor
 ·
  rintro ⟨j, h0, hj, he⟩ hn
  have := List.pairwise_iff_getElem.1 hn (j - 1) j (by omega) hj (by omega)
  exact this he.symm
 ·
  intro hn
  have : ∃ i j, ∃ (h1 : i < j) (h2 : j < zs.length), zs[i]'(by omega) = zs[j] := by
   refine Classical.byContradiction fun hc => hn (List.pairwise_iff_getElem.2 fun i j hi hj hij e => hc ⟨i, j, hij, hj, e⟩)
  obtain ⟨i, j, hij, hj, e⟩ := this
  refine ⟨i + 1, by omega, by omega, ?_⟩
  have h1 : zs[i]'(by omega) ≤ zs[i + 1]'(by omega) := of_decide_eq_true (List.pairwise_iff_getElem.1 hs i (i + 1) (by omega) (by omega) (by omega))
  have h2 : zs[i + 1]'(by omega) ≤ zs[i]'(by omega) := by
   rw [e]
   rcases Nat.lt_or_ge (i + 1) j with h | h
   ·
    exact of_decide_eq_true (List.pairwise_iff_getElem.1 hs (i + 1) j (by omega) (by omega) h)
   ·
    obtain rfl : i + 1 = j := by omega
    exact List.le_refl _
  exact List.le_antisymm h2 h1
theorem table_f (t0 t1 t2 : ByteArray) (l : List Col) (hl : l.length ≤ 6000000000000) : schema_Table.f t0 t1 t2 l = some (tabE t0 t1 t2 l) := by unfold schema_Table.f; rw [if_pos hl]
end Go.Proofs.YtdagddhccdchoaaDoor.Pl
set_option linter.unusedVariables false
set_option linter.unusedSimpArgs false
namespace Go.Proofs.YtdagddhccdchoaaDoor.Pl
open Go.RowKit Go.Proofs.YtdagddhccdchoaaDoorW.PrintWords
open Go.Proofs.YtdagddhccdchoaaDoor.Q
theorem nm1 (s : ByteArray) (h : okFrom s s.size 0 = true) (h1 : 1 ≤ s.size) (h2 : s.size ≤ 16) (h3 : 97 ≤ bt s 0) (h4 : bt s 0 ≤ 122) (h5 : words.contains s.data.toList = false) : nameS s = true := by
 have hi := (idx_ok s s.size 0 (by omega)).2 h
 have : decide (Lib.idxFunc badRune true s < 0) = true := decide_eq_true hi
 unfold nameS nameB
 rw [isWord_is, h5, this, decide_eq_true h1, decide_eq_true h2, decide_eq_true h3, decide_eq_true h4]; rfl
theorem nm_t : nameS ⟨#[116]⟩ = true := nm1 _ (by decide +kernel) (by decide) (by decide) (by decide +kernel) (by decide +kernel) (by decide +kernel)
theorem nm_k : nameS ⟨#[107]⟩ = true := nm1 _ (by decide +kernel) (by decide) (by decide) (by decide +kernel) (by decide +kernel) (by decide +kernel)
theorem nm_r : nameS ⟨#[114]⟩ = true := nm1 _ (by decide +kernel) (by decide) (by decide) (by decide +kernel) (by decide +kernel) (by decide +kernel)
theorem nm_a : nameS ⟨#[97]⟩ = true := nm1 _ (by decide +kernel) (by decide) (by decide) (by decide +kernel) (by decide +kernel) (by decide +kernel)
theorem nm_b : nameS ⟨#[98]⟩ = true := nm1 _ (by decide +kernel) (by decide) (by decide) (by decide +kernel) (by decide +kernel) (by decide +kernel)
theorem nm_select : nameS ⟨#[115, 101, 108, 101, 99, 116]⟩ = false := by unfold nameS; rw [isWord_is, show words.contains (⟨#[115, 101, 108, 101, 99, 116]⟩ : ByteArray).data.toList = true by decide +kernel]; rfl
theorem ex_bad : tabE ⟨#[116]⟩ ⟨#[107]⟩ ⟨#[114]⟩ [⟨⟨#[97]⟩, 1⟩, ⟨⟨#[97]⟩, 2⟩] = 5 := by
 unfold tabE
 rw [nm_t, if_neg (by decide), if_neg (by simp [tabNames, nm_k, nm_r, nm_a]), if_neg (by decide), if_neg (by decide), if_pos (by rw [twice_is]; decide +kernel)]
theorem ex_good : tabE ⟨#[116]⟩ ⟨#[107]⟩ ⟨#[114]⟩ [⟨⟨#[97]⟩, 1⟩, ⟨⟨#[98]⟩, 2⟩] = 0 := by
 unfold tabE
 rw [nm_t, if_neg (by decide), if_neg (by simp [tabNames, nm_k, nm_r, nm_a, nm_b]), if_neg (by decide), if_neg (by decide), if_neg (by rw [twice_is]; decide +kernel)]
theorem lives (k : Nat) (hk : 100 < k) : skerrylaw17_lives.f k = some true := by
 unfold skerrylaw17_lives.f
 rw [Option.bind_some, order_f _ _ _ _ (by decide) _ (by decide) k (by simp; omega), Option.bind_some, table_f _ _ _ _ (by decide), Option.bind_some, ex_bad, if_pos rfl, table_f _ _ _ _ (by decide), Option.bind_some, ex_good, if_pos rfl]
 unfold schema_Name.f
 rw [Option.bind_some, nm_select, if_neg (by decide)]
 rw [if_pos (show ([(⟨#[98]⟩ : ByteArray), ⟨#[97]⟩, ⟨#[98]⟩].all fun s => (colR [(⟨⟨#[97]⟩, 1⟩ : Col), ⟨⟨#[98]⟩, 2⟩] s).2.2) = true by decide +kernel)]
 rw [if_pos rfl]
 have e : ordR [(⟨⟨#[97]⟩, 1⟩ : Col), ⟨⟨#[98]⟩, 2⟩] [(⟨#[98]⟩ : ByteArray), ⟨#[97]⟩, ⟨#[98]⟩] = [⟨#[97]⟩, ⟨#[98]⟩] := by decide +kernel
 rw [e, texts_self _ (by decide) k (by simp; omega)]; rfl
end Go.Proofs.YtdagddhccdchoaaDoor.Pl
