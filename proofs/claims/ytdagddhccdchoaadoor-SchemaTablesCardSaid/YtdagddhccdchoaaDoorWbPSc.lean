/- Tables: plain. -/
import Derived.Test.YtdagddhccdchoaaDoorWbQx7
import Derived.Test.YtdagddhccdchoaaDoorWbQx15
import Derived.Test.YtdagddhccdchoaaDoorWbPSb
set_option linter.unusedVariables false
set_option linter.unusedSimpArgs false
namespace Go.Proofs.YtdagddhccdchoaaDoor.Pl
open Go.RowKit Go.Proofs.YtdagddhccdchoaaDoorW.PrintWords
open Go.Proofs.YtdagddhccdchoaaDoor.Q
theorem compact_lt (zs : List (List UInt8)) : (Lib.compact zs).length < zs.length ↔ ∃ j, 0 < j ∧ ∃ h : j < zs.length, zs[j] = zs[j - 1]'(by omega) := by
 unfold Lib.compact Lib.compactUpTo
 have h1 : (((List.range zs.length).filter (Lib.keeps zs.toArray)).map (zs.toArray[·]!)).length = ((List.range zs.length).filter (Lib.keeps zs.toArray)).length := List.length_map _
 rw [h1]
 have h2 : zs.length = (List.range zs.length).length := by simp
 conv => lhs; rhs; rw [h2]
 rw [List.length_filter_lt_length_iff_exists]
 constructor
 ·
  rintro ⟨j, hj, hk⟩
  rw [List.mem_range] at hj
  have hk2 : Lib.keeps zs.toArray j = false := by simpa using hk
  unfold Lib.keeps at hk2
  simp only [Bool.or_eq_false_iff, decide_eq_false_iff_not] at hk2
  have hk3 := not_or.1 hk2
  have h3 := Decidable.not_not.1 hk3.2
  refine ⟨j, Nat.pos_of_ne_zero hk3.1, hj, ?_⟩
  rw [getElem!_pos zs.toArray j (by simpa using hj), getElem!_pos zs.toArray (j - 1) (by simp; omega)] at h3
  simpa using h3
 ·
  rintro ⟨j, h0, hj, he⟩
  refine ⟨j, List.mem_range.2 hj, ?_⟩
  rw [Lib.keeps_neg h0 (by rw [getElem!_pos _ j (by simpa using hj), getElem!_pos _ (j - 1) (by simp; omega)]; simpa using he)]
  decide
theorem le_tr (a b c : List UInt8) (h1 : decide (a ≤ b) = true) (h2 : decide (b ≤ c) = true) : decide (a ≤ c) = true := decide_eq_true (List.le_trans (of_decide_eq_true h1) (of_decide_eq_true h2))
theorem le_tot (a b : List UInt8) : (decide (a ≤ b) || decide (b ≤ a)) = true := by
 rcases List.le_total a b with h | h <;> simp [h]
theorem twice_is (ns : List ByteArray) : twice ns = decide (¬ (ns.map Srt.lets).Nodup) := by
 unfold twice
 refine decide_eq_decide.2 ?_
 have hl : (Srt.srtS ns).length = ns.length := by unfold Srt.srtS; simp
 have hp : (Srt.srtS ns).Perm (ns.map Srt.lets) := List.mergeSort_perm _ _
 have hs : (Srt.srtS ns).Pairwise (fun a b => decide (a ≤ b) = true) := List.pairwise_mergeSort le_tr le_tot _
 rw [← hl, compact_lt, ← hp.nodup_iff]
 generalize Srt.srtS ns = zs at hs
 constructor
 ·
  rintro ⟨j, h0, hj, he⟩ hn
  have := List.pairwise_iff_getElem.1 hn (j - 1) j (by omega) hj (by omega)
  exact this he.symm
 ·
  intro hn
  have : ∃ i j, ∃ (h1 : i < j) (h2 : j < zs.length), zs[i]'(by omega) = zs[j] := by
   refine Classical.byContradiction fun hc => hn (List.pairwise_iff_getElem.2 fun i j hi hj hij e => hc ⟨i, j, hij, hj, e⟩)
  obtain ⟨i, j, hij, hj, e⟩ := this
  refine ⟨i + 1, by omega, by omega, ?_⟩
  have h1 : zs[i]'(by omega) ≤ zs[i + 1]'(by omega) := of_decide_eq_true (List.pairwise_iff_getElem.1 hs i (i + 1) (by omega) (by omega) (by omega))
  have h2 : zs[i + 1]'(by omega) ≤ zs[i]'(by omega) := by
   rw [e]
   rcases Nat.lt_or_ge (i + 1) j with h | h
   ·
    exact of_decide_eq_true (List.pairwise_iff_getElem.1 hs (i + 1) j (by omega) (by omega) h)
   ·
    obtain rfl : i + 1 = j := by omega
    exact List.le_refl _
  exact List.le_antisymm h2 h1
theorem tnames_len (t1 t2 : ByteArray) (l : List Col) : (tabNames t1 t2 l).length = l.length + 2 := by unfold tabNames; simp
theorem lets_eq (a b : ByteArray) : a.toList = b.toList ↔ Srt.lets a = Srt.lets b := by rw [Lib.toList_data, Lib.toList_data]; exact Iff.rfl
theorem tab_l4 (ns : List ByteArray) (hn : ns.length ≤ 1000) (i : Nat) (hi : i < ns.length) (r : Int) (K : Nat) (hK : (¬ ∃ p, ∃ h : p < i, Srt.lets (ns[p]'(by omega)) = Srt.lets ns[i]) → ∀ k, K ≤ k → skerryref17_Table.l3 k ns (ns.length : Int) ((i + 1 : Nat) : Int) = some r) :
  ∀ (d q k : Nat), q + d = i → K + d + 1 ≤ k → (∀ p, p < q → ∀ h : p < ns.length, Srt.lets ns[p] ≠ Srt.lets ns[i]) →
   skerryref17_Table.l4 k ns (i : Int) (q : Int) (ns.length : Int) (i : Int) = some (if ∃ p, ∃ h : p < i, Srt.lets (ns[p]'(by omega)) = Srt.lets ns[i] then 5 else r)
 | d, q, 0, _, h, _ => by omega
 | 0, q, k + 1, hd, hk, hp => by
  have hne : ¬ ∃ p, ∃ h : p < i, Srt.lets (ns[p]'(by omega)) = Srt.lets ns[i] := by
   rintro ⟨p, h, e⟩
   exact hp p (by omega) _ e
  rw [skerryref17_Table.l4, if_neg (by omega), wr_succ i (by omega), hK hne k (by omega), if_neg hne]
 | d + 1, q, k + 1, hd, hk, hp => by
  rw [skerryref17_Table.l4, if_pos (by omega), if_pos (by omega), if_pos (by omega), if_pos (by omega), if_pos (by omega), rdS ns q (by omega), rdS ns i hi]
  by_cases he : (ns[q]'(by omega)).toList = (ns[i]).toList
  ·
   rw [if_pos he, if_pos ⟨q, by omega, (lets_eq _ _).1 he⟩]
  ·
   rw [if_neg he, wr_succ q (by omega)]
   refine tab_l4 ns hn i hi r K hK d (q + 1) k (by omega) (by omega) (fun p hpq h e => ?_)
   rcases Nat.lt_or_ge p q with h' | h'
   ·
    exact hp p h' h e
   ·
    obtain rfl : p = q := by omega
    exact he ((lets_eq _ _).2 e)
theorem nodup_take (zs : List (List UInt8)) (i : Nat) (hi : i < zs.length) (h : (zs.take i).Nodup) : (zs.take (i + 1)).Nodup ↔ ¬ ∃ p, ∃ h : p < i, zs[p]'(by omega) = zs[i] := by
 rw [List.take_succ_eq_append_getElem hi]
 unfold List.Nodup at *
 rw [List.pairwise_append]
 constructor
 ·
  rintro ⟨_, _, h3⟩ ⟨p, hp, e⟩
  exact h3 (zs[p]'(by omega)) (List.mem_take_iff_getElem.2 ⟨p, by omega, rfl⟩) zs[i] (by simp) e
 ·
  intro h2
  refine ⟨h, by simp, fun a ha b hb e => ?_⟩
  obtain ⟨p, hp, rfl⟩ := List.mem_take_iff_getElem.1 ha
  obtain rfl : b = zs[i] := by simpa using hb
  exact h2 ⟨p, by omega, e⟩
theorem tab_l3 (ns : List ByteArray) (hn : ns.length ≤ 1000) : ∀ (d i : Nat), i + d = ns.length → ((ns.map Srt.lets).take i).Nodup → ∀ k, d * (ns.length + 3) + 2 ≤ k → skerryref17_Table.l3 k ns (ns.length : Int) (i : Int) = some (if twice ns = true then 5 else 0)
 | 0, i, hd, hu, k, hk => by
  obtain ⟨k, rfl⟩ : ∃ j, k = j + 1 := ⟨k - 1, by omega⟩
  rw [List.take_of_length_le (by simp; omega)] at hu
  rw [skerryref17_Table.l3, if_neg (by omega), twice_is, decide_eq_false (fun h => h hu)]; rfl
 | d + 1, i, hd, hu, k, hk => by
  obtain ⟨k, rfl⟩ : ∃ j, k = j + 1 := ⟨k - 1, by omega⟩
  have hi : i < ns.length := by omega
  have e0 : (d + 1) * (ns.length + 3) = d * (ns.length + 3) + (ns.length + 3) := Nat.succ_mul _ _
  have hz : i < (ns.map Srt.lets).length := by simpa using hi
  have hnt := nodup_take (ns.map Srt.lets) i hz hu
  rw [skerryref17_Table.l3, if_pos (by omega)]
  by_cases he : ∃ p, ∃ h : p < i, Srt.lets (ns[p]'(by omega)) = Srt.lets ns[i]
  ·
   have ht : twice ns = true := by
    rw [twice_is, decide_eq_true_eq]
    intro hnd
    obtain ⟨p, hp, e⟩ := he
    have h2 := hnt.1 ((List.take_sublist _ _).nodup hnd)
    exact h2 ⟨p, hp, by simpa using e⟩
   have := tab_l4 ns hn i hi 5 0 (fun h => absurd he h) i 0 k (by omega) (by omega) (fun p hp => absurd hp (by omega))
   rw [if_pos he] at this; rw [ht, if_pos rfl]; exact this
  ·
   have hu2 := hnt.2 (fun ⟨p, hp, e⟩ => he ⟨p, hp, by simpa using e⟩)
   have := tab_l4 ns hn i hi (if twice ns = true then 5 else 0) (d * (ns.length + 3) + 2) (fun _ k hk => tab_l3 ns hn d (i + 1) (by omega) hu2 k hk) i 0 k (by omega) (by omega) (fun p hp => absurd hp (by omega))
   rw [if_neg he] at this
   exact this
theorem badKind_is (c : Col) : badKind c = true ↔ ¬ c.f1 = 1 ∧ ¬ c.f1 = 2 := by unfold badKind; simp
theorem tab_l2 (ns : List ByteArray) (hn : ns.length ≤ 1000) (l : List Col) (hl : l.length ≤ 1000) : ∀ (d i k : Nat), i + d = l.length → d + ns.length * (ns.length + 3) + 10 ≤ k → (l.take i).any badKind = false → skerryref17_Table.l2 k ns l (l.length : Int) (i : Int) = some (if l.any badKind = true then 2 else if twice ns = true then 5 else 0)
 | d, i, 0, _, h, _ => by omega
 | 0, i, k + 1, hd, hk, hb => by
  rw [List.take_of_length_le (by omega)] at hb
  rw [skerryref17_Table.l2, if_neg (by omega), if_neg (by rw [hb]; decide)]
  exact tab_l3 ns hn ns.length 0 (by omega) (by simp) k (by omega)
 | d + 1, i, k + 1, hd, hk, hb => by
  have hi : i < l.length := by omega
  rw [skerryref17_Table.l2, if_pos (by omega), if_pos (by omega), if_pos (by omega), rdC l i hi, wr_succ i (by omega)]
  by_cases h : badKind l[i] = true
  ·
   have h2 := (badKind_is _).1 h
   rw [if_neg h2.1, if_neg h2.2, if_pos (List.any_eq_true.2 ⟨_, List.getElem_mem hi, h⟩)]
  ·
   have hr := tab_l2 ns hn l hl d (i + 1) k (by omega) (by omega) (by rw [List.take_succ_eq_append_getElem hi, List.any_append, hb, List.any_cons, Bool.eq_false_iff.2 h]; rfl)
   by_cases h1 : (l[i]).f1 = 1
   ·
    rw [if_pos h1]; exact hr
   ·
    rw [if_neg h1]
    by_cases h2 : (l[i]).f1 = 2
    ·
     rw [if_pos h2]; exact hr
    ·
     exact absurd ((badKind_is _).2 ⟨h1, h2⟩) h
theorem tab_l1 (t0 t1 t2 : ByteArray) (ns : List ByteArray) (hn : ns.length ≤ 1000) (l : List Col) (hl : l.length ≤ 1000) : ∀ (d i : Nat), i + d = ns.length → (ns.take i).any (fun x => !nameS x) = false →
  Ev (fun k => skerryref17_Table.l1 k ns ns (ns.length : Int) (i : Int) t0 t1 t2 l) (if (ns.any fun x => !nameS x) = true then 3 else if (decide (l.length = 0) || decide (6 < l.length)) = true then 2 else if l.any badKind = true then 2 else if twice ns = true then 5 else 0)
 | 0, i, hd, hb => by
  rw [List.take_of_length_le (by omega)] at hb
  rw [if_neg (by rw [hb]; decide)]
  have hj : ∀ b : Bool, b = (decide (l.length = 0) || decide (6 < l.length)) → Ev (fun k => skerryref17_Table.j2 k ns b t0 t1 t2 l) (if (decide (l.length = 0) || decide (6 < l.length)) = true then 2 else if l.any badKind = true then 2 else if twice ns = true then 5 else 0) := fun b hb => by
   rw [← hb]
   cases b with
   | true =>
    rw [if_pos rfl]
    exact Ev.step (f := fun _ => some 2) (fun k => by rw [skerryref17_Table.j2, if_pos rfl]) (Ev.now _)
   | false => exact Ev.step (fun k => by rw [skerryref17_Table.j2, if_neg (by decide)]) ⟨l.length + ns.length * (ns.length + 3) + 10, fun k hk => by rw [if_neg (by decide)]; exact tab_l2 ns hn l hl l.length 0 k (by omega) hk rfl⟩
  refine Ev.step (fun k => by rw [skerryref17_Table.l1, if_neg (by omega)]) ?_
  by_cases h1 : (l.length : Int) < 1
  ·
   exact Ev.congr (fun k => if_pos h1) (hj true (by rw [decide_eq_true (by omega : l.length = 0)]; rfl))
  ·
   exact Ev.congr (fun k => if_neg h1) (hj _ (by rw [decide_eq_false (by omega : ¬ l.length = 0), Bool.false_or]; exact decide_eq_decide.2 (by omega)))
 | d + 1, i, hd, hb => by
  have hi : i < ns.length := by omega
  refine Ev.step (f := fun k => (skerryref17_Name.f k ns[i]).bind fun t182 => if t182 = true then skerryref17_Table.l1 k ns ns (ns.length : Int) ((i + 1 : Nat) : Int) t0 t1 t2 l else some 3) (fun k => by rw [skerryref17_Table.l1, if_pos (by omega), if_pos (by omega), if_pos (by omega), rdS ns i hi, wr_succ i (by omega)]) ?_
  refine Ev.bind (name17 ns[i]) ?_
  by_cases h : nameS ns[i] = true
  ·
   refine Ev.congr (fun k => if_pos h) (tab_l1 t0 t1 t2 ns hn l hl d (i + 1) (by omega) ?_)
   rw [List.take_succ_eq_append_getElem hi, List.any_append, hb, List.any_cons, h]; rfl
  ·
   refine Ev.congr (fun k => if_neg h) ?_
   rw [if_pos (List.any_eq_true.2 ⟨_, List.getElem_mem hi, by simp [h]⟩)]
   exact Ev.now _
theorem tab_l0 (t0 t1 t2 : ByteArray) (l : List Col) (hl : l.length ≤ 900) : ∀ (d i : Nat), i + d = l.length → Ev (fun k => skerryref17_Table.l0 k (tabNames t1 t2 (l.take i)) l (l.length : Int) (i : Int) t0 t1 t2 l) (tabE t0 t1 t2 l)
 | 0, i, hd => by
  rw [List.take_of_length_le (by omega)]
  refine Ev.step (f := fun k => (skerryref17_Name.f k t0).bind fun t180 => if t180 = true then skerryref17_Table.l1 k (tabNames t1 t2 l) (tabNames t1 t2 l) ((tabNames t1 t2 l).length : Int) ((0 : Nat) : Int) t0 t1 t2 l else some 3) (fun k => by rw [skerryref17_Table.l0, if_neg (by omega)]; rfl) ?_
  refine Ev.bind (name17 t0) ?_
  unfold tabE
  cases h : nameS t0 with
  | true =>
   rw [if_neg (by decide)]
   exact Ev.congr (fun k => if_pos rfl) (tab_l1 t0 t1 t2 (tabNames t1 t2 l) (by rw [tnames_len]; omega) l (by omega) (tabNames t1 t2 l).length 0 (by omega) rfl)
  | false =>
   rw [if_pos rfl]
   exact Ev.congr (fun k => if_neg (by decide)) (Ev.now _)
 | d + 1, i, hd => by
  have hi : i < l.length := by omega
  have hn : (tabNames t1 t2 (l.take i)).length ≤ 1000 := by rw [tnames_len, List.length_take]; omega
  refine Ev.step (f := fun k => skerryref17_Table.l0 k (tabNames t1 t2 (l.take (i + 1))) l (l.length : Int) ((i + 1 : Nat) : Int) t0 t1 t2 l) (fun k => ?_) (tab_l0 t0 t1 t2 l hl d (i + 1) (by omega))
  rw [skerryref17_Table.l0, if_pos (by omega), if_pos (by omega), if_pos (by omega), if_pos (by omega), rdC l i hi, wr_succ i (by omega), tabNames_take t1 t2 l i hi]
theorem rtable (t0 t1 t2 : ByteArray) (l : List Col) (hl : l.length ≤ 900) : Ev (fun k => skerryref17_Table.f k t0 t1 t2 l) (tabE t0 t1 t2 l) := tab_l0 t0 t1 t2 l hl l.length 0 (by omega)
theorem table_f (t0 t1 t2 : ByteArray) (l : List Col) (hl : l.length ≤ 6000000000000) : schema_Table.f t0 t1 t2 l = some (tabE t0 t1 t2 l) := by unfold schema_Table.f; rw [if_pos hl]
end Go.Proofs.YtdagddhccdchoaaDoor.Pl
