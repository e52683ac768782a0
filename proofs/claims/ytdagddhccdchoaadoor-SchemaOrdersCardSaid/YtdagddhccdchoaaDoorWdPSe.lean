/- Fits, Find, Orders: plain. -/
import Derived.Test.YtdagddhccdchoaaDoorWdQx0
import Derived.Test.YtdagddhccdchoaaDoorWdQx9
import Derived.Test.YtdagddhccdchoaaDoorWdQx4
import Derived.Test.YtdagddhccdchoaaDoorWdQx3
import Derived.Test.YtdagddhccdchoaaDoorWdQx24
import Derived.Test.YtdagddhccdchoaaDoorWdJ26
set_option linter.unusedVariables false
set_option linter.unusedSimpArgs false
namespace Go.Proofs.YtdagddhccdchoaaDoor.Pl
open Go.RowKit Go.Proofs.YtdagddhccdchoaaDoorW.PrintWords
open Go.Proofs.YtdagddhccdchoaaDoor.Q
theorem ordR_sub (cols : List ByteArray) (l : List Col) : (ordR l cols).Sublist (l.map fun c => c.f0) := by
 have : ∀ i, i ≤ l.length → (ordR (l.take i) cols).Sublist ((l.take i).map fun c => c.f0) := fun i => by
  induction i with
  | zero => intro _; exact List.Sublist.refl _
  | succ i ih =>
   intro hi
   rw [ordR_take l cols i (by omega), List.take_succ_eq_append_getElem (by omega), List.map_append]
   unfold ordStep
   split
   ·
    exact (ih (by omega)).append (List.Sublist.refl _)
   ·
    exact (ih (by omega)).trans (List.sublist_append_left _ _)
 have h := this l.length (Nat.le_refl _)
 rwa [List.take_length] at h
theorem ordR_full (l : List Col) (h : (l.map fun c => Srt.lets c.f0).Nodup) : ordR l [] = l.map fun c => c.f0 := by
 have : ∀ i, i ≤ l.length → ordR (l.take i) [] = (l.take i).map fun c => c.f0 := fun i => by
  induction i with
  | zero => intro _; rfl
  | succ i ih =>
   intro hi
   have hi' : i < l.length := by omega
   rw [ordR_take l [] i hi', ih (by omega), List.take_succ_eq_append_getElem hi', List.map_append]
   unfold ordStep
   rw [if_pos]; · rfl
   have : ordIn [] (l[i]).f0 = true := rfl
   rw [this, Bool.true_and, List.all_eq_true]
   intro s hs
   obtain ⟨c, hc, rfl⟩ := List.mem_map.1 hs
   obtain ⟨p, hp, rfl⟩ := List.mem_take_iff_getElem.1 hc
   have hne := List.pairwise_iff_getElem.1 h p i (by simp; omega) (by simpa using hi') (by omega)
   have : ¬ (l[p]'(by omega)).f0.toList = (l[i]).f0.toList := fun e => hne (by simpa using (lets_eq _ _).1 e)
   rw [beq_eq_false_iff_ne.2 this]; rfl
 have h := this l.length (Nat.le_refl _)
 rwa [List.take_length] at h
theorem ordR_has (cols : List ByteArray) (l : List Col) (c : Col) (hc : c ∈ l) (hin : ordIn cols c.f0 = true) : (ordR l cols).any (fun x => x.toList == c.f0.toList) = true := by
 have : ∀ i, i ≤ l.length → ∀ c ∈ l.take i, ordIn cols c.f0 = true → (ordR (l.take i) cols).any (fun x => x.toList == c.f0.toList) = true := fun i => by
  induction i with
  | zero => intro _ c hc; simp at hc
  | succ i ih =>
   intro hi c hc hin
   have hi' : i < l.length := by omega
   rw [ordR_take l cols i hi']
   rw [List.take_succ_eq_append_getElem hi'] at hc
   unfold ordStep
   rcases List.mem_append.1 hc with hc | hc
   ·
    have := ih (by omega) c hc hin
    split
    ·
     rw [List.any_append, this]; rfl
    ·
     exact this
   ·
    obtain rfl : c = l[i] := by simpa using hc
    rw [hin, Bool.true_and, all_not]
    cases hb : (ordR (l.take i) cols).any (fun s => s.toList == (l[i]).f0.toList) with
    | true => rw [if_neg (by decide)]; exact hb
    | false => rw [if_pos (by rfl), List.any_append]; simp
 exact this l.length (Nat.le_refl _) c (by rwa [List.take_length]) hin |> fun h => by rwa [List.take_length] at h
theorem col_has (l : List Col) (s : ByteArray) (h : (colR l s).2.2 = true) : ∃ c ∈ l, c.f0.toList = s.toList := by
 unfold colR at h
 cases hf : l.find? (fun c => c.f0.toList == s.toList) with
 | none => rw [hf] at h; cases h
 | some c => exact ⟨c, List.mem_of_find?_eq_some hf, by have := List.find?_some hf; simpa using this⟩
theorem lsub_step {a x : List UInt8} {s t : List (List UInt8)} (h : (x :: s).Sublist (a :: t)) : (a = x → s.Sublist t) ∧ (a ≠ x → (x :: s).Sublist t) := by
 constructor
 ·
  rintro rfl; exact List.cons_sublist_cons.1 h
 ·
  intro hne
  cases h with
  | cons _ h => exact h
  | cons_cons _ h => exact absurd rfl hne
theorem ord_l3 (cols L : List ByteArray) (ok : Bool) (hL : L.length ≤ 2000) (s : ByteArray) (M q : Int) (r : Bool) (K : Nat) (hK : ∀ k, K ≤ k → skerrylaw17_SchemaOrders.l2 k L ok cols M (wrap64 (q + 1)) = some r) (hin : ok = true → L.any (fun x => x.toList == s.toList) = true) :
  ∀ (d i k : Nat) (b : Bool), i + d = L.length → K + d + 1 ≤ k → b = (L.take i).any (fun x => x.toList == s.toList) → skerrylaw17_SchemaOrders.l3 k L ok s b cols M q L (L.length : Int) (i : Int) = some r
 | d, i, 0, _, _, h, _ => by omega
 | 0, i, k + 1, b, hd, hk, hb => by
  rw [List.take_of_length_le (by omega)] at hb
  rw [skerrylaw17_SchemaOrders.l3, if_neg (by omega), hK k (by omega)]
  by_cases h : (b != ok) = true
  ·
   rw [if_pos h]
   cases ok with
   | true => rw [hin rfl] at hb; subst hb; cases h
   | false => rw [if_neg (by decide)]
  ·
   rw [if_neg h]
 | d + 1, i, k + 1, b, hd, hk, hb => by
  have hi : i < L.length := by omega
  rw [skerrylaw17_SchemaOrders.l3, if_pos (by omega), if_pos (by omega), if_pos (by omega), rdS L i hi, wr_succ i (by omega)]
  have hn : ∀ b', b' = (b || ((L[i]).toList == s.toList)) → b' = (L.take (i + 1)).any (fun x => x.toList == s.toList) := fun b' hb' => by
   rw [hb', hb, List.take_succ_eq_append_getElem hi, List.any_append]; simp
  cases b with
  | true => rw [if_pos rfl]; exact ord_l3 cols L ok hL s M q r K hK hin d (i + 1) k true (by omega) (by omega) (hn true rfl)
  | false => rw [if_neg (by decide)]; exact ord_l3 cols L ok hL s M q r K hK hin d (i + 1) k _ (by omega) (by omega) (hn _ rfl)
theorem ord_l2 (cols L : List ByteArray) (hc : cols.length ≤ 1000) (ok : Bool) (hL : L.length ≤ 1000) (hin : ok = true → ∀ s ∈ cols, L.any (fun x => x.toList == s.toList) = true) (hend : ok = true ∨ L.length = 0) : ∀ (d i k : Nat), i + d = cols.length → d * (L.length + 3) + 200 ≤ k → skerrylaw17_SchemaOrders.l2 k L ok cols (cols.length : Int) (i : Int) = some true
 | 0, i, k, hd, hk => by
  obtain ⟨k, rfl⟩ : ∃ j, k = j + 1 := ⟨k - 1, by omega⟩
  rw [skerrylaw17_SchemaOrders.l2, if_neg (by omega)]
  cases ok with
  | true => rw [if_pos rfl, lives k (by omega)]; rfl
  | false =>
   have h0 : L.length = 0 := hend.elim (fun h => by cases h) id
   rw [if_neg (by decide), if_pos (by omega), lives k (by omega)]; rfl
 | d + 1, i, k, hd, hk => by
  obtain ⟨k, rfl⟩ : ∃ j, k = j + 1 := ⟨k - 1, by omega⟩
  have e0 : (d + 1) * (L.length + 3) = d * (L.length + 3) + (L.length + 3) := Nat.succ_mul _ _
  have hi : i < cols.length := by omega
  rw [skerrylaw17_SchemaOrders.l2, if_pos (by omega), if_pos (by omega), if_pos (by omega), rdS cols i hi]
  exact ord_l3 cols L ok (by omega) cols[i] (cols.length : Int) (i : Int) true (d * (L.length + 3) + 200) (fun k hk => by rw [wr_succ i (by omega)]; exact ord_l2 cols L hc ok hL hin hend d (i + 1) k (by omega) hk) (fun h => hin h _ (List.getElem_mem hi)) L.length 0 k false (by omega) (by omega) rfl
theorem ord_l01 (cols L all : List ByteArray) (ok : Bool) (hL : L.length ≤ 100) (hA : all.length ≤ 100) (hfin : ∀ k, 1000000 ≤ k → skerrylaw17_SchemaOrders.l2 k L ok cols (cols.length : Int) 0 = some true) :
  ∀ (n : Nat), (∀ (i a k : Nat), (L.length - i) + (all.length - a) = n → i ≤ L.length → a ≤ all.length → 1000000 + 2 * n + 2 ≤ k → ((L.drop i).map Srt.lets).Sublist ((all.drop a).map Srt.lets) → skerrylaw17_SchemaOrders.l0 k cols L ok all (a : Int) L (L.length : Int) (i : Int) = some true) ∧
   (∀ (i a k : Nat) (h : i < L.length), (L.length - i) + (all.length - a) = n → a ≤ all.length → 1000000 + 2 * n + 1 ≤ k → ((L.drop i).map Srt.lets).Sublist ((all.drop a).map Srt.lets) → skerrylaw17_SchemaOrders.l1 k cols L ok all (a : Int) L[i] L (L.length : Int) (i : Int) = some true) := by
 intro n
 induction n using Nat.strongRecOn with
 | ind n ih =>
  have h1 : ∀ (i a k : Nat) (h : i < L.length), (L.length - i) + (all.length - a) = n → a ≤ all.length → 1000000 + 2 * n + 1 ≤ k → ((L.drop i).map Srt.lets).Sublist ((all.drop a).map Srt.lets) → skerrylaw17_SchemaOrders.l1 k cols L ok all (a : Int) L[i] L (L.length : Int) (i : Int) = some true := fun i a k hi hn ha hk hs => by
   obtain ⟨k, rfl⟩ : ∃ j, k = j + 1 := ⟨k - 1, by omega⟩
   rw [List.drop_eq_getElem_cons hi, List.map_cons] at hs
   rcases Nat.lt_or_ge a all.length with ha2 | ha2
   ·
    rw [List.drop_eq_getElem_cons ha2, List.map_cons] at hs
    obtain ⟨s1, s2⟩ := lsub_step hs
    rw [skerrylaw17_SchemaOrders.l1, if_pos (by omega), if_pos (by omega), rdS all a ha2, wr_succ a (by omega), wr_succ i (by omega)]
    by_cases he : (all[a]).toList = (L[i]).toList
    ·
     rw [if_pos he, if_neg (by omega)]
     exact (ih (n - 2) (by omega)).1 (i + 1) (a + 1) k (by omega) (by omega) (by omega) (by omega) (s1 ((lets_eq _ _).1 he))
    ·
     rw [if_neg he]
     refine (ih (n - 1) (by omega)).2 i (a + 1) k hi (by omega) (by omega) (by omega) ?_
     rw [List.drop_eq_getElem_cons hi, List.map_cons]
     exact s2 (fun e => he ((lets_eq _ _).2 e))
   ·
    rw [List.drop_of_length_le ha2] at hs
    cases hs
  refine ⟨fun i a k hn hi ha hk hs => ?_, h1⟩
  obtain ⟨k, rfl⟩ : ∃ j, k = j + 1 := ⟨k - 1, by omega⟩
  rcases Nat.lt_or_ge i L.length with hi2 | hi2
  ·
   rw [skerrylaw17_SchemaOrders.l0, if_pos (by omega), if_pos (by omega), if_pos (by omega), rdS L i hi2]
   exact h1 i a k hi2 hn ha (by omega) hs
  ·
   rw [skerrylaw17_SchemaOrders.l0, if_neg (by omega)]
   exact hfin k (by omega)
theorem tabE_ok (t0 t1 t2 : ByteArray) (l : List Col) (h : tabE t0 t1 t2 l = 0) : l.length ≤ 6 ∧ (l.map fun c => Srt.lets c.f0).Nodup := by
 unfold tabE at h
 split at h
 ·
  cases h
 split at h
 ·
  cases h
 split at h
 ·
  cases h
 rename_i h3
 split at h
 ·
  cases h
 split at h
 ·
  cases h
 rename_i h5
 rw [twice_is, decide_eq_true_eq, Classical.not_not] at h5
 constructor
 ·
  simp at h3; omega
 ·
  unfold tabNames at h5
  rw [List.map_cons, List.map_cons, List.map_map] at h5
  exact (List.nodup_cons.1 (List.nodup_cons.1 h5).2).2
theorem orders_ok (t0 t1 t2 : ByteArray) (l : List Col) (hl : l.length ≤ 6000000000000) (cols : List ByteArray) : ∃ k, skerrylaw17_SchemaOrders.f k t0 t1 t2 l cols = some true := by
 refine ⟨3000000, ?_⟩
 unfold skerrylaw17_SchemaOrders.f
 rw [table_f _ _ _ l hl, Option.bind_some]
 have hlive : skerrylaw17_SchemaOrders.j0 3000000 cols true t0 t1 t2 l = some true := by
  rw [show (3000000 : Nat) = 2999999 + 1 from rfl, skerrylaw17_SchemaOrders.j0, if_pos rfl, lives _ (by omega)]; rfl
 by_cases h : tabE t0 t1 t2 l = 0
 ·
  rw [if_pos h]
  obtain ⟨h6, hnd⟩ := tabE_ok _ _ _ _ h
  by_cases hc : (cols.length : Int) > 200
  ·
   rw [decide_eq_true hc]; exact hlive
  ·
   rw [decide_eq_false hc, show (3000000 : Nat) = 2999998 + 1 + 1 from rfl, skerrylaw17_SchemaOrders.j0, if_neg (by decide), order_f _ _ _ cols (by omega) l (by omega) _ (by omega), Option.bind_some, order_f _ _ _ [] (by simp) l (by omega) _ (by simp; omega), Option.bind_some]
   rw [if_pos (show (([] : List ByteArray).all fun s => (colR l s).2.2) = true from rfl), if_pos rfl]
   have hall := ordR_full l hnd
   have hal : (ordR l []).length = l.length := by rw [hall]; simp
   generalize hp : (if cols.all (fun s => (colR l s).2.2) = true then (ordR l cols, true) else (([] : List ByteArray), false)) = p
   rw [skerrylaw17_SchemaOrders.j1, if_neg (by simp [hal])]
   have hsub : (p.1.map Srt.lets).Sublist ((ordR l []).map Srt.lets) := by
    rw [← hp, hall]; split
    ·
     exact (ordR_sub cols l).map _
    ·
     exact List.nil_sublist _
   have hpl : p.1.length ≤ 6 := by have := hsub.length_le; simp only [List.length_map] at this; omega
   have hin : p.2 = true → ∀ s ∈ cols, p.1.any (fun x => x.toList == s.toList) = true := fun h2 s hs => by
    rw [← hp] at h2 ⊢
    split at h2
    ·
     rename_i hall2
     rw [if_pos hall2]
     obtain ⟨c, hc1, hc2⟩ := col_has l s (List.all_eq_true.1 hall2 s hs)
     have := ordR_has cols l c hc1 (by unfold ordIn; rw [List.any_eq_true.2 ⟨s, hs, by rw [hc2]; simp⟩, Bool.or_true])
     rw [hc2] at this
     exact this
    ·
     cases h2
   have hend : p.2 = true ∨ p.1.length = 0 := by rw [← hp]; split; exact .inl rfl; exact .inr rfl
   have hmul : cols.length * (p.1.length + 3) ≤ 200 * 9 := Nat.mul_le_mul (by omega) (by omega)
   exact (ord_l01 cols p.1 (ordR l []) p.2 (by omega) (by omega) (fun k hk => ord_l2 cols p.1 (by omega) p.2 (by omega) hin hend cols.length 0 k (by omega) (by omega)) (p.1.length + (ordR l []).length)).1 0 0 2999998 (by omega) (by omega) (by omega) (by omega) hsub
 ·
  rw [if_neg h]; exact hlive
end Go.Proofs.YtdagddhccdchoaaDoor.Pl
