/- Lists by number, taken from by the least key: what merge.Each gives, in plain words (outs), and what one cell taken does to it. Plain lemmas, no program in sight. -/
import Derived.Test.YtabiekkebdocnaaZeQx23
import Derived.Test.YtabiekkebdocnaaZeJ35
import Derived.Test.YtabiekkebdocnaaZeJ32
namespace Go.Proofs.Ytabiekkebdocnaa.Pl
open Go Go.RowKit Go.Proofs.YtabiekkebdocnaaW.PrintWords Go.Proofs.Ytabiekkebdocnaa.Q Go.Proofs.Ytabiekkebdocnaa.Ord Go.Proofs.Ytabiekkebdocnaa.Nm Go.Proofs.Ytabiekkebdocnaa.Hp
set_option linter.unusedVariables false
set_option linter.unusedSimpArgs false
abbrev SL := List (Int × List Cl)
def fil (k : S33) (l : List Cl) : List Cl := l.filter fun x => cmpK (keyC x) k == 0
def cntK (k : S33) (S : SL) : Nat := (S.filter fun p => (lk cmpK keyC k p.2).isSome).length
def flat (S : SL) : List Cl := S.flatMap Prod.snd
def outs (S : SL) : List (Cl × Int) := (normC (flat S)).map fun y => (y, (cntK y.f0 S : Int))
def outsG (c : Cl) (m : Nat) (S : SL) : List (Cl × Int) := (normC (c :: flat S)).map fun y => (y, ((cntK y.f0 S + (if cmpK y.f0 c.f0 = 0 then m else 0) : Nat) : Int))
structure OkS (S : SL) : Prop where
 n : S.Pairwise fun p q => p.1 < q.1
 l : ∀ p ∈ S, Inc cmpK keyC p.2 ∧ p.2 ≠ []
def popS (n : Int) (tl : List Cl) : SL := if tl.length = 0 then [] else [(n, tl)]
theorem flat_pop (n : Int) (tl : List Cl) : flat (popS n tl) = tl := by
 unfold popS flat
 cases tl with
 | nil => rfl
 | cons a l => simp
theorem flat_app (A B : SL) : flat (A ++ B) = flat A ++ flat B := by unfold flat; rw [List.flatMap_append]
theorem flat_cons (p : Int × List Cl) (B : SL) : flat (p :: B) = p.2 ++ flat B := by unfold flat; rw [List.flatMap_cons]
theorem cnt_app (k : S33) (A B : SL) : cntK k (A ++ B) = cntK k A + cntK k B := by unfold cntK; rw [List.filter_append, List.length_append]
theorem cnt_cons (k : S33) (p : Int × List Cl) (B : SL) : cntK k (p :: B) = (if (lk cmpK keyC k p.2).isSome = true then 1 else 0) + cntK k B := by
 unfold cntK
 rw [List.filter_cons]
 split
 ·
  simp; omega
 ·
  simp
theorem cnt_pop (k : S33) (n : Int) (tl : List Cl) : cntK k (popS n tl) = if (lk cmpK keyC k tl).isSome = true then 1 else 0 := by
 unfold popS
 cases tl with
 | nil => rfl
 | cons a l => rw [if_neg (by simp), cnt_cons]; rfl
theorem fil_cons (k : S33) (x : Cl) (l : List Cl) : fil k (x :: l) = if cmpK x.f0 k = 0 then x :: fil k l else fil k l := by
 unfold fil
 by_cases h : cmpK x.f0 k = 0
 ·
  rw [if_pos h, List.filter_cons_of_pos (by show (cmpK x.f0 k == 0) = true; rw [h]; rfl)]
 ·
  rw [if_neg h, List.filter_cons_of_neg (fun e => h (by have e : (cmpK x.f0 k == 0) = true := e; simpa using e))]
theorem fil_app (k : S33) (l m : List Cl) : fil k (l ++ m) = fil k l ++ fil k m := by unfold fil; rw [List.filter_append]
theorem fil_nil {k : S33} {l : List Cl} (h : ∀ y ∈ l, y.f0 ≠ k) : fil k l = [] := by
 unfold fil
 rw [List.filter_eq_nil_iff]
 intro y hy e
 exact h y hy (key_same (by have e : (cmpK y.f0 k == 0) = true := e; simpa using e))
theorem norm_fil {l m : List Cl} (h : ∀ k, (fil k l).foldl (jo joinC) none = (fil k m).foldl (jo joinC) none) : normC l = normC m := norm_ext cmpK_cmp joinC_key h
theorem fil_front {x : Cl} {L R : List Cl} (h : ∀ y ∈ L, y.f0 ≠ x.f0) (k : S33) : fil k (L ++ x :: R) = fil k (x :: (L ++ R)) := by
 rw [fil_app, fil_cons, fil_cons, fil_app]
 by_cases e : cmpK x.f0 k = 0
 ·
  rw [if_pos e, if_pos e, fil_nil (fun y hy => by rw [← key_same e]; exact h y hy)]; rfl
 ·
  rw [if_neg e, if_neg e]
theorem lk_tail {x : Cl} {tl : List Cl} (h : Inc cmpK keyC (x :: tl)) (k : S33) : (if (lk cmpK keyC k (x :: tl)).isSome = true then 1 else 0) = (if (lk cmpK keyC k tl).isSome = true then 1 else 0) + (if cmpK k x.f0 = 0 then 1 else 0) := by
 rw [lk_cons]
 by_cases e : x.f0 = k
 ·
  subst e
  have h1 : lk cmpK keyC x.f0 tl = none := lk_none fun z hz he => by
   have := (List.pairwise_cons.1 h).1 z hz
   have h2 : cmpK x.f0 z.f0 < 0 := this
   rw [show z.f0 = x.f0 from key_same he, cmpK_cmp.refl] at h2
   omega
  rw [if_pos (show cmpK (keyC x) x.f0 = 0 from cmpK_cmp.refl _), h1, if_pos (cmpK_cmp.refl _)]
  simp
 ·
  rw [if_neg (fun he => e (key_same he) : ¬ cmpK (keyC x) k = 0), if_neg (fun he => e (key_same he).symm)]; rfl
structure Least (n : Int) (x : Cl) (tl : List Cl) (A B : SL) : Prop where
 a : ∀ y ∈ flat A, cmpK x.f0 y.f0 < 0
 b : ∀ y ∈ flat B, cmpK x.f0 y.f0 ≤ 0
 t : ∀ y ∈ tl, cmpK x.f0 y.f0 < 0
theorem cnt_take {n : Int} {x : Cl} {tl : List Cl} (A B : SL) (hI : Inc cmpK keyC (x :: tl)) (k : S33) : cntK k (A ++ (n, x :: tl) :: B) = cntK k (A ++ popS n tl ++ B) + if cmpK k x.f0 = 0 then 1 else 0 := by
 have h := lk_tail hI k
 rw [cnt_app, cnt_cons, cnt_app, cnt_app, cnt_pop]
 show cntK k A + ((if (lk cmpK keyC k (x :: tl)).isSome = true then 1 else 0) + cntK k B) = _
 rw [h]; omega
theorem flat_take (n : Int) (x : Cl) (tl : List Cl) (A B : SL) : flat (A ++ (n, x :: tl) :: B) = flat A ++ x :: (tl ++ flat B) := by rw [flat_app, flat_cons]; rfl
theorem flat_left (n : Int) (tl : List Cl) (A B : SL) : flat (A ++ popS n tl ++ B) = flat A ++ (tl ++ flat B) := by rw [flat_app, flat_app, flat_pop, List.append_assoc]
theorem ne_of_lt {x y : Cl} (h : cmpK x.f0 y.f0 < 0) : y.f0 ≠ x.f0 := fun e => by rw [e, cmpK_cmp.refl] at h; omega
theorem outs_first {n : Int} {x : Cl} {tl : List Cl} {A B : SL} (hI : Inc cmpK keyC (x :: tl)) (h : Least n x tl A B) : outs (A ++ (n, x :: tl) :: B) = outsG x 1 (A ++ popS n tl ++ B) := by
 unfold outs outsG
 rw [flat_take, flat_left]
 have e : normC (flat A ++ x :: (tl ++ flat B)) = normC (x :: (flat A ++ (tl ++ flat B))) := norm_fil fun k => by rw [fil_front (fun y hy => ne_of_lt (h.a y hy))]
 rw [e]
 refine List.map_congr_left fun y _ => ?_
 rw [cnt_take A B hI]
theorem outs_more {n : Int} {x c : Cl} {m : Nat} {tl : List Cl} {A B : SL} (hI : Inc cmpK keyC (x :: tl)) (h : Least n x tl A B) (hc : x.f0 = c.f0) : outsG c m (A ++ (n, x :: tl) :: B) = outsG (joinC c x) (m + 1) (A ++ popS n tl ++ B) := by
 unfold outsG
 rw [flat_take, flat_left]
 have e : normC (c :: (flat A ++ x :: (tl ++ flat B))) = normC (joinC c x :: (flat A ++ (tl ++ flat B))) := norm_fil fun k => by
  rw [fil_cons, fil_front (fun y hy => ne_of_lt (h.a y hy)), fil_cons, fil_cons, hc, show (joinC c x).f0 = c.f0 from rfl]
  by_cases e : cmpK c.f0 k = 0
  ·
   rw [if_pos e, if_pos e, if_pos e]; rfl
  ·
   rw [if_neg e, if_neg e, if_neg e]
 rw [e]
 refine List.map_congr_left fun y _ => ?_
 rw [cnt_take A B hI, hc, show (joinC c x).f0 = c.f0 from rfl]
 by_cases e : cmpK y.f0 c.f0 = 0
 ·
  rw [if_pos e, if_pos e, if_pos e]; congr 2; omega
 ·
  rw [if_neg e, if_neg e, if_neg e]
theorem norm_key {l : List Cl} {y : Cl} (hy : y ∈ normC l) : ∃ z ∈ l, z.f0 = y.f0 := by
 have h1 := lk_mem cmpK_cmp (norm_inc cmpK_cmp joinC_key l) hy
 rw [lk_norm cmpK_cmp joinC_key] at h1
 have h2 : (fil y.f0 l).foldl (jo joinC) none = some y := h1
 cases hf : fil y.f0 l with
 | nil => rw [hf] at h2; cases h2
 | cons z r =>
  have hz : z ∈ fil y.f0 l := by rw [hf]; exact List.mem_cons_self
  obtain ⟨h3, h4⟩ := List.mem_filter.1 hz
  exact ⟨z, h3, key_same (by have h4 : (cmpK z.f0 y.f0 == 0) = true := h4; simpa using h4)⟩
theorem norm_front {c : Cl} {l : List Cl} (h : ∀ y ∈ l, cmpK c.f0 y.f0 < 0) : normC (c :: l) = c :: normC l := by
 have hI : Inc cmpK keyC (c :: normC l) := List.pairwise_cons.2 ⟨fun y hy => by
  obtain ⟨z, h1, h2⟩ := norm_key hy
  show cmpK c.f0 y.f0 < 0
  rw [← h2]; exact h z h1, norm_inc cmpK_cmp joinC_key l⟩
 refine inc_ext cmpK_cmp (norm_inc cmpK_cmp joinC_key _) hI fun k => ?_
 rw [lk_norm cmpK_cmp joinC_key, lk_cons, lk_norm cmpK_cmp joinC_key]
 show (fil k (c :: l)).foldl (jo joinC) none = if cmpK c.f0 k = 0 then some c else (fil k l).foldl (jo joinC) none
 rw [fil_cons]
 by_cases e : c.f0 = k
 ·
  subst e
  rw [if_pos (cmpK_cmp.refl _), if_pos (cmpK_cmp.refl _), fil_nil (fun y hy => ne_of_lt (h y hy))]; rfl
 ·
  rw [if_neg (fun he => e (key_same he)), if_neg (fun he => e (key_same he))]
theorem cnt_none {k : S33} {S : SL} (h : ∀ y ∈ flat S, y.f0 ≠ k) : cntK k S = 0 := by
 unfold cntK
 rw [List.length_eq_zero_iff, List.filter_eq_nil_iff]
 intro p hp e
 cases hl : lk cmpK keyC k p.2 with
 | none => rw [hl] at e; cases e
 | some y =>
  obtain ⟨h1, h2⟩ := lk_some hl
  exact h y (List.mem_flatMap.2 ⟨p, hp, h1⟩) (key_same h2)
theorem outs_end {c : Cl} {m : Nat} {S : SL} (h : ∀ y ∈ flat S, cmpK c.f0 y.f0 < 0) : outsG c m S = (c, (m : Int)) :: outs S := by
 unfold outsG outs
 rw [norm_front h, List.map_cons, cnt_none (fun y hy => ne_of_lt (h y hy)), if_pos (cmpK_cmp.refl _), Nat.zero_add]
 congr 1
 refine List.map_congr_left fun y hy => ?_
 obtain ⟨z, h1, h2⟩ := norm_key hy
 rw [if_neg (fun e => by have := h z h1; rw [h2, ← key_same e, cmpK_cmp.refl] at this; omega), Nat.add_zero]
theorem outs_nil : outs [] = [] := rfl
def hd (l : List Cl) : Cl := l.headD z39
def ltP (a b : Int × List Cl) : Bool := decide (cmpK (hd a.2).f0 (hd b.2).f0 < 0 ∨ cmpK (hd a.2).f0 (hd b.2).f0 = 0 ∧ a.1 < b.1)
def ltI (a b : It) : Bool := ltP (a.n, a.l) (b.n, b.l)
theorem ltI_ord : Srt.WOrd ltI := ⟨fun x y h => by
  have h := of_decide_eq_true h
  have a1 := cmpK_cmp.anti (hd x.l).f0 (hd y.l).f0
  dsimp only at h
  refine decide_eq_false ?_
  dsimp only
  omega, fun x y z h1 h2 => by
  have h1 := of_decide_eq_false h1
  have h2 := of_decide_eq_false h2
  dsimp only at h1 h2
  have a1 := cmpK_cmp.anti (hd x.l).f0 (hd y.l).f0; have a2 := cmpK_cmp.anti (hd y.l).f0 (hd z.l).f0; have a3 := cmpK_cmp.anti (hd x.l).f0 (hd z.l).f0
  have t1 := cmpK_cmp.trans (hd x.l).f0 (hd y.l).f0 (hd z.l).f0; have t2 := cmpK_cmp.trans (hd z.l).f0 (hd x.l).f0 (hd y.l).f0; have t3 := cmpK_cmp.trans (hd y.l).f0 (hd z.l).f0 (hd x.l).f0
  refine decide_eq_false ?_
  dsimp only
  omega⟩
theorem ltI_lt : Lt ltI := fun a b ha hb => by
 refine ⟨6, ?_⟩
 obtain ⟨x, xs, hx⟩ := List.exists_cons_of_ne_nil ha
 obtain ⟨y, ys, hy⟩ := List.exists_cons_of_ne_nil hb
 unfold merge_source_before.f
 rw [hx, hy]
 rw [if_pos (by simp), if_pos (by simp)]
 show (key_Cmp.f 6 x.f0.f0 x.f0.f1 x.f0.f2 x.f0.f3 y.f0.f0 y.f0.f1 y.f0.f2 y.f0.f3).bind _ = _
 rw [key_Cmp_f 6 (Nat.le_refl _), Option.bind_some]
 unfold ltI ltP
 rw [hx, hy]
 show _ = some (decide (cmpK x.f0 y.f0 < 0 ∨ cmpK x.f0 y.f0 = 0 ∧ a.n < b.n))
 by_cases h1 : cmpK x.f0 y.f0 < 0
 ·
  rw [if_pos h1]; simp [h1]
 ·
  rw [if_neg h1]
  by_cases h2 : cmpK x.f0 y.f0 = 0
  ·
   rw [if_pos h2]; simp [h1, h2]
  ·
   rw [if_neg h2]; simp [h1, h2]
theorem inc_hd {l : List Cl} (h : Inc cmpK keyC l) {y : Cl} (hy : y ∈ l) : cmpK (hd l).f0 y.f0 ≤ 0 := by
 cases l with
 | nil => cases hy
 | cons a l =>
  rcases List.mem_cons.1 hy with rfl | hy
  ·
   show cmpK y.f0 y.f0 ≤ 0; rw [cmpK_cmp.refl]; omega
  ·
   have h2 : cmpK a.f0 y.f0 < 0 := (List.pairwise_cons.1 h).1 y hy
   show cmpK a.f0 y.f0 ≤ 0; omega
theorem least_of {S : SL} (hS : OkS S) {n : Int} {x : Cl} {tl : List Cl} (hm : (n, x :: tl) ∈ S) (hmin : ∀ p ∈ S, ltP p (n, x :: tl) = false) : ∃ A B, S = A ++ (n, x :: tl) :: B ∧ Least n x tl A B := by
 obtain ⟨A, B, rfl⟩ := List.append_of_mem hm
 have hp := List.pairwise_append.1 hS.n
 refine ⟨A, B, rfl, ⟨fun y hy => ?_, fun y hy => ?_, fun y hy => (List.pairwise_cons.1 (hS.l _ hm).1).1 y hy⟩⟩
 ·
  obtain ⟨p, h1, h2⟩ := List.mem_flatMap.1 hy
  have hpS : p ∈ A ++ (n, x :: tl) :: B := List.mem_append_left _ h1
  have h3 := of_decide_eq_false (hmin p hpS)
  have h4 : p.1 < n := hp.2.2 p h1 _ List.mem_cons_self
  have h5 := inc_hd (hS.l p hpS).1 h2
  dsimp only at h3
  have h6 : hd (x :: tl) = x := rfl
  rw [h6] at h3
  have a1 := cmpK_cmp.anti (hd p.2).f0 x.f0; have a2 := cmpK_cmp.anti x.f0 y.f0; have a3 := cmpK_cmp.anti (hd p.2).f0 y.f0
  have t := cmpK_cmp.trans (hd p.2).f0 y.f0 x.f0
  omega
 ·
  obtain ⟨p, h1, h2⟩ := List.mem_flatMap.1 hy
  have hpS : p ∈ A ++ (n, x :: tl) :: B := List.mem_append_right _ (List.mem_cons_of_mem _ h1)
  have h3 := of_decide_eq_false (hmin p hpS)
  have h5 := inc_hd (hS.l p hpS).1 h2
  dsimp only at h3
  have h6 : hd (x :: tl) = x := rfl
  rw [h6] at h3
  have a1 := cmpK_cmp.anti (hd p.2).f0 x.f0; have a2 := cmpK_cmp.anti x.f0 y.f0
  have t := cmpK_cmp.trans x.f0 (hd p.2).f0 y.f0
  omega
theorem OkS.pop {A B : SL} {n : Int} {x : Cl} {tl : List Cl} (h : OkS (A ++ (n, x :: tl) :: B)) : OkS (A ++ popS n tl ++ B) := by
 obtain ⟨h1, h2⟩ := h
 have hp := List.pairwise_append.1 h1
 have hq := List.pairwise_cons.1 hp.2.1
 unfold popS
 split
 ·
  rw [List.append_nil]
  refine ⟨List.pairwise_append.2 ⟨hp.1, hq.2, fun a ha b hb => hp.2.2 a ha b (List.mem_cons_of_mem _ hb)⟩, fun p hp' => h2 p ?_⟩
  rcases List.mem_append.1 hp' with h | h
  ·
   exact List.mem_append_left _ h
  ·
   exact List.mem_append_right _ (List.mem_cons_of_mem _ h)
 ·
  rename_i hl
  rw [List.append_assoc, List.singleton_append]
  refine ⟨List.pairwise_append.2 ⟨hp.1, List.pairwise_cons.2 ⟨fun b hb => hq.1 b hb, hq.2⟩, fun a ha b hb => ?_⟩, fun p hp' => ?_⟩
  ·
   rcases List.mem_cons.1 hb with rfl | hb
   ·
    exact hp.2.2 a ha (n, x :: tl) List.mem_cons_self
   ·
    exact hp.2.2 a ha b (List.mem_cons_of_mem _ hb)
  ·
   rcases List.mem_append.1 hp' with h | h
   ·
    exact h2 p (List.mem_append_left _ h)
   ·
    rcases List.mem_cons.1 h with rfl | h
    ·
     have := (h2 (n, x :: tl) (List.mem_append_right _ List.mem_cons_self)).1
     exact ⟨(List.pairwise_cons.1 this).2, fun e => hl (by rw [show tl = [] from e]; rfl)⟩
    ·
     exact h2 p (List.mem_append_right _ (List.mem_cons_of_mem _ h))
theorem perm_pop {A B R : SL} {n : Int} {x : Cl} {tl : List Cl} (h : ((n, x :: tl) :: R).Perm (A ++ (n, x :: tl) :: B)) : (popS n tl ++ R).Perm (A ++ popS n tl ++ B) := by
 have h1 : R.Perm (A ++ B) := (List.perm_cons _).1 (h.trans List.perm_middle)
 refine (h1.append_left _).trans ?_
 rw [← List.append_assoc]
 exact List.perm_append_comm.append_right _
theorem tot_pop (A B : SL) (n : Int) (x : Cl) (tl : List Cl) : (flat (A ++ (n, x :: tl) :: B)).length = (flat (A ++ popS n tl ++ B)).length + 1 := by
 rw [flat_take, flat_left]; simp; omega
end Go.Proofs.Ytabiekkebdocnaa.Pl
