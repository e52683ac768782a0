/- TreeFinds: its plain law. -/
import Derived.Test.YtafhnjlihhfoaaaUeQx48
import Derived.Test.YtafhnjlihhfoaaaUeJ48
namespace Go.Proofs.Ytafhnjlihhfoaaa.Pl
open Go Go.RowKit Go.Proofs.YtafhnjlihhfoaaaW.PrintWords Go.Proofs.YtafhnjlihhfoaaaW.PrintMore Go.Proofs.Ytafhnjlihhfoaaa.Q Go.Proofs.Ytafhnjlihhfoaaa.Mur Go.Proofs.Ytafhnjlihhfoaaa.Ord Go.Proofs.Ytafhnjlihhfoaaa.Nm
set_option linter.unusedVariables false
set_option linter.unusedSimpArgs false
theorem like_l0i (p q : List Cl) (hl : p.length ≤ 1000000) (hq : p.length = q.length) : ∀ (d i k : Nat), i + d = p.length → d < k → ∃ b, skerryref01_Like.l0 k p q (p.length : Int) (i : Int) = some b ∧ (b = true ↔ p.drop i = q.drop i)
 | d, i, 0, _, hk => by omega
 | 0, i, k + 1, hd, hk => ⟨true, by rw [skerryref01_Like.l0, if_neg (by omega)], by rw [List.drop_of_length_le (by omega), List.drop_of_length_le (by omega)]; simp⟩
 | d + 1, i, k + 1, hd, hk => by
  have hi : i < p.length := by omega
  have hi2 : i < q.length := by omega
  obtain ⟨b, hb, hb2⟩ := like_l0i p q hl hq d (i + 1) k (by omega) (by omega)
  rw [skerryref01_Like.l0, if_pos (by omega), if_pos (by omega), if_pos (by omega), if_pos (by omega), rd_cell p i hi, rd_cell q i hi2, next_n hi (by omega), hb, List.drop_eq_getElem_cons hi, List.drop_eq_getElem_cons hi2]
  generalize p[i] = x
  generalize q[i] = y
  obtain ⟨⟨x0, x1, x2, x3⟩, ⟨x4, x5, x6, ⟨x7, x8, x9⟩⟩⟩ := x
  obtain ⟨⟨y0, y1, y2, y3⟩, ⟨y4, y5, y6, ⟨y7, y8, y9⟩⟩⟩ := y
  dsimp only
  have hB : ∀ u v : ByteArray, (u.toList == v.toList) = decide (u = v) := fun u v => by
   rw [Bool.eq_iff_iff]; simp only [beq_iff_eq, decide_eq_true_eq]
   exact ⟨bytes_ext, fun h => by rw [h]⟩
  simp only [hB]
  split
  case isTrue hc =>
   refine ⟨false, rfl, by simp, fun h => ?_⟩
   exfalso
   injection h with h1 _
   injection h1 with h2 h3
   injection h2 with a0 a1 a2 a3
   injection h3 with a4 a5 a6 a7
   injection a7 with a8 a9 a10
   subst a0 a1 a2 a3 a4 a5 a6 a8 a9 a10
   simp at hc
  case isFalse hc =>
   refine ⟨b, rfl, ?_⟩
   rw [hb2]
   simp only [Bool.or_eq_true, Bool.not_eq_true', decide_eq_false_iff_not, beq_eq_false_iff_ne, not_or, Decidable.not_not, ne_eq] at hc
   obtain ⟨⟨rfl, rfl, rfl, rfl⟩, rfl, rfl, rfl, rfl, rfl, rfl⟩ := hc
   constructor
   ·
    intro h; rw [h]
   ·
    intro h; injection h
theorem like_i (p q : List Cl) (hl : p.length ≤ 1000000) (k : Nat) (hk : p.length < k) : ∃ b, skerryref01_Like.f k p q = some b ∧ (b = true ↔ p = q) := by
 unfold skerryref01_Like.f
 by_cases h : p.length = q.length
 ·
  rw [if_pos (by omega)]
  obtain ⟨b, hb, hb2⟩ := like_l0i p q hl h p.length 0 k (by omega) hk
  exact ⟨b, hb, by simpa using hb2⟩
 ·
  rw [if_neg (by omega)]
  exact ⟨false, rfl, by simp, fun e => absurd (by rw [e]) h⟩
def fair (a b : List Cl) (d : Nat) (x y : List Int) (i : Nat) : Prop :=
 if 2 ^ d ≤ i then inB d (i - 2 ^ d) (normC a) = inB d (i - 2 ^ d) (normC b) ∨ rd x i ≠ rd y i
 else (rd x (2 * (i : Int)) = rd y (2 * (i : Int)) ∧ rd x (2 * (i : Int) + 1) = rd y (2 * (i : Int) + 1)) ∨ rd x i ≠ rd y i
theorem clash_l0 (a b : List Cl) (ha : Sm a) (hb : Sm b) (t : Int) (x y : List Int) (hx : x.length = 2 ^ depN t + 2 ^ depN t) (hy : y.length = 2 ^ depN t + 2 ^ depN t) :
  ∀ (d i k : Nat), i + d = x.length → d + 1100000 < k → ∃ r, skerrylaw22_clash.l0 k a b t x y ((2 ^ depN t : Nat) : Int) (i : Int) = some r ∧ (r = false → ∀ j, i ≤ j → j < x.length → fair a b (depN t) x y j)
 | d, i, 0, _, hk => by omega
 | 0, i, k + 1, hd, hk => ⟨false, by rw [skerrylaw22_clash.l0, if_neg (by omega)], fun _ j h1 h2 => by omega⟩
 | d + 1, i, k + 1, hd, hk => by
  have hd6 := (dep_eq t).2
  have h2 := pow_le hd6
  have h64 : (2 : Nat) ^ 6 = 64 := rfl
  obtain ⟨r, hr, hr2⟩ := clash_l0 a b ha hb t x y hx hy d (i + 1) k (by omega) (by omega)
  have e1 : wrap64 ((i : Int) + 1) = ((i + 1 : Nat) : Int) := by unfold wrap64; omega
  have e2 : wrap64 (2 * (i : Int)) = 2 * (i : Int) := by unfold wrap64; omega
  have e3 : wrap64 (2 * (i : Int) + 1) = 2 * (i : Int) + 1 := by unfold wrap64; omega
  have next : fair a b (depN t) x y i → ∃ r', some r = some r' ∧ (r' = false → ∀ j, i ≤ j → j < x.length → fair a b (depN t) x y j) := fun hf => ⟨r, rfl, fun h j h1 h2 => by
   by_cases e : j = i
   ·
    rw [e]; exact hf
   ·
    exact hr2 h j (by omega) h2⟩
  rw [skerrylaw22_clash.l0, if_pos (by omega), e1, e2, e3, hr]
  by_cases hi : 2 ^ depN t ≤ i
  ·
   have e4 : wrap64 ((i : Int) - ((2 ^ depN t : Nat) : Int)) = ((i - 2 ^ depN t : Nat) : Int) := by unfold wrap64; omega
   have hl := (ha.norm.inB (depN t) (i - 2 ^ depN t)).len
   rw [if_pos (by omega), e4, rpick_f a ha t _ (by simp) k (by omega), Option.bind_some, rpick_f b hb t _ (by simp) k (by omega), Option.bind_some, pick_one, pick_one]
   obtain ⟨s, hs1, hs2⟩ := like_i (inB (depN t) (i - 2 ^ depN t) (normC a)) (inB (depN t) (i - 2 ^ depN t) (normC b)) (by omega) k (by omega)
   rw [hs1, Option.bind_some]
   by_cases hs : inB (depN t) (i - 2 ^ depN t) (normC a) = inB (depN t) (i - 2 ^ depN t) (normC b)
   ·
    rw [if_pos (hs2.2 hs)]
    exact next (by unfold fair; rw [if_pos hi]; exact .inl hs)
   ·
    rw [if_neg (fun h => hs (hs2.1 h)), if_pos (by omega), if_pos (by omega)]
    by_cases hc : rd x i = rd y i
    ·
     rw [if_pos hc]; exact ⟨true, rfl, fun h => by cases h⟩
    ·
     rw [if_neg hc]; exact next (by unfold fair; rw [if_pos hi]; exact .inr hc)
  ·
   rw [if_neg (by omega), if_pos (by omega), if_pos (by omega), if_pos (by omega)]
   have bad : ¬ (rd x (2 * (i : Int)) = rd y (2 * (i : Int)) ∧ rd x (2 * (i : Int) + 1) = rd y (2 * (i : Int) + 1)) →
     ∃ r', (if 0 ≤ (i : Int) then (if (i : Int) < (y.length : Int) then (if rd x i = rd y i then some true else some r) else none) else none) = some r' ∧ (r' = false → ∀ j, i ≤ j → j < x.length → fair a b (depN t) x y j) := fun _ => by
    rw [if_pos (by omega), if_pos (by omega)]
    by_cases hc : rd x i = rd y i
    ·
     rw [if_pos hc]; exact ⟨true, rfl, fun h => by cases h⟩
    ·
     rw [if_neg hc]; exact next (by unfold fair; rw [if_neg hi]; exact .inr hc)
   by_cases h1 : rd x (2 * (i : Int)) = rd y (2 * (i : Int))
   ·
    rw [if_pos h1, if_pos (by omega), if_pos (by omega), if_pos (by omega)]
    by_cases h3 : rd x (2 * (i : Int) + 1) = rd y (2 * (i : Int) + 1)
    ·
     rw [if_pos h3]; exact next (by unfold fair; rw [if_neg hi]; exact .inl ⟨h1, h3⟩)
    ·
     rw [if_neg h3]; exact bad (fun h => h3 h.2)
   ·
    rw [if_neg h1]; exact bad (fun h => h1 h.1)
theorem fair_up {a b : List Cl} {d : Nat} {x y : List Int} (hf : ∀ i, 1 ≤ i → i < 2 ^ d → fair a b d x y i) : ∀ (h k : Nat), k < 2 ^ (d + 1) → 2 ^ h ≤ k → (okUp x y h k = true ↔ rd x (k : Int) ≠ rd y (k : Int))
 | 0, k, _, _ => by unfold okUp dfr; simp
 | h + 1, k, hk, h1 => by
  have hp : 2 ^ (h + 1) = 2 * 2 ^ h := Nat.pow_succ'
  have hp2 : 2 ^ (d + 1) = 2 * 2 ^ d := Nat.pow_succ'
  have h0 : 0 < 2 ^ h := Nat.pos_of_ne_zero (by simp)
  unfold okUp
  rw [Bool.and_eq_true, fair_up hf h (k / 2) (by omega) (by omega)]
  unfold dfr
  rw [decide_eq_true_eq]
  refine ⟨fun h => h.1, fun hne => ⟨hne, ?_⟩⟩
  have hq := hf (k / 2) (by omega) (by omega)
  unfold fair at hq
  rw [if_neg (by omega)] at hq
  rcases hq with ⟨q1, q2⟩ | q
  ·
   exfalso
   apply hne
   rcases (show k = 2 * (k / 2) ∨ k = 2 * (k / 2) + 1 by omega) with e | e
   ·
    have : (k : Int) = 2 * ((k / 2 : Nat) : Int) := by omega
    rw [this]; exact q1
   ·
    have : (k : Int) = 2 * ((k / 2 : Nat) : Int) + 1 := by omega
    rw [this]; exact q2
  ·
   exact q
theorem rd_set_lt {o : List Int} {i : Nat} {v : Int} {j : Nat} (h : i < j) : rd (o.set i v) (j : Int) = rd o (j : Int) := by
 unfold rd
 rw [Int.toNat_natCast, List.getD_eq_getElem?_getD, List.getD_eq_getElem?_getD, List.getElem?_set_ne (by omega)]
theorem bld_rd : ∀ (i : Nat) (o : List Int) (j : Nat), i < j → rd (bldI i o) (j : Int) = rd o (j : Int)
 | 0, o, j, h => rfl
 | i + 1, o, j, h => by
  rw [bldI, bld_rd i _ j (by omega)]
  unfold stepB
  split
  ·
   rfl
  ·
   exact rd_set_lt h
theorem build_leaf (l : List Cl) (d : Nat) (hd : d ≤ 6) (j : Nat) (hj : j < 2 ^ d) : rd (buildL (leavesC l d)) ((2 ^ d + j : Nat) : Int) = hashB (inB d j (normC l)) := by
 have hlen := leavesC_len l d
 unfold buildL
 rw [if_pos (leaves_pw l d hd), bld_rd _ _ _ (by omega)]
 unfold rd
 rw [Int.toNat_natCast, List.getD_eq_getElem?_getD, List.getElem?_append_right (by simp; omega)]
 have e : 2 ^ d + j - (List.replicate (leavesC l d).length (0 : Int)).length = j := by rw [List.length_replicate, hlen]; omega
 rw [e]
 unfold leavesC
 rw [List.getElem?_map, List.getElem?_range hj]
 rfl
theorem joinC_assoc {x y z : Cl} (h1 : cmpK x.f0 y.f0 = 0) (h2 : cmpK y.f0 z.f0 = 0) : joinC (joinC x y) z = joinC x (joinC y z) := by
 have h3 : cmpK x.f0 z.f0 = 0 := key_trans gdC.cc h1 h2
 have e1 : (joinC x y).f0 = x.f0 := rfl
 have e2 : (joinC y z).f0 = y.f0 := rfl
 have H := cmpV_cmp
 have aux : ∀ a b : S36, joinV a b = if cmpV a b < 0 then b else a := fun _ _ => rfl
 have hv : joinV (joinV x.f1 y.f1) z.f1 = joinV x.f1 (joinV y.f1 z.f1) := by
  generalize x.f1 = u
  generalize y.f1 = v
  generalize z.f1 = w
  simp only [aux]
  have t1 := H.trans u v w
  have t2 := H.trans u w v
  have t3 := H.trans v u w
  have t4 := H.trans v w u
  have t5 := H.trans w u v
  have t6 := H.trans w v u
  have a1 := H.anti u v
  have a2 := H.anti v w
  have a3 := H.anti u w
  by_cases c1 : cmpV u v < 0 <;> by_cases c2 : cmpV v w < 0 <;> by_cases c3 : cmpV u w < 0 <;> simp only [c1, c2, c3, if_true, if_false] <;> omega
 unfold joinC
 dsimp only
 rw [hv]
abbrev K4 := S32
abbrev getC (k : K4) (l : List Cl) : Option Cl := gets cmpK keyC joinC k l
def comb : Option Cl → Option Cl → Option Cl
 | none, y => y
 | some u, none => some u
 | some u, some v => some (joinC u v)
theorem fold_comb (k : K4) : ∀ (l : List Cl) (o : Option Cl), (∀ x ∈ l, cmpK x.f0 k = 0) → (∀ u, o = some u → cmpK u.f0 k = 0) → l.foldl (jo joinC) o = comb o (l.foldl (jo joinC) none)
 | [], none, _, _ => rfl
 | [], some u, _, _ => rfl
 | x :: l, none, _, _ => rfl
 | x :: l, some u, h, ho => by
  have hx := h x List.mem_cons_self
  have hu := ho u rfl
  have hl := fun y hy => h y (List.mem_cons_of_mem _ hy)
  have e1 := fold_comb k l (some (joinC u x)) hl (fun v hv => by rw [← Option.some.inj hv]; exact hu)
  have e2 := fold_comb k l (some x) hl (fun v hv => by rw [← Option.some.inj hv]; exact hx)
  show l.foldl (jo joinC) (some (joinC u x)) = comb (some u) (l.foldl (jo joinC) (some x))
  rw [e1, e2]
  cases hf : l.foldl (jo joinC) none with
  | none => rfl
  | some z =>
   have hz : cmpK z.f0 k = 0 := by
    have hg : lk cmpK keyC k (normC l) = some z := by
     rw [lk_norm gdC.cc joinC_key k l]
     unfold gets
     rw [List.filter_eq_self.2 (fun y hy => beq_iff_eq.2 (show cmpK (keyC y) k = 0 from hl y hy))]
     exact hf
    exact (lk_some hg).2
   show some (joinC (joinC u x) z) = some (joinC u (joinC x z))
   rw [joinC_assoc (same_key gdC.cc hu hx) (same_key gdC.cc hx hz)]
theorem get_app (k : K4) (a b : List Cl) : getC k (a ++ b) = comb (getC k a) (getC k b) := by
 have hk : ∀ l : List Cl, ∀ x ∈ l.filter (fun x => cmpK (keyC x) k == 0), cmpK x.f0 k = 0 := fun l x hx => beq_iff_eq.1 (List.mem_filter.1 hx).2
 have hg : ∀ u, getC k a = some u → cmpK u.f0 k = 0 := fun u hu => by
  have h1 := (lk_norm gdC.cc joinC_key k a).trans hu
  exact (lk_some h1).2
 show ((a ++ b).filter _).foldl (jo joinC) none = _
 rw [List.filter_append, List.foldl_append]
 exact fold_comb k _ _ (hk b) hg
theorem get_inc (k : K4) {m : List Cl} (h : Inc cmpK keyC m) : getC k m = lk cmpK keyC k m := by
 have := lk_norm (jn := joinC) gdC.cc joinC_key k m
 rw [norm_self h] at this
 exact this.symm
def bkK (d : Nat) (k : K4) : Int := bucketOf k.f1 (d : Int)
theorem lk_filter (k : K4) (p : Cl → Bool) (v : Bool) (m : List Cl) (hp : ∀ x, cmpK x.f0 k = 0 → p x = v) : lk cmpK keyC k (m.filter p) = if v = true then lk cmpK keyC k m else none := by
 induction m with
 | nil => simp [lk]
 | cons x m ih =>
  rw [List.filter_cons, lk_cons]
  by_cases hx : cmpK (keyC x) k = 0
  ·
   rw [if_pos hx]
   have := hp x hx
   cases v with
   | true => rw [if_pos this, lk_cons, if_pos hx, if_pos rfl]
   | false => rw [if_neg (by rw [this]; simp), ih]; rfl
  ·
   rw [if_neg hx]
   split
   ·
    rw [lk_cons, if_neg hx, ih]
   ·
    rw [ih]
theorem bk_key {x : Cl} {k : K4} (d : Nat) (h : cmpK x.f0 k = 0) : bk d x = bkK d k := by
 unfold bk bkK
 rw [key_same h]
theorem inc_filter {m : List Cl} (h : Inc cmpK keyC m) (p : Cl → Bool) : Inc cmpK keyC (m.filter p) := List.Pairwise.filter p h
theorem get_pick (k : K4) (l : List Cl) (d : Nat) (bs : List Int) : getC k (pickC l d bs) = if bs.contains (bkK d k) = true then getC k l else none := by
 show getC k ((normC l).filter fun c => bs.contains (bk d c)) = _
 rw [get_inc k (inc_filter (normC_inc l) _), lk_filter k _ (bs.contains (bkK d k)) _ (fun x hx => by rw [bk_key d hx]), lk_norm gdC.cc joinC_key]
theorem get_inB (k : K4) (l : List Cl) (d b : Nat) (h : bkK d k = (b : Int)) : lk cmpK keyC k (inB d b (normC l)) = getC k l := by
 have h1 := lk_filter k (fun c => bk d c == (b : Int)) true (normC l) (fun x hx => by rw [bk_key d hx, h]; simp)
 rw [if_pos rfl] at h1
 exact h1.trans (lk_norm gdC.cc joinC_key k l)
theorem joinC_self (u : Cl) : joinC u u = u := by
 unfold joinC joinV
 rw [cmpV_cmp.refl, if_neg (by omega)]
theorem both_all (a b : List Cl) (d : Nat) (hd : d ≤ 6) (bs : List Int) (hs : ∀ i : Nat, i < 2 ^ d → bs.contains (i : Int) = false → inB d i (normC a) = inB d i (normC b)) : normC (a ++ pickC b d bs) = normC (a ++ b) :=
 norm_ext gdC.cc joinC_key (fun k => by
  show getC k _ = getC k _
  rw [get_app, get_app, get_pick]
  split
  ·
   rfl
  ·
   rename_i hc
   obtain ⟨h1, h2, _⟩ := bucket_rng k.f1 d hd
   obtain ⟨i, hi⟩ : ∃ i : Nat, bkK d k = (i : Int) := ⟨(bkK d k).toNat, by unfold bkK; omega⟩
   have hi2 : i < 2 ^ d := by unfold bkK at hi; omega
   rw [hi] at hc
   have h3 := hs i hi2 (by simpa using hc)
   have h4 := get_inB k a d i hi
   have h5 := get_inB k b d i hi
   rw [h3] at h4
   rw [← h4, h5]
   cases getC k b with
   | none => rfl
   | some u => show some u = some (joinC u u); rw [joinC_self])
theorem contains_map (p : Nat → Bool) (n i : Nat) (hi : i < n) : (((List.range n).filter p).map fun j : Nat => (j : Int)).contains (i : Int) = p i := by
 rw [Bool.eq_iff_iff]
 constructor
 ·
  intro h
  have h1 : (i : Int) ∈ ((List.range n).filter p).map fun j : Nat => (j : Int) := by simpa using h
  obtain ⟨j, hj, e⟩ := List.mem_map.1 h1
  have : j = i := by omega
  rw [← this]
  exact (List.mem_filter.1 hj).2
 ·
  intro h
  have h1 : (i : Int) ∈ ((List.range n).filter p).map fun j : Nat => (j : Int) := List.mem_map.2 ⟨i, List.mem_filter.2 ⟨List.mem_range.2 hi, h⟩, rfl⟩
  simpa using h1
theorem finds_l1 (a b : List Cl) (t : Int) (bs : List Int) (hb : bs.length ≤ 100) (x : Int) (same : Bool) (n : Int) (R : Option Bool) (k : Nat) (hne : bs.contains x ≠ same) (hR : skerrylaw22_TreeFinds.l0 k a b t bs n (wrap64 (x + 1)) = R) :
  ∀ (d i : Nat) (inn : Bool), i + d = bs.length → (inn || (bs.drop i).contains x) = bs.contains x → skerrylaw22_TreeFinds.l1 (k + d + 1) a b t bs x same inn n x bs (bs.length : Int) (i : Int) = R
 | 0, i, inn, hd, hi => by
  rw [List.drop_of_length_le (by omega)] at hi
  have : inn = bs.contains x := by simpa using hi
  rw [skerrylaw22_TreeFinds.l1, if_neg (by omega), this, if_neg (by simpa using hne)]
  exact hR
 | d + 1, i, inn, hd, hi => by
  have hi' : i < bs.length := by omega
  have e1 : wrap64 ((i : Int) + 1) = ((i + 1 : Nat) : Int) := by unfold wrap64; omega
  have e2 : rd bs (i : Int) = bs[i] := by unfold rd; rw [Int.toNat_natCast, List.getD_eq_getElem?_getD, List.getElem?_eq_getElem hi']; rfl
  rw [List.drop_eq_getElem_cons hi', List.contains_cons] at hi
  rw [show k + (d + 1) + 1 = (k + d + 1) + 1 by omega, skerrylaw22_TreeFinds.l1, if_pos (by omega), if_pos (by omega), if_pos (by omega), e1, e2]
  cases inn with
  | true =>
   rw [if_pos rfl]
   exact finds_l1 a b t bs hb x same n R k hne hR d (i + 1) true (by omega) (by simpa using hi)
  | false =>
   rw [if_neg (by simp)]
   refine finds_l1 a b t bs hb x same n R k hne hR d (i + 1) _ (by omega) ?_
   rw [← hi, Bool.false_or]
   congr 1
   rw [Bool.eq_iff_iff, beq_iff_eq, beq_iff_eq]; exact eq_comm
theorem finds_l0 (a b : List Cl) (ha : Sm a) (hb : Sm b) (hab : a.length + b.length ≤ 200) (t : Int) (bs : List Int) (hbs : bs.length ≤ 100) (hs : ∀ i : Nat, i < 2 ^ depN t → (bs.contains (i : Int) = true ↔ inB (depN t) i (normC a) ≠ inB (depN t) i (normC b))) :
  ∀ (d i k : Nat), i + d = 2 ^ depN t → 200 * d + 100040000 < k → skerrylaw22_TreeFinds.l0 k a b t bs ((2 ^ depN t : Nat) : Int) (i : Int) = some true
 | d, i, 0, _, hk => by omega
 | 0, i, k + 1, hd, hk => by
  have hp := hb.pick (depN t) bs
  have hpl : (pickC b (depN t) bs).length ≤ b.length := Nat.le_trans (List.length_filter_le _ _) (norm_len b)
  have h1 : (a ++ pickC b (depN t) bs).length ≤ 1000000 := by simp; omega
  have h2 : (a ++ b).length ≤ 1000000 := by simp; omega
  have hn : (normC (a ++ b)).length ≤ (a ++ b).length := norm_len _
  rw [List.length_append] at h1 h2 hn
  have he := both_all a b (depN t) (dep_eq t).2 bs (fun i hi h => Classical.byContradiction fun hne => by rw [(hs i hi).2 hne] at h; cases h)
  rw [skerrylaw22_TreeFinds.l0, if_neg (by omega), Option.bind_some, if_pos (by simp; omega), Option.bind_some, List.nil_append, pick_f b hb t bs k (by omega), Option.bind_some, if_pos (by omega), norm_f (a ++ pickC b (depN t) bs) (by rw [List.length_append]; omega) k (by rw [List.length_append]; omega), Option.bind_some, Option.bind_some, if_pos (by simp; omega), Option.bind_some, List.nil_append, if_pos (by omega), norm_f (a ++ b) (by rw [List.length_append]; omega) k (by rw [List.length_append]; omega), Option.bind_some, he,
   like_self _ (by omega) k (by omega), Option.bind_some, if_pos rfl]
  exact lives_b k (by omega)
 | d + 1, i, k + 1, hd, hk => by
  have hd6 := (dep_eq t).2
  have h2 := pow_le hd6
  have h64 : (2 : Nat) ^ 6 = 64 := rfl
  have e1 : wrap64 ((i : Int) + 1) = ((i + 1 : Nat) : Int) := by unfold wrap64; omega
  have hl := (ha.norm.inB (depN t) i).len
  obtain ⟨s, hs1, hs2⟩ := like_i (inB (depN t) i (normC a)) (inB (depN t) i (normC b)) (by omega) k (by omega)
  have ih := finds_l0 a b ha hb hab t bs hbs hs d (i + 1) (k - bs.length - 1) (by omega) (by omega)
  rw [← e1] at ih
  have hne : bs.contains (i : Int) ≠ s := fun e => by
   have h3 := hs i (by omega)
   rw [e] at h3
   cases s with
   | true => exact h3.1 rfl (hs2.1 rfl)
   | false => exact absurd (hs2.2 (Classical.byContradiction fun h => by have := h3.2 h; cases this)) (by simp)
  have h3 := finds_l1 a b t bs hbs (i : Int) s ((2 ^ depN t : Nat) : Int) (some true) _ hne ih bs.length 0 false (by omega) (by simp)
  rw [skerrylaw22_TreeFinds.l0, if_pos (by omega), pick_f a ha t _ k (by omega), Option.bind_some, pick_f b hb t _ k (by omega), Option.bind_some, pick_one, pick_one, hs1, Option.bind_some]
  rw [show k - bs.length - 1 + bs.length + 1 = k by omega] at h3
  exact h3
theorem finds_ok (a b : List Cl) (t : Int) (haF : ∀ c ∈ a, FineC c) (haok : ∀ c ∈ a, okC c) (hal : a.length ≤ 1256584717421) (hbF : ∀ c ∈ b, FineC c) (hbok : ∀ c ∈ b, okC c) (hbl : b.length ≤ 1256584717421) : ∃ k, skerrylaw22_TreeFinds.f k a b t = some true := by
 obtain ⟨K, hK⟩ : ∃ K : Nat, K = a.length + b.length + 100950000 := ⟨_, rfl⟩
 refine ⟨K + 1, ?_⟩
 have none_ : skerrylaw22_TreeFinds.j0 (K + 1) a b t true = some true := by
  rw [skerrylaw22_TreeFinds.j0, if_pos rfl]
  exact lives_b _ (by omega)
 obtain ⟨r, hr, hc⟩ := weigh_sm 60 (by omega) a haF haok (by omega) (K + 1) (by omega)
 obtain ⟨r', hr', hc'⟩ := weigh_sm 60 (by omega) b hbF hbok (by omega) (K + 1) (by omega)
 unfold skerrylaw22_TreeFinds.f
 rw [show (60 : Int) = ((60 : Nat) : Int) from rfl, hr, Option.bind_some]
 rcases hc with hc | ⟨h1, h2, ha⟩
 ·
  rw [if_pos (by omega)]; exact none_
 rw [if_neg (by omega), hr', Option.bind_some]
 rcases hc' with hc' | ⟨h1', h2', hb⟩
 ·
  rw [if_pos (by omega)]; exact none_
 rw [if_neg (by omega)]
 have hd6 := (dep_eq t).2
 have hp6 := pow_le hd6
 have h64 : (2 : Nat) ^ 6 = 64 := rfl
 have h0 : 0 < 2 ^ depN t := Nat.pos_of_ne_zero (by simp)
 have hla := leavesC_len a (depN t)
 have hlb := leavesC_len b (depN t)
 have hxl := buildL_len (leavesC a (depN t)) (leaves_pw a _ hd6)
 have hyl := buildL_len (leavesC b (depN t)) (leaves_pw b _ hd6)
 rw [hla] at hxl
 rw [hlb] at hyl
 have hbx := fun i hi => build_leaf a (depN t) hd6 i hi
 have hby := fun i hi => build_leaf b (depN t) hd6 i hi
 have bx := build_f (leavesC a (depN t))
 have bby := build_f (leavesC b (depN t))
 have rx := rbuild_f _ (U_leaves a (depN t)) (K + 1) (by omega)
 have ry := rbuild_f _ (U_leaves b (depN t)) (K + 1) (by omega)
 generalize buildL (leavesC a (depN t)) = X at *
 generalize buildL (leavesC b (depN t)) = Y at *
 have hK1 : 100010000 ≤ K := by omega
 have hK2 : 200 * 2 ^ depN t + 100040000 < K := by omega
 have hab : a.length + b.length ≤ 200 := by omega
 have hd1 : 1 + (X.length - 1) = X.length := by omega
 have hd2 : X.length - 1 + 1100000 < K + 1 := by omega
 obtain ⟨c, hcl, hfair⟩ := clash_l0 a b ha hb t X Y hxl hyl (X.length - 1) 1 (K + 1) hd1 hd2
 have e5 : wrap64 ((X.length : Int) / 2) = ((2 ^ depN t : Nat) : Int) := by unfold wrap64; omega
 rw [Int.natCast_one] at hcl
 have hclash : skerrylaw22_clash.f (K + 1) a b t = some c := by
  unfold skerrylaw22_clash.f
  rw [rleaves_f a ha t _ (by omega), Option.bind_some, rx, Option.bind_some, rleaves_f b hb t _ (by omega), Option.bind_some, ry, Option.bind_some, e5]
  exact hcl
 rw [hclash, Option.bind_some]
 cases c with
 | true => exact none_
 | false =>
  have hf := hfair rfl
  clear e5 hcl hclash hfair
  have hdf : diffL X Y = ((List.range (2 ^ depN t)).filter fun j => okUp X Y (depN t) (2 ^ depN t + j)).map fun j : Nat => (j : Int) := diffL_two (depN t) hd6 hxl hyl
  rw [skerrylaw22_TreeFinds.j0, if_neg (by simp), leaves_f a ha t K hK1, Option.bind_some, bx, Option.bind_some, leaves_f b hb t K hK1, Option.bind_some, bby, Option.bind_some, diff_f, Option.bind_some, Option.bind_some, hla, hdf]
  refine finds_l0 a b ha hb hab t _ (Nat.le_trans (filter_map_len _ _) (by omega)) (fun i hi => ?_) (2 ^ depN t) 0 K (by omega) hK2
  rw [contains_map _ _ _ hi, fair_up (fun j h1 h2 => hf j h1 (by omega)) (depN t) (2 ^ depN t + i) (by omega) (by omega)]
  have hx := hbx i hi
  have hy := hby i hi
  rw [hx, hy]
  have hq := hf (2 ^ depN t + i) (by omega) (by omega)
  unfold fair at hq
  rw [if_pos (by omega), show 2 ^ depN t + i - 2 ^ depN t = i by omega, hx, hy] at hq
  constructor
  ·
   intro h e; exact h (by rw [e])
  ·
   intro h
   rcases hq with hq | hq
   ·
    exact absurd hq h
   ·
    exact hq
end Go.Proofs.Ytafhnjlihhfoaaa.Pl
