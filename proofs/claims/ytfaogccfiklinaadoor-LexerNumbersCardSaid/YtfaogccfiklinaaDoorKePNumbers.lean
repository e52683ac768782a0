/- LexerNumbers, in plain words: a number's digits are that number, with noughts ahead and bars between, too. -/
import Derived.Test.YtfaogccfiklinaaDoorKePQuotes
import Derived.Test.YtfaogccfiklinaaDoorKeQx33
import Derived.Test.YtfaogccfiklinaaDoorKeQx34
set_option linter.unusedVariables false
set_option linter.unusedSimpArgs false
namespace Go.Proofs.YtfaogccfiklinaaDoor.Pl
open Go.RowKit Go.Proofs.YtfaogccfiklinaaDoorW.PrintWords
open Go.Proofs.YtfaogccfiklinaaDoor.Q
def fv (v : Int) (l : List Nat) : Int := l.foldl (fun (v : Int) (d : Nat) => 10 * v - (d : Int)) v
def tx (l : List Nat) : List Int := l.map (fun d : Nat => 48 + (d : Int))
inductive DR : Nat → List Nat → List Nat → Prop
 | last {a : Nat} {acc : List Nat} : a / 10 = 0 → DR a acc (a % 10 :: acc)
 | more {a : Nat} {acc out : List Nat} : a / 10 ≠ 0 → DR (a / 10) (a % 10 :: acc) out → DR a acc out
theorem DR.total : ∀ (a : Nat) (acc : List Nat), ∃ out, DR a acc out := by
 intro a
 induction a using Nat.strongRecOn with
 | ind a ih =>
  intro acc
  by_cases h : a / 10 = 0
  ·
   exact ⟨_, .last h⟩
  ·
   obtain ⟨out, ho⟩ := ih (a / 10) (by omega) (a % 10 :: acc)
   exact ⟨out, .more h ho⟩
theorem DR.val {a : Nat} {acc out : List Nat} (h : DR a acc out) : fv 0 out = fv (-(a : Int)) acc := by
 induction h with
 | @last a acc h =>
  show fv (10 * 0 - ((a % 10 : Nat) : Int)) acc = _
  congr 1
  omega
 | @more a acc out h _ ih =>
  rw [ih]
  show fv (10 * (-((a / 10 : Nat) : Int)) - ((a % 10 : Nat) : Int)) acc = _
  congr 1
  omega
theorem DR.low {a : Nat} {acc out : List Nat} (h : DR a acc out) : (∀ d, d ∈ acc → d ≤ 9) → ∀ d, d ∈ out → d ≤ 9 := by
 induction h with
 | @last a acc h =>
  intro ha d hd
  rcases List.mem_cons.1 hd with e | e
  ·
   omega
  ·
   exact ha d e
 | @more a acc out h _ ih =>
  intro ha
  refine ih (fun d hd => ?_)
  rcases List.mem_cons.1 hd with e | e
  ·
   omega
  ·
   exact ha d e
theorem DR.len {a : Nat} {acc out : List Nat} (h : DR a acc out) : ∀ k, 1 ≤ k → a < 10 ^ k → out.length ≤ acc.length + k := by
 induction h with
 | last h => intro k hk _; simp; omega
 | @more a acc out h _ ih =>
  intro k hk hlt
  obtain ⟨k, rfl⟩ : ∃ m, k = m + 1 := ⟨k - 1, by omega⟩
  rw [Nat.pow_succ] at hlt
  have hk1 : 1 ≤ k := by
   rcases Nat.eq_zero_or_pos k with e | e
   ·
    subst e; simp at hlt; omega
   ·
    exact e
  have := ih k hk1 (by omega)
  simp at this
  omega
theorem DR.ge {a : Nat} {acc out : List Nat} (h : DR a acc out) : acc.length ≤ out.length := by
 induction h with
 | last _ => simp
 | more _ _ ih => simp at ih; omega
theorem wrap64_of {n : Int} (hn : -9223372036854775808 ≤ n ∧ n ≤ 9223372036854775807) : wrap64 n = n := by unfold wrap64; omega
theorem DR.some {a : Nat} {acc out : List Nat} (h : DR a acc out) : 1 ≤ out.length := by
 induction h with
 | last h => simp
 | more _ _ ih => exact ih
theorem nums_app (a b : List Int) : strOfNums a ++ strOfNums b = strOfNums (a ++ b) := by
 apply ByteArray.ext
 rw [ByteArray.data_append]
 unfold strOfNums
 simp
theorem nums_ext (l : List Int) (i j : Nat) (h : j ≤ l.length) : (strOfNums l).extract i j = strOfNums ((l.drop i).take (j - i)) := by
 apply ByteArray.ext
 rw [ByteArray.data_extract]
 unfold strOfNums
 apply Array.ext'
 simp [List.extract_eq_take_drop, List.map_take, List.map_drop]
theorem digits_l0 {a : Nat} {acc out : List Nat} (h : DR a acc out) : ∀ (x : Int) (neg : Bool), x = (a : Int) ∨ x = -(a : Int) → a ≤ 9223372036854775808 → out.length ≤ 100 →
  Ev (fun k => skerryref04_Digits.l0 k x (strOfNums (tx acc)) neg) (strOfNums ((if neg = true then [45] else []) ++ tx out)) := by
 have fin : ∀ (a : Nat) (x : Int), x = (a : Int) ∨ x = -(a : Int) → a ≤ 9223372036854775808 → ((Int.tmod x 10 < 0 ∧ (wrap64 (48 + (wrap64 (-(Int.tmod x 10))))) % 256 = 48 + ((a % 10 : Nat) : Int)) ∨ (¬ Int.tmod x 10 < 0 ∧ (wrap64 (48 + (Int.tmod x 10))) % 256 = 48 + ((a % 10 : Nat) : Int))) ∧
   (wrap64 (Int.tdiv x 10) = ((a / 10 : Nat) : Int) ∨ wrap64 (Int.tdiv x 10) = -((a / 10 : Nat) : Int)) := by
  intro a x hx ha
  rcases hx with rfl | rfl
  ·
   have e1 : Int.tmod (a : Int) 10 = ((a % 10 : Nat) : Int) := rfl
   have e2 : Int.tdiv (a : Int) 10 = ((a / 10 : Nat) : Int) := rfl
   rw [e1, e2]
   refine ⟨.inr ⟨by omega, ?_⟩, .inl ?_⟩
   ·
    unfold wrap64; omega
   ·
    unfold wrap64; omega
  ·
   have e1 : Int.tmod (-(a : Int)) 10 = -((a % 10 : Nat) : Int) := by rw [Int.neg_tmod]; rfl
   have e2 : Int.tdiv (-(a : Int)) 10 = -((a / 10 : Nat) : Int) := by rw [Int.neg_tdiv]; rfl
   rw [e1, e2]
   refine ⟨?_, .inr ?_⟩
   ·
    by_cases hz : a % 10 = 0
    ·
     refine .inr ⟨by omega, ?_⟩
     unfold wrap64; omega
    ·
     refine .inl ⟨by omega, ?_⟩
     unfold wrap64; omega
   ·
    unfold wrap64; omega
 have one : ∀ (a : Nat) (acc : List Nat), strOfNums [48 + ((a % 10 : Nat) : Int)] ++ strOfNums (tx acc) = strOfNums (tx (a % 10 :: acc)) := fun a acc => nums_app _ _
 have szt : ∀ l : List Nat, (strOfNums (tx l)).size = l.length := fun l => by rw [size_nums]; unfold tx; simp
 have sg : ∀ l : List Nat, (⟨#[45]⟩ : ByteArray) ++ strOfNums (tx l) = strOfNums ([45] ++ tx l) := fun l => nums_app [45] _
 induction h with
 | @last a acc h =>
  intro x neg hx ha hl
  obtain ⟨h1, h2⟩ := fin a x hx ha
  rw [h] at h2
  have hz : wrap64 (Int.tdiv x 10) = 0 := by omega
  simp only [List.length_cons] at hl
  refine Ev.step (fun k => ?_) (Ev.now _)
  rw [skerryref04_Digits.l0, hz]
  rcases h1 with ⟨g1, g2⟩ | ⟨g1, g2⟩
  ·
   rw [if_pos g1, Option.bind_some, g2, one, if_pos (by rw [size_nums, szt]; simp; omega), if_pos rfl]
   cases neg with
   | true => rw [if_pos rfl, if_pos (by rw [szt]; simp; omega), sg]; rfl
   | false => rfl
  ·
   rw [if_neg g1, Option.bind_some, g2, one, if_pos (by rw [size_nums, szt]; simp; omega), if_pos rfl]
   cases neg with
   | true => rw [if_pos rfl, if_pos (by rw [szt]; simp; omega), sg]; rfl
   | false => rfl
 | @more a acc out h hd ih =>
  intro x neg hx ha hl
  obtain ⟨h1, h2⟩ := fin a x hx ha
  have hz : ¬ wrap64 (Int.tdiv x 10) = 0 := by omega
  have hlen := hd.ge
  simp only [List.length_cons] at hlen
  have ih' := ih (wrap64 (Int.tdiv x 10)) neg h2 (by omega) hl
  refine Ev.step (fun k => ?_) ih'
  rw [skerryref04_Digits.l0]
  rcases h1 with ⟨g1, g2⟩ | ⟨g1, g2⟩
  ·
   rw [if_pos g1, Option.bind_some, g2, one, if_pos (by rw [size_nums, szt]; simp; omega), if_neg hz]
  ·
   rw [if_neg g1, Option.bind_some, g2, one, if_pos (by rw [size_nums, szt]; simp; omega), if_neg hz]
theorem digits_ev (n : Int) (hn : -9223372036854775808 ≤ n ∧ n ≤ 9223372036854775807) : ∃ D : List Nat, 1 ≤ D.length ∧ D.length ≤ 20 ∧ (∀ d, d ∈ D → d ≤ 9) ∧ fv 0 D = -(n.natAbs : Int) ∧ Ev (fun k => skerryref04_Digits.f k n) (strOfNums ((if n < 0 then [45] else []) ++ tx D)) := by
 obtain ⟨D, hD⟩ := DR.total n.natAbs []
 have hl := hD.len 20 (by omega) (by omega)
 simp only [List.length_nil, Nat.zero_add] at hl
 refine ⟨D, hD.some, hl, hD.low (fun d h => by cases h), hD.val, ?_⟩
 have h := digits_l0 hD n (decide (n < 0)) (by omega) (by omega) (by omega)
 have e : (if decide (n < 0) = true then ([45] : List Int) else []) = if n < 0 then [45] else [] := by
  by_cases h : n < 0
  ·
   rw [if_pos (decide_eq_true h), if_pos h]
  ·
   rw [if_neg (by simp [h]), if_neg h]
 rw [e] at h
 exact h
def eb : List (Nat × Bool) → List Int
 | [] => []
 | (d, b) :: l => (if b = true then [95] else []) ++ (48 + (d : Int)) :: eb l
theorem dg_of {s : ByteArray} {i : Nat} {d : Nat} (h : cb s i = 48 + d) (hd : d ≤ 9) : dg s i = true := by
 unfold dg digitB
 rw [h]
 simp
 omega
theorem num_run {s : ByteArray} : ∀ (l : List (Nat × Bool)) (p : List Int) (v : Int), s = strOfNums (p ++ eb l) → (∀ x, x ∈ l → x.1 ≤ 9) → v ≤ 0 → -9223372036854775808 ≤ fv v (l.map (·.1)) → fv v (l.map (·.1)) ≤ v ∧ NumR s (skp s p.length) v (some (s.size, fv v (l.map (·.1)))) := by
 intro l
 induction l with
 | nil =>
  intro p v e _ hv _
  have hz : s.size = p.length := by rw [e, size_nums]; simp [eb]
  have hs : skp s p.length = p.length := by
   unfold skp
   rw [cb_out (by omega)]
   exact if_neg (fun e => absurd e.1 (by decide))
  refine ⟨Int.le_refl _, ?_⟩
  rw [hs, hz]
  refine .stop ?_
  unfold dg
  rw [cb_out (by omega)]
  rfl
 | cons x l ih =>
  obtain ⟨d, b⟩ := x
  intro p v e hx hv hlo
  have hd : d ≤ 9 := hx (d, b) (by simp)
  have hfv : fv v (((d, b) :: l).map (·.1)) = fv (10 * v - (d : Int)) (l.map (·.1)) := rfl
  rw [hfv] at hlo ⊢
  -- the digit's place
  have main : ∀ q : List Int, s = strOfNums (q ++ (48 + (d : Int)) :: eb l) → fv (10 * v - (d : Int)) (l.map (·.1)) ≤ v ∧ NumR s q.length v (some (s.size, fv (10 * v - (d : Int)) (l.map (·.1)))) := by
   intro q eq
   have k0 : cb s q.length = 48 + d := by
    have := cb_nums q (48 + (d : Int)) (eb l) eq (by omega) (by omega)
    rw [this]; omega
   have hg := ih (q ++ [48 + (d : Int)]) (10 * v - (d : Int)) (by rw [eq]; simp) (fun y h => hx y (by simp [h])) (by omega) hlo
   rw [show (q ++ [48 + (d : Int)]).length = q.length + 1 by simp] at hg
   refine ⟨by omega, .more (dg_of k0 hd) ?_ ?_⟩
   ·
    unfold cut
    rw [k0]
    have e1 : (((48 + d : Nat) : Int) - 48) % 256 = (d : Int) := by omega
    rw [e1]
    have e2 : (-9223372036854775808 + (d : Int)) = -((9223372036854775808 - d : Nat) : Int) := by omega
    have e3 : Int.tdiv (-((9223372036854775808 - d : Nat) : Int)) 10 = -(((9223372036854775808 - d) / 10 : Nat) : Int) := by rw [Int.neg_tdiv]; rfl
    rw [e2, e3]
    omega
   ·
    have e1 : nxt (cb s q.length) v = 10 * v - (d : Int) := by
     unfold nxt
     rw [k0, show (((48 + d : Nat) : Int) - 48) % 256 = (d : Int) by omega]
     unfold wrap64
     omega
    rw [e1]
    exact hg.2
  cases b with
  | false =>
   have e2 : s = strOfNums (p ++ (48 + (d : Int)) :: eb l) := by rw [e, eb]; simp
   have k0 : cb s p.length = 48 + d := by
    have := cb_nums p (48 + (d : Int)) (eb l) e2 (by omega) (by omega)
    rw [this]; omega
   have hs : skp s p.length = p.length := by
    unfold skp
    exact if_neg (fun e => by omega)
   rw [hs]
   exact main p e2
  | true =>
   have e2 : s = strOfNums (p ++ 95 :: ((48 + (d : Int)) :: eb l)) := by rw [e, eb]; simp
   have k0 : cb s p.length = 95 := cb_nums p 95 _ e2 (by omega) (by omega)
   have e3 : s = strOfNums ((p ++ [95]) ++ (48 + (d : Int)) :: eb l) := by rw [e2]; simp
   have k1 : cb s (p.length + 1) = 48 + d := by
    have := cb_nums (p ++ [95]) (48 + (d : Int)) (eb l) e3 (by omega) (by omega)
    rw [show (p ++ [(95 : Int)]).length = p.length + 1 by simp] at this
    rw [this]; omega
   have hs : skp s p.length = p.length + 1 := by
    unfold skp
    exact if_pos ⟨k0, dg_of k1 hd⟩
   rw [hs]
   have := main (p ++ [95]) e3
   rw [show (p ++ [(95 : Int)]).length = p.length + 1 by simp] at this
   exact this
theorem num_lex {s : ByteArray} {n : Int} (d : Nat) (l : List (Nat × Bool)) (e : s = strOfNums ((if n < 0 then [45] else []) ++ eb ((d, false) :: l))) (hn : -9223372036854775808 ≤ n ∧ n ≤ 9223372036854775807) (hx : ∀ x, x ∈ ((d, false) :: l) → x.1 ≤ 9)
  (hv : fv 0 (((d, false) :: l).map (·.1)) = -(n.natAbs : Int)) : LexR s 0 [] ([⟨4, (⟨#[]⟩ : ByteArray), ⟨1, n, (⟨#[]⟩ : ByteArray)⟩, 0, (s.size : Int)⟩, ⟨0, (⟨#[]⟩ : ByteArray), ⟨0, 0, (⟨#[]⟩ : ByteArray)⟩, (s.size : Int), (s.size : Int)⟩], 0, 0) := by
 have hd : d ≤ 9 := hx (d, false) (by simp)
 have hr := num_run ((d, false) :: l) (if n < 0 then [45] else []) 0 e hx (Int.le_refl _) (by rw [hv]; omega)
 rw [hv] at hr
 have hpos : 0 < s.size := by rw [e, size_nums]; simp [eb]; omega
 have done : ∀ q : R8, OneR s 0 q → q = (4, (⟨#[]⟩ : ByteArray), 1, n, (⟨#[]⟩ : ByteArray), ((0 : Nat) : Int), (s.size : Int), (-1)) → blankB (cb s 0) = false → ¬ (cb s 0 = 45 ∧ cb s 1 = 45) → LexR s 0 [] ([⟨4, (⟨#[]⟩ : ByteArray), ⟨1, n, (⟨#[]⟩ : ByteArray)⟩, 0, (s.size : Int)⟩, ⟨0, (⟨#[]⟩ : ByteArray), ⟨0, 0, (⟨#[]⟩ : ByteArray)⟩, (s.size : Int), (s.size : Int)⟩], 0, 0) := by
  intro q hq eq hb hm
  subst eq
  have hn : NextR s 0 (4, (⟨#[]⟩ : ByteArray), 1, n, (⟨#[]⟩ : ByteArray), ((0 : Nat) : Int), (s.size : Int), 0, 0) := NextR.tok (.stop (fun _ => hb) hm) hpos hq
  exact .more hn (by omega) hpos (by omega) (by omega) (by omega) (by omega) (.fin (.fin (sk_fin s)))
 by_cases hneg : n < 0
 ·
  rw [if_pos hneg] at e hr
  have e0 : s = strOfNums ([] ++ 45 :: ((48 + (d : Int)) :: eb l)) := by rw [e, eb]; simp
  have k0 : cb s 0 = 45 := cb_nums [] 45 _ e0 (by omega) (by omega)
  have e1 : s = strOfNums ([45] ++ (48 + (d : Int)) :: eb l) := by rw [e, eb]; simp
  have k1 : cb s 1 = 48 + d := by
   have := cb_nums [45] (48 + (d : Int)) (eb l) e1 (by omega) (by omega)
   rw [show ([45] : List Int).length = 1 from rfl] at this
   rw [this]; omega
  have hnum : isNum s 0 := .inr ⟨k0, dg_of k1 hd⟩
  have ha : numAt s 0 = 1 := by unfold numAt; rw [if_pos k0]
  have hsk := numAt_skp hnum
  rw [ha] at hsk
  have hr2 := hr.2
  rw [show ([45] : List Int).length = 1 from rfl, hsk, ← ha] at hr2
  refine done _ (.num hnum hr2) ?_ (by rw [k0]; rfl) (fun e => by omega)
  unfold numOut
  simp only
  rw [if_pos (by rw [k0]; rfl), show -(n.natAbs : Int) = n by omega]
 ·
  rw [if_neg hneg] at e hr
  have e0 : s = strOfNums ([] ++ (48 + (d : Int)) :: eb l) := by rw [e, eb]; simp
  have k0 : cb s 0 = 48 + d := by
   have := cb_nums [] (48 + (d : Int)) (eb l) e0 (by omega) (by omega)
   rw [show ([] : List Int).length = 0 from rfl] at this
   rw [this]; omega
  have hnum : isNum s 0 := .inl (dg_of k0 hd)
  have ha : numAt s 0 = 0 := by unfold numAt; rw [if_neg (by omega)]
  have hsk := numAt_skp hnum
  rw [ha] at hsk
  have hr2 := hr.2
  rw [show ([] : List Int).length = 0 from rfl, hsk, ← ha] at hr2
  refine done _ (.num hnum hr2) ?_ (by rw [k0]; unfold blankB; simp; omega) (fun e => by omega)
  unfold numOut
  simp only
  rw [if_neg (by rw [k0]; simp; omega), if_neg (by omega), Int.neg_neg, show (n.natAbs : Int) = n by omega, wrap64_of hn]
def bar (x : Int) (i : Nat) : Bool := decide (0 < i) && decide ((Go.bits .and .u64 (shr .u64 x (IntKind.u64.wrap (Int.tmod (i : Int) 60))) 1) = 1)
def mk (x : Int) : Nat → List Nat → List (Nat × Bool)
 | _, [] => []
 | i, d :: D => (d, bar x i) :: mk x (i + 1) D
theorem mk_fst (x : Int) : ∀ (D : List Nat) (i : Nat), (mk x i D).map (·.1) = D
 | [], _ => rfl
 | d :: D, i => by rw [mk, List.map_cons, mk_fst x D (i + 1)]
theorem mk_len (x : Int) : ∀ (D : List Nat) (i : Nat), (eb (mk x i D)).length ≤ 2 * D.length
 | [], _ => by simp [mk, eb]
 | d :: D, i => by
  have := mk_len x D (i + 1)
  simp only [mk, eb, List.length_append, List.length_cons]
  split <;> simp <;> omega
theorem num_l1 {x2 : Int} {x8 : List S25} {x7 : ByteArray} (D : List Nat) (hD : D.length ≤ 100) (e7 : x7 = strOfNums (tx D)) : ∀ (D2 D1 : List Nat) (T : List Int), D = D1 ++ D2 → T.length ≤ 1 + 2 * D1.length →
  Ev (fun k => skerrylaw18_LexerNumbers.l1 k x2 x7 x8 (strOfNums (T ++ eb (mk x2 D1.length D2))) (D.length : Int)) true → Ev (fun k => skerrylaw18_LexerNumbers.l1 k x2 x7 x8 (strOfNums T) (D1.length : Int)) true := by
 have hz : x7.size = D.length := by rw [e7, size_nums]; unfold tx; simp
 intro D2
 induction D2 with
 | nil =>
  intro D1 T e _ h
  rw [List.append_nil] at e
  subst e
  rw [mk, eb, List.append_nil] at h
  exact h
 | cons d D2 ih =>
  intro D1 T e hT h
  have hlt : D1.length < D.length := by rw [e]; simp
  have w1 : wrap64 ((D1.length : Int) + 1) = ((D1.length + 1 : Nat) : Int) := wr1 (by omega) 1 (by omega)
  have hx : x7.extract D1.length (D1.length + 1) = strOfNums [48 + (d : Int)] := by
   rw [e7, nums_ext _ _ _ (by unfold tx; simp; omega), e]
   unfold tx
   congr 1
   simp
  have hw : IntKind.u64.wrap (Int.tmod (D1.length : Int) 60) = ((D1.length % 60 : Nat) : Int) := by
   show IntKind.u64.wrap ((D1.length % 60 : Nat) : Int) = _
   unfold IntKind.wrap
   simp [IntKind.bits, IntKind.signed]
   omega
  have szx : (strOfNums [48 + (d : Int)]).size = 1 := rfl
  cases hb : bar x2 D1.length with
  | false =>
   have h' := ih (D1 ++ [d]) (T ++ [48 + (d : Int)]) (by rw [e]; simp) (by simp; omega) (by
    rw [mk, hb, eb] at h
    simpa using h)
   rw [show (D1 ++ [d]).length = D1.length + 1 by simp, ← nums_app] at h'
   refine Ev.step (fun k => ?_) h'
   rw [skerrylaw18_LexerNumbers.l1, if_pos (by omega)]
   have tail : (if 0 ≤ (D1.length : Int) then (if (D1.length : Int) ≤ (wrap64 ((D1.length : Int) + 1)) then (if (wrap64 ((D1.length : Int) + 1)) ≤ (x7.size : Int) then (if (strOfNums T).size + (x7.extract ((D1.length : Int) : Int).toNat ((wrap64 ((D1.length : Int) + 1)) : Int).toNat).size ≤ 9223372036854775807 then (skerrylaw18_LexerNumbers.l1 k x2 x7 x8 ((strOfNums T) ++ (x7.extract ((D1.length : Int) : Int).toNat ((wrap64 ((D1.length : Int) + 1)) : Int).toNat)) (wrap64 ((D1.length : Int) + 1))) else (none)) else (none)) else (none)) else (none)) = skerrylaw18_LexerNumbers.l1 k x2 x7 x8 (strOfNums T ++ strOfNums [48 + (d : Int)]) ((D1.length + 1 : Nat) : Int) := by
    rw [w1, Int.toNat_natCast, Int.toNat_natCast, hx, if_pos (by omega), if_pos (by omega), if_pos (by omega), if_pos (by rw [size_nums, szx]; omega)]
   by_cases h0 : (D1.length : Int) > 0
   ·
    rw [if_pos h0, if_pos (by rw [hw]; omega), if_neg (by
     unfold bar at hb
     rw [decide_eq_true (by omega), Bool.true_and, decide_eq_false_iff_not] at hb
     exact hb)]
    exact tail
   ·
    rw [if_neg h0]
    exact tail
  | true =>
   have h' := ih (D1 ++ [d]) (T ++ [95] ++ [48 + (d : Int)]) (by rw [e]; simp) (by simp; omega) (by
    rw [mk, hb, eb] at h
    simpa using h)
   rw [show (D1 ++ [d]).length = D1.length + 1 by simp, ← nums_app, ← nums_app] at h'
   have hb' := hb
   unfold bar at hb'
   rw [Bool.and_eq_true, decide_eq_true_eq, decide_eq_true_eq] at hb'
   refine Ev.step (fun k => ?_) h'
   rw [skerrylaw18_LexerNumbers.l1, if_pos (by omega), if_pos (by omega), if_pos (by rw [hw]; omega), if_pos hb'.2, w1, Int.toNat_natCast, Int.toNat_natCast, hx]
   rw [if_pos (by rw [size_nums]; omega), if_pos (by omega), if_pos (by omega), if_pos (by omega), if_pos (by rw [ByteArray.size_append, size_nums, szx]; show T.length + 1 + 1 ≤ _; omega)]
   rfl
theorem num_l0 {x1 x2 : Int} (h1 : 0 ≤ x1) {x8 : List S25} {sg : ByteArray} (D : List Nat) (hD : D.length ≤ 50) : ∀ (d i : Nat), (i : Int) + d = Int.tmod x1 40 → Ev (fun k => skerrylaw18_LexerNumbers.l1 k x2 (strOfNums (tx (List.replicate (i + d) 0 ++ D))) x8 sg 0) true → Ev (fun k => skerrylaw18_LexerNumbers.l0 k x1 x2 (strOfNums (tx (List.replicate i 0 ++ D))) x8 sg (i : Int)) true := by
 have hlt : Int.tmod x1 40 < 40 := Int.tmod_lt_of_pos x1 (by omega)
 intro d
 induction d with
 | zero =>
  intro i h he
  exact Ev.step (fun k => by rw [skerrylaw18_LexerNumbers.l0, if_neg (by omega)]; rfl) he
 | succ d ih =>
  intro i h he
  have he' := ih (i + 1) (by omega) (by rw [show i + 1 + d = i + (d + 1) by omega]; exact he)
  have e1 : strOfNums (tx (List.replicate (i + 1) 0 ++ D)) = (⟨#[48]⟩ : ByteArray) ++ strOfNums (tx (List.replicate i 0 ++ D)) := (nums_app [48] _).symm
  rw [e1] at he'
  refine Ev.step (fun k => ?_) he'
  have w1 : IntKind.u64.wrap ((i : Int) + 1) = ((i + 1 : Nat) : Int) := by
   unfold IntKind.wrap
   simp [IntKind.bits, IntKind.signed]
   omega
  rw [skerrylaw18_LexerNumbers.l0, if_pos (by omega), if_pos (by rw [size_nums]; unfold tx; simp; omega), w1]
theorem fv_zeros (z : Nat) (D : List Nat) : fv 0 (List.replicate z 0 ++ D) = fv 0 D := by
 induction z with
 | zero => rfl
 | succ z ih => exact ih
theorem numbers_ok (n x1 x2 : Int) (hn : (Lit.int .i64 n).wf = true) (h1 : (Lit.int .u64 x1).wf = true) : ∃ k, skerrylaw18_LexerNumbers.f k n x1 x2 = some true := by
 have hn' : -9223372036854775808 ≤ n ∧ n ≤ 9223372036854775807 := by
  simpa [Lit.wf, IntKind.min, IntKind.max, IntKind.signed, IntKind.bits] using hn
 have h1' : 0 ≤ x1 := by
  have : 0 ≤ x1 ∧ x1 ≤ 18446744073709551615 := by simpa [Lit.wf, IntKind.min, IntKind.max, IntKind.signed, IntKind.bits] using h1
  exact this.1
 obtain ⟨D, g1, g2, g3, g4, g5⟩ := digits_ev n hn'
 have plainD : ∀ D : List Nat, eb (D.map (fun d => (d, false))) = tx D := by
  intro D
  induction D with
  | nil => rfl
  | cons d D ih => rw [List.map_cons, eb, ih]; rfl
 -- any digits of that value, with bars from the second on
 have read : ∀ (D : List Nat) (l : List (Nat × Bool)) (q : ByteArray), q = strOfNums ((if n < 0 then [45] else []) ++ eb l) → q.size ≤ 600 → l.map (·.1) = D → (∀ d t, l = d :: t → d.2 = false) → l ≠ [] → (∀ d, d ∈ D → d ≤ 9) → fv 0 D = -(n.natAbs : Int) → Ev (fun k => lexer_Lex.f k q) ([⟨4, (⟨#[]⟩ : ByteArray), ⟨1, n, (⟨#[]⟩ : ByteArray)⟩, 0, (q.size : Int)⟩, ⟨0, (⟨#[]⟩ : ByteArray), ⟨0, 0, (⟨#[]⟩ : ByteArray)⟩, (q.size : Int), (q.size : Int)⟩], 0, 0) := by
  intro D l q e hz hl hf hne hlow hv
  cases l with
  | nil => exact absurd rfl hne
  | cons x t =>
   obtain ⟨d, b⟩ := x
   have hb : b = false := hf _ _ rfl
   subst hb
   subst hl
   exact lex_lex hz (num_lex d t e hn' (fun x hx => hlow _ (List.mem_map_of_mem hx)) hv) (Nat.zero_le _) (Nat.le_refl _)
 have hs1 : (strOfNums ((if n < 0 then [45] else []) ++ tx D)).size ≤ 600 := by rw [size_nums]; unfold tx; split <;> simp <;> omega
 have hne : D ≠ [] := fun e => by rw [e] at g1; simp at g1
 have r1 := read D (D.map (fun d => (d, false))) _ (by rw [plainD]) hs1 (by rw [List.map_map]; exact List.map_id _) (fun d t e => by
  cases D with
  | nil => cases e
  | cons y D => cases e; rfl) (by simpa using hne) g3 g4
 refine Ev.rounds ?_
 unfold skerrylaw18_LexerNumbers.f
 refine Ev.bind g5 (Ev.bind r1 ?_)
 -- the number again, with noughts and bars
 obtain ⟨z, hz⟩ := Int.eq_ofNat_of_zero_le (Int.tmod_nonneg 40 h1')
 have hz40 : Int.tmod x1 40 < 40 := Int.tmod_lt_of_pos x1 (by omega)
 have hbl := mk_len x2 (List.replicate z 0 ++ D) 0
 have hlen : (List.replicate z 0 ++ D).length ≤ 60 := by simp; omega
 have hsz : (strOfNums ((if n < 0 then [45] else []) ++ eb (mk x2 0 (List.replicate z 0 ++ D)))).size ≤ 600 := by
  rw [size_nums, List.length_append]
  have : (if n < 0 then ([45] : List Int) else []).length ≤ 1 := by split <;> simp
  omega
 have r2 := read (List.replicate z 0 ++ D) (mk x2 0 (List.replicate z 0 ++ D)) _ rfl hsz (mk_fst _ _ _) (fun d t e => by
   cases h : List.replicate z 0 ++ D with
   | nil => rw [h] at e; cases e
   | cons y t => rw [h] at e; cases e; unfold bar; simp) (fun e => by
   have := congrArg (List.map (·.1)) e
   rw [mk_fst] at this
   exact hne (List.append_eq_nil_iff.1 this).2) (fun d hd => by
   rcases List.mem_append.1 hd with e | e
   ·
    rw [List.mem_replicate] at e; omega
   ·
    exact g3 d e) (by rw [fv_zeros]; exact g4)
 have body : Ev (fun k => skerrylaw18_LexerNumbers.j1 k x1 x2 (strOfNums (tx D)) [⟨4, (⟨#[]⟩ : ByteArray), ⟨1, n, (⟨#[]⟩ : ByteArray)⟩, 0, ((strOfNums ((if n < 0 then [45] else []) ++ tx D)).size : Int)⟩, ⟨0, (⟨#[]⟩ : ByteArray), ⟨0, 0, (⟨#[]⟩ : ByteArray)⟩, ((strOfNums ((if n < 0 then [45] else []) ++ tx D)).size : Int), ((strOfNums ((if n < 0 then [45] else []) ++ tx D)).size : Int)⟩] (strOfNums (if n < 0 then [45] else []))) true := by
  refine Ev.step (fun k => by rw [skerrylaw18_LexerNumbers.j1]) ?_
  refine num_l0 h1' D (by omega) z 0 (by omega) ?_
  rw [Nat.zero_add]
  refine num_l1 (List.replicate z 0 ++ D) (by omega) rfl (List.replicate z 0 ++ D) [] _ rfl (by split <;> simp) ?_
  refine Ev.step (fun k => ?_) (Ev.bind r2 (f := fun k q => if q.2.2 = 0 then (if (q.1.length : Int) = 2 then (if 0 < (q.1.length : Int) then (if (((rd_T25 q.1 0).f2.f0) == 1 && (((rd_T25 q.1 0).f2.f1) == n && ((((rd_T25 q.1 0).f2.f2).toList) == ((⟨#[]⟩ : ByteArray).toList)))) = true then (if ((rd_T25 q.1 0).f4) = ((strOfNums ((if n < 0 then [45] else []) ++ eb (mk x2 0 (List.replicate z 0 ++ D)))).size : Int) then ((skerrylaw18_lives.f k).bind fun t469 => (some t469)) else (none)) else (none)) else (none)) else (none)) else (none)) ?_)
  ·
   rw [skerrylaw18_LexerNumbers.l1, if_neg (by rw [size_nums]; unfold tx; simp)]
   rfl
  ·
   exact Ev.congr (fun k => (if_pos rfl).trans ((if_pos rfl).trans ((if_pos (by simp)).trans ((if_pos (by simp [rd_T25])).trans (if_pos rfl))))) (Ev.bind lives_ok (Ev.now _))
 refine Ev.congr (f := fun k => skerrylaw18_LexerNumbers.j0 k n x1 x2 (strOfNums ((if n < 0 then [45] else []) ++ tx D)) [⟨4, (⟨#[]⟩ : ByteArray), ⟨1, n, (⟨#[]⟩ : ByteArray)⟩, 0, ((strOfNums ((if n < 0 then [45] else []) ++ tx D)).size : Int)⟩, ⟨0, (⟨#[]⟩ : ByteArray), ⟨0, 0, (⟨#[]⟩ : ByteArray)⟩, ((strOfNums ((if n < 0 then [45] else []) ++ tx D)).size : Int), ((strOfNums ((if n < 0 then [45] else []) ++ tx D)).size : Int)⟩] false) (fun k => ?_) ?_
 ·
  refine (if_pos rfl).trans ((if_pos rfl).trans ((if_pos (by simp)).trans ((if_pos rfl).trans ?_)))
  congr 1
  simp [rd_T25]
 ·
  refine Ev.step (fun k => ?_) body
  rw [skerrylaw18_LexerNumbers.j0, if_neg (by simp)]
  by_cases hneg : n < 0
  ·
   rw [if_pos hneg, if_pos hneg, if_pos (by rw [size_nums]; simp; omega)]
   have : (strOfNums ([45] ++ tx D)).extract 1 (strOfNums ([45] ++ tx D)).size = strOfNums (tx D) := by
    rw [nums_ext _ _ _ (by rw [size_nums]; exact Nat.le_refl _), size_nums]
    congr 1
    simp
   rw [this]
   rfl
  ·
   rw [if_neg hneg, if_neg hneg]
   rfl
end Go.Proofs.YtfaogccfiklinaaDoor.Pl
