/- Lemmas for this claim's walk: no condition of their own. -/
import Derived.Test.YtabiekkebdocnaaZeQx23
import Derived.Test.YtabiekkebdocnaaZeJ32
import Derived.Test.YtabiekkebdocnaaZeJ0
import Derived.Test.YtabiekkebdocnaaZeDown
import Derived.Test.YtabiekkebdocnaaZeSorted
import Derived.Test.YtabiekkebdocnaaZeTake
import Derived.Test.YtabiekkebdocnaaZeEach
import Derived.Test.YtabiekkebdocnaaZeGrp
import Derived.Test.YtabiekkebdocnaaZeRh
import Derived.Test.YtabiekkebdocnaaZeSeqE
import Derived.Test.YtabiekkebdocnaaZeJ13
import Derived.Test.YtabiekkebdocnaaZeAll
import Derived.Maps.OwnIn
import Derived.DeepKeys4
import Derived.Deep.MidRow
import Derived.WalkLawsBesides
import Derived.WalkSpells
import Derived.Lib.Hide
import Derived.Deep.DeepFit
import Derived.Outline
import Derived.Test.YtabiekkebdocnaaZeJ19
import Derived.Test.YtabiekkebdocnaaZeJ16
namespace Go.Proofs.Ytabiekkebdocnaa.Q
open Go.RowKit Go.Proofs.YtabiekkebdocnaaW.PrintWords Go.Proofs.YtabiekkebdocnaaW.PrintLast Go.Proofs.YtabiekkebdocnaaW.PrintMore
attribute [local go_sem] max2_int min2_int max_two min_two max_three min_three max_four min_four
set_option linter.unusedVariables false
set_option linter.unusedSimpArgs false
open Go.Lib Go.Proofs.Ytabiekkebdocnaa.Hp Go.Proofs.Ytabiekkebdocnaa.Pl Go.Proofs.Ytabiekkebdocnaa.Rh Go.Proofs.Ytabiekkebdocnaa.Ord Go.Proofs.Ytabiekkebdocnaa.Nm Go.Maps
abbrev Key := S33
abbrev Ver := S37
def keyV (k : Key) : Value := .agg #[.string k.f0, .string k.f1, .int .i64 k.f2, .string k.f3]
def verV (x : Ver) : Value := .agg #[.int .i64 x.f0, .bool x.f1, .int .i64 x.f2, .int .i64 x.f3.f0, .int .i64 x.f3.f1, .string x.f3.f2]
theorem laid_prog : laidOutB Try.prog = true := by kernel_rfl
theorem keyed : Keyed Try.prog 33 := Keyed.of_law (deep_law_laid laid_prog (m := 3) (by omega) (of_decide_eq_true (by kernel_rfl)) (by kernel_rfl) (by kernel_rfl))
def RV : Value → Option (DataW Value × List MemPlace) := fun v => some (.held v, [])
def KeyW (k : Key) : Prop := ∃ l, keyOf Try.prog 33 (keyV k) = some l
theorem key_inj {k k' : Key} {l : Lit} (h : keyOf Try.prog 33 (keyV k) = some l) (h' : keyOf Try.prog 33 (keyV k') = some l) : k = k' := by
 have e := keyed.inj h h'
 obtain ⟨a, b, c, d⟩ := k
 obtain ⟨a', b', c', d'⟩ := k'
 unfold keyV at e
 injection e with e
 injection e with e
 simp at e
 obtain ⟨rfl, rfl, rfl, rfl⟩ := e
 rfl
structure MD (D : DataW Value) (os : List Cl) : Prop where
 m : IsMap D
 at_ : ∀ k l, keyOf Try.prog 33 (keyV k) = some l → (∀ z, D.atKey l z = match lk cmpK keyC k os with | some y => .held (verV y.f1) | none => z) ∧ has D l = (lk cmpK keyC k os).isSome
theorem MD.nil : MD (.map []) [] := ⟨⟨[], rfl⟩, fun k l _ => ⟨fun z => rfl, rfl⟩⟩
theorem lk_snoc (k : Key) (os : List Cl) (y : Cl) : lk cmpK keyC k (os ++ [y]) = match lk cmpK keyC k os with | some x => some x | none => if cmpK y.f0 k = 0 then some y else none := by
 unfold lk
 rw [List.find?_append]
 cases List.find? (fun x => cmpK (keyC x) k == 0) os with
 | some x => rfl
 | none =>
  rw [Option.none_or, List.find?_cons]
  dsimp only
  by_cases h : cmpK y.f0 k = 0
  ·
   rw [if_pos h, show (cmpK (keyC y) k == 0) = true by show (cmpK y.f0 k == 0) = true; rw [h]; rfl]
  ·
   rw [if_neg h, show (cmpK (keyC y) k == 0) = false by show (cmpK y.f0 k == 0) = false; simpa using h]; rfl
theorem MD.put {D : DataW Value} {os : List Cl} (h : MD D os) {y : Cl} {l : Lit} (hl : keyOf Try.prog 33 (keyV y.f0) = some l) (hn : lk cmpK keyC y.f0 os = none) : MD (D.put l (.held (verV y.f1))) (os ++ [y]) := by
 refine ⟨h.m.put _ _, fun k l' hl' => ?_⟩
 rw [lk_snoc]
 by_cases e : y.f0 = k
 ·
  subst e
  have el : l' = l := Option.some.inj (hl'.symm.trans hl)
  subst el
  rw [hn]
  dsimp only
  rw [if_pos (cmpK_cmp.refl _)]
  exact ⟨fun z => atKey_put_same h.m (keyed.key hl) _ z, has_put_same h.m (keyed.key hl) _⟩
 ·
  have hne : l' ≠ l := fun e2 => e (key_inj hl (e2 ▸ hl'))
  obtain ⟨h1, h2⟩ := h.at_ k l' hl'
  rw [has_put_other hne]
  refine ⟨fun z => ?_, ?_⟩
  ·
   rw [atKey_put_other hne, h1]
   cases lk cmpK keyC k os with
   | some x => rfl
   | none => dsimp only; rw [if_neg (fun e2 => e (key_same e2))]
  ·
   rw [h2]
   cases lk cmpK keyC k os with
   | some x => rfl
   | none => dsimp only; rw [if_neg (fun e2 => e (key_same e2))]
def subF (a b : List Cl) : List Cl := a.filter fun c => match lk cmpK keyC c.f0 b with | none => true | some y => decide (cmpV y.f1 c.f1 < 0)
theorem C_one {w : World} {A : Option Addr} {c : Nat} {l : List Cl} (h : Kd.C k39 w A l.length l) (hc : l.length ≤ c) : Kd.C (Kd.slice 39 k39) (w.alloc (.cells #[.slice A l.length c] 25)) (some ⟨w.heap.size, 0, none⟩) 1 [l] := by
 refine ⟨rfl, by omega, fun _ => ⟨_, rfl, fun j p hj => ?_⟩⟩
 have hj0 : j = 0 := by
  cases j with
  | zero => rfl
  | succ j => simp at hj
 subst hj0
 obtain rfl : l = p := by simpa using hj
 refine ⟨[.slice A l.length c], rfl, ⟨A, c, rfl, hc, Kd.C_alloc h _⟩, fun i u hu => ?_⟩
 cases i with
 | zero =>
  obtain rfl : Value.slice A l.length c = u := by simpa using hu
  simp [Addr.add]
 | succ i => simp at hu
end Go.Proofs.Ytabiekkebdocnaa.Q
namespace Go.Proofs.Ytabiekkebdocnaa.Pl
open Go Go.RowKit Go.Proofs.YtabiekkebdocnaaW.PrintWords Go.Proofs.Ytabiekkebdocnaa.Q Go.Proofs.Ytabiekkebdocnaa.Opn
set_option linter.unusedVariables false
set_option linter.unusedSimpArgs false
theorem lits_key (d : Nat) (k : S33) (h : WK k) : ∃ ls, Try.prog.keyLits (d + 2) 33 [.string k.f0, .string k.f1, .int .i64 k.f2, .string k.f3] = some ls := by
 obtain ⟨h0, h1, h2, h3⟩ := h
 have m : (140737488351232 : Nat) ≤ maxLen := by decide
 have c33 : Try.prog.cellsOf 33 = 4 := by kernel_rfl
 have c9 : Try.prog.cellsOf 9 = 1 := by kernel_rfl
 have c3 : Try.prog.cellsOf 3 = 1 := by kernel_rfl
 have s : ∀ (x : ByteArray), x.size ≤ 140737488351232 → Try.prog.keyLits (d + 1) 9 [.string x] = some [.string x.data.toList] := fun x hx => by
  unfold Program.keyLits
  rw [Try.underlying9]
  dsimp only
  rw [if_pos (Nat.le_trans hx m)]
 have i : Try.prog.keyLits (d + 1) 3 [.int .i64 k.f2] = some [.int .i64 k.f2] := by
  unfold Program.keyLits
  rw [Try.underlying3]
  dsimp only
  rw [if_pos ⟨rfl, h2⟩]
 unfold Program.keyLits
 rw [Try.underlying33]
 dsimp only
 rw [if_pos ⟨c33.symm ▸ rfl, by decide +kernel⟩]
 simp [c9, c3, s _ h0, s _ h1, s _ h3, i]
theorem keyW {k : S33} (h : WK k) : KeyW k := by
 obtain ⟨d, hd⟩ : ∃ d, Try.prog.types.size = d + 1 := Nat.exists_eq_succ_of_ne_zero (by decide +kernel)
 obtain ⟨ls, hls⟩ := lits_key d k h
 refine ⟨.string (keyBytes ls), ?_⟩
 unfold keyOf
 rw [Try.underlying33]
 dsimp only
 have hf : (Try.prog.keyType 33 && (keyV k).formed Try.prog 33) = true := by
  have h1 : Try.prog.keyType 33 = true := by kernel_rfl
  have h2 : (keyV k).formed Try.prog 33 = true := by
   unfold keyV Value.formed
   rw [Try.underlying33]
   dsimp only
   have c33 : Try.prog.cellsOf 33 = 4 := by kernel_rfl
   rw [c33]; rfl
  rw [h1, h2]; rfl
 rw [if_pos hf, hd]
 show Option.map _ (Try.prog.keyLits (d + 2) 33 [.string k.f0, .string k.f1, .int .i64 k.f2, .string k.f3]) = _
 rw [hls]; rfl
theorem WC.fine {c : S39} (h : WC c) : FineC c := ⟨h.1.1, h.1.2.1, h.1.2.2.2, h.2.2.2.2.2.2⟩
theorem WC.key {c : S39} (h : WC c) : KeyW c.f0 := keyW h.1
end Go.Proofs.Ytabiekkebdocnaa.Pl
namespace Go.Proofs.Ytabiekkebdocnaa.Pl
open Go Go.RowKit Go.Proofs.YtabiekkebdocnaaW.PrintWords Go.Proofs.Ytabiekkebdocnaa.Q Go.Proofs.Ytabiekkebdocnaa.Ord Go.Proofs.Ytabiekkebdocnaa.Nm Go.Proofs.Ytabiekkebdocnaa.Hp
set_option linter.unusedVariables false
set_option linter.unusedSimpArgs false
theorem lk_gt {x : Cl} {p : List Cl} {k : S33} (h : cmpK x.f0 k < 0) : lk cmpK keyC k (x :: p) = lk cmpK keyC k p := by
 rw [lk_cons, if_neg (fun e => by have e2 : cmpK x.f0 k = 0 := e; omega)]
theorem lk_low {k : S33} {p : List Cl} (h : ∀ z ∈ p, cmpK k z.f0 < 0) : lk cmpK keyC k p = none := lk_none fun z hz e => by
 have h1 := h z hz
 have h2 := cmpK_cmp.anti k z.f0
 have e2 : cmpK z.f0 k = 0 := e
 omega
theorem cnt_in : ∀ (M p : List Cl), Inc cmpK keyC M → Inc cmpK keyC p → (∀ x ∈ p, ∃ y ∈ M, y.f0 = x.f0) → (M.filter fun y => (lk cmpK keyC y.f0 p).isSome).length = p.length
 | [], [], _, _, _ => rfl
 | [], x :: p, _, _, h => by obtain ⟨y, hy, _⟩ := h x List.mem_cons_self; cases hy
 | y :: M, [], _, _, _ => by
  have : ∀ z : Cl, (lk cmpK keyC z.f0 ([] : List Cl)).isSome = false := fun z => rfl
  rw [List.filter_eq_nil_iff.2 (fun z _ => by simp [this])]
 | y :: M, x :: p, hM, hp, h => by
  obtain ⟨hy, hM'⟩ := List.pairwise_cons.1 hM
  obtain ⟨hx, hp'⟩ := List.pairwise_cons.1 hp
  have hyl : ∀ z ∈ M, cmpK y.f0 z.f0 < 0 := hy
  have hxl : ∀ z ∈ p, cmpK x.f0 z.f0 < 0 := hx
  by_cases e : y.f0 = x.f0
  ·
   have h1 : (lk cmpK keyC y.f0 (x :: p)).isSome = true := by rw [lk_cons, if_pos (by show cmpK x.f0 y.f0 = 0; rw [e]; exact cmpK_cmp.refl _)]; rfl
   have h2 : (M.filter fun z => (lk cmpK keyC z.f0 (x :: p)).isSome) = M.filter fun z => (lk cmpK keyC z.f0 p).isSome := List.filter_congr fun z hz => by
    rw [lk_gt (by rw [← e]; exact hyl z hz)]
   have ih := cnt_in M p hM' hp' (fun z hz => by
    obtain ⟨q, hq, e2⟩ := h z (List.mem_cons_of_mem _ hz)
    rcases List.mem_cons.1 hq with rfl | hq
    ·
     have := hxl z hz
     rw [← e2, e, cmpK_cmp.refl] at this; omega
    ·
     exact ⟨q, hq, e2⟩)
   rw [List.filter_cons, if_pos h1, h2, List.length_cons, ih, List.length_cons]
  ·
   have hyx : cmpK y.f0 x.f0 < 0 := by
    obtain ⟨q, hq, e2⟩ := h x List.mem_cons_self
    rcases List.mem_cons.1 hq with rfl | hq
    ·
     exact absurd e2 e
    ·
     rw [← e2]; exact hyl q hq
   have hlow : ∀ z ∈ x :: p, cmpK y.f0 z.f0 < 0 := fun z hz => by
    rcases List.mem_cons.1 hz with rfl | hz
    ·
     exact hyx
    ·
     have h1 := hxl z hz
     have t := cmpK_cmp.trans y.f0 x.f0 z.f0 (by omega) (by omega)
     have a1 := cmpK_cmp.anti y.f0 z.f0
     have a2 := cmpK_cmp.trans z.f0 y.f0 x.f0
     have a3 := cmpK_cmp.anti x.f0 z.f0
     rcases Int.lt_or_eq_of_le t with h2 | h2
     ·
      exact h2
     ·
      have := a2 (by omega) (by omega)
      omega
   have h1 : ¬ (lk cmpK keyC y.f0 (x :: p)).isSome = true := by rw [lk_low hlow]; simp
   have ih := cnt_in M (x :: p) hM' hp (fun z hz => by
    obtain ⟨q, hq, e2⟩ := h z hz
    rcases List.mem_cons.1 hq with rfl | hq
    ·
     have := hlow z hz
     rw [← e2, cmpK_cmp.refl] at this; omega
    ·
     exact ⟨q, hq, e2⟩)
   rw [List.filter_cons, if_neg h1]
   exact ih
def sumI (l : List Int) : Int := l.foldl (· + ·) 0
theorem sum_go (l : List Int) : ∀ a : Int, l.foldl (· + ·) a = a + sumI l := by
 unfold sumI
 induction l with
 | nil => intro a; simp
 | cons x l ih => intro a; rw [List.foldl_cons, List.foldl_cons, ih, ih (0 + x)]; omega
theorem sum_cons (x : Int) (l : List Int) : sumI (x :: l) = x + sumI l := by
 have := sum_go l (0 + x)
 unfold sumI at this ⊢
 rw [List.foldl_cons, this]; omega
theorem sum_snoc (x : Int) (l : List Int) : sumI (l ++ [x]) = sumI l + x := by unfold sumI; rw [List.foldl_append]; rfl
theorem sum_add (M : List Cl) (f g : Cl → Int) : sumI (M.map fun y => f y + g y) = sumI (M.map f) + sumI (M.map g) := by
 induction M with
 | nil => rfl
 | cons y M ih => rw [List.map_cons, List.map_cons, List.map_cons, sum_cons, sum_cons, sum_cons, ih]; omega
theorem sum_ite (M : List Cl) (q : Cl → Bool) : sumI (M.map fun y => (((if q y = true then 1 else 0 : Nat)) : Int)) = ((M.filter q).length : Int) := by
 induction M with
 | nil => rfl
 | cons y M ih =>
  rw [List.map_cons, sum_cons, ih, List.filter_cons]
  by_cases h : q y = true
  ·
   rw [if_pos h, if_pos h, List.length_cons]; omega
  ·
   rw [if_neg h, if_neg h]; omega
theorem cnt_sum (M : List Cl) (hM : Inc cmpK keyC M) : ∀ S : SL, (∀ p ∈ S, Inc cmpK keyC p.2 ∧ ∀ x ∈ p.2, ∃ y ∈ M, y.f0 = x.f0) → sumI (M.map fun y => (cntK y.f0 S : Int)) = ((flat S).length : Int)
 | [], _ => by
  have : ∀ M : List Cl, sumI (M.map fun y => (cntK y.f0 [] : Int)) = 0 := fun M => by
   induction M with
   | nil => rfl
   | cons y M ih => rw [List.map_cons, sum_cons, ih]; rfl
  rw [this]; rfl
 | p :: S, h => by
  have h1 := cnt_sum M hM S (fun q hq => h q (List.mem_cons_of_mem _ hq))
  have h2 : (fun y : Cl => (cntK y.f0 (p :: S) : Int)) = fun y => (((if (lk cmpK keyC y.f0 p.2).isSome = true then 1 else 0 : Nat)) : Int) + (cntK y.f0 S : Int) := by
   funext y; rw [cnt_cons]; omega
  obtain ⟨hi, hm⟩ := h p List.mem_cons_self
  rw [h2, sum_add, h1, sum_ite, cnt_in M p.2 hM hi hm, flat_cons, List.length_append]; omega
theorem outs_sum {S : SL} (hS : ∀ p ∈ S, Inc cmpK keyC p.2) : sumI ((outs S).map Prod.snd) = ((flat S).length : Int) := by
 unfold outs
 rw [List.map_map]
 refine (cnt_sum (normC (flat S)) (norm_inc cmpK_cmp joinC_key _) S fun p hp => ⟨hS p hp, fun x hx => ?_⟩)
 have hx2 : x ∈ flat S := List.mem_flatMap.2 ⟨p, hp, hx⟩
 obtain ⟨y, hy⟩ : ∃ y, lk cmpK keyC x.f0 (normC (flat S)) = some y := by
  have h1 : lk cmpK keyC x.f0 (normC (flat S)) = gets cmpK keyC joinC x.f0 (flat S) := lk_norm cmpK_cmp joinC_key _ _
  rw [h1]
  unfold gets
  have h2 : x ∈ (flat S).filter fun z => cmpK (keyC z) x.f0 == 0 := List.mem_filter.2 ⟨hx2, by simp [keyC, cmpK_cmp.refl]⟩
  cases hl : (flat S).filter fun z => cmpK (keyC z) x.f0 == 0 with
  | nil => rw [hl] at h2; cases h2
  | cons a l =>
   have hf : ∀ (l : List Cl) (a : Cl), ∃ y, l.foldl (jo joinC) (some a) = some y := fun l => by
    induction l with
    | nil => intro a; exact ⟨a, rfl⟩
    | cons b l ih => intro a; exact ih _
   exact hf l a
 obtain ⟨h1, h2⟩ := lk_some hy
 exact ⟨y, h1, key_same h2⟩
theorem add_mem (x : Cl) : ∀ (l : List Cl) (z : Cl), z ∈ add cmpK keyC joinC x l → z = x ∨ z ∈ l
 | [], z, h => by
  rcases List.mem_cons.1 h with h | h
  ·
   exact .inl h
  ·
   cases h
 | y :: l, z, h => by
  rcases Int.lt_trichotomy (cmpK (keyC y) (keyC x)) 0 with e | e | e
  ·
   rw [add_less x e] at h
   rcases List.mem_cons.1 h with h | h
   ·
    exact .inr (h ▸ List.mem_cons_self)
   ·
    rcases add_mem x l z h with h | h
    ·
     exact .inl h
    ·
     exact .inr (List.mem_cons_of_mem _ h)
  ·
   rw [add_same x e] at h
   rcases List.mem_cons.1 h with h | h
   ·
    have hk : y.f0 = x.f0 := key_same e
    have hj : joinC y x = y ∨ joinC y x = x := by
     unfold joinC
     by_cases hv : joinV y.f1 x.f1 = y.f1
     ·
      exact .inl (by rw [hv])
     ·
      right
      have : joinV y.f1 x.f1 = x.f1 := by
       unfold joinV at hv ⊢
       split
       ·
        rfl
       ·
        rename_i h0; rw [if_neg h0] at hv; exact absurd rfl hv
      rw [this, hk]
    rcases hj with e2 | e2
    ·
     exact .inr (by rw [h, e2]; exact List.mem_cons_self)
    ·
     exact .inl (h.trans e2)
   ·
    exact .inr (List.mem_cons_of_mem _ h)
  ·
   rw [add_more x e] at h
   rcases List.mem_cons.1 h with h | h
   ·
    exact .inl h
   ·
    exact .inr h
theorem norm_sub : ∀ (l s : List Cl) (z : Cl), z ∈ l.foldl (fun s x => add cmpK keyC joinC x s) s → z ∈ s ∨ z ∈ l
 | [], s, z, h => .inl h
 | x :: l, s, z, h => by
  rcases norm_sub l _ z h with h | h
  ·
   rcases add_mem x s z h with h | h
   ·
    exact .inr (h ▸ List.mem_cons_self)
   ·
    exact .inl h
  ·
   exact .inr (List.mem_cons_of_mem _ h)
theorem norm_in {l : List Cl} {z : Cl} (h : z ∈ normC l) : z ∈ l := by
 rcases norm_sub l [] z h with h | h
 ·
  cases h
 ·
  exact h
theorem all_in {ls : List (List Cl)} {z : Cl} (h : z ∈ normC (ls.flatMap normC)) : ∃ l ∈ ls, z ∈ l := by
 obtain ⟨l, h1, h2⟩ := List.mem_flatMap.1 (norm_in h)
 exact ⟨l, h1, norm_in h2⟩
end Go.Proofs.Ytabiekkebdocnaa.Pl
