/- Lemmas for this claim's walk: no condition of their own. -/
import Derived.Test.YtabiekkebdocnaaZeSq
import Derived.Test.YtabiekkebdocnaaZeQx0
import Derived.Test.YtabiekkebdocnaaZeJ16
import Derived.Test.YtabiekkebdocnaaZeJ21
import Derived.Test.YtabiekkebdocnaaZeQx21
import Derived.Test.YtabiekkebdocnaaZeQx27
import Derived.Test.YtabiekkebdocnaaZePRef
import Derived.Test.YtabiekkebdocnaaZeNormT
import Derived.Test.YtabiekkebdocnaaZeNormG
import Derived.Test.YtabiekkebdocnaaZeQx13
namespace Go.Proofs.Ytabiekkebdocnaa.Q
open Go.RowKit Go.Proofs.YtabiekkebdocnaaW.PrintWords Go.Proofs.YtabiekkebdocnaaW.PrintLast Go.Proofs.YtabiekkebdocnaaW.PrintMore
attribute [local go_sem] max2_int min2_int max_two min_two max_three min_three max_four min_four
set_option linter.unusedVariables false
set_option linter.unusedSimpArgs false
def cell_Norm.f (k : Nat) (l0 : List (S39)) : Option ((List (S39))) := (api_Cell_40.f l0).bind fun t209 => ((api_Cell_41.f k t209).bind fun t212 => ((api_Cell_43.f k t212).bind fun t213 => (some t213)))
set_option maxHeartbeats 8000000 in
set_option maxRecDepth 100000 in
theorem cell_Norm.calls (k : Nat) (A0 : Option Addr) (c0 : Nat) (l0 : List (S39)) (r : List (S39)) (w : World) (hr0 : Kd.C k39 w A0 l0.length l0) (hc0 : l0.length ≤ c0) (h : cell_Norm.f k l0 = some r) :
  Calls Try.prog 24 #[.slice A0 l0.length c0] w fun e w' => ∃ v0_ : Value, e = .returned (v0_) ∧ Kd.R k39 39 w' w.heap.size (fun _ => True) v0_ r ∧ Below w.heap.size w w' := by
 have HR0 := Aside0.mk hr0
 have HC0 := Aside0.mk hc0
 clear hr0 hc0
 have HB := Aside0.mk (Below.refl w.heap.size w)
 have H : ((api_Cell_40.f l0).bind fun t209 => ((api_Cell_41.f k t209).bind fun t212 => ((api_Cell_43.f k t212).bind fun t213 => (some t213)))) = some r := h
 clear h
 replace H := Option.bind_eq_some_iff.mp H
 obtain ⟨t209, A20, H⟩ := H
 have A2 := Aside0.mk A20
 clear A20
 replace H := Option.bind_eq_some_iff.mp H
 obtain ⟨t212, A30, H⟩ := H
 have A3 := Aside0.mk A30
 clear A30
 replace H := Option.bind_eq_some_iff.mp H
 obtain ⟨t213, A40, H⟩ := H
 have A4 := Aside0.mk A40
 clear A40
 obtain rfl := Option.some.inj H
 go_enter Try.func24, Try.ntmps24
 go_wp2_with (first | ((with_reducible refine gate_callee (f := 40) rfl ?_); refine goesL_ (some 4) rfl rfl Try.func40 (by kernel_rfl) rfl #[.slice A0 l0.length c0] rfl (by (try simp only [mT_, mC_, mN_]); first | done | rfl) ?_; (with_reducible refine (api_Cell_40.calls _ _ l0 t209 _ ?side1 ?side2 A2.out).mono ?_); (case side1 => repeat (first | exact HR0.out | (with_reducible refine Kd.C_alloc ?_ _) | (with_reducible refine Kd.C_drewN ?_ _) | (with_reducible refine Kd.C_drew ?_))); (case side2 => exact HC0.out); rintro e w5 ⟨v210, rfl, ho0, hb⟩; refine ⟨_, rfl, ?_⟩; have HO211 := Aside0.mk (Kd.R_lower ho0 (bZ_ (kwW HB))); replace HB := Aside0.mk (below_step (kwW HB) hb); (try clear hb); (try clear hb2); (try clear hk); (try clear hi); (try clear ho0); obtain ⟨Ao6, co6, eo6⟩ := Kd.R_slice HO211.out; subst eo6) | ((with_reducible refine gate_callee (f := 41) rfl ?_); refine goesL_ (some 6) rfl rfl Try.func41 (by kernel_rfl) rfl #[.slice Ao6 t209.length co6, .func (.func 42) #[] #[]] rfl (by (try simp only [mT_, mC_, mN_]); first | done | rfl) ?_; (with_reducible refine (api_Cell_41.calls k (fun k_ => some k_ = (.slice Ao6 t209.length co6 : Value).ownBlock) (.slice Ao6 t209.length co6) t209  t212 w _ ?side1 ?side2 A3.out).mono ?_); (case side1 => repeat (first | (with_reducible first | exact HB.out | apply bA_ | apply bN_ | apply bD_) | exact HB.out)); (case side2 => exact Kd.R_tight rfl HO211.out); rintro e w7 ⟨rfl, hy0, hb, hkp⟩; refine ⟨_, rfl, ?_⟩; replace HO211 := Aside0.mk (Kd.R_reok rfl hy0 (fun k_ e_ => HO211.out.1 k_ e_)); replace HB := Aside0.mk (hb); (try clear hb); (try clear hkp); (try clear hy0)) | ((with_reducible refine gate_callee (f := 43) rfl ?_); refine goesL_ (some 8) rfl rfl Try.func43 (by kernel_rfl) rfl #[.slice Ao6 t212.length co6, .func (.func 44) #[] #[], .func (.func 45) #[] #[]] rfl (by (try simp only [mT_, mC_, mN_]); first | done | (rw [show t212.length = t209.length from (Kd.R_reads' HO211.out).1.symm] <;> rfl) | rfl | (simp only [List.length_drop, List.length_take]; rfl)) ?_; (with_reducible refine (api_Cell_43.calls k _ _ t212   t213 _ ?side1 ?side2 A4.out).mono ?_); (case side1 => repeat (first | exact (Kd.R_reads' HO211.out).2.2 | (with_reducible refine Kd.C_alloc ?_ _) | (with_reducible refine Kd.C_drewN ?_ _) | (with_reducible refine Kd.C_drew ?_))); (case side2 => rw [show t212.length = t209.length from (Kd.R_reads' HO211.out).1.symm]; exact (Kd.R_reads' HO211.out).2.1); rintro e w8 ⟨v214, rfl, ho0, hb⟩; refine ⟨_, rfl, ?_⟩; have HO215 := Aside0.mk (Kd.R_lower (Kd.R_new' ho0 (Kd.R_lt (krW HO211))) (bZ_ (kwW HB))); replace HO211 := Aside0.mk (Kd.R_elder' (krW HO211) (Kd.R_base ho0) hb); replace HB := Aside0.mk (below_step (kwW HB) hb); (try clear hb); (try clear hb2); (try clear hk); (try clear hi); (try clear ho0)))
 go_ret
 exact ⟨_, by first | rfl | (simp <;> rfl) | (simp [*] <;> rfl), by (with_reducible repeat (first | apply Kd.R_alloc | apply Kd.R_drewN | apply Kd.R_drew)); exact Kd.R_mono HO215.out (fun _ hk => trivial), kwW HB⟩
end Go.Proofs.Ytabiekkebdocnaa.Q
namespace Go.Proofs.Ytabiekkebdocnaa.Pl
open Go Go.RowKit Go.Proofs.YtabiekkebdocnaaW.PrintWords Go.Proofs.Ytabiekkebdocnaa.Q Go.Proofs.Ytabiekkebdocnaa.Ord Go.Proofs.Ytabiekkebdocnaa.Nm
set_option linter.unusedVariables false
set_option linter.unusedSimpArgs false
def keyC (x : S39) : S33 := x.f0
def joinC (a b : S39) : S39 := ⟨a.f0, joinV a.f1 b.f1⟩
theorem joinC_key (a b : S39) : keyC (joinC a b) = keyC a := rfl
abbrev normC (l : List (S39)) : List (S39) := norm cmpK keyC joinC l
theorem ltC_eq : ltC = ltK cmpK keyC := rfl
theorem rd_cell (l : List (S39)) (i : Nat) (hi : i < l.length) : rd_T39 l (i : Int) = l[i] := by
 unfold rd_T39; simp [List.getD_eq_getElem?_getD, List.getElem?_eq_getElem hi]
theorem next_n {i n : Nat} (hi : i < n) (hn : n ≤ 1256584717458) : wrap64 ((i : Int) + 1) = ((i + 1 : Nat) : Int) := by unfold wrap64; omega
theorem last_n {n : Nat} (hn : n ≤ 1256584717458) : wrap64 (((n + 1 : Nat) : Int) - 1) = (n : Int) := by unfold wrap64; omega
theorem norm2_f (x y : S39) : cell_Norm_2.f x.f0.f0 x.f0.f1 x.f0.f2 x.f0.f3 x.f1.f0 x.f1.f1 x.f1.f2 x.f1.f3.f0 x.f1.f3.f1 x.f1.f3.f2 y.f0.f0 y.f0.f1 y.f0.f2 y.f0.f3 y.f1.f0 y.f1.f1 y.f1.f2 y.f1.f3.f0 y.f1.f3.f1 y.f1.f3.f2 = some (cmpK x.f0 y.f0 == 0) := by
 unfold cell_Norm_2.f; rw [keyB_cmp]
theorem norm3_f (k : Nat) (hk : 5 ≤ k) (x y : S39) : cell_Norm_3.f k x.f0.f0 x.f0.f1 x.f0.f2 x.f0.f3 x.f1.f0 x.f1.f1 x.f1.f2 x.f1.f3.f0 x.f1.f3.f1 x.f1.f3.f2 y.f0.f0 y.f0.f1 y.f0.f2 y.f0.f3 y.f1.f0 y.f1.f1 y.f1.f2 y.f1.f3.f0 y.f1.f3.f1 y.f1.f3.f2 =
  some (x.f0.f0, x.f0.f1, x.f0.f2, x.f0.f3, tupV (joinV x.f1 y.f1)) := by
 unfold cell_Norm_3.f; rw [join_f k hk]; rfl
theorem fold_l0 (l : List (S39)) (hl : l.length ≤ 1256584717458) : ∀ (d i k : Nat) (p : List (S39)) (acc : S39), i + d = l.length → d + 5 < k → p.length + d < 1256584717458 →
  api_Cell_43.l0 k (p ++ [acc]) l (l.length : Int) (i : Int) = some (p ++ grp cmpK keyC joinC acc (l.drop i))
 | d, i, 0, p, acc, _, hk, _ => by omega
 | 0, i, k + 1, p, acc, hd, hk, _ => by
  rw [api_Cell_43.l0, if_neg (by omega), List.drop_eq_nil_of_le (by omega)]; rfl
 | d + 1, i, k + 1, p, acc, hd, hk, hp => by
  have hi : i < l.length := by omega
  obtain ⟨c, hc⟩ : ∃ c, l[i] = c := ⟨_, rfl⟩
  have hrd : rd_T39 l (i : Int) = c := (rd_cell l i hi).trans hc
  have hlen : ((p ++ [acc]).length : Int) = ((p.length + 1 : Nat) : Int) := by rw [List.length_append]; rfl
  have hla := last_n (n := p.length) (by omega)
  have hrl : rd_T39 (p ++ [acc]) (p.length : Int) = acc := by rw [rd_cell _ _ (by rw [List.length_append, List.length_singleton]; omega)]; simp
  have hdr : l.drop i = c :: l.drop (i + 1) := by rw [List.drop_eq_getElem_cons hi, hc]
  rw [api_Cell_43.l0]
  simp only [hlen, hla, hrl, hrd, next_n hi hl]
  rw [if_pos (by omega), if_pos (by omega), if_pos (by omega), if_pos (by omega), if_pos (by omega), if_pos (by omega), norm2_f, Option.bind_some, hdr]
  by_cases e : cmpK acc.f0 c.f0 = 0
  ·
   rw [if_pos (by rw [e]; rfl), norm3_f k (by omega), Option.bind_some]
   have hset : ∀ v : S39, (p ++ [acc]).set ((p.length : Int)).toNat v = p ++ [v] := fun v => by simp
   rw [hset]
   rw [grp_same _ (show cmpK (keyC acc) (keyC c) = 0 from e)]
   exact fold_l0 l hl d (i + 1) k p (joinC acc c) (by omega) (by omega) (by omega)
  ·
   rw [if_neg (by simp [e]), if_pos (by rw [List.length_append, List.length_singleton]; omega), grp_other _ (show ¬ cmpK (keyC acc) (keyC c) = 0 from e)]
   have := fold_l0 l hl d (i + 1) k (p ++ [acc]) c (by omega) (by omega) (by rw [List.length_append, List.length_singleton]; omega)
   rw [show p ++ acc :: grp cmpK keyC joinC c (l.drop (i + 1)) = p ++ [acc] ++ grp cmpK keyC joinC c (l.drop (i + 1)) by simp]
   exact this
theorem fold_f (l : List (S39)) (hl : l.length ≤ 1256584717457) (k : Nat) (hk : l.length + 6 < k) : api_Cell_43.f k l = some (fold1 cmpK keyC joinC l) := by
 unfold api_Cell_43.f
 obtain ⟨k, rfl⟩ : ∃ n, k = n + 1 := ⟨k - 1, by omega⟩
 rw [api_Cell_43.l0]
 cases l with
 | nil => rfl
 | cons x l =>
  have hrd : rd_T39 (x :: l) (0 : Int) = x := rfl
  have h1 : wrap64 ((0 : Int) + 1) = ((1 : Nat) : Int) := by unfold wrap64; omega
  simp only [hrd, h1]
  rw [if_pos (by simp), if_pos (by omega), if_pos (by simp), if_neg (by simp), if_pos (by simp)]
  have := fold_l0 (x :: l) (by omega) l.length 1 k [] x (by simp; omega) (by simp at hk; omega) (by simp at hl ⊢; omega)
  exact this
theorem norm_f (l : List (S39)) (hl : l.length ≤ 1256584717421) (k : Nat) (hk : l.length + 6 < k) : cell_Norm.f k l = some (normC l) := by
 have hs := isort_len ltC ltC_ord l
 unfold cell_Norm.f api_Cell_40.f api_Cell_41.f api_Cell_57.f
 rw [if_pos (by omega), Option.bind_some, if_pos ⟨rfl, by omega⟩, Option.bind_some, Option.bind_some, fold_f _ (by omega) k (by omega), Option.bind_some, ltC_eq, fold1_isort cmpK_cmp joinC_key]
def addX : S39 → List (S39) → List (S39) := add cmpK keyC joinC
theorem rturn_same (x c : S39) (done : Bool) : skerryref05_Add.turn x c 0 done = some (joinC x c, true) := by
 unfold skerryref05_Add.turn
 rw [if_pos rfl, rjoin_f, Option.bind_some]
 rfl
theorem rturn_other {x c : S39} {d : Int} (h : ¬ d = 0) (done : Bool) : skerryref05_Add.turn x c d done = some (x, done) := by
 unfold skerryref05_Add.turn
 rw [if_neg h]
theorem radd_done (c : S39) : ∀ (l out : List (S39)), out.length + l.length < 1256584717458 → (∀ y ∈ l, cmpK y.f0 c.f0 > 0) → skerryref05_Add.go c l out true = some (out ++ l)
 | [], out, _, _ => by rw [skerryref05_Add.go, if_pos rfl, List.append_nil]
 | x :: l, out, ho, hg => by
  have hx : cmpK x.f0 c.f0 > 0 := hg x List.mem_cons_self
  rw [List.length_cons] at ho
  have ih := radd_done c l (out ++ [x]) (by rw [List.length_append, List.length_singleton]; omega) (fun y hy => hg y (List.mem_cons_of_mem _ hy))
  rw [skerryref05_Add.go, rkey_f, Option.bind_some, rturn_other (by omega), Option.bind_some, if_neg (fun h => by cases h.1), if_pos (by omega), ih, List.append_assoc]
  rfl
theorem radd_run (c : S39) : ∀ (l out : List (S39)), out.length + l.length < 1256584717457 → Inc cmpK keyC l → skerryref05_Add.go c l out false = some (out ++ addX c l)
 | [], out, ho, _ => by
  rw [List.length_nil] at ho
  rw [skerryref05_Add.go, if_neg (by simp), if_pos (by omega)]; rfl
 | x :: l, out, ho, hp => by
  rw [List.length_cons] at ho
  have hq := (List.pairwise_cons.1 hp).1
  have hgt : cmpK x.f0 c.f0 ≥ 0 → ∀ y ∈ l, cmpK y.f0 c.f0 > 0 := fun h y hy => by
   have h1 : cmpK x.f0 y.f0 < 0 := hq y hy
   have t := cmpK_cmp.trans y.f0 c.f0 x.f0; have a1 := cmpK_cmp.anti x.f0 c.f0; have a2 := cmpK_cmp.anti x.f0 y.f0
   omega
  rw [skerryref05_Add.go, rkey_f, Option.bind_some]
  rcases Int.lt_trichotomy (cmpK x.f0 c.f0) 0 with e | e | e
  ·
   rw [rturn_other (by omega), Option.bind_some, if_neg (fun h => by have := h.2; omega), if_pos (by omega), show addX c (x :: l) = x :: addX c l from add_less _ e, radd_run c l (out ++ [x]) (by rw [List.length_append, List.length_singleton]; omega) (List.pairwise_cons.1 hp).2, List.append_assoc]
   rfl
  ·
   rw [e, rturn_same, Option.bind_some, if_neg (fun h => by cases h.1), if_pos (by omega), show addX c (x :: l) = joinC x c :: l from add_same _ e, radd_done c l (out ++ [joinC x c]) (by rw [List.length_append, List.length_singleton]; omega) (hgt (by omega)), List.append_assoc]
   rfl
  ·
   rw [rturn_other (by omega), Option.bind_some, if_pos ⟨rfl, e⟩, if_pos (by omega), show addX c (x :: l) = c :: x :: l from add_more _ e, radd_done c l ((out ++ [c]) ++ [x]) (by simp only [List.length_append, List.length_singleton]; omega) (hgt (by omega)), List.append_assoc, List.append_assoc]
   rfl
theorem radd_f (c : S39) (l : List (S39)) (hl : l.length ≤ 1256584717421) (hI : Inc cmpK keyC l) :
  skerryref05_Add.f l c.f0.f0 c.f0.f1 c.f0.f2 c.f0.f3 c.f1.f0 c.f1.f1 c.f1.f2 c.f1.f3.f0 c.f1.f3.f1 c.f1.f3.f2 = some (addX c l) := by
 have := radd_run c l [] (by simp; omega) hI
 exact this
theorem rnorm_l0 (l : List (S39)) (hl : l.length ≤ 1256584717421) : ∀ (d i k : Nat) (s : List (S39)), i + d = l.length → l.length < k → s.length ≤ i → Inc cmpK keyC s → d + l.length < k →
  skerryref05_Norm.l0 k s l (l.length : Int) (i : Int) = some ((l.drop i).foldl (fun s x => addX x s) s)
 | d, i, 0, s, _, hk, _, _, _ => by omega
 | 0, i, k + 1, s, hd, hk, _, _, _ => by
  rw [skerryref05_Norm.l0, if_neg (by omega), List.drop_eq_nil_of_le (by omega)]; rfl
 | d + 1, i, k + 1, s, hd, hk, hs, hI, hk2 => by
  have hi : i < l.length := by omega
  obtain ⟨x, hc⟩ : ∃ x, l[i] = x := ⟨_, rfl⟩
  have hrd : rd_T39 l (i : Int) = x := (rd_cell l i hi).trans hc
  have hdr : l.drop i = x :: l.drop (i + 1) := by rw [List.drop_eq_getElem_cons hi, hc]
  rw [skerryref05_Norm.l0, if_pos (by omega), if_pos (by omega), if_pos (by omega)]
  simp only [hrd, next_n hi (show l.length ≤ 1256584717458 by omega)]
  rw [radd_f x s (by omega) hI, Option.bind_some, hdr, List.foldl_cons]
  have hlen : (addX x s).length ≤ s.length + 1 := add_len x s
  exact rnorm_l0 l hl d (i + 1) k (addX x s) (by omega) (by omega) (by omega) (add_inc cmpK_cmp joinC_key x s hI) (by omega)
theorem rnorm_f (l : List (S39)) (hl : l.length ≤ 1256584717421) (k : Nat) (hk : 2 * l.length < k) : skerryref05_Norm.f k l = some (normC l) := by
 have := rnorm_l0 l hl l.length 0 k [] (by omega) (by omega) (Nat.le_refl _) List.Pairwise.nil (by omega)
 exact this
end Go.Proofs.Ytabiekkebdocnaa.Pl
namespace Go.Proofs.Ytabiekkebdocnaa.Pl
open Go Go.RowKit Go.Proofs.YtabiekkebdocnaaW.PrintWords Go.Proofs.Ytabiekkebdocnaa.Q Go.Proofs.Ytabiekkebdocnaa.Ord Go.Proofs.Ytabiekkebdocnaa.Nm
set_option linter.unusedVariables false
set_option linter.unusedSimpArgs false
theorem bytes_ext {a b : ByteArray} (h : a.toList = b.toList) : a = b := by
 rw [Lib.toList_data, Lib.toList_data] at h
 cases a; cases b
 simp only [ByteArray.mk.injEq]
 exact Array.toList_inj.1 h
def goodB (c : S39) : Bool := (cell_Good.f c.f0.f0 c.f0.f1 c.f0.f2 c.f0.f3 c.f1.f0 c.f1.f1 c.f1.f2 c.f1.f3.f0 c.f1.f3.f1 c.f1.f3.f2).getD false
theorem key_same {x y : S33} (h : cmpK x y = 0) : x = y := by
 simp only [cmpK, lex_zero, cs_zero, ci_zero] at h
 obtain ⟨h0, h1, h2, h3⟩ := h
 obtain ⟨x0, x1, x2, x3⟩ := x
 obtain ⟨y0, y1, y2, y3⟩ := y
 have e0 := bytes_ext h0; have e1 := bytes_ext h1; have e3 := bytes_ext h3
 simp only at h2 e0 e1 e3
 subst e0; subst e1; subst h2; subst e3; rfl
end Go.Proofs.Ytabiekkebdocnaa.Pl
namespace Go.Proofs.Ytabiekkebdocnaa.Pl
open Go Go.RowKit Go.Proofs.YtabiekkebdocnaaW.PrintWords Go.Proofs.Ytabiekkebdocnaa.Q Go.Proofs.Ytabiekkebdocnaa.Ord Go.Proofs.Ytabiekkebdocnaa.Nm
set_option linter.unusedVariables false
set_option linter.unusedSimpArgs false
theorem like_l0 (l : List (S39)) (hl : l.length ≤ 1256584717458) : ∀ (d i k : Nat), i + d = l.length → d < k → skerryref01_Like.l0 k l l (l.length : Int) (i : Int) = some true
 | d, i, 0, _, hk => by omega
 | 0, i, k + 1, hd, hk => by rw [skerryref01_Like.l0, if_neg (by omega)]
 | d + 1, i, k + 1, hd, hk => by
  have hi : i < l.length := by omega
  rw [skerryref01_Like.l0, if_pos (by omega), if_pos (by omega), if_pos (by omega), if_pos (by omega), if_neg (by simp), next_n hi hl]
  exact like_l0 l hl d (i + 1) k (by omega) (by omega)
theorem like_self (l : List (S39)) (hl : l.length ≤ 1256584717458) (k : Nat) (hk : l.length < k) : skerryref01_Like.f k l l = some true := by
 unfold skerryref01_Like.f
 rw [if_pos rfl]
 exact like_l0 l hl l.length 0 k (by omega) hk
end Go.Proofs.Ytabiekkebdocnaa.Pl
namespace Go.Proofs.Ytabiekkebdocnaa.Pl
open Go Go.RowKit Go.Proofs.YtabiekkebdocnaaW.PrintWords Go.Proofs.Ytabiekkebdocnaa.Q Go.Proofs.Ytabiekkebdocnaa.Ord Go.Proofs.Ytabiekkebdocnaa.Nm
set_option linter.unusedVariables false
set_option linter.unusedSimpArgs false
theorem prev_n {i n : Nat} (h1 : 1 ≤ i) (hi : i ≤ n) (hn : n ≤ 1256584717458) : wrap64 ((i : Int) - 1) = ((i - 1 : Nat) : Int) := by unfold wrap64; omega
theorem inc_two (x y : S39) (l : List (S39)) : Inc cmpK keyC (x :: y :: l) ↔ cmpK x.f0 y.f0 < 0 ∧ Inc cmpK keyC (y :: l) := by
 constructor
 ·
  intro h
  have := List.pairwise_cons.1 h
  exact ⟨this.1 y List.mem_cons_self, this.2⟩
 ·
  rintro ⟨h, h'⟩
  refine List.pairwise_cons.2 ⟨fun z hz => ?_, h'⟩
  have hq := (List.pairwise_cons.1 h').1
  rcases List.mem_cons.1 hz with rfl | hz
  ·
   exact h
  ·
   have h1 : cmpK y.f0 z.f0 < 0 := hq z hz
   have t := cmpK_cmp.trans x.f0 y.f0 z.f0; have a1 := cmpK_cmp.anti x.f0 z.f0; have t' := cmpK_cmp.trans z.f0 x.f0 y.f0; have a2 := cmpK_cmp.anti y.f0 z.f0
   show cmpK x.f0 z.f0 < 0
   omega
theorem sorted_l0 (l : List (S39)) (hl : l.length ≤ 1256584717458) : ∀ (d i k : Nat), 1 ≤ i → i + d = l.length → d + 6 < k → ∃ b : Bool, cell_Sorted.l0 k l (i : Int) = some b ∧ (b = true ↔ Inc cmpK keyC (l.drop (i - 1)))
 | d, i, 0, _, _, hk => by omega
 | 0, i, k + 1, h1, hd, hk => by
  refine ⟨true, ?_, ?_⟩
  ·
   rw [cell_Sorted.l0, if_neg (by omega)]
  ·
   have hi : i - 1 < l.length := by omega
   rw [List.drop_eq_getElem_cons hi, List.drop_eq_nil_of_le (by omega)]
   simp [Inc]
 | d + 1, i, k + 1, h1, hd, hk => by
  have hi : i < l.length := by omega
  have hp : i - 1 < l.length := by omega
  have e1 := prev_n h1 (show i ≤ l.length by omega) hl
  obtain ⟨b, hb, hI⟩ := sorted_l0 l hl d (i + 1) k (by omega) (by omega) (by omega)
  have hd2 : l.drop (i - 1) = l[i - 1] :: l[i] :: l.drop (i + 1) := by
   rw [List.drop_eq_getElem_cons hp, show i - 1 + 1 = i by omega, List.drop_eq_getElem_cons hi]
  have hd1 : l.drop (i + 1 - 1) = l[i] :: l.drop (i + 1) := by rw [show i + 1 - 1 = i by omega, List.drop_eq_getElem_cons hi]
  rw [cell_Sorted.l0, e1, rd_cell l _ hp, rd_cell l _ hi, key_Cmp_f k (by omega), if_pos (by omega), if_pos (by omega), if_pos (by omega), if_pos (by omega), Option.bind_some, next_n hi hl, hb, hd2, inc_two]
  rw [hd1] at hI
  by_cases hc : cmpK l[i - 1].f0 l[i].f0 ≥ 0
  ·
   rw [if_pos hc]
   exact ⟨false, rfl, by simp; omega⟩
  ·
   rw [if_neg hc]
   exact ⟨b, rfl, hI.trans ⟨fun h => ⟨by omega, h⟩, fun h => h.2⟩⟩
theorem sorted_f (l : List (S39)) (hl : l.length ≤ 1256584717458) (k : Nat) (hk : l.length + 7 < k) : ∃ b : Bool, cell_Sorted.f k l = some b ∧ (b = true ↔ Inc cmpK keyC l) := by
 unfold cell_Sorted.f
 cases l with
 | nil =>
  obtain ⟨k, rfl⟩ : ∃ n, k = n + 1 := ⟨k - 1, by omega⟩
  exact ⟨true, by rw [cell_Sorted.l0]; rfl, by simp [Inc]⟩
 | cons x l => exact sorted_l0 (x :: l) hl l.length 1 k (Nat.le_refl _) (by simp; omega) (by simp at hk; omega)
end Go.Proofs.Ytabiekkebdocnaa.Pl
