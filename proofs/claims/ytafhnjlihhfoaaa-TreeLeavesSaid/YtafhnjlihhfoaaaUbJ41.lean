/- Norm: the program's and the document's. -/
import Derived.Test.YtafhnjlihhfoaaaUbQx24
import Derived.Test.YtafhnjlihhfoaaaUbQx34
import Derived.Test.YtafhnjlihhfoaaaUbPRef
import Derived.Test.YtafhnjlihhfoaaaUbJ2
import Derived.Test.YtafhnjlihhfoaaaUbQx0
import Derived.Test.YtafhnjlihhfoaaaUbJ15
import Derived.Test.YtafhnjlihhfoaaaUbJ13
import Derived.Test.YtafhnjlihhfoaaaUbJ11
import Derived.BigQuiet
namespace Go.Proofs.Ytafhnjlihhfoaaa.Pl
open Go Go.RowKit Go.Proofs.YtafhnjlihhfoaaaW.PrintWords Go.Proofs.Ytafhnjlihhfoaaa.Q Go.Proofs.Ytafhnjlihhfoaaa.Ord Go.Proofs.Ytafhnjlihhfoaaa.Nm
set_option linter.unusedVariables false
set_option linter.unusedSimpArgs false
def keyC (x : S38) : S32 := x.f0
def joinC (a b : S38) : S38 := ⟨a.f0, joinV a.f1 b.f1⟩
theorem joinC_key (a b : S38) : keyC (joinC a b) = keyC a := rfl
abbrev normC (l : List (S38)) : List (S38) := norm cmpK keyC joinC l
theorem ltC_eq : ltC = ltK cmpK keyC := rfl
theorem rd_cell (l : List (S38)) (i : Nat) (hi : i < l.length) : rd_T38 l (i : Int) = l[i] := by
 unfold rd_T38; simp [List.getD_eq_getElem?_getD, List.getElem?_eq_getElem hi]
theorem next_n {i n : Nat} (hi : i < n) (hn : n ≤ 1256584717400) : wrap64 ((i : Int) + 1) = ((i + 1 : Nat) : Int) := by unfold wrap64; omega
theorem last_n {n : Nat} (hn : n ≤ 1256584717458) : wrap64 (((n + 1 : Nat) : Int) - 1) = (n : Int) := by unfold wrap64; omega
theorem norm2_f (x y : S38) : cell_Norm_2.f x.f0.f0 x.f0.f1 x.f0.f2 x.f0.f3 x.f1.f0 x.f1.f1 x.f1.f2 x.f1.f3.f0 x.f1.f3.f1 x.f1.f3.f2 y.f0.f0 y.f0.f1 y.f0.f2 y.f0.f3 y.f1.f0 y.f1.f1 y.f1.f2 y.f1.f3.f0 y.f1.f3.f1 y.f1.f3.f2 = some (cmpK x.f0 y.f0 == 0) := by
 unfold cell_Norm_2.f; rw [keyB_cmp]
theorem norm3_f (k : Nat) (hk : 5 ≤ k) (x y : S38) : cell_Norm_3.f k x.f0.f0 x.f0.f1 x.f0.f2 x.f0.f3 x.f1.f0 x.f1.f1 x.f1.f2 x.f1.f3.f0 x.f1.f3.f1 x.f1.f3.f2 y.f0.f0 y.f0.f1 y.f0.f2 y.f0.f3 y.f1.f0 y.f1.f1 y.f1.f2 y.f1.f3.f0 y.f1.f3.f1 y.f1.f3.f2 =
  some (x.f0.f0, x.f0.f1, x.f0.f2, x.f0.f3, tupV (joinV x.f1 y.f1)) := by
 unfold cell_Norm_3.f; rw [join_f k hk]; rfl
theorem fold_l0 (l : List (S38)) (hl : l.length ≤ 1256584717400) : ∀ (d i k : Nat) (p : List (S38)) (acc : S38), i + d = l.length → d + 5 < k → p.length + d < 1256584717400 →
  api_Cell_45.l0 k (p ++ [acc]) l (l.length : Int) (i : Int) = some (p ++ grp cmpK keyC joinC acc (l.drop i))
 | d, i, 0, p, acc, _, hk, _ => by omega
 | 0, i, k + 1, p, acc, hd, hk, _ => by
  rw [api_Cell_45.l0, if_neg (by omega), List.drop_eq_nil_of_le (by omega)]; rfl
 | d + 1, i, k + 1, p, acc, hd, hk, hp => by
  have hi : i < l.length := by omega
  obtain ⟨c, hc⟩ : ∃ c, l[i] = c := ⟨_, rfl⟩
  have hrd : rd_T38 l (i : Int) = c := (rd_cell l i hi).trans hc
  have hlen : ((p ++ [acc]).length : Int) = ((p.length + 1 : Nat) : Int) := by rw [List.length_append]; rfl
  have hla := last_n (n := p.length) (by omega)
  have hrl : rd_T38 (p ++ [acc]) (p.length : Int) = acc := by rw [rd_cell _ _ (by rw [List.length_append, List.length_singleton]; omega)]; simp
  have hdr : l.drop i = c :: l.drop (i + 1) := by rw [List.drop_eq_getElem_cons hi, hc]
  rw [api_Cell_45.l0]
  simp only [hlen, hla, hrl, hrd, next_n hi hl]
  rw [if_pos (by omega), if_pos (by omega), if_pos (by omega), if_pos (by omega), if_pos (by omega), if_pos (by omega), norm2_f, Option.bind_some, hdr]
  by_cases e : cmpK acc.f0 c.f0 = 0
  ·
   rw [if_pos (by rw [e]; rfl), norm3_f k (by omega), Option.bind_some]
   have hset : ∀ v : S38, (p ++ [acc]).set ((p.length : Int)).toNat v = p ++ [v] := fun v => by simp
   rw [hset]
   rw [grp_same _ (show cmpK (keyC acc) (keyC c) = 0 from e)]
   exact fold_l0 l hl d (i + 1) k p (joinC acc c) (by omega) (by omega) (by omega)
  ·
   rw [if_neg (by simp [e]), if_pos (by rw [List.length_append, List.length_singleton]; omega), grp_other _ (show ¬ cmpK (keyC acc) (keyC c) = 0 from e)]
   have := fold_l0 l hl d (i + 1) k (p ++ [acc]) c (by omega) (by omega) (by rw [List.length_append, List.length_singleton]; omega)
   rw [show p ++ acc :: grp cmpK keyC joinC c (l.drop (i + 1)) = p ++ [acc] ++ grp cmpK keyC joinC c (l.drop (i + 1)) by simp]
   exact this
theorem fold_f (l : List (S38)) (hl : l.length ≤ 1256584717399) (k : Nat) (hk : l.length + 6 < k) : api_Cell_45.f k l = some (fold1 cmpK keyC joinC l) := by
 unfold api_Cell_45.f
 obtain ⟨k, rfl⟩ : ∃ n, k = n + 1 := ⟨k - 1, by omega⟩
 rw [api_Cell_45.l0]
 cases l with
 | nil => rfl
 | cons x l =>
  have hrd : rd_T38 (x :: l) (0 : Int) = x := rfl
  have h1 : wrap64 ((0 : Int) + 1) = ((1 : Nat) : Int) := by unfold wrap64; omega
  simp only [hrd, h1]
  rw [if_pos (by simp), if_pos (by omega), if_pos (by simp), if_neg (by simp), if_pos (by simp)]
  have := fold_l0 (x :: l) (by omega) l.length 1 k [] x (by simp; omega) (by simp at hk; omega) (by simp at hl ⊢; omega)
  exact this
theorem norm_f (l : List (S38)) (hl : l.length ≤ 1000000000000) (k : Nat) (hk : l.length + 6 < k) : cell_Norm.f k l = some (normC l) := by
 have hs := isort_len ltC ltC_ord l
 unfold cell_Norm.f api_Cell_41.f api_Cell_42.f api_Cell_64.f
 rw [if_pos (by omega), Option.bind_some, if_pos ⟨rfl, by omega⟩, Option.bind_some, Option.bind_some, fold_f _ (by omega) k (by omega), Option.bind_some, ltC_eq, fold1_isort cmpK_cmp joinC_key]
def addX : S38 → List (S38) → List (S38) := add cmpK keyC joinC
theorem rturn_same (x c : S38) (done : Bool) : skerryref05_Add.turn x c 0 done = some (joinC x c, true) := by
 unfold skerryref05_Add.turn
 rw [if_pos rfl, rjoin_f, Option.bind_some]
 rfl
theorem rturn_other {x c : S38} {d : Int} (h : ¬ d = 0) (done : Bool) : skerryref05_Add.turn x c d done = some (x, done) := by
 unfold skerryref05_Add.turn
 rw [if_neg h]
theorem radd_done (c : S38) : ∀ (l out : List (S38)), out.length + l.length < 1256584717400 → (∀ y ∈ l, cmpK y.f0 c.f0 > 0) → skerryref05_Add.go c l out true = some (out ++ l)
 | [], out, _, _ => by rw [skerryref05_Add.go, if_pos rfl, List.append_nil]
 | x :: l, out, ho, hg => by
  have hx : cmpK x.f0 c.f0 > 0 := hg x List.mem_cons_self
  rw [List.length_cons] at ho
  have ih := radd_done c l (out ++ [x]) (by rw [List.length_append, List.length_singleton]; omega) (fun y hy => hg y (List.mem_cons_of_mem _ hy))
  rw [skerryref05_Add.go, rkey_f, Option.bind_some, rturn_other (by omega), Option.bind_some, if_neg (fun h => by cases h.1), if_pos (by omega), ih, List.append_assoc]
  rfl
theorem radd_run (c : S38) : ∀ (l out : List (S38)), out.length + l.length < 1256584717300 → Inc cmpK keyC l → skerryref05_Add.go c l out false = some (out ++ addX c l)
 | [], out, ho, _ => by
  rw [List.length_nil] at ho
  rw [skerryref05_Add.go, if_neg (by simp), if_pos (by omega)]; rfl
 | x :: l, out, ho, hp => by
  rw [List.length_cons] at ho
  have hq := (List.pairwise_cons.1 hp).1
  have hgt : cmpK x.f0 c.f0 ≥ 0 → ∀ y ∈ l, cmpK y.f0 c.f0 > 0 := fun h y hy => by
   have h1 : cmpK x.f0 y.f0 < 0 := hq y hy
   have t := cmpK_cmp.trans y.f0 c.f0 x.f0; have a1 := cmpK_cmp.anti x.f0 c.f0; have a2 := cmpK_cmp.anti x.f0 y.f0
   omega
  rw [skerryref05_Add.go, rkey_f, Option.bind_some]
  rcases Int.lt_trichotomy (cmpK x.f0 c.f0) 0 with e | e | e
  ·
   rw [rturn_other (by omega), Option.bind_some, if_neg (fun h => by have := h.2; omega), if_pos (by omega), show addX c (x :: l) = x :: addX c l from add_less _ e, radd_run c l (out ++ [x]) (by rw [List.length_append, List.length_singleton]; omega) (List.pairwise_cons.1 hp).2, List.append_assoc]
   rfl
  ·
   rw [e, rturn_same, Option.bind_some, if_neg (fun h => by cases h.1), if_pos (by omega), show addX c (x :: l) = joinC x c :: l from add_same _ e, radd_done c l (out ++ [joinC x c]) (by rw [List.length_append, List.length_singleton]; omega) (hgt (by omega)), List.append_assoc]
   rfl
  ·
   rw [rturn_other (by omega), Option.bind_some, if_pos ⟨rfl, e⟩, if_pos (by omega), show addX c (x :: l) = c :: x :: l from add_more _ e, radd_done c l ((out ++ [c]) ++ [x]) (by simp only [List.length_append, List.length_singleton]; omega) (hgt (by omega)), List.append_assoc, List.append_assoc]
   rfl
theorem radd_f (c : S38) (l : List (S38)) (hl : l.length ≤ 1000000000000) (hI : Inc cmpK keyC l) :
  skerryref05_Add.f l c.f0.f0 c.f0.f1 c.f0.f2 c.f0.f3 c.f1.f0 c.f1.f1 c.f1.f2 c.f1.f3.f0 c.f1.f3.f1 c.f1.f3.f2 = some (addX c l) := by
 have := radd_run c l [] (by simp; omega) hI
 exact this
theorem rnorm_l0 (l : List (S38)) (hl : l.length ≤ 500000000000) : ∀ (d i k : Nat) (s : List (S38)), i + d = l.length → l.length < k → s.length ≤ i → Inc cmpK keyC s → d + l.length < k →
  skerryref05_Norm.l0 k s l (l.length : Int) (i : Int) = some ((l.drop i).foldl (fun s x => addX x s) s)
 | d, i, 0, s, _, hk, _, _, _ => by omega
 | 0, i, k + 1, s, hd, hk, _, _, _ => by
  rw [skerryref05_Norm.l0, if_neg (by omega), List.drop_eq_nil_of_le (by omega)]; rfl
 | d + 1, i, k + 1, s, hd, hk, hs, hI, hk2 => by
  have hi : i < l.length := by omega
  obtain ⟨x, hc⟩ : ∃ x, l[i] = x := ⟨_, rfl⟩
  have hrd : rd_T38 l (i : Int) = x := (rd_cell l i hi).trans hc
  have hdr : l.drop i = x :: l.drop (i + 1) := by rw [List.drop_eq_getElem_cons hi, hc]
  rw [skerryref05_Norm.l0, if_pos (by omega), if_pos (by omega), if_pos (by omega)]
  simp only [hrd, next_n hi (show l.length ≤ 1256584717400 by omega)]
  rw [radd_f x s (by omega) hI, Option.bind_some, hdr, List.foldl_cons]
  have hlen : (addX x s).length ≤ s.length + 1 := add_len x s
  exact rnorm_l0 l hl d (i + 1) k (addX x s) (by omega) (by omega) (by omega) (add_inc cmpK_cmp joinC_key x s hI) (by omega)
theorem rnorm_f (l : List (S38)) (hl : l.length ≤ 500000000000) (k : Nat) (hk : 2 * l.length < k) : skerryref05_Norm.f k l = some (normC l) := by
 have := rnorm_l0 l hl l.length 0 k [] (by omega) (by omega) (Nat.le_refl _) List.Pairwise.nil (by omega)
 exact this
end Go.Proofs.Ytafhnjlihhfoaaa.Pl
namespace Go.Proofs.Ytafhnjlihhfoaaa.Pl
open Go Go.RowKit Go.Proofs.YtafhnjlihhfoaaaW.PrintWords Go.Proofs.Ytafhnjlihhfoaaa.Q Go.Proofs.Ytafhnjlihhfoaaa.Ord Go.Proofs.Ytafhnjlihhfoaaa.Nm
set_option linter.unusedVariables false
set_option linter.unusedSimpArgs false
theorem bytes_ext {a b : ByteArray} (h : a.toList = b.toList) : a = b := by
 rw [Lib.toList_data, Lib.toList_data] at h
 cases a; cases b
 simp only [ByteArray.mk.injEq]
 exact Array.toList_inj.1 h
theorem join_or (x y : S36) : joinV x y = x ∨ joinV x y = y := by unfold joinV; split <;> simp
theorem key_same {x y : S32} (h : cmpK x y = 0) : x = y := by
 simp only [cmpK, lex_zero, cs_zero, ci_zero] at h
 obtain ⟨h0, h1, h2, h3⟩ := h
 obtain ⟨x0, x1, x2, x3⟩ := x
 obtain ⟨y0, y1, y2, y3⟩ := y
 have e0 := bytes_ext h0; have e1 := bytes_ext h1; have e3 := bytes_ext h3
 simp only at h2 e0 e1 e3
 subst e0; subst e1; subst h2; subst e3; rfl
end Go.Proofs.Ytafhnjlihhfoaaa.Pl
namespace Go.Proofs.Ytafhnjlihhfoaaa.Pl
open Go Go.RowKit Go.Proofs.YtafhnjlihhfoaaaW.PrintWords Go.Proofs.Ytafhnjlihhfoaaa.Q Go.Proofs.Ytafhnjlihhfoaaa.Ord Go.Proofs.Ytafhnjlihhfoaaa.Nm
set_option linter.unusedVariables false
set_option linter.unusedSimpArgs false
theorem like_l0 (l : List (S38)) (hl : l.length ≤ 1256584717400) : ∀ (d i k : Nat), i + d = l.length → d < k → skerryref01_Like.l0 k l l (l.length : Int) (i : Int) = some true
 | d, i, 0, _, hk => by omega
 | 0, i, k + 1, hd, hk => by rw [skerryref01_Like.l0, if_neg (by omega)]
 | d + 1, i, k + 1, hd, hk => by
  have hi : i < l.length := by omega
  rw [skerryref01_Like.l0, if_pos (by omega), if_pos (by omega), if_pos (by omega), if_pos (by omega), if_neg (by simp), next_n hi hl]
  exact like_l0 l hl d (i + 1) k (by omega) (by omega)
theorem like_self (l : List (S38)) (hl : l.length ≤ 1256584717400) (k : Nat) (hk : l.length < k) : skerryref01_Like.f k l l = some true := by
 unfold skerryref01_Like.f
 rw [if_pos rfl]
 exact like_l0 l hl l.length 0 k (by omega) hk
end Go.Proofs.Ytafhnjlihhfoaaa.Pl
namespace Go.Proofs.Ytafhnjlihhfoaaa.Q
open Go.RowKit Go.Proofs.YtafhnjlihhfoaaaW.PrintWords Go.Proofs.YtafhnjlihhfoaaaW.PrintLast Go.Proofs.YtafhnjlihhfoaaaW.PrintMore
attribute [local go_sem] max2_int min2_int max_two min_two max_three min_three max_four min_four
set_option linter.unusedVariables false
set_option linter.unusedSimpArgs false
def encP_ (x : S38) : List Value := [.string x.f0.f0, .string x.f0.f1, .int .i64 x.f0.f2, .string x.f0.f3, .int .i64 x.f1.f0, .bool x.f1.f1, .int .i64 x.f1.f2, .int .i64 x.f1.f3.f0, .int .i64 x.f1.f3.f1, .string x.f1.f3.f2]
theorem ret_bp_ {a b : Bool} (h : a = b) : Ending.returned (.bool a) = .returned (.bool b) := by rw [h]
set_option maxHeartbeats 600000 in
theorem pick_clo (B1 B2 : Nat) (A2 : Option Addr) (c2 : Nat) (l2 : List Int) (a1 : Int) (W : World) (x : S38) (hb1 : B1 < W.heap.size) (hb2 : B2 < W.heap.size) (g1 : W.cell? ⟨B1, 0, none⟩ = some (.slice A2 l2.length c2)) (g2 : W.cell? ⟨B2, 0, none⟩ = some (.int .i64 a1)) (hC : (Kd.int .i64).C W A2 l2.length l2) (hs : x.f0.f1.size ≤ 9223372036854775807) :
  Calls Try.prog 38 (#[.agg (encP_ x).toArray] ++ #[.pointer (some ⟨B1, 0, none⟩), .pointer (some ⟨B2, 0, none⟩)]) W fun e w' => e = .returned (.bool (!(l2.contains (bucketOf x.f0.f1 (mn (mx a1 0) 6))))) ∧ Below W.heap.size W w' := by
 obtain ⟨⟨y0, y1, y2, y3⟩, ⟨y4, y5, y6, ⟨y7, y8, y9⟩⟩⟩ := x
 have hBk := fun w => tree_Bucket.calls y1 a1 (bucketOf y1 (mn (mx a1 0) 6)) w (by unfold tree_Bucket.f; rw [if_pos hs])
 have HB := Lib.hid hBk
 have HC := Lib.hid hC
 obtain ⟨z, hz⟩ : ∃ z, bucketOf y1 (mn (mx a1 0) 6) = z := ⟨_, rfl⟩
 rw [hz] at hBk HB
 have hA : Below W.heap.size W (W.alloc (.cells #[.string y0, .string y1, .int .i64 y2, .string y3, .int .i64 y4, .bool y5, .int .i64 y6, .int .i64 y7, .int .i64 y8, .string y9] 38)) := (Below.refl _ W).alloc (Nat.le_refl _) _
 have hCt : ∀ p : Srt.BW (W.alloc (.cells #[.string y0, .string y1, .int .i64 y2, .string y3, .int .i64 y4, .bool y5, .int .i64 y6, .int .i64 y7, .int .i64 y8, .string y9] 38)), Calls Try.prog 39 #[.slice A2 l2.length c2, .int .i64 z] p.w' fun e w' => e = .returned (.bool (l2.contains z)) ∧ Below p.w'.heap.size p.w' w' := fun p => (Srt.contains_int A2 c2 l2 z p.w' (Kd.C_below (Kd.C_below hC hA) p.h)).mono fun e w' ⟨h1, h2⟩ => ⟨h2, by rw [h1]; exact Below.refl _ _⟩
 have HT := Lib.hid hCt
 have q0 := fun p : Srt.BW (W.alloc (.cells #[.string y0, .string y1, .int .i64 y2, .string y3, .int .i64 y4, .bool y5, .int .i64 y6, .int .i64 y7, .int .i64 y8, .string y9] 38)) => (p.h.cell (p := ⟨W.heap.size, 1, none⟩) (Srt.box_lt W _)).trans (Srt.box_cell W #[.string y0, .string y1, .int .i64 y2, .string y3, .int .i64 y4, .bool y5, .int .i64 y6, .int .i64 y7, .int .i64 y8, .string y9] 38 1)
 have q1 := fun p : Srt.BW (W.alloc (.cells #[.string y0, .string y1, .int .i64 y2, .string y3, .int .i64 y4, .bool y5, .int .i64 y6, .int .i64 y7, .int .i64 y8, .string y9] 38)) => (p.h.cell (p := ⟨B1, 0, none⟩) (Nat.lt_trans hb1 (Srt.box_lt W _))).trans ((hA.cell (p := ⟨B1, 0, none⟩) hb1).trans g1)
 have q2 := fun p : Srt.BW (W.alloc (.cells #[.string y0, .string y1, .int .i64 y2, .string y3, .int .i64 y4, .bool y5, .int .i64 y6, .int .i64 y7, .int .i64 y8, .string y9] 38)) => (p.h.cell (p := ⟨B2, 0, none⟩) (Nat.lt_trans hb2 (Srt.box_lt W _))).trans ((hA.cell (p := ⟨B2, 0, none⟩) hb2).trans g2)
 have HA := Lib.hid hA
 have mixed : Try.prog.follows .mixedOrders = true := by kernel_rfl
 dsimp only
 rw [hz]
 clear hBk hC hCt hs hz hA
 unfold encP_
 go_enter Try.func38, Try.ntmps38
 go_wp2_with fail
 refine Srt.wp_region_quiet_bw (by assumption) (by kernel_rfl) ?_
 repeat (quiet_step (first | (go_at_call 16; refine Srt.Calls.bw_of (HB.out _)) | (go_at_call 39; refine Srt.Calls.bw_of (HT.out _))))
 refine wpQuiet_nil ?_
 rintro w3 ⟨p, rfl⟩
 go_wp2
 go_ret
 exact ⟨ret_bp_ (by simp), HA.out.trans (p.h.mono HA.out.size)⟩
theorem idx0_ (A : Option Addr) (c : Nat) (g : Nat) (cb : Array Value) (w : World) : Calls Try.prog 62 #[.slice A 0 c, .func (.func g) #[] cb] w fun e w' => e = .returned (.int .i64 (-1)) ∧ w' = w := by
 go_enter Try.func62, Try.ntmps62
 go_wp2
 go_loopg [8] 0 (fun g1 vi wr => vi = .int .i64 0 ∧ wr = w)
 case atStart => exact ⟨rfl, rfl⟩
 case round =>
  obtain ⟨rfl, rfl⟩ := hrel
  go_wp2
  go_ret
  exact ⟨rfl, rfl⟩
theorem del0_ (A : Option Addr) (c : Nat) (g : Nat) (cb : Array Value) (w : World) : Calls Try.prog 37 #[.slice A 0 c, .func (.func g) #[] cb] w fun e w' => e = .returned (.slice A 0 c) ∧ w' = w := by
 have HI := Lib.hid (idx0_ A c g cb w)
 go_enter Try.func37, Try.ntmps37
 go_wp2_with (go_at_call 62; refine HI.out.mono ?_; rintro e w1 ⟨rfl, rfl⟩)
 go_ret
 exact ⟨rfl, rfl⟩
theorem del_R (base : Nat) (ok : Nat → Prop) (v : Value) (xs : List (S38)) (p : S38 → Bool) (g : Nat) (cb : Array Value) (w : World) (eg : ∀ args w, (callFunc g args).run Try.prog w = .ok (.enter g args) w) (hv : Kd.R k38 38 w base ok v xs) (hb : base ≤ w.heap.size) (hsz : xs.length ≤ 922337203685477580)
  (hP : ∀ (W : World) (x : S38), x ∈ xs → Below base w W → Calls Try.prog g (#[.agg (encP_ x).toArray] ++ cb) W fun e w' => e = .returned (.bool (p x)) ∧ Below W.heap.size W w') :
  Calls Try.prog 37 #[v, .func (.func g) #[] cb] w fun e w' => ∃ v' : Value, e = .returned v' ∧ Kd.R k38 38 w' base ok v' (xs.filter fun x => !p x) ∧ Below base w w' := by
 obtain ⟨A, c, rfl⟩ := Kd.R_slice hv
 cases xs with
 | nil =>
  refine (del0_ A c g cb w).mono ?_
  rintro e w' ⟨rfl, rfl⟩
  exact ⟨_, rfl, hv, Below.refl _ _⟩
 | cons x l =>
  obtain ⟨inner, ho⟩ := Kd.R_own hv
  rcases ho.2 with ⟨h1, _⟩ | ⟨b, cap, cur, h1, _⟩
  ·
   cases h1
  ·
   injection h1 with a1 a2 a3
   subst a1 a3
   have hk : ∀ x, (encP_ x).length = k38.sz := fun _ => rfl
   have hM : ∀ w base ok x cs, k38.M w base ok x cs → cs = encP_ x := fun w base ok x cs hx => k38_openM hx
   letI : Inhabited (S38) := ⟨z38⟩
   obtain ⟨parts, h1c, hge, hok, hcap, hrest⟩ := Srt.R_parts hM hv
   obtain ⟨hH, hlt, hge, hok⟩ := Srt.R_holds hk hM hv
   have R : RowK encP_ 10 w b 0 (x :: l).toArray := ⟨fun _ => rfl, fun x v hv => by simp [encP_] at hv; rcases hv with rfl | rfl | rfl | rfl | rfl | rfl | rfl | rfl | rfl | rfl <;> rfl, hH, hlt⟩
   have hPB : Srt.PredB g cb encP_ p w b (x :: l).toArray.toList := fun W y hy o1 o2 o3 h1 h2 => hP W y (by simpa using hy) ⟨o1, o2, o3, by omega, fun i hi => h2 i (by omega) (by omega)⟩
   have hD := Srt.delF (cap := c) R hPB (by simp) eg (by simpa using hsz) (by simpa using hcap) z38 (fun w => Try.zeroValue38 w)
   refine Calls.mono (show Calls _ _ _ _ _ from hD) ?_
   rintro e w' ⟨rfl, hW⟩
   have hfl : ((x :: l).filter fun x => !p x).length ≤ (x :: l).length := List.length_filter_le _ _
   refine ⟨_, rfl, Srt.R_shrunk hk hM (fun w base ok x => k38_mkM w base ok x) hv _ hW (by simp only [List.length_append, List.length_replicate, List.size_toArray]; omega), ⟨hW.os, hW.tape, hW.output, by have := hW.size; omega, fun i hi => hW.other i (by omega) (by omega)⟩⟩
theorem blk_newAt_ {W : World} {g : Nat} (h : g = W.heap.size) (o : Obj) : (W.alloc o).heap[g]? = some o := h ▸ blk_new W o
theorem size_allocP_ (W : World) (o : Obj) : (W.alloc o).heap.size = W.heap.size + 1 := by unfold World.alloc; exact Array.size_push ..
def tree_Pick.f (k : Nat) (l0 : List (S38)) (a1 : Int) (l2 : List Int) : Option (List (S38)) := (cell_Norm.f k l0).bind fun r => if r.length ≤ 922337203685477580 ∧ (r.all fun c => decide (c.f0.f1.size ≤ 9223372036854775807)) = true then some (r.filter fun c => l2.contains (bucketOf c.f0.f1 (mn (mx a1 0) 6))) else none
set_option maxHeartbeats 1000000 in
set_option maxRecDepth 100000 in
theorem tree_Pick.calls (k : Nat) (A0 : Option Addr) (c0 : Nat) (l0 : List (S38)) (a1 : Int) (A2 : Option Addr) (c2 : Nat) (l2 : List Int) (r : List (S38)) (w : World) (hr0 : Kd.C k38 w A0 l0.length l0) (hc0 : l0.length ≤ c0) (hr2 : Kd.C (Kd.int .i64) w A2 l2.length l2) (hc2 : l2.length ≤ c2) (h : tree_Pick.f k l0 a1 l2 = some r) :
  Calls Try.prog 21 #[.slice A0 l0.length c0, .int .i64 a1, .slice A2 l2.length c2] w fun e w' => ∃ v0_ : Value, e = .returned (v0_) ∧ Kd.R k38 38 w' w.heap.size (fun _ => True) v0_ r ∧ Below w.heap.size w w' := by
 obtain ⟨n, hn, h2⟩ := Option.bind_eq_some_iff.1 h
 split at h2
 case isFalse => cases h2
 rename_i hc
 have HR := Lib.hid (Option.some.inj h2)
 obtain ⟨hl, hall⟩ := hc
 have HN := Lib.hid (fun (W : World) (hb : Below w.heap.size w W) => cell_Norm.calls k A0 c0 l0 n W (Kd.C_below hr0 hb) hc0 hn)
 have HR2 := Lib.hid hr2
 have HL := Lib.hid hl
 have HALL := Lib.hid hall
 clear hr0 hr2 hl hall h h2 hn hc0 hc2
 go_enter Try.func21, Try.ntmps21
 go_upto_region 0 with fail
 go_cut [4, 5] (fun v4 v5 wc => ∃ B4 B5 : Nat, v4 = .pointer (some ⟨B4, 0, none⟩) ∧ v5 = .pointer (some ⟨B5, 0, none⟩) ∧ Aside0 (wc.heap[B4]? = some (.cells #[.int .i64 a1] 3 (0, 0))) ∧ Aside0 (wc.heap[B5]? = some (.cells #[.slice A2 l2.length c2] 27 (0, 0))) ∧ Aside0 (Below w.heap.size w wc))
 case first =>
  go_wp2
  go_meet
  case rel => exact ⟨_, _, rfl, rfl, ⟨blk_alloc (blk_new _ _) _⟩, ⟨by first | exact blk_new _ _ | exact blk_newAt_ (by rw [size_allocP_]) _⟩, ⟨below_alloc (below_alloc (Below.refl _ _) _) _⟩⟩
 case rest =>
  obtain ⟨B4, B5, rfl, rfl, HB4, HB5, HB⟩ := hcut
  have HCLO := Lib.hid (fun (w3 W : World) (hb3 : Below wc.heap.size wc w3) (x : S38) (hx : x ∈ n) (hb : Below wc.heap.size w3 W) => pick_clo B5 B4 A2 c2 l2 a1 W x
   (Nat.lt_of_lt_of_le (blk_lt HB5.out) (Nat.le_trans hb3.size hb.size)) (Nat.lt_of_lt_of_le (blk_lt HB4.out) (Nat.le_trans hb3.size hb.size)) ((blk_cell ((hb3.trans hb).block B5 (blk_lt HB5.out) |>.trans HB5.out) 0).trans rfl) ((blk_cell ((hb3.trans hb).block B4 (blk_lt HB4.out) |>.trans HB4.out) 0).trans rfl)
   (Kd.C_below HR2.out (HB.out.trans ((hb3.trans hb).mono HB.out.size))) (by have := List.all_eq_true.1 HALL.out x hx; simpa using this))
  go_wp2_with (first | (go_at_call 24; refine (HN.out _ HB.out).mono ?_; rintro e w3 ⟨v0, rfl, hR, hb3⟩; have HRR := Lib.hid hR; have HB3 := Lib.hid hb3; clear hR hb3) | (go_at_call 37; refine (del_R wc.heap.size (fun _ => True) v0 n (fun x => !(l2.contains (bucketOf x.f0.f1 (mn (mx a1 0) 6)))) 38 _ w3 (enters_of Try.func38 (by kernel_rfl) rfl) HRR.out HB3.out.size HL.out (fun W x hx hb => HCLO.out w3 W HB3.out x hx hb)).mono ?_; rintro e w4 ⟨v4, rfl, hR4, hb4⟩; have HR4 := Lib.hid hR4; have HB4 := Lib.hid hb4; clear hR4 hb4))
  go_ret
  refine ⟨v4, rfl, Kd.R_lower (by rw [← HR.out]; simpa using HR4.out) HB.out.size, HB.out.trans ((HB3.out.trans HB4.out).mono HB.out.size)⟩
end Go.Proofs.Ytafhnjlihhfoaaa.Q
