/- The tree above leaves: the program's Build and Diff are the document's; powers of two. -/
import Derived.Test.YtafhnjlihhfoaaaUeQx13
import Derived.Test.YtafhnjlihhfoaaaUeQx15
import Derived.Test.YtafhnjlihhfoaaaUeQx43
import Derived.Test.YtafhnjlihhfoaaaUeQx45
import Derived.Test.YtafhnjlihhfoaaaUeJ15
import Derived.Test.YtafhnjlihhfoaaaUePMur
namespace Go.Proofs.Ytafhnjlihhfoaaa.Pl
open Go Go.RowKit Go.Proofs.YtafhnjlihhfoaaaW.PrintWords Go.Proofs.YtafhnjlihhfoaaaW.PrintMore Go.Proofs.Ytafhnjlihhfoaaa.Q Go.Proofs.Ytafhnjlihhfoaaa.Mur
set_option linter.unusedVariables false
set_option linter.unusedSimpArgs false
def pw (n m : Nat) : Bool := (List.range (m + 1)).any fun k => n == 2 ^ k
theorem tpow64 : ∀ n : Fin 66, tree_power.f (n.val : Int) 64 = some (pw n.val 6) := by decide +kernel
theorem tpow128 : ∀ n : Fin 130, tree_power.f (n.val : Int) 128 = some (pw n.val 7) := by decide +kernel
theorem rpow6 : ∀ n : Fin 66, skerryref22_power.f 20 (n.val : Int) 6 = some (pw n.val 6) := by decide +kernel
theorem pow_le {k m : Nat} (h : k ≤ m) : 2 ^ k ≤ 2 ^ m := Nat.pow_le_pow_right (by omega) h
theorem pw_le {n m : Nat} (h : pw n m = true) : ∃ k, k ≤ m ∧ n = 2 ^ k := by
 unfold pw at h
 obtain ⟨k, hk, e⟩ := List.any_eq_true.1 h
 exact ⟨k, by have := List.mem_range.1 hk; omega, by simpa using e⟩
theorem pw_big {n m : Nat} (h : 2 ^ m < n) : pw n m = false := by
 cases e : pw n m with
 | false => rfl
 | true =>
  obtain ⟨k, hk, rfl⟩ := pw_le e
  have := pow_le hk
  omega
theorem tpow_64 (n : Nat) : tree_power.f (n : Int) 64 = some (pw n 6) := by
 by_cases h : n < 66
 ·
  exact tpow64 ⟨n, h⟩
 ·
  rw [pw_big (by show 2 ^ 6 < n; omega)]
  unfold tree_power.f
  rw [if_neg (by omega)]
theorem tpow_128 (n : Nat) : tree_power.f (n : Int) 128 = some (pw n 7) := by
 by_cases h : n < 130
 ·
  exact tpow128 ⟨n, h⟩
 ·
  rw [pw_big (by show 2 ^ 7 < n; omega)]
  unfold tree_power.f
  rw [if_neg (by omega)]
theorem rpow_l0 (n m : Nat) (hm : m ≤ 7) (hn : 2 ^ m < n) : ∀ (d i k : Nat), i + d = m + 1 → d < k → skerryref22_power.l0 k (n : Int) (m : Int) (i : Int) = some false
 | d, i, 0, _, hk => by omega
 | 0, i, k + 1, hd, _ => by rw [skerryref22_power.l0, if_neg (by omega)]
 | d + 1, i, k + 1, hd, hk => by
  have e0 : IntKind.u64.wrap (i : Int) = (i : Int) := wraps_u64 _ (by omega) (by omega)
  have e1 : shl .i64 1 (i : Int) = ((2 ^ i : Nat) : Int) := by
   have : i ≤ 7 := by omega
   rcases (show i = 0 ∨ i = 1 ∨ i = 2 ∨ i = 3 ∨ i = 4 ∨ i = 5 ∨ i = 6 ∨ i = 7 by omega) with rfl | rfl | rfl | rfl | rfl | rfl | rfl | rfl <;> decide
  have e2 := pow_le (show i ≤ m by omega)
  have e3 : wrap64 ((i : Int) + 1) = ((i + 1 : Nat) : Int) := by unfold wrap64; omega
  rw [skerryref22_power.l0, if_pos (by omega), e0, if_pos (by omega), e1, if_neg (by omega), e3, rpow_l0 n m hm hn d (i + 1) k (by omega) (by omega)]
theorem rpow_mono {a b : Int} {k k' : Nat} {r : Bool} (h : k ≤ k') (e : skerryref22_power.f k a b = some r) : skerryref22_power.f k' a b = some r := by
 induction h with
 | refl => exact e
 | step _ ih => exact skerryref22_power.mono a b _ r ih
theorem rpow_6 (n k : Nat) (hk : 20 ≤ k) : skerryref22_power.f k (n : Int) 6 = some (pw n 6) := by
 refine rpow_mono hk ?_
 by_cases h : n < 66
 ·
  exact rpow6 ⟨n, h⟩
 ·
  rw [pw_big (by show 2 ^ 6 < n; omega)]
  exact rpow_l0 n 6 (by omega) (by show 2 ^ 6 < n; omega) 7 0 20 (by omega) (by omega)
def U (l : List Int) : Prop := ∀ x ∈ l, 0 ≤ x ∧ x < 18446744073709551616
theorem U.rd {l : List Int} (h : U l) (i : Int) : 0 ≤ rd l i ∧ rd l i < 18446744073709551616 := by
 unfold Go.Proofs.YtafhnjlihhfoaaaW.PrintWords.rd
 rw [List.getD_eq_getElem?_getD]
 cases e : l[i.toNat]? with
 | none => simp
 | some v => exact h v (List.mem_of_getElem? e)
theorem U.set {l : List Int} (h : U l) (i : Nat) {x : Int} (hx : 0 ≤ x ∧ x < 18446744073709551616) : U (l.set i x) := fun y hy => by
 rcases List.mem_or_eq_of_mem_set hy with h1 | rfl
 ·
  exact h y h1
 ·
  exact hx
theorem U.app {l m : List Int} (h : U l) (h' : U m) : U (l ++ m) := fun x hx => (List.mem_append.1 hx).elim (h x) (h' x)
theorem U_zeros (n : Nat) : U (List.replicate n 0) := fun x hx => by rw [(List.mem_replicate.1 hx).2]; omega
theorem or_zero {x y : Int} (hx : 0 ≤ x ∧ x < 18446744073709551616) (hy : 0 ≤ y ∧ y < 18446744073709551616) : Go.bits .or .u64 x y = 0 ↔ x = 0 ∧ y = 0 := by
 have a : ∀ {z : Int}, 0 ≤ z ∧ z < 18446744073709551616 → (BitVec.ofInt 64 z).toNat = z.toNat := fun {z} hz => by
  rw [BitVec.toNat_ofInt]
  have : z % ((2 ^ 64 : Nat) : Int) = z := by omega
  rw [this]
 have e : Go.bits .or .u64 x y = IntKind.u64.wrap ((BitVec.ofInt 64 x ||| BitVec.ofInt 64 y).toNat : Int) := rfl
 have hb := (BitVec.ofInt 64 x ||| BitVec.ofInt 64 y).isLt
 rw [e, wraps_u64 _ (by omega) (by omega)]
 rw [BitVec.toNat_or, a hx, a hy]
 constructor
 ·
  intro h
  have h2 : x.toNat ||| y.toNat = 0 := by omega
  have := Nat.or_eq_zero_iff.1 h2
  omega
 ·
  rintro ⟨rfl, rfl⟩; rfl
theorem sum_rng (l : List Int) (s : Int) : 0 ≤ (sumN l s).1 ∧ (sumN l s).1 < 18446744073709551616 := by
 unfold sumN sumF
 simp only
 rw [IntKind.wrap_u64]
 omega
theorem pair_rng (a b : Int) : 0 ≤ pairSum a b ∧ pairSum a b < 18446744073709551616 := sum_rng _ _
theorem U.step {o : List Int} (h : U o) (i : Nat) : U (stepB o i) := by
 unfold stepB
 split
 ·
  exact h
 ·
  exact h.set _ (pair_rng _ _)
end Go.Proofs.Ytafhnjlihhfoaaa.Pl
namespace Go.Proofs.Ytafhnjlihhfoaaa.Pl
open Go Go.RowKit Go.Proofs.YtafhnjlihhfoaaaW.PrintWords Go.Proofs.YtafhnjlihhfoaaaW.PrintMore Go.Proofs.Ytafhnjlihhfoaaa.Q Go.Proofs.Ytafhnjlihhfoaaa.Mur
set_option linter.unusedVariables false
set_option linter.unusedSimpArgs false
theorem shr_at {x : Int} {j : Nat} (hj : j ≤ 7) : shr .u64 x (IntKind.u64.wrap (wrap64 (8 * (j : Int)))) = x / 256 ^ j := by
 have e : wrap64 (8 * (j : Int)) = 8 * (j : Int) := by unfold wrap64; omega
 rw [e, wraps_u64 _ (by omega) (by omega)]
 unfold shr
 have e2 : min (8 * (j : Int)).toNat IntKind.u64.bits = 8 * j := by
  show min (8 * (j : Int)).toNat 64 = 8 * j
  omega
 rw [e2, pow2]
theorem wby_step (x : Int) (hx : 0 ≤ x) (m j : Nat) : wbyN (m + 1) (x / 256 ^ j) = x / 256 ^ j % 256 :: wbyN m (x / 256 ^ (j + 1)) := by
 rw [wbyN, Int.pow_succ, Int.ediv_ediv_of_nonneg (Int.pow_nonneg (by omega))]
theorem rb_l2 (o : List Int) (i : Int) (y : Int) (hy : 0 ≤ y) : ∀ (m j k : Nat) (b : List Int), m + j = 8 → b.length ≤ 100 + j → skerryref22_Build.l2 (k + m) o i y b (j : Int) = skerryref22_Build.l2 k o i y (b ++ wbyN m (y / 256 ^ j)) 8
 | 0, j, k, b, h, hb => by
  obtain rfl : j = 8 := by omega
  simp [wbyN]
 | m + 1, j, k, b, h, hb => by
  have e1 : wrap64 ((j : Int) + 1) = ((j + 1 : Nat) : Int) := by unfold wrap64; omega
  have e0 : wrap64 (8 * (j : Int)) = 8 * (j : Int) := by unfold wrap64; omega
  have e2 : IntKind.u64.wrap (wrap64 (8 * (j : Int))) = 8 * (j : Int) := by rw [e0, wraps_u64 _ (by omega) (by omega)]
  rw [← Nat.add_assoc, skerryref22_Build.l2, if_pos (by omega), if_pos (by rw [e2]; omega), if_pos (by omega), shr_at (by omega), e1, rb_l2 o i y hy m (j + 1) k _ (by omega) (by simp; omega), wby_step y hy, List.append_assoc]
  rfl
theorem rb_l1 (o : List Int) (i : Int) (x y : Int) (hx : 0 ≤ x) : ∀ (m j k : Nat) (b : List Int), m + j = 8 → b.length ≤ j → skerryref22_Build.l1 (k + m) o i x y b (j : Int) = skerryref22_Build.l1 k o i x y (b ++ wbyN m (x / 256 ^ j)) 8
 | 0, j, k, b, h, hb => by
  obtain rfl : j = 8 := by omega
  simp [wbyN]
 | m + 1, j, k, b, h, hb => by
  have e1 : wrap64 ((j : Int) + 1) = ((j + 1 : Nat) : Int) := by unfold wrap64; omega
  have e0 : wrap64 (8 * (j : Int)) = 8 * (j : Int) := by unfold wrap64; omega
  have e2 : IntKind.u64.wrap (wrap64 (8 * (j : Int))) = 8 * (j : Int) := by rw [e0, wraps_u64 _ (by omega) (by omega)]
  rw [← Nat.add_assoc, skerryref22_Build.l1, if_pos (by omega), if_pos (by rw [e2]; omega), if_pos (by omega), shr_at (by omega), e1, rb_l1 o i x y hx m (j + 1) k _ (by omega) (by simp; omega), wby_step x hx, List.append_assoc]
  rfl
theorem wby_byt : ∀ (m : Nat) (x : Int), 0 ≤ x → Byt (wbyN m x)
 | 0, _, _ => fun z hz => by cases hz
 | m + 1, x, hx => fun z hz => by
  rcases List.mem_cons.1 hz with rfl | hz
  ·
   omega
  ·
   exact wby_byt m (x / 256) (by omega) z hz
theorem rb_l0 (n : Nat) (hn : n ≤ 64) : ∀ (i k : Nat) (o : List Int), i < n → o.length = n + n → U o → 60 * (i + 1) ≤ k → skerryref22_Build.l0 k o (i : Int) = some (bldI i o)
 | 0, k, o, hi, ho, hU, hk => by
  obtain ⟨k, rfl⟩ : ∃ m, k = m + 1 := ⟨k - 1, by omega⟩
  rw [skerryref22_Build.l0, if_neg (by omega), bldI]
 | i + 1, k, o, hi, ho, hU, hk => by
  have f1 := hU.rd (2 * ((i + 1 : Nat) : Int))
  have f2 := hU.rd (2 * ((i + 1 : Nat) : Int) + 1)
  have e1 : wrap64 (2 * ((i + 1 : Nat) : Int)) = 2 * ((i + 1 : Nat) : Int) := by unfold wrap64; omega
  have e2 : wrap64 (2 * ((i + 1 : Nat) : Int) + 1) = 2 * ((i + 1 : Nat) : Int) + 1 := by unfold wrap64; omega
  have e3 : wrap64 (((i + 1 : Nat) : Int) - 1) = (i : Int) := by unfold wrap64; omega
  obtain ⟨k, rfl⟩ : ∃ m, k = (m + 12 + 1 + 8 + 1 + 8 + 1) + 1 := ⟨k - 32, by omega⟩
  have hU2 := hU.step (i + 1)
  have ho2 := stepB_len o (i + 1)
  have ih0 := rb_l0 n hn i (k + 12 + 1 + 8 + 1 + 8) _ (by omega) (ho2.trans ho) hU2 (by omega)
  have ih1 := rb_l0 n hn i (k + 12) _ (by omega) (ho2.trans ho) hU2 (by omega)
  rw [bldI, skerryref22_Build.l0, e1, e2, if_pos (by omega), if_pos (by omega), if_pos (by omega), if_pos (by omega), if_pos (by omega)]
  unfold stepB at ih0 ih1 ⊢
  generalize rd o (2 * ((i + 1 : Nat) : Int)) = x at *
  generalize rd o (2 * ((i + 1 : Nat) : Int) + 1) = y at *
  have hz := or_zero f1 f2
  have go : ¬ (x = 0 ∧ y = 0) → skerryref22_Build.j1 (k + 12 + 1 + 8 + 1 + 8 + 1) o ((i + 1 : Nat) : Int) x y false = some (bldI i (o.set (i + 1) (pairSum x y))) := fun hne => by
   rw [if_neg (fun h => hne (hz.1 h))] at ih1
   have ej : (((0 : Nat) : Int)) = 0 := rfl
   rw [skerryref22_Build.j1, if_neg (by simp), ← ej, rb_l1 o _ x y f1.1 8 0 _ [] (by omega) (by simp), skerryref22_Build.l1, if_neg (by omega), ← ej,
    rb_l2 o _ y f2.1 8 0 _ _ (by omega) (by simp [wbyN_len]), skerryref22_Build.l2, if_neg (by omega)]
   rw [List.nil_append, Int.pow_zero, Int.ediv_one, Int.ediv_one, rsum_f _ ((wby_byt 8 x f1.1).app (wby_byt 8 y f2.1)) (by simp [wbyN_len]) _ (by simp [wbyN_len]; omega), Option.bind_some, if_pos (by omega), if_pos (by omega), e3, Int.toNat_natCast]
   exact ih1
  by_cases hx : x = 0
  ·
   rw [if_pos hx]
   by_cases hy : y = 0
   ·
    rw [if_pos (hz.2 ⟨hx, hy⟩)] at ih0 ⊢
    rw [show (y == 0) = true by simpa using hy, skerryref22_Build.j1, if_pos rfl, e3]
    exact ih0
   ·
    rw [show (y == 0) = false by simpa using hy, if_neg (fun h => hy (hz.1 h).2)]
    exact go (fun h => hy h.2)
  ·
   rw [if_neg hx, if_neg (fun h => hx (hz.1 h).1)]
   exact go (fun h => hx h.1)
theorem bit64 (l : List Int) : tree_Build.f l = some (if pw l.length 6 then bldI (l.length - 1) (List.replicate l.length 0 ++ l) else []) := by
 unfold tree_Build.f
 rw [tpow_64, Option.bind_some]
 cases h : pw l.length 6 with
 | false => rfl
 | true =>
  obtain ⟨k, hk, e⟩ := pw_le h
  have := pow_le hk
  have h64 : (2 : Nat) ^ 6 = 64 := rfl
  rw [if_pos rfl, if_pos (by omega), if_pos rfl]
def buildL (l : List Int) : List Int := if pw l.length 6 then bldI (l.length - 1) (List.replicate l.length 0 ++ l) else []
theorem build_f (l : List Int) : tree_Build.f l = some (buildL l) := bit64 l
theorem rbuild_f (l : List Int) (hU : U l) (k : Nat) (hk : 5000 ≤ k) : skerryref22_Build.f k l = some (buildL l) := by
 unfold skerryref22_Build.f buildL
 rw [rpow_6 _ _ (by omega), Option.bind_some]
 cases h : pw l.length 6 with
 | false => rfl
 | true =>
  obtain ⟨q, hq, e⟩ := pw_le h
  have := pow_le hq
  have h64 : (2 : Nat) ^ 6 = 64 := rfl
  have h0 : 0 < 2 ^ q := Nat.pos_of_ne_zero (by simp)
  have e1 : wrap64 ((l.length : Int) - 1) = ((l.length - 1 : Nat) : Int) := by unfold wrap64; omega
  rw [if_pos rfl, if_pos (by omega), if_pos (by simp; omega), Option.bind_some, if_pos (by simp; omega), if_pos rfl, e1, Int.toNat_natCast]
  exact rb_l0 l.length (by omega) (l.length - 1) k _ (by omega) (by simp) ((U_zeros _).app hU) (by omega)
theorem buildL_len (l : List Int) (h : pw l.length 6 = true) : (buildL l).length = l.length + l.length := by
 unfold buildL
 rw [if_pos h, bldI_len]
 simp
end Go.Proofs.Ytafhnjlihhfoaaa.Pl
namespace Go.Proofs.Ytafhnjlihhfoaaa.Pl
open Go Go.RowKit Go.Proofs.YtafhnjlihhfoaaaW.PrintWords Go.Proofs.YtafhnjlihhfoaaaW.PrintMore Go.Proofs.Ytafhnjlihhfoaaa.Q Go.Proofs.Ytafhnjlihhfoaaa.Mur
set_option linter.unusedVariables false
set_option linter.unusedSimpArgs false
def dfr (la lb : List Int) (k : Nat) : Bool := decide (rd la (k : Int) ≠ rd lb (k : Int))
def okUp (la lb : List Int) : Nat → Nat → Bool
 | 0, k => dfr la lb k
 | h + 1, k => dfr la lb k && okUp la lb h (k / 2)
theorem okUp_snoc (la lb : List Int) : ∀ h k, okUp la lb (h + 1) k = (okUp la lb h k && dfr la lb (k / 2 ^ (h + 1)))
 | 0, k => rfl
 | h + 1, k => by
  rw [okUp, okUp_snoc la lb h (k / 2), okUp, Nat.div_div_eq_div_mul, ← Nat.pow_succ', Bool.and_assoc]
def leavesOf (la lb : List Int) (n h i : Nat) : List Int := ((List.range (2 ^ h)).filter fun j => okUp la lb h (i * 2 ^ h + j)).map fun j => ((i * 2 ^ h + j - n : Nat) : Int)
theorem leaves_two (la lb : List Int) (n h i : Nat) : leavesOf la lb n (h + 1) i = if dfr la lb i = true then leavesOf la lb n h (2 * i) ++ leavesOf la lb n h (2 * i + 1) else [] := by
 unfold leavesOf
 have hp : 2 ^ (h + 1) = 2 ^ h + 2 ^ h := by omega
 have e : ∀ j, j < 2 ^ (h + 1) → okUp la lb (h + 1) (i * 2 ^ (h + 1) + j) = (okUp la lb h (i * 2 ^ (h + 1) + j) && dfr la lb i) := fun j hj => by
  rw [okUp_snoc]
  have : (i * 2 ^ (h + 1) + j) / 2 ^ (h + 1) = i := by
   rw [Nat.mul_comm, Nat.mul_add_div (Nat.pos_of_ne_zero (by simp)), Nat.div_eq_of_lt hj]
   rfl
  rw [this]
 have e2 : (List.range (2 ^ (h + 1))).filter (fun j => okUp la lb (h + 1) (i * 2 ^ (h + 1) + j)) = (List.range (2 ^ (h + 1))).filter (fun j => okUp la lb h (i * 2 ^ (h + 1) + j) && dfr la lb i) :=
  List.filter_congr (fun j hj => e j (List.mem_range.1 hj))
 rw [e2]
 split
 case isFalse hd =>
  have hd' : dfr la lb i = false := by simpa using hd
  simp [hd']
 case isTrue hd =>
  simp only [hd, Bool.and_true]
  have a1 : i * 2 ^ (h + 1) = 2 * i * 2 ^ h := by rw [hp, Nat.mul_add, Nat.mul_comm 2 i, Nat.mul_assoc, Nat.two_mul, Nat.mul_add]
  have a2 : ∀ j, 2 * i * 2 ^ h + (2 ^ h + j) = (2 * i + 1) * 2 ^ h + j := fun j => by rw [Nat.add_mul, Nat.one_mul]; omega
  rw [hp, List.range_add, List.filter_append, List.map_append, List.filter_map, List.map_map, ← hp, a1]
  congr 1
  have f1 : ((fun j => okUp la lb h (2 * i * 2 ^ h + j)) ∘ fun x => 2 ^ h + x) = fun j => okUp la lb h ((2 * i + 1) * 2 ^ h + j) := funext fun j => by simp only [Function.comp]; rw [a2]
  have f2 : ((fun j => ((2 * i * 2 ^ h + j - n : Nat) : Int)) ∘ fun x => 2 ^ h + x) = fun j => (((2 * i + 1) * 2 ^ h + j - n : Nat) : Int) := funext fun j => by simp only [Function.comp]; rw [a2]
  rw [f1, f2]
theorem difF_eq (la lb : List Int) (m : Nat) (hm : m ≤ 6) : ∀ (h d i : Nat), h ≤ d → h ≤ m → 2 ^ (m - h) ≤ i → i < 2 * 2 ^ (m - h) → difF la lb (2 ^ m) d i = leavesOf la lb (2 ^ m) h i
 | 0, d, i, hd, hh, h1, h2 => by
  have hb := pow_le hm
  have h64 : (2 : Nat) ^ 6 = 64 := rfl
  simp only [Nat.sub_zero] at h1 h2
  rw [difF_leaf la lb _ d i h1]
  unfold leavesOf
  have e : wrap64 ((i : Int) - ((2 ^ m : Nat) : Int)) = ((i - 2 ^ m : Nat) : Int) := by
   unfold wrap64; omega
  by_cases heq : rd la i = rd lb i
  ·
   rw [if_pos heq]
   simp [okUp, dfr, heq]
  ·
   rw [if_neg heq, e]
   simp [okUp, dfr, heq]
 | h + 1, 0, i, hd, hh, h1, h2 => by omega
 | h + 1, d + 1, i, hd, hh, h1, h2 => by
  have hp : 2 ^ (m - h) = 2 * 2 ^ (m - (h + 1)) := by rw [← Nat.pow_succ']; congr 1; omega
  have hn : i < 2 ^ m := by have := pow_le (show m - h ≤ m by omega); omega
  rw [leaves_two]
  by_cases heq : rd la i = rd lb i
  ·
   rw [difF, if_pos heq]
   simp [dfr, heq]
  ·
   rw [difF, if_neg heq, if_neg (by omega), difF_eq la lb m hm h d (2 * i) (by omega) (by omega) (by omega) (by omega), difF_eq la lb m hm h d (2 * i + 1) (by omega) (by omega) (by omega) (by omega)]
   simp [dfr, heq]
def diffL (a b : List Int) : List Int := if a.length = b.length ∧ 2 ≤ a.length ∧ pw a.length 7 = true then ((List.range (a.length / 2)).filter fun j => okUp a b (Nat.log2 (a.length / 2)) (a.length / 2 + j)).map fun j : Nat => (j : Int) else []
theorem pw_two {n : Nat} (h : pw n 7 = true) (h2 : 2 ≤ n) : ∃ m, m ≤ 6 ∧ n = 2 ^ m + 2 ^ m := by
 obtain ⟨k, hk, rfl⟩ := pw_le h
 cases k with
 | zero => simp at h2
 | succ k => exact ⟨k, by omega, by omega⟩
theorem log_two (m : Nat) : Nat.log2 (2 ^ m) = m := Nat.log2_two_pow
theorem diffL_two {a b : List Int} (m : Nat) (hm : m ≤ 6) (ha : a.length = 2 ^ m + 2 ^ m) (hb : b.length = 2 ^ m + 2 ^ m) : diffL a b = ((List.range (2 ^ m)).filter fun j => okUp a b m (2 ^ m + j)).map fun j : Nat => (j : Int) := by
 have h0 : 0 < 2 ^ m := Nat.pos_of_ne_zero (by simp)
 have hp : pw a.length 7 = true := by
  unfold pw
  exact List.any_eq_true.2 ⟨m + 1, List.mem_range.2 (by omega), by rw [ha]; simp; omega⟩
 unfold diffL
 rw [if_pos ⟨ha.trans hb.symm, by omega, hp⟩, show a.length / 2 = 2 ^ m by omega, log_two]
theorem leaves_root (a b : List Int) (m : Nat) : leavesOf a b (2 ^ m) m 1 = ((List.range (2 ^ m)).filter fun j => okUp a b m (2 ^ m + j)).map fun j : Nat => (j : Int) := by
 unfold leavesOf
 rw [Nat.one_mul]
 exact List.map_congr_left (fun j _ => by rw [show 2 ^ m + j - 2 ^ m = j by omega])
theorem diff_f (a b : List Int) : tree_Diff.f a b = some (diffL a b) := by
 unfold tree_Diff.f
 by_cases h1 : a.length = b.length
 ·
  rw [if_pos h1]
  by_cases h2 : 2 ≤ a.length
  ·
   rw [if_pos h2, tpow_128, Option.bind_some]
   cases hp : pw a.length 7 with
   | false => unfold diffL; rw [if_neg (by simp), if_neg (by rw [hp]; simp)]
   | true =>
    obtain ⟨m, hm, e⟩ := pw_two hp h2
    have hbd := pow_le hm
    have h64 : (2 : Nat) ^ 6 = 64 := rfl
    rw [if_pos rfl, if_pos (by omega), show a.length / 2 = 2 ^ m by omega, difF_eq a b m hm m 7 1 (by omega) (Nat.le_refl _) (by simp) (by simp), leaves_root, diffL_two m hm e (h1 ▸ e)]
  ·
   unfold diffL; rw [if_neg h2, if_neg (by omega)]
 ·
  unfold diffL; rw [if_neg h1, if_neg (fun h => h1 h.1)]
end Go.Proofs.Ytafhnjlihhfoaaa.Pl
