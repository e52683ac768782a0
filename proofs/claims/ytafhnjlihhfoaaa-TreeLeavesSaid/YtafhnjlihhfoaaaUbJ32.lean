/- The tree above leaves: the program's Build and Diff are the document's; powers of two. -/
import Derived.Test.YtafhnjlihhfoaaaUbQx13
import Derived.Test.YtafhnjlihhfoaaaUbQx15
import Derived.Test.YtafhnjlihhfoaaaUbQx43
import Derived.Test.YtafhnjlihhfoaaaUbQx45
import Derived.Test.YtafhnjlihhfoaaaUbJ15
import Derived.Test.YtafhnjlihhfoaaaUbPMur
namespace Go.Proofs.Ytafhnjlihhfoaaa.Pl
open Go Go.RowKit Go.Proofs.YtafhnjlihhfoaaaW.PrintWords Go.Proofs.YtafhnjlihhfoaaaW.PrintMore Go.Proofs.Ytafhnjlihhfoaaa.Q Go.Proofs.Ytafhnjlihhfoaaa.Mur
set_option linter.unusedVariables false
set_option linter.unusedSimpArgs false
def pw (n m : Nat) : Bool := (List.range (m + 1)).any fun k => n == 2 ^ k
theorem tpow64 : ∀ n : Fin 66, tree_power.f (n.val : Int) 64 = some (pw n.val 6) := by decide +kernel
theorem tpow128 : ∀ n : Fin 130, tree_power.f (n.val : Int) 128 = some (pw n.val 7) := by decide +kernel
theorem pow_le {k m : Nat} (h : k ≤ m) : 2 ^ k ≤ 2 ^ m := Nat.pow_le_pow_right (by omega) h
theorem pw_le {n m : Nat} (h : pw n m = true) : ∃ k, k ≤ m ∧ n = 2 ^ k := by
 unfold pw at h
 obtain ⟨k, hk, e⟩ := List.any_eq_true.1 h
 exact ⟨k, by have := List.mem_range.1 hk; omega, by simpa using e⟩
theorem pw_big {n m : Nat} (h : 2 ^ m < n) : pw n m = false := by
 cases e : pw n m with
 | false => rfl
 | true =>
  obtain ⟨k, hk, rfl⟩ := pw_le e
  have := pow_le hk
  omega
theorem tpow_64 (n : Nat) : tree_power.f (n : Int) 64 = some (pw n 6) := by
 by_cases h : n < 66
 ·
  exact tpow64 ⟨n, h⟩
 ·
  rw [pw_big (by show 2 ^ 6 < n; omega)]
  unfold tree_power.f
  rw [if_neg (by omega)]
theorem tpow_128 (n : Nat) : tree_power.f (n : Int) 128 = some (pw n 7) := by
 by_cases h : n < 130
 ·
  exact tpow128 ⟨n, h⟩
 ·
  rw [pw_big (by show 2 ^ 7 < n; omega)]
  unfold tree_power.f
  rw [if_neg (by omega)]
def U (l : List Int) : Prop := ∀ x ∈ l, 0 ≤ x ∧ x < 18446744073709551616
theorem U.rd {l : List Int} (h : U l) (i : Int) : 0 ≤ rd l i ∧ rd l i < 18446744073709551616 := by
 unfold Go.Proofs.YtafhnjlihhfoaaaW.PrintWords.rd
 rw [List.getD_eq_getElem?_getD]
 cases e : l[i.toNat]? with
 | none => simp
 | some v => exact h v (List.mem_of_getElem? e)
theorem U.set {l : List Int} (h : U l) (i : Nat) {x : Int} (hx : 0 ≤ x ∧ x < 18446744073709551616) : U (l.set i x) := fun y hy => by
 rcases List.mem_or_eq_of_mem_set hy with h1 | rfl
 ·
  exact h y h1
 ·
  exact hx
theorem U.app {l m : List Int} (h : U l) (h' : U m) : U (l ++ m) := fun x hx => (List.mem_append.1 hx).elim (h x) (h' x)
theorem sum_rng (l : List Int) (s : Int) : 0 ≤ (sumN l s).1 ∧ (sumN l s).1 < 18446744073709551616 := by
 unfold sumN sumF
 simp only
 rw [IntKind.wrap_u64]
 omega
theorem pair_rng (a b : Int) : 0 ≤ pairSum a b ∧ pairSum a b < 18446744073709551616 := sum_rng _ _
theorem U.step {o : List Int} (h : U o) (i : Nat) : U (stepB o i) := by
 unfold stepB
 split
 ·
  exact h
 ·
  exact h.set _ (pair_rng _ _)
end Go.Proofs.Ytafhnjlihhfoaaa.Pl
namespace Go.Proofs.Ytafhnjlihhfoaaa.Pl
open Go Go.RowKit Go.Proofs.YtafhnjlihhfoaaaW.PrintWords Go.Proofs.YtafhnjlihhfoaaaW.PrintMore Go.Proofs.Ytafhnjlihhfoaaa.Q Go.Proofs.Ytafhnjlihhfoaaa.Mur
set_option linter.unusedVariables false
set_option linter.unusedSimpArgs false
theorem bit64 (l : List Int) : tree_Build.f l = some (if pw l.length 6 then bldI (l.length - 1) (List.replicate l.length 0 ++ l) else []) := by
 unfold tree_Build.f
 rw [tpow_64, Option.bind_some]
 cases h : pw l.length 6 with
 | false => rfl
 | true =>
  obtain ⟨k, hk, e⟩ := pw_le h
  have := pow_le hk
  have h64 : (2 : Nat) ^ 6 = 64 := rfl
  rw [if_pos rfl, if_pos (by omega), if_pos rfl]
def buildL (l : List Int) : List Int := if pw l.length 6 then bldI (l.length - 1) (List.replicate l.length 0 ++ l) else []
theorem build_f (l : List Int) : tree_Build.f l = some (buildL l) := bit64 l
end Go.Proofs.Ytafhnjlihhfoaaa.Pl
namespace Go.Proofs.Ytafhnjlihhfoaaa.Pl
open Go Go.RowKit Go.Proofs.YtafhnjlihhfoaaaW.PrintWords Go.Proofs.YtafhnjlihhfoaaaW.PrintMore Go.Proofs.Ytafhnjlihhfoaaa.Q Go.Proofs.Ytafhnjlihhfoaaa.Mur
set_option linter.unusedVariables false
set_option linter.unusedSimpArgs false
def dfr (la lb : List Int) (k : Nat) : Bool := decide (rd la (k : Int) ≠ rd lb (k : Int))
def okUp (la lb : List Int) : Nat → Nat → Bool
 | 0, k => dfr la lb k
 | h + 1, k => dfr la lb k && okUp la lb h (k / 2)
theorem okUp_snoc (la lb : List Int) : ∀ h k, okUp la lb (h + 1) k = (okUp la lb h k && dfr la lb (k / 2 ^ (h + 1)))
 | 0, k => rfl
 | h + 1, k => by
  rw [okUp, okUp_snoc la lb h (k / 2), okUp, Nat.div_div_eq_div_mul, ← Nat.pow_succ', Bool.and_assoc]
def leavesOf (la lb : List Int) (n h i : Nat) : List Int := ((List.range (2 ^ h)).filter fun j => okUp la lb h (i * 2 ^ h + j)).map fun j => ((i * 2 ^ h + j - n : Nat) : Int)
theorem leaves_two (la lb : List Int) (n h i : Nat) : leavesOf la lb n (h + 1) i = if dfr la lb i = true then leavesOf la lb n h (2 * i) ++ leavesOf la lb n h (2 * i + 1) else [] := by
 unfold leavesOf
 have hp : 2 ^ (h + 1) = 2 ^ h + 2 ^ h := by omega
 have e : ∀ j, j < 2 ^ (h + 1) → okUp la lb (h + 1) (i * 2 ^ (h + 1) + j) = (okUp la lb h (i * 2 ^ (h + 1) + j) && dfr la lb i) := fun j hj => by
  rw [okUp_snoc]
  have : (i * 2 ^ (h + 1) + j) / 2 ^ (h + 1) = i := by
   rw [Nat.mul_comm, Nat.mul_add_div (Nat.pos_of_ne_zero (by simp)), Nat.div_eq_of_lt hj]
   rfl
  rw [this]
 have e2 : (List.range (2 ^ (h + 1))).filter (fun j => okUp la lb (h + 1) (i * 2 ^ (h + 1) + j)) = (List.range (2 ^ (h + 1))).filter (fun j => okUp la lb h (i * 2 ^ (h + 1) + j) && dfr la lb i) :=
  List.filter_congr (fun j hj => e j (List.mem_range.1 hj))
 rw [e2]
 split
 case isFalse hd =>
  have hd' : dfr la lb i = false := by simpa using hd
  simp [hd']
 case isTrue hd =>
  simp only [hd, Bool.and_true]
  have a1 : i * 2 ^ (h + 1) = 2 * i * 2 ^ h := by rw [hp, Nat.mul_add, Nat.mul_comm 2 i, Nat.mul_assoc, Nat.two_mul, Nat.mul_add]
  have a2 : ∀ j, 2 * i * 2 ^ h + (2 ^ h + j) = (2 * i + 1) * 2 ^ h + j := fun j => by rw [Nat.add_mul, Nat.one_mul]; omega
  rw [hp, List.range_add, List.filter_append, List.map_append, List.filter_map, List.map_map, ← hp, a1]
  congr 1
  have f1 : ((fun j => okUp la lb h (2 * i * 2 ^ h + j)) ∘ fun x => 2 ^ h + x) = fun j => okUp la lb h ((2 * i + 1) * 2 ^ h + j) := funext fun j => by simp only [Function.comp]; rw [a2]
  have f2 : ((fun j => ((2 * i * 2 ^ h + j - n : Nat) : Int)) ∘ fun x => 2 ^ h + x) = fun j => (((2 * i + 1) * 2 ^ h + j - n : Nat) : Int) := funext fun j => by simp only [Function.comp]; rw [a2]
  rw [f1, f2]
theorem difF_eq (la lb : List Int) (m : Nat) (hm : m ≤ 6) : ∀ (h d i : Nat), h ≤ d → h ≤ m → 2 ^ (m - h) ≤ i → i < 2 * 2 ^ (m - h) → difF la lb (2 ^ m) d i = leavesOf la lb (2 ^ m) h i
 | 0, d, i, hd, hh, h1, h2 => by
  have hb := pow_le hm
  have h64 : (2 : Nat) ^ 6 = 64 := rfl
  simp only [Nat.sub_zero] at h1 h2
  rw [difF_leaf la lb _ d i h1]
  unfold leavesOf
  have e : wrap64 ((i : Int) - ((2 ^ m : Nat) : Int)) = ((i - 2 ^ m : Nat) : Int) := by
   unfold wrap64; omega
  by_cases heq : rd la i = rd lb i
  ·
   rw [if_pos heq]
   simp [okUp, dfr, heq]
  ·
   rw [if_neg heq, e]
   simp [okUp, dfr, heq]
 | h + 1, 0, i, hd, hh, h1, h2 => by omega
 | h + 1, d + 1, i, hd, hh, h1, h2 => by
  have hp : 2 ^ (m - h) = 2 * 2 ^ (m - (h + 1)) := by rw [← Nat.pow_succ']; congr 1; omega
  have hn : i < 2 ^ m := by have := pow_le (show m - h ≤ m by omega); omega
  rw [leaves_two]
  by_cases heq : rd la i = rd lb i
  ·
   rw [difF, if_pos heq]
   simp [dfr, heq]
  ·
   rw [difF, if_neg heq, if_neg (by omega), difF_eq la lb m hm h d (2 * i) (by omega) (by omega) (by omega) (by omega), difF_eq la lb m hm h d (2 * i + 1) (by omega) (by omega) (by omega) (by omega)]
   simp [dfr, heq]
def diffL (a b : List Int) : List Int := if a.length = b.length ∧ 2 ≤ a.length ∧ pw a.length 7 = true then ((List.range (a.length / 2)).filter fun j => okUp a b (Nat.log2 (a.length / 2)) (a.length / 2 + j)).map fun j : Nat => (j : Int) else []
theorem pw_two {n : Nat} (h : pw n 7 = true) (h2 : 2 ≤ n) : ∃ m, m ≤ 6 ∧ n = 2 ^ m + 2 ^ m := by
 obtain ⟨k, hk, rfl⟩ := pw_le h
 cases k with
 | zero => simp at h2
 | succ k => exact ⟨k, by omega, by omega⟩
theorem log_two (m : Nat) : Nat.log2 (2 ^ m) = m := Nat.log2_two_pow
theorem diffL_two {a b : List Int} (m : Nat) (hm : m ≤ 6) (ha : a.length = 2 ^ m + 2 ^ m) (hb : b.length = 2 ^ m + 2 ^ m) : diffL a b = ((List.range (2 ^ m)).filter fun j => okUp a b m (2 ^ m + j)).map fun j : Nat => (j : Int) := by
 have h0 : 0 < 2 ^ m := Nat.pos_of_ne_zero (by simp)
 have hp : pw a.length 7 = true := by
  unfold pw
  exact List.any_eq_true.2 ⟨m + 1, List.mem_range.2 (by omega), by rw [ha]; simp; omega⟩
 unfold diffL
 rw [if_pos ⟨ha.trans hb.symm, by omega, hp⟩, show a.length / 2 = 2 ^ m by omega, log_two]
theorem leaves_root (a b : List Int) (m : Nat) : leavesOf a b (2 ^ m) m 1 = ((List.range (2 ^ m)).filter fun j => okUp a b m (2 ^ m + j)).map fun j : Nat => (j : Int) := by
 unfold leavesOf
 rw [Nat.one_mul]
 exact List.map_congr_left (fun j _ => by rw [show 2 ^ m + j - 2 ^ m = j by omega])
theorem diff_f (a b : List Int) : tree_Diff.f a b = some (diffL a b) := by
 unfold tree_Diff.f
 by_cases h1 : a.length = b.length
 ·
  rw [if_pos h1]
  by_cases h2 : 2 ≤ a.length
  ·
   rw [if_pos h2, tpow_128, Option.bind_some]
   cases hp : pw a.length 7 with
   | false => unfold diffL; rw [if_neg (by simp), if_neg (by rw [hp]; simp)]
   | true =>
    obtain ⟨m, hm, e⟩ := pw_two hp h2
    have hbd := pow_le hm
    have h64 : (2 : Nat) ^ 6 = 64 := rfl
    rw [if_pos rfl, if_pos (by omega), show a.length / 2 = 2 ^ m by omega, difF_eq a b m hm m 7 1 (by omega) (Nat.le_refl _) (by simp) (by simp), leaves_root, diffL_two m hm e (h1 ▸ e)]
  ·
   unfold diffL; rw [if_neg h2, if_neg (by omega)]
 ·
  unfold diffL; rw [if_neg h1, if_neg (fun h => h1 h.1)]
end Go.Proofs.Ytafhnjlihhfoaaa.Pl
