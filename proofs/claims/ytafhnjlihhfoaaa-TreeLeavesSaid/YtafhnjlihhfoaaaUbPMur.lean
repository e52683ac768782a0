/- Murmur: what the program's Sum makes of bytes is the document's. -/
import Derived.Test.YtafhnjlihhfoaaaUbQx30
import Derived.Test.YtafhnjlihhfoaaaUbJ13
import Derived.Test.YtafhnjlihhfoaaaUbJ0
namespace Go.Proofs.Ytafhnjlihhfoaaa.Pl
open Go Go.RowKit Go.Proofs.YtafhnjlihhfoaaaW.PrintWords Go.Proofs.YtafhnjlihhfoaaaW.PrintMore Go.Proofs.Ytafhnjlihhfoaaa.Q Go.Proofs.Ytafhnjlihhfoaaa.Mur
set_option linter.unusedVariables false
set_option linter.unusedSimpArgs false
def Byt (l : List Int) : Prop := ∀ x ∈ l, 0 ≤ x ∧ x < 256
theorem Byt.take {l : List Int} (h : Byt l) (n : Nat) : Byt (l.take n) := fun x hx => h x (List.mem_of_mem_take hx)
theorem Byt.drop {l : List Int} (h : Byt l) (n : Nat) : Byt (l.drop n) := fun x hx => h x (List.mem_of_mem_drop hx)
theorem Byt.app {l m : List Int} (h : Byt l) (h' : Byt m) : Byt (l ++ m) := fun x hx => (List.mem_append.1 hx).elim (h x) (h' x)
def val : List Int → Int
 | [] => 0
 | x :: l => x + 256 * val l
theorem val_bd : ∀ {l : List Int}, Byt l → 0 ≤ val l ∧ val l < 256 ^ l.length
 | [], _ => by simp [val]
 | x :: l, h => by
  have h1 := h x List.mem_cons_self
  have h2 := val_bd (l := l) fun y hy => h y (List.mem_cons_of_mem _ hy)
  rw [val, List.length_cons, Int.pow_succ]
  omega
theorem val_snoc : ∀ (l : List Int) (x : Int), val (l ++ [x]) = val l + x * 256 ^ l.length
 | [], x => by simp [val]
 | y :: l, x => by
  rw [List.cons_append, val, val_snoc l x, val, List.length_cons, Int.pow_succ, Int.mul_add, Int.add_assoc, Int.mul_comm (256 ^ l.length) 256, Int.mul_left_comm 256 x]
theorem pow_lt {n : Nat} (h : n ≤ 7) : (256 : Int) ^ n ≤ 72057594037927936 := by
 have h1 : 256 ^ n ≤ 256 ^ 7 := Nat.pow_le_pow_right (by decide) h
 have e : 256 ^ 7 = 72057594037927936 := by decide
 have h2 : ((256 ^ n : Nat) : Int) ≤ 72057594037927936 := by omega
 rw [Int.natCast_pow] at h2; exact h2
theorem wordN_val : ∀ {l : List Int}, Byt l → l.length ≤ 8 → wordN l = val l
 | [], _, _ => rfl
 | x :: l, h, hl => by
  have h1 := h x List.mem_cons_self
  have hb : Byt l := fun y hy => h y (List.mem_cons_of_mem _ hy)
  have h2 := val_bd hb
  rw [List.length_cons] at hl
  have h3 := pow_lt (n := l.length) (by omega)
  have ih := wordN_val hb (by omega)
  show Go.bits .or .u64 (IntKind.u64.wrap (wordN l * 256)) (IntKind.u64.wrap x) = _
  rw [ih, wraps_u64 _ (by omega) (by omega), wraps_u64 x h1.1 (by omega), or_join 8 _ _ (by omega) (by omega) (by omega) h1.1 (by omega) (by omega), val]
  omega
theorem pow2 (n : Nat) : (2 : Int) ^ (8 * n) = 256 ^ n := by rw [Int.pow_mul]; rfl
theorem eight_l0 (l : List Int) (hB : Byt l) (hl : l.length < 4611686018427387904) (j : Nat) (hj : j < 4611686018427387904) : ∀ (d i k : Nat), i + d = 8 → d < k → i ≤ (l.drop j).length →
  skerryref02_eight.l0 k l (j : Int) (val ((l.drop j).take i)) (i : Int) = some (val ((l.drop j).take 8))
 | d, i, 0, _, hk, _ => by omega
 | 0, i, k + 1, hd, hk, _ => by
  obtain rfl : i = 8 := by omega
  rw [skerryref02_eight.l0, if_neg (by decide)]
 | d + 1, i, k + 1, hd, hk, hi => by
  have w1 : wrap64 ((j : Int) + (i : Int)) = ((j + i : Nat) : Int) := by unfold wrap64; omega
  have w2 : wrap64 ((i : Int) + 1) = ((i + 1 : Nat) : Int) := by unfold wrap64; omega
  have w3 : IntKind.u64.wrap (wrap64 (8 * (i : Int))) = ((8 * i : Nat) : Int) := by
   have : wrap64 (8 * (i : Int)) = ((8 * i : Nat) : Int) := by unfold wrap64; omega
   rw [this]; exact wraps_u64 _ (by omega) (by omega)
  rw [skerryref02_eight.l0, w1, w2, w3, if_pos (by omega)]
  rw [List.length_drop] at hi
  by_cases hlt : j + i < l.length
  ·
   rw [if_pos (by omega), if_pos (by omega), if_pos (by omega)]
   have hg : rd l ((j + i : Nat) : Int) = l[j + i] := by unfold rd; rw [Int.toNat_natCast, List.getD_eq_getElem?_getD, List.getElem?_eq_getElem hlt]; rfl
   have hb := hB _ (List.getElem_mem hlt)
   have ht : (l.drop j).take (i + 1) = (l.drop j).take i ++ [l[j + i]] := by
    rw [List.take_add_one, List.getElem?_drop, List.getElem?_eq_getElem hlt]; rfl
   have hlen : ((l.drop j).take i).length = i := by rw [List.length_take, List.length_drop]; omega
   have hv := val_bd ((hB.drop j).take i)
   rw [hlen] at hv
   have hp := pow_lt (n := i) (by omega)
   have hsh : shl .u64 (IntKind.u64.wrap (l[j + i])) ((8 * i : Nat) : Int) = l[j + i] * 256 ^ i := by
    rw [wraps_u64 _ hb.1 (by omega)]
    unfold shl
    rw [show min (((8 * i : Nat) : Int)).toNat IntKind.u64.bits = 8 * i by show min (((8 * i : Nat) : Int)).toNat 64 = 8 * i; omega, pow2]
    have hq : 0 < (256 : Int) ^ i := Int.pow_pos (by decide)
    refine wraps_u64 _ (Int.mul_nonneg hb.1 (by omega)) ?_
    have : l[j + i] * 256 ^ i ≤ 255 * 256 ^ i := Int.mul_le_mul_of_nonneg_right (by omega) (by omega)
    omega
   have hor : Go.bits .or .u64 (val ((l.drop j).take i)) (l[j + i] * 256 ^ i) = val ((l.drop j).take (i + 1)) := by
    rw [or_comm64, ht, val_snoc, hlen]
    have hq : 0 < (256 : Int) ^ i := Int.pow_pos (by decide)
    have hm : l[j + i] * 256 ^ i ≤ 255 * 256 ^ i := Int.mul_le_mul_of_nonneg_right (by omega) (by omega)
    have hpp : ((2 : Int) ^ (8 * i)) = 256 ^ i := pow2 i
    rw [or_join (8 * i) _ _ (Int.mul_nonneg hb.1 (by omega)) (by rw [hpp]; exact Int.mul_emod_left _ _) (by omega) hv.1 (by rw [hpp]; exact hv.2) (by omega)]
    omega
   rw [hg, hsh, hor]
   exact eight_l0 l hB hl j hj d (i + 1) k (by omega) (by omega) (by rw [List.length_drop]; omega)
  ·
   rw [if_neg (by omega), List.take_of_length_le (by rw [List.length_drop]; omega), List.take_of_length_le (by rw [List.length_drop]; omega)]
theorem eight_f (l : List Int) (hB : Byt l) (hl : l.length < 4611686018427387904) (j k : Nat) (hj : j < 4611686018427387904) (hk : 9 ≤ k) : skerryref02_eight.f k l (j : Int) = some (wordN ((l.drop j).take 8)) := by
 rw [wordN_val ((hB.drop j).take 8) (by rw [List.length_take]; omega)]
 have := eight_l0 l hB hl j hj 8 0 k (by omega) (by omega) (Nat.zero_le _)
 exact this
theorem rotl27 (a : Int) : skerryref02_rotl.f a 27 = some (rotN a 27) := by
 unfold skerryref02_rotl.f; rw [if_pos (by decide), if_pos (by decide)]; rfl
theorem rotl31 (a : Int) : skerryref02_rotl.f a 31 = some (rotN a 31) := by
 unfold skerryref02_rotl.f; rw [if_pos (by decide), if_pos (by decide)]; rfl
theorem rotl33 (a : Int) : skerryref02_rotl.f a 33 = some (rotN a 33) := by
 unfold skerryref02_rotl.f; rw [if_pos (by decide), if_pos (by decide)]; rfl
theorem mix_f (a : Int) : skerryref02_Mix.f a = some (mixN a) := rfl
theorem sub_n {n j : Nat} (h : j ≤ n) (hn : n < 4611686018427387904) : wrap64 ((n : Int) - (j : Int)) = ((n - j : Nat) : Int) := by unfold wrap64; omega
theorem add_n {j c : Nat} (hn : j + c < 4611686018427387904) : wrap64 ((j : Int) + (c : Int)) = ((j + c : Nat) : Int) := by unfold wrap64; omega
theorem sum_j1 (l : List Int) (hB : Byt l) (hl : l.length < 4611686018427387000) (j k : Nat) (hj : j ≤ l.length) (hk : 10 ≤ k) (h g : Int) :
  skerryref02_Sum.j1 k l h g (j : Int) = some (sumF (l.length : Int) (if 0 < (l.drop j).length then Go.bits .xor .u64 h (lowN (l.drop j)) else h) g) := by
 obtain ⟨k, rfl⟩ : ∃ n, k = n + 1 := ⟨k - 1, by omega⟩
 have e : IntKind.u64.wrap (l.length : Int) = l.length := wraps_u64 _ (by omega) (by omega)
 rw [skerryref02_Sum.j1, sub_n hj (by omega), List.length_drop, e]
 by_cases hz : 0 < l.length - j
 ·
  rw [if_pos (by omega), if_pos hz, eight_f l hB (by omega) j k (by omega) (by omega), Option.bind_some, rotl31, Option.bind_some, mix_f, Option.bind_some, mix_f, Option.bind_some]
  rfl
 ·
  rw [if_neg (by omega), if_neg hz, mix_f, Option.bind_some, mix_f, Option.bind_some]
  rfl
theorem sum_l0 (l : List Int) (hB : Byt l) (hl : l.length < 4611686018427387000) : ∀ (m k : Nat) (j : Nat) (h g : Int), j ≤ l.length → l.length - j < m → m + 10 < k →
  skerryref02_Sum.l0 k l h g (j : Int) = some (sumF (l.length : Int) (sumL m (l.drop j) h g).1 (sumL m (l.drop j) h g).2)
 | 0, _, _, _, _, _, hm, _ => by omega
 | m + 1, 0, _, _, _, _, _, hk => by omega
 | m + 1, k + 1, j, h, g, hj, hm, hk => by
  have e8 : wrap64 ((j : Int) + 8) = ((j + 8 : Nat) : Int) := add_n (c := 8) (by omega)
  have e16 : wrap64 ((j : Int) + 16) = ((j + 16 : Nat) : Int) := add_n (c := 16) (by omega)
  rw [skerryref02_Sum.l0, sub_n hj (by omega), e8, e16, sumL, List.length_drop]
  by_cases h16 : l.length - j < 16
  ·
   rw [if_neg (by omega), if_pos h16]
   by_cases h8 : 8 < l.length - j
   ·
    rw [if_pos (by omega), eight_f l hB (by omega) (j + 8) k (by omega) (by omega), Option.bind_some, rotl33, Option.bind_some, sum_j1 l hB hl j k hj (by omega), List.length_drop, if_pos h8, List.drop_drop]
    rfl
   ·
    rw [if_neg (by omega), sum_j1 l hB hl j k hj (by omega), List.length_drop, if_neg h8]
  ·
   rw [if_pos (by omega), if_neg h16, eight_f l hB (by omega) j k (by omega) (by omega), Option.bind_some, eight_f l hB (by omega) (j + 8) k (by omega) (by omega), Option.bind_some, rotl31, Option.bind_some, rotl27, Option.bind_some, rotl33, Option.bind_some, rotl31, Option.bind_some]
   have := sum_l0 l hB hl m k (j + 16) (IntKind.u64.wrap (IntKind.u64.wrap (IntKind.u64.wrap (rotN (Go.bits .xor .u64 h (lowN (l.drop j))) 27 + g) * 5) + 1390208809))
    (IntKind.u64.wrap (IntKind.u64.wrap (IntKind.u64.wrap (rotN (Go.bits .xor .u64 g (highN (l.drop (j + 8)))) 31 + (IntKind.u64.wrap (IntKind.u64.wrap (IntKind.u64.wrap (rotN (Go.bits .xor .u64 h (lowN (l.drop j))) 27 + g) * 5) + 1390208809))) * 5) + 944331445)) (by omega) (by omega) (by omega)
   rw [List.drop_drop, List.drop_drop]
   exact this
theorem rsum_f (l : List Int) (hB : Byt l) (hl : l.length < 4611686018427387000) (k : Nat) (hk : l.length + 12 < k) (s : Int) : skerryref02_Sum.f k l s = some (sumN l s) := by
 have := sum_l0 l hB hl (l.length + 1) k 0 s s (Nat.zero_le _) (by omega) (by omega)
 exact this
end Go.Proofs.Ytafhnjlihhfoaaa.Pl
