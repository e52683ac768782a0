/- How many bytes and cells a list has, up to a limit: what the law's own count says of the list. -/
import Derived.Test.YtlffkbcaphhldaaFdQx4
namespace Go.Proofs.Ytlffkbcaphhldaa.Pl
open Go Go.RowKit Go.Proofs.YtlffkbcaphhldaaW.PrintWords Go.Proofs.Ytlffkbcaphhldaa.Q
set_option linter.unusedVariables false
set_option linter.unusedSimpArgs false
def szC (c : S37) : Nat := c.f0.f0.size + c.f0.f1.size + c.f0.f3.size + c.f1.f3.f2.size
structure FineC (c : S37) : Prop where
 a : c.f0.f0.size ≤ 140737488351232
 b : c.f0.f1.size ≤ 140737488351232
 e : c.f0.f3.size ≤ 140737488351232
 d : c.f1.f3.f2.size ≤ 140737488351232
theorem w64 (n : Nat) (h : n < 4611686018427387904) : wrap64 (n : Int) = (n : Int) := by unfold wrap64; omega
theorem w64a (a b : Nat) (h : a + b < 4611686018427387904) : wrap64 ((a : Int) + (b : Int)) = ((a + b : Nat) : Int) := by rw [← Int.natCast_add]; exact w64 _ h
theorem w64d (a : Nat) (h : a < 4611686018427387904) : wrap64 (Int.tdiv (a : Int) 20) = ((a / 20 : Nat) : Int) := by
 rw [show (20 : Int) = ((20 : Nat) : Int) from rfl, ← Int.ofNat_tdiv]; exact w64 _ (by omega)
theorem weigh_sum {n a b c d : Nat} (hn : n ≤ 1000) (ha : a ≤ 140737488351232) (hb : b ≤ 140737488351232) (hc : c ≤ 140737488351232) (hd : d ≤ 140737488351232) :
  wrap64 ((n : Int) + wrap64 (1 + wrap64 (Int.tdiv (wrap64 (wrap64 (wrap64 ((a : Int) + (b : Int)) + (c : Int)) + (d : Int))) 20))) = ((n + (1 + (a + b + c + d) / 20) : Nat) : Int) := by
 rw [w64a a b (by omega), w64a (a + b) c (by omega), w64a (a + b + c) d (by omega), w64d _ (by omega), show (1 : Int) = ((1 : Nat) : Int) from rfl, w64a 1 _ (by omega), w64a n _ (by omega)]
theorem weigh_next {i n : Nat} (hi : i < n) (hn : n ≤ 1256584717458) : wrap64 ((i : Int) + 1) = ((i + 1 : Nat) : Int) := w64a i 1 (by omega)
theorem rd_at (l : List (S37)) (i : Nat) (hi : i < l.length) : rd_T37 l (i : Int) = l[i] := by
 unfold rd_T37; simp [List.getD_eq_getElem?_getD, List.getElem?_eq_getElem hi]
theorem weigh_l0 (m : Nat) (hm : m ≤ 1000) (l : List (S37)) (hF : ∀ c ∈ l, FineC c) (hl : l.length ≤ 1256584717458) : ∀ (d i k n : Nat), i + d = l.length → d < k → n ≤ m →
  ∃ r : Nat, skerrylaw06_weigh.l0 k (m : Int) (n : Int) l (l.length : Int) (i : Int) = some (r : Int) ∧ (r > m ∨ (n + d ≤ r ∧ ∀ c ∈ l.drop i, szC c ≤ 20 * r))
 | _, _, 0, _, _, hk, _ => by omega
 | 0, i, k + 1, n, hd, hk, hn => by
  refine ⟨n, ?_, .inr ⟨by omega, fun c hc => ?_⟩⟩
  ·
   rw [skerrylaw06_weigh.l0, if_neg (by omega)]
  ·
   rw [List.drop_eq_nil_of_le (by omega)] at hc; cases hc
 | d + 1, i, k + 1, n, hd, hk, hn => by
  have hi : i < l.length := by omega
  obtain ⟨c, hc⟩ : ∃ c, l[i] = c := ⟨_, rfl⟩
  have hrd : rd_T37 l (i : Int) = c := (rd_at l i hi).trans hc
  have hcF := hF c (by rw [← hc]; exact List.getElem_mem hi)
  have hs := weigh_sum (n := n) (by omega) hcF.a hcF.b hcF.e hcF.d
  have hdr : l.drop i = c :: l.drop (i + 1) := by rw [List.drop_eq_getElem_cons hi, hc]
  rw [skerrylaw06_weigh.l0, if_pos (by omega), if_pos (by omega), if_pos (by omega)]
  simp only [hrd, hs, weigh_next hi hl]
  have hz : szC c = c.f0.f0.size + c.f0.f1.size + c.f0.f3.size + c.f1.f3.f2.size := rfl
  rw [← hz]
  by_cases hgt : ((n + (1 + szC c / 20) : Nat) : Int) > (m : Int)
  ·
   rw [if_pos hgt]
   exact ⟨_, rfl, .inl (by omega)⟩
  ·
   rw [if_neg hgt]
   obtain ⟨r, e, h⟩ := weigh_l0 m hm l hF hl d (i + 1) k (n + (1 + szC c / 20)) (by omega) (by omega) (by omega)
   refine ⟨r, e, h.imp id fun ⟨h1, h2⟩ => ⟨by omega, fun x hx => ?_⟩⟩
   rw [hdr] at hx
   rcases List.mem_cons.1 hx with rfl | hx
   ·
    omega
   ·
    exact h2 x hx
theorem weigh_f (m : Nat) (hm : m ≤ 1000) (l : List (S37)) (hF : ∀ c ∈ l, FineC c) (hl : l.length ≤ 1256584717458) (k : Nat) (hk : l.length < k) :
  ∃ r : Nat, skerrylaw06_weigh.f k l (m : Int) = some (r : Int) ∧ (r > m ∨ (l.length ≤ r ∧ ∀ c ∈ l, szC c ≤ 20 * r)) := by
 obtain ⟨r, e, h⟩ := weigh_l0 m hm l hF hl l.length 0 k 0 (by omega) hk (Nat.zero_le _)
 exact ⟨r, e, h.imp id fun ⟨h1, h2⟩ => ⟨by omega, by simpa using h2⟩⟩
end Go.Proofs.Ytlffkbcaphhldaa.Pl
