/- Digest: of fine cells the program's is the document's. -/
import Derived.Test.YtaedmofnhjaljaaKnQx27
import Derived.Test.YtaedmofnhjaljaaKnQx46
import Derived.Test.YtaedmofnhjaljaaKnPCodec
import Derived.Test.YtaedmofnhjaljaaKnPMur
import Derived.Test.YtaedmofnhjaljaaKnQx41
import Derived.Test.YtaedmofnhjaljaaKnJ48
import Derived.Test.YtaedmofnhjaljaaKnJ15
import Derived.Test.YtaedmofnhjaljaaKnPLives
namespace Go.Proofs.Ytaedmofnhjaljaa.Pl
open Go Go.RowKit Go.Proofs.YtaedmofnhjaljaaW.PrintWords Go.Proofs.Ytaedmofnhjaljaa.Q Go.Proofs.Ytaedmofnhjaljaa.Mur
theorem putL_byt : ∀ (k : Nat) (u : Int), 0 ≤ u → Byt (putL k u)
 | 0, _, _ => fun x hx => by cases hx
 | k + 1, u, h => by
  unfold putL
  split
  ·
   intro x hx
   rcases List.mem_cons.1 hx with rfl | hx
   ·
    omega
   ·
    exact putL_byt k (u / 128) (by omega) x hx
  ·
   intro x hx
   rw [List.mem_singleton.1 hx]; omega
theorem bytesOf_byt (s : ByteArray) : Byt (bytesOf s) := fun x hx => by
 unfold bytesOf at hx
 obtain ⟨b, _, rfl⟩ := List.mem_map.1 hx
 have := b.toNat_lt
 omega
theorem textL_byt (s : ByteArray) : Byt (textL s) := (putL_byt _ _ (by omega)).app (bytesOf_byt s)
theorem one_byt {x : Int} (h : 0 ≤ x ∧ x < 256) : Byt [x] := fun y hy => by rw [List.mem_singleton.1 hy]; exact h
theorem encB_byt (c : S29) (h : okC c) : Byt (encB c) := by
 have z : ∀ {n : Int}, okI n → 0 ≤ zig n := fun h => (zigU h).1
 unfold encB
 refine (textL_byt _).app ((textL_byt _).app ((putL_byt _ _ (z h.row)).app ((textL_byt _).app ((putL_byt _ _ (z h.time)).app ?_))))
 split
 ·
  exact (one_byt (by decide)).app (putL_byt _ _ (z h.loc))
 ·
  exact (one_byt (by decide)).app ((putL_byt _ _ (wrapU _).1).app ((putL_byt _ _ (z h.num)).app (textL_byt _)))
theorem cellsB_byt (l : List (S29)) (h : ∀ c ∈ l, okC c) : Byt (cellsB l) := by
 refine (putL_byt _ _ (by omega)).app ?_
 intro x hx
 obtain ⟨c, hc, hx⟩ := List.mem_flatMap.1 hx
 exact encB_byt c (h c hc) x hx
theorem flat_len (l : List (S29)) : (l.flatMap encB).length ≤ total l := by
 induction l with
 | nil => exact Nat.le_refl _
 | cons c l ih =>
  have := encB_len c
  rw [List.flatMap_cons, List.length_append, show total (c :: l) = wOf c + total l by simp [total]]; omega
theorem cellsB_len (l : List (S29)) : (cellsB l).length ≤ total l + 10 := by
 have h1 := flat_len l
 have h2 := putL_len 10 (l.length : Int)
 unfold cellsB; rw [List.length_append]; omega
theorem total_le (m : Nat) : ∀ (l : List (S29)), (∀ c ∈ l, wOf c ≤ m) → total l ≤ l.length * m
 | [], _ => Nat.zero_le _
 | c :: l, h => by
  have h1 := h c List.mem_cons_self
  have h2 := total_le m l fun x hx => h x (List.mem_cons_of_mem _ hx)
  rw [show total (c :: l) = wOf c + total l by simp [total], List.length_cons, Nat.add_mul]; omega
def digN (l : List (S29)) : Int := (sumN (cellsB l) 0).1
theorem digest_f (l : List (S29)) (hok : ∀ c ∈ l, okC c) (hl : l.length ≤ 1000000) (ht : total l ≤ 100000000) (k : Nat) (hk : 100000100 ≤ k) : cell_Digest.f k l = some (digN l) ∧ skerryref05_Digest.f k l = some (digN l) := by
 obtain ⟨e1, e2⟩ := cells_f l hok (by omega) k (by omega) (by omega)
 have hn := cellsB_len l
 unfold cell_Digest.f skerryref05_Digest.f
 rw [e1, e2, Option.bind_some, Option.bind_some, rsum_f (cellsB l) (cellsB_byt l hok) (by omega) k (by omega) 0]
 exact ⟨rfl, rfl⟩
end Go.Proofs.Ytaedmofnhjaljaa.Pl
namespace Go.Proofs.Ytaedmofnhjaljaa.Pl
open Go Go.RowKit Go.Proofs.YtaedmofnhjaljaaW.PrintWords Go.Proofs.Ytaedmofnhjaljaa.Q Go.Proofs.Ytaedmofnhjaljaa.Ord Go.Proofs.Ytaedmofnhjaljaa.Nm
theorem rsorted_l0 (l : List (S29)) (hl : l.length ≤ 1256584717400) : ∀ (d i k : Nat), 1 ≤ i → i + d = l.length → d + 6 < k → skerryref05_Sorted.l0 k l (l.length : Int) (i : Int) = cell_Sorted.l0 k l (i : Int)
 | d, i, 0, _, _, hk => by omega
 | 0, i, k + 1, h1, hd, hk => by rw [cell_Sorted.l0, skerryref05_Sorted.l0, if_neg (by omega), if_neg (by omega)]
 | d + 1, i, k + 1, h1, hd, hk => by
  have hi : i < l.length := by omega
  have hp : i - 1 < l.length := by omega
  have e1 := prev_n h1 (show i ≤ l.length by omega) hl
  have c1 : (i : Int) < (l.length : Int) := by omega
  have c2 : (i : Int) > 0 := by omega
  have c3 : (0 : Int) ≤ ((i - 1 : Nat) : Int) := by omega
  have c4 : ((i - 1 : Nat) : Int) < (l.length : Int) := by omega
  have c5 : (0 : Int) ≤ (i : Int) := by omega
  rw [cell_Sorted.l0, skerryref05_Sorted.l0, e1, rd_cell l _ hp, rd_cell l _ hi, key_Cmp_f k (by omega), rkey_f, next_n hi hl, rsorted_l0 l hl d (i + 1) k (by omega) (by omega) (by omega)]
  simp only [c1, c2, c3, c4, c5, if_true, Option.bind_some]
theorem rsorted_f (l : List (S29)) (hl : l.length ≤ 1256584717400) (k : Nat) (hk : l.length + 10 < k) : skerryref05_Sorted.f (k + 1) l = cell_Sorted.f k l := by
 unfold skerryref05_Sorted.f cell_Sorted.f
 obtain ⟨k, rfl⟩ : ∃ n, k = n + 1 := ⟨k - 1, by omega⟩
 have h1 : wrap64 ((0 : Int) + 1) = ((1 : Nat) : Int) := by unfold wrap64; omega
 rw [skerryref05_Sorted.l0]
 cases l with
 | nil => rw [if_neg (by simp), cell_Sorted.l0, if_neg (by simp)]
 | cons x l =>
  rw [if_pos (by simp), if_neg (by omega), h1]
  exact rsorted_l0 (x :: l) hl l.length 1 (k + 1) (Nat.le_refl _) (by simp; omega) (by simp at hk; omega)
theorem wOf_sz (c : S29) : wOf c = 100 + szC c := by unfold wOf szC; omega
theorem cellNorms (l : List (S29)) (x : S23) (hF : ∀ c ∈ l, FineC c) (hok : ∀ c ∈ l, okC c) (hl0 : l.length ≤ 1256584717421) :
  ∃ k, skerrylaw05_CellNorms.f k l x.f0 x.f1 x.f2 x.f3 = some true := by
 obtain ⟨K, hK1, hK2⟩ : ∃ K : Nat, l.length + 20 < K ∧ 100000200 ≤ K := ⟨l.length + 100000300, by omega, by omega⟩
 refine ⟨K, ?_⟩
 obtain ⟨r, hr, hc⟩ := weigh_f 400 (by omega) l hF (by omega) K (by omega)
 unfold skerrylaw05_CellNorms.f
 rw [show (400 : Int) = ((400 : Nat) : Int) from rfl, hr, Option.bind_some, lives_f K (by omega)]
 by_cases hgt : (r : Int) > ((400 : Nat) : Int)
 ·
  rw [if_pos hgt]; rfl
 ·
  rw [if_neg hgt]
  rcases hc with hc | ⟨h1, h2⟩
  ·
   omega
  have hlen : l.length ≤ 400 := by omega
  have hl : l.length ≤ 1256584717400 := by omega
  have ht : total l ≤ 100000000 := by
   have := total_le 8100 l fun c hc => by have := h2 c hc; rw [wOf_sz]; omega
   have h3 : l.length * 8100 ≤ 400 * 8100 := Nat.mul_le_mul_right _ hlen
   omega
  obtain ⟨b, hb, _⟩ := sorted_f l hl (K - 1) (by omega)
  have hb2 := rsorted_f l hl (K - 1) (by omega)
  rw [show K - 1 + 1 = K by omega, hb] at hb2
  obtain ⟨b', hb', hi'⟩ := sorted_f l hl K (by omega)
  obtain ⟨b'', hb'', hi''⟩ := sorted_f l hl (K - 1) (by omega)
  have ebb : b' = b := by
   have e : b'' = b := by rw [hb] at hb''; exact (Option.some.inj hb'').symm
   rw [← e, Bool.eq_iff_iff]; exact hi'.trans hi''.symm
  subst ebb
  have hnl : (normC l).length ≤ l.length := norm_len l
  obtain ⟨d1, d2⟩ := digest_f l hok (by omega) ht K (by omega)
  rw [Option.bind_some, if_pos (by simp; omega), Option.bind_some, List.nil_append, norm_f l (by omega) K (by omega), Option.bind_some, find_f, Option.bind_some, rfind_f l hl x K (by omega), Option.bind_some, rnorm_f l (by omega) K (by omega), Option.bind_some,
   like_self (normC l) (by omega) K (by omega), Option.bind_some, if_pos rfl, like_self l (by omega) K (by omega), Option.bind_some, if_pos rfl, hb', Option.bind_some, hb2, Option.bind_some, if_pos (by simp), if_pos (by simp), if_pos (by simp), d1, Option.bind_some, d2, Option.bind_some, if_pos rfl]
  rfl
end Go.Proofs.Ytaedmofnhjaljaa.Pl
