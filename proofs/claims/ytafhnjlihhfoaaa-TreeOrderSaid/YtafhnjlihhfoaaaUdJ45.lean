/- What is told of a row's cells: their texts are not too long, their numbers are ints. -/
import Derived.Test.YtafhnjlihhfoaaaUdOZ
import Derived.Test.YtafhnjlihhfoaaaUdPCodec
import Derived.Test.YtafhnjlihhfoaaaUdJ18
import Derived.Test.YtafhnjlihhfoaaaUdQx27
import Derived.Test.YtafhnjlihhfoaaaUdJ31
namespace Go.Proofs.Ytafhnjlihhfoaaa.Pl
open Go Go.RowKit Go.Proofs.YtafhnjlihhfoaaaW.PrintWords Go.Proofs.Ytafhnjlihhfoaaa.Q Go.Proofs.Ytafhnjlihhfoaaa.Opn
theorem WC.fine {c : S38} (h : WC c) : FineC c := ⟨h.1.1, h.1.2.1, h.1.2.2.2, h.2.2.2.2.2.2⟩
theorem WC.ok {c : S38} (h : WC c) : okC c := ⟨wf_i64 h.1.2.2.1, wf_i64 h.2.1, wf_i64 h.2.2.2.1, wf_i64 h.2.2.2.2.2.1⟩
theorem len_of {n : Nat} (h : n * 112 ≤ 140737488351232) : n ≤ 1256584717421 := by omega
end Go.Proofs.Ytafhnjlihhfoaaa.Pl
namespace Go.Proofs.Ytafhnjlihhfoaaa.Pl
open Go Go.RowKit Go.Proofs.YtafhnjlihhfoaaaW.PrintWords Go.Proofs.Ytafhnjlihhfoaaa.Q Go.Proofs.Ytafhnjlihhfoaaa.Mur
theorem putL_byt : ∀ (k : Nat) (u : Int), 0 ≤ u → Byt (putL k u)
 | 0, _, _ => fun x hx => by cases hx
 | k + 1, u, h => by
  unfold putL
  split
  ·
   intro x hx
   rcases List.mem_cons.1 hx with rfl | hx
   ·
    omega
   ·
    exact putL_byt k (u / 128) (by omega) x hx
  ·
   intro x hx
   rw [List.mem_singleton.1 hx]; omega
theorem bytesOf_byt (s : ByteArray) : Byt (bytesOf s) := fun x hx => by
 unfold bytesOf at hx
 obtain ⟨b, _, rfl⟩ := List.mem_map.1 hx
 have := b.toNat_lt
 omega
theorem textL_byt (s : ByteArray) : Byt (textL s) := (putL_byt _ _ (by omega)).app (bytesOf_byt s)
theorem one_byt {x : Int} (h : 0 ≤ x ∧ x < 256) : Byt [x] := fun y hy => by rw [List.mem_singleton.1 hy]; exact h
theorem encB_byt (c : S38) (h : okC c) : Byt (encB c) := by
 have z : ∀ {n : Int}, okI n → 0 ≤ zig n := fun h => (zigU h).1
 unfold encB
 refine (textL_byt _).app ((textL_byt _).app ((putL_byt _ _ (z h.row)).app ((textL_byt _).app ((putL_byt _ _ (z h.time)).app ?_))))
 split
 ·
  exact (one_byt (by decide)).app (putL_byt _ _ (z h.loc))
 ·
  exact (one_byt (by decide)).app ((putL_byt _ _ (wrapU _).1).app ((putL_byt _ _ (z h.num)).app (textL_byt _)))
theorem cellsB_byt (l : List (S38)) (h : ∀ c ∈ l, okC c) : Byt (cellsB l) := by
 refine (putL_byt _ _ (by omega)).app ?_
 intro x hx
 obtain ⟨c, hc, hx⟩ := List.mem_flatMap.1 hx
 exact encB_byt c (h c hc) x hx
theorem flat_len (l : List (S38)) : (l.flatMap encB).length ≤ total l := by
 induction l with
 | nil => exact Nat.le_refl _
 | cons c l ih =>
  have := encB_len c
  rw [List.flatMap_cons, List.length_append, show total (c :: l) = wOf c + total l by simp [total]]; omega
theorem cellsB_len (l : List (S38)) : (cellsB l).length ≤ total l + 10 := by
 have h1 := flat_len l
 have h2 := putL_len 10 (l.length : Int)
 unfold cellsB; rw [List.length_append]; omega
theorem total_le (m : Nat) : ∀ (l : List (S38)), (∀ c ∈ l, wOf c ≤ m) → total l ≤ l.length * m
 | [], _ => Nat.zero_le _
 | c :: l, h => by
  have h1 := h c List.mem_cons_self
  have h2 := total_le m l fun x hx => h x (List.mem_cons_of_mem _ hx)
  rw [show total (c :: l) = wOf c + total l by simp [total], List.length_cons, Nat.add_mul]; omega
def digN (l : List (S38)) : Int := (sumN (cellsB l) 0).1
theorem digest_f (l : List (S38)) (hok : ∀ c ∈ l, okC c) (hl : l.length ≤ 1000000) (ht : total l ≤ 100000000) (k : Nat) (hk : 100000100 ≤ k) : cell_Digest.f k l = some (digN l) ∧ skerryref05_Digest.f k l = some (digN l) := by
 obtain ⟨e1, e2⟩ := cells_f l hok (by omega) k (by omega) (by omega)
 have hn := cellsB_len l
 unfold cell_Digest.f skerryref05_Digest.f
 rw [e1, e2, Option.bind_some, Option.bind_some, rsum_f (cellsB l) (cellsB_byt l hok) (by omega) k (by omega) 0]
 exact ⟨rfl, rfl⟩
end Go.Proofs.Ytafhnjlihhfoaaa.Pl
