/- Lists by keys, each once: what is alike joined from the left. Sorted and folded, or each added in its place: the same. Plain lemmas, no program in sight. -/
import Derived.Test.YtlffkbcaphhldaaFcOrd
import Derived.Test.YtlffkbcaphhldaaFcJ0
namespace Go.Proofs.Ytlffkbcaphhldaa.Nm
open Go.Proofs.Ytlffkbcaphhldaa.Ord Go.Proofs.Ytlffkbcaphhldaa.Srt
set_option linter.unusedVariables false
set_option linter.unusedSimpArgs false
section
variable {α κ : Type} (c : κ → κ → Int) (key : α → κ) (jn : α → α → α)
def add (x : α) : List α → List α
 | [] => [x]
 | y :: l => if c (key y) (key x) = 0 then jn y x :: l else if c (key y) (key x) > 0 then x :: y :: l else y :: add x l
def Inc (l : List α) : Prop := l.Pairwise fun x y => c (key x) (key y) < 0
def lk (k : κ) (l : List α) : Option α := l.find? fun x => c (key x) k == 0
variable {c key jn}
theorem add_less (x : α) {y : α} {l : List α} (h : c (key y) (key x) < 0) : add c key jn x (y :: l) = y :: add c key jn x l := by
 rw [add, if_neg (by omega), if_neg (by omega)]
theorem add_same (x : α) {y : α} {l : List α} (h : c (key y) (key x) = 0) : add c key jn x (y :: l) = jn y x :: l := by
 rw [add, if_pos h]
theorem add_more (x : α) {y : α} {l : List α} (h : c (key y) (key x) > 0) : add c key jn x (y :: l) = x :: y :: l := by
 rw [add, if_neg (by omega), if_pos h]
theorem add_key (hj : ∀ a b, key (jn a b) = key a) (x : α) : ∀ (l : List α) (z : α), z ∈ add c key jn x l → key z = key x ∨ ∃ y ∈ l, key z = key y
 | [], z, h => by rw [add, List.mem_singleton] at h; exact .inl (by rw [h])
 | y :: l, z, h => by
  unfold add at h
  split at h
  ·
   rcases List.mem_cons.1 h with rfl | h
   ·
    exact .inr ⟨y, List.mem_cons_self, hj _ _⟩
   ·
    exact .inr ⟨z, List.mem_cons_of_mem _ h, rfl⟩
  ·
   split at h
   ·
    rcases List.mem_cons.1 h with rfl | h
    ·
     exact .inl rfl
    ·
     exact .inr ⟨z, h, rfl⟩
   ·
    rcases List.mem_cons.1 h with rfl | h
    ·
     exact .inr ⟨z, List.mem_cons_self, rfl⟩
    ·
     rcases add_key hj x l z h with h | ⟨w, hw, e⟩
     ·
      exact .inl h
     ·
      exact .inr ⟨w, List.mem_cons_of_mem _ hw, e⟩
theorem add_inc (H : Cmp3 c) (hj : ∀ a b, key (jn a b) = key a) (x : α) : ∀ (l : List α), Inc c key l → Inc c key (add c key jn x l)
 | [], _ => List.pairwise_singleton _ _
 | y :: l, h => by
  have hp := List.pairwise_cons.1 h
  have n1 := H.anti (key y) (key x)
  unfold add
  split
  ·
   exact List.pairwise_cons.2 ⟨fun z hz => by rw [hj]; exact hp.1 z hz, hp.2⟩
  ·
   split
   ·
    refine List.pairwise_cons.2 ⟨fun z hz => ?_, h⟩
    rcases List.mem_cons.1 hz with rfl | hz
    ·
     omega
    ·
     have := hp.1 z hz
     have t := H.trans (key x) (key y) (key z); have t' := H.trans (key z) (key x) (key y); have a1 := H.anti (key x) (key z); have a2 := H.anti (key y) (key z)
     omega
   ·
    refine List.pairwise_cons.2 ⟨fun z hz => ?_, add_inc H hj x l hp.2⟩
    rcases add_key hj x l z hz with e | ⟨w, hw, e⟩
    ·
     rw [e]; omega
    ·
     rw [e]; exact hp.1 w hw
theorem lk_some {k : κ} {l : List α} {y : α} (h : lk c key k l = some y) : y ∈ l ∧ c (key y) k = 0 := by
 unfold lk at h
 exact ⟨List.mem_of_find?_eq_some h, by simpa using List.find?_some h⟩
end
end Go.Proofs.Ytlffkbcaphhldaa.Nm
