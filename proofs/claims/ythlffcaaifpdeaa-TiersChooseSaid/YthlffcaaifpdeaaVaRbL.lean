/- skerryref12.Buckets: what holds in its parts (worlds and plain lists). -/
import Derived.Test.YthlffcaaifpdeaaVaBkL
namespace Go.Proofs.Ythlffcaaifpdeaa.Srt
open Go Go.Shelf Go.RowKit Go.Lib Go.Sort Go.Proofs Go.Proofs.YthlffcaaifpdeaaW.PrintWords Go.Proofs.YthlffcaaifpdeaaW.PrintLast Go.Proofs.YthlffcaaifpdeaaW.PrintMore Go.Proofs.Ythlffcaaifpdeaa.Ord
set_option linter.unusedVariables false
set_option linter.unusedSimpArgs false
theorem ins_at {α : Type} {lt : α → α → Bool} {X : α} : ∀ (a b : List α), (∀ t ∈ a, lt X t = false) → (∀ t ∈ b, lt X t = true) → ins lt X (a ++ b) = a ++ X :: b
 | [], [], _, _ => rfl
 | [], y :: b, _, h => by rw [List.nil_append, ins, if_pos (h y List.mem_cons_self)]; rfl
 | x :: a, b, h1, h2 => by
  rw [List.cons_append, ins, if_neg (by rw [h1 x List.mem_cons_self]; decide), ins_at a b (fun t ht => h1 t (List.mem_cons_of_mem _ ht)) h2]; rfl
theorem ins_place {α : Type} {lt : α → α → Bool} (H : WOrd lt) {X : α} {s : List α} (hs : s.Pairwise fun a b => lt b a = false) (k : Nat) (hk : k ≤ s.length) (h1 : ∀ t ∈ s.drop k, lt X t = true) (h2 : ∀ (h : 0 < k), lt X (s[k - 1]'(by omega)) = false) :
  ins lt X s = s.take k ++ X :: s.drop k := by
 have e : ins lt X s = ins lt X (s.take k ++ s.drop k) := by rw [List.take_append_drop]
 rw [e]
 refine ins_at _ _ (fun t ht => ?_) h1
 obtain ⟨p, hp, rfl⟩ := List.mem_take_iff_getElem.1 ht
 have hpk : p < k := by omega
 have h3 := h2 (by omega)
 rcases Nat.lt_or_ge p (k - 1) with h | h
 ·
  have h4 : lt (s[k - 1]'(by omega)) (s[p]'(by omega)) = false := List.pairwise_iff_getElem.1 hs p (k - 1) (by omega) (by omega) h
  exact H.2 _ _ _ h4 h3
 ·
  obtain rfl : p = k - 1 := by omega
  exact h3
def insF (l : List Int) (i : Nat) : List (Fin l.length) := isort (ltOf (cfS l)) ((List.finRange l.length).take i)
theorem insF_len (l : List Int) (i : Nat) (hi : i ≤ l.length) : (insF l i).length = i := by
 have := (isort_stab (cfS_ord l) ((List.finRange l.length).take i)).length
 unfold insF
 rw [this, List.length_take, List.length_finRange]; omega
theorem insF_succ (l : List Int) (i : Nat) (hi : i < l.length) : insF l (i + 1) = ins (ltOf (cfS l)) ⟨i, hi⟩ (insF l i) := by
 unfold insF
 rw [List.take_succ_eq_append_getElem (by simpa using hi), isort_snoc]; simp
theorem insF_full (l : List Int) : insF l l.length = orderF l := by
 unfold insF orderF; rw [List.take_of_length_le (by simp)]
theorem insF_sorted (l : List Int) (i : Nat) : (insF l i).Pairwise fun a b => ltOf (cfS l) b a = false := (isort_stab (cfS_ord l) _).srt
theorem ltS (l : List Int) (x y : Fin l.length) : ltOf (cfS l) x y = decide (sz l[x.val] < sz l[y.val]) := by
 unfold ltOf cfS ci
 by_cases h : sz l[x.val] < sz l[y.val]
 ·
  rw [if_pos h]; simp [h]
 ·
  rw [if_neg h]; split <;> simp [h]
def midL {n : Nat} (s : List (Fin n)) (k : Nat) (y : Int) : List Int := nums (s.take k) ++ y :: nums (s.drop k)
theorem midL_start {n : Nat} (s : List (Fin n)) (y : Int) : nums s ++ [y] = midL s s.length y := by unfold midL nums; simp
theorem midL_at {n : Nat} (s : List (Fin n)) (k : Nat) (y : Int) (hk : k < s.length) : rdOf (0 : Int) (midL s (k + 1) y) (k : Int) = ((s[k].val : Nat) : Int) := by
 unfold rdOf midL nums
 rw [Int.toNat_natCast, List.getD_eq_getElem?_getD, List.getElem?_append_left (by simp; omega), List.getElem?_map, List.getElem?_take_of_lt (by omega), List.getElem?_eq_getElem hk]; rfl
theorem midL_shift {n : Nat} (s : List (Fin n)) (k : Nat) (y : Int) (hk : k < s.length) : (midL s (k + 1) y).set (k + 1) ((s[k].val : Nat) : Int) = midL s k ((s[k].val : Nat) : Int) := by
 unfold midL nums
 rw [List.set_append_right _ _ (by simp; omega), List.length_map, List.length_take, Nat.min_eq_left (by omega), Nat.sub_self, List.set_cons_zero, List.take_succ_eq_append_getElem hk, List.drop_eq_getElem_cons hk]
 simp only [List.map_append, List.map_cons, List.map_nil, List.append_assoc, List.singleton_append]
theorem midL_end {n : Nat} (s : List (Fin n)) (k : Nat) (y : Int) (X : Fin n) (hk : k ≤ s.length) : (midL s k y).set k ((X.val : Nat) : Int) = nums (s.take k ++ X :: s.drop k) := by
 unfold midL nums
 rw [List.set_append_right _ _ (by simp; omega), List.length_map, List.length_take, Nat.min_eq_left (by omega), Nat.sub_self, List.set_cons_zero]
 simp
structure OR (w W : World) (v : Value) (xs : List Int) : Prop where
 ro : Kd.R (Kd.int .i64) 3 W w.heap.size (fun _ => True) v xs
 bel : Below w.heap.size w W
theorem OR.drewN {w W : World} {v : Value} {xs : List Int} (h : OR w W v xs) (n : Nat) : OR w (W.drewN n) v xs := ⟨Kd.R_drewN h.ro n, pw_below_drewN h.bel n⟩
theorem OR.put {w W : World} {g n cap : Nat} {xs : List Int} (h : OR w W (.slice (some ⟨g, 0, none⟩) n cap) xs) (k : Nat) (x : Int) : OR w (W.setCell ⟨g, k, none⟩ (.int .i64 x)) (.slice (some ⟨g, 0, none⟩) n cap) (xs.set k x) := by
 have h1 := Kd.R_putn h.ro (k : Int) x
 rw [Int.toNat_natCast] at h1
 exact ⟨h1, below_set h.bel (Kd.R_base h.ro g (by simp [Value.ownBlock]))⟩
theorem OR.form {w W : World} {v : Value} {xs : List Int} (h : OR w W v xs) {n : Nat} (hn : xs.length = n + 1) : ∃ g cap, v = .slice (some ⟨g, 0, none⟩) (n + 1) cap := by
 obtain ⟨g, cap, e, _⟩ := Kd.R_form h.ro (by omega)
 rw [hn] at e
 exact ⟨g, cap, e⟩
theorem OR.cell {w W : World} {g n cap : Nat} {xs : List Int} (h : OR w W (.slice (some ⟨g, 0, none⟩) n cap) xs) (k : Nat) (hk : k < n) : W.cell? ⟨g, k, none⟩ = some (.int .i64 (rdOf 0 xs (k : Int))) ∧ W.frozen? ⟨g, k, none⟩ = false := by
 have := Kd.R_celln (d := (0 : Int)) h.ro (k : Int) (by omega) (by omega)
 rwa [Int.toNat_natCast] at this
theorem in_cell {w W : World} {A : Option Addr} {l : List Int} (h : (Kd.int .i64).C w A l.length l) (hb : Below w.heap.size w W) (j : Nat) (hj : j < l.length) : ∃ ad, A = some ad ∧ W.cell? (ad.add j) = some (.int .i64 l[j]) := by
 obtain ⟨ad, e1, hcell⟩ := (Kd.C_below h hb).2.2 (by omega)
 obtain ⟨cs, hc1, hc2, hc3⟩ := hcell j l[j] (List.getElem?_eq_getElem hj)
 obtain rfl : cs = [.int .i64 l[j]] := hc2
 have hv := hc3 0 _ rfl
 rw [show j * (Kd.int .i64).sz + 0 = j from Nat.mul_one j] at hv
 exact ⟨ad, e1, hv⟩
theorem rsize_call (x : Int) (W : World) : Calls Try.prog 19 #[.int .i64 x] W fun e w' => e = .returned (.int .i64 (sz x)) ∧ w' = W := by
 unfold sz
 by_cases h1 : x < 0
 ·
  rw [if_pos h1, if_pos (by decide)]
  go_enter Try.func19, Try.ntmps19
  go_wp2
  go_ret
  exact ⟨rfl, rfl⟩
 ·
  rw [if_neg h1]
  by_cases h2 : 1099511627776 < x
  ·
   rw [if_neg (by omega)]
   go_enter Try.func19, Try.ntmps19
   go_wp2
   go_ret
   exact ⟨rfl, rfl⟩
  ·
   have e : (if x < 1099511627776 then x else 1099511627776) = x := by split <;> omega
   rw [e]
   go_enter Try.func19, Try.ntmps19
   go_wp2
   go_ret
   exact ⟨rfl, rfl⟩
theorem OR.last {w W : World} {l : List Int} {g n cap i : Nat} (hi : i < l.length) {s : List (Fin l.length)} (h0 : insF l (i + 1) = ins (ltOf (cfS l)) ⟨i, hi⟩ s) (hs : s.Pairwise fun a b => ltOf (cfS l) b a = false) (hl : s.length = i) (k : Nat) {y : Int} (hk : k ≤ i)
  (h : OR w W (.slice (some ⟨g, 0, none⟩) n cap) (midL s k y)) (h1 : ∀ t ∈ s.drop k, ltOf (cfS l) ⟨i, hi⟩ t = true) (h2 : ∀ (h : 0 < k), ltOf (cfS l) ⟨i, hi⟩ (s[k - 1]'(by omega)) = false) : OR w (W.setCell ⟨g, k, none⟩ (.int .i64 (i : Int))) (.slice (some ⟨g, 0, none⟩) n cap) (nums (insF l (i + 1))) := by
 have := h.put k (i : Int)
 have e := midL_end s k y ⟨i, hi⟩ (by omega)
 rw [show (((⟨i, hi⟩ : Fin l.length).val : Nat) : Int) = (i : Int) from rfl] at e
 rw [e, ← ins_place (cfS_ord l) hs k (by omega) h1 h2, ← h0] at this
 exact this
end Go.Proofs.Ythlffcaaifpdeaa.Srt
