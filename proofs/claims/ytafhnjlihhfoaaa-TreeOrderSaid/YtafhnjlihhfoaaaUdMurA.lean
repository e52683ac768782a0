/- Murmur's parts, walked: words, halves of blocks, the last mix; and what Sum computes. -/
import Derived.Test.YtafhnjlihhfoaaaProg
import Derived.Test.YtafhnjlihhfoaaaUdWWords
import Derived.Test.YtafhnjlihhfoaaaUdWLast
import Derived.Test.YtafhnjlihhfoaaaUdJ13
import Derived.Lib.Hide
import Derived.StillTailTactics
import Derived.WalkMore
import Derived.RegionTactic
import Derived.BigRegion
import Derived.Deep.QuietTactic
import Derived.BigQuiet
import Derived.Deep.MidRow
import Derived.WalkLawsBesides
import Derived.WalkSpells
import Derived.Deep.DeepFit
import Derived.Outline
import Derived.Deep.DeepCutAuto
namespace Go.Proofs.Ytafhnjlihhfoaaa.Mur
open Go.RowKit Go.Proofs.YtafhnjlihhfoaaaW.PrintWords Go.Proofs.YtafhnjlihhfoaaaW.PrintLast Go.Proofs.YtafhnjlihhfoaaaW.PrintMore
attribute [local go_sem] max2_int min2_int max_two min_two max_three min_three max_four min_four
set_option linter.unusedVariables false
set_option linter.unusedSimpArgs false
def wordN (l : List Int) : Int := l.foldr (fun x u => Go.bits .or .u64 (IntKind.u64.wrap (u * 256)) (IntKind.u64.wrap x)) 0
def rotN (a k : Int) : Int := Go.bits .or .u64 (shl .u64 a k) (shr .u64 a (64 - k))
def lowN (l : List Int) : Int := IntKind.u64.wrap (rotN (IntKind.u64.wrap (wordN (l.take 8) * 9782798678568883157)) 31 * 5545529020109919103)
def highN (l : List Int) : Int := IntKind.u64.wrap (rotN (IntKind.u64.wrap (wordN (l.take 8) * 5545529020109919103)) 33 * 9782798678568883157)
theorem mur_rot27 (a : Int) (w : World) : Calls Try.prog 53 #[.int .u64 a, .int .i64 27] w fun e w' => e = .returned (.int .u64 (rotN a 27)) ∧ w' = w := by
 have hb : Go.bits .and .u64 27 63 = 27 := by decide
 go_enter Try.func53, Try.ntmps53
 go_wp2
 go_ret
 exact ⟨rfl, rfl⟩
theorem mur_rot31 (a : Int) (w : World) : Calls Try.prog 53 #[.int .u64 a, .int .i64 31] w fun e w' => e = .returned (.int .u64 (rotN a 31)) ∧ w' = w := by
 have hb : Go.bits .and .u64 31 63 = 31 := by decide
 go_enter Try.func53, Try.ntmps53
 go_wp2
 go_ret
 exact ⟨rfl, rfl⟩
theorem mur_rot33 (a : Int) (w : World) : Calls Try.prog 53 #[.int .u64 a, .int .i64 33] w fun e w' => e = .returned (.int .u64 (rotN a 33)) ∧ w' = w := by
 have hb : Go.bits .and .u64 33 63 = 33 := by decide
 go_enter Try.func53, Try.ntmps53
 go_wp2
 go_ret
 exact ⟨rfl, rfl⟩
theorem wordN_step (l : List Int) (j : Nat) (h : j < l.length) : wordN (l.drop j) = Go.bits .or .u64 (IntKind.u64.wrap (wordN (l.drop (j + 1)) * 256)) (IntKind.u64.wrap l[j]) := by
 rw [List.drop_eq_getElem_cons h]; rfl
set_option maxHeartbeats 1000000 in
theorem mur_word (A0 : Option Addr) (c0 : Nat) (l0 : List Int) (w : World) (hr0 : Kd.C (Kd.int .u8) w A0 l0.length l0) (hc0 : l0.length ≤ c0) : Calls Try.prog 77 #[.slice A0 l0.length c0] w fun e w' => e = .returned (.int .u64 (wordN (l0.take 8))) ∧ w' = w := by
 have hm := hr0.2.1
 have HR := Lib.hid (Kd.reads_of_C (d := (0 : Int)) hr0)
 obtain ⟨M, hM⟩ : ∃ M : Nat, M = (l0.take 8).length := ⟨_, rfl⟩
 have hM' := hM
 rw [List.length_take] at hM'
 have HM := Lib.hid hM
 clear hr0 hM
 go_enter Try.func77, Try.ntmps77
 by_cases h8 : 8 < l0.length
 ·
  have h8z : (8 : Int) < (l0.length : Int) := by omega
  have h8y : ¬ (l0.length : Int) ≤ 8 := by omega
  have hMe : M = 8 := by omega
  have HE := Lib.hid hMe
  clear hM' hMe
  go_wp2
  go_loopg [3, 4] M (fun g1 vu vi wr => ∃ j : Nat, vi = .int .i64 ((j : Int) - 1) ∧ j ≤ M ∧ j ≤ g1 ∧ vu = .int .u64 (wordN ((l0.take 8).drop j)) ∧ wr = w)
  case atStart => exact ⟨M, by rw [HE.out] <;> first | rfl | go_num, Nat.le_refl _, Nat.le_refl _, by rw [HM.out, List.drop_length]; rfl, rfl⟩
  case round =>
   obtain ⟨j, rfl, hjM, hjg, rfl, rfl⟩ := hrel
   cases j with
   | zero =>
    go_wp2
    go_ret
    exact ⟨rfl, rfl⟩
   | succ j =>
    have hjl : j < l0.length := by have h1 := HM.out; rw [List.length_take] at h1; omega
    have hj8 : j < (l0.take 8).length := by have h1 := HM.out; omega
    obtain ⟨ad, e, hc⟩ := HR.out.2.2 (by omega)
    subst e
    have hcj := hc j hjl
    have hv : l0.getD j 0 = l0[j] := by rw [List.getD_eq_getElem?_getD, List.getElem?_eq_getElem hjl]; rfl
    rw [hv] at hcj
    have hjz : (j : Int) < (l0.length : Int) := by omega
    have HS := Lib.hid (wordN_step (l0.take 8) j hj8)
    have HT := Lib.hid (show (l0.take 8)[j] = l0[j] by simp)
    clear hc hv
    go_wp2
    go_roundg j
    case measure => omega
    case rel => exact ⟨j, by go_num, by omega, Nat.le_refl _, by rw [HS.out, HT.out], rfl⟩
 ·
  have h8z : (l0.length : Int) ≤ 8 := by omega
  have hMe : M = l0.length := by omega
  have HE := Lib.hid hMe
  clear hM' hMe
  go_wp2
  go_loopg [3, 4] M (fun g1 vu vi wr => ∃ j : Nat, vi = .int .i64 ((j : Int) - 1) ∧ j ≤ M ∧ j ≤ g1 ∧ vu = .int .u64 (wordN ((l0.take 8).drop j)) ∧ wr = w)
  case atStart => exact ⟨M, by rw [HE.out] <;> first | rfl | go_num, Nat.le_refl _, Nat.le_refl _, by rw [HM.out, List.drop_length]; rfl, rfl⟩
  case round =>
   obtain ⟨j, rfl, hjM, hjg, rfl, rfl⟩ := hrel
   cases j with
   | zero =>
    go_wp2
    go_ret
    exact ⟨rfl, rfl⟩
   | succ j =>
    have hjl : j < l0.length := by have h1 := HM.out; rw [List.length_take] at h1; omega
    have hj8 : j < (l0.take 8).length := by have h1 := HM.out; omega
    obtain ⟨ad, e, hc⟩ := HR.out.2.2 (by omega)
    subst e
    have hcj := hc j hjl
    have hv : l0.getD j 0 = l0[j] := by rw [List.getD_eq_getElem?_getD, List.getElem?_eq_getElem hjl]; rfl
    rw [hv] at hcj
    have hjz : (j : Int) < (l0.length : Int) := by omega
    have HS := Lib.hid (wordN_step (l0.take 8) j hj8)
    have HT := Lib.hid (show (l0.take 8)[j] = l0[j] by simp)
    clear hc hv
    go_wp2
    go_roundg j
    case measure => omega
    case rel => exact ⟨j, by go_num, by omega, Nat.le_refl _, by rw [HS.out, HT.out], rfl⟩
theorem mur_low (A0 : Option Addr) (c0 : Nat) (l0 : List Int) (w : World) (hr0 : Kd.C (Kd.int .u8) w A0 l0.length l0) (hc0 : l0.length ≤ c0) : Calls Try.prog 54 #[.slice A0 l0.length c0] w fun e w' => e = .returned (.int .u64 (lowN l0)) ∧ w' = w := by
 have HW := Lib.hid (mur_word A0 c0 l0 w hr0 hc0)
 have E := Lib.hid (show lowN l0 = IntKind.u64.wrap (rotN (IntKind.u64.wrap (wordN (l0.take 8) * 9782798678568883157)) 31 * 5545529020109919103) from rfl)
 clear hr0
 go_enter Try.func54, Try.ntmps54
 go_wp2_with (first | (go_at_call 77; refine HW.out.mono ?_; rintro e w1 ⟨rfl, rfl⟩) | (go_at_call 53; refine (mur_rot31 _ _).mono ?_; rintro e w2 ⟨rfl, rfl⟩))
 go_ret
 exact ⟨by rw [E.out]; rfl, rfl⟩
theorem mur_high (A0 : Option Addr) (c0 : Nat) (l0 : List Int) (w : World) (hr0 : Kd.C (Kd.int .u8) w A0 l0.length l0) (hc0 : l0.length ≤ c0) : Calls Try.prog 55 #[.slice A0 l0.length c0] w fun e w' => e = .returned (.int .u64 (highN l0)) ∧ w' = w := by
 have HW := Lib.hid (mur_word A0 c0 l0 w hr0 hc0)
 have E := Lib.hid (show highN l0 = IntKind.u64.wrap (rotN (IntKind.u64.wrap (wordN (l0.take 8) * 5545529020109919103)) 33 * 9782798678568883157) from rfl)
 clear hr0
 go_enter Try.func55, Try.ntmps55
 go_wp2_with (first | (go_at_call 77; refine HW.out.mono ?_; rintro e w1 ⟨rfl, rfl⟩) | (go_at_call 53; refine (mur_rot33 _ _).mono ?_; rintro e w2 ⟨rfl, rfl⟩))
 go_ret
 exact ⟨by rw [E.out]; rfl, rfl⟩
def mixS (a : Int) : Int := Go.bits .xor .u64 a (a / 8589934592)
def mixN (a : Int) : Int := mixS (IntKind.u64.wrap (mixS (IntKind.u64.wrap (mixS a * 18397679294719823053)) * 14181476777654086739))
set_option maxHeartbeats 1000000 in
theorem mur_mix (a : Int) (w : World) : Calls Try.prog 57 #[.int .u64 a] w fun e w' => e = .returned (.int .u64 (mixN a)) ∧ w' = w := by
 have i0 : ∀ (w : World) (x y : Value), (Instr.index 90 (.agg #[x, y]) (.int .i64 0)).run Try.prog w = .ok x w := fun w x y => by kernel_rfl
 have i1 : ∀ (w : World) (x y : Value), (Instr.index 90 (.agg #[x, y]) (.int .i64 1)).run Try.prog w = .ok y w := fun w x y => by kernel_rfl
 go_enter Try.func57, Try.ntmps57
 go_wp2
 go_loopg [0, 6] 2 (fun g1 va vi wr => ((vi = .int .i64 0 ∧ va = .int .u64 a ∧ 2 ≤ g1) ∨ (vi = .int .i64 1 ∧ va = .int .u64 (IntKind.u64.wrap (mixS a * 18397679294719823053)) ∧ 1 ≤ g1) ∨ (vi = .int .i64 2 ∧ va = .int .u64 (IntKind.u64.wrap (mixS (IntKind.u64.wrap (mixS a * 18397679294719823053)) * 14181476777654086739)))) ∧ wr = w)
 case atStart => exact ⟨.inl ⟨rfl, rfl, Nat.le_refl _⟩, rfl⟩
 case round =>
  obtain ⟨h | h | h, rfl⟩ := hrel
  ·
   obtain ⟨rfl, rfl, hg⟩ := h
   go_wp2
   go_roundg 1
   case measure => omega
   case rel => exact ⟨.inr (.inl ⟨rfl, rfl, Nat.le_refl _⟩), rfl⟩
  ·
   obtain ⟨rfl, rfl, hg⟩ := h
   go_wp2
   go_roundg 0
   case measure => omega
   case rel => exact ⟨.inr (.inr ⟨rfl, rfl⟩), rfl⟩
  ·
   obtain ⟨rfl, rfl⟩ := h
   go_wp2
   go_ret
   exact ⟨rfl, rfl⟩
structure H2 (w W : World) (h g : Int) : Prop where
 below : Below w.heap.size w W
 b1 : W.heap[w.heap.size]? = some (.cells #[.int .u64 h] 50 (0, 0))
 b2 : W.heap[w.heap.size + 1]? = some (.cells #[.int .u64 g] 50 (0, 0))
theorem H2.c1 {w W : World} {h g : Int} (H : H2 w W h g) : W.cell? ⟨w.heap.size, 0, none⟩ = some (.int .u64 h) := by unfold World.cell?; simp only [H.b1]; rfl
theorem H2.c2 {w W : World} {h g : Int} (H : H2 w W h g) : W.cell? ⟨w.heap.size + 1, 0, none⟩ = some (.int .u64 g) := by unfold World.cell?; simp only [H.b2]; rfl
theorem H2.f1 {w W : World} {h g : Int} (H : H2 w W h g) : W.frozen? ⟨w.heap.size, 0, none⟩ = false := by unfold World.frozen?; simp only [H.b1]; rfl
theorem H2.f2 {w W : World} {h g : Int} (H : H2 w W h g) : W.frozen? ⟨w.heap.size + 1, 0, none⟩ = false := by unfold World.frozen?; simp only [H.b2]; rfl
theorem H2.set1 {w W : World} {h g : Int} (H : H2 w W h g) (x : Int) : H2 w (W.setCell ⟨w.heap.size, 0, none⟩ (.int .u64 x)) x g :=
 ⟨H.below.setCell (Nat.le_refl _) _, by simp only [World.setCell, Array.getElem?_modify, if_true, H.b1]; rfl, by simp only [World.setCell, Array.getElem?_modify]; rw [if_neg (by omega)]; exact H.b2⟩
theorem H2.set2 {w W : World} {h g : Int} (H : H2 w W h g) (x : Int) : H2 w (W.setCell ⟨w.heap.size + 1, 0, none⟩ (.int .u64 x)) h x :=
 ⟨H.below.setCell (by simp) _, by simp only [World.setCell, Array.getElem?_modify]; rw [if_neg (by omega)]; exact H.b1, by simp only [World.setCell, Array.getElem?_modify, if_true, H.b2]; rfl⟩
theorem H2.drew {w W : World} {h g : Int} (H : H2 w W h g) : H2 w W.drew h g := ⟨below_drew1 H.below, H.b1, H.b2⟩
theorem H2.start (w : World) (h g : Int) : H2 w ((w.alloc (.cells #[.int .u64 h] 50)).alloc (.cells #[.int .u64 g] 50)) h g :=
 ⟨((Below.refl _ _).alloc (Nat.le_refl _) _).alloc (by simp) _, by show ((w.heap.push _).push _)[w.heap.size]? = _; rw [Array.getElem?_push_lt (by simp)]; simp, by
  have e : w.heap.size + 1 = (w.heap.push (Obj.cells #[.int .u64 h] 50)).size := by simp
  show ((w.heap.push (Obj.cells #[.int .u64 h] 50)).push _)[w.heap.size + 1]? = _
  rw [e, Array.getElem?_push_size]⟩
theorem mur_add (w W : World) (h g : Int) (H : H2 w W h g) : Calls Try.prog 56 #[.pointer (some ⟨w.heap.size, 0, none⟩), .pointer (some ⟨w.heap.size + 1, 0, none⟩)] W fun e w' => e = .returned (.tuple #[]) ∧ H2 w w' (IntKind.u64.wrap (h + g)) (IntKind.u64.wrap (g + IntKind.u64.wrap (h + g))) := by
 have c1 := H.c1
 have c2 := H.c2
 have f1 := H.f1
 have f2 := H.f2
 have HH := Lib.hid H
 clear H
 go_enter Try.func56, Try.ntmps56
 go_wp2
 go_end0
 exact ⟨rfl, (HH.out.set1 _).set2 _⟩
def sumL : Nat → List Int → Int → Int → Int × Int
 | 0, _, h, g => (h, g)
 | k + 1, l, h, g => if l.length < 16 then (if 0 < l.length then Go.bits .xor .u64 h (lowN l) else h, if 8 < l.length then Go.bits .xor .u64 g (highN (l.drop 8)) else g) else
   let h1 := IntKind.u64.wrap (IntKind.u64.wrap (IntKind.u64.wrap (rotN (Go.bits .xor .u64 h (lowN l)) 27 + g) * 5) + 1390208809)
   sumL k (l.drop 16) h1 (IntKind.u64.wrap (IntKind.u64.wrap (IntKind.u64.wrap (rotN (Go.bits .xor .u64 g (highN (l.drop 8))) 31 + h1) * 5) + 944331445))
def sumF (n h g : Int) : Int × Int :=
 (IntKind.u64.wrap (mixN (IntKind.u64.wrap (Go.bits .xor .u64 h n + Go.bits .xor .u64 g n)) + mixN (IntKind.u64.wrap (Go.bits .xor .u64 g n + IntKind.u64.wrap (Go.bits .xor .u64 h n + Go.bits .xor .u64 g n)))),
  IntKind.u64.wrap (mixN (IntKind.u64.wrap (Go.bits .xor .u64 g n + IntKind.u64.wrap (Go.bits .xor .u64 h n + Go.bits .xor .u64 g n))) + IntKind.u64.wrap (mixN (IntKind.u64.wrap (Go.bits .xor .u64 h n + Go.bits .xor .u64 g n)) + mixN (IntKind.u64.wrap (Go.bits .xor .u64 g n + IntKind.u64.wrap (Go.bits .xor .u64 h n + Go.bits .xor .u64 g n))))))
theorem ret2_ {a b c d : Int} (h : a = c ∧ b = d) : Ending.returned (.tuple #[.int .u64 a, .int .u64 b]) = .returned (.tuple #[.int .u64 c, .int .u64 d]) := by rw [h.1, h.2]
theorem sumF_inj {n h g r1 r2 : Int} (H : sumF n h g = (r1, r2)) : IntKind.u64.wrap (mixN (IntKind.u64.wrap (Go.bits .xor .u64 h n + Go.bits .xor .u64 g n)) + mixN (IntKind.u64.wrap (Go.bits .xor .u64 g n + IntKind.u64.wrap (Go.bits .xor .u64 h n + Go.bits .xor .u64 g n)))) = r1 ∧
  IntKind.u64.wrap (mixN (IntKind.u64.wrap (Go.bits .xor .u64 g n + IntKind.u64.wrap (Go.bits .xor .u64 h n + Go.bits .xor .u64 g n))) + IntKind.u64.wrap (mixN (IntKind.u64.wrap (Go.bits .xor .u64 h n + Go.bits .xor .u64 g n)) + mixN (IntKind.u64.wrap (Go.bits .xor .u64 g n + IntKind.u64.wrap (Go.bits .xor .u64 h n + Go.bits .xor .u64 g n))))) = r2 := by
 unfold sumF at H
 exact Prod.mk.inj H
def sumN (l : List Int) (seed : Int) : Int × Int := let p := sumL (l.length + 1) l seed seed; sumF (l.length : Int) p.1 p.2
theorem mur_drop (A : Option Addr) (c : Nat) (l : List Int) (j : Nat) (hj : j ≤ l.length) (hc : l.length ≤ c) : ∃ A' : Option Addr, (∀ W : World, (Instr.slice 55 (.slice A l.length c) (some (.int .i64 (j : Int))) none none).run Try.prog W = .ok (.slice A' (l.drop j).length (c - j)) W) ∧
  (∀ w : World, Kd.C (Kd.int .u8) w A l.length l → Kd.C (Kd.int .u8) w A' (l.drop j).length (l.drop j)) ∧ (l.drop j).length ≤ c - j := by
 have hinfo : (Try.prog.info? 5).map (fun i => i.size) = some 1 := by kernel_rfl
 obtain ⟨i0, hi, hz⟩ := Option.map_eq_some_iff.1 hinfo
 obtain ⟨A', h1, h2, h3⟩ := print_drop_of (Value.int .u8) (0 : Int) 55 5 .i64 Try.underlying55 hi hz A c l (j : Int) (by omega) (by omega) hc
 exact ⟨A', h1, fun w h => Kd.C_of_reads (h2 w (Kd.reads_of_C (d := (0 : Int)) h)), h3⟩
end Go.Proofs.Ytafhnjlihhfoaaa.Mur
