/- Lemmas for this claim's walk: no condition of their own. -/
import Derived.Test.YtlffkbcaphhldaaFcGath
import Derived.Test.YtlffkbcaphhldaaFcPut
import Derived.Deep.MidRow
import Derived.WalkLawsBesides
import Derived.WalkSpells
import Derived.Lib.Hide
import Derived.Deep.DeepFit
import Derived.Outline
namespace Go.Proofs.Ytlffkbcaphhldaa.Q
open Go.RowKit Go.Proofs.YtlffkbcaphhldaaW.PrintWords Go.Proofs.YtlffkbcaphhldaaW.PrintLast Go.Proofs.YtlffkbcaphhldaaW.PrintMore
attribute [local go_sem] max2_int min2_int max_two min_two max_three min_three max_four min_four
set_option linter.unusedVariables false
set_option linter.unusedSimpArgs false
open Go.Lib Go.Proofs.Ytlffkbcaphhldaa.Sk Go.Proofs.Ytlffkbcaphhldaa.Pl Go.Proofs.Ytlffkbcaphhldaa.Ord Go.Proofs.Ytlffkbcaphhldaa.Nm Go.Proofs.Ytlffkbcaphhldaa.Rh
attribute [local go_sem] Oper.semAt_some
def Non (w : World) (p : Option Addr) : Prop := p = none ∨ ∃ (l : Nat) (u1 u2 : Value), p = some ⟨l, 0, none⟩ ∧ w.heap[l]? = some (.cells #[.pointer none, u1, u2] 67 (0, 0))
theorem Non.below {w W : World} {p : Option Addr} (h : Non w p) (hb : Below w.heap.size w W) : Non W p :=
 h.imp id fun ⟨l, u1, u2, h1, h2⟩ => ⟨l, u1, u2, h1, blk_below h2 hb⟩
theorem made_none (p : Option Addr) (w : World) (h : Non w p) : Calls Try.prog 28 #[.pointer p] w fun e w' => e = .returned (.bool false) ∧ w = w' := by
 rcases h with rfl | ⟨l, u1, u2, rfl, hb⟩
 ·
  exact made_nil w
 ·
  exact made_zero l u1 u2 w hb
theorem len_none (p : Option Addr) (w : World) (h : Non w p) : Calls Try.prog 16 #[.pointer p] w fun e w' => e = .returned (.int .i64 0) ∧ w = w' := by
 have HM := Lib.hid (made_none p w h)
 clear h
 go_enter Try.func16, Try.ntmps16
 go_wp2_with (go_at_call 28; (with_reducible refine HM.out.mono ?_); rintro e w1 ⟨rfl, rfl⟩)
 go_ret
 exact ⟨rfl, rfl⟩
theorem put_none (p : Option Addr) (x : Cl) (w : World) (h : Non w p) : Calls Try.prog 11 #[.pointer p, .agg (ca x)] w fun e w' => e = .returned (.int .i64 1) ∧ Below w.heap.size w w' := by
 have HM := Lib.hid (made_none p _ (h.below (below_alloc (Below.refl _ _) (.cells (ca x) 37))))
 clear h
 go_enter Try.func11, Try.ntmps11
 go_wp2_with (go_at_call 28; (with_reducible refine HM.out.mono ?_); rintro e w1 ⟨rfl, rfl⟩)
 go_ret
 exact ⟨rfl, below_alloc (Below.refl _ _) _⟩
set_option maxHeartbeats 2000000 in
set_option maxRecDepth 100000 in
theorem get_none (p : Option Addr) (k : Ky) (w : World) (h : Non w p) : Calls Try.prog 13 #[.pointer p, .agg #[.string k.f0, .string k.f1, .int .i64 k.f2, .string k.f3]] w fun e w' => e = .returned (.tuple #[.agg (va z35), .bool false]) ∧ Below w.heap.size w w' := by
 have hb2 : Below w.heap.size w ((w.alloc (.cells #[.string k.f0, .string k.f1, .int .i64 k.f2, .string k.f3] 31)).alloc (.cells #[.int .i64 0, .bool false, .int .i64 0, .int .i64 0, .int .i64 0, .string ⟨#[]⟩] 35)) := below_alloc (below_alloc (Below.refl _ _) _) _
 have HM := Lib.hid (made_none p _ (h.below hb2))
 have HB2 := Lib.hid hb2
 have hk4 : ((w.alloc (.cells #[.string k.f0, .string k.f1, .int .i64 k.f2, .string k.f3] 31)).alloc (.cells #[.int .i64 0, .bool false, .int .i64 0, .int .i64 0, .int .i64 0, .string ⟨#[]⟩] 35)).heap[w.heap.size + 1]? = some (.cells #[.int .i64 0, .bool false, .int .i64 0, .int .i64 0, .int .i64 0, .string ⟨#[]⟩] 35 (0, 0)) := by
  have h := heap_new_ (w.alloc (.cells #[.string k.f0, .string k.f1, .int .i64 k.f2, .string k.f3] 31)) (.cells #[.int .i64 0, .bool false, .int .i64 0, .int .i64 0, .int .i64 0, .string ⟨#[]⟩] 35)
  simp only [World.size_alloc] at h
  exact h
 have HK4 := Lib.hid hk4
 clear h hb2 hk4
 go_enter Try.func13, Try.ntmps13
 go_wp2_with (go_at_call 28; (with_reducible refine HM.out.mono ?_); rintro e w1 ⟨rfl, hw⟩; have HB1 := Lib.hid (show Below w.heap.size w w1 from hw ▸ HB2.out); have hk4 : w1.heap[w.heap.size + 1]? = some (.cells #[.int .i64 0, .bool false, .int .i64 0, .int .i64 0, .int .i64 0, .string ⟨#[]⟩] 35 (0, 0)) := hw ▸ HK4.out; have f4 := fun j => blk_frozen hk4 j; have c40 := (blk_cell hk4 0).trans (show _ = some (Value.int .i64 0) from rfl); have c41 := (blk_cell hk4 1).trans (show _ = some (Value.bool false) from rfl); have c42 := (blk_cell hk4 2).trans (show _ = some (Value.int .i64 0) from rfl); have c43 := (blk_cell hk4 3).trans (show _ = some (Value.int .i64 0) from rfl); have c44 := (blk_cell hk4 4).trans (show _ = some (Value.int .i64 0) from rfl); have c45 := (blk_cell hk4 5).trans (show _ = some (Value.string ⟨#[]⟩) from rfl); clear hw hk4)
 have hlt : w.heap.size ≤ w.heap.size + 1 := by omega
 exact bodyPost_ret (v := .tuple #[.agg (va z35), .bool false]) (by simp [results, Try.results13, go_sem, f4, c40, c41, c42, c43, c44, c45]; exact ⟨rfl, rfl, rfl, rfl, rfl, rfl⟩) rfl ⟨rfl, below_set (below_set (below_set (below_set (below_set (below_set HB1.out hlt) hlt) hlt) hlt) hlt) hlt⟩
theorem all_none (p : Option Addr) (w : World) (h : Non w p) : Calls Try.prog 15 #[.pointer p] w fun e w' => e = .returned (.slice none 0 0) ∧ Below w.heap.size w w' := by
 have HM := Lib.hid (made_none p _ (h.below (below_alloc (Below.refl _ _) (.cells #[.slice none 0 0] 23))))
 clear h
 refine (callsIn_wide (n := 6)).1 ?_
 refine callsIn_of_wp_marks Try.func15 rfl trivial ?_ rfl
 simp only [Try.ntmps15, List.size_toArray, List.length_cons, List.length_nil, Nat.reduceAdd, Nat.reduceSub, Array.replicate_succ, Array.replicate_zero, List.push_toArray, List.append_toArray, List.nil_append, List.cons_append]
 refine (wpIn_wide (n := 6)).2 ?_
 go_wp2_with (go_at_call 28; (with_reducible refine HM.out.mono ?_); rintro e w1 ⟨rfl, rfl⟩)
 exact ⟨_, by simp [results, Try.f15, go_sem], rfl, below_alloc (Below.refl _ _) _⟩
theorem his_none (p : Option Addr) (w : World) (h : Non w p) : Calls Try.prog 18 #[.pointer p] w fun e w' => e = .returned (.slice none 0 0) ∧ Below w.heap.size w w' := by
 have HM := Lib.hid (made_none p _ (h.below (below_alloc (Below.refl _ _) (.cells #[.slice none 0 0] 22))))
 clear h
 refine (callsIn_wide (n := 6)).1 ?_
 refine callsIn_of_wp_marks Try.func18 rfl trivial ?_ rfl
 simp only [Try.ntmps18, List.size_toArray, List.length_cons, List.length_nil, Nat.reduceAdd, Nat.reduceSub, Array.replicate_succ, Array.replicate_zero, List.push_toArray, List.append_toArray, List.nil_append, List.cons_append]
 refine (wpIn_wide (n := 6)).2 ?_
 go_wp2_with (go_at_call 28; (with_reducible refine HM.out.mono ?_); rintro e w1 ⟨rfl, rfl⟩)
 exact ⟨_, by simp [results, Try.f18, go_sem], rfl, below_alloc (Below.refl _ _) _⟩
set_option maxHeartbeats 2000000 in
set_option maxRecDepth 100000 in
theorem scan_none (p : Option Addr) (f u : Ky) (w : World) (h : Non w p) :
  Calls Try.prog 21 #[.pointer p, .agg (ka f), .agg (ka u)] w fun e w' => ∃ (B : Nat) (v : Value), e = .returned (.func (.func 48) #[] #[.pointer (some ⟨B, 0, none⟩)]) ∧ w'.heap[B]? = some (.cells #[v] 23 (0, 0)) ∧ w.heap.size ≤ B ∧ Kd.R k37 37 w' w.heap.size (fun _ => True) v [] ∧ Below w.heap.size w w' := by
 have hb3 : Below w.heap.size w (((w.alloc (.cells (ka f) 31)).alloc (.cells (ka u) 31)).alloc (.cells #[.slice none 0 0] 23)) := below_alloc (below_alloc (below_alloc (Below.refl _ _) _) _) _
 have HB3 := Lib.hid hb3
 have HM := Lib.hid (made_none p _ (h.below hb3))
 have HO := Lib.hid (show (((w.alloc (.cells (ka f) 31)).alloc (.cells (ka u) 31)).alloc (.cells #[.slice none 0 0] 23)).heap[w.heap.size + 1 + 1]? = some (.cells #[.slice none 0 0] 23 (0, 0)) from by
  have h := heap_new_ ((w.alloc (.cells (ka f) 31)).alloc (.cells (ka u) 31)) (.cells #[.slice none 0 0] 23)
  simp only [World.size_alloc] at h
  exact h)
 clear h hb3
 refine (callsIn_wide (n := 6)).1 ?_
 refine callsIn_of_wp_marks Try.func21 rfl trivial ?_ rfl
 simp only [Try.ntmps21, List.size_toArray, List.length_cons, List.length_nil, Nat.reduceAdd, Nat.reduceSub, Array.replicate_succ, Array.replicate_zero, List.push_toArray, List.append_toArray, List.nil_append, List.cons_append]
 refine (wpIn_wide (n := 6)).2 ?_
 go_wp2_with (first | (go_at_call 28; (with_reducible refine HM.out.mono ?_); rintro e w1 ⟨rfl, hw⟩; have HB1 := Lib.hid (show Below w.heap.size w w1 from hw ▸ HB3.out); have hk4 : w1.heap[w.heap.size + 1 + 1]? = some (.cells #[.slice none 0 0] 23 (0, 0)) := hw ▸ HO.out; have c0 := (blk_cell hk4 0).trans (show _ = some (Value.slice none 0 0) from rfl); clear hw hk4) | (go_at_call 38; (with_reducible refine (values_calls _ none 0 0 rfl _).mono ?_); rintro e w9 ⟨rfl, rfl⟩))
 refine ⟨_, by simp [results, Try.f21, go_sem], _, _, rfl, heap_new_ _ _, HB1.out.size, Kd.R_nil _ _ _ _ _, below_alloc HB1.out _⟩
theorem gather_none (p : Option Addr) (f u : Ky) (stop : Int) (w : World) (h : Non w p) :
  Calls Try.prog 20 #[.pointer p, .agg (ka f), .agg (ka u), .int .i64 stop] w fun e w' => ∃ (A : Option Addr) (c : Nat), e = .returned (.slice A 0 c) ∧ Below w.heap.size w w' := by
 refine (gather_of p [] f u stop w (fun W hW => scan_none p f u W (h.below hW)) (by simp)).mono ?_
 rintro e w' ⟨v, rfl, hR, hb⟩
 have h0 : gathL stop [] = [] := by unfold gathL; split <;> simp
 rw [h0] at hR
 obtain ⟨A, c, rfl⟩ := Kd.R_slice hR
 exact ⟨A, c, rfl, hb⟩
end Go.Proofs.Ytlffkbcaphhldaa.Q
