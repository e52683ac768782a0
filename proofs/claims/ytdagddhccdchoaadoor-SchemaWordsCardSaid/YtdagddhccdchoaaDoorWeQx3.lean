/- Lemmas for this claim's walk: no condition of their own. -/
import Derived.Test.YtdagddhccdchoaaDoorWeSq
import Derived.Test.YtdagddhccdchoaaDoorWeSpl
import Derived.Test.YtdagddhccdchoaaDoorWeJ10
namespace Go.Proofs.YtdagddhccdchoaaDoor.Q
open Go.RowKit Go.Proofs.YtdagddhccdchoaaDoorW.PrintWords Go.Proofs.YtdagddhccdchoaaDoorW.PrintLast Go.Proofs.YtdagddhccdchoaaDoorW.PrintMore
attribute [local go_sem] max2_int min2_int max_two min_two max_three min_three max_four min_four
set_option linter.unusedVariables false
set_option linter.unusedSimpArgs false
def badRune (r : Nat) : Bool := ((decide (r < 97) || decide (122 < r)) && (decide (r < 48) || decide (57 < r))) && !(decide (r = 95))
def nameB (s : ByteArray) : Bool := decide (1 ≤ s.size) && decide (s.size ≤ 16) && decide (97 ≤ bt s 0) && decide (bt s 0 ≤ 122) && decide (Lib.idxFunc badRune true s < 0)
def key_Name.f (a0 : ByteArray) : Option (Bool) := some (nameB a0)
theorem ret_b_ {a b : Bool} (h : a = b) : Ending.returned (.bool a) = .returned (.bool b) := by rw [h]
theorem key_Name.pred (w : World) : Go.Proofs.PredAt Tryd.prog 43 #[] Go.Proofs.encR badRune w := fun W r _ => by
 unfold Go.Proofs.FnGives
 have z1 : (r : Int) < 97 ↔ r < 97 := by omega
 have z2 : (122 : Int) < (r : Int) ↔ 122 < r := by omega
 have z3 : (r : Int) < 48 ↔ r < 48 := by omega
 have z4 : (57 : Int) < (r : Int) ↔ 57 < r := by omega
 by_cases h5 : r = 95
 ·
  subst h5
  go_enter Tryd.func43, Tryd.ntmps43
  go_wp2
  go_ret
  exact ⟨ret_b_ (by simp [badRune]), 0, rfl⟩
 ·
  have b5 : ((r : Int) == 95) = false := by rw [beq_eq_false_iff_ne]; omega
  have b6 : ((r : Int) != 95) = true := by rw [bne_iff_ne]; omega
  by_cases h1 : r < 97
  ·
   by_cases h3 : r < 48
   ·
    have H := Lib.hid (show badRune r = true by simp [badRune, h1, h3, h5])
    clear h5
    go_enter Tryd.func43, Tryd.ntmps43
    go_wp2
    go_ret
    exact ⟨ret_b_ (by rw [H.out]), 0, rfl⟩
   ·
    by_cases h4 : 57 < r
    ·
     have H := Lib.hid (show badRune r = true by simp [badRune, h1, h4, h5])
     clear h5
     go_enter Tryd.func43, Tryd.ntmps43
     go_wp2
     go_ret
     exact ⟨ret_b_ (by rw [H.out]), 0, rfl⟩
    ·
     have H := Lib.hid (show badRune r = false by simp [badRune, h3, h4])
     clear h5
     go_enter Tryd.func43, Tryd.ntmps43
     go_wp2
     go_ret
     exact ⟨ret_b_ (by rw [H.out]), 0, rfl⟩
  ·
   by_cases h2 : 122 < r
   ·
    have h3 : ¬ r < 48 := by omega
    have h4 : 57 < r := by omega
    have H := Lib.hid (show badRune r = true by simp [badRune, h2, h4, h5])
    clear h5
    go_enter Tryd.func43, Tryd.ntmps43
    go_wp2
    go_ret
    exact ⟨ret_b_ (by rw [H.out]), 0, rfl⟩
   ·
    have H := Lib.hid (show badRune r = false by simp [badRune, h1, h2])
    clear h5
    go_enter Tryd.func43, Tryd.ntmps43
    go_wp2
    go_ret
    exact ⟨ret_b_ (by rw [H.out]), 0, rfl⟩
set_option maxHeartbeats 1000000 in
theorem key_Name.calls (a0 : ByteArray) (r : Bool) (w : World) (h : key_Name.f a0 = some r) :
  Calls Tryd.prog 23 #[.string a0] w fun e w' => e = .returned (.bool r) ∧ Below w.heap.size w w' := by
 obtain rfl := Option.some.inj h
 clear h
 by_cases h0 : a0.size = 0
 ·
  have e0 : a0 = ⟨#[]⟩ := by
   cases a0 with
   | mk d => congr 1; exact Array.eq_empty_of_size_eq_zero h0
  subst e0
  clear h0
  have H := Lib.hid (show nameB ⟨#[]⟩ = false by simp [nameB, ByteArray.size])
  go_enter Tryd.func23, Tryd.ntmps23
  go_wp2
  go_ret
  exact ⟨ret_b_ (by rw [H.out]), Below.refl _ _⟩
 ·
  have e1 : a0.toList.isEmpty = false := by
   rw [List.isEmpty_eq_false_iff, Lib.toList_data]
   intro e
   have e9 : a0.data.toList.length = 0 := by rw [e]; rfl
   exact h0 (by rw [← e9, Array.length_toList]; rfl)
  have e2 : ¬ a0.toList = [] := by
   intro e
   rw [e] at e1
   cases e1
  have q6 : 0 < a0.size := by omega
  have hx6 : ∀ h : 0 < a0.size, ((a0[0]'h).toNat : Int) = bt a0 0 := bt_at a0 0
  have hbr := bt_range a0 0
  clear h0
  by_cases h1 : a0.size ≤ 16
  rotate_left
  ·
   have c1 : decide (16 < (a0.size : Int)) = true := decide_eq_true (by omega)
   have c1b : decide (16 < a0.size) = true := decide_eq_true (by omega)
   have H := Lib.hid (show nameB a0 = false by simp [nameB, h1])
   clear h1
   go_enter Tryd.func23, Tryd.ntmps23
   go_wp2
   go_ret
   exact ⟨ret_b_ (by rw [H.out]), Below.refl _ _⟩
  have c1 : decide (16 < (a0.size : Int)) = false := decide_eq_false (by omega)
  have c1b : decide (16 < a0.size) = false := decide_eq_false (by omega)
  have qi6 : (0 < (a0.size : Int)) = True := eq_true (by omega)
  replace q6 := eq_true q6
  by_cases h2 : 97 ≤ bt a0 0
  rotate_left
  ·
   have c2 : decide (bt a0 0 < 97) = true := decide_eq_true (by omega)
   have H := Lib.hid (show nameB a0 = false by simp [nameB, h2])
   clear h1 h2
   go_enter Tryd.func23, Tryd.ntmps23
   go_wp2
   go_ret
   exact ⟨ret_b_ (by rw [H.out]), Below.refl _ _⟩
  have c2 : decide (bt a0 0 < 97) = false := decide_eq_false (by omega)
  by_cases h3 : bt a0 0 ≤ 122
  rotate_left
  ·
   have c3 : decide (122 < bt a0 0) = true := decide_eq_true (by omega)
   have H := Lib.hid (show nameB a0 = false by simp [nameB, h3])
   clear h1 h2 h3
   go_enter Tryd.func23, Tryd.ntmps23
   go_wp2
   go_ret
   exact ⟨ret_b_ (by rw [H.out]), Below.refl _ _⟩
  have c3 : decide (122 < bt a0 0) = false := decide_eq_false (by omega)
  have hC := Go.Proofs.Tryd.strings_ContainsFunc 43 #[] (Go.Proofs.enters_of Tryd.func43 (by kernel_rfl) rfl) badRune a0 w (key_Name.pred w)
  have H := Lib.hid (show nameB a0 = !decide (0 ≤ Lib.idxFunc badRune true a0) by
   have h1' : 1 ≤ a0.size := by have := of_eq_true q6; omega
   simp only [nameB, h1, h1', h2, h3, decide_true, Bool.true_and]
   by_cases h : 0 ≤ Lib.idxFunc badRune true a0 <;> simp [h] <;> omega)
  generalize decide (0 ≤ Lib.idxFunc badRune true a0) = D at *
  have HC := Lib.hid hC
  clear hC h1 h2 h3
  go_enter Tryd.func23, Tryd.ntmps23
  go_wp2_with (go_at_call 42; refine HC.out.mono ?_; rintro e w' ⟨rfl, hb⟩)
  go_ret
  exact ⟨ret_b_ (by rw [H.out]), hb⟩
def vocabS : ByteArray := ⟨#[99, 114, 101, 97, 116, 101, 32, 116, 97, 98, 108, 101, 32, 112, 114, 105, 109, 97, 114, 121, 32, 107, 101, 121, 32, 105, 110, 115, 101, 114, 116, 32, 105, 110, 116, 111, 32, 118, 97, 108, 117, 101, 115, 32, 117, 115, 105, 110, 103, 32, 116, 105, 109, 101, 115, 116, 97, 109, 112, 32, 99, 111, 110, 115, 105, 115, 116, 101, 110, 99, 121, 32, 117, 112, 100, 97, 116, 101, 32, 115, 101, 116, 32, 119, 104, 101, 114, 101, 32, 97, 110, 100, 32, 100, 101, 108, 101, 116, 101, 32, 102, 114, 111, 109, 32, 115, 101, 108, 101, 99, 116, 32, 108, 105, 109, 105, 116, 32, 111, 110, 101, 32, 113, 117, 111, 114, 117, 109, 32, 97, 108, 108, 32, 116, 101, 120, 116, 32, 105, 110, 116]⟩
def isWord (s : ByteArray) : Bool := (Spl.split vocabS).any fun w => w.toList == s.toList
def nameS (s : ByteArray) : Bool := !isWord s && nameB s
def schema_Name.f (a0 : ByteArray) : Option Bool := some (nameS a0)
theorem ret_sb_ {a b : Bool} (h : a = b) : Ending.returned (.bool a) = .returned (.bool b) := by rw [h]
section
open Go.Proofs.YtdagddhccdchoaaDoor.Rf
attribute [local go_sem] Oper.semAt_some
set_option maxHeartbeats 2000000 in
set_option maxRecDepth 100000 in
theorem schema_Name.calls (a0 : ByteArray) (r : Bool) (w : World) (h : schema_Name.f a0 = some r) :
  Calls Tryd.prog 9 #[.string a0] w fun e w' => e = .returned (.bool r) ∧ Below w.heap.size w w' := by
 obtain rfl := Option.some.inj h
 clear h
 have HK := Lib.hid (fun W => callsIn_wide (n := 3) |>.2 (key_Name.calls a0 (nameB a0) W rfl))
 have HS := Lib.hid (fun W => callsIn_wide (n := 3) |>.2 (Spl.seq_any vocabS W))
 have HR := Lib.hid (show nameS a0 = (!((Spl.split vocabS).any fun w => w.toList == a0.toList) && nameB a0) from rfl)
 refine (callsIn_wide (n := 4)).1 ?_
 refine callsIn_of_wp_marks Tryd.func9 rfl trivial ?_ rfl
 simp only [Tryd.ntmps9, List.size_toArray, List.length_cons, List.length_nil, Nat.reduceAdd, Nat.reduceSub, Array.replicate_succ, Array.replicate_zero, List.push_toArray, List.append_toArray, List.nil_append, List.cons_append]
 gi_wp2_with (refine ⟨trivial, ?_⟩; gi_at_call 22; refine (HS.out _).mono ?_; rintro e w2 ⟨rfl, rfl⟩)
 have hA : Below w.heap.size w (((((w.alloc (.cells #[.string a0] 9)).alloc (.cells #[.bool false] 4)).alloc (.cells #[.string vocabS] 9)).alloc (.cells #[.string ⟨#[32]⟩] 9)).alloc (.cells #[.int .i64 0] 3)) := ((((((Below.refl _ w).alloc (Nat.le_refl _) _).alloc (by simp) _).alloc (by simp; omega) _).alloc (by simp; omega) _).alloc (by simp; omega) _)
 have hsz : (((((w.alloc (.cells #[.string a0] 9)).alloc (.cells #[.bool false] 4)).alloc (.cells #[.string vocabS] 9)).alloc (.cells #[.string ⟨#[32]⟩] 9)).alloc (.cells #[.int .i64 0] 3)).heap.size = w.heap.size + 5 := by simp
 have kS := cell_alloc_l (.cells #[.int .i64 0] 3) (cell_alloc_l (.cells #[.string ⟨#[32]⟩] 9) (cell_alloc_l (.cells #[.string vocabS] 9) (cell_alloc_l (.cells #[.bool false] 4) (cell_new_l w (.string a0) 9).1)))
 have cR := cell_new_l (w.alloc (.cells #[.string a0] 9)) (.bool false) 4
 have cM := cell_new_l ((w.alloc (.cells #[.string a0] 9)).alloc (.cells #[.bool false] 4)) (.string vocabS) 9
 have cM1 := cell_new_l (((w.alloc (.cells #[.string a0] 9)).alloc (.cells #[.bool false] 4)).alloc (.cells #[.string vocabS] 9)) (.string ⟨#[32]⟩) 9
 have cM2 := cell_new_l ((((w.alloc (.cells #[.string a0] 9)).alloc (.cells #[.bool false] 4)).alloc (.cells #[.string vocabS] 9)).alloc (.cells #[.string ⟨#[32]⟩] 9)) (.int .i64 0) 3
 have r1 := cell_alloc_l (.cells #[.string vocabS] 9) cR.1
 have r2 := cell_alloc_l (.cells #[.string ⟨#[32]⟩] 9) r1
 have kR := cell_alloc_l (.cells #[.int .i64 0] 3) r2
 have gR := frozen_alloc_l (.cells #[.int .i64 0] 3) r2 (frozen_alloc_l (.cells #[.string ⟨#[32]⟩] 9) r1 (frozen_alloc_l (.cells #[.string vocabS] 9) cR.1 cR.2))
 have m1 := cell_alloc_l (.cells #[.string ⟨#[32]⟩] 9) cM.1
 have kM := cell_alloc_l (.cells #[.int .i64 0] 3) m1
 have gM := frozen_alloc_l (.cells #[.int .i64 0] 3) m1 (frozen_alloc_l (.cells #[.string ⟨#[32]⟩] 9) cM.1 cM.2)
 have kM1 := cell_alloc_l (.cells #[.int .i64 0] 3) cM1.1
 have kM2 := cM2.1
 simp only [World.size_alloc] at kR gR kM gM kM1 kM2
 generalize ((((w.alloc (.cells #[.string a0] 9)).alloc (.cells #[.bool false] 4)).alloc (.cells #[.string vocabS] 9)).alloc (.cells #[.string ⟨#[32]⟩] 9)).alloc (.cells #[.int .i64 0] 3) = W0 at *
 clear cR cM cM1 cM2 r1 r2 m1
 obtain ⟨z, hz⟩ : ∃ z, w.heap.size = z := ⟨_, rfl⟩
 rw [hz] at kS kR gR kM gM kM1 kM2 hsz
 rw [hz]
 have hst := Spl.split_stops 3 (z + 1 + 1) W0.heap.size vocabS W0 (by omega) (by omega) (Nat.le_refl _) (by decide) kM gM kM1 kM2
 refine wpIn_range_cell rfl (by omega) (gf := 52) (lb := #[.pointer (some ⟨z + 1 + 1 + 1, 0, none⟩), .pointer (some ⟨z + 1 + 1, 0, none⟩), .pointer (some ⟨z + 1 + 1 + 2, 0, none⟩)]) rfl trivial (Go.Proofs.enters_of Tryd.func52 (by kernel_rfl) rfl) (Nat.le_refl _) hst
  (fun pre W => (W.cell? ⟨z + 1, 0, none⟩ = some (.bool false) ∧ W.frozen? ⟨z + 1, 0, none⟩ = false ∧ W.cell? ⟨z, 0, none⟩ = some (.string a0) ∧ RowKit.Hid (∀ y ∈ pre, (y.toList == a0.toList) = false)) ∧ Below w.heap.size w W)
  (fun pre W => (W.cell? ⟨z + 1, 0, none⟩ = some (.bool false) ∧ RowKit.Hid (∃ y ∈ pre, (y.toList == a0.toList) = true)) ∧ Below w.heap.size w W)
  (OwnFrom.and (Own.from (fun s A B row hs hg hr => ⟨cell_kept hs.1 hg hr, (frozen_kept hs.1 hg hr).trans hs.2.1, cell_kept hs.2.2.1 hg hr, hs.2.2.2⟩) _) (ownFrom_below (Nat.le_refl _) (by omega)))
  (OwnFrom.and (Own.from (fun s A B row hs hg hr => ⟨cell_kept hs.1 hg hr, hs.2⟩) _) (ownFrom_below (Nat.le_refl _) (by omega)))
  (fun s A v hs => ⟨⟨by rw [World.cell?_setCell_other _ _ _ _ (by intro e; injection e; omega)]; exact hs.1.1, by rw [World.frozen?_setCell]; exact hs.1.2.1, by rw [World.cell?_setCell_other _ _ _ _ (by intro e; injection e; omega)]; exact hs.1.2.2.1, hs.1.2.2.2⟩, hs.2.setCell (p := ⟨z + 1 + 1, 0, none⟩) (by show _ ≤ z + 1 + 1; omega) _⟩)
  ⟨⟨kR, gR, kS, Lib.hid (by simp)⟩, hA⟩
  (fun x => { tmps := #[.string a0, .pointer (some ⟨z, 0, none⟩), .pointer (some ⟨z + 1, 0, none⟩), .string x, .func (.func 52) #[] #[.pointer (some ⟨z + 1 + 1 + 1, 0, none⟩), .pointer (some ⟨z + 1 + 1, 0, none⟩), .pointer (some ⟨z + 1 + 1 + 2, 0, none⟩)], .string x, undef, undef, undef, undef, undef], defers := [] }) ?assign ?body ?done ?stop
 case assign =>
  intro l x W K hK
  gi_wp2
  exact hK
 case body =>
  rintro l pre x W ⟨⟨hc, hf, hu, HP⟩, hB⟩ _
  by_cases hx : (x.toList == a0.toList) = true
  ·
   have HX := Lib.hid hx
   gi_wp2
   exact ⟨KeepsOthers.setCell _ _ _, ⟨World.cell?_setCell_same _ _ _ hc, Lib.hid ⟨x, by simp, HX.out⟩⟩, hB.setCell (p := ⟨z + 1, 0, none⟩) (by show _ ≤ z + 1; omega) _⟩
  ·
   have hx' := Bool.eq_false_iff.2 hx
   have HX := Lib.hid hx'
   clear hx
   gi_wp2
   exact ⟨KeepsOthers.refl _, Below.refl _ _, ⟨hc, hf, hu, Lib.hid (fun y hy => (List.mem_append.1 hy).elim (HP.out y) (fun e => by simp at e; subst e; exact HX.out))⟩, hB⟩
 case done =>
  rintro D W hD ⟨⟨hc, hf, hu, HP⟩, hB⟩ hK
  have hlt : z + 1 < W.heap.size := World.block_lt_of_cell? W _ hc
  have hDl : D < W.heap.size := (Array.getElem?_eq_some_iff.1 hK).1
  gi_wp2_with (refine ⟨trivial, ?_⟩; gi_at_call 23; refine (HK.out _).mono ?_; rintro e w3 ⟨rfl, hb3⟩; have c3 := (hb3.cell (p := ⟨z + 1, 0, none⟩) hlt).trans hc; have f3 := (hb3.frozen (p := ⟨z + 1, 0, none⟩) hlt).trans hf)
  have hB3 : Below w.heap.size w w3 := hB.trans (hb3.mono (by have := hB.size; omega))
  have hK3 := (hb3.block D hDl).trans hK
  have hK' := (KeepsOthers.setCell w3 ⟨z + 1, 0, none⟩ (.bool (nameB a0))).same D _ hK3 rfl
  refine ⟨by simp, .inl ⟨_, _, rfl, run_takeDeferred hK', ?_⟩⟩
  have hc5 := cell_kept (World.cell?_setCell_same w3 ⟨z + 1, 0, none⟩ (.bool (nameB a0)) c3) (grownBy_putObj' _ D (.deferred none)) (fun r e => by cases e; exact ⟨_, hK', rfl⟩)
  refine ⟨.bool (nameB a0), ?_, ret_sb_ (by rw [HR.out, List.any_eq_false.2 (fun y hy => by rw [HP.out y hy]; simp)]; rfl), (hB3.setCell (p := ⟨z + 1, 0, none⟩) (by show _ ≤ z + 1; omega) _).trans (belowK_b (w := w) (Nat.le_refl _) _ D _ _ (by omega) hK' rfl rfl)⟩
  simp [results, Tryd.f9, go_sem, hc5]
 case stop =>
  rintro D pre W hD hpre ⟨⟨hc, HP⟩, hB⟩ hK
  gi_wp2
  refine ⟨by simp, .inl ⟨_, _, rfl, run_takeDeferred hK, ?_⟩⟩
  have hc5 := cell_kept hc (grownBy_putObj' _ D (.deferred none)) (fun r e => by cases e; exact ⟨_, hK, rfl⟩)
  refine ⟨.bool false, ?_, ret_sb_ (by obtain ⟨y, hy, hy2⟩ := HP.out; rw [HR.out, List.any_eq_true.2 ⟨y, hpre.subset hy, hy2⟩]; rfl), hB.trans (belowK_b (w := w) (Nat.le_refl _) W D _ _ (by omega) hK rfl rfl)⟩
  simp [results, Tryd.f9, go_sem, hc5]
end
end Go.Proofs.YtdagddhccdchoaaDoor.Q
