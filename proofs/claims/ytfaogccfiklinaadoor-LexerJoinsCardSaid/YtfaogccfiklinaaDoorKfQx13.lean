/- Lemmas for this claim's walk: no condition of their own. -/
import Derived.Test.YtfaogccfiklinaaDoorKfSq
import Derived.Test.YtfaogccfiklinaaDoorKfJ0
import Derived.BigQuiet
import Derived.Deep.QuietTactic
import Derived.Deep.RegionHeld3
import Derived.Test.YtfaogccfiklinaaDoorKfQx0
import Derived.Test.YtfaogccfiklinaaDoorKfQx3
import Derived.Test.YtfaogccfiklinaaDoorKfQx4
import Derived.Test.YtfaogccfiklinaaDoorKfQx6
import Derived.Test.YtfaogccfiklinaaDoorKfQx7
import Derived.Test.YtfaogccfiklinaaDoorKfQx8
import Derived.Test.YtfaogccfiklinaaDoorKfQx9
import Derived.Test.YtfaogccfiklinaaDoorKfQx10
import Derived.Test.YtfaogccfiklinaaDoorKfQx11
import Derived.Test.YtfaogccfiklinaaDoorKfJ12
namespace Go.Proofs.YtfaogccfiklinaaDoor.Q
open Go.RowKit Go.Proofs.YtfaogccfiklinaaDoorW.PrintWords Go.Proofs.YtfaogccfiklinaaDoorW.PrintLast Go.Proofs.YtfaogccfiklinaaDoorW.PrintMore
attribute [local go_sem] max2_int min2_int max_two min_two max_three min_three max_four min_four
set_option linter.unusedVariables false
set_option linter.unusedSimpArgs false
def wayN (c d : Int) : Nat := if (digitB c || (c == 45 && digitB d)) = true then 31 else if c = 39 then 32 else if letterB c = true then 34 else 35
theorem ret_fn_ {a b : Nat} (h : a = b) : Ending.returned (.func (.func a) #[] #[]) = .returned (.func (.func b) #[] #[]) := by rw [h]
theorem below_of_drawn {B : Nat} {w0 w w' : World} (h : Below B w0 w) (hd : Drawn0 w w') : Below B w0 w' := by
 obtain ⟨n, rfl⟩ := hd.out
 exact ⟨h.os, h.tape, h.output, h.size, h.block⟩
set_option maxHeartbeats 1000000 in
set_option maxRecDepth 100000 in
theorem way_calls (t : ByteArray) (a c d : Int) (w : World) (hc : lexer_cutter_peek.f t a 0 = some c) (hd : lexer_cutter_peek.f t a 1 = some d) (hc0 : 0 ≤ c ∧ c ≤ 255) (hd0 : 0 ≤ d ∧ d ≤ 255) :
  Calls Tryd.prog 20 #[.agg #[.string t, .int .i64 a]] w fun e w' => e = .returned (.func (.func (wayN c d)) #[] #[]) ∧ Below w.heap.size w w' := by
 have hp0 : ∀ W, _ := fun W => lexer_cutter_peek.calls t a 0 c W hc
 have hp1 : ∀ W, _ := fun W => lexer_cutter_peek.calls t a 1 d W hd
 have HP0 := Lib.hid hp0
 have HP1 := Lib.hid hp1
 clear hp0 hp1 hc hd
 obtain ⟨c0, c1⟩ := hc0
 obtain ⟨d0, d1⟩ := hd0
 have HDC := Lib.hid (fun W => lexer_isDigit.calls c (digitB c) W (isDigit_f _))
 have HDD := Lib.hid (fun W => lexer_isDigit.calls d (digitB d) W (isDigit_f _))
 have HLC := Lib.hid (fun W => lexer_isLetter.calls c (letterB c) W (isLetter_f _))
 have mixed : Tryd.prog.follows .mixedOrders = true := by kernel_rfl
 have hA : Below w.heap.size w (w.alloc (.cells #[.string t, .int .i64 a] 48)) := (Below.refl _ w).alloc (Nat.le_refl _) _
 have q0 := fun p : Srt.BW (w.alloc (.cells #[.string t, .int .i64 a] 48)) => (p.h.cell (p := ⟨w.heap.size, 0, none⟩) (by simp)).trans (cell_blk (heap_new_ w (.cells #[.string t, .int .i64 a] 48)) 0)
 have q1 := fun p : Srt.BW (w.alloc (.cells #[.string t, .int .i64 a] 48)) => (p.h.cell (p := ⟨w.heap.size, 1, none⟩) (by simp)).trans (cell_blk (heap_new_ w (.cells #[.string t, .int .i64 a] 48)) 1)
 simp only [List.getElem?_toArray, List.getElem?_cons_zero, List.getElem?_cons_succ] at q0 q1
 have HA := Lib.hid hA
 clear hA
 have HW := Lib.hid (show wayN c d = if (digitB c || (c == 45 && digitB d)) = true then 31 else if c = 39 then 32 else if letterB c = true then 34 else 35 from rfl)
 go_enter Tryd.func20, Tryd.ntmps20
 go_wp2_with fail
 refine Srt.wp_region_quiet_bw (by assumption) (by kernel_rfl) ?_
 quiet_step (fail)
 quiet_step ((go_at_call 29; refine Srt.Calls.bw_of (HP0.out _)))
 quiet_step (fail)
 quiet_step (fail)
 quiet_step ((go_at_call 29; refine Srt.Calls.bw_of (HP1.out _)))
 quiet_step (fail)
 quiet_step (fail)
 quiet_step (fail)
 refine wpQuiet_nil ?_
 rintro w3 ⟨p, rfl⟩
 clear q0 q1 HP0 HP1
 by_cases h1 : digitB c = true
 ·
  have H1 := Lib.hid (fun W => by have q := HDC.out W; rw [h1] at q; exact q)
  have HE := Lib.hid (show wayN c d = 31 by unfold wayN; rw [h1]; rfl)
  clear h1
  go_wp2_with (first | (go_at_call 30; (with_reducible refine (H1.out _).mono ?_); rintro e w4 ⟨rfl, hd4⟩))
  go_ret
  exact ⟨ret_fn_ HE.out.symm, HA.out.trans (Below.mono (below_of_drawn p.h hd4) HA.out.size)⟩
 ·
  replace h1 := Bool.eq_false_iff.2 h1
  have H1 := Lib.hid (fun W => by have q := HDC.out W; rw [h1] at q; exact q)
  have HH1 := Lib.hid h1
  clear h1
  have tail : ∀ (ns : Bool), ns = (c == 45 && digitB d) → ns = false → wayN c d = if c = 39 then 32 else if letterB c = true then 34 else 35 := fun ns e1 e2 => by rw [HW.out, HH1.out, ← e1, e2]; rfl
  have HT := Lib.hid tail
  clear tail
  by_cases h2 : c = 45
  ·
   have b2 : (c == 45) = true := beq_iff_eq.2 h2
   have b3 : (c == 39) = false := beq_eq_false_iff_ne.2 (by omega)
   by_cases h4 : digitB d = true
   ·
    have H2 := Lib.hid (fun W => by have q := HDD.out W; rw [h4] at q; exact q)
    have HE := Lib.hid (show wayN c d = 31 by unfold wayN; rw [HH1.out, h4, b2]; rfl)
    clear h2 h4
    go_wp2_with (first | (go_at_call 30; (with_reducible refine (H1.out _).mono ?_); rintro e w4 ⟨rfl, hd4⟩) | (go_at_call 30; (with_reducible refine (H2.out _).mono ?_); rintro e w5 ⟨rfl, hd5⟩))
    go_ret
    exact ⟨ret_fn_ HE.out.symm, HA.out.trans (Below.mono (below_of_drawn (below_of_drawn p.h hd4) hd5) HA.out.size)⟩
   ·
    replace h4 := Bool.eq_false_iff.2 h4
    have H2 := Lib.hid (fun W => by have q := HDD.out W; rw [h4] at q; exact q)
    have h5 : letterB c = false := by subst h2; rfl
    have H3 := Lib.hid (fun W => by have q := HLC.out W; rw [h5] at q; exact q)
    have HE := Lib.hid (show wayN c d = 35 by rw [HT.out _ rfl (by rw [h4]; simp), if_neg (by omega), h5]; rfl)
    clear h2 h4 h5
    go_wp2_with (first | (go_at_call 30; (with_reducible refine (H1.out _).mono ?_); rintro e w4 ⟨rfl, hd4⟩) | (go_at_call 30; (with_reducible refine (H2.out _).mono ?_); rintro e w5 ⟨rfl, hd5⟩) | (go_at_call 33; (with_reducible refine (H3.out _).mono ?_); rintro e w6 ⟨rfl, hd6⟩))
    go_ret
    exact ⟨ret_fn_ HE.out.symm, HA.out.trans (Below.mono (below_of_drawn (below_of_drawn (below_of_drawn p.h hd4) hd5) hd6) HA.out.size)⟩
  ·
   have b2 : (c == 45) = false := beq_eq_false_iff_ne.2 h2
   have HN := Lib.hid (HT.out _ rfl (by rw [b2]; rfl))
   clear h2
   by_cases h3 : c = 39
   ·
    have b3 : (c == 39) = true := beq_iff_eq.2 h3
    have HE := Lib.hid (show wayN c d = 32 by rw [HN.out, if_pos h3])
    clear h3
    go_wp2_with (first | (go_at_call 30; (with_reducible refine (H1.out _).mono ?_); rintro e w4 ⟨rfl, hd4⟩))
    go_ret
    exact ⟨ret_fn_ HE.out.symm, HA.out.trans (Below.mono (below_of_drawn p.h hd4) HA.out.size)⟩
   ·
    have b3 : (c == 39) = false := beq_eq_false_iff_ne.2 h3
    by_cases h5 : letterB c = true
    ·
     have H3 := Lib.hid (fun W => by have q := HLC.out W; rw [h5] at q; exact q)
     have HE := Lib.hid (show wayN c d = 34 by rw [HN.out, if_neg h3, if_pos h5])
     clear h3 h5
     go_wp2_with (first | (go_at_call 30; (with_reducible refine (H1.out _).mono ?_); rintro e w4 ⟨rfl, hd4⟩) | (go_at_call 33; (with_reducible refine (H3.out _).mono ?_); rintro e w6 ⟨rfl, hd6⟩))
     go_ret
     exact ⟨ret_fn_ HE.out.symm, HA.out.trans (Below.mono (below_of_drawn (below_of_drawn p.h hd4) hd6) HA.out.size)⟩
    ·
     have HE := Lib.hid (show wayN c d = 35 by rw [HN.out, if_neg h3, if_neg h5])
     replace h5 := Bool.eq_false_iff.2 h5
     have H3 := Lib.hid (fun W => by have q := HLC.out W; rw [h5] at q; exact q)
     clear h3 h5
     go_wp2_with (first | (go_at_call 30; (with_reducible refine (H1.out _).mono ?_); rintro e w4 ⟨rfl, hd4⟩) | (go_at_call 33; (with_reducible refine (H3.out _).mono ?_); rintro e w6 ⟨rfl, hd6⟩))
     go_ret
     exact ⟨ret_fn_ HE.out.symm, HA.out.trans (Below.mono (below_of_drawn (below_of_drawn p.h hd4) hd6) HA.out.size)⟩
abbrev Tok9 := Int × ByteArray × Int × Int × ByteArray × Int × Int × Int × Int
def next_way (k : Nat) (t : ByteArray) (a c d : Int) : Option (Int × ByteArray × Int × Int × ByteArray × Int × Int × Int) :=
 if (digitB c || (c == 45 && digitB d)) = true then lexer_cutter_number.f k t a else if c = 39 then lexer_cutter_quoted.f k t a else if letterB c = true then lexer_cutter_word.f t a else lexer_cutter_sign.f t a
def next_end (q : Int × ByteArray × Int × Int × ByteArray × Int × Int × Int) : Tok9 :=
 if 0 ≤ q.2.2.2.2.2.2.2 then (0, (⟨#[]⟩ : ByteArray), 0, 0, (⟨#[]⟩ : ByteArray), 0, 0, q.2.2.2.2.2.2.2, 11) else (q.1, q.2.1, q.2.2.1, q.2.2.2.1, q.2.2.2.2.1, q.2.2.2.2.2.1, q.2.2.2.2.2.2.1, 0, 0)
def next_at (k : Nat) (t : ByteArray) (a : Int) : Option Tok9 :=
 (lexer_cutter_rest.f t a).bind fun r => if r.toList = [] then (lexer_cutter_token.f t a 0 0).bind fun q => some (q.1, q.2.1, q.2.2.1, q.2.2.2.1, q.2.2.2.2.1, q.2.2.2.2.2.1, q.2.2.2.2.2.2, 0, 0)
  else (lexer_cutter_peek.f t a 0).bind fun c => (lexer_cutter_peek.f t a 1).bind fun d => if (0 ≤ c ∧ c ≤ 255) ∧ 0 ≤ d ∧ d ≤ 255 then (next_way k t a c d).bind fun q => some (next_end q) else none
def lexer_Next.f (k : Nat) (a0 : ByteArray) (a1 : Int) : Option Tok9 :=
 if 600 < a0.size then some (0, (⟨#[]⟩ : ByteArray), 0, 0, (⟨#[]⟩ : ByteArray), 0, 0, 0, 17)
 else if a1 < 0 ∨ (a0.size : Int) < a1 then some (0, (⟨#[]⟩ : ByteArray), 0, 0, (⟨#[]⟩ : ByteArray), 0, 0, 0, 6)
 else (lexer_cutter_blank.f k a0 a1).bind fun x => next_at k x.1 x.2
theorem next_way.mono (k : Nat) (t : ByteArray) (a c d : Int) : LeO (next_way k t a c d) (next_way (k + 1) t a c d) :=
 LeO.ite (lexer_cutter_number.mono _ _ _) (LeO.ite (lexer_cutter_quoted.mono _ _ _) (LeO.refl _))
theorem lexer_Next.mono : ∀ a0 a1 k, LeO (lexer_Next.f k a0 a1) (lexer_Next.f (k + 1) a0 a1) := fun a0 a1 k =>
 LeO.ite (LeO.refl _) (LeO.ite (LeO.refl _) (LeO.bind (lexer_cutter_blank.mono _ _ _) (fun _ => LeO.bind (LeO.refl _) (fun _ => LeO.ite (LeO.refl _) (LeO.bind (LeO.refl _) (fun _ => LeO.bind (LeO.refl _) (fun _ => LeO.ite (LeO.bind (next_way.mono _ _ _ _ _) (fun _ => LeO.refl _)) (LeO.refl _))))))))
theorem way_enters (c d : Int) : ∀ args w, (callFunc (wayN c d) args).run Tryd.prog w = .ok (.enter (wayN c d) args) w := by
 unfold wayN
 split
 ·
  exact Go.Proofs.enters_of Tryd.func31 (by kernel_rfl) rfl
 ·
  split
  ·
   exact Go.Proofs.enters_of Tryd.func32 (by kernel_rfl) rfl
  ·
   split
   ·
    exact Go.Proofs.enters_of Tryd.func34 (by kernel_rfl) rfl
   ·
    exact Go.Proofs.enters_of Tryd.func35 (by kernel_rfl) rfl
theorem way_tok (k : Nat) (t : ByteArray) (a c d : Int) (r1 : Int) (r2 : ByteArray) (r3 : Int) (r4 : Int) (r5 : ByteArray) (r6 : Int) (r7 : Int) (r8 : Int) (w : World) (h : next_way k t a c d = some (r1, r2, r3, r4, r5, r6, r7, r8)) :
  Calls Tryd.prog (wayN c d) #[.agg #[.string t, .int .i64 a]] w fun e w' => e = .returned (.tuple #[.agg #[.int .i64 r1, .string r2, .int .i64 r3, .int .i64 r4, .string r5, .int .i64 r6, .int .i64 r7], .int .i64 r8]) ∧ Below w.heap.size w w' := by
 unfold next_way at h
 unfold wayN
 split at h
 ·
  rename_i e1; rw [if_pos e1]; exact lexer_cutter_number.calls k t a r1 r2 r3 r4 r5 r6 r7 r8 w h
 ·
  rename_i e1
  rw [if_neg e1]
  split at h
  ·
   rename_i e2; rw [if_pos e2]; exact lexer_cutter_quoted.calls k t a r1 r2 r3 r4 r5 r6 r7 r8 w h
  ·
   rename_i e2
   rw [if_neg e2]
   split at h
   ·
    rename_i e3; rw [if_pos e3]; exact lexer_cutter_word.calls t a r1 r2 r3 r4 r5 r6 r7 r8 w h
   ·
    rename_i e3; rw [if_neg e3]; exact lexer_cutter_sign.calls t a r1 r2 r3 r4 r5 r6 r7 r8 w h
theorem cells7 {w : World} {g t : Nat} {v0 v1 v2 v3 v4 v5 v6 : Value} (h : w.heap[g]? = some (.cells #[v0, v1, v2, v3, v4, v5, v6] t (0, 0))) :
  (w.cell? ⟨g, 0, none⟩ = some v0 ∧ w.cell? ⟨g, 1, none⟩ = some v1 ∧ w.cell? ⟨g, 2, none⟩ = some v2 ∧ w.cell? ⟨g, 3, none⟩ = some v3 ∧ w.cell? ⟨g, 4, none⟩ = some v4 ∧ w.cell? ⟨g, 5, none⟩ = some v5 ∧ w.cell? ⟨g, 6, none⟩ = some v6) ∧
  (∀ j, w.frozen? ⟨g, j, none⟩ = false) :=
 ⟨⟨cell_blk h 0, cell_blk h 1, cell_blk h 2, cell_blk h 3, cell_blk h 4, cell_blk h 5, cell_blk h 6⟩, free_blk h⟩
theorem blk_lt_ {w : World} {g : Nat} {o : Obj} (h : w.heap[g]? = some o) : g < w.heap.size := (Array.getElem?_eq_some_iff.1 h).1
theorem cell_alloc_ {w : World} {a : Addr} {v : Value} {o : Obj} (h : w.cell? a = some v) : (w.alloc o).cell? a = some v := by
 have hlt : a.block < w.heap.size := by
  rcases Nat.lt_or_ge a.block w.heap.size with h' | h'
  ·
   exact h'
  ·
   simp [World.cell?, Array.getElem?_eq_none h'] at h
 rw [← h]
 unfold World.cell?
 rw [Below.heap_alloc w o a.block hlt]
theorem set7_heap {w : World} {g h : Nat} (hne : h ≠ g) (v0 v1 v2 v3 v4 v5 v6 : Value) :
  (((((((w.setCell ⟨g, 0, none⟩ v0).setCell ⟨g, 1, none⟩ v1).setCell ⟨g, 2, none⟩ v2).setCell ⟨g, 3, none⟩ v3).setCell ⟨g, 4, none⟩ v4).setCell ⟨g, 5, none⟩ v5).setCell ⟨g, 6, none⟩ v6).heap[h]? = w.heap[h]? := by
 rw [Below.heap_setCell _ _ _ h hne, Below.heap_setCell _ _ _ h hne, Below.heap_setCell _ _ _ h hne, Below.heap_setCell _ _ _ h hne, Below.heap_setCell _ _ _ h hne, Below.heap_setCell _ _ _ h hne, Below.heap_setCell _ _ _ h hne]
theorem cell_lt_ {w : World} {g o : Nat} {v : Value} (h : w.cell? ⟨g, o, none⟩ = some v) : g < w.heap.size := by
 rcases Nat.lt_or_ge g w.heap.size with h' | h'
 ·
  exact h'
 ·
  simp [World.cell?, Array.getElem?_eq_none h'] at h
theorem set7_cell {w : World} {g h : Nat} (hne : h ≠ g) (o : Nat) (v0 v1 v2 v3 v4 v5 v6 : Value) :
  (((((((w.setCell ⟨g, 0, none⟩ v0).setCell ⟨g, 1, none⟩ v1).setCell ⟨g, 2, none⟩ v2).setCell ⟨g, 3, none⟩ v3).setCell ⟨g, 4, none⟩ v4).setCell ⟨g, 5, none⟩ v5).setCell ⟨g, 6, none⟩ v6).cell? ⟨h, o, none⟩ = w.cell? ⟨h, o, none⟩ := by
 have ne : ∀ j, (⟨g, j, none⟩ : Addr) ≠ ⟨h, o, none⟩ := fun j e => hne (by injection e with e1; exact e1.symm)
 rw [World.cell?_setCell_other _ _ _ _ (ne 6), World.cell?_setCell_other _ _ _ _ (ne 5), World.cell?_setCell_other _ _ _ _ (ne 4), World.cell?_setCell_other _ _ _ _ (ne 3), World.cell?_setCell_other _ _ _ _ (ne 2), World.cell?_setCell_other _ _ _ _ (ne 1), World.cell?_setCell_other _ _ _ _ (ne 0)]
theorem next_laid {w w2 w3 w4 w6 : World} {gb g7 t25 t48 : Nat} {cs : Array Value} {t : ByteArray} {a : Int} (HX : w2.heap[gb]? = some (.cells cs t25 (0, 0))) (HB : Below w.heap.size w w2) (hb3 : Below w2.heap.size w2 w3) (hg7 : g7 = w3.heap.size)
  (hx7 : w4.heap[g7]? = some (.cells #[.string ⟨#[]⟩, .int .i64 0] t48 (0, 0))) (hb4 : Below w3.heap.size w3 w4) (hb6 : Below ((w4.setCell ⟨g7, 0, none⟩ (.string t)).setCell ⟨g7, 1, none⟩ (.int .i64 a)).heap.size ((w4.setCell ⟨g7, 0, none⟩ (.string t)).setCell ⟨g7, 1, none⟩ (.int .i64 a)) w6) :
  w6.heap[gb]? = some (.cells cs t25 (0, 0)) ∧ w6.heap[g7]? = some (.cells #[.string t, .int .i64 a] t48 (0, 0)) ∧ Below w.heap.size w w6 := by
 have l0 := blk_lt_ HX
 have l3 : gb < w3.heap.size := Nat.lt_of_lt_of_le l0 hb3.size
 have k5 := blk_put (cs := #[.string t, .int .i64 0]) (blk_put (cs := #[.string ⟨#[]⟩, .int .i64 0]) hx7 0 (.string t) rfl) 1 (.int .i64 a) rfl
 have e4 : w4.heap[gb]? = some (.cells cs t25 (0, 0)) := (hb4.block gb l3).trans ((hb3.block gb l0).trans HX)
 have e5 : ((w4.setCell ⟨g7, 0, none⟩ (.string t)).setCell ⟨g7, 1, none⟩ (.int .i64 a)).heap[gb]? = some (.cells cs t25 (0, 0)) :=
  (Below.heap_setCell _ _ _ gb (by show gb ≠ g7; omega)).trans ((Below.heap_setCell _ _ _ gb (by show gb ≠ g7; omega)).trans e4)
 have hB2 : Below w.heap.size w w4 := HB.trans ((hb3.trans (hb4.mono hb3.size)).mono HB.size)
 have hw : w.heap.size ≤ g7 := by have := HB.size; have := hb3.size; omega
 exact ⟨(hb6.block gb (blk_lt_ e5)).trans e5, (hb6.block g7 (blk_lt_ k5)).trans k5, ((hB2.setCell (p := ⟨g7, 0, none⟩) hw _).setCell (p := ⟨g7, 1, none⟩) hw _).trans (hb6.mono (by have := HB.size; have := hb3.size; have := hb4.size; simp; omega))⟩
set_option maxHeartbeats 4000000 in
set_option maxRecDepth 100000 in
theorem lexer_Next.calls (k : Nat) (a0 : ByteArray) (a1 : Int) (r1 : Int) (r2 : ByteArray) (r3 : Int) (r4 : Int) (r5 : ByteArray) (r6 : Int) (r7 : Int) (r8 : Int) (r9 : Int) (w : World) (h : lexer_Next.f k a0 a1 = some (r1, r2, r3, r4, r5, r6, r7, r8, r9)) :
  Calls Tryd.prog 9 #[.string a0, .int .i64 a1] w fun e w' => e = .returned (.tuple #[.agg #[.int .i64 r1, .string r2, .int .i64 r3, .int .i64 r4, .string r5, .int .i64 r6, .int .i64 r7], .int .i64 r8, .int .i64 r9]) ∧ Below w.heap.size w w' := by
 unfold lexer_Next.f at h
 by_cases h1 : 600 < a0.size
 ·
  rw [if_pos h1] at h
  simp only [Option.some.injEq, Prod.mk.injEq] at h
  obtain ⟨rfl, rfl, rfl, rfl, rfl, rfl, rfl, rfl, rfl⟩ := h
  have b1 : decide (600 < (a0.size : Int)) = true := decide_eq_true (by omega)
  have b1' : decide (600 < a0.size) = true := decide_eq_true h1
  go_enter Tryd.func9, Tryd.ntmps9
  go_wp2_with (first | ((with_reducible refine gate_dst (N := 4) rfl ?_); refine box_event ?hg (N := 4) ?hd (cs := #[.int .i64 0, .string (⟨#[]⟩ : ByteArray), .int .i64 0, .int .i64 0, .string (⟨#[]⟩ : ByteArray), .int .i64 0, .int .i64 0]) (t := 25) ?hr ?_; (case hd => rfl); (case hg => rfl); (case hr => first | (go_simp; done) | (go_simp; rfl)); intro gb hg w2 hbox hb; obtain ⟨⟨z0, z1, z2, z3, z4, z5, z6⟩, zf⟩ := cells7 hbox; have HX := Lib.hid hbox; have HB := Lib.hid hb; have HG := Lib.hid hg; clear hbox hb hg))
  exact bodyPost_ret (results_ctt rfl _ _ gb 25 #[.int .i64 0, .string (⟨#[]⟩ : ByteArray), .int .i64 0, .int .i64 0, .string (⟨#[]⟩ : ByteArray), .int .i64 0, .int .i64 0] (0, 0) _ rfl (tok_end HX.out _ _ _ _ _ _ _) Tryd.underlying25 rfl (by kernel_rfl)) rfl ⟨rfl, tok_below HB.out (Nat.le_of_eq HG.out.symm) _ _ _ _ _ _ _⟩
 ·
  rw [if_neg h1] at h
  have b1 : decide (600 < (a0.size : Int)) = false := decide_eq_false (by omega)
  have b1' : decide (600 < a0.size) = false := decide_eq_false h1
  by_cases h2 : a1 < 0
  ·
   rw [if_pos (.inl h2)] at h
   simp only [Option.some.injEq, Prod.mk.injEq] at h
   obtain ⟨rfl, rfl, rfl, rfl, rfl, rfl, rfl, rfl, rfl⟩ := h
   have b2 : decide (a1 < 0) = true := decide_eq_true h2
   go_enter Tryd.func9, Tryd.ntmps9
   go_wp2_with (first | ((with_reducible refine gate_dst (N := 4) rfl ?_); refine box_event ?hg (N := 4) ?hd (cs := #[.int .i64 0, .string (⟨#[]⟩ : ByteArray), .int .i64 0, .int .i64 0, .string (⟨#[]⟩ : ByteArray), .int .i64 0, .int .i64 0]) (t := 25) ?hr ?_; (case hd => rfl); (case hg => rfl); (case hr => first | (go_simp; done) | (go_simp; rfl)); intro gb hg w2 hbox hb; obtain ⟨⟨z0, z1, z2, z3, z4, z5, z6⟩, zf⟩ := cells7 hbox; have HX := Lib.hid hbox; have HB := Lib.hid hb; have HG := Lib.hid hg; clear hbox hb hg))
   exact bodyPost_ret (results_ctt rfl _ _ gb 25 #[.int .i64 0, .string (⟨#[]⟩ : ByteArray), .int .i64 0, .int .i64 0, .string (⟨#[]⟩ : ByteArray), .int .i64 0, .int .i64 0] (0, 0) _ rfl (tok_end HX.out _ _ _ _ _ _ _) Tryd.underlying25 rfl (by kernel_rfl)) rfl ⟨rfl, tok_below HB.out (Nat.le_of_eq HG.out.symm) _ _ _ _ _ _ _⟩
  ·
   have b2 : decide (a1 < 0) = false := decide_eq_false h2
   by_cases h3 : (a0.size : Int) < a1
   ·
    rw [if_pos (.inr h3)] at h
    simp only [Option.some.injEq, Prod.mk.injEq] at h
    obtain ⟨rfl, rfl, rfl, rfl, rfl, rfl, rfl, rfl, rfl⟩ := h
    have b3 : decide ((a0.size : Int) < a1) = true := decide_eq_true h3
    go_enter Tryd.func9, Tryd.ntmps9
    go_wp2_with (first | ((with_reducible refine gate_dst (N := 4) rfl ?_); refine box_event ?hg (N := 4) ?hd (cs := #[.int .i64 0, .string (⟨#[]⟩ : ByteArray), .int .i64 0, .int .i64 0, .string (⟨#[]⟩ : ByteArray), .int .i64 0, .int .i64 0]) (t := 25) ?hr ?_; (case hd => rfl); (case hg => rfl); (case hr => first | (go_simp; done) | (go_simp; rfl)); intro gb hg w2 hbox hb; obtain ⟨⟨z0, z1, z2, z3, z4, z5, z6⟩, zf⟩ := cells7 hbox; have HX := Lib.hid hbox; have HB := Lib.hid hb; have HG := Lib.hid hg; clear hbox hb hg))
    exact bodyPost_ret (results_ctt rfl _ _ gb 25 #[.int .i64 0, .string (⟨#[]⟩ : ByteArray), .int .i64 0, .int .i64 0, .string (⟨#[]⟩ : ByteArray), .int .i64 0, .int .i64 0] (0, 0) _ rfl (tok_end HX.out _ _ _ _ _ _ _) Tryd.underlying25 rfl (by kernel_rfl)) rfl ⟨rfl, tok_below HB.out (Nat.le_of_eq HG.out.symm) _ _ _ _ _ _ _⟩
   ·
    rw [if_neg (by omega)] at h
    have b3 : decide ((a0.size : Int) < a1) = false := decide_eq_false h3
    obtain ⟨⟨t, a⟩, hbl, h⟩ := Option.bind_eq_some_iff.1 h
    obtain ⟨r, hre, h⟩ := Option.bind_eq_some_iff.1 h
    have HBl := Lib.hid (fun W => lexer_cutter_blank.calls k a0 a1 t a W hbl)
    have HRe := Lib.hid (fun W => lexer_cutter_rest.calls t a r W hre)
    clear hbl hre h1 h2 h3
    by_cases he : r.toList = []
    ·
     rw [if_pos he] at h
     obtain ⟨⟨q1, q2, q3, q4, q5, q6, q7⟩, hto, h⟩ := Option.bind_eq_some_iff.1 h
     simp only [Option.some.injEq, Prod.mk.injEq] at h
     obtain ⟨rfl, rfl, rfl, rfl, rfl, rfl, rfl, rfl, rfl⟩ := h
     have HTo := Lib.hid (fun W => lexer_cutter_token.calls t a 0 0 q1 q2 q3 q4 q5 q6 q7 W hto)
     obtain rfl : r = ⟨#[]⟩ := by
      cases r with | mk d =>
       congr 1
       rw [Lib.toList_data] at he
       exact Array.toList_eq_nil_iff.1 he
     clear hto he
     go_enter Tryd.func9, Tryd.ntmps9
     go_wp2_with (first | ((with_reducible refine gate_dst (N := 4) rfl ?_); refine box_event ?hg (N := 4) ?hd (cs := #[.int .i64 0, .string (⟨#[]⟩ : ByteArray), .int .i64 0, .int .i64 0, .string (⟨#[]⟩ : ByteArray), .int .i64 0, .int .i64 0]) (t := 25) ?hr ?_; (case hd => rfl); (case hg => rfl); (case hr => first | (go_simp; done) | (go_simp; rfl)); intro gb hg w2 hbox hb; have HX := Lib.hid hbox; have HB := Lib.hid hb; have HG := Lib.hid hg; clear hbox hb hg) | (go_at_call 17; (with_reducible refine (HBl.out _).mono ?_); rintro e w3 ⟨rfl, hb3⟩; have HB3 := Lib.hid hb3; clear hb3) | ((with_reducible refine gate_dst (N := 7) rfl ?_); refine box_event ?hg (N := 7) ?hd (cs := #[.string (⟨#[]⟩ : ByteArray), .int .i64 0]) (t := 48) ?hr ?_; (case hd => rfl); (case hg => rfl); (case hr => first | (go_simp; done) | (go_simp; rfl)); intro g7 hg w4 hbox hb; have y0 := cell_blk hbox 0; have y1 := cell_blk hbox 1; have yf := free_blk hbox; simp only [List.getElem?_toArray, List.getElem?_cons_zero, List.getElem?_cons_succ] at y0 y1; have HX7 := Lib.hid hbox; have HB7 := Lib.hid hb; have HG7 := Lib.hid hg; clear hbox hb hg) | (go_at_call 18; (with_reducible refine (HRe.out _).mono ?_); rintro e w6 ⟨rfl, hb6⟩; obtain ⟨x4, x7, hB6⟩ := next_laid HX.out HB.out HB3.out HG7.out HX7.out HB7.out hb6; have u0 := cell_blk x7 0; have u1 := cell_blk x7 1; simp only [List.getElem?_toArray, List.getElem?_cons_zero, List.getElem?_cons_succ] at u0 u1; have HX4 := Lib.hid x4; have HB6 := Lib.hid hB6; clear hb6 x4 x7 hB6 y0 y1 yf) | (go_at_call 19; (with_reducible refine (HTo.out _).mono ?_); rintro e w8 ⟨rfl, hb8⟩; have x8 := (hb8.block gb (blk_lt_ HX4.out)).trans HX4.out; have hB8 := HB6.out.trans (hb8.mono HB6.out.size); obtain ⟨⟨z0, z1, z2, z3, z4, z5, z6⟩, zf⟩ := cells7 x8; have HX8 := Lib.hid x8; have HB8 := Lib.hid hB8; clear hb8 x8 hB8))
     exact bodyPost_ret (results_ctt rfl _ _ gb 25 #[.int .i64 q1, .string q2, .int .i64 q3, .int .i64 q4, .string q5, .int .i64 q6, .int .i64 q7] (0, 0) _ rfl (tok_end HX8.out _ _ _ _ _ _ _) Tryd.underlying25 rfl (by kernel_rfl)) rfl ⟨rfl, tok_below HB8.out (Nat.le_of_eq HG.out.symm) _ _ _ _ _ _ _⟩
    ·
     rw [if_neg he] at h
     obtain ⟨c, hc, h⟩ := Option.bind_eq_some_iff.1 h
     obtain ⟨d, hd, h⟩ := Option.bind_eq_some_iff.1 h
     by_cases hcd : (0 ≤ c ∧ c ≤ 255) ∧ 0 ≤ d ∧ d ≤ 255
     rotate_left
     ·
      rw [if_neg hcd] at h
      cases h
     rw [if_pos hcd] at h
     obtain ⟨⟨q1, q2, q3, q4, q5, q6, q7, q8⟩, hq, h⟩ := Option.bind_eq_some_iff.1 h
     have hE := Option.some.inj h
     have HWay := Lib.hid (fun W => way_calls t a c d W hc hd hcd.1 hcd.2)
     have HTok := Lib.hid (fun W => way_tok k t a c d q1 q2 q3 q4 q5 q6 q7 q8 W hq)
     have eN := way_enters c d
     obtain ⟨M, hM⟩ : ∃ M, wayN c d = M := ⟨_, rfl⟩
     rw [hM] at HWay HTok eN
     have e1 : r.toList.isEmpty = false := List.isEmpty_eq_false_iff.2 he
     have e2 : (r.toList == []) = false := by rw [beq_eq_false_iff_ne]; exact he
     have HE := Lib.hid hE
     clear hc hd hcd hq h hM hE
     go_enter Tryd.func9, Tryd.ntmps9
     go_wp2_with (first | ((with_reducible refine gate_dst (N := 4) rfl ?_); refine box_event ?hg (N := 4) ?hd (cs := #[.int .i64 0, .string (⟨#[]⟩ : ByteArray), .int .i64 0, .int .i64 0, .string (⟨#[]⟩ : ByteArray), .int .i64 0, .int .i64 0]) (t := 25) ?hr ?_; (case hd => rfl); (case hg => rfl); (case hr => first | (go_simp; done) | (go_simp; rfl)); intro gb hg w2 hbox hb; have HX := Lib.hid hbox; have HB := Lib.hid hb; have HG := Lib.hid hg; clear hbox hb hg) | (go_at_call 17; (with_reducible refine (HBl.out _).mono ?_); rintro e w3 ⟨rfl, hb3⟩; have HB3 := Lib.hid hb3; clear hb3) | ((with_reducible refine gate_dst (N := 7) rfl ?_); refine box_event ?hg (N := 7) ?hd (cs := #[.string (⟨#[]⟩ : ByteArray), .int .i64 0]) (t := 48) ?hr ?_; (case hd => rfl); (case hg => rfl); (case hr => first | (go_simp; done) | (go_simp; rfl)); intro g7 hg w4 hbox hb; have y0 := cell_blk hbox 0; have y1 := cell_blk hbox 1; have yf := free_blk hbox; simp only [List.getElem?_toArray, List.getElem?_cons_zero, List.getElem?_cons_succ] at y0 y1; have HX7 := Lib.hid hbox; have HB7 := Lib.hid hb; have HG7 := Lib.hid hg; clear hbox hb hg) | (go_at_call 18; (with_reducible refine (HRe.out _).mono ?_); rintro e w6 ⟨rfl, hb6⟩; obtain ⟨x4, x7, hB6⟩ := next_laid HX.out HB.out HB3.out HG7.out HX7.out HB7.out hb6; have u0 := cell_blk x7 0; have u1 := cell_blk x7 1; simp only [List.getElem?_toArray, List.getElem?_cons_zero, List.getElem?_cons_succ] at u0 u1; have HX4 := Lib.hid x4; have HX6 := Lib.hid x7; have HB6 := Lib.hid hB6; clear hb6 x4 x7 hB6 y0 y1 yf))
     have HWay2 : RowKit.Hid (∀ W : World, W.cell? ⟨g7, 0, none⟩ = some (.string t) → W.cell? ⟨g7, 1, none⟩ = some (.int .i64 a) → Calls Tryd.prog 20 #[.agg #[.string t, .int .i64 a]] W fun e w' => e = .returned (.func (.func M) #[] #[]) ∧ (w'.cell? ⟨g7, 0, none⟩ = some (.string t) ∧ w'.cell? ⟨g7, 1, none⟩ = some (.int .i64 a)) ∧ Below W.heap.size W w') := Lib.hid (fun W c0 c1 => (HWay.out W).mono fun e w' ⟨x1, x2⟩ => ⟨x1, ⟨(x2.cell (p := ⟨g7, 0, none⟩) (cell_lt_ c0)).trans c0, (x2.cell (p := ⟨g7, 1, none⟩) (cell_lt_ c1)).trans c1⟩, x2⟩)
     have HTok2 : RowKit.Hid (∀ W : World, W.cell? ⟨g7, 0, none⟩ = some (.string t) → W.cell? ⟨g7, 1, none⟩ = some (.int .i64 a) → Calls Tryd.prog M #[.agg #[.string t, .int .i64 a]] W fun e w' => e = .returned (.tuple #[.agg #[.int .i64 q1, .string q2, .int .i64 q3, .int .i64 q4, .string q5, .int .i64 q6, .int .i64 q7], .int .i64 q8]) ∧ (w'.cell? ⟨g7, 0, none⟩ = some (.string t) ∧ w'.cell? ⟨g7, 1, none⟩ = some (.int .i64 a)) ∧ Below W.heap.size W w') := Lib.hid (fun W c0 c1 => (HTok.out W).mono fun e w' ⟨x1, x2⟩ => ⟨x1, ⟨(x2.cell (p := ⟨g7, 0, none⟩) (cell_lt_ c0)).trans c0, (x2.cell (p := ⟨g7, 1, none⟩) (cell_lt_ c1)).trans c1⟩, x2⟩)
     clear HWay HTok
     have UD := Lib.hid (show w6.drew.cell? ⟨g7, 0, none⟩ = some (.string t) ∧ w6.drew.cell? ⟨g7, 1, none⟩ = some (.int .i64 a) from ⟨u0, u1⟩)
     have UB := Lib.hid (show Below w.heap.size w w6.drew from ⟨HB6.out.os, HB6.out.tape, HB6.out.output, HB6.out.size, HB6.out.block⟩)
     have UX := Lib.hid (show w6.drew.heap[gb]? = _ from HX4.out)
     have VD := Lib.hid (show (w6.alloc (.cells #[.int .i64 0, .string (⟨#[]⟩ : ByteArray), .int .i64 0, .int .i64 0, .string (⟨#[]⟩ : ByteArray), .int .i64 0, .int .i64 0] 25)).drew.cell? ⟨g7, 0, none⟩ = some (.string t) ∧ (w6.alloc (.cells #[.int .i64 0, .string (⟨#[]⟩ : ByteArray), .int .i64 0, .int .i64 0, .string (⟨#[]⟩ : ByteArray), .int .i64 0, .int .i64 0] 25)).drew.cell? ⟨g7, 1, none⟩ = some (.int .i64 a) from ⟨cell_alloc_ u0, cell_alloc_ u1⟩)
     have vb0 := HB6.out.alloc HB6.out.size (.cells #[.int .i64 0, .string (⟨#[]⟩ : ByteArray), .int .i64 0, .int .i64 0, .string (⟨#[]⟩ : ByteArray), .int .i64 0, .int .i64 0] 25)
     have VB := Lib.hid (show Below w.heap.size w (w6.alloc (.cells #[.int .i64 0, .string (⟨#[]⟩ : ByteArray), .int .i64 0, .int .i64 0, .string (⟨#[]⟩ : ByteArray), .int .i64 0, .int .i64 0] 25)).drew from ⟨vb0.os, vb0.tape, vb0.output, vb0.size, vb0.block⟩)
     have VX := Lib.hid (show (w6.alloc (.cells #[.int .i64 0, .string (⟨#[]⟩ : ByteArray), .int .i64 0, .int .i64 0, .string (⟨#[]⟩ : ByteArray), .int .i64 0, .int .i64 0] 25)).drew.heap[gb]? = _ from (Below.heap_alloc w6 (.cells #[.int .i64 0, .string (⟨#[]⟩ : ByteArray), .int .i64 0, .int .i64 0, .string (⟨#[]⟩ : ByteArray), .int .i64 0, .int .i64 0] 25) gb (blk_lt_ HX4.out)).trans HX4.out)
     have VP := Lib.hid (show (w6.alloc (.cells #[.int .i64 0, .string (⟨#[]⟩ : ByteArray), .int .i64 0, .int .i64 0, .string (⟨#[]⟩ : ByteArray), .int .i64 0, .int .i64 0] 25)).drew.heap[w6.heap.size]? = _ from heap_new_ w6 (.cells #[.int .i64 0, .string (⟨#[]⟩ : ByteArray), .int .i64 0, .int .i64 0, .string (⟨#[]⟩ : ByteArray), .int .i64 0, .int .i64 0] 25))
     clear vb0
     have O8 := Lib.hid (fun (W : World) => heap_new_ W (.cells #[.int .i64 0, .string (⟨#[]⟩ : ByteArray), .int .i64 0, .int .i64 0, .string (⟨#[]⟩ : ByteArray), .int .i64 0, .int .i64 0] 25))
     go_region_held3 (fun w' => w'.cell? ⟨g7, 0, none⟩ = some (.string t) ∧ w'.cell? ⟨g7, 1, none⟩ = some (.int .i64 a)) (first | go_keep | (with_reducible exact ⟨(set7_cell (Nat.ne_of_lt (cell_lt_ m0)) 0 _ _ _ _ _ _ _).trans l0, (set7_cell (Nat.ne_of_lt (cell_lt_ m0)) 1 _ _ _ _ _ _ _).trans l1⟩) | (with_reducible exact ⟨(set7_cell (Nat.ne_of_lt (cell_lt_ u0)) 0 _ _ _ _ _ _ _).trans l0, (set7_cell (Nat.ne_of_lt (cell_lt_ u0)) 1 _ _ _ _ _ _ _).trans l1⟩)) (first | (go_at_call 20; (with_reducible refine (HWay2.out w6.drew UD.out.1 UD.out.2).mono ?_); rintro e w9 ⟨rfl, ⟨m0, m1⟩, hb9⟩; have HB9 := Lib.hid (UB.out.trans (hb9.mono UB.out.size)); have HX9 := Lib.hid ((hb9.block gb (blk_lt_ UX.out)).trans UX.out); clear hb9) | (go_at_call 20; (with_reducible refine (HWay2.out (w6.alloc (.cells #[.int .i64 0, .string (⟨#[]⟩ : ByteArray), .int .i64 0, .int .i64 0, .string (⟨#[]⟩ : ByteArray), .int .i64 0, .int .i64 0] 25)).drew VD.out.1 VD.out.2).mono ?_); rintro e w9 ⟨rfl, ⟨m0, m1⟩, hb9⟩; have HB9 := Lib.hid (VB.out.trans (hb9.mono VB.out.size)); have HX9 := Lib.hid ((hb9.block gb (blk_lt_ VX.out)).trans VX.out); have HP9 := Lib.hid ((hb9.block w6.heap.size (blk_lt_ VP.out)).trans VP.out); clear hb9) | (go_at_fn M; (with_reducible refine (HTok2.out w9 m0 m1).mono ?_); rintro e w10 ⟨rfl, ⟨l0, l1⟩, hb10⟩; have HB10 := Lib.hid (HB9.out.trans (hb10.mono HB9.out.size)); have HX10 := Lib.hid ((hb10.block gb (blk_lt_ HX9.out)).trans HX9.out); (try (have p10 := (hb10.block w6.heap.size (blk_lt_ HP9.out)).trans HP9.out; obtain ⟨⟨z0, z1, z2, z3, z4, z5, z6⟩, zf⟩ := cells7 p10; have HP10 := Lib.hid p10; clear p10)); clear hb10) | (go_at_fn M; (with_reducible refine (HTok2.out (w9.alloc (.cells #[.int .i64 0, .string (⟨#[]⟩ : ByteArray), .int .i64 0, .int .i64 0, .string (⟨#[]⟩ : ByteArray), .int .i64 0, .int .i64 0] 25)) (cell_alloc_ m0) (cell_alloc_ m1)).mono ?_); rintro e w10 ⟨rfl, ⟨l0, l1⟩, hb10⟩; have HB10 := Lib.hid ((HB9.out.alloc HB9.out.size (.cells #[.int .i64 0, .string (⟨#[]⟩ : ByteArray), .int .i64 0, .int .i64 0, .string (⟨#[]⟩ : ByteArray), .int .i64 0, .int .i64 0] 25)).trans (hb10.mono (by have := HB9.out.size; simp; omega))); have HX10 := Lib.hid ((hb10.block gb (by have := blk_lt_ HX9.out; simp; omega)).trans ((Below.heap_alloc w9 (.cells #[.int .i64 0, .string (⟨#[]⟩ : ByteArray), .int .i64 0, .int .i64 0, .string (⟨#[]⟩ : ByteArray), .int .i64 0, .int .i64 0] 25) gb (blk_lt_ HX9.out)).trans HX9.out)); have p10 := (hb10.block w9.heap.size (by simp)).trans (O8.out w9); obtain ⟨⟨z0, z1, z2, z3, z4, z5, z6⟩, zf⟩ := cells7 p10; have HP10 := Lib.hid p10; clear p10; clear hb10))
     ·
      have F8 := heap_new_ w10 (.cells #[.int .i64 q1, .string q2, .int .i64 q3, .int .i64 q4, .string q5, .int .i64 q6, .int .i64 q7] 25)
      have FX := (Below.heap_alloc w10 (.cells #[.int .i64 q1, .string q2, .int .i64 q3, .int .i64 q4, .string q5, .int .i64 q6, .int .i64 q7] 25) gb (blk_lt_ HX10.out)).trans HX10.out
      have FB := HB10.out.alloc HB10.out.size (.cells #[.int .i64 q1, .string q2, .int .i64 q3, .int .i64 q4, .string q5, .int .i64 q6, .int .i64 q7] 25)
      revert F8 FX FB
      generalize w10.alloc (.cells #[.int .i64 q1, .string q2, .int .i64 q3, .int .i64 q4, .string q5, .int .i64 q6, .int .i64 q7] 25) = Wf
      generalize w10.heap.size = g8
      intro F8 FX FB
      clear u0 u1 m0 m1 l0 l1
      obtain ⟨⟨z0, z1, z2, z3, z4, z5, z6⟩, zf⟩ := cells7 F8
      obtain ⟨⟨y0, y1, y2, y3, y4, y5, y6⟩, yf⟩ := cells7 FX
      have FXH := Lib.hid FX
      have FBH := Lib.hid FB
      clear F8 FX FB
      have hE := HE.out
      unfold next_end at hE
      by_cases hq : 0 ≤ q8
      ·
       simp only [if_pos hq, Prod.mk.injEq] at hE
       obtain ⟨rfl, rfl, rfl, rfl, rfl, rfl, rfl, rfl, rfl⟩ := hE
       have bq : decide (0 ≤ q8) = true := decide_eq_true hq
       go_wp2
       exact bodyPost_ret (results_ctt rfl _ _ gb 25 #[.int .i64 0, .string (⟨#[]⟩ : ByteArray), .int .i64 0, .int .i64 0, .string (⟨#[]⟩ : ByteArray), .int .i64 0, .int .i64 0] (0, 0) _ rfl (tok_end FXH.out _ _ _ _ _ _ _) Tryd.underlying25 rfl (by kernel_rfl)) rfl ⟨rfl, tok_below FBH.out (Nat.le_of_eq HG.out.symm) _ _ _ _ _ _ _⟩
      ·
       simp only [if_neg hq, Prod.mk.injEq] at hE
       obtain ⟨rfl, rfl, rfl, rfl, rfl, rfl, rfl, rfl, rfl⟩ := hE
       have bq : decide (0 ≤ q8) = false := decide_eq_false hq
       go_wp2
       exact bodyPost_ret (results_ctt rfl _ _ gb 25 #[.int .i64 q1, .string q2, .int .i64 q3, .int .i64 q4, .string q5, .int .i64 q6, .int .i64 q7] (0, 0) _ rfl (tok_end FXH.out _ _ _ _ _ _ _) Tryd.underlying25 rfl (by kernel_rfl)) rfl ⟨rfl, tok_below FBH.out (Nat.le_of_eq HG.out.symm) _ _ _ _ _ _ _⟩
     ·
      have F8 := tok_end HP10.out (.int .i64 q1) (.string q2) (.int .i64 q3) (.int .i64 q4) (.string q5) (.int .i64 q6) (.int .i64 q7)
      have FX := (set7_heap (Nat.ne_of_lt (blk_lt_ HX9.out)) (.int .i64 q1) (.string q2) (.int .i64 q3) (.int .i64 q4) (.string q5) (.int .i64 q6) (.int .i64 q7)).trans HX10.out
      have FB := tok_below HB10.out HB9.out.size (.int .i64 q1) (.string q2) (.int .i64 q3) (.int .i64 q4) (.string q5) (.int .i64 q6) (.int .i64 q7)
      clear z0 z1 z2 z3 z4 z5 z6 zf
      revert F8 FX FB
      generalize w9.heap.size = g8
      generalize World.setCell _ ⟨g8, 6, none⟩ (.int .i64 q7) = Wf
      intro F8 FX FB
      clear u0 u1 m0 m1 l0 l1
      obtain ⟨⟨z0, z1, z2, z3, z4, z5, z6⟩, zf⟩ := cells7 F8
      obtain ⟨⟨y0, y1, y2, y3, y4, y5, y6⟩, yf⟩ := cells7 FX
      have FXH := Lib.hid FX
      have FBH := Lib.hid FB
      clear F8 FX FB
      have hE := HE.out
      unfold next_end at hE
      by_cases hq : 0 ≤ q8
      ·
       simp only [if_pos hq, Prod.mk.injEq] at hE
       obtain ⟨rfl, rfl, rfl, rfl, rfl, rfl, rfl, rfl, rfl⟩ := hE
       have bq : decide (0 ≤ q8) = true := decide_eq_true hq
       go_wp2
       exact bodyPost_ret (results_ctt rfl _ _ gb 25 #[.int .i64 0, .string (⟨#[]⟩ : ByteArray), .int .i64 0, .int .i64 0, .string (⟨#[]⟩ : ByteArray), .int .i64 0, .int .i64 0] (0, 0) _ rfl (tok_end FXH.out _ _ _ _ _ _ _) Tryd.underlying25 rfl (by kernel_rfl)) rfl ⟨rfl, tok_below FBH.out (Nat.le_of_eq HG.out.symm) _ _ _ _ _ _ _⟩
      ·
       simp only [if_neg hq, Prod.mk.injEq] at hE
       obtain ⟨rfl, rfl, rfl, rfl, rfl, rfl, rfl, rfl, rfl⟩ := hE
       have bq : decide (0 ≤ q8) = false := decide_eq_false hq
       go_wp2
       exact bodyPost_ret (results_ctt rfl _ _ gb 25 #[.int .i64 q1, .string q2, .int .i64 q3, .int .i64 q4, .string q5, .int .i64 q6, .int .i64 q7] (0, 0) _ rfl (tok_end FXH.out _ _ _ _ _ _ _) Tryd.underlying25 rfl (by kernel_rfl)) rfl ⟨rfl, tok_below FBH.out (Nat.le_of_eq HG.out.symm) _ _ _ _ _ _ _⟩
     ·
      have F8 := tok_end HP10.out (.int .i64 q1) (.string q2) (.int .i64 q3) (.int .i64 q4) (.string q5) (.int .i64 q6) (.int .i64 q7)
      have FX := (set7_heap (Nat.ne_of_lt (blk_lt_ HX4.out)) (.int .i64 q1) (.string q2) (.int .i64 q3) (.int .i64 q4) (.string q5) (.int .i64 q6) (.int .i64 q7)).trans HX10.out
      have FB := tok_below HB10.out HB6.out.size (.int .i64 q1) (.string q2) (.int .i64 q3) (.int .i64 q4) (.string q5) (.int .i64 q6) (.int .i64 q7)
      clear z0 z1 z2 z3 z4 z5 z6 zf
      revert F8 FX FB
      generalize w6.heap.size = g8
      generalize World.setCell _ ⟨g8, 6, none⟩ (.int .i64 q7) = Wf
      intro F8 FX FB
      clear u0 u1 m0 m1 l0 l1
      obtain ⟨⟨z0, z1, z2, z3, z4, z5, z6⟩, zf⟩ := cells7 F8
      obtain ⟨⟨y0, y1, y2, y3, y4, y5, y6⟩, yf⟩ := cells7 FX
      have FXH := Lib.hid FX
      have FBH := Lib.hid FB
      clear F8 FX FB
      have hE := HE.out
      unfold next_end at hE
      by_cases hq : 0 ≤ q8
      ·
       simp only [if_pos hq, Prod.mk.injEq] at hE
       obtain ⟨rfl, rfl, rfl, rfl, rfl, rfl, rfl, rfl, rfl⟩ := hE
       have bq : decide (0 ≤ q8) = true := decide_eq_true hq
       go_wp2
       exact bodyPost_ret (results_ctt rfl _ _ gb 25 #[.int .i64 0, .string (⟨#[]⟩ : ByteArray), .int .i64 0, .int .i64 0, .string (⟨#[]⟩ : ByteArray), .int .i64 0, .int .i64 0] (0, 0) _ rfl (tok_end FXH.out _ _ _ _ _ _ _) Tryd.underlying25 rfl (by kernel_rfl)) rfl ⟨rfl, tok_below FBH.out (Nat.le_of_eq HG.out.symm) _ _ _ _ _ _ _⟩
      ·
       simp only [if_neg hq, Prod.mk.injEq] at hE
       obtain ⟨rfl, rfl, rfl, rfl, rfl, rfl, rfl, rfl, rfl⟩ := hE
       have bq : decide (0 ≤ q8) = false := decide_eq_false hq
       go_wp2
       exact bodyPost_ret (results_ctt rfl _ _ gb 25 #[.int .i64 q1, .string q2, .int .i64 q3, .int .i64 q4, .string q5, .int .i64 q6, .int .i64 q7] (0, 0) _ rfl (tok_end FXH.out _ _ _ _ _ _ _) Tryd.underlying25 rfl (by kernel_rfl)) rfl ⟨rfl, tok_below FBH.out (Nat.le_of_eq HG.out.symm) _ _ _ _ _ _ _⟩
end Go.Proofs.YtfaogccfiklinaaDoor.Q
