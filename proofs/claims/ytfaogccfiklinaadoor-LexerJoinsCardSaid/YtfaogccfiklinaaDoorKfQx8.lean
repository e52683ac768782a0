/- Lemmas for this claim's walk: no condition of their own. -/
import Derived.Test.YtfaogccfiklinaaDoorKfSq
import Derived.Test.YtfaogccfiklinaaDoorKfQx0
import Derived.Test.YtfaogccfiklinaaDoorKfQx3
import Derived.Test.YtfaogccfiklinaaDoorKfQx7
import Derived.Test.YtfaogccfiklinaaDoorKfJ12
namespace Go.Proofs.YtfaogccfiklinaaDoor.Q
open Go.RowKit Go.Proofs.YtfaogccfiklinaaDoorW.PrintWords Go.Proofs.YtfaogccfiklinaaDoorW.PrintLast Go.Proofs.YtfaogccfiklinaaDoorW.PrintMore
attribute [local go_sem] max2_int min2_int max_two min_two max_three min_three max_four min_four
set_option linter.unusedVariables false
set_option linter.unusedSimpArgs false
def blankR (r : Nat) : Bool := r == 32 || r == 9 || r == 10 || r == 13
def noteR (r : Nat) : Bool := r != 10
def wordR (r : Nat) : Bool := (decide (97 ≤ r) && decide (r ≤ 122)) || (decide (65 ≤ r) && decide (r ≤ 90)) || (decide (48 ≤ r) && decide (r ≤ 57)) || r == 95
def runOf (p : Nat → Bool) (s : ByteArray) : Int := if Lib.idxFunc p false s < 0 then (s.size : Int) else Lib.idxFunc p false s
theorem ret_rb_ {a b : Bool} (h : a = b) : Ending.returned (.bool a) = .returned (.bool b) := by rw [h]
theorem ret_ri_ {a b : Int} (h : a = b) : Ending.returned (.int .i64 a) = .returned (.int .i64 b) := by rw [h]
theorem lexer_blank1.pred (w : World) : Go.Proofs.PredAt Tryd.prog 26 #[] Go.Proofs.encR blankR w := fun W r _ => by
 unfold Go.Proofs.FnGives
 by_cases h1 : r = 32
 ·
  subst h1
  go_enter Tryd.func26, Tryd.ntmps26
  go_wp2
  go_ret
  exact ⟨ret_rb_ rfl, 0, rfl⟩
 ·
  by_cases h2 : r = 9
  ·
   subst h2
   go_enter Tryd.func26, Tryd.ntmps26
   go_wp2
   go_ret
   exact ⟨ret_rb_ rfl, 0, rfl⟩
  ·
   by_cases h3 : r = 10
   ·
    subst h3
    go_enter Tryd.func26, Tryd.ntmps26
    go_wp2
    go_ret
    exact ⟨ret_rb_ rfl, 0, rfl⟩
   ·
    by_cases h4 : r = 13
    ·
     subst h4
     go_enter Tryd.func26, Tryd.ntmps26
     go_wp2
     go_ret
     exact ⟨ret_rb_ rfl, 0, rfl⟩
    ·
     have b1 : ((r : Int) == 32) = false := by rw [beq_eq_false_iff_ne]; omega
     have b2 : ((r : Int) == 9) = false := by rw [beq_eq_false_iff_ne]; omega
     have b3 : ((r : Int) == 10) = false := by rw [beq_eq_false_iff_ne]; omega
     have b4 : ((r : Int) == 13) = false := by rw [beq_eq_false_iff_ne]; omega
     have H := Lib.hid (show blankR r = false by simp [blankR, h1, h2, h3, h4])
     clear h1 h2 h3 h4
     go_enter Tryd.func26, Tryd.ntmps26
     go_wp2
     go_ret
     exact ⟨ret_rb_ (by rw [H.out]), 0, rfl⟩
theorem lexer_blank2.pred (w : World) : Go.Proofs.PredAt Tryd.prog 28 #[] Go.Proofs.encR noteR w := fun W r _ => by
 unfold Go.Proofs.FnGives
 by_cases h1 : r = 10
 ·
  subst h1
  go_enter Tryd.func28, Tryd.ntmps28
  go_wp2
  go_ret
  exact ⟨ret_rb_ rfl, 0, rfl⟩
 ·
  have b1 : ((r : Int) == 10) = false := by rw [beq_eq_false_iff_ne]; omega
  have b2 : ((r : Int) != 10) = true := by rw [bne_iff_ne]; omega
  have H := Lib.hid (show noteR r = true by simp [noteR, h1])
  clear h1
  go_enter Tryd.func28, Tryd.ntmps28
  go_wp2
  go_ret
  exact ⟨ret_rb_ (by rw [H.out]), 0, rfl⟩
def letterB (r : Int) : Bool := (decide (97 ≤ r) && decide (r ≤ 122)) || (decide (65 ≤ r) && decide (r ≤ 90))
def digitB (r : Int) : Bool := decide (48 ≤ r) && decide (r ≤ 57)
theorem isLetter_f (r : Int) : lexer_isLetter.f r = some (letterB r) := by
 unfold lexer_isLetter.f letterB
 repeat' split
 all_goals (congr 1; simp [*])
theorem isDigit_f (r : Int) : lexer_isDigit.f r = some (digitB r) := by
 unfold lexer_isDigit.f digitB
 repeat' split
 all_goals (congr 1; simp [*])
theorem wordR_eq (r : Nat) : wordR r = (letterB r || digitB r || ((r : Int) == 95)) := by
 unfold wordR letterB digitB
 rw [Bool.eq_iff_iff]
 simp
 omega
theorem lexer_word1.pred (w : World) : Go.Proofs.PredAt Tryd.prog 46 #[] Go.Proofs.encR wordR w := fun W r _ => by
 unfold Go.Proofs.FnGives
 have HL := fun W => lexer_isLetter.calls (r : Int) (letterB r) W (isLetter_f _)
 have HD := fun W => lexer_isDigit.calls (r : Int) (digitB r) W (isDigit_f _)
 have HLH := Lib.hid HL
 have HDH := Lib.hid HD
 clear HL HD
 have H := Lib.hid (wordR_eq r)
 by_cases h1 : letterB r = true
 ·
  have H1 := Lib.hid h1
  clear h1
  go_enter Tryd.func46, Tryd.ntmps46
  go_wp2_with (go_at_call 33; refine (HLH.out _).mono ?_; rw [H1.out]; rintro e w' ⟨rfl, ⟨n, rfl⟩⟩)
  go_ret
  exact ⟨ret_rb_ (by rw [H.out, H1.out]; rfl), n, rfl⟩
 ·
  have H1 := Lib.hid (Bool.eq_false_iff.2 h1)
  clear h1
  by_cases h2 : digitB r = true
  ·
   have H2 := Lib.hid h2
   clear h2
   go_enter Tryd.func46, Tryd.ntmps46
   go_wp2_with (first | (go_at_call 33; refine (HLH.out _).mono ?_; rw [H1.out]; rintro e w' ⟨rfl, ⟨n, rfl⟩⟩) | (go_at_call 30; refine (HDH.out _).mono ?_; rw [H2.out]; rintro e w' ⟨rfl, ⟨m, rfl⟩⟩))
   go_ret
   exact ⟨ret_rb_ (by rw [H.out, H1.out, H2.out]; rfl), n + m, rfl⟩
  ·
   have H2 := Lib.hid (Bool.eq_false_iff.2 h2)
   clear h2
   have H3 := Lib.hid (show ((r : Int) == 95) = ((r : Int) == 95) from rfl)
   go_enter Tryd.func46, Tryd.ntmps46
   go_wp2_with (first | (go_at_call 33; refine (HLH.out _).mono ?_; rw [H1.out]; rintro e w' ⟨rfl, ⟨n, rfl⟩⟩) | (go_at_call 30; refine (HDH.out _).mono ?_; rw [H2.out]; rintro e w' ⟨rfl, ⟨m, rfl⟩⟩))
   go_ret
   exact ⟨ret_rb_ (by rw [H.out, H1.out, H2.out]; rfl), n + m, rfl⟩
theorem rest_f (t : ByteArray) (a : Int) (h0 : 0 ≤ a) (h1 : a ≤ t.size) : lexer_cutter_rest.f t a = some (t.extract a.toNat t.size) := by
 unfold lexer_cutter_rest.f; rw [if_pos h0, if_pos h1]
set_option maxHeartbeats 1000000 in
set_option maxRecDepth 100000 in
theorem run_any (g : Nat) (eg : ∀ args w, (callFunc g args).run Tryd.prog w = .ok (.enter g args) w) (p : Nat → Bool) (t : ByteArray) (a : Int) (w : World) (h0 : 0 ≤ a) (h1 : a ≤ t.size) (hs : t.size ≤ 9223372036854775807) (hp : ∀ W, Go.Proofs.PredAt Tryd.prog g #[] Go.Proofs.encR p W) :
  Calls Tryd.prog 25 #[.agg #[.string t, .int .i64 a], .func (.func g) #[] #[]] w fun e w' => e = .returned (.int .i64 (runOf p (t.extract a.toNat t.size))) ∧ Below w.heap.size w w' := by
 obtain ⟨s, hsE⟩ : ∃ s, t.extract a.toNat t.size = s := ⟨_, rfl⟩
 have hsz : (s.size : Int) = (t.size : Int) - a := by rw [← hsE]; simp [ByteArray.size_extract]; omega
 have HR := Lib.hid (fun W => lexer_cutter_rest.calls t a s W (by rw [rest_f t a h0 h1, hsE]))
 rw [hsE]
 clear hsE
 have HP := Lib.hid hp
 clear hp
 have HZ := Lib.hid hsz
 clear hsz
 have hA : Below w.heap.size w (w.alloc (.cells #[.string t, .int .i64 a] 48)) := (Below.refl _ w).alloc (Nat.le_refl _) _
 have HA := Lib.hid hA
 clear hA
 go_enter Tryd.func25, Tryd.ntmps25
 go_wp2_with (go_at_call 18; refine (HR.out _).mono ?_; rintro e w1 ⟨rfl, hb1⟩)
 have hlt : w.heap.size < w1.heap.size := Nat.lt_of_lt_of_le (by simp [World.alloc, -World.alloc_eq]) hb1.size
 have q0 : w1.cell? ⟨w.heap.size, 0, none⟩ = some (.string t) := (hb1.cell (p := ⟨w.heap.size, 0, none⟩) (by simp [World.alloc, -World.alloc_eq])).trans (by simp [World.cell?, World.alloc, -World.alloc_eq])
 have q1 : w1.cell? ⟨w.heap.size, 1, none⟩ = some (.int .i64 a) := (hb1.cell (p := ⟨w.heap.size, 1, none⟩) (by simp [World.alloc, -World.alloc_eq])).trans (by simp [World.cell?, World.alloc, -World.alloc_eq])
 have HB1 := Lib.hid (HA.out.trans (hb1.mono HA.out.size))
 have Q0 := Lib.hid q0
 have Q1 := Lib.hid q1
 clear hb1 q0 q1
 (try simp only [Act.put, List.setIfInBounds_toArray, List.set_cons_zero, List.set_cons_succ])
 go_loopg [] s.size (fun gf wx => ∃ pos : Nat, wx.heap[w1.heap.size]? = some (.stringIter s pos) ∧ Below w1.heap.size w1 wx ∧ Lib.idxFuncFrom p false s gf pos = Lib.idxFunc p false s ∧ s.size ≤ pos + gf)
 case atStart => exact ⟨0, World.iter_heap w1 s 0, (Below.refl _ w1).alloc (Nat.le_refl _) _, rfl, by omega⟩
 case round =>
  obtain ⟨pos, hit, hbw, hleft, hfu⟩ := hrel
  by_cases hps : pos < s.size
  rotate_left
  ·
   have hnx : ∀ ty, (Instr.next (.pointer (some ⟨w1.heap.size, 0, none⟩)) true ty).run Tryd.prog wr = _ := fun ty => Lib.run_next_end_at wr w1.heap.size s pos ty hit hps
   rw [Lib.idxFuncFrom_end p false s gk pos hps] at hleft
   have HL := Lib.hid hleft
   have q0 : wr.cell? ⟨w.heap.size, 0, none⟩ = some (.string t) := (hbw.cell (p := ⟨w.heap.size, 0, none⟩) hlt).trans Q0.out
   have q1 : wr.cell? ⟨w.heap.size, 1, none⟩ = some (.int .i64 a) := (hbw.cell (p := ⟨w.heap.size, 1, none⟩) hlt).trans Q1.out
   have HBW := Lib.hid hbw
   clear hleft hbw hit
   go_wp2
   go_ret
   exact ⟨ret_ri_ (by unfold runOf; rw [← HL.out]; rw [if_pos (by omega)]; have := HZ.out; omega), HB1.out.trans (HBW.out.mono HB1.out.size)⟩
  obtain ⟨g', rfl⟩ : ∃ g', gk = g' + 1 := ⟨gk - 1, by omega⟩
  have hnx : ∀ ty, (Instr.next (.pointer (some ⟨w1.heap.size, 0, none⟩)) true ty).run Tryd.prog wr = _ := fun ty => Lib.run_next_any_at wr w1.heap.size s pos ty hit hps
  have hwd := Lib.width_pos s pos
  obtain ⟨R, hR⟩ : ∃ R, (Utf8.decode s pos).1 = R := ⟨_, rfl⟩
  obtain ⟨K, hK⟩ : ∃ K, (Utf8.decode s pos).2 = K := ⟨_, rfl⟩
  simp only [Lib.idxFuncFrom, hps, if_true, hR, hK] at hleft
  rw [hR, hK] at hnx
  rw [hK] at hwd
  have hit2 := Lib.iterAt_heap wr w1.heap.size s pos (pos + K) hit
  have hbw2 := Lib.below_iterAt hbw (k := w1.heap.size) (Nat.le_refl _) s (pos + K)
  obtain ⟨W, hWd⟩ : ∃ W, wr.iterAt w1.heap.size s (pos + K) = W := ⟨_, rfl⟩
  rw [hWd] at hnx hit2 hbw2
  have cS : Calls Tryd.prog g (#[.int .i32 (R : Int)] ++ #[]) W _ := HP.out w1 W R hbw2
  have HB2 := Lib.hid hbw2
  have HI2 := Lib.hid hit2
  have HW := Lib.hid hwd
  clear hbw2 hit2 hWd hbw hit hwd hR hK
  cases hsp : p R <;> rw [hsp] at cS <;> simp only [hsp, if_true, Bool.false_eq_true, Bool.true_eq_false, if_false] at hleft
  ·
   have HL := Lib.hid hleft
   clear hleft hsp
   go_wp2_with (go_at_fn g; refine cS.mono ?_; rintro e W' ⟨rfl, q, rfl⟩)
   go_ret
   exact ⟨ret_ri_ (by unfold runOf; rw [← HL.out]; rw [if_neg (by omega)]), HB1.out.trans ((below_drewN' HB2.out q).mono HB1.out.size)⟩
  ·
   have HL := Lib.hid hleft
   clear hleft hsp
   go_wp2_with (go_at_fn g; refine cS.mono ?_; rintro e W' ⟨rfl, q, rfl⟩)
   go_roundg g'
   case measure => omega
   case rel => exact ⟨pos + K, HI2.out, below_drewN' HB2.out q, HL.out, by have := HW.out; omega⟩
def runGen (p : Nat → Bool) (t : ByteArray) (a : Int) : Option Int := if 0 ≤ a ∧ a ≤ t.size ∧ t.size ≤ 9223372036854775807 then some (runOf p (t.extract a.toNat t.size)) else none
def lexer_cutter_run_26.f (t : ByteArray) (a : Int) : Option Int := runGen blankR t a
def lexer_cutter_run_28.f (t : ByteArray) (a : Int) : Option Int := runGen noteR t a
def lexer_cutter_run_46.f (t : ByteArray) (a : Int) : Option Int := runGen wordR t a
theorem runGen_calls (g : Nat) (eg : ∀ args w, (callFunc g args).run Tryd.prog w = .ok (.enter g args) w) (p : Nat → Bool) (hp : ∀ W, Go.Proofs.PredAt Tryd.prog g #[] Go.Proofs.encR p W) (t : ByteArray) (a : Int) (r : Int) (w : World) (h : runGen p t a = some r) :
  Calls Tryd.prog 25 #[.agg #[.string t, .int .i64 a], .func (.func g) #[] #[]] w fun e w' => e = .returned (.int .i64 r) ∧ Below w.heap.size w w' := by
 unfold runGen at h
 split at h
 case isFalse => cases h
 rename_i hc
 obtain rfl := Option.some.inj h
 exact run_any g eg p t a w hc.1 hc.2.1 hc.2.2 hp
theorem lexer_cutter_run_26.calls (t : ByteArray) (a : Int) (r : Int) (w : World) (h : lexer_cutter_run_26.f t a = some r) :
  Calls Tryd.prog 25 #[.agg #[.string t, .int .i64 a], .func (.func 26) #[] #[]] w fun e w' => e = .returned (.int .i64 r) ∧ Below w.heap.size w w' :=
 runGen_calls _ (Go.Proofs.enters_of Tryd.func26 (by kernel_rfl) rfl) blankR lexer_blank1.pred t a r w h
theorem lexer_cutter_run_28.calls (t : ByteArray) (a : Int) (r : Int) (w : World) (h : lexer_cutter_run_28.f t a = some r) :
  Calls Tryd.prog 25 #[.agg #[.string t, .int .i64 a], .func (.func 28) #[] #[]] w fun e w' => e = .returned (.int .i64 r) ∧ Below w.heap.size w w' :=
 runGen_calls _ (Go.Proofs.enters_of Tryd.func28 (by kernel_rfl) rfl) noteR lexer_blank2.pred t a r w h
theorem lexer_cutter_run_46.calls (t : ByteArray) (a : Int) (r : Int) (w : World) (h : lexer_cutter_run_46.f t a = some r) :
  Calls Tryd.prog 25 #[.agg #[.string t, .int .i64 a], .func (.func 46) #[] #[]] w fun e w' => e = .returned (.int .i64 r) ∧ Below w.heap.size w w' :=
 runGen_calls _ (Go.Proofs.enters_of Tryd.func46 (by kernel_rfl) rfl) wordR lexer_word1.pred t a r w h
end Go.Proofs.YtfaogccfiklinaaDoor.Q
