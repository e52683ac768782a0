/- Lemmas for this claim's walk: no condition of their own. -/
import Derived.Test.YtafhnjlihhfoaaaUbJ13
import Derived.Test.YtafhnjlihhfoaaaUbQx0
import Derived.Test.YtafhnjlihhfoaaaUbJ15
namespace Go.Proofs.Ytafhnjlihhfoaaa.Q
open Go.RowKit Go.Proofs.YtafhnjlihhfoaaaW.PrintWords Go.Proofs.YtafhnjlihhfoaaaW.PrintLast Go.Proofs.YtafhnjlihhfoaaaW.PrintMore
attribute [local go_sem] max2_int min2_int max_two min_two max_three min_three max_four min_four
set_option linter.unusedVariables false
set_option linter.unusedSimpArgs false
mutual
def skerryref02_Sum.l0 : Nat → List Int → Int → Int → Int → Option (Int × Int)
 | 0, _, _, _, _ => none
 | k + 1, x0, x6, x7, x8 => if (wrap64 ((x0.length : Int) - x8)) ≥ 16 then ((skerryref02_eight.f k x0 x8).bind fun t285 => ((skerryref02_eight.f k x0 (wrap64 (x8 + 8))).bind fun t286 => ((skerryref02_rotl.f (IntKind.u64.wrap (t285 * 9782798678568883157)) 31).bind fun t287 => ((skerryref02_rotl.f (Go.bits .xor .u64 x6 (IntKind.u64.wrap (t287 * 5545529020109919103))) 27).bind fun t288 => ((skerryref02_rotl.f (IntKind.u64.wrap (t286 * 5545529020109919103)) 33).bind fun t289 => ((skerryref02_rotl.f (Go.bits .xor .u64 x7 (IntKind.u64.wrap (t289 * 9782798678568883157))) 31).bind fun t290 => (skerryref02_Sum.l0 k x0 (IntKind.u64.wrap ((IntKind.u64.wrap ((IntKind.u64.wrap (t288 + x7)) * 5)) + 1390208809)) (IntKind.u64.wrap ((IntKind.u64.wrap ((IntKind.u64.wrap (t290 + (IntKind.u64.wrap ((IntKind.u64.wrap ((IntKind.u64.wrap (t288 + x7)) * 5)) + 1390208809)))) * 5)) + 944331445)) (wrap64 (x8 + 16))))))))) else (if (wrap64 ((x0.length : Int) - x8)) > 8 then ((skerryref02_eight.f k x0 (wrap64 (x8 + 8))).bind fun t291 => ((skerryref02_rotl.f (IntKind.u64.wrap (t291 * 5545529020109919103)) 33).bind fun t292 => (skerryref02_Sum.j1 k x0 x6 (Go.bits .xor .u64 x7 (IntKind.u64.wrap (t292 * 9782798678568883157))) x8))) else (skerryref02_Sum.j1 k x0 x6 x7 x8))
def skerryref02_Sum.j1 : Nat → List Int → Int → Int → Int → Option (Int × Int)
 | 0, _, _, _, _ => none
 | k + 1, x0, x6, x7, x8 => if (wrap64 ((x0.length : Int) - x8)) > 0 then ((skerryref02_eight.f k x0 x8).bind fun t293 => ((skerryref02_rotl.f (IntKind.u64.wrap (t293 * 9782798678568883157)) 31).bind fun t294 => ((skerryref02_Mix.f (IntKind.u64.wrap ((Go.bits .xor .u64 (Go.bits .xor .u64 x6 (IntKind.u64.wrap (t294 * 5545529020109919103))) (IntKind.u64.wrap ((x0.length : Int)))) + (Go.bits .xor .u64 x7 (IntKind.u64.wrap ((x0.length : Int))))))).bind fun t295 => ((skerryref02_Mix.f (IntKind.u64.wrap ((Go.bits .xor .u64 x7 (IntKind.u64.wrap ((x0.length : Int)))) + (IntKind.u64.wrap ((Go.bits .xor .u64 (Go.bits .xor .u64 x6 (IntKind.u64.wrap (t294 * 5545529020109919103))) (IntKind.u64.wrap ((x0.length : Int)))) + (Go.bits .xor .u64 x7 (IntKind.u64.wrap ((x0.length : Int))))))))).bind fun t296 => (some (IntKind.u64.wrap (t295 + t296), IntKind.u64.wrap (t296 + (IntKind.u64.wrap (t295 + t296))))))))) else ((skerryref02_Mix.f (IntKind.u64.wrap ((Go.bits .xor .u64 x6 (IntKind.u64.wrap ((x0.length : Int)))) + (Go.bits .xor .u64 x7 (IntKind.u64.wrap ((x0.length : Int))))))).bind fun t297 => ((skerryref02_Mix.f (IntKind.u64.wrap ((Go.bits .xor .u64 x7 (IntKind.u64.wrap ((x0.length : Int)))) + (IntKind.u64.wrap ((Go.bits .xor .u64 x6 (IntKind.u64.wrap ((x0.length : Int)))) + (Go.bits .xor .u64 x7 (IntKind.u64.wrap ((x0.length : Int))))))))).bind fun t298 => (some (IntKind.u64.wrap (t297 + t298), IntKind.u64.wrap (t298 + (IntKind.u64.wrap (t297 + t298)))))))
end
def skerryref02_Sum.f (k : Nat) (l0 : List Int) (a1 : Int) : Option (Int × Int) := skerryref02_Sum.l0 k l0 a1 a1 0
set_option maxHeartbeats 8000000 in
set_option maxRecDepth 100000 in
theorem skerryref02_Sum.calls (k : Nat) (A0 : Option Addr) (c0 : Nat) (l0 : List Int) (a1 : Int) (r1 : Int) (r2 : Int) (w : World) (hr0 : Kd.C (Kd.int .u8) w A0 l0.length l0) (hc0 : l0.length ≤ c0) (h : skerryref02_Sum.f k l0 a1 = some (r1, r2)) :
  Calls Try.prog 33 #[.slice A0 l0.length c0, .int .u64 a1] w fun e w' => e = .returned (.tuple #[.int .u64 r1, .int .u64 r2]) ∧ Drawn0 w w' := by
 have HR0 := Aside0.mk hr0
 have HC0 := Aside0.mk hc0
 clear hr0 hc0
 have H : (skerryref02_Sum.l0 k l0 a1 a1 0) = some (r1, r2) := h
 clear h
 have H' := Aside0.mk H
 clear H
 go_enter Try.func33, Try.ntmps33
 go_wp2
 go_loopg [6, 7, 8] k (fun kq v6 v7 v8 w' => ∃ (x6_1 : Int) (x7_1 : Int) (x8_1 : Int), v6 = .int .u64 x6_1 ∧ v7 = .int .u64 x7_1 ∧ v8 = .int .i64 x8_1 ∧ Aside0 (skerryref02_Sum.l0 kq l0 x6_1 x7_1 x8_1 = some (r1, r2)) ∧ Aside0 (kq ≤ k) ∧ Drawn0 w w')
 case atStart => exact ⟨(a1), (a1), (0), (by first | rfl | (simp; done) | (simp [bne, *]; done)), (by first | rfl | (simp; done) | (simp [bne, *]; done)), (by first | rfl | (simp; done) | (simp [bne, *]; done)), H', ⟨Nat.le_refl _⟩, by repeat (first | exact Drawn0.refl _ | apply Drawn0.step)⟩
 case round =>
  clear H'
  try clear p2
  obtain ⟨x6_1, x7_1, x8_1, rfl, rfl, rfl, HA, HK1, ⟨m1, rfl⟩⟩ := hrel
  cases gk with
  | zero => exact absurd HA.out (by simp [skerryref02_Sum.l0])
  | succ k1 =>
   have H := HA.out
   clear HA
   simp only [skerryref02_Sum.l0] at H
   by_cases c3 : (wrap64 ((l0.length : Int) - x8_1)) ≥ 16
   ·
    rw [if_pos c3] at H
    have c3b0 : decide (16 ≤ (wrap64 ((l0.length : Int) - x8_1))) = true := decide_eq_true c3
    clear c3
    replace H := Option.bind_eq_some_iff.mp H
    obtain ⟨t285, A40, H⟩ := H
    have A4 := Aside0.mk A40
    clear A40
    replace H := Option.bind_eq_some_iff.mp H
    obtain ⟨t286, A50, H⟩ := H
    have A5 := Aside0.mk A50
    clear A50
    replace H := Option.bind_eq_some_iff.mp H
    obtain ⟨t287, A60, H⟩ := H
    have A6 := Aside0.mk A60
    clear A60
    replace H := Option.bind_eq_some_iff.mp H
    obtain ⟨t288, A70, H⟩ := H
    have A7 := Aside0.mk A70
    clear A70
    replace H := Option.bind_eq_some_iff.mp H
    obtain ⟨t289, A80, H⟩ := H
    have A8 := Aside0.mk A80
    clear A80
    replace H := Option.bind_eq_some_iff.mp H
    obtain ⟨t290, A90, H⟩ := H
    have A9 := Aside0.mk A90
    clear A90
    have H' := Aside0.mk H
    clear H
    go_wp2_with (first | ((with_reducible refine gate_callee (f := 58) rfl ?_); refine goesL_ (some 22) rfl rfl Try.func58 (by kernel_rfl) rfl #[.slice A0 l0.length c0, .int .i64 x8_1] rfl (by (try simp only [mT_, mC_, mN_]); first | done | rfl) ?_; (with_reducible refine (skerryref02_eight.calls k1 _ _ l0 x8_1 t285 _ ?side1 ?side2 A4.out).mono ?_); (case side1 => repeat (first | exact HR0.out | (with_reducible refine Kd.C_alloc ?_ _) | (with_reducible refine Kd.C_drewN ?_ _) | (with_reducible refine Kd.C_drew ?_))); (case side2 => exact HC0.out); rintro e w' ⟨rfl, ⟨nd, rfl⟩⟩; refine ⟨_, rfl, ?_⟩) | ((with_reducible refine gate_callee (f := 58) rfl ?_); refine goesL_ (some 26) rfl rfl Try.func58 (by kernel_rfl) rfl #[.slice A0 l0.length c0, .int .i64 (wrap64 (x8_1 + 8))] rfl (by (try simp only [mT_, mC_, mN_]); first | done | rfl) ?_; (with_reducible refine (skerryref02_eight.calls k1 _ _ l0 (wrap64 (x8_1 + 8)) t286 _ ?side1 ?side2 A5.out).mono ?_); (case side1 => repeat (first | exact HR0.out | (with_reducible refine Kd.C_alloc ?_ _) | (with_reducible refine Kd.C_drewN ?_ _) | (with_reducible refine Kd.C_drew ?_))); (case side2 => exact HC0.out); rintro e w' ⟨rfl, ⟨nd, rfl⟩⟩; refine ⟨_, rfl, ?_⟩) | ((with_reducible refine gate_callee (f := 59) rfl ?_); refine goesL_ (some 30) rfl rfl Try.func59 (by kernel_rfl) rfl #[.int .u64 (IntKind.u64.wrap (t285 * 9782798678568883157)), .int .u64 31] rfl (by (try simp only [mT_, mC_, mN_]); first | done | rfl) ?_; (with_reducible refine (skerryref02_rotl.calls (IntKind.u64.wrap (t285 * 9782798678568883157)) 31 t287 _ A6.out).mono ?_); rintro e w' ⟨rfl, ⟨nd, rfl⟩⟩; refine ⟨_, rfl, ?_⟩) | ((with_reducible refine gate_callee (f := 59) rfl ?_); refine goesL_ (some 34) rfl rfl Try.func59 (by kernel_rfl) rfl #[.int .u64 (Go.bits .xor .u64 x6_1 (IntKind.u64.wrap (t287 * 5545529020109919103))), .int .u64 27] rfl (by (try simp only [mT_, mC_, mN_]); first | done | rfl) ?_; (with_reducible refine (skerryref02_rotl.calls (Go.bits .xor .u64 x6_1 (IntKind.u64.wrap (t287 * 5545529020109919103))) 27 t288 _ A7.out).mono ?_); rintro e w' ⟨rfl, ⟨nd, rfl⟩⟩; refine ⟨_, rfl, ?_⟩) | ((with_reducible refine gate_callee (f := 59) rfl ?_); refine goesL_ (some 42) rfl rfl Try.func59 (by kernel_rfl) rfl #[.int .u64 (IntKind.u64.wrap (t286 * 5545529020109919103)), .int .u64 33] rfl (by (try simp only [mT_, mC_, mN_]); first | done | rfl) ?_; (with_reducible refine (skerryref02_rotl.calls (IntKind.u64.wrap (t286 * 5545529020109919103)) 33 t289 _ A8.out).mono ?_); rintro e w' ⟨rfl, ⟨nd, rfl⟩⟩; refine ⟨_, rfl, ?_⟩) | ((with_reducible refine gate_callee (f := 59) rfl ?_); refine goesL_ (some 46) rfl rfl Try.func59 (by kernel_rfl) rfl #[.int .u64 (Go.bits .xor .u64 x7_1 (IntKind.u64.wrap (t289 * 9782798678568883157))), .int .u64 31] rfl (by (try simp only [mT_, mC_, mN_]); first | done | rfl) ?_; (with_reducible refine (skerryref02_rotl.calls (Go.bits .xor .u64 x7_1 (IntKind.u64.wrap (t289 * 9782798678568883157))) 31 t290 _ A9.out).mono ?_); rintro e w' ⟨rfl, ⟨nd, rfl⟩⟩; refine ⟨_, rfl, ?_⟩))
    go_roundg k1
    case measure => have := HK1.out; omega
    case rel => exact ⟨(IntKind.u64.wrap ((IntKind.u64.wrap ((IntKind.u64.wrap (t288 + x7_1)) * 5)) + 1390208809)), (IntKind.u64.wrap ((IntKind.u64.wrap ((IntKind.u64.wrap (t290 + (IntKind.u64.wrap ((IntKind.u64.wrap ((IntKind.u64.wrap (t288 + x7_1)) * 5)) + 1390208809)))) * 5)) + 944331445)), (wrap64 (x8_1 + 16)), (by first | rfl | (simp; done) | (simp [bne, *]; done)), (by first | rfl | (simp; done) | (simp [bne, *]; done)), (by first | rfl | (simp; done) | (simp [bne, *]; done)), H', ⟨by have := HK1.out; omega⟩, by repeat (first | exact Drawn0.refl _ | apply Drawn0.step)⟩
   ·
    rw [if_neg c3] at H
    have c3b0 : decide (16 ≤ (wrap64 ((l0.length : Int) - x8_1))) = false := decide_eq_false c3
    clear c3
    have HC10 := Aside0.mk H
    clear H
    go_upto_if 55 with (fail)
    go_cut [7] (fun v7 wc => ∃ (kq : Nat) (x7_9 : Int), v7 = .int .u64 x7_9 ∧ Aside0 (skerryref02_Sum.j1 kq l0 x6_1 x7_9 x8_1 = some (r1, r2)) ∧ Aside0 (kq ≤ k1) ∧ Drawn0 w wc)
    case first =>
     have H := HC10.out
     clear HC10
     by_cases c11 : (wrap64 ((l0.length : Int) - x8_1)) > 8
     rotate_left
     ·
      rw [if_neg c11] at H
      have c11b0 : decide (8 < (wrap64 ((l0.length : Int) - x8_1))) = false := decide_eq_false c11
      clear c11
      (first | rw [c11b0] | (simp only [i64_w, i32_w]; rw [c11b0]) | skip)
      have H' := Aside0.mk H
      clear H
      go_wp2
      go_meet
      case rel => exact ⟨_, (x7_1), (by first | rfl | (simp; done) | (simp [bne, *]; done)), H', ⟨by have := HK1.out; first | omega | exact Nat.le_refl _⟩, by repeat (first | exact Drawn0.refl _ | apply Drawn0.step)⟩
     rw [if_pos c11] at H
     have c11b0 : decide (8 < (wrap64 ((l0.length : Int) - x8_1))) = true := decide_eq_true c11
     clear c11
     (first | rw [c11b0] | (simp only [i64_w, i32_w]; rw [c11b0]) | skip)
     replace H := Option.bind_eq_some_iff.mp H
     obtain ⟨t291, A120, H⟩ := H
     have A12 := Aside0.mk A120
     clear A120
     replace H := Option.bind_eq_some_iff.mp H
     obtain ⟨t292, A130, H⟩ := H
     have A13 := Aside0.mk A130
     clear A130
     have H' := Aside0.mk H
     clear H
     go_wp2_with (first | ((with_reducible refine gate_callee (f := 58) rfl ?_); refine goesL_ (some 60) rfl rfl Try.func58 (by kernel_rfl) rfl #[.slice A0 l0.length c0, .int .i64 (wrap64 (x8_1 + 8))] rfl (by (try simp only [mT_, mC_, mN_]); first | done | rfl) ?_; (with_reducible refine (skerryref02_eight.calls k1 _ _ l0 (wrap64 (x8_1 + 8)) t291 _ ?side1 ?side2 A12.out).mono ?_); (case side1 => repeat (first | exact HR0.out | (with_reducible refine Kd.C_alloc ?_ _) | (with_reducible refine Kd.C_drewN ?_ _) | (with_reducible refine Kd.C_drew ?_))); (case side2 => exact HC0.out); rintro e w' ⟨rfl, ⟨nd, rfl⟩⟩; refine ⟨_, rfl, ?_⟩) | ((with_reducible refine gate_callee (f := 59) rfl ?_); refine goesL_ (some 62) rfl rfl Try.func59 (by kernel_rfl) rfl #[.int .u64 (IntKind.u64.wrap (t291 * 5545529020109919103)), .int .u64 33] rfl (by (try simp only [mT_, mC_, mN_]); first | done | rfl) ?_; (with_reducible refine (skerryref02_rotl.calls (IntKind.u64.wrap (t291 * 5545529020109919103)) 33 t292 _ A13.out).mono ?_); rintro e w' ⟨rfl, ⟨nd, rfl⟩⟩; refine ⟨_, rfl, ?_⟩))
     go_meet
     case rel => exact ⟨_, (Go.bits .xor .u64 x7_1 (IntKind.u64.wrap (t292 * 9782798678568883157))), (by first | rfl | (simp; done) | (simp [bne, *]; done)), H', ⟨by have := HK1.out; first | omega | exact Nat.le_refl _⟩, by repeat (first | exact Drawn0.refl _ | apply Drawn0.step)⟩
    case rest =>
     clear HC10
     try clear c1
     try clear p2
     try clear c3
     try clear c3b0
     try clear c5
     try clear p6
     try clear c11
     try clear c11b0
     try clear p2
     obtain ⟨kq, x7_9, rfl, HA, HJ9, ⟨mc9, rfl⟩⟩ := hcut
     cases kq with
     | zero => exact absurd HA.out (by simp [skerryref02_Sum.j1])
     | succ kj9 =>
      have H := HA.out
      clear HA
      simp only [skerryref02_Sum.j1] at H
      by_cases c14 : (wrap64 ((l0.length : Int) - x8_1)) > 0
      rotate_left
      ·
       rw [if_neg c14] at H
       have c14b0 : decide (0 < (wrap64 ((l0.length : Int) - x8_1))) = false := decide_eq_false c14
       clear c14
       replace H := Option.bind_eq_some_iff.mp H
       obtain ⟨t297, A190, H⟩ := H
       have A19 := Aside0.mk A190
       clear A190
       replace H := Option.bind_eq_some_iff.mp H
       obtain ⟨t298, A200, H⟩ := H
       have A20 := Aside0.mk A200
       clear A200
       simp only [Option.some.injEq, Prod.mk.injEq] at H
       obtain ⟨rfl, rfl⟩ := H
       go_wp2_with (first | ((with_reducible refine gate_callee (f := 60) rfl ?_); refine goesL_ (some 95) rfl rfl Try.func60 (by kernel_rfl) rfl #[.int .u64 (IntKind.u64.wrap ((Go.bits .xor .u64 x6_1 (IntKind.u64.wrap ((l0.length : Int)))) + (Go.bits .xor .u64 x7_9 (IntKind.u64.wrap ((l0.length : Int))))))] rfl (by (try simp only [mT_, mC_, mN_]); first | done | rfl) ?_; (with_reducible refine (skerryref02_Mix.calls (IntKind.u64.wrap ((Go.bits .xor .u64 x6_1 (IntKind.u64.wrap ((l0.length : Int)))) + (Go.bits .xor .u64 x7_9 (IntKind.u64.wrap ((l0.length : Int)))))) t297 _ A19.out).mono ?_); rintro e w' ⟨rfl, ⟨nd, rfl⟩⟩; refine ⟨_, rfl, ?_⟩) | ((with_reducible refine gate_callee (f := 60) rfl ?_); refine goesL_ (some 97) rfl rfl Try.func60 (by kernel_rfl) rfl #[.int .u64 (IntKind.u64.wrap ((Go.bits .xor .u64 x7_9 (IntKind.u64.wrap ((l0.length : Int)))) + (IntKind.u64.wrap ((Go.bits .xor .u64 x6_1 (IntKind.u64.wrap ((l0.length : Int)))) + (Go.bits .xor .u64 x7_9 (IntKind.u64.wrap ((l0.length : Int))))))))] rfl (by (try simp only [mT_, mC_, mN_]); first | done | rfl) ?_; (with_reducible refine (skerryref02_Mix.calls (IntKind.u64.wrap ((Go.bits .xor .u64 x7_9 (IntKind.u64.wrap ((l0.length : Int)))) + (IntKind.u64.wrap ((Go.bits .xor .u64 x6_1 (IntKind.u64.wrap ((l0.length : Int)))) + (Go.bits .xor .u64 x7_9 (IntKind.u64.wrap ((l0.length : Int)))))))) t298 _ A20.out).mono ?_); rintro e w' ⟨rfl, ⟨nd, rfl⟩⟩; refine ⟨_, rfl, ?_⟩))
       go_ret2
       exact ⟨by first | rfl | (simp; done) | (simp [*]; done), by repeat (first | exact Drawn0.refl _ | apply Drawn0.step)⟩
      rw [if_pos c14] at H
      have c14b0 : decide (0 < (wrap64 ((l0.length : Int) - x8_1))) = true := decide_eq_true c14
      clear c14
      replace H := Option.bind_eq_some_iff.mp H
      obtain ⟨t293, A150, H⟩ := H
      have A15 := Aside0.mk A150
      clear A150
      replace H := Option.bind_eq_some_iff.mp H
      obtain ⟨t294, A160, H⟩ := H
      have A16 := Aside0.mk A160
      clear A160
      replace H := Option.bind_eq_some_iff.mp H
      obtain ⟨t295, A170, H⟩ := H
      have A17 := Aside0.mk A170
      clear A170
      replace H := Option.bind_eq_some_iff.mp H
      obtain ⟨t296, A180, H⟩ := H
      have A18 := Aside0.mk A180
      clear A180
      simp only [Option.some.injEq, Prod.mk.injEq] at H
      obtain ⟨rfl, rfl⟩ := H
      go_wp2_with (first | ((with_reducible refine gate_callee (f := 58) rfl ?_); refine goesL_ (some 73) rfl rfl Try.func58 (by kernel_rfl) rfl #[.slice A0 l0.length c0, .int .i64 x8_1] rfl (by (try simp only [mT_, mC_, mN_]); first | done | rfl) ?_; (with_reducible refine (skerryref02_eight.calls kj9 _ _ l0 x8_1 t293 _ ?side1 ?side2 A15.out).mono ?_); (case side1 => repeat (first | exact HR0.out | (with_reducible refine Kd.C_alloc ?_ _) | (with_reducible refine Kd.C_drewN ?_ _) | (with_reducible refine Kd.C_drew ?_))); (case side2 => exact HC0.out); rintro e w' ⟨rfl, ⟨nd, rfl⟩⟩; refine ⟨_, rfl, ?_⟩) | ((with_reducible refine gate_callee (f := 59) rfl ?_); refine goesL_ (some 75) rfl rfl Try.func59 (by kernel_rfl) rfl #[.int .u64 (IntKind.u64.wrap (t293 * 9782798678568883157)), .int .u64 31] rfl (by (try simp only [mT_, mC_, mN_]); first | done | rfl) ?_; (with_reducible refine (skerryref02_rotl.calls (IntKind.u64.wrap (t293 * 9782798678568883157)) 31 t294 _ A16.out).mono ?_); rintro e w' ⟨rfl, ⟨nd, rfl⟩⟩; refine ⟨_, rfl, ?_⟩) | ((with_reducible refine gate_callee (f := 60) rfl ?_); refine goesL_ (some 95) rfl rfl Try.func60 (by kernel_rfl) rfl #[.int .u64 (IntKind.u64.wrap ((Go.bits .xor .u64 (Go.bits .xor .u64 x6_1 (IntKind.u64.wrap (t294 * 5545529020109919103))) (IntKind.u64.wrap ((l0.length : Int)))) + (Go.bits .xor .u64 x7_9 (IntKind.u64.wrap ((l0.length : Int))))))] rfl (by (try simp only [mT_, mC_, mN_]); first | done | rfl) ?_; (with_reducible refine (skerryref02_Mix.calls (IntKind.u64.wrap ((Go.bits .xor .u64 (Go.bits .xor .u64 x6_1 (IntKind.u64.wrap (t294 * 5545529020109919103))) (IntKind.u64.wrap ((l0.length : Int)))) + (Go.bits .xor .u64 x7_9 (IntKind.u64.wrap ((l0.length : Int)))))) t295 _ A17.out).mono ?_); rintro e w' ⟨rfl, ⟨nd, rfl⟩⟩; refine ⟨_, rfl, ?_⟩) | ((with_reducible refine gate_callee (f := 60) rfl ?_); refine goesL_ (some 97) rfl rfl Try.func60 (by kernel_rfl) rfl #[.int .u64 (IntKind.u64.wrap ((Go.bits .xor .u64 x7_9 (IntKind.u64.wrap ((l0.length : Int)))) + (IntKind.u64.wrap ((Go.bits .xor .u64 (Go.bits .xor .u64 x6_1 (IntKind.u64.wrap (t294 * 5545529020109919103))) (IntKind.u64.wrap ((l0.length : Int)))) + (Go.bits .xor .u64 x7_9 (IntKind.u64.wrap ((l0.length : Int))))))))] rfl (by (try simp only [mT_, mC_, mN_]); first | done | rfl) ?_; (with_reducible refine (skerryref02_Mix.calls (IntKind.u64.wrap ((Go.bits .xor .u64 x7_9 (IntKind.u64.wrap ((l0.length : Int)))) + (IntKind.u64.wrap ((Go.bits .xor .u64 (Go.bits .xor .u64 x6_1 (IntKind.u64.wrap (t294 * 5545529020109919103))) (IntKind.u64.wrap ((l0.length : Int)))) + (Go.bits .xor .u64 x7_9 (IntKind.u64.wrap ((l0.length : Int)))))))) t296 _ A18.out).mono ?_); rintro e w' ⟨rfl, ⟨nd, rfl⟩⟩; refine ⟨_, rfl, ?_⟩))
      go_ret2
      exact ⟨by first | rfl | (simp; done) | (simp [*]; done), by repeat (first | exact Drawn0.refl _ | apply Drawn0.step)⟩
end Go.Proofs.Ytafhnjlihhfoaaa.Q
