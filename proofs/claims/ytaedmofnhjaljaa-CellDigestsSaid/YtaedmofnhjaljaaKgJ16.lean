/- Lemmas for this claim's walk: no condition of their own. -/
import Derived.Test.YtaedmofnhjaljaaKgSq
import Derived.Test.YtaedmofnhjaljaaKgQx0
import Derived.Test.YtaedmofnhjaljaaKgMurB
namespace Go.Proofs.Ytaedmofnhjaljaa.Q
open Go.RowKit Go.Proofs.YtaedmofnhjaljaaW.PrintWords Go.Proofs.YtaedmofnhjaljaaW.PrintLast Go.Proofs.YtaedmofnhjaljaaW.PrintMore
attribute [local go_sem] max2_int min2_int max_two min_two max_three min_three max_four min_four
set_option linter.unusedVariables false
set_option linter.unusedSimpArgs false
theorem eqA25 (d : Nat) (w : World) (x0 y0 : Int) (x1 y1 : Int) (x2 y2 : ByteArray) :
  (Op.equalIn (d + 2) 25 (.agg #[.int .i64 x0, .int .i64 x1, .string x2]) (.agg #[.int .i64 y0, .int .i64 y1, .string y2])).run Try.prog w = .ok (x0 == y0 && (x1 == y1 && (x2.toList == y2.toList))) w := by
 refine eqA_of Try.underlying25 (by kernel_rfl) ?_
 refine eqf_cons (by rfl) (by go_simp; rfl) (by go_simp; rfl) (by go_simp) ?_
 refine eqf_cons (by rfl) (by go_simp; rfl) (by go_simp; rfl) (by go_simp) ?_
 exact eqf_last (by rfl) (by go_simp; rfl) (by go_simp; rfl) (by go_simp)
end Go.Proofs.Ytaedmofnhjaljaa.Q
namespace Go.Proofs.Ytaedmofnhjaljaa.Q
open Go.RowKit Go.Proofs.YtaedmofnhjaljaaW.PrintWords Go.Proofs.YtaedmofnhjaljaaW.PrintLast Go.Proofs.YtaedmofnhjaljaaW.PrintMore
attribute [local go_sem] max2_int min2_int max_two min_two max_three min_three max_four min_four
set_option linter.unusedVariables false
set_option linter.unusedSimpArgs false
def murmur_Sum.f (l0 : List Int) (a1 : Int) : Option (Int × Int) := some (Mur.sumN l0 a1)
theorem murmur_Sum.calls (A0 : Option Addr) (c0 : Nat) (l0 : List Int) (a1 : Int) (r1 : Int) (r2 : Int) (w : World) (hr0 : Kd.C (Kd.int .u8) w A0 l0.length l0) (hc0 : l0.length ≤ c0) (h : murmur_Sum.f l0 a1 = some (r1, r2)) :
  Calls Try.prog 37 #[.slice A0 l0.length c0, .int .u64 a1] w fun e w' => e = .returned (.tuple #[.int .u64 r1, .int .u64 r2]) ∧ Below w.heap.size w w' := Mur.mur_sum A0 c0 l0 a1 r1 r2 w hr0 hc0 (Option.some.inj h)
end Go.Proofs.Ytaedmofnhjaljaa.Q
namespace Go.Proofs.Ytaedmofnhjaljaa.Q
open Go.RowKit Go.Proofs.YtaedmofnhjaljaaW.PrintWords Go.Proofs.YtaedmofnhjaljaaW.PrintLast Go.Proofs.YtaedmofnhjaljaaW.PrintMore
attribute [local go_sem] max2_int min2_int max_two min_two max_three min_three max_four min_four
set_option linter.unusedVariables false
set_option linter.unusedSimpArgs false
theorem eqA23 (d : Nat) (w : World) (x0 y0 : ByteArray) (x1 y1 : ByteArray) (x2 y2 : Int) (x3 y3 : ByteArray) :
  (Op.equalIn (d + 2) 23 (.agg #[.string x0, .string x1, .int .i64 x2, .string x3]) (.agg #[.string y0, .string y1, .int .i64 y2, .string y3])).run Try.prog w = .ok (x0.toList == y0.toList && (x1.toList == y1.toList && (x2 == y2 && (x3.toList == y3.toList)))) w := by
 refine eqA_of Try.underlying23 (by kernel_rfl) ?_
 refine eqf_cons (by rfl) (by go_simp; rfl) (by go_simp; rfl) (by go_simp) ?_
 refine eqf_cons (by rfl) (by go_simp; rfl) (by go_simp; rfl) (by go_simp) ?_
 refine eqf_cons (by rfl) (by go_simp; rfl) (by go_simp; rfl) (by go_simp) ?_
 exact eqf_last (by rfl) (by go_simp; rfl) (by go_simp; rfl) (by go_simp)
end Go.Proofs.Ytaedmofnhjaljaa.Q
namespace Go.Proofs.Ytaedmofnhjaljaa.Q
open Go.RowKit Go.Proofs.YtaedmofnhjaljaaW.PrintWords Go.Proofs.YtaedmofnhjaljaaW.PrintLast Go.Proofs.YtaedmofnhjaljaaW.PrintMore
attribute [local go_sem] max2_int min2_int max_two min_two max_three min_three max_four min_four
set_option linter.unusedVariables false
set_option linter.unusedSimpArgs false
theorem eqA27 (d : Nat) (w : World) (x0 y0 : Int) (x1 y1 : Bool) (x2 y2 : Int) (x3 y3 : Int) (x4 y4 : Int) (x5 y5 : ByteArray) :
  (Op.equalIn (d + 3) 27 (.agg #[.int .i64 x0, .bool x1, .int .i64 x2, .int .i64 x3, .int .i64 x4, .string x5]) (.agg #[.int .i64 y0, .bool y1, .int .i64 y2, .int .i64 y3, .int .i64 y4, .string y5])).run Try.prog w = .ok (x0 == y0 && (x1 == y1 && (x2 == y2 && ((x3 == y3 && (x4 == y4 && (x5.toList == y5.toList))))))) w := by
 refine eqA_of Try.underlying27 (by kernel_rfl) ?_
 refine eqf_cons (by rfl) (by go_simp; rfl) (by go_simp; rfl) (by go_simp) ?_
 refine eqf_cons (by rfl) (by go_simp; rfl) (by go_simp; rfl) (by go_simp) ?_
 refine eqf_cons (by rfl) (by go_simp; rfl) (by go_simp; rfl) (by go_simp) ?_
 exact eqf_last (by rfl) (by go_simp) (by go_simp) (eqA25 (d + 0) w _ _ _ _ _ _)
end Go.Proofs.Ytaedmofnhjaljaa.Q
namespace Go.Proofs.Ytaedmofnhjaljaa.Q
open Go.RowKit Go.Proofs.YtaedmofnhjaljaaW.PrintWords Go.Proofs.YtaedmofnhjaljaaW.PrintLast Go.Proofs.YtaedmofnhjaljaaW.PrintMore
attribute [local go_sem] max2_int min2_int max_two min_two max_three min_three max_four min_four
set_option linter.unusedVariables false
set_option linter.unusedSimpArgs false
def skerryref01_Put.l0 : Nat → Int → List Int → Option (List Int)
 | 0, _, _ => none
 | k + 1, x1, x5 => if x1 ≥ 128 then (if x5.length < 140737488355328 then (skerryref01_Put.l0 k (IntKind.u64.wrap (Int.tdiv x1 128)) (x5 ++ [((Int.tmod x1 128) + 128) % 256])) else (none)) else (if x5.length < 140737488355328 then (some (x5 ++ [(x1) % 256])) else (none))
def skerryref01_Put.f (k : Nat) (l0 : List Int) (a1 : Int) : Option (List Int) := (some (([] : List Int) : List Int)).bind fun y618 => (if y618.length + l0.length < 140737488355328 then (skerryref01_Put.l0 k a1 (y618 ++ l0)) else (none))
def skerryref01_PutText.f (k : Nat) (l0 : List Int) (a1 : ByteArray) : Option (List Int) := (skerryref01_Put.f k l0 (IntKind.u64.wrap ((a1.size : Int)))).bind fun t630 => (if t630.length + a1.size < 140737488355328 then (some (t630 ++ bytesOf a1)) else (none))
def skerryref01_Zig.f (a0 : Int) : Option (Int) := if a0 < 0 then (some (IntKind.u64.wrap ((IntKind.u64.wrap (2 * (IntKind.u64.wrap (wrap64 (-(wrap64 (a0 + 1))))))) + 1))) else (some (IntKind.u64.wrap (2 * (IntKind.u64.wrap (a0)))))
end Go.Proofs.Ytaedmofnhjaljaa.Q
namespace Go.Proofs.Ytaedmofnhjaljaa.Q
open Go.RowKit Go.Proofs.YtaedmofnhjaljaaW.PrintWords Go.Proofs.YtaedmofnhjaljaaW.PrintLast Go.Proofs.YtaedmofnhjaljaaW.PrintMore
attribute [local go_sem] max2_int min2_int max_two min_two max_three min_three max_four min_four
set_option linter.unusedVariables false
set_option linter.unusedSimpArgs false
def skerryref02_eight.l0 : Nat → List Int → Int → Int → Int → Option (Int)
 | 0, _, _, _, _ => none
 | k + 1, x0, x1, x5, x6 => if x6 < 8 then (if (wrap64 (x1 + x6)) < (x0.length : Int) then (if 0 ≤ (wrap64 (x1 + x6)) then (if 0 ≤ (IntKind.u64.wrap (wrap64 (8 * x6))) then (skerryref02_eight.l0 k x0 x1 (Go.bits .or .u64 x5 (shl .u64 (IntKind.u64.wrap (rd x0 (wrap64 (x1 + x6)))) (IntKind.u64.wrap (wrap64 (8 * x6))))) (wrap64 (x6 + 1))) else (none)) else (none)) else (some x5)) else (some x5)
def skerryref02_eight.f (k : Nat) (l0 : List Int) (a1 : Int) : Option (Int) := skerryref02_eight.l0 k l0 a1 0 0
def skerryref02_rotl.f (a0 : Int) (a1 : Int) : Option (Int) := if 0 ≤ a1 then (if 0 ≤ (IntKind.u64.wrap (64 - a1)) then (some (Go.bits .or .u64 (shl .u64 a0 a1) (shr .u64 a0 (IntKind.u64.wrap (64 - a1))))) else (none)) else (none)
def skerryref02_Mix.f (a0 : Int) : Option (Int) := some (Go.bits .xor .u64 (IntKind.u64.wrap ((Go.bits .xor .u64 (IntKind.u64.wrap ((Go.bits .xor .u64 a0 (a0 / 8589934592)) * 18397679294719823053)) ((IntKind.u64.wrap ((Go.bits .xor .u64 a0 (a0 / 8589934592)) * 18397679294719823053)) / 8589934592)) * 14181476777654086739)) ((IntKind.u64.wrap ((Go.bits .xor .u64 (IntKind.u64.wrap ((Go.bits .xor .u64 a0 (a0 / 8589934592)) * 18397679294719823053)) ((IntKind.u64.wrap ((Go.bits .xor .u64 a0 (a0 / 8589934592)) * 18397679294719823053)) / 8589934592)) * 14181476777654086739)) / 8589934592))
end Go.Proofs.Ytaedmofnhjaljaa.Q
namespace Go.Proofs.Ytaedmofnhjaljaa.Q
open Go.RowKit Go.Proofs.YtaedmofnhjaljaaW.PrintWords Go.Proofs.YtaedmofnhjaljaaW.PrintLast Go.Proofs.YtaedmofnhjaljaaW.PrintMore
attribute [local go_sem] max2_int min2_int max_two min_two max_three min_three max_four min_four
set_option linter.unusedVariables false
set_option linter.unusedSimpArgs false
def skerryref01_Cells.l0 : Nat → List Int → List (S29) → Int → Int → Option (List Int)
 | 0, _, _, _, _ => none
 | k + 1, x3, x11, x12, x13 => if x13 < x12 then (if 0 ≤ x13 then (if x13 < (x11.length : Int) then ((skerryref01_PutText.f k x3 ((rd_T29 x11 x13).f0.f0)).bind fun t641 => ((skerryref01_PutText.f k t641 ((rd_T29 x11 x13).f0.f1)).bind fun t644 => ((skerryref01_Zig.f ((rd_T29 x11 x13).f0.f2)).bind fun t647 => ((skerryref01_Put.f k t644 t647).bind fun t648 => ((skerryref01_PutText.f k t648 ((rd_T29 x11 x13).f0.f3)).bind fun t651 => ((skerryref01_Zig.f ((rd_T29 x11 x13).f1.f0)).bind fun t655 => ((skerryref01_Put.f k t651 t655).bind fun t656 => (if (rd_T29 x11 x13).f1.f1 = true then (if t656.length < 140737488355328 then ((skerryref01_Zig.f ((rd_T29 x11 x13).f1.f2)).bind fun t662 => ((skerryref01_Put.f k (t656 ++ [1]) t662).bind fun t663 => (skerryref01_Cells.l0 k t663 x11 x12 (wrap64 (x13 + 1))))) else (none)) else (if t656.length < 140737488355328 then ((skerryref01_Put.f k (t656 ++ [0]) (IntKind.u64.wrap ((rd_T29 x11 x13).f1.f3.f0))).bind fun t669 => ((skerryref01_Zig.f ((rd_T29 x11 x13).f1.f3.f1)).bind fun t672 => ((skerryref01_Put.f k t669 t672).bind fun t673 => ((skerryref01_PutText.f k t673 ((rd_T29 x11 x13).f1.f3.f2)).bind fun t676 => (skerryref01_Cells.l0 k t676 x11 x12 (wrap64 (x13 + 1))))))) else (none)))))))))) else (none)) else (none)) else (some x3)
def skerryref01_Cells.f (k : Nat) (l0 : List (S29)) : Option (List Int) := (skerryref01_Put.f k ([] : List Int) (IntKind.u64.wrap ((l0.length : Int)))).bind fun t636 => (skerryref01_Cells.l0 k t636 l0 (l0.length : Int) 0)
end Go.Proofs.Ytaedmofnhjaljaa.Q
namespace Go.Proofs.Ytaedmofnhjaljaa.Q
open Go.RowKit Go.Proofs.YtaedmofnhjaljaaW.PrintWords Go.Proofs.YtaedmofnhjaljaaW.PrintLast Go.Proofs.YtaedmofnhjaljaaW.PrintMore
attribute [local go_sem] max2_int min2_int max_two min_two max_three min_three max_four min_four
set_option linter.unusedVariables false
set_option linter.unusedSimpArgs false
mutual
def skerryref02_Sum.l0 : Nat → List Int → Int → Int → Int → Option (Int × Int)
 | 0, _, _, _, _ => none
 | k + 1, x0, x6, x7, x8 => if (wrap64 ((x0.length : Int) - x8)) ≥ 16 then ((skerryref02_eight.f k x0 x8).bind fun t604 => ((skerryref02_eight.f k x0 (wrap64 (x8 + 8))).bind fun t605 => ((skerryref02_rotl.f (IntKind.u64.wrap (t604 * 9782798678568883157)) 31).bind fun t606 => ((skerryref02_rotl.f (Go.bits .xor .u64 x6 (IntKind.u64.wrap (t606 * 5545529020109919103))) 27).bind fun t607 => ((skerryref02_rotl.f (IntKind.u64.wrap (t605 * 5545529020109919103)) 33).bind fun t608 => ((skerryref02_rotl.f (Go.bits .xor .u64 x7 (IntKind.u64.wrap (t608 * 9782798678568883157))) 31).bind fun t609 => (skerryref02_Sum.l0 k x0 (IntKind.u64.wrap ((IntKind.u64.wrap ((IntKind.u64.wrap (t607 + x7)) * 5)) + 1390208809)) (IntKind.u64.wrap ((IntKind.u64.wrap ((IntKind.u64.wrap (t609 + (IntKind.u64.wrap ((IntKind.u64.wrap ((IntKind.u64.wrap (t607 + x7)) * 5)) + 1390208809)))) * 5)) + 944331445)) (wrap64 (x8 + 16))))))))) else (if (wrap64 ((x0.length : Int) - x8)) > 8 then ((skerryref02_eight.f k x0 (wrap64 (x8 + 8))).bind fun t610 => ((skerryref02_rotl.f (IntKind.u64.wrap (t610 * 5545529020109919103)) 33).bind fun t611 => (skerryref02_Sum.j1 k x0 x6 (Go.bits .xor .u64 x7 (IntKind.u64.wrap (t611 * 9782798678568883157))) x8))) else (skerryref02_Sum.j1 k x0 x6 x7 x8))
def skerryref02_Sum.j1 : Nat → List Int → Int → Int → Int → Option (Int × Int)
 | 0, _, _, _, _ => none
 | k + 1, x0, x6, x7, x8 => if (wrap64 ((x0.length : Int) - x8)) > 0 then ((skerryref02_eight.f k x0 x8).bind fun t612 => ((skerryref02_rotl.f (IntKind.u64.wrap (t612 * 9782798678568883157)) 31).bind fun t613 => ((skerryref02_Mix.f (IntKind.u64.wrap ((Go.bits .xor .u64 (Go.bits .xor .u64 x6 (IntKind.u64.wrap (t613 * 5545529020109919103))) (IntKind.u64.wrap ((x0.length : Int)))) + (Go.bits .xor .u64 x7 (IntKind.u64.wrap ((x0.length : Int))))))).bind fun t614 => ((skerryref02_Mix.f (IntKind.u64.wrap ((Go.bits .xor .u64 x7 (IntKind.u64.wrap ((x0.length : Int)))) + (IntKind.u64.wrap ((Go.bits .xor .u64 (Go.bits .xor .u64 x6 (IntKind.u64.wrap (t613 * 5545529020109919103))) (IntKind.u64.wrap ((x0.length : Int)))) + (Go.bits .xor .u64 x7 (IntKind.u64.wrap ((x0.length : Int))))))))).bind fun t615 => (some (IntKind.u64.wrap (t614 + t615), IntKind.u64.wrap (t615 + (IntKind.u64.wrap (t614 + t615))))))))) else ((skerryref02_Mix.f (IntKind.u64.wrap ((Go.bits .xor .u64 x6 (IntKind.u64.wrap ((x0.length : Int)))) + (Go.bits .xor .u64 x7 (IntKind.u64.wrap ((x0.length : Int))))))).bind fun t616 => ((skerryref02_Mix.f (IntKind.u64.wrap ((Go.bits .xor .u64 x7 (IntKind.u64.wrap ((x0.length : Int)))) + (IntKind.u64.wrap ((Go.bits .xor .u64 x6 (IntKind.u64.wrap ((x0.length : Int)))) + (Go.bits .xor .u64 x7 (IntKind.u64.wrap ((x0.length : Int))))))))).bind fun t617 => (some (IntKind.u64.wrap (t616 + t617), IntKind.u64.wrap (t617 + (IntKind.u64.wrap (t616 + t617)))))))
end
def skerryref02_Sum.f (k : Nat) (l0 : List Int) (a1 : Int) : Option (Int × Int) := skerryref02_Sum.l0 k l0 a1 a1 0
end Go.Proofs.Ytaedmofnhjaljaa.Q
