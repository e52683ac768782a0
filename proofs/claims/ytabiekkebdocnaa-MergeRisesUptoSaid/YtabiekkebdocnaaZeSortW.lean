/- The library's stable sort over a row of elements of k cells: walked once for any comparison that hands back a number; it may lay blocks of its own. -/
import Derived.Test.YtabiekkebdocnaaProg
import Derived.Test.YtabiekkebdocnaaZeStab
import Derived.Test.YtabiekkebdocnaaZeJ0
import Derived.Shelf.SlSortCmp.KitK
import Derived.Lib.Hide
import Derived.Outline
namespace Go.Proofs.Ytabiekkebdocnaa.Srt
open Go Go.Shelf Go.RowKit Go.Lib Go.Sort Go.Proofs
structure L (P : Program) (k : Nat) : Prop where
 mixed : P.follows .mixedOrders = true
 t0 : P.underlying 0 = some (TypeDesc.tuple #[])
 a0 : ∀ w, (isAgg 0).run P w = .ok false w
 z0 : ∀ w, (Go.sizeOf 0).run P w = .ok 1 w
 v0 : ∀ w, (zeroValue 0).run P w = .ok (Value.tuple #[]) w
 t3 : P.underlying 3 = some (TypeDesc.int IntKind.i64)
 a3 : ∀ w, (isAgg 3).run P w = .ok false w
 z3 : ∀ w, (Go.sizeOf 3).run P w = .ok 1 w
 v3 : ∀ w, (zeroValue 3).run P w = .ok (Value.int IntKind.i64 0) w
 t4 : P.underlying 4 = some (TypeDesc.bool)
 a4 : ∀ w, (isAgg 4).run P w = .ok false w
 z4 : ∀ w, (Go.sizeOf 4).run P w = .ok 1 w
 v4 : ∀ w, (zeroValue 4).run P w = .ok (Value.bool false) w
 t45 : P.underlying 90 = some (TypeDesc.int IntKind.u64)
 a45 : ∀ w, (isAgg 90).run P w = .ok false w
 z45 : ∀ w, (Go.sizeOf 90).run P w = .ok 1 w
 v45 : ∀ w, (zeroValue 90).run P w = .ok (Value.int IntKind.u64 0) w
 t22 : P.underlying 25 = some (TypeDesc.slice 39)
 a22 : ∀ w, (isAgg 25).run P w = .ok false w
 z22 : ∀ w, (Go.sizeOf 25).run P w = .ok 1 w
 v22 : ∀ w, (zeroValue 25).run P w = .ok (Value.slice none 0 0) w
 t25 : P.underlying 70 = some (TypeDesc.func #[39, 39] #[3] false)
 a25 : ∀ w, (isAgg 70).run P w = .ok false w
 z25 : ∀ w, (Go.sizeOf 70).run P w = .ok 1 w
 v25 : ∀ w, (zeroValue 70).run P w = .ok (Value.nilFunc) w
 aE : ∀ w, (isAgg 39).run P w = .ok true w
 zE : ∀ w, (Go.sizeOf 39).run P w = .ok k w
 fI : P.funcs[66]? = some Try.f66
 fW : P.funcs[71]? = some Try.f71
 fR : P.funcs[69]? = some Try.f69
 fM : P.funcs[67]? = some Try.f67
 fS : P.funcs[57]? = some Try.f57
section
variable {P : Program} {α : Type} [Inhabited α] {k : Nat} {enc : α → List Value} {w0 w : World} {blk off : Nat} {d0 : Array α} {cf : α → α → Int} {g : Nat} {cb : Array Value} {cap : Nat}
def Merged (enc : α → List Value) (k : Nat) (w0 : World) (blk off : Nat) (cf : α → α → Int) (p l q : List α) (w : World) : Prop := ∃ r, Stab (ltOf cf) l r ∧ SWB enc k w0 blk off (p ++ r ++ q).toArray w
def SymAt (P : Program) (k : Nat) (enc : α → List Value) (w0 : World) (blk off : Nat) (d0 : Array α) (cf : α → α → Int) (g : Nat) (cb : Array Value) (cap n : Nat) : Prop :=
 ∀ (p X Y q : List α) (w : World) (a m b : Int), 0 < X.length → 0 < Y.length → X.length + Y.length ≤ n → p.length + X.length + Y.length + q.length = d0.size →
  X.Pairwise (fun x y => ltOf cf y x = false) → Y.Pairwise (fun x y => ltOf cf y x = false) → SWB enc k w0 blk off (p ++ X ++ Y ++ q).toArray w → a = (p.length : Nat) → m = (p.length + X.length : Nat) → b = (p.length + X.length + Y.length : Nat) →
  Calls P 67 #[.slice (some ⟨blk, off, none⟩) d0.size cap, .int .i64 a, .int .i64 m, .int .i64 b, .func (.func g) #[] cb] w fun e w' => e = .returned (.tuple #[]) ∧ Merged enc k w0 blk off cf p (X ++ Y) q w'
theorem half_u (a b : Nat) (h : a + b < 9223372036854775808) : IntKind.u64.wrap ((a : Int) + (b : Int)) = (a : Int) + (b : Int) := by
 simp [IntKind.wrap, IntKind.bits, IntKind.signed]; omega
set_option maxHeartbeats 4000000 in
set_option maxRecDepth 1000000 in
theorem swr (H : L P k) (R : RowK enc k w0 blk off d0) (hN : d0.size < 4611686018427387904) (F : Value) (p u m v q : List α) (huv : u.length = v.length) (hs : p.length + u.length + m.length + v.length + q.length = d0.size)
  (S : SWB enc k w0 blk off (p ++ u ++ m ++ v ++ q).toArray w) (a b n : Int) (ha : a = (p.length : Nat)) (hb : b = (p.length + u.length + m.length : Nat)) (hn : n = (u.length : Nat)) :
  Calls P 71 #[.slice (some ⟨blk, off, none⟩) d0.size cap, .int .i64 a, .int .i64 b, .int .i64 n, F] w fun e w' => e = .returned (.tuple #[]) ∧ SWB enc k w0 blk off (p ++ v ++ m ++ u ++ q).toArray w' := by
 have mixed := H.mixed; have t0 := H.t0; have a0 := H.a0; have z0 := H.z0; have v0 := H.v0; have t3 := H.t3; have a3 := H.a3; have z3 := H.z3; have v3 := H.v3; have t4 := H.t4; have a4 := H.a4; have z4 := H.z4; have v4 := H.v4; have t22 := H.t22; have a22 := H.a22; have z22 := H.z22; have v22 := H.v22; have t25 := H.t25; have a25 := H.a25; have z25 := H.z25; have v25 := H.v25; have aE := H.aE; have zE := H.zE
 have u22 := run_underlying H.t22
 have FG := H.fW
 obtain ⟨A, hA⟩ : ∃ A : Nat, A = p.length := ⟨_, rfl⟩
 obtain ⟨B, hB⟩ : ∃ B : Nat, B = p.length + u.length + m.length := ⟨_, rfl⟩
 obtain ⟨U, hU⟩ : ∃ U : Nat, U = u.length := ⟨_, rfl⟩
 obtain rfl : a = (A : Int) := by rw [ha, hA]
 obtain rfl : b = (B : Int) := by rw [hb, hB]
 obtain rfl : n = (U : Int) := by rw [hn, hU]
 have S0 : Aside _ := S
 have HH : Hid (A = p.length ∧ B = p.length + u.length + m.length ∧ U = u.length ∧ u.length = v.length ∧ p.length + u.length + m.length + v.length + q.length = d0.size) := ⟨hA, hB, hU, huv, hs⟩
 have hUN : U < 4611686018427387904 := by omega
 clear S ha hb hn hA hB hU huv hs
 go_enter FG, Try.ntmps71
 go_wp2
 go_loopg [10] U (fun g1 vi wr => ∃ (i : Nat) (u1 u2 v1 v2 : List α), vi = .int .i64 i ∧ i ≤ U ∧ U - i ≤ g1 ∧ Hid (u = u1 ++ u2 ∧ v = v1 ++ v2 ∧ u1.length = i ∧ v1.length = i) ∧ Aside (SWB enc k w0 blk off (p ++ v1 ++ u2 ++ m ++ u1 ++ v2 ++ q).toArray wr))
 case atStart => exact ⟨0, [], u, [], v, by go_num, by omega, by omega, ⟨rfl, rfl, rfl, rfl⟩, by rw [show p ++ [] ++ u ++ m ++ [] ++ v ++ q = p ++ u ++ m ++ v ++ q by simp]; exact S0⟩
 case round =>
  clear S0
  obtain ⟨i, u1, u2, v1, v2, rfl, hiU, hg1, HI, S1⟩ := hrel
  obtain ⟨hA, hB, hU, huv, hs⟩ := HH.out
  obtain ⟨e1, e2, e3, e4⟩ := HI.out
  cases u2 with
  | nil =>
   have hl : v2 = [] := List.eq_nil_of_length_eq_zero (by rw [e1, e2] at huv; simp only [List.length_append, List.length_nil] at huv; omega)
   have hi : i = U := by rw [hU, e1]; simp [e3]
   have hlt : ¬ (i : Int) < (U : Int) := by omega
   have E : Hid (u = u1 ∧ v = v1 ∧ v2 = []) := ⟨by simpa using e1, by rw [e2, hl]; simp, hl⟩
   clear e1 e2 e3 e4 hl hi hA hB hU huv hs
   go_wp2
   go_end0
   refine ⟨rfl, ?_⟩
   have := S1.out
   rw [E.out.2.2, ← E.out.1, ← E.out.2.1] at this
   simpa using this
  | cons x u2 =>
   cases v2 with
   | nil => exfalso; rw [e1, e2] at huv; simp only [List.length_append, List.length_cons, List.length_nil] at huv; omega
   | cons y v2 =>
    have hul : u.length = i + 1 + u2.length := by rw [e1]; simp only [List.length_append, List.length_cons]; omega
    have hvl : v.length = i + 1 + v2.length := by rw [e2]; simp only [List.length_append, List.length_cons]; omega
    have hlt : (i : Int) < (U : Int) := by omega
    have el : p ++ v1 ++ x :: u2 ++ m ++ u1 ++ y :: v2 ++ q = (p ++ v1) ++ x :: ((u2 ++ m ++ u1) ++ y :: (v2 ++ q)) := by simp
    have er : p ++ (v1 ++ [y]) ++ u2 ++ m ++ (u1 ++ [x]) ++ v2 ++ q = (p ++ v1) ++ y :: ((u2 ++ m ++ u1) ++ x :: (v2 ++ q)) := by simp
    have S1' := S1.out
    rw [el] at S1'
    have hz : ((p ++ v1) ++ x :: ((u2 ++ m ++ u1) ++ y :: (v2 ++ q))).toArray.size = d0.size := by simp only [List.size_toArray, List.length_append, List.length_cons]; omega
    have hAi : A + i < d0.size := by omega
    have hBi : B + i < d0.size := by omega
    have S2 := S1'.swapped R (A + i) (B + i) (by rw [hz]; exact hAi) (by rw [hz]; exact hBi)
    have la := S1'.ld1 R hz P (A + i) (by rw [hz]; exact hAi)
    have lb := S1'.ld1 R hz P (B + i) (by rw [hz]; exact hBi)
    have ga : ((p ++ v1) ++ x :: ((u2 ++ m ++ u1) ++ y :: (v2 ++ q))).toArray[A + i]! = x := get_at _ _ _ _ (by simp only [List.length_append]; omega)
    have gb : ((p ++ v1) ++ x :: ((u2 ++ m ++ u1) ++ y :: (v2 ++ q))).toArray[B + i]! = y := by
     have e : (p ++ v1) ++ x :: ((u2 ++ m ++ u1) ++ y :: (v2 ++ q)) = ((p ++ v1) ++ x :: (u2 ++ m ++ u1)) ++ y :: (v2 ++ q) := by simp
     rw [e]; exact get_at _ _ _ _ (by simp only [List.length_append, List.length_cons]; omega)
    have sa := S1'.st1 R hz P (A + i) (by rw [hz]; exact hAi) y
    have sb := S1'.st2 R hz P (A + i) (B + i) (by rw [hz]; exact hAi) (by rw [hz]; exact hBi) y x
    rw [ga] at la S2
    rw [gb] at lb S2
    rw [swp_at (p ++ v1) x (u2 ++ m ++ u1) y (v2 ++ q) (A + i) (B + i) (by simp only [List.length_append]; omega) (by simp only [List.length_append]; omega), ← er] at S2
    have na : (enc x).length = k := R.hk _
    have nb : (enc y).length = k := R.hk _
    have HI2 : Hid (u = (u1 ++ [x]) ++ u2 ∧ v = (v1 ++ [y]) ++ v2 ∧ (u1 ++ [x]).length = i + 1 ∧ (v1 ++ [y]).length = i + 1) := ⟨by rw [e1]; simp, by rw [e2]; simp, by simp [e3], by simp [e4]⟩
    have ea : ((A : Int) + (i : Int)).toNat = A + i := by omega
    have pa : (0 : Int) ≤ (A : Int) + (i : Int) := by omega
    have ba : (A : Int) + (i : Int) < (d0.size : Int) := by omega
    have ra : IntKind.i64.wrap ((A : Int) + (i : Int)) = (A : Int) + (i : Int) := by rw [IntKind.wrap_i64]; omega
    have eb : ((B : Int) + (i : Int)).toNat = B + i := by omega
    have pb : (0 : Int) ≤ (B : Int) + (i : Int) := by omega
    have bb : (B : Int) + (i : Int) < (d0.size : Int) := by omega
    have rb : IntKind.i64.wrap ((B : Int) + (i : Int)) = (B : Int) + (i : Int) := by rw [IntKind.wrap_i64]; omega
    have SS : Aside _ := S2
    clear S1 S1' S2 HI e1 e2 e3 e4 hul hvl el er hz ga gb hA hB hU huv hs hAi hBi
    generalize enc x = cx at SS la sb na
    generalize enc y = cy at SS lb sa sb nb
    go_wp2_with fail
    go_big_region_o
    all_goals go_wp2
    go_roundg (U - (i + 1))
    case measure => omega
    case rel => exact ⟨i + 1, u1 ++ [x], u2, v1 ++ [y], v2, by go_num, by omega, by omega, HI2, SS⟩
set_option maxHeartbeats 4000000 in
set_option maxRecDepth 1000000 in
theorem rot (H : L P k) (R : RowK enc k w0 blk off d0) (hN : d0.size < 4611686018427387904) (F : Value) (p x y q : List α) (hx : 0 < x.length) (hy : 0 < y.length) (hs : p.length + x.length + y.length + q.length = d0.size)
  (S : SWB enc k w0 blk off (p ++ x ++ y ++ q).toArray w) (a m b : Int) (ha : a = (p.length : Nat)) (hm : m = (p.length + x.length : Nat)) (hb : b = (p.length + x.length + y.length : Nat)) :
  Calls P 69 #[.slice (some ⟨blk, off, none⟩) d0.size cap, .int .i64 a, .int .i64 m, .int .i64 b, F] w fun e w' => e = .returned (.tuple #[]) ∧ SWB enc k w0 blk off (p ++ y ++ x ++ q).toArray w' := by
 have mixed := H.mixed; have t0 := H.t0; have a0 := H.a0; have z0 := H.z0; have v0 := H.v0; have t3 := H.t3; have a3 := H.a3; have z3 := H.z3; have v3 := H.v3; have t4 := H.t4; have a4 := H.a4; have z4 := H.z4; have v4 := H.v4; have t22 := H.t22; have a22 := H.a22; have z22 := H.z22; have v22 := H.v22; have t25 := H.t25; have a25 := H.a25; have z25 := H.z25; have v25 := H.v25; have aE := H.aE; have zE := H.zE
 have eW : ∀ args w, (callFunc 71 args).run P w = .ok (.enter 71 args) w := enters_of H.fW (by kernel_rfl) rfl
 have FG := H.fR
 obtain ⟨A, hA⟩ : ∃ A : Nat, A = p.length := ⟨_, rfl⟩
 obtain ⟨M, hM⟩ : ∃ M : Nat, M = p.length + x.length := ⟨_, rfl⟩
 obtain ⟨B, hB⟩ : ∃ B : Nat, B = p.length + x.length + y.length := ⟨_, rfl⟩
 obtain rfl : a = (A : Int) := by rw [ha, hA]
 obtain rfl : m = (M : Int) := by rw [hm, hM]
 obtain rfl : b = (B : Int) := by rw [hb, hB]
 have S0 : Aside _ := S
 have HH : Hid (A = p.length ∧ M = p.length + x.length ∧ B = p.length + x.length + y.length ∧ p.length + x.length + y.length + q.length = d0.size ∧ 0 < x.length ∧ 0 < y.length) := ⟨hA, hM, hB, hs, hx, hy⟩
 have hMA : A ≤ M := by omega
 have hMB : M ≤ B := by omega
 have hBN : B < 4611686018427387904 := by omega
 clear S ha hb hm hA hB hM hs hx hy
 go_enter FG, Try.ntmps69
 go_wp2
 go_loopg [10, 11] (B - A) (fun g1 vi vj wr => ∃ (i j : Nat) (p1 x1 y1 q1 : List α), vi = .int .i64 i ∧ vj = .int .i64 j ∧ i ≤ M ∧ M + j < 4611686018427387904 ∧ i + j ≤ g1 ∧ Hid (i = x1.length ∧ j = y1.length ∧ 0 < i ∧ 0 < j ∧ M = p1.length + x1.length ∧ p1.length + x1.length + y1.length + q1.length = d0.size ∧ p1 ++ y1 ++ x1 ++ q1 = p ++ y ++ x ++ q) ∧ Aside (SWB enc k w0 blk off (p1 ++ x1 ++ y1 ++ q1).toArray wr))
 case atStart =>
  obtain ⟨hA, hM, hB, hs, hx, hy⟩ := HH.out
  exact ⟨M - A, B - M, p, x, y, q, by go_num, by go_num, by omega, by omega, by omega, ⟨by omega, by omega, by omega, by omega, hM, hs, rfl⟩, S0⟩
 case round =>
  clear S0
  obtain ⟨i, j, p1, x1, y1, q1, rfl, rfl, hiM, hjN, hg1, HI, S1⟩ := hrel
  obtain ⟨e1, e2, i0, j0, eM, es, eT⟩ := HI.out
  by_cases hij : i = j
  ·
   have hij1 : ((i : Int) == (j : Int)) = true := by rw [beq_iff_eq]; omega
   have hij2 : ((i : Int) != (j : Int)) = false := by rw [bne_eq_false_iff_eq]; omega
   have hc1 : x1.length = y1.length := by omega
   have hc2 : p1.length + x1.length + ([] : List α).length + y1.length + q1.length = d0.size := by simp only [List.length_nil]; omega
   have hc3 : (M : Int) - (i : Int) = (p1.length : Nat) := by omega
   have hc4 : (M : Int) = (p1.length + x1.length + ([] : List α).length : Nat) := by simp only [List.length_nil]; omega
   have hc5 : (i : Int) = (x1.length : Nat) := by omega
   have HC := Lib.hid (swr (cap := cap) (w := wr) H R hN F p1 x1 [] y1 q1 hc1 hc2 (by rw [List.append_nil]; exact S1.out) ((M : Int) - (i : Int)) (M : Int) (i : Int) hc3 hc4 hc5)
   clear e1 e2 i0 j0 eM es eT S1 hij hc1 hc2 hc3 hc4 hc5
   go_wp2_with (go_at_call 71; refine HC.out.mono ?_; rintro e w1 ⟨rfl, S3⟩)
   go_end0
   refine ⟨rfl, ?_⟩
   rw [← HI.out.2.2.2.2.2.2]
   rw [List.append_nil] at S3
   exact S3
  ·
   have hij1 : ((i : Int) == (j : Int)) = false := by rw [beq_eq_false_iff_ne]; omega
   have hij2 : ((i : Int) != (j : Int)) = true := by rw [bne_iff_ne]; omega
   by_cases hgt : j < i
   ·
    have hgtz : (j : Int) < (i : Int) := by omega
    obtain ⟨u, v, rfl, hu⟩ := part x1 j (by omega)
    rw [List.length_append] at e1 eM es
    have hc1 : u.length = y1.length := by omega
    have hc2 : p1.length + u.length + v.length + y1.length + q1.length = d0.size := by omega
    have hc3 : (M : Int) - (i : Int) = (p1.length : Nat) := by omega
    have hc4 : (M : Int) = (p1.length + u.length + v.length : Nat) := by omega
    have hc5 : (j : Int) = (u.length : Nat) := by omega
    have HC := Lib.hid (swr (cap := cap) (w := wr) H R hN F p1 u v y1 q1 hc1 hc2 (by rw [show p1 ++ u ++ v ++ y1 ++ q1 = p1 ++ (u ++ v) ++ y1 ++ q1 by simp]; exact S1.out) ((M : Int) - (i : Int)) (M : Int) (j : Int) hc3 hc4 hc5)
    have HI2 : Hid (i - j = v.length ∧ j = u.length ∧ 0 < i - j ∧ 0 < j ∧ M = (p1 ++ y1).length + v.length ∧ (p1 ++ y1).length + v.length + u.length + q1.length = d0.size ∧ (p1 ++ y1) ++ u ++ v ++ q1 = p ++ y ++ x ++ q) :=
     ⟨by omega, by omega, by omega, by omega, by rw [List.length_append]; omega, by rw [List.length_append]; omega, by rw [← eT]; simp⟩
    clear e1 e2 eM es eT S1 HI hij hu hc1 hc2 hc3 hc4 hc5 hgt
    go_wp2_with (go_at_call 71; refine HC.out.mono ?_; rintro e w1 ⟨rfl, S3⟩)
    have S4 : Aside _ := S3
    clear S3
    go_wp2
    go_roundg (i - j + j)
    case measure => omega
    case rel => exact ⟨i - j, j, p1 ++ y1, v, u, q1, by go_num, by go_num, by omega, by omega, by omega, HI2, S4⟩
   ·
    have hgtz : ¬ (j : Int) < (i : Int) := by omega
    obtain ⟨u, v, rfl, hu⟩ := part y1 (j - i) (by omega)
    rw [List.length_append] at e2 es
    have hc1 : x1.length = v.length := by omega
    have hc2 : p1.length + x1.length + u.length + v.length + q1.length = d0.size := by omega
    have hc3 : (M : Int) - (i : Int) = (p1.length : Nat) := by omega
    have hc4 : (M : Int) + (j : Int) - (i : Int) = (p1.length + x1.length + u.length : Nat) := by omega
    have hc5 : (i : Int) = (x1.length : Nat) := by omega
    have HC := Lib.hid (swr (cap := cap) (w := wr) H R hN F p1 x1 u v q1 hc1 hc2 (by rw [show p1 ++ x1 ++ u ++ v ++ q1 = p1 ++ x1 ++ (u ++ v) ++ q1 by simp]; exact S1.out) ((M : Int) - (i : Int)) ((M : Int) + (j : Int) - (i : Int)) (i : Int) hc3 hc4 hc5)
    have HI2 : Hid (i = v.length ∧ j - i = u.length ∧ 0 < i ∧ 0 < j - i ∧ M = p1.length + v.length ∧ p1.length + v.length + u.length + (x1 ++ q1).length = d0.size ∧ p1 ++ u ++ v ++ (x1 ++ q1) = p ++ y ++ x ++ q) :=
     ⟨by omega, by omega, by omega, by omega, by omega, by rw [List.length_append]; omega, by rw [← eT]; simp⟩
    have hji : i < j := by omega
    clear e1 e2 eM es eT S1 HI hu hij hc1 hc2 hc3 hc4 hc5 hgt
    go_wp2_with (go_at_call 71; refine HC.out.mono ?_; rintro e w1 ⟨rfl, S3⟩)
    have S4 : Aside (SWB enc k w0 blk off (p1 ++ v ++ u ++ (x1 ++ q1)).toArray w1) := by rw [show p1 ++ v ++ u ++ (x1 ++ q1) = p1 ++ v ++ u ++ x1 ++ q1 by simp]; exact S3
    clear S3
    go_wp2
    go_roundg (i + (j - i))
    case measure => omega
    case rel => exact ⟨i, j - i, p1, v, u, x1 ++ q1, by go_num, by go_num, by omega, by omega, by omega, HI2, S4⟩
end
end Go.Proofs.Ytabiekkebdocnaa.Srt
