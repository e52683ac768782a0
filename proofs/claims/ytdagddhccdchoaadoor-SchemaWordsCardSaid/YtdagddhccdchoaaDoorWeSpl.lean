/- strings.SplitSeq at a separator of one byte: what the iterator hands on, one by one. -/
import Derived.Test.YtdagddhccdchoaaDoorProg
import Derived.Test.YtdagddhccdchoaaDoorWeRf
import Derived.Shelf.Strings.Search1
import Derived.Lib.Hide
import Derived.Outline
namespace Go.Proofs.YtdagddhccdchoaaDoor.Spl
open Go Go.RowKit Go.Lib Go.Proofs Go.Proofs.YtdagddhccdchoaaDoor.Rf
set_option linter.unusedVariables false
set_option linter.unusedSimpArgs false
def laysIB_ren : Go.Shelf.Ren := ⟨fun | 217 => 73 | 266 => 83 | n => n, fun | 3 => 3 | 5 => 5 | 9 => 9 | n => n, fun | n => n⟩
theorem laysIB : Go.Proofs.Lays.n217 Tryd.prog laysIB_ren := {
 mixed := by kernel_rfl
 f217 := Tryd.func73.trans (congrArg some (by kernel_rfl))
 f266 := Tryd.func83.trans (congrArg some (by kernel_rfl))
 t3 := Tryd.underlying3
 a3 := Tryd.isAgg3
 z3 := Tryd.sizeOf3
 v3 := Tryd.zeroValue3
 t5 := Tryd.underlying5
 a5 := Tryd.isAgg5
 z5 := Tryd.sizeOf5
 v5 := Tryd.zeroValue5
 t9 := Tryd.underlying9
 a9 := Tryd.isAgg9
 z9 := Tryd.sizeOf9
 v9 := Tryd.zeroValue9 }
theorem ib_one (s : ByteArray) (c : Int) (w : World) : Calls Tryd.prog 73 #[.string s, .int .u8 c] w fun e w' => e = .returned (.int .i64 (Lib.indexByte s.data.toList c.toNat.toUInt8)) ∧ w' = w :=
 Any.stringslite_IndexByte laysIB s c w
theorem lite_one (s : ByteArray) (w : World) : Calls Tryd.prog 60 #[.string s, .string ⟨#[32]⟩] w fun e w' => e = .returned (.int .i64 (Lib.indexByte s.data.toList 32)) ∧ w' = w := by
 have HI := Lib.hid (ib_one s 32 w)
 go_enter Tryd.func60, Tryd.ntmps60
 go_wp2_with (go_at_call 73; refine HI.out.mono ?_; rintro e w1 ⟨rfl, rfl⟩)
 ·
  have h : ([32] == s.toList) = true := by assumption
  go_ret
  refine ⟨?_, rfl⟩
  have e : s.data.toList = [32] := by rw [← Lib.toList_data]; exact (beq_iff_eq.1 h).symm
  rw [e]
  rfl
 ·
  go_ret
  exact ⟨rfl, rfl⟩
theorem index_one (s : ByteArray) (w : World) : Calls Tryd.prog 54 #[.string s, .string ⟨#[32]⟩] w fun e w' => e = .returned (.int .i64 (Lib.indexByte s.data.toList 32)) ∧ w' = w := by
 have HI := Lib.hid (lite_one s w)
 go_enter Tryd.func54, Tryd.ntmps54
 go_wp2_with (go_at_call 60; refine HI.out.mono ?_; rintro e w1 ⟨rfl, rfl⟩)
 go_ret
 exact ⟨rfl, rfl⟩
def parts : Nat → ByteArray → List ByteArray
 | 0, s => [s]
 | k + 1, s => if Lib.indexByte s.data.toList 32 < 0 then [s] else s.extract 0 (Lib.indexByte s.data.toList 32).toNat :: parts k (s.extract (Lib.indexByte s.data.toList 32 + 1).toNat s.size)
def split (s : ByteArray) : List ByteArray := parts s.size s
theorem ib_lt (l : List UInt8) (c : UInt8) : Lib.indexByte l c = -1 ∨ (0 ≤ Lib.indexByte l c ∧ Lib.indexByte l c < l.length) := by
 induction l with
 | nil => exact .inl rfl
 | cons b l ih =>
  unfold Lib.indexByte
  split
  ·
   exact .inr ⟨Int.le_refl _, by simp⟩
  ·
   split
   ·
    exact .inl rfl
   ·
    rename_i h
    rcases ih with h1 | ⟨h1, h2⟩
    ·
     exact absurd (by simpa using h1) (by simpa using h)
    ·
     exact .inr ⟨by omega, by simp; omega⟩
theorem ib_range (s : ByteArray) : Lib.indexByte s.data.toList 32 < 0 ∨ (0 ≤ Lib.indexByte s.data.toList 32 ∧ Lib.indexByte s.data.toList 32 < s.size) := by
 have hl : s.data.toList.length = s.size := Array.length_toList
 rcases ib_lt s.data.toList 32 with h | ⟨h1, h2⟩
 ·
  left; omega
 ·
  right; omega
theorem parts_more (k : Nat) : ∀ (s : ByteArray), s.size ≤ k → parts (k + 1) s = parts k s := by
 induction k with
 | zero =>
  intro s hs
  have h : Lib.indexByte s.data.toList 32 < 0 := by have := ib_range s; omega
  simp only [parts, if_pos h]
 | succ k ih =>
  intro s hs
  conv => lhs; unfold parts
  conv => rhs; unfold parts
  split
  ·
   rfl
  ·
   rename_i h
   rw [ih]
   rw [ByteArray.size_extract]
   have := ib_range s
   omega
theorem parts_any : ∀ (k : Nat) (s : ByteArray), s.size ≤ k → parts k s = split s := by
 intro k
 induction k with
 | zero => intro s hs; unfold split; rw [show s.size = 0 by omega]
 | succ k ih =>
  intro s hs
  by_cases e : s.size = k + 1
  ·
   unfold split; rw [e]
  ·
   rw [parts_more k s (by omega)]; exact ih s (by omega)
theorem split_end (s : ByteArray) (h : Lib.indexByte s.data.toList 32 < 0) : split s = [s] := by
 rw [← parts_any (s.size + 1) s (by omega)]
 simp only [parts, if_pos h]
theorem split_on (s : ByteArray) (h : ¬ Lib.indexByte s.data.toList 32 < 0) : split s = s.extract 0 (Lib.indexByte s.data.toList 32).toNat :: split (s.extract (Lib.indexByte s.data.toList 32 + 1).toNat s.size) := by
 rw [← parts_any (s.size + 1) s (by omega)]
 simp only [parts, if_neg h]
 rw [parts_any]
 rw [ByteArray.size_extract]
 omega
def sizeAt (B : Nat) (w : World) : Nat := match w.cell? ⟨B, 0, none⟩ with
 | some (.string s) => s.size
 | _ => 0
attribute [local go_sem] Oper.semAt_some
set_option maxRecDepth 100000 in
set_option maxHeartbeats 2000000 in
theorem split_stops (n M n0 : Nat) (s : ByteArray) (w : World) (hn : 2 ≤ n) (hM : M + 2 < n0) (hn0 : n0 ≤ w.heap.size) (hs : s.size ≤ 4294967280) (c0 : w.cell? ⟨M, 0, none⟩ = some (.string s)) (f0 : w.frozen? ⟨M, 0, none⟩ = false) (c1 : w.cell? ⟨M + 1, 0, none⟩ = some (.string ⟨#[32]⟩)) (c2 : w.cell? ⟨M + 2, 0, none⟩ = some (.int .i64 0)) :
  SeqC Fence.wide n Tryd.prog 52 #[.pointer (some ⟨M + 1, 0, none⟩), .pointer (some ⟨M, 0, none⟩), .pointer (some ⟨M + 2, 0, none⟩)] (fun x : ByteArray => Value.string x) n0 M (split s) w := by
 intro l J Jx W hb _ _ hT hY h0
 have hn1 : 1 ≤ n := by omega
 have hI := fun (x : ByteArray) (W : World) => callsIn_wide (n := n - 1) |>.2 (index_one x W)
 have HI := Lib.hid hI
 clear hI
 have d0 := (hb.cell (p := ⟨M, 0, none⟩) (by simp; omega)).trans c0
 have d1 := (hb.cell (p := ⟨M + 1, 0, none⟩) (by simp; omega)).trans c1
 have d2 := (hb.cell (p := ⟨M + 2, 0, none⟩) (by simp; omega)).trans c2
 have e0 := (hb.frozen (p := ⟨M, 0, none⟩) (by simp; omega)).trans f0
 refine callsIn_of_wp Tryd.func52 rfl trivial ?_ rfl
 simp only [Tryd.ntmps52, List.size_toArray, List.length_cons, List.length_nil, Nat.reduceAdd, Nat.reduceSub, Array.replicate_succ, Array.replicate_zero, List.push_toArray, List.append_toArray, List.nil_append, List.cons_append]
 gi_wp2
 gi_loopw [] (fun wr => ∃ (pre : List ByteArray) (r : ByteArray), Hid (split s = pre ++ split r) ∧ r.size ≤ 4294967280 ∧ J pre wr ∧ wr.cell? ⟨M, 0, none⟩ = some (.string r) ∧ wr.frozen? ⟨M, 0, none⟩ = false ∧ wr.cell? ⟨M + 1, 0, none⟩ = some (.string ⟨#[32]⟩) ∧ wr.cell? ⟨M + 2, 0, none⟩ = some (.int .i64 0))
  (fun wr => sizeAt M wr)
 case atStart => exact ⟨[], s, Lib.hid rfl, hs, h0, d0, e0, d1, d2⟩
 case round =>
  obtain ⟨pre, r, HS, hr, hJ, g0, g1, g2, g3⟩ := hrel
  have hrg := ib_range r
  by_cases hneg : Lib.indexByte r.data.toList 32 < 0
  ·
   -- the last part
   have HE := split_end r hneg
   obtain ⟨fn, tmps, assign, body, hy, hR⟩ := hY pre r wr hJ (by rw [HS.out, HE]; exact List.prefix_rfl)
   have HX := Lib.hid HE
   have HW := Lib.hid hrg
   obtain ⟨ix, hix⟩ : ∃ ix, Lib.indexByte r.data.toList 32 = ix := ⟨_, rfl⟩
   have HIr := HI.out r
   rw [hix] at HIr hneg
   clear HE hrg hix
   gi_wp2_with (refine ⟨trivial, ?_⟩; gi_at_call 54; refine (HIr _).mono ?_; rintro e w' ⟨rfl, rfl⟩)
   refine hR.mono ?_
   rintro e W3 (⟨rfl, hJ3, hk3⟩ | ⟨rfl, hJx3⟩)
   ·
    gi_wp2
    go_end0
    exact ⟨⟨_, rfl⟩, .inl (by rw [HS.out, HX.out]; exact hJ3)⟩
   ·
    gi_wp2
    go_end0
    exact ⟨⟨_, rfl⟩, .inr ⟨_, by rw [HS.out, HX.out]; exact List.prefix_rfl, hJx3⟩⟩
  ·
   have HE := split_on r hneg
   obtain ⟨ix, hix⟩ : ∃ ix, Lib.indexByte r.data.toList 32 = ix := ⟨_, rfl⟩
   have HIr := HI.out r
   rw [hix] at HIr hneg HE hrg
   have x0 : 0 ≤ ix := by omega
   have x1 : ix < (r.size : Int) := by omega
   have x2 : ix ≤ (r.size : Int) := by omega
   have x3 : ix + 1 ≤ (r.size : Int) := by omega
   have x4 : 0 ≤ ix + 1 := by omega
   obtain ⟨fr, hfr⟩ : ∃ fr, r.extract 0 ix.toNat = fr := ⟨_, rfl⟩
   obtain ⟨r2, hr2⟩ : ∃ r2, r.extract (ix + 1).toNat r.size = r2 := ⟨_, rfl⟩
   have hsz : r2.size < r.size := by rw [← hr2, ByteArray.size_extract]; omega
   rw [hfr, hr2] at HE
   obtain ⟨fn, tmps, assign, body, hy, hR⟩ := hY pre fr wr hJ (by rw [HS.out, HE]; exact ⟨split r2, by simp⟩)
   have HX := Lib.hid HE
   have HF := Lib.hid hfr
   have HG := Lib.hid hr2
   have HZ := Lib.hid hsz
   clear HE hrg hix hr2 hsz
   rw [← hfr] at hy
   clear hfr
   gi_wp2_with (refine ⟨trivial, ?_⟩; gi_at_call 54; refine (HIr _).mono ?_; rintro e w' ⟨rfl, rfl⟩)
   refine hR.mono ?_
   rintro e W3 (⟨rfl, hJ3, hk3⟩ | ⟨rfl, hJx3⟩)
   ·
    have k0 := (hk3.cell (p := ⟨M, 0, none⟩) (by simp; omega)).trans g0
    have k1 := (hk3.cell (p := ⟨M + 1, 0, none⟩) (by simp; omega)).trans g2
    have k2 := (hk3.cell (p := ⟨M + 2, 0, none⟩) (by simp; omega)).trans g3
    have k3 := (hk3.frozen (p := ⟨M, 0, none⟩) (by simp; omega)).trans g1
    have hJ4 := fun v => hT _ _ v hJ3
    have HJ4 := Lib.hid hJ4
    have HK0 := Lib.hid (And.intro k0 (And.intro k1 (And.intro k2 k3)))
    clear hJ4 hJ3
    gi_wp2
    go_roundw
    case rel => exact ⟨pre ++ [fr], r2, Lib.hid (by rw [HS.out, HX.out]; simp), by have := HZ.out; omega, HJ4.out _, by rw [← HG.out]; exact World.cell?_setCell_same _ _ _ HK0.out.1, by rw [World.frozen?_setCell]; exact HK0.out.2.2.2, by rw [World.cell?_setCell_other _ _ _ _ (by simp)]; exact HK0.out.2.1, by rw [World.cell?_setCell_other _ _ _ _ (by simp)]; exact HK0.out.2.2.1⟩
    case measure =>
     have m1 : sizeAt M (W3.setCell ⟨M, 0, none⟩ (.string (r.extract (ix + 1).toNat r.size))) = r2.size := by unfold sizeAt; rw [World.cell?_setCell_same _ _ _ HK0.out.1, HG.out]
     have m2 : sizeAt M w' = r.size := by unfold sizeAt; rw [g0]
     rw [m1, m2]
     exact HZ.out
   ·
    gi_wp2
    refine bodyPost_ret (results_none rfl _ _ _) rfl ?_
    exact ⟨⟨_, rfl⟩, .inr ⟨_, by rw [HS.out, HX.out]; exact ⟨split r2, by simp⟩, hJx3⟩⟩
theorem seq_any (s : ByteArray) (w : World) : Calls Tryd.prog 22 #[.string s, .string ⟨#[32]⟩] w fun e w' =>
  e = .returned (.func (.func 52) #[] #[.pointer (some ⟨w.heap.size + 1, 0, none⟩), .pointer (some ⟨w.heap.size, 0, none⟩), .pointer (some ⟨w.heap.size + 2, 0, none⟩)]) ∧
  w' = ((w.alloc (.cells #[.string s] 9)).alloc (.cells #[.string ⟨#[32]⟩] 9)).alloc (.cells #[.int .i64 0] 3) := by
 have H0 : Calls Tryd.prog 41 #[.string s, .string ⟨#[32]⟩, .int .i64 0] w fun e w' =>
   e = .returned (.func (.func 52) #[] #[.pointer (some ⟨w.heap.size + 1, 0, none⟩), .pointer (some ⟨w.heap.size, 0, none⟩), .pointer (some ⟨w.heap.size + 2, 0, none⟩)]) ∧
   w' = ((w.alloc (.cells #[.string s] 9)).alloc (.cells #[.string ⟨#[32]⟩] 9)).alloc (.cells #[.int .i64 0] 3) := by
  go_enter Tryd.func41, Tryd.ntmps41
  go_wp2
  go_ret
  exact ⟨rfl, rfl⟩
 have HH := Lib.hid H0
 clear H0
 go_enter Tryd.func22, Tryd.ntmps22
 go_wp2_with (go_at_call 41; refine HH.out.mono ?_; rintro e w1 ⟨rfl, rfl⟩)
 go_ret
 exact ⟨rfl, rfl⟩
end Go.Proofs.YtdagddhccdchoaaDoor.Spl
