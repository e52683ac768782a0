/- slices.Values, slices.Sorted, slices.Compact over strings, as they are called (turned from the worked proof GgSortedAtTheDump). -/
import Derived.Test.YtdagddhccdchoaaDoorWeColS
import Derived.Test.YtdagddhccdchoaaDoorWeShelfS
import Derived.Sort.OwnSorted
namespace Go.Proofs.YtdagddhccdchoaaDoor.Srt
open Go Go.Shelf Go.RowKit Go.Lib Go.Proofs Go.Sort Go.Proofs.YtdagddhccdchoaaDoorW.PrintWords
set_option linter.unusedVariables false
set_option linter.unusedSimpArgs false
attribute [local go_sem] Oper.semAt_some
def lets (b : ByteArray) : List UInt8 := b.data.toList
def srtS (zs : List ByteArray) : List (List UInt8) := (zs.map lets).mergeSort (fun x y => decide (x ≤ y))
theorem enc_lets (b : ByteArray) : encStr (lets b) = Value.string b := by unfold encStr lets; rfl
theorem map_enc (zs : List ByteArray) : zs.map Value.string = (zs.map lets).map encStr := by
 rw [List.map_map]; exact List.map_congr_left fun b _ => (enc_lets b).symm
set_option maxRecDepth 100000 in
set_option maxHeartbeats 2000000 in
theorem sorted_inS (n : Nat) (hn : 4 ≤ n) (g : Nat) (lb : Array Value) (eg : ∀ args w, (callFunc g args).run Tryd.prog w = .ok (.enter g args) w) (zs : List ByteArray) (hN : zs.length ≤ maxLen) (hNb : zs.length * 16 ≤ 140737488355328) (w : World)
  (hseq : GivesB Fence.wide (n - 1 - 1 - 1) Tryd.prog g lb Value.string (fun xs => xs = zs) zs.length w) :
  CallsIn Fence.wide n Tryd.prog 37 #[.func (.func g) #[] lb] w fun e w' => ∃ v : Value, e = .returned v ∧
   w'.ownsRow w.heap.size 9 1 v zs.length ((srtS zs).map encStr) ∧ Below w.heap.size w w' := by
 have h1 : 1 ≤ n := by omega
 have hro : Fence.wide.round = none := rfl
 have h8 : Fence.wide.fn 47 := trivial
 have h9 : Fence.wide.fn 48 := trivial
 have cC := collect_in Fence.wide (n - 1) trivial trivial rfl (by omega) g lb trivial eg _ _ hN hNb w hseq
 have hl : (zs.map lets).length = zs.length := by simp
 have s1 := fun (blk off cap : Nat) (W : World) (hH : Holds encStr W blk off (zs.map lets).toArray) (hblk : blk < W.heap.size) (hsz : (zs.map lets).length < 4611686018427387904) => callsIn_wide (n := n - 1) |>.2 (Tryd.slices_Sort_string blk off cap (zs.map lets) W hH hblk hsz)
 rw [hl] at s1
 have s2 := fun (p : Option Addr) (cap : Nat) (W : World) => callsIn_wide (n := n - 1) |>.2 (Tryd.slices_Sort_string_none p cap W)
 refine callsIn_of_wp Tryd.func37 rfl trivial ?_ hro
 simp only [Tryd.ntmps37, List.size_toArray, List.length_cons, List.length_nil, Nat.reduceAdd, Nat.reduceSub, Array.replicate_succ, Array.replicate_zero, List.push_toArray, List.append_toArray, List.nil_append, List.cons_append]
 gi_wp2_with (gi_at_call 47; refine cC.mono ?_; rintro e W ⟨v, ss, rfl, rfl, hrow, hnil, hb⟩)
 rw [map_enc] at hrow
 rcases hrow.2 with ⟨rfl, hz⟩ | ⟨gb, cap, cur, rfl, hbase, hgb, r1, r2, r3, r4⟩
 ·
  have hss : ss = [] := List.eq_nil_of_length_eq_zero hz
  subst hss
  gi_wp2_with (gi_at_call 48; refine (s2 none 0 W).mono ?_; rintro e w' ⟨rfl, rfl⟩)
  go_ret
  exact ⟨.slice none 0 0, rfl, by simpa [srtS] using hrow, hb⟩
 ·
  have hH : Holds encStr W gb 0 (ss.map lets).toArray := holds_of_block hgb (by simpa using r4)
  have hgl : gb < W.heap.size := (Array.getElem?_eq_some_iff.1 hgb).1
  have hsz : ss.length < 4611686018427387904 := by unfold maxLen at hN; omega
  have cS := s1 gb 0 cap W hH hgl hsz
  gi_wp2_with (gi_at_call 48; refine cS.mono ?_; rintro e w' ⟨rfl, nn, os, rfl⟩)
  go_ret
  have h5 := ownsRow_sorted (n := nn) (os := os) (ss := ss.map lets) (ts := srtS ss) (by unfold srtS; simp) hbase hgb (by rw [hl]; exact r1) r2 r3
  rw [hl] at h5
  exact ⟨_, rfl, h5, hb.grown (grownBy_sorted _) hb.size (fun j hj => by cases hj; exact hbase)⟩
theorem values_callS (A : Option Addr) (n c : Nat) (w : World) : Calls Tryd.prog 38 #[.slice A n c] w fun e w' => e = .returned (.func (.func 49) #[] #[.pointer (some ⟨w.heap.size, 0, none⟩)]) ∧ w' = w.alloc (.cells #[.slice A n c] 27) := by
 go_enter Tryd.func38, Tryd.ntmps38
 go_wp2
 go_ret
 exact ⟨rfl, rfl⟩
theorem sorted_callS (Bs : Nat) (A : Option Addr) (cap : Nat) (zs : List ByteArray) (w : World) (hBlt : Bs < w.heap.size) (hBs : w.cell? ⟨Bs, 0, none⟩ = some (.slice A zs.length cap)) (hC : Kd.string.C w A zs.length zs) (hN : zs.length ≤ 7000000000000) :
  Calls Tryd.prog 37 #[.func (.func 49) #[] #[.pointer (some ⟨Bs, 0, none⟩)]] w fun e w' => ∃ v : Value, e = .returned v ∧
   w'.ownsRow w.heap.size 9 1 v zs.length ((srtS zs).map encStr) ∧ Below w.heap.size w w' :=
 callsIn_wide.1 (sorted_inS 6 (by omega) 49 _ (enters_of Tryd.func49 (by kernel_rfl) rfl) zs (by unfold maxLen; omega) (by omega) w (values_gives Fence.wide _ trivial rfl (by omega) Bs A cap zs w hBlt hBs hC))
theorem compact_call (base : Nat) (v : Value) (n : Nat) (ys : List (List UInt8)) (w : World) (hv : w.ownsRow base 9 1 v n (ys.map encStr)) (hN : n ≤ 7000000000000) :
  Calls Tryd.prog 36 #[v] w fun e w' => (∃ A c, e = .returned (.slice A (Lib.compact ys).length c)) ∧ Below base w w' := by
 have hl : ys.length = n := by have := hv.1; simpa using this
 rcases hv.2 with ⟨rfl, hz⟩ | ⟨gb, cap, cur, rfl, hbase, hgb, r1, r2, r3, r4⟩
 ·
  have hss : ys = [] := List.eq_nil_of_length_eq_zero (by omega)
  subst hss
  refine (Tryd.slices_Compact_string_empty none 0 w).mono ?_
  rintro e w' ⟨rfl, rfl⟩
  exact ⟨⟨none, 0, rfl⟩, Below.refl _ _⟩
 ·
  have hH : Holds encStr w gb 0 ys.toArray := holds_of_block hgb (by rw [hl]; simpa using r4)
  have h := Tryd.slices_Compact_string gb 0 cap ys w hH (by omega) (by omega)
  rw [hl] at h
  refine h.mono ?_
  rintro e w' ⟨rfl, q, rfl⟩
  refine ⟨⟨_, _, rfl⟩, (Below.refl base w).grown (grownBy_sorted (os := #[]) _ : w.grownBy _ (some gb)) ?_ (fun j hj => by cases hj; exact hbase)⟩
  have := (Array.getElem?_eq_some_iff.1 hgb).1; omega
end Go.Proofs.YtdagddhccdchoaaDoor.Srt
