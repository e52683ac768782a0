/- slices.Sorted(slices.Values(b)) over ints (turned from the worked proof GgSortedAtTheDump). -/
import Derived.Test.YthlffcaaifpdeaaVcCol
import Derived.Test.YthlffcaaifpdeaaVcShelf
import Derived.Sort.OwnSortedInts
import Derived.Test.YthlffcaaifpdeaaVcWMore
namespace Go.Proofs.Ythlffcaaifpdeaa.Srt
open Go Go.Shelf Go.RowKit Go.Lib Go.Proofs Go.Sort
set_option linter.unusedVariables false
set_option linter.unusedSimpArgs false
attribute [local go_sem] Oper.semAt_some
set_option maxRecDepth 100000 in
set_option maxHeartbeats 2000000 in
theorem sorted_in (n : Nat) (hn : 4 ≤ n) (g : Nat) (lb : Array Value) (eg : ∀ args w, (callFunc g args).run Try.prog w = .ok (.enter g args) w) (zs : List Int) (hN : zs.length ≤ maxLen) (hNb : zs.length * 8 ≤ 140737488355328) (w : World)
  (hseq : GivesB Fence.wide (n - 1 - 1 - 1) Try.prog g lb (Value.int .i64) (fun xs => xs = zs) zs.length w) :
  CallsIn Fence.wide n Try.prog 17 #[.func (.func g) #[] lb] w fun e w' => ∃ v : Value, e = .returned v ∧
   w'.ownsRow w.heap.size 3 1 v zs.length ((zs.mergeSort (fun x y => decide (x ≤ y))).map (Value.int .i64)) ∧ Below w.heap.size w w' := by
 have h1 : 1 ≤ n := by omega
 have hro : Fence.wide.round = none := rfl
 have h8 : Fence.wide.fn 22 := trivial
 have h9 : Fence.wide.fn 23 := trivial
 have cC := collect_in Fence.wide (n - 1) trivial trivial rfl (by omega) g lb trivial eg _ _ hN hNb w hseq
 have s1 := fun (blk off cap : Nat) (W : World) (hH : Holds (Value.int .i64) W blk off zs.toArray) (hblk : blk < W.heap.size) (hsz : zs.length < 4611686018427387904) => callsIn_wide (n := n - 1) |>.2 (Try.slices_Sort_int blk off cap zs W hH hblk hsz)
 have s2 := fun (p : Option Addr) (cap : Nat) (W : World) => callsIn_wide (n := n - 1) |>.2 (Try.slices_Sort_int_none p cap W)
 refine callsIn_of_wp Try.func17 rfl trivial ?_ hro
 simp only [Try.ntmps17, List.size_toArray, List.length_cons, List.length_nil, Nat.reduceAdd, Nat.reduceSub, Array.replicate_succ, Array.replicate_zero, List.push_toArray, List.append_toArray, List.nil_append, List.cons_append]
 gi_wp2_with (gi_at_call 22; refine cC.mono ?_; rintro e W ⟨v, ss, rfl, rfl, hrow, hnil, hb⟩)
 rcases hrow.2 with ⟨rfl, hz⟩ | ⟨gb, cap, cur, rfl, hbase, hgb, r1, r2, r3, r4⟩
 ·
  have hss : ss = [] := List.eq_nil_of_length_eq_zero hz
  subst hss
  gi_wp2_with (gi_at_call 23; refine (s2 none 0 W).mono ?_; rintro e w' ⟨rfl, rfl⟩)
  go_ret
  exact ⟨.slice none 0 0, rfl, by simpa using hrow, hb⟩
 ·
  have hH : Holds (Value.int .i64) W gb 0 ss.toArray := holds_of_blockI hgb (by simpa using r4)
  have hgl : gb < W.heap.size := (Array.getElem?_eq_some_iff.1 hgb).1
  have hsz : ss.length < 4611686018427387904 := by unfold maxLen at hN; omega
  have cS := s1 gb 0 cap W hH hgl hsz
  gi_wp2_with (gi_at_call 23; refine cS.mono ?_; rintro e w' ⟨rfl, nn, os, rfl⟩)
  go_ret
  exact ⟨_, rfl, ownsRow_sortedI (by simp) hbase hgb r1 r2 r3, hb.grown (grownBy_sortedI _) hb.size (fun j hj => by cases hj; exact hbase)⟩
end Go.Proofs.Ythlffcaaifpdeaa.Srt
namespace Go.Proofs.Ythlffcaaifpdeaa.Srt
open Go Go.Shelf Go.RowKit Go.Lib Go.Proofs Go.Sort Go.Proofs.YthlffcaaifpdeaaW.PrintWords
set_option linter.unusedVariables false
set_option linter.unusedSimpArgs false
theorem values_call (A : Option Addr) (n c : Nat) (w : World) : Calls Try.prog 18 #[.slice A n c] w fun e w' => e = .returned (.func (.func 24) #[] #[.pointer (some ⟨w.heap.size, 0, none⟩)]) ∧ w' = w.alloc (.cells #[.slice A n c] 22) := by
 go_enter Try.func18, Try.ntmps18
 go_wp2
 go_ret
 exact ⟨rfl, rfl⟩
theorem sorted_call (Bs : Nat) (A : Option Addr) (cap : Nat) (zs : List Int) (w : World) (hBlt : Bs < w.heap.size) (hBs : w.cell? ⟨Bs, 0, none⟩ = some (.slice A zs.length cap)) (hC : (Kd.int .i64).C w A zs.length zs) (hN : zs.length ≤ 17592186044416) :
  Calls Try.prog 17 #[.func (.func 24) #[] #[.pointer (some ⟨Bs, 0, none⟩)]] w fun e w' => ∃ v : Value, e = .returned v ∧
   w'.ownsRow w.heap.size 3 1 v zs.length ((zs.mergeSort (fun x y => decide (x ≤ y))).map (Value.int .i64)) ∧ Below w.heap.size w w' :=
 callsIn_wide.1 (sorted_in 6 (by omega) 24 _ (enters_of Try.func24 (by kernel_rfl) rfl) zs (by unfold maxLen; omega) (by omega) w (values_gives Fence.wide _ trivial rfl (by omega) Bs A cap zs w hBlt hBs hC))
end Go.Proofs.Ythlffcaaifpdeaa.Srt
