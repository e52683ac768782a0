/-
 DERIVED: THE SHELF's CONTRACTS AT THIS DUMP, IN PLAIN WORDS (tools/lay-plain.mjs out of 'TrydShelfS.lean', which tools/lay-shelf.mjs wrote): THE SAME DECLARATIONS UNDER THE SAME NAMES: 'import', 'namespace', 'open', 'def', 'theorem' AND NOTHING ELSE: no command of the shelf's: FOR A HAND-IN. Each laying: the table of numbers ('.._ren') and one theorem, a field a fact of the dump's own or the kernel's comparison; each contract: ONE APPLICATION.
-/
import Derived.Shelf.Sort.Plain
import Derived.Shelf.Slices.CompactS
import Derived.Shelf.Slices.In.SortNone
import Derived.Test.YtdagddhccdchoaaDoorProg
namespace Go.Proofs
open Go.Shelf
def Tryd.lays190_ren : Go.Shelf.Ren := ⟨fun | 190 => 48 | 125 => 58 | 258 => 57 | 128 => 71 | 129 => 72 | 302 => 62 | 303 => 63 | 304 => 64 | 305 => 65 | 306 => 66 | 307 => 67 | 308 => 68 | 309 => 69 | 310 => 70 | 333 => 77 | 329 => 78 | 330 => 79 | 334 => 80 | 335 => 81 | 336 => 82 | 344 => 85 | n => n, fun | 31 => 27 | 9 => 9 | 3 => 3 | 46 => 82 | 0 => 0 | 51 => 94 | 53 => 96 | 4 => 4 | 183 => 86 | 182 => 85 | 131 => 91 | 5 => 5 | 218 => 103 | 222 => 107 | 228 => 111 | 229 => 112 | n => n, fun | n => n⟩
theorem Tryd.lays190 : Go.Proofs.Lays.n190 Tryd.prog Tryd.lays190_ren := {
 mixed := by kernel_rfl
 f125 := Tryd.func58.trans (congrArg some (by kernel_rfl))
 f128 := Tryd.func71.trans (congrArg some (by kernel_rfl))
 f129 := Tryd.func72.trans (congrArg some (by kernel_rfl))
 f190 := Tryd.func48.trans (congrArg some (by kernel_rfl))
 f258 := Tryd.func57.trans (congrArg some (by kernel_rfl))
 f302 := Tryd.func62.trans (congrArg some (by kernel_rfl))
 f303 := Tryd.func63.trans (congrArg some (by kernel_rfl))
 f304 := Tryd.func64.trans (congrArg some (by kernel_rfl))
 f305 := Tryd.func65.trans (congrArg some (by kernel_rfl))
 f306 := Tryd.func66.trans (congrArg some (by kernel_rfl))
 f307 := Tryd.func67.trans (congrArg some (by kernel_rfl))
 f308 := Tryd.func68.trans (congrArg some (by kernel_rfl))
 f309 := Tryd.func69.trans (congrArg some (by kernel_rfl))
 f310 := Tryd.func70.trans (congrArg some (by kernel_rfl))
 f329 := Tryd.func78.trans (congrArg some (by kernel_rfl))
 f330 := Tryd.func79.trans (congrArg some (by kernel_rfl))
 f333 := Tryd.func77.trans (congrArg some (by kernel_rfl))
 f334 := Tryd.func80.trans (congrArg some (by kernel_rfl))
 f335 := Tryd.func81.trans (congrArg some (by kernel_rfl))
 f336 := Tryd.func82.trans (congrArg some (by kernel_rfl))
 f344 := Tryd.func85.trans (congrArg some (by kernel_rfl))
 t0 := Tryd.underlying0
 a0 := Tryd.isAgg0
 z0 := Tryd.sizeOf0
 v0 := Tryd.zeroValue0
 t3 := Tryd.underlying3
 a3 := Tryd.isAgg3
 z3 := Tryd.sizeOf3
 v3 := Tryd.zeroValue3
 t4 := Tryd.underlying4
 a4 := Tryd.isAgg4
 z4 := Tryd.sizeOf4
 v4 := Tryd.zeroValue4
 t5 := Tryd.underlying5
 a5 := Tryd.isAgg5
 z5 := Tryd.sizeOf5
 v5 := Tryd.zeroValue5
 t9 := Tryd.underlying9
 a9 := Tryd.isAgg9
 z9 := Tryd.sizeOf9
 v9 := Tryd.zeroValue9
 t31 := Tryd.underlying27
 a31 := Tryd.isAgg27
 z31 := Tryd.sizeOf27
 v31 := Tryd.zeroValue27
 t46 := Tryd.underlying82
 a46 := Tryd.isAgg82
 z46 := Tryd.sizeOf82
 v46 := Tryd.zeroValue82
 t51 := Tryd.underlying94
 a51 := Tryd.isAgg94
 z51 := Tryd.sizeOf94
 v51 := Tryd.zeroValue94
 t53 := Tryd.underlying96
 a53 := Tryd.isAgg96
 z53 := Tryd.sizeOf96
 v53 := Tryd.zeroValue96
 t131 := Tryd.underlying91
 a131 := Tryd.isAgg91
 z131 := Tryd.sizeOf91
 v131 := Tryd.zeroValue91
 t182 := Tryd.underlying85
 a182 := Tryd.isAgg85
 z182 := Tryd.sizeOf85
 v182 := Tryd.zeroValue85
 t183 := Tryd.underlying86
 a183 := Tryd.isAgg86
 z183 := Tryd.sizeOf86
 v183 := Tryd.zeroValue86
 t218 := Tryd.underlying103
 a218 := Tryd.isAgg103
 z218 := Tryd.sizeOf103
 v218 := Tryd.zeroValue103
 t222 := Tryd.underlying107
 a222 := Tryd.isAgg107
 z222 := Tryd.sizeOf107
 v222 := Tryd.zeroValue107
 t228 := Tryd.underlying111
 a228 := Tryd.isAgg111
 z228 := Tryd.sizeOf111
 v228 := Tryd.zeroValue111
 t229 := Tryd.underlying112
 a229 := Tryd.isAgg112
 z229 := Tryd.sizeOf112
 v229 := Tryd.zeroValue112 }
open Go.Sort Go.RowKit in
theorem Tryd.slices_Sort_string (blk off cap : Nat) (ss : List (List UInt8)) (w : World) (hH : Holds encStr w blk off ss.toArray) (hblk : blk < w.heap.size) (hsz : ss.length < 4611686018427387904) :
  Calls Tryd.prog 48 #[.slice (some ⟨blk, off, none⟩) ss.length cap] w fun e w' =>
   e = .returned (.tuple #[]) ∧ ∃ n os, w' = grow (putRow encStr (Sort.ahead w n) blk off (ss.mergeSort fun x y => decide (x ≤ y)).toArray) os := Any.slices_Sort_string Tryd.lays190 blk off cap ss w hH hblk hsz
def Tryd.lays194_ren : Go.Shelf.Ren := ⟨fun | 194 => 36 | n => n, fun | 31 => 27 | 9 => 9 | 3 => 3 | 4 => 4 | 0 => 0 | n => n, fun | n => n⟩
theorem Tryd.lays194 : Go.Proofs.Lays.n194 Tryd.prog Tryd.lays194_ren := {
 mixed := by kernel_rfl
 f194 := Tryd.func36.trans (congrArg some (by kernel_rfl))
 t0 := Tryd.underlying0
 a0 := Tryd.isAgg0
 z0 := Tryd.sizeOf0
 v0 := Tryd.zeroValue0
 t3 := Tryd.underlying3
 a3 := Tryd.isAgg3
 z3 := Tryd.sizeOf3
 v3 := Tryd.zeroValue3
 t4 := Tryd.underlying4
 a4 := Tryd.isAgg4
 z4 := Tryd.sizeOf4
 v4 := Tryd.zeroValue4
 t9 := Tryd.underlying9
 a9 := Tryd.isAgg9
 z9 := Tryd.sizeOf9
 v9 := Tryd.zeroValue9
 t31 := Tryd.underlying27
 a31 := Tryd.isAgg27
 z31 := Tryd.sizeOf27
 v31 := Tryd.zeroValue27 }
open Go.RowKit Go.Lib Go.Sort in
theorem Tryd.slices_Compact_string (blk off cap : Nat) (zs : List (List UInt8)) (w : World) (hH : Holds encStr w blk off zs.toArray) (hsz : zs.length ≤ 9223372036854775807) (hcap : zs.length ≤ cap) :
  Calls Tryd.prog 36 #[.slice (some ⟨blk, off, none⟩) zs.length cap] w fun e w' => e = .returned (.slice (some ⟨blk, off, none⟩) (Lib.compact zs).length cap) ∧ ∃ q, w' = putRow encStr (Sort.ahead w q) blk off (Lib.compact zs ++ List.replicate (zs.length - (Lib.compact zs).length) []).toArray := Any.slices_Compact_string Tryd.lays194 blk off cap zs w hH hsz hcap
open Go.RowKit Go.Lib Go.Sort in
theorem Tryd.slices_Compact_string_empty (a : Option Addr) (cap : Nat) (w : World) :
  Calls Tryd.prog 36 #[.slice a 0 cap] w fun e w' => e = .returned (.slice a 0 cap) ∧ w' = w := Any.slices_Compact_string_empty Tryd.lays194 a cap w
open Go.RowKit Go.Sort in
theorem Tryd.slices_Sort_string_none (p : Option Addr) (cap : Nat) (w : World) :
  Calls Tryd.prog 48 #[.slice p 0 cap] w fun e w' => e = .returned (.tuple #[]) ∧ w' = w := Any.slices_Sort_string_none Tryd.lays190 p cap w
end Go.Proofs
