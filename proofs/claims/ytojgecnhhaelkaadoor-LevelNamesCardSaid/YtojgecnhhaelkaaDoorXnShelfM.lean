/-
 DERIVED: THE SHELF's CONTRACTS AT THIS DUMP, IN PLAIN WORDS (tools/lay-plain.mjs out of 'YtojgecnhhaelkaaDoorShelfM.lean', which tools/lay-shelf.mjs wrote): THE SAME DECLARATIONS UNDER THE SAME NAMES: 'import', 'namespace', 'open', 'def', 'theorem' AND NOTHING ELSE: no command of the shelf's: FOR A HAND-IN. Each laying: the table of numbers ('.._ren') and one theorem, a field a fact of the dump's own or the kernel's comparison; each contract: ONE APPLICATION.
-/
import Derived.Shelf.Strings.MapAny
import Derived.Shelf.Strings.MapGrows
import Derived.Shelf.Slices.Turned
import Derived.Test.YtojgecnhhaelkaaDoorProg
namespace Go.Proofs
open Go.Shelf
def Tryd.lays230_ren : Go.Shelf.Ren := ⟨fun | 230 => 22 | 197 => 24 | 118 => 25 | 165 => 26 | 166 => 27 | 168 => 28 | 270 => 29 | 167 => 30 | 169 => 31 | 260 => 32 | 240 => 33 | 241 => 34 | 242 => 35 | 276 => 36 | 277 => 37 | 278 => 38 | n => n, fun | 107 => 43 | 9 => 9 | 72 => 46 | 0 => 0 | 4 => 4 | 3 => 3 | 21 => 21 | 105 => 47 | 76 => 53 | 5 => 5 | 75 => 52 | 70 => 44 | 20 => 20 | 37 => 41 | 127 => 60 | 119 => 61 | 46 => 27 | 139 => 64 | 138 => 63 | 164 => 65 | 51 => 68 | 80 => 58 | n => n, fun | 3 => 1 | 4 => 2 | n => n⟩
theorem Tryd.lays230 : Go.Proofs.Lays.n230 Tryd.prog Tryd.lays230_ren := {
 mixed := by kernel_rfl
 f118 := Tryd.func25.trans (congrArg some (by kernel_rfl))
 f165 := Tryd.func26.trans (congrArg some (by kernel_rfl))
 f166 := Tryd.func27.trans (congrArg some (by kernel_rfl))
 f167 := Tryd.func30.trans (congrArg some (by kernel_rfl))
 f168 := Tryd.func28.trans (congrArg some (by kernel_rfl))
 f169 := Tryd.func31.trans (congrArg some (by kernel_rfl))
 f197 := Tryd.func24.trans (congrArg some (by kernel_rfl))
 f230 := Tryd.func22.trans (congrArg some (by kernel_rfl))
 f240 := Tryd.func33.trans (congrArg some (by kernel_rfl))
 f241 := Tryd.func34.trans (congrArg some (by kernel_rfl))
 f242 := Tryd.func35.trans (congrArg some (by kernel_rfl))
 f260 := Tryd.func32.trans (congrArg some (by kernel_rfl))
 f270 := Tryd.func29.trans (congrArg some (by kernel_rfl))
 f276 := Tryd.func36.trans (congrArg some (by kernel_rfl))
 f277 := Tryd.func37.trans (congrArg some (by kernel_rfl))
 f278 := Tryd.func38.trans (congrArg some (by kernel_rfl))
 t0 := Tryd.underlying0
 a0 := Tryd.isAgg0
 z0 := Tryd.sizeOf0
 v0 := Tryd.zeroValue0
 t3 := Tryd.underlying3
 a3 := Tryd.isAgg3
 z3 := Tryd.sizeOf3
 v3 := Tryd.zeroValue3
 t4 := Tryd.underlying4
 a4 := Tryd.isAgg4
 z4 := Tryd.sizeOf4
 v4 := Tryd.zeroValue4
 t5 := Tryd.underlying5
 a5 := Tryd.isAgg5
 z5 := Tryd.sizeOf5
 v5 := Tryd.zeroValue5
 t9 := Tryd.underlying9
 a9 := Tryd.isAgg9
 z9 := Tryd.sizeOf9
 v9 := Tryd.zeroValue9
 t20 := Tryd.underlying20
 a20 := Tryd.isAgg20
 z20 := Tryd.sizeOf20
 v20 := Tryd.zeroValue20
 t21 := Tryd.underlying21
 a21 := Tryd.isAgg21
 z21 := Tryd.sizeOf21
 v21 := Tryd.zeroValue21
 t37 := Tryd.underlying41
 a37 := Tryd.isAgg41
 z37 := Tryd.sizeOf41
 v37 := Tryd.zeroValue41
 t46 := Tryd.underlying27
 a46 := Tryd.isAgg27
 z46 := Tryd.sizeOf27
 v46 := Tryd.zeroValue27
 t51 := Tryd.underlying68
 a51 := Tryd.isAgg68
 z51 := Tryd.sizeOf68
 v51 := Tryd.zeroValue68
 t70 := Tryd.underlying44
 a70 := Tryd.isAgg44
 z70 := Tryd.sizeOf44
 v70 := Tryd.zeroValue44
 t72 := Tryd.underlying46
 a72 := Tryd.isAgg46
 z72 := Tryd.sizeOf46
 v72 := Tryd.zeroValue46
 t75 := Tryd.underlying52
 a75 := Tryd.isAgg52
 z75 := Tryd.sizeOf52
 v75 := Tryd.zeroValue52
 t76 := Tryd.underlying53
 a76 := Tryd.isAgg53
 z76 := Tryd.sizeOf53
 v76 := Tryd.zeroValue53
 t105 := Tryd.underlying47
 a105 := Tryd.isAgg47
 z105 := Tryd.sizeOf47
 v105 := Tryd.zeroValue47
 t107 := Tryd.underlying43
 a107 := Tryd.isAgg43
 z107 := Tryd.sizeOf43
 v107 := Tryd.zeroValue43
 t119 := Tryd.underlying61
 a119 := Tryd.isAgg61
 z119 := Tryd.sizeOf61
 t127 := Tryd.underlying60
 a127 := Tryd.isAgg60
 z127 := Tryd.sizeOf60
 v127 := Tryd.zeroValue60
 t138 := Tryd.underlying63
 a138 := Tryd.isAgg63
 z138 := Tryd.sizeOf63
 v138 := Tryd.zeroValue63
 t139 := Tryd.underlying64
 a139 := Tryd.isAgg64
 z139 := Tryd.sizeOf64
 v139 := Tryd.zeroValue64
 t164 := Tryd.underlying65
 a164 := Tryd.isAgg65
 z164 := Tryd.sizeOf65
 v164 := Tryd.zeroValue65
 g3 := by kernel_rfl
 g4 := by kernel_rfl }
theorem Tryd.Builder_Extra_230 : Builder.Extra Tryd.prog Tryd.lays230_ren := {
 sizeBuilder := by kernel_rfl
 liesBuilder := by kernel_rfl
 t5 := Tryd.underlying5
 a5 := Tryd.isAgg5
 z5 := Tryd.sizeOf5
 v5 := Tryd.zeroValue5
 infoByte := by kernel_rfl
 cellsByte := by kernel_rfl
 sizeByte := by kernel_rfl
 neB5 := by decide }
open Go.RowKit Go.Lib in
theorem Tryd.strings_Map_runes (g : Nat) (lb : Array Value) (eg : ∀ args w, (callFunc g args).run Tryd.prog w = .ok (.enter g args) w) (f : Int → Int) (s : ByteArray) (w : World) (hs : s.size < 35184372088832) (hf : MapAtRunes Tryd.prog g lb f w) (hnn : ∀ x : Nat, x ≤ 1114111 → 0 ≤ f x ∧ f x ≤ 2147483647) (hT : Lib.Utf8Tabs 1 2 w) :
  Calls Tryd.prog 22 #[.func (.func g) #[] lb, .string s] w fun e w' => e = .returned (.string ⟨(Lib.mapD f s.data.toList).toArray⟩) ∧ Below w.heap.size w w' := Any.strings_Map_runes Tryd.lays230 Tryd.Builder_Extra_230 g lb eg f s w hs hf hnn hT
def Tryd.lays109_ren : Go.Shelf.Ren := ⟨fun | 109 => 20 | n => n, fun | 31 => 40 | 9 => 9 | 3 => 3 | 0 => 0 | 4 => 4 | n => n, fun | n => n⟩
theorem Tryd.lays109 : Go.Proofs.Lays.n109 Tryd.prog Tryd.lays109_ren := {
 mixed := by kernel_rfl
 f109 := Tryd.func20.trans (congrArg some (by kernel_rfl))
 t0 := Tryd.underlying0
 a0 := Tryd.isAgg0
 z0 := Tryd.sizeOf0
 v0 := Tryd.zeroValue0
 t3 := Tryd.underlying3
 a3 := Tryd.isAgg3
 z3 := Tryd.sizeOf3
 v3 := Tryd.zeroValue3
 t4 := Tryd.underlying4
 a4 := Tryd.isAgg4
 z4 := Tryd.sizeOf4
 v4 := Tryd.zeroValue4
 t9 := Tryd.underlying9
 a9 := Tryd.isAgg9
 z9 := Tryd.sizeOf9
 v9 := Tryd.zeroValue9
 t31 := Tryd.underlying40
 a31 := Tryd.isAgg40
 z31 := Tryd.sizeOf40
 v31 := Tryd.zeroValue40 }
open Go.Lib in
theorem Tryd.slices_Index_string (b off n c : Nat) (zs : List ByteArray) (x : ByteArray) (w : World) (hz : n ≤ zs.length) (hbig : n ≤ 9223372036854775807) (hc : ∀ j, j < zs.length → w.cell? ⟨b, off + j, none⟩ = some (.string (zs.getD j ByteArray.empty))) :
  Calls Tryd.prog 20 #[.slice (some ⟨b, off, none⟩) n c, .string x] w fun e w' => e = .returned (.int .i64 (Lib.idxOfS (zs.take n) x)) ∧ w' = w := Any.slices_Index_string Tryd.lays109 b off n c zs x w hz hbig hc
end Go.Proofs
