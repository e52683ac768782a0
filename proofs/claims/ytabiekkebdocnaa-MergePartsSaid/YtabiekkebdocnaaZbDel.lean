/- slices.DeleteFunc over a row of elements of 10 cells, walked once for any predicate that hands back a truth; it may lay blocks of its own. -/
import Derived.Test.YtabiekkebdocnaaProg
import Derived.Test.YtabiekkebdocnaaZbJ0
import Derived.Shelf.SlSortCmp.KitK
import Derived.Shelf.SlicesQ.IndexFunc
import Derived.Lib.SlKept
import Derived.Lib.Hide
import Derived.Outline
namespace Go.Proofs.Ytabiekkebdocnaa.Srt
open Go Go.Shelf Go.RowKit Go.Lib Go.Sort Go.Proofs
set_option linter.unusedVariables false
set_option linter.unusedSimpArgs false
def del_ren : Go.Shelf.Ren := ⟨fun | 6 => 55 | n => n, fun | 0 => 0 | 3 => 3 | 4 => 4 | 22 => 25 | 23 => 39 | 25 => 48 | n => n, fun | n => n⟩
theorem del_lays : Go.Proofs.SlLaysH0.n6 Try.prog del_ren := {
 mixed := by kernel_rfl
 f6 := ⟨Try.f55.name, by decide, Try.func55.trans (congrArg some (by kernel_rfl))⟩
 t0 := Try.underlying0
 a0 := Try.isAgg0
 z0 := Try.sizeOf0
 v0 := Try.zeroValue0
 t3 := Try.underlying3
 a3 := Try.isAgg3
 z3 := Try.sizeOf3
 v3 := Try.zeroValue3
 t4 := Try.underlying4
 a4 := Try.isAgg4
 z4 := Try.sizeOf4
 v4 := Try.zeroValue4
 t22 := Try.underlying25
 a22 := Try.isAgg25
 z22 := Try.sizeOf25
 v22 := Try.zeroValue25
 t25 := Try.underlying48
 a25 := Try.isAgg48
 z25 := Try.sizeOf48
 v25 := Try.zeroValue48 }
theorem idxByFrom_spec' {α : Type} [Inhabited α] (eq : α → α → Bool) (x : α) : ∀ (l : List α) (i : Nat), (Lib.idxByFrom eq x l i = -1 ∧ ∀ j, j < l.length → eq x l[j]! = false) ∨ ∃ k, k < l.length ∧ Lib.idxByFrom eq x l i = ((i + k : Nat) : Int) ∧ eq x l[k]! = true ∧ ∀ j, j < k → eq x l[j]! = false
 | [], _ => .inl ⟨rfl, fun j hj => absurd hj (Nat.not_lt_zero _)⟩
 | y :: r, i => by
  cases h : eq x y with
  | true => exact .inr ⟨0, by simp, by simp [Lib.idxByFrom, h], by simpa using h, fun j hj => absurd hj (Nat.not_lt_zero _)⟩
  | false =>
   rcases idxByFrom_spec' eq x r (i + 1) with ⟨e, ha⟩ | ⟨k, hk, e, ht, ha⟩
   ·
    refine .inl ⟨by simp [Lib.idxByFrom, h, e], fun j hj => ?_⟩
    cases j with
    | zero => simpa using h
    | succ j => simpa using ha j (by simpa using hj)
   ·
    refine .inr ⟨k + 1, by simpa using hk, by simp only [Lib.idxByFrom, h]; rw [show (if false = true then (i : Int) else Lib.idxByFrom eq x r (i + 1)) = Lib.idxByFrom eq x r (i + 1) from rfl, e]; congr 1; omega, by simpa using ht, fun j hj => ?_⟩
    cases j with
    | zero => simpa using h
    | succ j => simpa using ha j (by omega)
section
variable {α : Type} [Inhabited α] {enc : α → List Value} {k : Nat} {w0 W : World} {blk off : Nat} {dk d0 : Array α}
theorem setMany_one (hk : ∀ x, (enc x).length = k) (d : Array α) (i : Nat) (y : α) (hi : i < d.size) : setMany (flatK enc k d) (i * k) (enc y) = flatK enc k (d.setIfInBounds i y) := by
 refine ext_get! (by simp) fun t ht => ?_
 have ht' : t < d.size * k := by simpa using ht
 have k0 : 0 < k := by
  rcases Nat.eq_zero_or_pos k with h | h
  ·
   subst h; simp at ht'
  ·
   exact h
 have htk : t / k < d.size := Nat.div_lt_of_lt_mul (by rw [Nat.mul_comm]; exact ht')
 rw [get_setMany _ _ _ t (by simpa using ht'), get_flatK _ _ _ t ht', get_flatK _ _ _ t (by simpa using ht'), hk]
 have hdm := Nat.div_add_mod t k
 have hml := Nat.mod_lt t k0
 by_cases e : t / k = i
 ·
  have h1 : i * k + t % k = t := by rw [← e, Nat.mul_comm]; exact hdm
  rw [if_pos (by omega), e, getElem!_pos (d.setIfInBounds i y) i (by simpa using hi), show t - i * k = t % k by omega]
  simp
 ·
  have h2 : ¬ (i * k ≤ t ∧ t < i * k + k) := fun ⟨a, b⟩ => e (by
   rw [Nat.div_eq_iff k0]; constructor <;> omega)
  rw [if_neg h2, getElem!_pos (d.setIfInBounds i y) (t / k) (by simpa using htk), getElem!_pos d (t / k) htk, Array.getElem_setIfInBounds_ne (by simpa using htk) (fun h => e h.symm)]
omit [Inhabited α] in
theorem setCells_cat (b : Nat) : ∀ (u v : List Value) (o : Nat) (w : World), w.setCells b o (u ++ v) = (w.setCells b o u).setCells b (o + u.length) v
 | [], v, o, w => rfl
 | x :: u, v, o, w => by
  rw [List.cons_append, World.setCells, World.setCells, setCells_cat b u v (o + 1)]
  rw [show o + 1 + u.length = o + (x :: u).length by simp; omega]
theorem putRowK_lay (hk : ∀ x, (enc x).length = k) (w : World) (blk off : Nat) : ∀ (ys : List α) (d : Array α) (i : Nat), i + ys.length ≤ d.size → (putRowK enc k w blk off d).setCells blk (off + i * k) (ys.flatMap enc) = putRowK enc k w blk off (lay d i ys)
 | [], d, i, _ => rfl
 | y :: ys, d, i, h => by
  have h' : i + (ys.length + 1) ≤ d.size := by simpa using h
  have hb : i * k + k ≤ d.size * k := by
   have := Nat.mul_le_mul_right k (show i + 1 ≤ d.size by omega); rwa [Nat.add_mul, Nat.one_mul] at this
  rw [List.flatMap_cons, setCells_cat, hk, show off + i * k + k = off + (i + 1) * k by rw [Nat.add_mul]; omega]
  have e : (putRowK enc k w blk off d).setCells blk (off + i * k) (enc y) = putRowK enc k w blk off (d.setIfInBounds i y) := by
   unfold putRowK
   rw [setCells_putRow _ _ _ _ _ _ (by rw [hk, size_flatK]; exact hb), setMany_one hk d i y (by omega)]
  rw [e, putRowK_lay hk w blk off ys (d.setIfInBounds i y) (i + 1) (by simp; omega)]
  rfl
theorem SWB.puts (h : SWB enc k w0 blk off dk W) (R : RowK enc k w0 blk off d0) (i : Nat) (ys : List α) (hi : i + ys.length ≤ dk.size) : SWB enc k w0 blk off (lay dk i ys) (W.setCells blk (off + i * k) (ys.flatMap enc)) := by
 obtain ⟨a1, a2, a3, a4, a5⟩ := setCells_same blk (ys.flatMap enc) (off + i * k) W
 refine ⟨a1.trans h.os, a2.trans h.tape, a3.trans h.output, by rw [a4]; exact h.size, fun q hq hne => (a5 q hne).trans (h.other q hq hne), ?_⟩
 rw [← putRowK_lay R.hk w0 blk off ys dk i hi]
 exact setCells_row blk _ _ _ _ h.row
omit [Inhabited α] in
theorem zeros_flat (z : Array Value) (n : Nat) : (Builtin.zeroCells z n).toList = (List.replicate n z.toList).flatten := by
 unfold Builtin.zeroCells
 induction n with
 | zero => simp
 | succ n ih =>
  rw [List.replicate_succ', List.flatten_append, ← ih]
  simp only [Array.toList_map, Array.toList_range, Nat.add_mul, Nat.one_mul, List.range_add, List.map_append, List.flatten_cons, List.flatten_nil, List.append_nil, List.map_map]
  congr 1
  apply List.ext_getElem
  ·
   simp
  ·
   intro i h1 h2
   have hz : i < z.size := by simpa using h2
   simp [Nat.mod_eq_of_lt hz, hz]
end
theorem box_cell (W : World) (cs : Array Value) (e : TypeId) (t : Nat) : (W.alloc (.cells cs e)).cell? ⟨W.heap.size, t, none⟩ = cs[t]? := by simp [World.cell?, World.alloc, -World.alloc_eq]
theorem box_lt (W : World) (o : Obj) : W.heap.size < (W.alloc o).heap.size := by simp [World.alloc, -World.alloc_eq]
theorem ten {l : List Value} (h : l.length = 10) : ∃ v0 v1 v2 v3 v4 v5 v6 v7 v8 v9 : Value, l = [v0, v1, v2, v3, v4, v5, v6, v7, v8, v9] := by
 match l, h with
 | [a0, a1, a2, a3, a4, a5, a6, a7, a8, a9], _ => exact ⟨a0, a1, a2, a3, a4, a5, a6, a7, a8, a9, rfl⟩
theorem del_clear {α : Type} [Inhabited α] {enc : α → List Value} {w0 W : World} {blk off : Nat} {dk d : Array α} (S : SWB enc 10 w0 blk off dk W) (R : RowK enc 10 w0 blk off d) (hs : dk.size = d.size) (i : Nat) (hi : i < d.size) (cap : Nat) (zr : α)
  (hz : ∀ w, (zeroValue 39).run Try.prog w = .ok (.agg (enc zr).toArray) w) (ty : TypeId) :
  (Builtin.clear_ #[25] ty #[.slice (some ⟨blk, off + i * 10, none⟩) (d.size - i) (cap - i)]).run Try.prog W = .ok (.tuple #[]) (W.setCells blk (off + i * 10) ((List.replicate (d.size - i) zr).flatMap enc)) := by
 have hfl : (List.replicate (d.size - i) zr).flatMap enc = (Builtin.zeroCells (enc zr).toArray (d.size - i)).toList := by
  rw [zeros_flat, List.flatMap_def, List.map_replicate]
 have hlen : ((List.replicate (d.size - i) zr).flatMap enc).length = (d.size - i) * 10 := by
  rw [List.flatMap_def, List.map_replicate, List.length_flatten, List.map_replicate, List.sum_replicate_nat, R.hk]
 have hst := stores_of_holds Try.prog (S.holds R.hH hs) (i * 10) ((List.replicate (d.size - i) zr).flatMap enc) (by rw [hlen, size_flatK, hs]; omega) (by
  intro v hv
  obtain ⟨x, hx, hv⟩ := List.mem_flatMap.1 hv
  exact R.h1 x v hv)
 obtain ⟨m, hm⟩ : ∃ m, d.size - i = m + 1 := ⟨d.size - i - 1, by omega⟩
 rw [hfl] at hst ⊢
 rw [hm] at hst ⊢
 simp [Builtin.clear_, run_underlying Try.underlying25, hz, Value.cells, hst]
section
variable {α : Type} [Inhabited α] {enc : α → List Value} {w0 w : World} {blk off : Nat} {d : Array α} {p : α → Bool} {g : Nat} {cb : Array Value} {cap : Nat}
def PredB (g : Nat) (cb : Array Value) (enc : α → List Value) (p : α → Bool) (w0 : World) (blk : Nat) (l : List α) : Prop :=
 ∀ (W : World) (x : α), x ∈ l → W.os = w0.os → W.tape = w0.tape → W.output = w0.output → w0.heap.size ≤ W.heap.size → (∀ i, i < w0.heap.size → i ≠ blk → W.heap[i]? = w0.heap[i]?) → Calls Try.prog g (#[.agg (enc x).toArray] ++ cb) W fun e w' => e = .returned (.bool (p x)) ∧ Below W.heap.size W w'
omit [Inhabited α] in
theorem idx_val {q : α → Prop} (p : α → Bool) (a : {x // q x}) (b : α) : ∀ (l : List {x // q x}) (i : Nat), Lib.idxByFrom (fun _ y => p y.1) a l i = Lib.idxByFrom (fun _ y => p y) b (l.map (·.1)) i
 | [], _ => rfl
 | x :: l, i => by simp only [Lib.idxByFrom, List.map_cons, idx_val p a b l]
set_option maxHeartbeats 4000000 in
set_option maxRecDepth 1000000 in
theorem delF (R : RowK enc 10 w0 blk off d) (hP : PredB g cb enc p w0 blk d.toList) (hpos : 0 < d.size) (eg : ∀ args w, (callFunc g args).run Try.prog w = .ok (.enter g args) w) (hsz : d.size ≤ 922337203685477580) (hcap : d.size ≤ cap) (zr : α) (hz : ∀ w, (zeroValue 39).run Try.prog w = .ok (.agg (enc zr).toArray) w) :
  Calls Try.prog 38 #[.slice (some ⟨blk, off, none⟩) d.size cap, .func (.func g) #[] cb] w0 fun e w' => e = .returned (.slice (some ⟨blk, off, none⟩) (d.toList.filter fun x => !p x).length cap) ∧ SWB enc 10 w0 blk off ((d.toList.filter fun x => !p x) ++ List.replicate (d.size - (d.toList.filter fun x => !p x).length) zr).toArray w' := by
 have tl : ∀ j, j < d.size → d.toList[j]! = d[j]! := fun j hj => by rw [getElem!_pos d j hj, getElem!_pos d.toList j (by simpa using hj)]; simp
 letI : Inhabited {x // x ∈ d.toList} := ⟨⟨d[0], by simp⟩⟩
 have hpb : Go.Proofs.PredBelow Try.prog g cb (fun x : {x // x ∈ d.toList} => .agg (enc x.1).toArray) (fun x => p x.1) w0 := fun W x hb =>
  (hP W x.1 x.2 hb.os hb.tape hb.output hb.size (fun i hi _ => hb.block i hi)).mono fun e w' ⟨he, hb'⟩ => ⟨he, hb.trans (hb'.mono hb.size)⟩
 have hIF := Go.Proofs.AnyQ.slices_IndexFunc del_lays 10 Try.isAgg39 Try.sizeOf39 (fun x : {x // x ∈ d.toList} => enc x.1) (fun x => R.hk x.1) (fun x => p x.1) g cb eg blk off d.size cap d.toList.attach w0 hpb (by simp) (by omega) R.hblk (fun j hj i v hv => by
  have hj' : j < d.size := by simpa using hj
  rw [getElem!_pos d.toList.attach j hj, List.getElem_attach] at hv
  have hv' : (enc d[j]!)[i]? = some v := by rw [getElem!_pos d j hj']; simpa using hv
  have hi : i < 10 := by have := (List.getElem?_eq_some_iff.1 hv').1; rwa [R.hk] at this
  have h1 := (HoldsK.cell R.hH (i := j) (c := i) hj' hi).1
  refine h1.trans ?_; rw [← hv']
  have hl : i < (enc d[j]!).length := by rw [R.hk]; exact hi
  rw [List.getElem?_eq_getElem hl, getElem!_pos (enc d[j]!) i hl])
 rw [show d.toList.attach.take d.size = d.toList.attach from List.take_of_length_le (by simp)] at hIF
 rw [show Lib.idxBy (fun _ y => p y.1) d.toList.attach (default : {x // x ∈ d.toList}) = Lib.idxBy (fun _ y => p y) d.toList default by
  unfold Lib.idxBy; rw [idx_val p _ (default : α), List.attach_map_subtype_val]] at hIF
 obtain ⟨kp, HK⟩ : ∃ kp : Nat → Bool, RowKit.Hid (kp = fun j => !p d[j]!) := ⟨_, rfl⟩
 have hfil : (d.toList.filter fun x => !p x) = keptUpTo kp d d.size := by rw [HK.out]; exact (keptUpTo_filter (fun x => !p x) d).symm
 rw [hfil]
 have HZ := Lib.hid hz
 clear hz
 have FG := Try.func38
 rcases idxByFrom_spec' (fun _ y => p y) default d.toList 0 with ⟨e1, hall⟩ | ⟨k0, hk0, e1, ht, hall⟩
 ·
  have e2 : Lib.idxBy (fun _ y => p y) d.toList default = -1 := e1
  rw [e2] at hIF
  have hkeep : ∀ j, j < d.size → kp j = true := fun j hj => by rw [HK.out]; show (!p d[j]!) = true; rw [← tl j hj, hall j (by simpa using hj)]; rfl
  have e3 : keptUpTo kp d d.size = d.toList := by rw [keptUpTo_all kp d _ hkeep, range_map_get]
  have HI := Lib.hid hIF
  have RR := Lib.hid R
  clear hIF hP hpb
  go_enter FG, Try.ntmps38
  go_wp2_with (go_at_call 55; refine HI.out.mono ?_; rintro e w1 ⟨rfl, hb1⟩)
  go_ret
  rw [e3]
  refine ⟨by simp, ?_⟩
  simp only [Array.length_toList, Nat.sub_self, List.replicate_zero, List.append_nil, Array.toArray_toList]
  exact (SWB.start RR.out.hH).on RR.out.hblk hb1
 ·
  have hk0' : k0 < d.size := by simpa using hk0
  have e2 : Lib.idxBy (fun _ y => p y) d.toList default = (k0 : Int) := by unfold Lib.idxBy; rw [e1]; simp
  rw [e2] at hIF
  have hkeep : ∀ j, j < k0 → kp j = true := fun j hj => by rw [HK.out]; show (!p d[j]!) = true; rw [← tl j (by omega), hall j hj]; rfl
  have hdrop : kp k0 = false := by rw [HK.out]; show (!p d[k0]!) = false; rw [← tl k0 hk0']; rw [show p d.toList[k0]! = true from ht]; rfl
  have hne1 : ((k0 : Int) == -1) = false := beq_eq_false_iff_ne.2 (by omega)
  have HI := Lib.hid hIF
  have RR := Lib.hid R
  have HP := Lib.hid hP
  clear hIF hP hpb hall ht e1 e2 tl R
  go_enter FG, Try.ntmps38
  go_wp2_with (go_at_call 55; refine HI.out.mono ?_; rintro e w1 ⟨rfl, hb1⟩)
  go_loopg [5, 6, 7] d.size (fun gg s5 s6 _ wr => ∃ (i j : Nat) (dk : Array α), s5 = .int .i64 i ∧ s6 = .int .i64 j ∧ j ≤ d.size ∧ d.size - j ≤ gg ∧ RowKit.Hid (SWB enc 10 w0 blk off dk wr) ∧ RowKit.Hid (KeptInv kp d j i dk))
  case atStart => exact ⟨k0, k0 + 1, d, rfl, by go_num, by omega, by omega, Lib.hid ((SWB.start RR.out.hH).on RR.out.hblk hb1), Lib.hid (KeptInv.start hkeep hdrop)⟩
  case round =>
   obtain ⟨i, j, dk, rfl, rfl, hjd, hgg, SW, I2⟩ := hrel
   by_cases hlt : j < d.size
   ·
    have hltz : (j : Int) < (d.size : Int) := by omega
    have hds := I2.out.size
    have hij := I2.out.lt
    obtain ⟨u, hu⟩ : ∃ u, d[j]! = u := ⟨_, rfl⟩
    have hdj := (I2.out.high j (by omega)).trans hu
    obtain ⟨v0, v1, v2, v3, v4, v5, v6, v7, v8, v9, hv⟩ := ten (RR.out.hk u)
    have hH := SW.out.holds RR.out.hH hds
    have hc := fun t (ht : t < 10) => (HoldsK.cell hH (i := j) (c := t) (by omega) ht).1
    rw [hdj, hv] at hc
    have c0 : wr.cell? ⟨blk, off + j * 10, none⟩ = some v0 := hc 0 (by decide)
    have c1 : wr.cell? ⟨blk, off + j * 10 + 1, none⟩ = some v1 := hc 1 (by decide)
    have c2 : wr.cell? ⟨blk, off + j * 10 + 2, none⟩ = some v2 := hc 2 (by decide)
    have c3 : wr.cell? ⟨blk, off + j * 10 + 3, none⟩ = some v3 := hc 3 (by decide)
    have c4 : wr.cell? ⟨blk, off + j * 10 + 4, none⟩ = some v4 := hc 4 (by decide)
    have c5 : wr.cell? ⟨blk, off + j * 10 + 5, none⟩ = some v5 := hc 5 (by decide)
    have c6 : wr.cell? ⟨blk, off + j * 10 + 6, none⟩ = some v6 := hc 6 (by decide)
    have c7 : wr.cell? ⟨blk, off + j * 10 + 7, none⟩ = some v7 := hc 7 (by decide)
    have c8 : wr.cell? ⟨blk, off + j * 10 + 8, none⟩ = some v8 := hc 8 (by decide)
    have c9 : wr.cell? ⟨blk, off + j * 10 + 9, none⟩ = some v9 := hc 9 (by decide)
    have ho := RR.out.h1 u
    rw [hv] at ho
    have s0 := fun (a : Addr) (m : Mode) (W : World) => run_store Try.prog W a v0 m (ho v0 (by simp))
    have s1 := fun (a : Addr) (m : Mode) (W : World) => run_store Try.prog W a v1 m (ho v1 (by simp))
    have s2 := fun (a : Addr) (m : Mode) (W : World) => run_store Try.prog W a v2 m (ho v2 (by simp))
    have s3 := fun (a : Addr) (m : Mode) (W : World) => run_store Try.prog W a v3 m (ho v3 (by simp))
    have s4 := fun (a : Addr) (m : Mode) (W : World) => run_store Try.prog W a v4 m (ho v4 (by simp))
    have s5 := fun (a : Addr) (m : Mode) (W : World) => run_store Try.prog W a v5 m (ho v5 (by simp))
    have s6 := fun (a : Addr) (m : Mode) (W : World) => run_store Try.prog W a v6 m (ho v6 (by simp))
    have s7 := fun (a : Addr) (m : Mode) (W : World) => run_store Try.prog W a v7 m (ho v7 (by simp))
    have s8 := fun (a : Addr) (m : Mode) (W : World) => run_store Try.prog W a v8 m (ho v8 (by simp))
    have s9 := fun (a : Addr) (m : Mode) (W : World) => run_store Try.prog W a v9 m (ho v9 (by simp))
    have HU := Lib.hid hu
    have HV := Lib.hid hv
    have S7 : SWB enc 10 w0 blk off dk (wr.alloc (.cells #[v0, v1, v2, v3, v4, v5, v6, v7, v8, v9] 39)) := SW.out.on RR.out.hblk ((Below.refl _ wr).alloc (Nat.le_refl _) _)
    have hmem : u ∈ d.toList := by rw [← hu, getElem!_pos d j hlt]; simp
    have hcall := HP.out _ u hmem S7.os S7.tape S7.output S7.size S7.other
    clear hmem
    rw [hv] at hcall
    have HC := Lib.hid hcall
    have hbox : ∀ w2 : World, Below (wr.alloc (.cells #[v0, v1, v2, v3, v4, v5, v6, v7, v8, v9] 39)).heap.size (wr.alloc (.cells #[v0, v1, v2, v3, v4, v5, v6, v7, v8, v9] 39)) w2 → w2.cell? ⟨wr.heap.size, 0, none⟩ = some v0 ∧ w2.cell? ⟨wr.heap.size, 1, none⟩ = some v1 ∧ w2.cell? ⟨wr.heap.size, 2, none⟩ = some v2 ∧ w2.cell? ⟨wr.heap.size, 3, none⟩ = some v3 ∧ w2.cell? ⟨wr.heap.size, 4, none⟩ = some v4 ∧ w2.cell? ⟨wr.heap.size, 5, none⟩ = some v5 ∧ w2.cell? ⟨wr.heap.size, 6, none⟩ = some v6 ∧ w2.cell? ⟨wr.heap.size, 7, none⟩ = some v7 ∧ w2.cell? ⟨wr.heap.size, 8, none⟩ = some v8 ∧ w2.cell? ⟨wr.heap.size, 9, none⟩ = some v9 := fun w2 hb => ⟨(hb.cell (p := ⟨wr.heap.size, 0, none⟩) (box_lt wr _)).trans (box_cell wr #[v0, v1, v2, v3, v4, v5, v6, v7, v8, v9] 39 _), (hb.cell (p := ⟨wr.heap.size, 1, none⟩) (box_lt wr _)).trans (box_cell wr #[v0, v1, v2, v3, v4, v5, v6, v7, v8, v9] 39 _), (hb.cell (p := ⟨wr.heap.size, 2, none⟩) (box_lt wr _)).trans (box_cell wr #[v0, v1, v2, v3, v4, v5, v6, v7, v8, v9] 39 _), (hb.cell (p := ⟨wr.heap.size, 3, none⟩) (box_lt wr _)).trans (box_cell wr #[v0, v1, v2, v3, v4, v5, v6, v7, v8, v9] 39 _), (hb.cell (p := ⟨wr.heap.size, 4, none⟩) (box_lt wr _)).trans (box_cell wr #[v0, v1, v2, v3, v4, v5, v6, v7, v8, v9] 39 _), (hb.cell (p := ⟨wr.heap.size, 5, none⟩) (box_lt wr _)).trans (box_cell wr #[v0, v1, v2, v3, v4, v5, v6, v7, v8, v9] 39 _), (hb.cell (p := ⟨wr.heap.size, 6, none⟩) (box_lt wr _)).trans (box_cell wr #[v0, v1, v2, v3, v4, v5, v6, v7, v8, v9] 39 _), (hb.cell (p := ⟨wr.heap.size, 7, none⟩) (box_lt wr _)).trans (box_cell wr #[v0, v1, v2, v3, v4, v5, v6, v7, v8, v9] 39 _), (hb.cell (p := ⟨wr.heap.size, 8, none⟩) (box_lt wr _)).trans (box_cell wr #[v0, v1, v2, v3, v4, v5, v6, v7, v8, v9] 39 _), (hb.cell (p := ⟨wr.heap.size, 9, none⟩) (box_lt wr _)).trans (box_cell wr #[v0, v1, v2, v3, v4, v5, v6, v7, v8, v9] 39 _)⟩
    have HX := Lib.hid hbox
    have S8 := fun (w2 : World) hb => S7.on RR.out.hblk (W' := w2) hb
    have HS := Lib.hid S8
    have DS := Lib.hid hds
    have IJ := Lib.hid hij
    cases hq : p u with
    | true =>
     rw [hq] at HC
     clear hu hv hc ho hH hdj hcall hds hbox S8 S7
     go_wp2_with (go_at_fn g; refine HC.out.mono ?_; rintro e w2 ⟨rfl, hb2⟩)
     go_roundg (d.size - (j + 1))
     case measure => omega
     case rel => exact ⟨i, j + 1, dk, rfl, by go_num, by omega, Nat.le_refl _, Lib.hid (HS.out w2 hb2), Lib.hid (I2.out.skip (by rw [HK.out]; show (!p d[j]!) = false; rw [HU.out, hq]; rfl))⟩
    | false =>
     rw [hq] at HC
     obtain ⟨x0, x1, x2, x3, x4, x5, x6, x7, x8, x9, hx⟩ := ten (RR.out.hk dk[i]!)
     have hrow : ∀ w2 : World, Below (wr.alloc (.cells #[v0, v1, v2, v3, v4, v5, v6, v7, v8, v9] 39)).heap.size (wr.alloc (.cells #[v0, v1, v2, v3, v4, v5, v6, v7, v8, v9] 39)) w2 → w2.cell? ⟨blk, off + i * 10, none⟩ = some x0 ∧ w2.frozen? ⟨blk, off + i * 10, none⟩ = false ∧ w2.cell? ⟨blk, off + i * 10 + 1, none⟩ = some x1 ∧ w2.frozen? ⟨blk, off + i * 10 + 1, none⟩ = false ∧ w2.cell? ⟨blk, off + i * 10 + 2, none⟩ = some x2 ∧ w2.frozen? ⟨blk, off + i * 10 + 2, none⟩ = false ∧ w2.cell? ⟨blk, off + i * 10 + 3, none⟩ = some x3 ∧ w2.frozen? ⟨blk, off + i * 10 + 3, none⟩ = false ∧ w2.cell? ⟨blk, off + i * 10 + 4, none⟩ = some x4 ∧ w2.frozen? ⟨blk, off + i * 10 + 4, none⟩ = false ∧ w2.cell? ⟨blk, off + i * 10 + 5, none⟩ = some x5 ∧ w2.frozen? ⟨blk, off + i * 10 + 5, none⟩ = false ∧ w2.cell? ⟨blk, off + i * 10 + 6, none⟩ = some x6 ∧ w2.frozen? ⟨blk, off + i * 10 + 6, none⟩ = false ∧ w2.cell? ⟨blk, off + i * 10 + 7, none⟩ = some x7 ∧ w2.frozen? ⟨blk, off + i * 10 + 7, none⟩ = false ∧ w2.cell? ⟨blk, off + i * 10 + 8, none⟩ = some x8 ∧ w2.frozen? ⟨blk, off + i * 10 + 8, none⟩ = false ∧ w2.cell? ⟨blk, off + i * 10 + 9, none⟩ = some x9 ∧ w2.frozen? ⟨blk, off + i * 10 + 9, none⟩ = false := fun w2 hb => by
      have hH := (HS.out w2 hb).holds RR.out.hH DS.out
      have hc := fun t (ht : t < 10) => HoldsK.cell hH (i := i) (c := t) (by omega) ht
      rw [hx] at hc
      exact ⟨(hc 0 (by decide)).1, (hc 0 (by decide)).2, (hc 1 (by decide)).1, (hc 1 (by decide)).2, (hc 2 (by decide)).1, (hc 2 (by decide)).2, (hc 3 (by decide)).1, (hc 3 (by decide)).2, (hc 4 (by decide)).1, (hc 4 (by decide)).2, (hc 5 (by decide)).1, (hc 5 (by decide)).2, (hc 6 (by decide)).1, (hc 6 (by decide)).2, (hc 7 (by decide)).1, (hc 7 (by decide)).2, (hc 8 (by decide)).1, (hc 8 (by decide)).2, (hc 9 (by decide)).1, (hc 9 (by decide)).2⟩
     have HR := Lib.hid hrow
     have iz : (i : Int) < (d.size : Int) := by omega
     clear hu hv hc ho hH hdj hcall hds hbox S8 S7 hrow hx
     go_wp2_with (go_at_fn g; refine HC.out.mono ?_; rintro e w2 ⟨rfl, hb2⟩; obtain ⟨b0, b1, b2, b3, b4, b5, b6, b7, b8, b9⟩ := HX.out w2 hb2; obtain ⟨r0, f0, r1, f1, r2, f2, r3, f3, r4, f4, r5, f5, r6, f6, r7, f7, r8, f8, r9, f9⟩ := HR.out w2 hb2)
     have S9 := (HS.out w2 hb2).puts RR.out i [u] (by have := DS.out; simp; omega)
     rw [show [u].flatMap enc = [v0, v1, v2, v3, v4, v5, v6, v7, v8, v9] by simp [HV.out]] at S9
     have hk := I2.out.keep hlt (by rw [HK.out]; show (!p d[j]!) = true; rw [HU.out, hq]; rfl)
     rw [HU.out] at hk
     go_roundg (d.size - (j + 1))
     case measure => omega
     case rel => exact ⟨i + 1, j + 1, dk.setIfInBounds i u, by go_num, by go_num, by omega, Nat.le_refl _, Lib.hid S9, Lib.hid hk⟩
   ·
    have hltz : ¬ (j : Int) < (d.size : Int) := by omega
    obtain rfl : j = d.size := by omega
    have hid := I2.out.lt
    have hci : ¬ cap = i := by omega
    have hcl := del_clear SW.out RR.out I2.out.size i (by omega) cap zr HZ.out
    have HCL := Lib.hid hid
    have hiz : (i : Int) ≤ (d.size : Int) := by omega
    have hiz2 : (i : Int) ≤ (cap : Int) := by omega
    have hin : i ≤ d.size := by omega
    have hin2 : i ≤ cap := by omega
    go_wp2
    go_ret
    have hI := I2.out
    have S9 := SW.out.puts RR.out i (List.replicate (d.size - i) zr) (by rw [List.length_replicate, hI.size]; omega)
    rw [hI.done zr] at S9
    rw [hI.len]
    exact ⟨rfl, S9⟩
end
end Go.Proofs.Ytabiekkebdocnaa.Srt
