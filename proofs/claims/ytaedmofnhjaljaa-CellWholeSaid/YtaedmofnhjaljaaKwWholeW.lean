/- CellWhole, walked: the good cells, the row backwards and twice, the parts, the three norms, and each cell found. -/
import Derived.Test.YtaedmofnhjaljaaKwQx35
import Derived.Test.YtaedmofnhjaljaaKwQx36
import Derived.Test.YtaedmofnhjaljaaKwQx37
import Derived.Test.YtaedmofnhjaljaaKwQx38
import Derived.Test.YtaedmofnhjaljaaKwQx9
import Derived.Test.YtaedmofnhjaljaaKwQx14
import Derived.Test.YtaedmofnhjaljaaKwQx12
import Derived.Test.YtaedmofnhjaljaaKwQx15
import Derived.Lib.Hide
import Derived.WalkMore
import Derived.WalkLawsBesides
import Derived.WalkSpells
import Derived.Deep.DeepFit
import Derived.Deep.MidRow
import Derived.Deep.RegionHeld3
import Derived.Deep.AppendLies
import Derived.Deep.DeepCutAuto
import Derived.Outline
namespace Go.Proofs.Ytaedmofnhjaljaa.Wh
open Go Go.RowKit Go.Proofs.YtaedmofnhjaljaaW.PrintWords Go.Proofs.YtaedmofnhjaljaaW.PrintLast Go.Proofs.YtaedmofnhjaljaaW.PrintMore Go.Proofs.Ytaedmofnhjaljaa.Q
attribute [local go_sem] max2_int min2_int max_two min_two max_three min_three max_four min_four
set_option linter.unusedVariables false
set_option linter.unusedSimpArgs false
def backL (l : List (S29)) : List (S29) := l.reverse.flatMap fun c => [c, c]
structure WholeOk (k : Nat) (good : List (S29)) (K : Nat) (all nall n1 n2 nback nparts : List (S29)) : Prop where
 sm1 : n1.length ≤ 1000000
 sm2 : n2.length ≤ 1000000
 eall : cell_Norm.f k good = some all
 en1 : cell_Norm.f k (good.drop K) = some n1
 en2 : cell_Norm.f k (good.take K) = some n2
 enall : cell_Norm.f k all = some nall
 lall : skerryref01_Like.f k nall all = some true
 enback : cell_Norm.f k (backL good) = some nback
 lback : skerryref01_Like.f k nback all = some true
 enparts : cell_Norm.f k (n1 ++ n2) = some nparts
 lparts : skerryref01_Like.f k nparts all = some true
 srt : cell_Sorted.f k all = some true
 find : ∀ c ∈ good, ∃ (t0 : Int) (t1 : Bool) (t2 t3 t4 : Int) (t5 : ByteArray) (q : Int), cell_Find.f all c.f0.f0 c.f0.f1 c.f0.f2 c.f0.f3 = some (t0, t1, t2, t3, t4, t5, true) ∧
  cell_Cmp.f k t0 t1 t2 t3 t4 t5 c.f1.f0 c.f1.f1 c.f1.f2 c.f1.f3.f0 c.f1.f3.f1 c.f1.f3.f2 = some q ∧ 0 ≤ q
 cmp0 : ∀ c ∈ good, skerryref04_Cmp.f c.f0.f0 c.f0.f1 c.f0.f2 c.f0.f3 c.f0.f0 c.f0.f1 c.f0.f2 c.f0.f3 = some 0
theorem below_of {w w1 w2 : World} (h : Below w.heap.size w w1) (k : Below w1.heap.size w1 w2) : Below w.heap.size w w2 := below_step h k
theorem filt_snoc (gB : S29 → Bool) (l : List (S29)) (i : Nat) (h : i < l.length) : (l.take (i + 1)).filter gB = (l.take i).filter gB ++ (if gB l[i] = true then [l[i]] else []) := by
 rw [List.take_succ_eq_append_getElem h, List.filter_append]
 congr 1
 by_cases hg : gB l[i] = true
 ·
  rw [if_pos hg]; simp [List.filter_cons, hg]
 ·
  rw [if_neg hg]; simp [List.filter_cons, hg]
theorem add_cell {w : World} {b o n : Nat} {u : Value} (h : w.cell? ((⟨b, o, none⟩ : Addr).add n) = some u) : w.cell? ⟨b, o + n, none⟩ = some u := by
 unfold Addr.add at h
 split at h
 ·
  rename_i hn; rw [hn, Nat.add_zero]; exact h
 ·
  exact h
theorem cells10 {w : World} {A : Option Addr} {l : List (S29)} (h : Kd.C k29 w A l.length l) {i : Nat} (hi : i < l.length) {x : S29} (hx : l[i] = x) : ∃ b o, A = some ⟨b, o, none⟩ ∧ b < w.heap.size ∧
  ∀ j u, [Value.string x.f0.f0, .string x.f0.f1, .int .i64 x.f0.f2, .string x.f0.f3, .int .i64 x.f1.f0, .bool x.f1.f1, .int .i64 x.f1.f2, .int .i64 x.f1.f3.f0, .int .i64 x.f1.f3.f1, .string x.f1.f3.f2][j]? = some u → w.cell? ⟨b, o + (i * 10 + j), none⟩ = some u := by
 obtain ⟨⟨b, o, s⟩, e, hc⟩ := h.2.2 (by omega)
 have hs : s = none := by
  obtain ⟨c, h1, h2, h3⟩ := hc 0 _ (List.getElem?_eq_getElem (by omega))
  obtain rfl := k29_open h2
  have h4 := h3 0 _ rfl
  cases s with
  | none => rfl
  | some q => exfalso; simp [World.cell?, Addr.add] at h4; split at h4 <;> simp at h4
 subst hs
 obtain ⟨c, h1, h2, h3⟩ := hc i x (by rw [List.getElem?_eq_getElem hi, hx])
 obtain rfl := k29_open h2
 exact ⟨b, o, e, World.block_lt_of_cell? w _ (add_cell (h3 0 _ rfl)), fun j u hu => add_cell (h3 j u hu)⟩
theorem two_C {w : World} {g : Nat} {t : TypeId} {x : S29} (h : w.heap[g]? = some (.cells #[.string x.f0.f0, .string x.f0.f1, .int .i64 x.f0.f2, .string x.f0.f3, .int .i64 x.f1.f0, .bool x.f1.f1, .int .i64 x.f1.f2, .int .i64 x.f1.f3.f0, .int .i64 x.f1.f3.f1, .string x.f1.f3.f2, .string x.f0.f0, .string x.f0.f1, .int .i64 x.f0.f2, .string x.f0.f3, .int .i64 x.f1.f0, .bool x.f1.f1, .int .i64 x.f1.f2, .int .i64 x.f1.f3.f0, .int .i64 x.f1.f3.f1, .string x.f1.f3.f2] t (0, 0))) : Kd.C k29 w (some ⟨g, 0, none⟩) 2 [x, x] := by
 refine ⟨rfl, by decide, fun _ => ⟨_, rfl, fun j p hp => ?_⟩⟩
 have hj : j < 2 := (List.getElem?_eq_some_iff.1 hp).1
 have hpx : p = x := by
  rcases Nat.lt_or_ge j 1 with h1 | h1
  ·
   obtain rfl : j = 0 := by omega
   simpa using hp.symm
  ·
   obtain rfl : j = 1 := by omega
   simpa using hp.symm
 subst hpx
 refine ⟨_, rfl, k29_mk _ p, fun q u hu => ?_⟩
 have hq : q < 10 := (List.getElem?_eq_some_iff.1 hu).1
 have hadd : ((⟨g, 0, none⟩ : Addr).add (j * 10 + q)) = ⟨g, j * 10 + q, none⟩ := by
  unfold Addr.add
  split
  ·
   rename_i hz; simp [hz]
  ·
   simp
 show w.cell? ((⟨g, 0, none⟩ : Addr).add (j * 10 + q)) = some u
 rw [hadd, blk_cell h]
 rw [← hu]
 rcases Nat.lt_or_ge j 1 with h1 | h1
 ·
  obtain rfl : j = 0 := by omega
  match q, hq with
  | 0, _ | 1, _ | 2, _ | 3, _ | 4, _ | 5, _ | 6, _ | 7, _ | 8, _ | 9, _ => rfl
 ·
  obtain rfl : j = 1 := by omega
  match q, hq with
  | 0, _ | 1, _ | 2, _ | 3, _ | 4, _ | 5, _ | 6, _ | 7, _ | 8, _ | 9, _ => rfl
def bk (l : List (S29)) (m : Nat) : List (S29) := backL (l.drop m)
theorem bk_step (l : List (S29)) (m : Nat) (h : m < l.length) : bk l (m + 1) ++ [l[m], l[m]] = bk l m := by
 unfold bk backL
 rw [List.drop_eq_getElem_cons h, List.reverse_cons, List.flatMap_append]; simp
theorem bk_len (l : List (S29)) (m : Nat) : (bk l m).length ≤ 2 * l.length := by
 have : ∀ l : List (S29), (l.flatMap fun c => [c, c]).length = 2 * l.length := fun l => by
  induction l with
  | nil => rfl
  | cons x l ih => rw [List.flatMap_cons, List.length_append, ih]; simp; omega
 unfold bk backL
 rw [this, List.length_reverse, List.length_drop]; omega
theorem norm_drop (k : Nat) (A : Option Addr) (c m : Nat) (l r : List (S29)) (W : World) (hC : Kd.C k29 W A l.length l) (hm : m ≤ l.length) (hc : l.length ≤ c) (h : cell_Norm.f k (l.drop m) = some r) (hne : ¬ c = m) :
  Calls Try.prog 21 #[.slice (Option.map (fun x => x.add (m * 10)) A) (l.length - m) (c - m)] W fun e w' => ∃ v0_ : Value, e = .returned v0_ ∧ Kd.R k29 29 w' W.heap.size (fun _ => True) v0_ r ∧ Below W.heap.size W w' := by
 have h1 := Kd.C_drop hC hm hc
 rw [if_neg hne] at h1
 have h2 := cell_Norm.calls k (A.map (·.add (m * k29.sz))) (c - m) (l.drop m) r W h1 (by rw [List.length_drop]; omega) h
 rw [List.length_drop] at h2
 exact h2
theorem norm_take (k : Nat) (A : Option Addr) (c m : Nat) (l r : List (S29)) (W : World) (hC : Kd.C k29 W A l.length l) (hm : m ≤ l.length) (hc : l.length ≤ c) (h : cell_Norm.f k (l.take m) = some r) :
  Calls Try.prog 21 #[.slice A m c] W fun e w' => ∃ v0_ : Value, e = .returned v0_ ∧ Kd.R k29 29 w' W.heap.size (fun _ => True) v0_ r ∧ Below W.heap.size W w' := by
 have h2 := cell_Norm.calls k A c (l.take m) r W (Kd.C_take hC hm) (by rw [List.length_take]; omega) h
 rw [List.length_take, Nat.min_eq_left hm] at h2
 exact h2
theorem norm_none (k : Nat) (A : Option Addr) (l r : List (S29)) (W : World) (hC : Kd.C k29 W A l.length l) (h : cell_Norm.f k (l.drop l.length) = some r) :
  Calls Try.prog 21 #[.slice A 0 0] W fun e w' => ∃ v0_ : Value, e = .returned v0_ ∧ Kd.R k29 29 w' W.heap.size (fun _ => True) v0_ r ∧ Below W.heap.size W w' := by
 have h1 := Kd.C_drop hC (Nat.le_refl _) (Nat.le_refl _)
 rw [if_pos rfl] at h1
 have h2 := cell_Norm.calls k A 0 (l.drop l.length) r W h1 (by rw [List.length_drop]; omega) h
 rw [List.length_drop, Nat.sub_self] at h2
 exact h2
set_option maxHeartbeats 8000000 in
set_option maxRecDepth 1000000 in
theorem walk (A0 : Option Addr) (c0 : Nat) (l0 : List (S29)) (cut : Int) (w : World) (hr0 : Kd.C k29 w A0 l0.length l0) (hc0 : l0.length ≤ c0) (k : Nat) (r : Int)
  (hcut : 0 ≤ cut ∧ cut < 18446744073709551616) (gB : S29 → Bool) (all nall n1 n2 nback nparts : List (S29)) (K : Nat) (hK : (K : Int) = cut % (((l0.filter gB).length + 1 : Nat) : Int))
  (hG : ∀ c : S29, cell_Good.f c.f0.f0 c.f0.f1 c.f0.f2 c.f0.f3 c.f1.f0 c.f1.f1 c.f1.f2 c.f1.f3.f0 c.f1.f3.f1 c.f1.f3.f2 = some (gB c))
  (hwt : skerrylaw05_weigh.f k l0 300 = some r) (hlv : skerrylaw05_lives.f k = some true) (hsm : ¬ r > 300 → l0.length ≤ 1000000 ∧ WholeOk k (l0.filter gB) K all nall n1 n2 nback nparts) :
  Calls Try.prog 8 #[.slice A0 l0.length c0, .int .u64 cut] w fun e w' => e = .returned (.bool true) ∧ Below w.heap.size w w' := by
 have HR := Lib.hid hr0
 have HLV := Lib.hid hlv
 have HWT := Lib.hid hwt
 have HG := Lib.hid hG
 have HK := Lib.hid hK
 have HCUT := Lib.hid hcut
 clear hr0 hlv hwt hG hK hcut
 by_cases hr : r > 300
 ·
  have hr1 : (300 : Int) < r := hr
  clear hsm
  go_enter Try.func8, Try.ntmps8
  go_wp2_with fail
  refine (skerrylaw05_weigh.calls k A0 c0 l0 300 r _ HR.out hc0 HWT.out).mono ?_
  rintro e w1 ⟨rfl, hb⟩
  have HB := Lib.hid hb
  clear hb
  go_wp2_with fail
  refine (skerrylaw05_lives.calls k true _ HLV.out).mono ?_
  rintro e w2 ⟨rfl, hb⟩
  have HB2 := Lib.hid hb
  clear hb
  go_wp2
  go_ret
  exact ⟨rfl, below_of HB.out HB2.out⟩
 ·
  have hr1 : ¬ (300 : Int) < r := hr
  have HS := Lib.hid (hsm hr).2
  have hlen : l0.length ≤ 1000000 := (hsm hr).1
  clear hsm
  go_enter Try.func8, Try.ntmps8
  go_wp2_with fail
  refine (skerrylaw05_weigh.calls k A0 c0 l0 300 r _ HR.out hc0 HWT.out).mono ?_
  rintro e w1 ⟨rfl, hb⟩
  have HB := Lib.hid hb
  clear hb
  go_wp2_with fail
  go_loopg [5, 23] l0.length (fun g1 v5 vi wr => ∃ i : Nat, vi = .int .i64 i ∧ i ≤ l0.length ∧ l0.length - i ≤ g1 ∧ Hid (Kd.R k29 29 wr w.heap.size (fun _ => True) v5 ((l0.take i).filter gB)) ∧ Hid (Below w.heap.size w wr))
  case atStart => exact ⟨0, rfl, Nat.zero_le _, by omega, Lib.hid (Kd.R_nil _ _ _ _ _), HB⟩
  case round =>
   clear HB
   obtain ⟨i, rfl, hi, hg1, HO, HB⟩ := hrel
   by_cases hlt : i < l0.length
   ·
    have hltz : (i : Int) < (l0.length : Int) := by omega
    obtain ⟨x, hx⟩ : ∃ x, l0[i] = x := ⟨_, rfl⟩
    obtain ⟨b, o, e0, hbl, hcc⟩ := cells10 (Kd.C_below HR.out HB.out) hlt hx
    subst e0
    have y0 : wr.cell? ⟨b, o + i * 10, none⟩ = some (.string x.f0.f0) := hcc 0 _ rfl
    have y1 : wr.cell? ⟨b, o + i * 10 + 1, none⟩ = some (.string x.f0.f1) := by rw [Nat.add_assoc]; exact hcc 1 _ rfl
    have y2 : wr.cell? ⟨b, o + i * 10 + 2, none⟩ = some (.int .i64 x.f0.f2) := by rw [Nat.add_assoc]; exact hcc 2 _ rfl
    have y3 : wr.cell? ⟨b, o + i * 10 + 3, none⟩ = some (.string x.f0.f3) := by rw [Nat.add_assoc]; exact hcc 3 _ rfl
    have y4 : wr.cell? ⟨b, o + i * 10 + 4, none⟩ = some (.int .i64 x.f1.f0) := by rw [Nat.add_assoc]; exact hcc 4 _ rfl
    have y5 : wr.cell? ⟨b, o + i * 10 + 5, none⟩ = some (.bool x.f1.f1) := by rw [Nat.add_assoc]; exact hcc 5 _ rfl
    have y6 : wr.cell? ⟨b, o + i * 10 + 6, none⟩ = some (.int .i64 x.f1.f2) := by rw [Nat.add_assoc]; exact hcc 6 _ rfl
    have y7 : wr.cell? ⟨b, o + i * 10 + 7, none⟩ = some (.int .i64 x.f1.f3.f0) := by rw [Nat.add_assoc]; exact hcc 7 _ rfl
    have y8 : wr.cell? ⟨b, o + i * 10 + 8, none⟩ = some (.int .i64 x.f1.f3.f1) := by rw [Nat.add_assoc]; exact hcc 8 _ rfl
    have y9 : wr.cell? ⟨b, o + i * 10 + 9, none⟩ = some (.string x.f1.f3.f2) := by rw [Nat.add_assoc]; exact hcc 9 _ rfl
    have HG1 := Lib.hid (HG.out x)
    have HF := Lib.hid (filt_snoc gB l0 i hlt)
    have HX := Lib.hid hx
    clear hcc hx
    by_cases hg : gB x = true
    ·
     have HG2 := Lib.hid hg
     go_wp2_with fail
     refine (cell_Good.calls x.f0.f0 x.f0.f1 x.f0.f2 x.f0.f3 x.f1.f0 x.f1.f1 x.f1.f2 x.f1.f3.f0 x.f1.f3.f1 x.f1.f3.f2 true _ (HG1.out.trans (by rw [HG2.out]))).mono ?_
     rintro e w2 ⟨rfl, hb⟩
     have HBX := Lib.hid (show w2.heap[wr.heap.size]? = some (.cells #[.string x.f0.f0, .string x.f0.f1, .int .i64 x.f0.f2, .string x.f0.f3, .int .i64 x.f1.f0, .bool x.f1.f1, .int .i64 x.f1.f2, .int .i64 x.f1.f3.f0, .int .i64 x.f1.f3.f1, .string x.f1.f3.f2] 29 (0, 0)) from blk_below (blk_new wr _) hb)
     have HO2 := Lib.hid (Kd.R_below (Kd.R_alloc HO.out _) hb)
     have HB2 := Lib.hid (below_of (below_alloc HB.out _) hb)
     have hsz : wr.heap.size < w2.heap.size := blk_lt HBX.out
     clear hb
     clear y0 y1 y2 y3 y4 y5 y6 y7 y8 y9
     have z0 : w2.cell? ⟨wr.heap.size, 0, none⟩ = some (.string x.f0.f0) := (blk_cell HBX.out 0).trans rfl
     have z1 : w2.cell? ⟨wr.heap.size, 1, none⟩ = some (.string x.f0.f1) := (blk_cell HBX.out 1).trans rfl
     have z2 : w2.cell? ⟨wr.heap.size, 2, none⟩ = some (.int .i64 x.f0.f2) := (blk_cell HBX.out 2).trans rfl
     have z3 : w2.cell? ⟨wr.heap.size, 3, none⟩ = some (.string x.f0.f3) := (blk_cell HBX.out 3).trans rfl
     have z4 : w2.cell? ⟨wr.heap.size, 4, none⟩ = some (.int .i64 x.f1.f0) := (blk_cell HBX.out 4).trans rfl
     have z5 : w2.cell? ⟨wr.heap.size, 5, none⟩ = some (.bool x.f1.f1) := (blk_cell HBX.out 5).trans rfl
     have z6 : w2.cell? ⟨wr.heap.size, 6, none⟩ = some (.int .i64 x.f1.f2) := (blk_cell HBX.out 6).trans rfl
     have z7 : w2.cell? ⟨wr.heap.size, 7, none⟩ = some (.int .i64 x.f1.f3.f0) := (blk_cell HBX.out 7).trans rfl
     have z8 : w2.cell? ⟨wr.heap.size, 8, none⟩ = some (.int .i64 x.f1.f3.f1) := (blk_cell HBX.out 8).trans rfl
     have z9 : w2.cell? ⟨wr.heap.size, 9, none⟩ = some (.string x.f1.f3.f2) := (blk_cell HBX.out 9).trans rfl
     have hfl : ((l0.take i).filter gB).length ≤ 1000000 := by
      have h1 := List.length_filter_le gB (l0.take i)
      rw [List.length_take] at h1; omega
     go_wp2_with ((with_reducible refine gate_builtin (b := .append) (xs := #[.tmp 29, .tmp 31]) rfl ?_); at_builtin; refine Kd.R_append k29 (w0 := w) w.heap.size rfl (.tmp 29) (.tmp 31) 31 29 (.agg #[(.string ⟨#[]⟩), (.string ⟨#[]⟩), (.int .i64 0), (.string ⟨#[]⟩), (.int .i64 0), (.bool false), (.int .i64 0), (.int .i64 0), (.int .i64 0), (.string ⟨#[]⟩)]) 112 rfl Try.underlying31 info29 rfl (by decide) (by omega) u5 ((l0.take i).filter gB) x [.string x.f0.f0, .string x.f0.f1, .int .i64 x.f0.f2, .string x.f0.f3, .int .i64 x.f1.f0, .bool x.f1.f1, .int .i64 x.f1.f2, .int .i64 x.f1.f3.f0, .int .i64 x.f1.f3.f1, .string x.f1.f3.f2] (fun _ => True) (fun _ => False) rfl (by first | (go_simp; done) | (go_simp; rfl)) ?aP (fun _ hk => hk.elim) (fun _ _ => trivial) ?aO ?aB ?aS ?aL ?_; (case aP => exact k29_mkM _ _ _ x); (case aO => exact HO2.out); (case aB => exact HB2.out); (case aS => exact HB2.out.size); (case aL => omega); intro v32 w3 ho3 hb3 hg3 hat3; have HO3 := Lib.hid ho3; have HB3 := Lib.hid hb3; clear ho3 hb3 hg3 hat3)
     go_roundg (l0.length - (i + 1))
     case measure => omega
     case rel => exact ⟨i + 1, by go_num, by omega, Nat.le_refl _, Lib.hid (by rw [HF.out, HX.out, if_pos HG2.out]; exact HO3.out), HB3⟩
    ·
     have hg0 : gB x = false := Bool.eq_false_iff.mpr hg
     have HG2 := Lib.hid hg0
     have HG3 := Lib.hid hg
     clear hg hg0
     go_wp2_with fail
     refine (cell_Good.calls x.f0.f0 x.f0.f1 x.f0.f2 x.f0.f3 x.f1.f0 x.f1.f1 x.f1.f2 x.f1.f3.f0 x.f1.f3.f1 x.f1.f3.f2 false _ (HG1.out.trans (by rw [HG2.out]))).mono ?_
     rintro e w2 ⟨rfl, hb⟩
     have HO2 := Lib.hid (Kd.R_below (Kd.R_alloc HO.out _) hb)
     have HB2 := Lib.hid (below_of (below_alloc HB.out _) hb)
     clear hb
     go_wp2_with fail
     go_roundg (l0.length - (i + 1))
     case measure => omega
     case rel => exact ⟨i + 1, by go_num, by omega, Nat.le_refl _, Lib.hid (by rw [HF.out, HX.out, if_neg HG3.out, List.append_nil]; exact HO2.out), HB2⟩
   ·
    have hltz : ¬ (i : Int) < (l0.length : Int) := by omega
    obtain rfl : i = l0.length := by omega
    have ho := HO.out
    rw [List.take_of_length_le (Nat.le_refl _)] at ho
    obtain ⟨Ag, cg, rfl⟩ := Kd.R_slice ho
    have HGC := Lib.hid (Kd.R_reads' ho).2.2
    have hcg : (l0.filter gB).length ≤ cg := (Kd.R_reads' ho).2.1
    clear ho
    obtain ⟨G, hGe⟩ : ∃ G, G = l0.filter gB := ⟨_, rfl⟩
    rw [← hGe] at HGC hcg HS HK
    have hGl : G.length ≤ 1000000 := by rw [hGe]; exact Nat.le_trans (List.length_filter_le _ _) hlen
    rw [← hGe]
    clear hGe HO hg1 hltz hi
    -- all
    go_wp2_with fail
    refine (cell_Norm.calls k Ag cg G all _ HGC.out hcg HS.out.eall).mono ?_
    rintro e w2 ⟨v8, rfl, ho8, hb⟩
    obtain ⟨Aa, ca, rfl⟩ := Kd.R_slice ho8
    have HAC := Lib.hid (Kd.R_reads' ho8).2.2
    have hca : all.length ≤ ca := (Kd.R_reads' ho8).2.1
    have HGC2 := Lib.hid (Kd.C_below HGC.out hb)
    have HB2 := Lib.hid (below_of HB.out hb)
    clear ho8 hb HGC HB
    have hke : cut % ((G.length : Int) + 1) = (K : Int) := by have := HK.out; rw [this]; congr 1
    have hKl : K ≤ G.length := by have h1 := HCUT.out.1; have := Int.emod_lt_of_pos cut (show (0 : Int) < (G.length : Int) + 1 by omega); omega
    have hkw : wrap64 (K : Int) = (K : Int) := by unfold wrap64; omega
    have hcut0 := HCUT.out.1
    have hcut1 := HCUT.out.2
    go_wp2_with fail
    clear hke hkw hcut0 hcut1
    go_loopg [10, 11] G.length (fun g1 v10 vi wr => ∃ m : Nat, ((m = 0 ∧ vi = .int .i64 (-1)) ∨ (∃ q : Nat, m = q + 1 ∧ vi = .int .i64 (q : Int))) ∧ m ≤ G.length ∧ m ≤ g1 ∧ Hid (Kd.R k29 29 wr w2.heap.size (fun _ => True) v10 (bk G m)) ∧ Hid (Below w2.heap.size w2 wr))
    case atStart =>
     refine ⟨G.length, ?_, Nat.le_refl _, Nat.le_refl _, Lib.hid (by rw [show bk G G.length = [] by unfold bk backL; simp]; exact Kd.R_nil _ _ _ _ _), Lib.hid (Below.refl _ _)⟩
     rcases Nat.eq_zero_or_pos G.length with h0 | h0
     ·
      exact .inl ⟨h0, by rw [h0] <;> go_num⟩
     ·
      exact .inr ⟨G.length - 1, by omega, by congr 1; omega⟩
    case round =>
     obtain ⟨m, hm, hmG, hmg, HO, HB⟩ := hrel
     rcases hm with ⟨rfl, rfl⟩ | ⟨q, rfl, rfl⟩
     ·
      clear hmG hmg
      have ho := HO.out
      obtain ⟨Ab, cb, rfl⟩ := Kd.R_slice ho
      have HBC := Lib.hid (show Kd.C k29 wr Ab (backL G).length (backL G) from (Kd.R_reads' ho).2.2)
      have hcb : (backL G).length ≤ cb := (Kd.R_reads' ho).2.1
      have HGC3 := Lib.hid (Kd.C_below HGC2.out HB.out)
      have HAC3 := Lib.hid (Kd.C_below HAC.out HB.out)
      have HB3 := Lib.hid (below_of HB2.out HB.out)
      clear ho HO HB HGC2 HAC HB2
      have hKz : (K : Int) ≤ (G.length : Int) := by omega
      have hKy : 0 ≤ (K : Int) := by omega
      have hKc : (K : Int) ≤ (cg : Int) := by omega
      have hs1 := HS.out.sm1
      have hs2 := HS.out.sm2
      go_upto_region 17 with fail
      go_cut [12] (fun v12 wx => ∃ (Ap : Option Addr) (cp : Nat) (pl : List (S29)), v12 = .slice Ap pl.length cp ∧ pl.length ≤ cp ∧ Hid (pl = n1 ++ n2) ∧ Hid (Kd.C k29 wx Ap pl.length pl) ∧ Hid (Below wr.heap.size wr wx))
      case first =>
       by_cases hcK : cg = K
       ·
        subst hcK
        have EN1 := Lib.hid (show cell_Norm.f k (G.drop G.length) = some n1 by have h := HS.out.en1; rw [show cg = G.length by omega] at h; exact h)
        have EN2 := Lib.hid HS.out.en2
        go_region_held3 (fun _ => True) (trivial) ((first
        | (go_at_call 21; (with_reducible refine (norm_none k Ag G n1 _ (Kd.C_drew HGC3.out) EN1.out).mono ?_); rintro e w4 ⟨v4, rfl, ho4, hb4⟩; have HO4 := Lib.hid ho4; have HB4 := Lib.hid (below_then (below_drew (Below.refl wr.heap.size wr)) (Nat.le_refl _) hb4); clear ho4 hb4)
        | (go_at_call 21; (with_reducible refine (norm_take k Ag cg cg G n2 w4 (Kd.C_below HGC3.out HB4.out) hKl hcg EN2.out).mono ?_); rintro e w5 ⟨v5, rfl, ho5, hb5⟩; obtain ⟨A5, c5, rfl⟩ := Kd.R_slice ho5; have HC5 := Lib.hid (Kd.R_reads' ho5).2.2; have HO5 := Lib.hid (Kd.R_below HO4.out hb5); have HB5 := Lib.hid (below_of HB4.out hb5); clear ho5 hb5)
        | (refine Kd.R_append_rows_step k29 (w0 := wr) wr.heap.size (by rfl) (.tmp 64) (.tmp 68) 31 29 (.agg #[(.string ⟨#[]⟩), (.string ⟨#[]⟩), (.int .i64 0), (.string ⟨#[]⟩), (.int .i64 0), (.bool false), (.int .i64 0), (.int .i64 0), (.int .i64 0), (.string ⟨#[]⟩)]) 112 (by rfl) Try.underlying31 info29 rfl (by decide) (by omega) v4 n1 n2 _ _ _ (fun _ => True) (fun _ => False) (by rfl) (by rfl) ?aO ?aR (fun _ _ h => h) (fun _ h => h.elim) (fun _ _ => trivial) ?aB ?aS ?aL ?_; (case aO => exact (by (with_reducible repeat (first | apply Kd.R_alloc | apply Kd.R_drewN | apply Kd.R_drew)); exact HO5.out)); (case aR => (repeat (first | exact HC5.out | (with_reducible refine Kd.C_alloc ?_ _) | (with_reducible refine Kd.C_drewN ?_ _) | (with_reducible refine Kd.C_drew ?_)))); (case aB => exact (by repeat (first | (with_reducible first | exact HB5.out | apply below_alloc | apply pw_below_drewN | apply below_drew1) | exact HB5.out))); (case aS => exact (below_size (by repeat (first | (with_reducible first | exact HB5.out | apply below_alloc | apply pw_below_drewN | apply below_drew1) | exact HB5.out)))); (case aL => omega); intro v6 w6 ho6 hb6 hg6 hat6; obtain ⟨Ap, cp, rfl⟩ := Kd.R_slice ho6; have HO6 := Lib.hid ho6; have HB6 := Lib.hid hb6; clear ho6 hb6 hg6 hat6)))
        all_goals (go_wp2_with fail)
        go_meet
        case rel => exact ⟨Ap, cp, n1 ++ n2, by rw [List.length_append], (Kd.R_reads' HO6.out).2.1, Lib.hid rfl, Lib.hid (Kd.R_reads' HO6.out).2.2, HB6⟩
       ·
        have EN1 := Lib.hid HS.out.en1
        have EN2 := Lib.hid HS.out.en2
        go_region_held3 (fun _ => True) (trivial) ((first
        | (go_at_call 21; (with_reducible refine (norm_drop k Ag cg K G n1 _ (Kd.C_drew HGC3.out) hKl hcg EN1.out hcK).mono ?_); rintro e w4 ⟨v4, rfl, ho4, hb4⟩; have HO4 := Lib.hid ho4; have HB4 := Lib.hid (below_then (below_drew (Below.refl wr.heap.size wr)) (Nat.le_refl _) hb4); clear ho4 hb4)
        | (go_at_call 21; (with_reducible refine (norm_take k Ag cg K G n2 w4 (Kd.C_below HGC3.out HB4.out) hKl hcg EN2.out).mono ?_); rintro e w5 ⟨v5, rfl, ho5, hb5⟩; obtain ⟨A5, c5, rfl⟩ := Kd.R_slice ho5; have HC5 := Lib.hid (Kd.R_reads' ho5).2.2; have HO5 := Lib.hid (Kd.R_below HO4.out hb5); have HB5 := Lib.hid (below_of HB4.out hb5); clear ho5 hb5)
        | (refine Kd.R_append_rows_step k29 (w0 := wr) wr.heap.size (by rfl) (.tmp 64) (.tmp 68) 31 29 (.agg #[(.string ⟨#[]⟩), (.string ⟨#[]⟩), (.int .i64 0), (.string ⟨#[]⟩), (.int .i64 0), (.bool false), (.int .i64 0), (.int .i64 0), (.int .i64 0), (.string ⟨#[]⟩)]) 112 (by rfl) Try.underlying31 info29 rfl (by decide) (by omega) v4 n1 n2 _ _ _ (fun _ => True) (fun _ => False) (by rfl) (by rfl) ?aO ?aR (fun _ _ h => h) (fun _ h => h.elim) (fun _ _ => trivial) ?aB ?aS ?aL ?_; (case aO => exact (by (with_reducible repeat (first | apply Kd.R_alloc | apply Kd.R_drewN | apply Kd.R_drew)); exact HO5.out)); (case aR => (repeat (first | exact HC5.out | (with_reducible refine Kd.C_alloc ?_ _) | (with_reducible refine Kd.C_drewN ?_ _) | (with_reducible refine Kd.C_drew ?_)))); (case aB => exact (by repeat (first | (with_reducible first | exact HB5.out | apply below_alloc | apply pw_below_drewN | apply below_drew1) | exact HB5.out))); (case aS => exact (below_size (by repeat (first | (with_reducible first | exact HB5.out | apply below_alloc | apply pw_below_drewN | apply below_drew1) | exact HB5.out)))); (case aL => omega); intro v6 w6 ho6 hb6 hg6 hat6; obtain ⟨Ap, cp, rfl⟩ := Kd.R_slice ho6; have HO6 := Lib.hid ho6; have HB6 := Lib.hid hb6; clear ho6 hb6 hg6 hat6)))
        all_goals (go_wp2_with fail)
        go_meet
        case rel => exact ⟨Ap, cp, n1 ++ n2, by rw [List.length_append], (Kd.R_reads' HO6.out).2.1, Lib.hid rfl, Lib.hid (Kd.R_reads' HO6.out).2.2, HB6⟩
      case rest =>
       obtain ⟨Ap, cp, pl, rfl, hcp, HPE, HPC4, HBP⟩ := hcut
       have EP := Lib.hid (show cell_Norm.f k pl = some nparts by rw [HPE.out]; exact HS.out.enparts)
       have HAC4 := Lib.hid (Kd.C_below HAC3.out HBP.out)
       have HBC4 := Lib.hid (Kd.C_below HBC.out HBP.out)
       have HGC4 := Lib.hid (Kd.C_below HGC3.out HBP.out)
       have HB4 := Lib.hid (below_of HB3.out HBP.out)
       clear HAC3 HBC HGC3 HBP HB3
       go_wp2_with fail
       refine (cell_Norm.calls k Aa ca all nall _ HAC4.out hca HS.out.enall).mono ?_
       rintro e w5 ⟨v5, rfl, ho, hb⟩
       obtain ⟨A5, c5, rfl⟩ := Kd.R_slice ho
       have HC5 := Lib.hid (Kd.R_reads' ho).2.2
       have hc5 : nall.length ≤ c5 := (Kd.R_reads' ho).2.1
       have HAC5 := Lib.hid (Kd.C_below HAC4.out hb)
       have HBC5 := Lib.hid (Kd.C_below HBC4.out hb)
       have HGC5 := Lib.hid (Kd.C_below HGC4.out hb)
       have HPC5 := Lib.hid (Kd.C_below HPC4.out hb)
       have HB5 := Lib.hid (below_of HB4.out hb)
       clear ho hb HAC4 HBC4 HGC4 HPC4 HB4
       go_wp2_with fail
       refine (skerryref01_Like.calls k A5 c5 nall Aa ca all true _ HC5.out hc5 HAC5.out hca HS.out.lall).mono ?_
       rintro e w6 ⟨rfl, ⟨q6, rfl⟩⟩
       have HAC6 := Lib.hid (Kd.C_drewN HAC5.out q6)
       have HBC6 := Lib.hid (Kd.C_drewN HBC5.out q6)
       have HGC6 := Lib.hid (Kd.C_drewN HGC5.out q6)
       have HPC6 := Lib.hid (Kd.C_drewN HPC5.out q6)
       have HB6 := Lib.hid (pw_below_drewN HB5.out q6)
       clear HAC5 HBC5 HGC5 HPC5 HB5 HC5
       generalize w5.drewN q6 = w6 at HAC6 HBC6 HGC6 HPC6 HB6 ⊢
       go_wp2_with fail
       refine (cell_Norm.calls k Ab cb (backL G) nback _ HBC6.out hcb HS.out.enback).mono ?_
       rintro e w7 ⟨v7, rfl, ho, hb⟩
       obtain ⟨A7, c7, rfl⟩ := Kd.R_slice ho
       have HC7 := Lib.hid (Kd.R_reads' ho).2.2
       have hc7 : nback.length ≤ c7 := (Kd.R_reads' ho).2.1
       have HAC7 := Lib.hid (Kd.C_below HAC6.out hb)
       have HBC7 := Lib.hid (Kd.C_below HBC6.out hb)
       have HGC7 := Lib.hid (Kd.C_below HGC6.out hb)
       have HPC7 := Lib.hid (Kd.C_below HPC6.out hb)
       have HB7 := Lib.hid (below_of HB6.out hb)
       clear ho hb HAC6 HBC6 HGC6 HPC6 HB6
       go_wp2_with fail
       refine (skerryref01_Like.calls k A7 c7 nback Aa ca all true _ HC7.out hc7 HAC7.out hca HS.out.lback).mono ?_
       rintro e w8 ⟨rfl, ⟨q8, rfl⟩⟩
       have HAC8 := Lib.hid (Kd.C_drewN HAC7.out q8)
       have HBC8 := Lib.hid (Kd.C_drewN HBC7.out q8)
       have HGC8 := Lib.hid (Kd.C_drewN HGC7.out q8)
       have HPC8 := Lib.hid (Kd.C_drewN HPC7.out q8)
       have HB8 := Lib.hid (pw_below_drewN HB7.out q8)
       clear HAC7 HBC7 HGC7 HPC7 HB7 HC7
       generalize w7.drewN q8 = w8 at HAC8 HBC8 HGC8 HPC8 HB8 ⊢
       go_wp2_with fail
       refine (cell_Norm.calls k Ap cp pl nparts _ HPC8.out hcp EP.out).mono ?_
       rintro e w9 ⟨v9, rfl, ho, hb⟩
       obtain ⟨A9, c9, rfl⟩ := Kd.R_slice ho
       have HC9 := Lib.hid (Kd.R_reads' ho).2.2
       have hc9 : nparts.length ≤ c9 := (Kd.R_reads' ho).2.1
       have HAC9 := Lib.hid (Kd.C_below HAC8.out hb)
       have HBC9 := Lib.hid (Kd.C_below HBC8.out hb)
       have HGC9 := Lib.hid (Kd.C_below HGC8.out hb)
       have HPC9 := Lib.hid (Kd.C_below HPC8.out hb)
       have HB9 := Lib.hid (below_of HB8.out hb)
       clear ho hb HAC8 HBC8 HGC8 HPC8 HB8
       go_wp2_with fail
       refine (skerryref01_Like.calls k A9 c9 nparts Aa ca all true _ HC9.out hc9 HAC9.out hca HS.out.lparts).mono ?_
       rintro e w10 ⟨rfl, ⟨q10, rfl⟩⟩
       have HAC10 := Lib.hid (Kd.C_drewN HAC9.out q10)
       have HBC10 := Lib.hid (Kd.C_drewN HBC9.out q10)
       have HGC10 := Lib.hid (Kd.C_drewN HGC9.out q10)
       have HPC10 := Lib.hid (Kd.C_drewN HPC9.out q10)
       have HB10 := Lib.hid (pw_below_drewN HB9.out q10)
       clear HAC9 HBC9 HGC9 HPC9 HB9 HC9
       generalize w9.drewN q10 = w10 at HAC10 HBC10 HGC10 HPC10 HB10 ⊢
       go_wp2_with fail
       refine (cell_Sorted.calls k Aa ca all true _ HAC10.out hca HS.out.srt).mono ?_
       rintro e w11 ⟨rfl, hb⟩
       have HAC11 := Lib.hid (Kd.C_below HAC10.out hb)
       have HGC11 := Lib.hid (Kd.C_below HGC10.out hb)
       have HB11 := Lib.hid (below_of HB10.out hb)
       clear hb HAC10 HBC10 HGC10 HPC10 HB10
       go_wp2_with fail
       go_loopg [96] G.length (fun g1 vi wy => ∃ i : Nat, vi = .int .i64 i ∧ i ≤ G.length ∧ G.length - i ≤ g1 ∧ Hid (Below w11.heap.size w11 wy))
       case atStart => exact ⟨0, rfl, Nat.zero_le _, by omega, Lib.hid (Below.refl _ _)⟩
       case round =>
        obtain ⟨i, rfl, hi, hg1, HZ⟩ := hrel
        by_cases hlt : i < G.length
        ·
         have hltz : (i : Int) < (G.length : Int) := by omega
         obtain ⟨x, hx⟩ : ∃ x, G[i] = x := ⟨_, rfl⟩
         obtain ⟨b, o, e0, hbl, hcc⟩ := cells10 (Kd.C_below HGC11.out HZ.out) hlt hx
         subst e0
         have y0 : wr.cell? ⟨b, o + i * 10, none⟩ = some (.string x.f0.f0) := hcc 0 _ rfl
         have y1 : wr.cell? ⟨b, o + i * 10 + 1, none⟩ = some (.string x.f0.f1) := by rw [Nat.add_assoc]; exact hcc 1 _ rfl
         have y2 : wr.cell? ⟨b, o + i * 10 + 2, none⟩ = some (.int .i64 x.f0.f2) := by rw [Nat.add_assoc]; exact hcc 2 _ rfl
         have y3 : wr.cell? ⟨b, o + i * 10 + 3, none⟩ = some (.string x.f0.f3) := by rw [Nat.add_assoc]; exact hcc 3 _ rfl
         have y4 : wr.cell? ⟨b, o + i * 10 + 4, none⟩ = some (.int .i64 x.f1.f0) := by rw [Nat.add_assoc]; exact hcc 4 _ rfl
         have y5 : wr.cell? ⟨b, o + i * 10 + 5, none⟩ = some (.bool x.f1.f1) := by rw [Nat.add_assoc]; exact hcc 5 _ rfl
         have y6 : wr.cell? ⟨b, o + i * 10 + 6, none⟩ = some (.int .i64 x.f1.f2) := by rw [Nat.add_assoc]; exact hcc 6 _ rfl
         have y7 : wr.cell? ⟨b, o + i * 10 + 7, none⟩ = some (.int .i64 x.f1.f3.f0) := by rw [Nat.add_assoc]; exact hcc 7 _ rfl
         have y8 : wr.cell? ⟨b, o + i * 10 + 8, none⟩ = some (.int .i64 x.f1.f3.f1) := by rw [Nat.add_assoc]; exact hcc 8 _ rfl
         have y9 : wr.cell? ⟨b, o + i * 10 + 9, none⟩ = some (.string x.f1.f3.f2) := by rw [Nat.add_assoc]; exact hcc 9 _ rfl
         have hmem : x ∈ G := by rw [← hx]; exact List.getElem_mem hlt
         obtain ⟨t0, t1, t2, t3, t4, t5, q, f1, f2, f3⟩ := HS.out.find x hmem
         have F1 := Lib.hid f1
         have F2 := Lib.hid f2
         have F4 := Lib.hid (HS.out.cmp0 x hmem)
         have hq : ¬ q < 0 := by omega
         clear hcc hx f1 f2 hmem
         go_wp2_with fail
         refine (cell_Find.calls Aa ca all x.f0.f0 x.f0.f1 x.f0.f2 x.f0.f3 t0 t1 t2 t3 t4 t5 true _ (Kd.C_below HAC11.out ((HZ.out).alloc HZ.out.size _)) hca F1.out).mono ?_
         rintro e w12 ⟨rfl, hb⟩
         have HBX := Lib.hid (show w12.heap[wr.heap.size]? = some (.cells #[.string x.f0.f0, .string x.f0.f1, .int .i64 x.f0.f2, .string x.f0.f3, .int .i64 x.f1.f0, .bool x.f1.f1, .int .i64 x.f1.f2, .int .i64 x.f1.f3.f0, .int .i64 x.f1.f3.f1, .string x.f1.f3.f2] 29 (0, 0)) from blk_below (blk_new wr _) hb)
         have HZ2 := Lib.hid (below_then (HZ.out.alloc HZ.out.size (.cells #[.string x.f0.f0, .string x.f0.f1, .int .i64 x.f0.f2, .string x.f0.f3, .int .i64 x.f1.f0, .bool x.f1.f1, .int .i64 x.f1.f2, .int .i64 x.f1.f3.f0, .int .i64 x.f1.f3.f1, .string x.f1.f3.f2] 29 (0, 0))) (by have := HZ.out.size; simp; omega) hb)
         have hsz : wr.heap.size < w12.heap.size := blk_lt HBX.out
         clear hb
         clear y0 y1 y2 y3 y4 y5 y6 y7 y8 y9
         have z0 : w12.cell? ⟨wr.heap.size, 0, none⟩ = some (.string x.f0.f0) := (blk_cell HBX.out 0).trans rfl
         have z1 : w12.cell? ⟨wr.heap.size, 1, none⟩ = some (.string x.f0.f1) := (blk_cell HBX.out 1).trans rfl
         have z2 : w12.cell? ⟨wr.heap.size, 2, none⟩ = some (.int .i64 x.f0.f2) := (blk_cell HBX.out 2).trans rfl
         have z3 : w12.cell? ⟨wr.heap.size, 3, none⟩ = some (.string x.f0.f3) := (blk_cell HBX.out 3).trans rfl
         have z4 : w12.cell? ⟨wr.heap.size, 4, none⟩ = some (.int .i64 x.f1.f0) := (blk_cell HBX.out 4).trans rfl
         have z5 : w12.cell? ⟨wr.heap.size, 5, none⟩ = some (.bool x.f1.f1) := (blk_cell HBX.out 5).trans rfl
         have z6 : w12.cell? ⟨wr.heap.size, 6, none⟩ = some (.int .i64 x.f1.f2) := (blk_cell HBX.out 6).trans rfl
         have z7 : w12.cell? ⟨wr.heap.size, 7, none⟩ = some (.int .i64 x.f1.f3.f0) := (blk_cell HBX.out 7).trans rfl
         have z8 : w12.cell? ⟨wr.heap.size, 8, none⟩ = some (.int .i64 x.f1.f3.f1) := (blk_cell HBX.out 8).trans rfl
         have z9 : w12.cell? ⟨wr.heap.size, 9, none⟩ = some (.string x.f1.f3.f2) := (blk_cell HBX.out 9).trans rfl
         go_wp2_with fail
         refine (cell_Cmp.calls k t0 t1 t2 t3 t4 t5 x.f1.f0 x.f1.f1 x.f1.f2 x.f1.f3.f0 x.f1.f3.f1 x.f1.f3.f2 q _ F2.out).mono ?_
         rintro e w13 ⟨rfl, hb⟩
         have HBX3 := Lib.hid (blk_below (blk_alloc HBX.out _) hb)
         have HZ3 := Lib.hid (below_then (HZ2.out.alloc HZ2.out.size _) (by have := HZ2.out.size; simp; omega) hb)
         have hsz3 : wr.heap.size < w13.heap.size := blk_lt HBX3.out
         clear hb z0 z1 z2 z3 z4 z5 z6 z7 z8 z9
         have z0 : w13.cell? ⟨wr.heap.size, 0, none⟩ = some (.string x.f0.f0) := (blk_cell HBX3.out 0).trans rfl
         have z1 : w13.cell? ⟨wr.heap.size, 1, none⟩ = some (.string x.f0.f1) := (blk_cell HBX3.out 1).trans rfl
         have z2 : w13.cell? ⟨wr.heap.size, 2, none⟩ = some (.int .i64 x.f0.f2) := (blk_cell HBX3.out 2).trans rfl
         have z3 : w13.cell? ⟨wr.heap.size, 3, none⟩ = some (.string x.f0.f3) := (blk_cell HBX3.out 3).trans rfl
         go_wp2_with fail
         refine (skerryref04_Cmp.calls x.f0.f0 x.f0.f1 x.f0.f2 x.f0.f3 x.f0.f0 x.f0.f1 x.f0.f2 x.f0.f3 0 _ F4.out).mono ?_
         rintro e w14 ⟨rfl, hb⟩
         have HZ4 := Lib.hid (below_then HZ3.out HZ3.out.size hb)
         clear hb
         go_wp2_with fail
         go_roundg (G.length - (i + 1))
         case measure => omega
         case rel => exact ⟨i + 1, by go_num, by omega, Nat.le_refl _, HZ4⟩
        ·
         have hltz : ¬ (i : Int) < (G.length : Int) := by omega
         go_wp2_with fail
         refine (skerrylaw05_lives.calls k true _ HLV.out).mono ?_
         rintro e w12 ⟨rfl, hb⟩
         have HB12 := Lib.hid (below_of (below_of HB11.out HZ.out) hb)
         clear hb
         go_wp2
         go_ret
         exact ⟨rfl, HB12.out⟩
     ·
      obtain ⟨m, rfl⟩ : ∃ m, q = m := ⟨_, rfl⟩
      obtain ⟨x, hx⟩ : ∃ x, G[q] = x := ⟨_, rfl⟩
      obtain ⟨b, o, e0, hbl, hcc⟩ := cells10 HGC2.out (show q < G.length by omega) hx
      subst e0
      have hqz : (q : Int) < (G.length : Int) := by omega
      have hq0 : 0 ≤ (q : Int) := by omega
      have z0 : w2.cell? ⟨b, o + q * 10, none⟩ = some (.string x.f0.f0) := hcc 0 _ rfl
      have z1 : w2.cell? ⟨b, o + q * 10 + 1, none⟩ = some (.string x.f0.f1) := by rw [Nat.add_assoc]; exact hcc 1 _ rfl
      have z2 : w2.cell? ⟨b, o + q * 10 + 2, none⟩ = some (.int .i64 x.f0.f2) := by rw [Nat.add_assoc]; exact hcc 2 _ rfl
      have z3 : w2.cell? ⟨b, o + q * 10 + 3, none⟩ = some (.string x.f0.f3) := by rw [Nat.add_assoc]; exact hcc 3 _ rfl
      have z4 : w2.cell? ⟨b, o + q * 10 + 4, none⟩ = some (.int .i64 x.f1.f0) := by rw [Nat.add_assoc]; exact hcc 4 _ rfl
      have z5 : w2.cell? ⟨b, o + q * 10 + 5, none⟩ = some (.bool x.f1.f1) := by rw [Nat.add_assoc]; exact hcc 5 _ rfl
      have z6 : w2.cell? ⟨b, o + q * 10 + 6, none⟩ = some (.int .i64 x.f1.f2) := by rw [Nat.add_assoc]; exact hcc 6 _ rfl
      have z7 : w2.cell? ⟨b, o + q * 10 + 7, none⟩ = some (.int .i64 x.f1.f3.f0) := by rw [Nat.add_assoc]; exact hcc 7 _ rfl
      have z8 : w2.cell? ⟨b, o + q * 10 + 8, none⟩ = some (.int .i64 x.f1.f3.f1) := by rw [Nat.add_assoc]; exact hcc 8 _ rfl
      have z9 : w2.cell? ⟨b, o + q * 10 + 9, none⟩ = some (.string x.f1.f3.f2) := by rw [Nat.add_assoc]; exact hcc 9 _ rfl
      have Z0 := Lib.hid z0
      have Z1 := Lib.hid z1
      have Z2 := Lib.hid z2
      have Z3 := Lib.hid z3
      have Z4 := Lib.hid z4
      have Z5 := Lib.hid z5
      have Z6 := Lib.hid z6
      have Z7 := Lib.hid z7
      have Z8 := Lib.hid z8
      have Z9 := Lib.hid z9
      have y0 : wr.cell? ⟨b, o + q * 10, none⟩ = some (.string x.f0.f0) := (HB.out.cell (p := ⟨b, _, none⟩) hbl).trans z0
      have y1 : wr.cell? ⟨b, o + q * 10 + 1, none⟩ = some (.string x.f0.f1) := (HB.out.cell (p := ⟨b, _, none⟩) hbl).trans z1
      have y2 : wr.cell? ⟨b, o + q * 10 + 2, none⟩ = some (.int .i64 x.f0.f2) := (HB.out.cell (p := ⟨b, _, none⟩) hbl).trans z2
      have y3 : wr.cell? ⟨b, o + q * 10 + 3, none⟩ = some (.string x.f0.f3) := (HB.out.cell (p := ⟨b, _, none⟩) hbl).trans z3
      have y4 : wr.cell? ⟨b, o + q * 10 + 4, none⟩ = some (.int .i64 x.f1.f0) := (HB.out.cell (p := ⟨b, _, none⟩) hbl).trans z4
      have y5 : wr.cell? ⟨b, o + q * 10 + 5, none⟩ = some (.bool x.f1.f1) := (HB.out.cell (p := ⟨b, _, none⟩) hbl).trans z5
      have y6 : wr.cell? ⟨b, o + q * 10 + 6, none⟩ = some (.int .i64 x.f1.f2) := (HB.out.cell (p := ⟨b, _, none⟩) hbl).trans z6
      have y7 : wr.cell? ⟨b, o + q * 10 + 7, none⟩ = some (.int .i64 x.f1.f3.f0) := (HB.out.cell (p := ⟨b, _, none⟩) hbl).trans z7
      have y8 : wr.cell? ⟨b, o + q * 10 + 8, none⟩ = some (.int .i64 x.f1.f3.f1) := (HB.out.cell (p := ⟨b, _, none⟩) hbl).trans z8
      have y9 : wr.cell? ⟨b, o + q * 10 + 9, none⟩ = some (.string x.f1.f3.f2) := (HB.out.cell (p := ⟨b, _, none⟩) hbl).trans z9
      clear z0 z1 z2 z3 z4 z5 z6 z7 z8 z9
      have HX := Lib.hid hx
      clear hcc hx
      have hbl2 := bk_len G (q + 1)
      go_wp2_with fail
      go_region_held3 (fun w' => w'.cell? ⟨b, o + q * 10, none⟩ = some (.string x.f0.f0) ∧ w'.cell? ⟨b, o + q * 10 + 1, none⟩ = some (.string x.f0.f1) ∧ w'.cell? ⟨b, o + q * 10 + 2, none⟩ = some (.int .i64 x.f0.f2) ∧ w'.cell? ⟨b, o + q * 10 + 3, none⟩ = some (.string x.f0.f3) ∧ w'.cell? ⟨b, o + q * 10 + 4, none⟩ = some (.int .i64 x.f1.f0) ∧ w'.cell? ⟨b, o + q * 10 + 5, none⟩ = some (.bool x.f1.f1) ∧ w'.cell? ⟨b, o + q * 10 + 6, none⟩ = some (.int .i64 x.f1.f2) ∧ w'.cell? ⟨b, o + q * 10 + 7, none⟩ = some (.int .i64 x.f1.f3.f0) ∧ w'.cell? ⟨b, o + q * 10 + 8, none⟩ = some (.int .i64 x.f1.f3.f1) ∧ w'.cell? ⟨b, o + q * 10 + 9, none⟩ = some (.string x.f1.f3.f2)) (first | go_keep | (exact ⟨(hb3.cell (p := ⟨b, _, none⟩) hbl).trans Z0.out, (hb3.cell (p := ⟨b, _, none⟩) hbl).trans Z1.out, (hb3.cell (p := ⟨b, _, none⟩) hbl).trans Z2.out, (hb3.cell (p := ⟨b, _, none⟩) hbl).trans Z3.out, (hb3.cell (p := ⟨b, _, none⟩) hbl).trans Z4.out, (hb3.cell (p := ⟨b, _, none⟩) hbl).trans Z5.out, (hb3.cell (p := ⟨b, _, none⟩) hbl).trans Z6.out, (hb3.cell (p := ⟨b, _, none⟩) hbl).trans Z7.out, (hb3.cell (p := ⟨b, _, none⟩) hbl).trans Z8.out, (hb3.cell (p := ⟨b, _, none⟩) hbl).trans Z9.out⟩)) ((refine Kd.R_append_rows_step k29 (w0 := w2) w2.heap.size (by rfl) (.tmp 50) (.tmp 59) 31 29 (.agg #[(.string ⟨#[]⟩), (.string ⟨#[]⟩), (.int .i64 0), (.string ⟨#[]⟩), (.int .i64 0), (.bool false), (.int .i64 0), (.int .i64 0), (.int .i64 0), (.string ⟨#[]⟩)]) 112 (by rfl) Try.underlying31 info29 rfl (by decide) (by omega) u10 (bk G (q + 1)) [x, x] _ _ _ (fun _ => True) (fun _ => False) (by rfl) (by rfl) ?aO ?aR (fun _ _ h => h) (fun _ h => h.elim) (fun _ _ => trivial) ?aB ?aS ?aL ?_; (case aO => exact (by (with_reducible repeat (first | apply Kd.R_alloc | apply Kd.R_drewN | apply Kd.R_drew)); exact HO.out)); (case aR => exact two_C (heap_alloc_new wr _)); (case aB => exact (by repeat (first | (with_reducible first | exact HB.out | apply below_alloc | apply pw_below_drewN | apply below_drew1) | exact HB.out))); (case aS => exact (below_size (by repeat (first | (with_reducible first | exact HB.out | apply below_alloc | apply pw_below_drewN | apply below_drew1) | exact HB.out)))); (case aL => omega); intro v60 w3 ho3 hb3 hg3 hat3))
      have HO3 := Lib.hid (show Kd.R k29 29 w3 w2.heap.size (fun _ => True) v60 (bk G q) by rw [← bk_step G q (by omega), HX.out]; exact ho3)
      have HB3 := Lib.hid hb3
      clear ho3 hb3 hg3 hat3
      go_wp2_with fail
      go_roundg q
      case measure => omega
      case rel =>
       refine ⟨q, ?_, by omega, Nat.le_refl _, HO3, HB3⟩
       rcases Nat.eq_zero_or_pos q with h0 | h0
       ·
        exact .inl ⟨h0, by rw [h0] <;> go_num⟩
       ·
        exact .inr ⟨q - 1, by omega, by congr 1; omega⟩
end Go.Proofs.Ytaedmofnhjaljaa.Wh
