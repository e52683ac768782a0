/- Lemmas for this claim's walk: no condition of their own. -/
import Derived.Test.YtdagddhccdchoaaDoorWbSq
import Derived.Test.YtdagddhccdchoaaDoorWbQx0
import Derived.Test.YtdagddhccdchoaaDoorWbQx13
namespace Go.Proofs.YtdagddhccdchoaaDoor.Q
open Go.RowKit Go.Proofs.YtdagddhccdchoaaDoorW.PrintWords Go.Proofs.YtdagddhccdchoaaDoorW.PrintLast Go.Proofs.YtdagddhccdchoaaDoorW.PrintMore
attribute [local go_sem] max2_int min2_int max_two min_two max_three min_three max_four min_four
set_option linter.unusedVariables false
set_option linter.unusedSimpArgs false
def colR (l : List (S29)) (x : ByteArray) : ByteArray × Int × Bool := match l.find? (fun c => c.f0.toList == x.toList) with
 | some c => (c.f0, c.f1, true)
 | none => ((⟨#[]⟩ : ByteArray), 0, false)
theorem column_l0 (x : ByteArray) (l : List (S29)) (hl : l.length ≤ 1000000) : ∀ (d i k : Nat), i + d = l.length → d < k → (l.take i).find? (fun c => c.f0.toList == x.toList) = none → skerryref17_Column.l0 k x l (l.length : Int) (i : Int) = some (colR l x)
 | d, i, 0, _, h, _ => by omega
 | 0, i, k + 1, hd, _, hn => by
  rw [skerryref17_Column.l0, if_neg (by omega)]
  rw [List.take_of_length_le (by omega)] at hn
  unfold colR; rw [hn]
 | d + 1, i, k + 1, hd, hk, hn => by
  have hi : i < l.length := by omega
  have e1 : rd_T29 l (i : Int) = l[i] := by unfold rd_T29; rw [Int.toNat_natCast, List.getD_eq_getElem?_getD, List.getElem?_eq_getElem hi]; rfl
  have e3 : wrap64 ((i : Int) + 1) = ((i + 1 : Nat) : Int) := by unfold wrap64; omega
  rw [skerryref17_Column.l0, if_pos (by omega), if_pos (by omega), if_pos (by omega), e1]
  by_cases h : (l[i]).f0.toList = x.toList
  ·
   rw [if_pos h]
   have : l.find? (fun c => c.f0.toList == x.toList) = some l[i] := by
    conv => lhs; rw [← List.take_append_drop i l]
    rw [List.find?_append, hn, List.drop_eq_getElem_cons hi, List.find?_cons_of_pos (by simpa using h)]; rfl
   unfold colR; rw [this]
  ·
   rw [if_neg h, e3]
   refine column_l0 x l hl d (i + 1) k (by omega) (by omega) ?_
   rw [List.take_succ_eq_append_getElem hi, List.find?_append, hn]
   rw [List.find?_cons_of_neg (by simpa using h)]; rfl
theorem column_f (a b c : ByteArray) (l : List (S29)) (x : ByteArray) (k : Nat) (hl : l.length ≤ 1000000) (hk : l.length < k) : skerryref17_Column.f k a b c l x = some (colR l x) := column_l0 x l hl l.length 0 k (by omega) hk rfl
def ordIn (cols : List ByteArray) (x : ByteArray) : Bool := decide (cols.length = 0) || cols.any (fun s => s.toList == x.toList)
def ordStep (cols : List ByteArray) (out : List ByteArray) (x : ByteArray) : List ByteArray := if (ordIn cols x && out.all (fun s => !(s.toList == x.toList))) = true then out ++ [x] else out
def ordR (l : List (S29)) (cols : List ByteArray) : List ByteArray := l.foldl (fun out c => ordStep cols out c.f0) []
theorem ordR_take (l : List (S29)) (cols : List ByteArray) (i : Nat) (hi : i < l.length) : ordR (l.take (i + 1)) cols = ordStep cols (ordR (l.take i) cols) l[i].f0 := by
 unfold ordR; rw [List.take_succ_eq_append_getElem hi, List.foldl_append]; rfl
theorem ordR_len (l : List (S29)) (cols : List ByteArray) : (ordR l cols).length ≤ l.length := by
 have : ∀ (l : List (S29)) (out : List ByteArray), (l.foldl (fun out c => ordStep cols out c.f0) out).length ≤ out.length + l.length := fun l => by
  induction l with
  | nil => intro out; simp
  | cons c l ih =>
   intro out
   rw [List.foldl_cons]
   have h1 := ih (ordStep cols out c.f0)
   have h2 : (ordStep cols out c.f0).length ≤ out.length + 1 := by unfold ordStep; split <;> simp
   rw [List.length_cons]; omega
 have h := this l []
 rw [List.length_nil, Nat.zero_add] at h
 exact h
def skerryref17_Order.f (a0_0 : ByteArray) (a0_1 : ByteArray) (a0_2 : ByteArray) (l0_3 : List (S29)) (l1 : List ByteArray) : Option (List ByteArray × Bool) :=
 if l0_3.length ≤ 1000000 ∧ l1.length ≤ 1000000 then some (if l1.all (fun s => (colR l0_3 s).2.2) = true then (ordR l0_3 l1, true) else ([], false)) else none
theorem ho_ne {W : World} {base g : Nat} {v : Value} {xs : List ByteArray} (h : Kd.R Kd.string 9 W base (fun k => k ≠ g) v xs) (e : some g = v.ownBlock) : False := h.1 g e.symm rfl
theorem infoStrO : (Tryd.prog.info? 9).map (fun i => (i.zero, i.size, i.bytes)) = some (some (.string ⟨#[]⟩), 1, 16) := by kernel_rfl
set_option maxHeartbeats 2000000 in
set_option maxRecDepth 100000 in
theorem skerryref17_Order.calls (t0 : ByteArray) (t1 : ByteArray) (t2 : ByteArray) (A : Option Addr) (c : Nat) (l : List (S29)) (A1 : Option Addr) (c1 : Nat) (l1 : List ByteArray) (r1 : List ByteArray) (r2 : Bool) (w : World) (hr : Kd.C k29 w A l.length l) (hc : l.length ≤ c) (hr1 : Kd.C Kd.string w A1 l1.length l1) (hc1 : l1.length ≤ c1) (h : skerryref17_Order.f t0 t1 t2 l l1 = some (r1, r2)) :
  Calls Tryd.prog 14 #[.agg #[.string t0, .string t1, .string t2, .slice A l.length c], .slice A1 l1.length c1] w fun e w' => ∃ v0_ : Value, e = .returned (.tuple #[v0_, .bool r2]) ∧ Kd.R Kd.string 9 w' w.heap.size (fun _ => True) v0_ r1 ∧ Below w.heap.size w w' := by
 unfold skerryref17_Order.f at h
 split at h
 case isFalse => cases h
 rename_i hN
 obtain ⟨hN, hN1⟩ := hN
 have HE := Lib.hid (Option.some.inj h)
 have HR := Lib.hid hr
 have HR1 := Lib.hid hr1
 have HCOL := Lib.hid (fun (x : ByteArray) (W : World) (hb : Below w.heap.size w W) => skerryref17_Column.calls (l.length + 1) t0 t1 t2 A c l x (colR l x).1 (colR l x).2.1 (colR l x).2.2 W (Kd.C_below hr hb) hc (column_f t0 t1 t2 l x _ hN (Nat.lt_succ_self _)))
 clear h hr hr1 hc hc1
 go_enter Tryd.func14, Tryd.ntmps14
 go_wp2_with fail
 have HB0 := Lib.hid (blk_new w (.cells #[.string t0, .string t1, .string t2, .slice A l.length c] 26))
 go_loopg [7, 8, 9, 20] l1.length (fun gk v7 v8 v9 v20 wr => ∃ i : Nat, v20 = .int .i64 i ∧ Aside0 (i ≤ l1.length ∧ l1.length - i ≤ gk ∧ (l1.take i).all (fun s => (colR l s).2.2) = true) ∧ Aside0 (Below w.heap.size w wr) ∧ Aside0 (wr.heap[w.heap.size]? = some (.cells #[.string t0, .string t1, .string t2, .slice A l.length c] 26 (0, 0))))
 case atStart => exact ⟨0, rfl, ⟨Nat.zero_le _, by omega, rfl⟩, ⟨below_alloc (Below.refl _ _) _⟩, ⟨HB0.out⟩⟩
 case round =>
  obtain ⟨i, rfl, HI, HB, HT⟩ := hrel
  have b0 := (blk_cell HT.out 0).trans (show _ = some _ from rfl)
  have b1 := (blk_cell HT.out 1).trans (show _ = some _ from rfl)
  have b2 := (blk_cell HT.out 2).trans (show _ = some _ from rfl)
  have b3 := (blk_cell HT.out 3).trans (show _ = some _ from rfl)
  by_cases hi : i < l1.length
  ·
   have hz : (i : Int) < (l1.length : Int) := by omega
   have hz0 : (0 : Int) ≤ (i : Int) := by omega
   obtain ⟨ad, e1, hx0⟩ := Kd.at_string (Kd.C_below HR1.out HB.out) (i : Int) hz0 hz
   subst e1
   rw [Int.toNat_natCast] at hx0
   have hx : rdOf ByteArray.empty l1 (i : Int) = l1[i] := by unfold rdOf; rw [Int.toNat_natCast, List.getD_eq_getElem?_getD, List.getElem?_eq_getElem hi]; rfl
   rw [hx] at hx0
   have HTK := Lib.hid (show (l1.take (i + 1)).all (fun s => (colR l s).2.2) = (colR l l1[i]).2.2 by rw [List.take_succ_eq_append_getElem hi, List.all_append, HI.out.2.2]; simp)
   have HAL := Lib.hid (show (colR l l1[i]).2.2 = false → l1.all (fun s => (colR l s).2.2) = false from fun h => List.all_eq_false.2 ⟨_, List.getElem_mem hi, by rw [h]; simp⟩)
   have HC1 := Lib.hid (HCOL.out l1[i] wr HB.out)
   generalize l1[i] = x at hx0 HTK HAL HC1
   generalize colR l x = p at HTK HAL HC1
   obtain ⟨p1, p2, p3⟩ := p
   dsimp only at HTK HAL HC1
   clear hx
   cases p3 with
   | true =>
    go_wp2_with (go_at_call 12; (with_reducible refine HC1.out.mono ?_); rintro e w1 ⟨rfl, hb⟩; have HB1 := Lib.hid hb; clear hb)
    go_roundg (l1.length - (i + 1))
    case measure => have := HI.out; omega
    case rel => exact ⟨i + 1, by go_num, ⟨by omega, Nat.le_refl _, HTK.out⟩, ⟨below_alloc (below_step HB.out HB1.out) _⟩, ⟨blk_alloc ((HB1.out.block _ (blk_lt HT.out)).trans HT.out) _⟩⟩
   | false =>
    have HAL2 := Lib.hid (HAL.out rfl)
    clear HAL
    go_wp2_with (go_at_call 12; (with_reducible refine HC1.out.mono ?_); rintro e w1 ⟨rfl, hb⟩; have HB1 := Lib.hid hb; clear hb)
    have hE := HE.out
    rw [if_neg (by rw [HAL2.out]; decide)] at hE
    injection hE with hE1 hE2
    subst hE1 hE2
    go_ret2
    exact ⟨_, rfl, Kd.R_nil _ _ _ _ _, below_alloc (below_step HB.out HB1.out) _⟩
  ·
   have hz : ¬ (i : Int) < (l1.length : Int) := by omega
   have hE := HE.out
   rw [if_pos (by have := HI.out.2.2; rwa [List.take_of_length_le (by omega)] at this)] at hE
   injection hE with hE1 hE2
   have HE1 := Lib.hid hE1
   subst hE2
   clear hE1 HI
   go_wp2_with fail
   go_loopg [10, 12, 13, 15, 17, 36] l.length (fun gk v10 v12 v13 v15 v17 v36 wr => ∃ (j : Nat) (A3 : Option Addr) (c3 : Nat), v36 = .int .i64 j ∧ v10 = .slice A3 (ordR (l.take j) l1).length c3 ∧ Aside0 (j ≤ l.length ∧ l.length - j ≤ gk) ∧ Aside0 (Kd.R Kd.string 9 wr w.heap.size (fun k => k ≠ w.heap.size) (.slice A3 (ordR (l.take j) l1).length c3) (ordR (l.take j) l1)) ∧ Aside0 (Below w.heap.size w wr) ∧ Aside0 (wr.heap[w.heap.size]? = some (.cells #[.string t0, .string t1, .string t2, .slice A l.length c] 26 (0, 0))))
   case atStart => exact ⟨0, none, 0, rfl, rfl, ⟨Nat.zero_le _, by omega⟩, ⟨Kd.R_nil _ _ _ _ _⟩, HB, HT⟩
   case round =>
    clear b0 b1 b2 b3 HB HT
    obtain ⟨j, A3, c3, rfl, rfl, HJ, HO, HB, HT⟩ := hrel
    obtain ⟨wo, rfl⟩ : ∃ wo : World, wo = wr := ⟨_, rfl⟩
    by_cases hj : j < l.length
    rotate_left
    ·
     have hz : ¬ (j : Int) < (l.length : Int) := by omega
     have he : ordR (l.take j) l1 = r1 := by rw [← HE1.out, List.take_of_length_le (by omega)]
     rw [he] at HO ⊢
     have b3 := (blk_cell HT.out 3).trans (show _ = some _ from rfl)
     clear he
     go_wp2_with fail
     go_ret2
     exact ⟨_, rfl, Kd.R_mono HO.out (fun _ _ => trivial), HB.out⟩
    have hz : (j : Int) < (l.length : Int) := by omega
    have hz0 : (0 : Int) ≤ (j : Int) := by omega
    obtain ⟨ad, e1, hx0, hx1⟩ := at_T29 (Kd.C_below HR.out HB.out) (j : Int) hz0 hz
    subst e1
    rw [Int.toNat_natCast] at hx0 hx1
    have hx : rd_T29 l (j : Int) = l[j] := by unfold rd_T29; rw [Int.toNat_natCast, List.getD_eq_getElem?_getD, List.getElem?_eq_getElem hj]; rfl
    rw [hx] at hx0 hx1
    have HTK := Lib.hid (ordR_take l l1 j hj)
    have HLN := Lib.hid (show (ordR (l.take j) l1).length ≤ 1000000 by have := ordR_len (l.take j) l1; rw [List.length_take] at this; omega)
    generalize l[j] = x at hx0 hx1 HTK
    generalize ordR (l.take j) l1 = out at HO HTK HLN
    obtain ⟨x0, x1⟩ := x
    dsimp only at hx0 hx1 HTK
    clear hx
    have HWB := Lib.hid (below_alloc (Below.refl _ wo) (.cells #[.string x0, .int .i64 x1] 29))
    have y0 := (blk_cell (blk_new wo (.cells #[.string x0, .int .i64 x1] 29)) 0).trans (show _ = some _ from rfl)
    obtain ⟨b0, hb0⟩ : ∃ b0, decide (l1.length = 0) = b0 := ⟨_, rfl⟩
    have hb1 : ((l1.length : Int) == 0) = b0 := by rw [← hb0, Bool.eq_iff_iff]; simp
    have HB0 := Lib.hid hb0
    clear hb0
    go_upto_region 14 with fail
    clear hb1
    go_loopg [13, 15, 45] l1.length (fun gk v13 v15 v45 wr => ∃ k : Nat, v45 = .int .i64 k ∧ v13 = .bool (b0 || (l1.take k).any (fun s => s.toList == x0.toList)) ∧ Aside0 (k ≤ l1.length ∧ l1.length - k ≤ gk) ∧ Aside0 (wo.alloc (.cells #[.string x0, .int .i64 x1] 29) = wr))
    case atStart => exact ⟨0, rfl, by simp, ⟨Nat.zero_le _, by omega⟩, ⟨rfl⟩⟩
    case round =>
     obtain ⟨k, rfl, rfl, HK, HW⟩ := hrel
     obtain rfl := HW.out
     by_cases hk : k < l1.length
     ·
      have hz : (k : Int) < (l1.length : Int) := by omega
      have hz0 : (0 : Int) ≤ (k : Int) := by omega
      obtain ⟨ad', e1, hs0⟩ := Kd.at_string (Kd.C_below HR1.out (below_step HB.out HWB.out)) (k : Int) hz0 hz
      subst e1
      rw [Int.toNat_natCast] at hs0
      have hs : rdOf ByteArray.empty l1 (k : Int) = l1[k] := by unfold rdOf; rw [Int.toNat_natCast, List.getD_eq_getElem?_getD, List.getElem?_eq_getElem hk]; rfl
      rw [hs] at hs0
      have HAN := Lib.hid (show (b0 || (l1.take (k + 1)).any (fun s => s.toList == x0.toList)) = ((b0 || (l1.take k).any (fun s => s.toList == x0.toList)) || ((l1[k]).toList == x0.toList)) by rw [List.take_succ_eq_append_getElem hk, List.any_append]; simp [Bool.or_assoc])
      generalize l1[k] = s at hs0 HAN
      clear hs
      generalize (b0 || (l1.take k).any (fun s => s.toList == x0.toList)) = b at HAN ⊢
      cases b with
      | true =>
       go_wp2_with fail
       go_roundg (l1.length - (k + 1))
       case measure => have := HK.out; omega
       case rel => exact ⟨k + 1, by go_num, by rw [HAN.out]; rfl, ⟨by omega, Nat.le_refl _⟩, ⟨rfl⟩⟩
      | false =>
       go_wp2_with fail
       go_roundg (l1.length - (k + 1))
       case measure => have := HK.out; omega
       case rel => exact ⟨k + 1, by go_num, by rw [HAN.out]; rfl, ⟨by omega, Nat.le_refl _⟩, ⟨rfl⟩⟩
     ·
      have hz : ¬ (k : Int) < (l1.length : Int) := by omega
      have HIN := Lib.hid (show (b0 || (l1.take k).any (fun s => s.toList == x0.toList)) = ordIn l1 x0 by unfold ordIn; rw [List.take_of_length_le (by omega), HB0.out])
      obtain ⟨bI, hbI⟩ : ∃ bI, ordIn l1 x0 = bI := ⟨_, rfl⟩
      rw [HIN.out, hbI]
      have HBI := Lib.hid hbI
      clear hbI
      have HO1 := Lib.hid (Kd.R_below HO.out HWB.out)
      go_wp2_with fail
      go_loopg [13, 17, 59] out.length (fun gk v13 v17 v59 wr => ∃ m : Nat, v59 = .int .i64 m ∧ v13 = .bool (bI && (out.take m).all (fun s => !(s.toList == x0.toList))) ∧ Aside0 (m ≤ out.length ∧ out.length - m ≤ gk) ∧ Aside0 (wo.alloc (.cells #[.string x0, .int .i64 x1] 29) = wr))
      case atStart => exact ⟨0, rfl, by simp, ⟨Nat.zero_le _, by omega⟩, ⟨rfl⟩⟩
      case round =>
       obtain ⟨m, rfl, rfl, HM, HW2⟩ := hrel
       obtain rfl := HW2.out
       have hol := HLN.out
       by_cases hm : m < out.length
       rotate_left
       ·
        have hz2 : ¬ (m : Int) < (out.length : Int) := by omega
        have HST := Lib.hid (show ordStep l1 out x0 = if (bI && (out.take m).all (fun s => !(s.toList == x0.toList))) = true then out ++ [x0] else out by unfold ordStep; rw [List.take_of_length_le (by omega), HBI.out])
        generalize (bI && (out.take m).all (fun s => !(s.toList == x0.toList))) = b at HST ⊢
        have HT1 := Lib.hid ((HWB.out.block _ (blk_lt HT.out)).trans HT.out)
        have hlt := blk_lt HT.out
        cases b with
        | true =>
         have HST2 := Lib.hid (HST.out.trans (if_pos rfl))
         clear HST
         go_wp2_with ((with_reducible refine gate_builtin (b := .append) (xs := #[.tmp 72, .tmp 75]) rfl ?_); at_builtin; go_loud (refine Kd.R_append Kd.string (w0 := w) w.heap.size rfl (.tmp 72) (.tmp 75) 27 9 (.string ⟨#[]⟩) 16 rfl Tryd.underlying27 infoStrO rfl (by decide) (by omega) (.slice A3 out.length c3) out x0 [.string x0] (fun k => k ≠ w.heap.size) (fun _ => False) rfl (by first | (go_simp; done) | (go_simp; rfl)) rfl (fun _ hk => hk.elim) ?aF HO1.out (below_step HB.out HWB.out) (below_step HB.out HWB.out).size ?aL ?_); (case aF => exact fun k hk => by have := (HWB.out).size; omega); (case aL => omega); intro v1 w1 ho hb hg hat; obtain ⟨A7, c7, ev⟩ := Kd.R_slice ho; subst ev; have HOO := Lib.hid ho; have HBB := Lib.hid hb; have HTT := Lib.hid (blk_grown HT1.out hg (fun e => ho_ne HO1.out e)); clear ho hb hg hat)
         go_roundg (l.length - (j + 1))
         case measure => have := HJ.out; omega
         case rel => exact ⟨j + 1, A7, c7, by go_num, by rw [HTK.out, HST2.out, List.length_append]; rfl, ⟨by omega, Nat.le_refl _⟩, ⟨by rw [HTK.out, HST2.out]; exact HOO.out⟩, ⟨HBB.out⟩, ⟨HTT.out⟩⟩
        | false =>
         have HST2 := Lib.hid (HST.out.trans (if_neg (by decide)))
         clear HST
         go_wp2_with fail
         go_roundg (l.length - (j + 1))
         case measure => have := HJ.out; omega
         case rel => exact ⟨j + 1, A3, c3, by go_num, by rw [HTK.out, HST2.out], ⟨by omega, Nat.le_refl _⟩, ⟨by rw [HTK.out, HST2.out]; exact HO1.out⟩, ⟨below_step HB.out HWB.out⟩, ⟨HT1.out⟩⟩
       have hz2 : (m : Int) < (out.length : Int) := by omega
       have hz3 : (0 : Int) ≤ (m : Int) := by omega
       obtain ⟨ad3, e3, hs0⟩ := Kd.at_string (Kd.R_reads' HO1.out).2.2 (m : Int) hz3 hz2
       subst e3
       rw [Int.toNat_natCast] at hs0
       have hs : rdOf ByteArray.empty out (m : Int) = out[m] := by unfold rdOf; rw [Int.toNat_natCast, List.getD_eq_getElem?_getD, List.getElem?_eq_getElem hm]; rfl
       rw [hs] at hs0
       have HAN := Lib.hid (show (bI && (out.take (m + 1)).all (fun s => !(s.toList == x0.toList))) = ((bI && (out.take m).all (fun s => !(s.toList == x0.toList))) && !((out[m]).toList == x0.toList)) by rw [List.take_succ_eq_append_getElem hm, List.all_append]; simp [Bool.and_assoc])
       generalize out[m] = s at hs0 HAN
       clear hs
       generalize (bI && (out.take m).all (fun s => !(s.toList == x0.toList))) = b at HAN ⊢
       cases b with
       | true =>
        go_wp2_with fail
        go_roundg (out.length - (m + 1))
        case measure => have := HM.out; omega
        case rel => exact ⟨m + 1, by go_num, by rw [HAN.out]; first | rfl | simp, ⟨by omega, Nat.le_refl _⟩, ⟨rfl⟩⟩
       | false =>
        go_wp2_with fail
        go_roundg (out.length - (m + 1))
        case measure => have := HM.out; omega
        case rel => exact ⟨m + 1, by go_num, by rw [HAN.out]; rfl, ⟨by omega, Nat.le_refl _⟩, ⟨rfl⟩⟩
end Go.Proofs.YtdagddhccdchoaaDoor.Q
