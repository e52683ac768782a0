/- Lemmas for this claim's walk: no condition of their own. -/
import Derived.Test.YtabiekkebdocnaaZcQx23
import Derived.Test.YtabiekkebdocnaaZcQx24
import Derived.Test.YtabiekkebdocnaaZcJ16
import Derived.Test.YtabiekkebdocnaaZcQx0
import Derived.Test.YtabiekkebdocnaaZcQx25
import Derived.Test.YtabiekkebdocnaaZcQx27
import Derived.Test.YtabiekkebdocnaaZcJ34
import Derived.Test.YtabiekkebdocnaaZcJ0
import Derived.Test.YtabiekkebdocnaaZcDown
import Derived.Test.YtabiekkebdocnaaZcSorted
import Derived.Test.YtabiekkebdocnaaZcTake
import Derived.Test.YtabiekkebdocnaaZcEach
import Derived.Test.YtabiekkebdocnaaZcGrp
import Derived.Test.YtabiekkebdocnaaZcRh
import Derived.Test.YtabiekkebdocnaaZcSeqE
import Derived.Test.YtabiekkebdocnaaZcJ13
import Derived.Test.YtabiekkebdocnaaZcAll
import Derived.Test.YtabiekkebdocnaaZcJ44
import Derived.Test.YtabiekkebdocnaaZcSub
import Derived.Test.YtabiekkebdocnaaZcJ46
import Derived.Test.YtabiekkebdocnaaZcQx33
import Derived.Deep.MidRow
import Derived.WalkLawsBesides
import Derived.WalkSpells
import Derived.Lib.Hide
import Derived.Deep.DeepFit
import Derived.Outline
namespace Go.Proofs.Ytabiekkebdocnaa.Q
open Go.RowKit Go.Proofs.YtabiekkebdocnaaW.PrintWords Go.Proofs.YtabiekkebdocnaaW.PrintLast Go.Proofs.YtabiekkebdocnaaW.PrintMore
attribute [local go_sem] max2_int min2_int max_two min_two max_three min_three max_four min_four
set_option linter.unusedVariables false
set_option linter.unusedSimpArgs false
open Go.Lib Go.Proofs.Ytabiekkebdocnaa.Hp Go.Proofs.Ytabiekkebdocnaa.Pl Go.Proofs.Ytabiekkebdocnaa.Rh Go.Proofs.Ytabiekkebdocnaa.Ord Go.Proofs.Ytabiekkebdocnaa.Nm Go.Proofs.Ytabiekkebdocnaa.Opn
theorem filt_snoc (gB : Cl → Bool) (l : List Cl) (i : Nat) (h : i < l.length) : (l.take (i + 1)).filter gB = (l.take i).filter gB ++ (if gB l[i] = true then [l[i]] else []) := by
 rw [List.take_succ_eq_append_getElem h, List.filter_append]
 congr 1
 by_cases hg : gB l[i] = true
 ·
  rw [if_pos hg]; simp [List.filter_cons, hg]
 ·
  rw [if_neg hg]; simp [List.filter_cons, hg]
theorem fin {l : List Cl} (h : In l) : In (l.filter goodB) := ⟨fun c hc => h.wc c (List.mem_filter.1 hc).1, Nat.le_trans (List.length_filter_le _ _) h.len⟩
theorem fgood (l : List Cl) : ∀ c ∈ l.filter goodB, PG c := fun c hc => (List.mem_filter.1 hc).2
theorem in_sub {X Y : List Cl} (hX : In X) (gX : ∀ c ∈ X, PG c) : In (subF (normC X) (normC Y)) := ⟨fun c hc => hX.wc c (norm_mem gdC gX (sub_iff.1 hc).1), Nat.le_trans (sub_le X Y) hX.len⟩
theorem all_len (X Y : List Cl) : (normC ([X, Y].flatMap normC)).length ≤ X.length + Y.length := by
 have h1 : (normC ([X, Y].flatMap normC)).length ≤ ([X, Y].flatMap normC).length := norm_len (c := cmpK) (key := keyC) (jn := joinC) _
 have h2 : (normC X).length ≤ X.length := norm_len (c := cmpK) (key := keyC) (jn := joinC) X
 have h3 : (normC Y).length ≤ Y.length := norm_len (c := cmpK) (key := keyC) (jn := joinC) Y
 rw [flat2, List.length_append] at h1
 rw [flat2]
 omega
theorem in_all {X Y : List Cl} (hX : In X) (hY : In Y) (gX : ∀ c ∈ X, PG c) (gY : ∀ c ∈ Y, PG c) (hs : X.length + Y.length ≤ 1048576) : In (normC ([X, Y].flatMap normC)) := ⟨fun c hc => by
 rw [flat2] at hc
 rcases List.mem_append.1 (norm_mem gdC (app_good (norm_good gX) (norm_good gY)) hc) with e | e
 ·
  exact hX.wc c (norm_mem gdC gX e)
 ·
  exact hY.wc c (norm_mem gdC gY e), by have := all_len X Y; omega⟩
theorem all2_calls {X Y : List Cl} (hX : In X) (hY : In Y) (hs : X.length + Y.length ≤ 1256584717457) (A0 : Option Addr) (c0 : Nat) (A1 : Option Addr) (c1 : Nat) (W : World) (h0 : Kd.C k39 W A0 X.length X) (hc0 : X.length ≤ c0) (h1 : Kd.C k39 W A1 Y.length Y) (hc1 : Y.length ≤ c1) :
  Calls Try.prog 15 #[.slice (some ⟨W.heap.size, 0, none⟩) 2 2] (W.alloc (.cells #[.slice A0 X.length c0, .slice A1 Y.length c1] 25)) fun e w' => ∃ v : Value, e = .returned v ∧ Kd.R k39 39 w' W.heap.size (fun _ => True) v (normC ([X, Y].flatMap normC)) ∧ Below W.heap.size W w' := by
 refine (all_calls (N := normC) (ls := [X, Y]) (lsok (by simp) (fun l hl => by
   rcases List.mem_cons.1 hl with rfl | hl
   ·
    exact hX.len
   ·
    obtain rfl := List.mem_singleton.1 hl; exact hY.len) (by
   rw [flat2, List.length_append]
   have h2 : (normC X).length ≤ X.length := norm_len (c := cmpK) (key := keyC) (jn := joinC) X
   have h3 : (normC Y).length ≤ Y.length := norm_len (c := cmpK) (key := keyC) (jn := joinC) Y
   omega)) (some ⟨W.heap.size, 0, none⟩) 2 _ (C_two (l0 := X) (l1 := Y) (heap_new_ W _) (Kd.C_alloc h0 _) hc0 (Kd.C_alloc h1 _) hc1) (Nat.le_refl 2)).mono ?_
 rintro e w' ⟨v, rfl, ho, hb⟩
 exact ⟨v, rfl, Kd.R_lower ho (by simp), below_then (below_alloc (Below.refl _ _) _) (by simp) hb⟩
theorem like2_calls {l m : List Cl} {b : Bool} (hlk : skerryref01_Like.f (l.length + 1) l m = some b) (A0 : Option Addr) (c0 : Nat) (A1 : Option Addr) (c1 : Nat) (w : World) (hC0 : Kd.C k39 w A0 l.length l) (hc0 : l.length ≤ c0) (hC1 : Kd.C k39 w A1 m.length m) (hc1 : m.length ≤ c1) : Calls Try.prog 14 #[.slice A0 l.length c0, .slice A1 m.length c1] w fun e w' => e = .returned (.bool b) ∧ Below w.heap.size w w' :=
 (skerryref01_Like.calls _ A0 c0 l A1 c1 m b w hC0 hc0 hC1 hc1 hlk).mono fun e w' ⟨h1, h2⟩ => ⟨h1, h2.below⟩
structure Mn (X Y B S NX NY : List Cl) (p q : Bool) : Prop where
 b : normC ([X, Y].flatMap normC) = B
 s : subF (normC X) (normC Y) = S
 nx : normC X = NX
 ny : normC Y = NY
 ys : normC ([Y, S].flatMap normC) = B
 xb : subF (normC X) (normC B) = []
 yb : subF (normC Y) (normC B) = []
 pe : decide ((subF (normC X) (normC Y)).length = 0) = p
 qe : decide ((subF (normC Y) (normC X)).length = 0) = q
 lk : skerryref01_Like.f (NX.length + 1) NX NY = some (p && q)
 inB : In B
 inS : In S
 inX : In X
 inY : In Y
 lb : B.length ≤ 1048576
 xy : X.length + Y.length ≤ 1048576
 ys2 : Y.length + S.length ≤ 1048576 * 2
theorem mn {X Y : List Cl} (hX : In X) (hY : In Y) (gX : ∀ c ∈ X, PG c) (gY : ∀ c ∈ Y, PG c) (hs : X.length + Y.length ≤ 1048576) : ∃ B S NX NY p q, Mn X Y B S NX NY p q := by
 have hl : (normC X).length ≤ X.length := norm_len (c := cmpK) (key := keyC) (jn := joinC) X
 obtain ⟨b, hb, hb2⟩ := like_ex (normC X) (normC Y) (by omega) _ (Nat.lt_succ_self _)
 have hpq : (decide ((subF (normC X) (normC Y)).length = 0) && decide ((subF (normC Y) (normC X)).length = 0)) = b := by
  rw [Bool.eq_iff_iff, hb2, ← mends_like gX gY]
  simp
 have hsl := sub_le X Y
 have hal := all_len X Y
 refine ⟨_, _, _, _, _, _, ⟨rfl, rfl, rfl, rfl, mends_all gX gY, ?_, ?_, rfl, rfl, hb.trans (congrArg some hpq.symm), in_all hX hY gX gY hs, in_sub hX gX, hX, hY, by omega, hs, by omega⟩⟩
 ·
  rw [flat2]; exact mends_over (app_good (norm_good gX) (norm_good gY)) fun c hc => List.mem_append_left _ hc
 ·
  rw [flat2]; exact mends_over (app_good (norm_good gX) (norm_good gY)) fun c hc => List.mem_append_right _ hc
set_option maxHeartbeats 8000000 in
set_option maxRecDepth 100000 in
theorem walkMends (A0 : Option Addr) (c0 : Nat) (l0 : List Cl) (A1 : Option Addr) (c1 : Nat) (l1 : List Cl) (b : Bool) (w : World) (hr0 : Kd.C k39 w A0 l0.length l0) (hc0 : l0.length ≤ c0) (hr1 : Kd.C k39 w A1 l1.length l1) (hc1 : l1.length ≤ c1) (h : (In l0 ∧ In l1 ∧ l0.length + l1.length ≤ 1048576) ∧ b = true) :
  Calls Try.prog 8 #[.slice A0 l0.length c0, .slice A1 l1.length c1] w fun e w' => e = .returned (.bool b) ∧ Below w.heap.size w w' := by
 obtain ⟨⟨h0, h1, hlen⟩, rfl⟩ := h
 obtain ⟨r, hfew⟩ := few2_calls h0 h1
 have HFEW := Lib.hid (show Calls Try.prog 9 #[.slice (some ⟨w.heap.size, 0, none⟩) 2 2] (w.alloc (.cells #[.slice A0 l0.length c0, .slice A1 l1.length c1] 25)) _ from hfew A0 c0 A1 c1 w hr0 hc0 hr1 hc1)
 have HLV := Lib.hid lives_calls
 have HL0 := Lib.hid (show l0.length ≤ 1048576 by omega)
 have HL1 := Lib.hid (show l1.length ≤ 1048576 by omega)
 have hfl : (l0.filter goodB).length + (l1.filter goodB).length ≤ 1048576 := by
  have := List.length_filter_le goodB l0; have := List.length_filter_le goodB l1; omega
 have HMN := Lib.hid (mn (fin h0) (fin h1) (fgood l0) (fgood l1) hfl)
 have HR0 := Lib.hid (fun (W : World) (hw : Below w.heap.size w W) => Kd.C_below hr0 hw)
 have HR1 := Lib.hid (fun (W : World) (hw : Below w.heap.size w W) => Kd.C_below hr1 hw)
 clear hr0 hr1 hfew h0 h1 hfl hlen
 go_enter Try.func8, Try.ntmps8
 go_upto_region 1 with fail
 go_cut [16] (fun v16 wc => v16 = .bool (!r) ∧ Aside0 (Below w.heap.size w wc))
 case first =>
  go_wp2_with (go_at_call 9; (with_reducible refine HFEW.out.mono ?_); rintro e w1 ⟨rfl, hb⟩; have HB1 := Lib.hid hb; clear hb)
  go_meet
  case rel => exact ⟨rfl, ⟨HB1.out⟩⟩
 case rest =>
  obtain ⟨rfl, HB⟩ := hcut
  cases r
  ·
   go_wp2_with (go_at_call 10; (with_reducible refine (HLV.out _).mono ?_); rintro e w1 ⟨rfl, hb⟩; have HB1 := Lib.hid (below_step HB.out hb); clear hb)
   go_ret
   exact ⟨rfl, HB1.out⟩
  ·
   obtain ⟨w3, hw3⟩ : ∃ w3, wc = w3 := ⟨_, rfl⟩
   rw [hw3] at HB ⊢
   clear hw3
   have HRA := Lib.hid (fun (W : World) (hw : Below w3.heap.size w3 W) => HR0.out W (below_step HB.out hw))
   have hl0 : (l0.length : Int) ≤ 1048576 := by have := HL0.out; omega
   have hl1 : (l1.length : Int) ≤ 1048576 := by have := HL1.out; omega
   go_wp2_with fail
   go_loopg [5, 20] l0.length (fun gk v5 vi wr => ∃ i : Nat, vi = .int .i64 i ∧ i ≤ l0.length ∧ l0.length - i ≤ gk ∧ Hid (Kd.R k39 39 wr w3.heap.size (fun _ => True) v5 ((l0.take i).filter goodB)) ∧ Hid (Below w3.heap.size w3 wr))
   case atStart => exact ⟨0, rfl, Nat.zero_le _, by omega, Lib.hid (Kd.R_nil _ _ _ _ _), Lib.hid (Below.refl _ _)⟩
   case round =>
    obtain ⟨i, rfl, hi, hgk, HO, HB9⟩ := hrel
    by_cases hlt : i < l0.length
    ·
     have hltz : (i : Int) < (l0.length : Int) := by omega
     have hi0 : (0 : Int) ≤ (i : Int) := by omega
     obtain ⟨x, hx⟩ : ∃ x, l0[i] = x := ⟨_, rfl⟩
     have HX := Lib.hid hx
     obtain ⟨ad, hA, d⟩ := cl_cells (HRA.out _ HB9.out) i hlt
     rw [show l0.getD i z39 = x by rw [← hx, List.getD_eq_getElem?_getD, List.getElem?_eq_getElem hlt]; rfl] at d
     obtain ⟨d0, d1, d2, d3, d4, d5, d6, d7, d8, d9⟩ := d
     subst hA
     have HF := Lib.hid (filt_snoc goodB l0 i hlt)
     clear hx
     obtain ⟨gb, hg⟩ : ∃ gb, goodB x = gb := ⟨_, rfl⟩
     have HG2 := Lib.hid hg
     have HG1 := Lib.hid ((good_f x).trans (congrArg some hg))
     clear hg
     go_wp2_with fail
     refine (cell_Good.calls x.f0.f0 x.f0.f1 x.f0.f2 x.f0.f3 x.f1.f0 x.f1.f1 x.f1.f2 x.f1.f3.f0 x.f1.f3.f1 x.f1.f3.f2 gb _ HG1.out).mono ?_
     rintro e w2 ⟨rfl, hb⟩
     have HBX := Lib.hid (show w2.heap[wr.heap.size]? = some (.cells #[.string x.f0.f0, .string x.f0.f1, .int .i64 x.f0.f2, .string x.f0.f3, .int .i64 x.f1.f0, .bool x.f1.f1, .int .i64 x.f1.f2, .int .i64 x.f1.f3.f0, .int .i64 x.f1.f3.f1, .string x.f1.f3.f2] 39 (0, 0)) from blk_below (blk_new wr _) hb)
     have HO2 := Lib.hid (Kd.R_below (Kd.R_alloc HO.out _) hb)
     have HB2 := Lib.hid (below_step (below_alloc HB9.out _) hb)
     have hsz : wr.heap.size < w2.heap.size := blk_lt HBX.out
     clear hb d0 d1 d2 d3 d4 d5 d6 d7 d8 d9
     cases gb
     ·
      go_wp2_with fail
      go_roundg (l0.length - (i + 1))
      case measure => omega
      case rel => exact ⟨i + 1, by go_num, by omega, Nat.le_refl _, Lib.hid (by rw [HF.out, HX.out, HG2.out, if_neg (by decide), List.append_nil]; exact HO2.out), HB2⟩
     ·
      have z0 : w2.cell? ⟨wr.heap.size, 0, none⟩ = some (.string x.f0.f0) := (blk_cell HBX.out 0).trans rfl
      have z1 : w2.cell? ⟨wr.heap.size, 1, none⟩ = some (.string x.f0.f1) := (blk_cell HBX.out 1).trans rfl
      have z2 : w2.cell? ⟨wr.heap.size, 2, none⟩ = some (.int .i64 x.f0.f2) := (blk_cell HBX.out 2).trans rfl
      have z3 : w2.cell? ⟨wr.heap.size, 3, none⟩ = some (.string x.f0.f3) := (blk_cell HBX.out 3).trans rfl
      have z4 : w2.cell? ⟨wr.heap.size, 4, none⟩ = some (.int .i64 x.f1.f0) := (blk_cell HBX.out 4).trans rfl
      have z5 : w2.cell? ⟨wr.heap.size, 5, none⟩ = some (.bool x.f1.f1) := (blk_cell HBX.out 5).trans rfl
      have z6 : w2.cell? ⟨wr.heap.size, 6, none⟩ = some (.int .i64 x.f1.f2) := (blk_cell HBX.out 6).trans rfl
      have z7 : w2.cell? ⟨wr.heap.size, 7, none⟩ = some (.int .i64 x.f1.f3.f0) := (blk_cell HBX.out 7).trans rfl
      have z8 : w2.cell? ⟨wr.heap.size, 8, none⟩ = some (.int .i64 x.f1.f3.f1) := (blk_cell HBX.out 8).trans rfl
      have z9 : w2.cell? ⟨wr.heap.size, 9, none⟩ = some (.string x.f1.f3.f2) := (blk_cell HBX.out 9).trans rfl
      have hfl : ((l0.take i).filter goodB).length ≤ 1048576 := by
       have h1 := List.length_filter_le goodB (l0.take i)
       rw [List.length_take] at h1
       have := HL0.out; omega
      go_wp2_with ((with_reducible refine gate_builtin (b := .append) (xs := #[.tmp 26, .tmp 28]) rfl ?_); at_builtin; refine Kd.R_append k39 (w0 := w3) w3.heap.size rfl (.tmp 26) (.tmp 28) 25 39 (.agg #[(.string ⟨#[]⟩), (.string ⟨#[]⟩), (.int .i64 0), (.string ⟨#[]⟩), (.int .i64 0), (.bool false), (.int .i64 0), (.int .i64 0), (.int .i64 0), (.string ⟨#[]⟩)]) 112 rfl Try.underlying25 info39 rfl (by decide) (by omega) u5 ((l0.take i).filter goodB) x [.string x.f0.f0, .string x.f0.f1, .int .i64 x.f0.f2, .string x.f0.f3, .int .i64 x.f1.f0, .bool x.f1.f1, .int .i64 x.f1.f2, .int .i64 x.f1.f3.f0, .int .i64 x.f1.f3.f1, .string x.f1.f3.f2] (fun _ => True) (fun _ => False) rfl (by first | (go_simp; done) | (go_simp; rfl)) ?aP (fun _ hk => hk.elim) (fun _ _ => trivial) ?aO ?aB ?aS ?aL ?_; (case aP => exact k39_mkM _ _ _ x); (case aO => exact HO2.out); (case aB => exact HB2.out); (case aS => exact HB2.out.size); (case aL => omega); intro v32 w3 ho3 hb3 hg3 hat3; have HO3 := Lib.hid ho3; have HB3 := Lib.hid hb3; clear ho3 hb3 hg3 hat3)
      go_roundg (l0.length - (i + 1))
      case measure => omega
      case rel => exact ⟨i + 1, by go_num, by omega, Nat.le_refl _, Lib.hid (by rw [HF.out, HX.out, HG2.out, if_pos rfl]; exact HO3.out), HB3⟩
    ·
     have hltz : ¬ (i : Int) < (l0.length : Int) := by omega
     obtain rfl : i = l0.length := by omega
     have ho := HO.out
     rw [List.take_of_length_le (Nat.le_refl _)] at ho
     obtain ⟨A5, c5, rfl, hc5, hC5⟩ := Kd.R_reads ho
     have HX := Lib.hid (And.intro hc5 hC5)
     have HB4 := Lib.hid (below_step HB.out HB9.out)
     clear ho hc5 hC5 HO HB9 hgk hi hlt HRA
     obtain ⟨X, hX⟩ : ∃ X, l0.filter goodB = X := ⟨_, rfl⟩
     rw [hX] at HX HMN ⊢
     have HRB := Lib.hid (fun (W : World) (hw : Below wr.heap.size wr W) => HR1.out W (below_step HB4.out hw))
     obtain ⟨w4, hw4⟩ : ∃ w4, wr = w4 := ⟨_, rfl⟩
     rw [hw4] at HX HB4 HRB ⊢
     clear hw4 hX
     go_wp2_with fail
     go_loopg [6, 33] l1.length (fun gk v5 vi wr => ∃ i : Nat, vi = .int .i64 i ∧ i ≤ l1.length ∧ l1.length - i ≤ gk ∧ Hid (Kd.R k39 39 wr w4.heap.size (fun _ => True) v5 ((l1.take i).filter goodB)) ∧ Hid (Below w4.heap.size w4 wr))
     case atStart => exact ⟨0, rfl, Nat.zero_le _, by omega, Lib.hid (Kd.R_nil _ _ _ _ _), Lib.hid (Below.refl _ _)⟩
     case round =>
      obtain ⟨i, rfl, hi, hgk, HO, HB9⟩ := hrel
      by_cases hlt : i < l1.length
      ·
       have hltz : (i : Int) < (l1.length : Int) := by omega
       have hi0 : (0 : Int) ≤ (i : Int) := by omega
       obtain ⟨x, hx⟩ : ∃ x, l1[i] = x := ⟨_, rfl⟩
       have HX := Lib.hid hx
       obtain ⟨ad, hA, d⟩ := cl_cells (HRB.out _ HB9.out) i hlt
       rw [show l1.getD i z39 = x by rw [← hx, List.getD_eq_getElem?_getD, List.getElem?_eq_getElem hlt]; rfl] at d
       obtain ⟨d0, d1, d2, d3, d4, d5, d6, d7, d8, d9⟩ := d
       subst hA
       have HF := Lib.hid (filt_snoc goodB l1 i hlt)
       clear hx
       obtain ⟨gb, hg⟩ : ∃ gb, goodB x = gb := ⟨_, rfl⟩
       have HG2 := Lib.hid hg
       have HG1 := Lib.hid ((good_f x).trans (congrArg some hg))
       clear hg
       go_wp2_with fail
       refine (cell_Good.calls x.f0.f0 x.f0.f1 x.f0.f2 x.f0.f3 x.f1.f0 x.f1.f1 x.f1.f2 x.f1.f3.f0 x.f1.f3.f1 x.f1.f3.f2 gb _ HG1.out).mono ?_
       rintro e w2 ⟨rfl, hb⟩
       have HBX := Lib.hid (show w2.heap[wr.heap.size]? = some (.cells #[.string x.f0.f0, .string x.f0.f1, .int .i64 x.f0.f2, .string x.f0.f3, .int .i64 x.f1.f0, .bool x.f1.f1, .int .i64 x.f1.f2, .int .i64 x.f1.f3.f0, .int .i64 x.f1.f3.f1, .string x.f1.f3.f2] 39 (0, 0)) from blk_below (blk_new wr _) hb)
       have HO2 := Lib.hid (Kd.R_below (Kd.R_alloc HO.out _) hb)
       have HB2 := Lib.hid (below_step (below_alloc HB9.out _) hb)
       have hsz : wr.heap.size < w2.heap.size := blk_lt HBX.out
       clear hb d0 d1 d2 d3 d4 d5 d6 d7 d8 d9
       cases gb
       ·
        go_wp2_with fail
        go_roundg (l1.length - (i + 1))
        case measure => omega
        case rel => exact ⟨i + 1, by go_num, by omega, Nat.le_refl _, Lib.hid (by rw [HF.out, HX.out, HG2.out, if_neg (by decide), List.append_nil]; exact HO2.out), HB2⟩
       ·
        have z0 : w2.cell? ⟨wr.heap.size, 0, none⟩ = some (.string x.f0.f0) := (blk_cell HBX.out 0).trans rfl
        have z1 : w2.cell? ⟨wr.heap.size, 1, none⟩ = some (.string x.f0.f1) := (blk_cell HBX.out 1).trans rfl
        have z2 : w2.cell? ⟨wr.heap.size, 2, none⟩ = some (.int .i64 x.f0.f2) := (blk_cell HBX.out 2).trans rfl
        have z3 : w2.cell? ⟨wr.heap.size, 3, none⟩ = some (.string x.f0.f3) := (blk_cell HBX.out 3).trans rfl
        have z4 : w2.cell? ⟨wr.heap.size, 4, none⟩ = some (.int .i64 x.f1.f0) := (blk_cell HBX.out 4).trans rfl
        have z5 : w2.cell? ⟨wr.heap.size, 5, none⟩ = some (.bool x.f1.f1) := (blk_cell HBX.out 5).trans rfl
        have z6 : w2.cell? ⟨wr.heap.size, 6, none⟩ = some (.int .i64 x.f1.f2) := (blk_cell HBX.out 6).trans rfl
        have z7 : w2.cell? ⟨wr.heap.size, 7, none⟩ = some (.int .i64 x.f1.f3.f0) := (blk_cell HBX.out 7).trans rfl
        have z8 : w2.cell? ⟨wr.heap.size, 8, none⟩ = some (.int .i64 x.f1.f3.f1) := (blk_cell HBX.out 8).trans rfl
        have z9 : w2.cell? ⟨wr.heap.size, 9, none⟩ = some (.string x.f1.f3.f2) := (blk_cell HBX.out 9).trans rfl
        have hfl : ((l1.take i).filter goodB).length ≤ 1048576 := by
         have h1 := List.length_filter_le goodB (l1.take i)
         rw [List.length_take] at h1
         have := HL1.out; omega
        go_wp2_with ((with_reducible refine gate_builtin (b := .append) (xs := #[.tmp 39, .tmp 41]) rfl ?_); at_builtin; refine Kd.R_append k39 (w0 := w4) w4.heap.size rfl (.tmp 39) (.tmp 41) 25 39 (.agg #[(.string ⟨#[]⟩), (.string ⟨#[]⟩), (.int .i64 0), (.string ⟨#[]⟩), (.int .i64 0), (.bool false), (.int .i64 0), (.int .i64 0), (.int .i64 0), (.string ⟨#[]⟩)]) 112 rfl Try.underlying25 info39 rfl (by decide) (by omega) u6 ((l1.take i).filter goodB) x [.string x.f0.f0, .string x.f0.f1, .int .i64 x.f0.f2, .string x.f0.f3, .int .i64 x.f1.f0, .bool x.f1.f1, .int .i64 x.f1.f2, .int .i64 x.f1.f3.f0, .int .i64 x.f1.f3.f1, .string x.f1.f3.f2] (fun _ => True) (fun _ => False) rfl (by first | (go_simp; done) | (go_simp; rfl)) ?aP (fun _ hk => hk.elim) (fun _ _ => trivial) ?aO ?aB ?aS ?aL ?_; (case aP => exact k39_mkM _ _ _ x); (case aO => exact HO2.out); (case aB => exact HB2.out); (case aS => exact HB2.out.size); (case aL => omega); intro v32 w3 ho3 hb3 hg3 hat3; have HO3 := Lib.hid ho3; have HB3 := Lib.hid hb3; clear ho3 hb3 hg3 hat3)
        go_roundg (l1.length - (i + 1))
        case measure => omega
        case rel => exact ⟨i + 1, by go_num, by omega, Nat.le_refl _, Lib.hid (by rw [HF.out, HX.out, HG2.out, if_pos rfl]; exact HO3.out), HB3⟩
      ·
       have hltz2 : ¬ (i : Int) < (l1.length : Int) := by omega
       obtain rfl : i = l1.length := by omega
       have ho := HO.out
       rw [List.take_of_length_le (Nat.le_refl _)] at ho
       obtain ⟨A6, c6, rfl, hc6, hC6⟩ := Kd.R_reads ho
       obtain ⟨Y, hY⟩ : ∃ Y, l1.filter goodB = Y := ⟨_, rfl⟩
       rw [hY] at hc6 hC6 HMN ⊢
       have HY := Lib.hid (And.intro hc6 hC6)
       have HXC := Lib.hid (And.intro HX.out.1 (Kd.C_below HX.out.2 HB9.out))
       have HBY := Lib.hid (below_step HB4.out HB9.out)
       clear ho hc6 hC6 HO HB9 hgk hi hlt HRB HX HB4 hY
       obtain ⟨w5, hw5⟩ : ∃ w5, wr = w5 := ⟨_, rfl⟩
       rw [hw5] at HY HXC HBY ⊢
       clear hw5
       obtain ⟨B, S, NX, NY, p, q, hmn⟩ := HMN.out
       have HM := Lib.hid hmn
       have HALL := Lib.hid (fun (W : World) (hw : Below w5.heap.size w5 W) (z : Nat) (hz : W.heap.size = z) => show Calls Try.prog 15 #[.slice (some ⟨z, 0, none⟩) 2 2] (W.alloc (.cells #[.slice A5 X.length c5, .slice A6 Y.length c6] 25)) (fun e w' => ∃ v : Value, e = .returned v ∧ Kd.R k39 39 w' W.heap.size (fun _ => True) v B ∧ Below W.heap.size W w') from by
        rw [← hz, ← HM.out.b]; exact all2_calls HM.out.inX HM.out.inY (by have := HM.out.xy; omega) A5 c5 A6 c6 W (Kd.C_below HXC.out.2 hw) HXC.out.1 (Kd.C_below HY.out.2 hw) HY.out.1)
       have HALS := Lib.hid (fun (W : World) (hw : Below w5.heap.size w5 W) (z : Nat) (hz : W.heap.size = z) (A7 : Option Addr) (c7 : Nat) (h7 : S.length ≤ c7 ∧ Kd.C k39 W A7 S.length S) => show Calls Try.prog 15 #[.slice (some ⟨z, 0, none⟩) 2 2] (W.alloc (.cells #[.slice A6 Y.length c6, .slice A7 S.length c7] 25)) (fun e w' => ∃ v : Value, e = .returned v ∧ Kd.R k39 39 w' W.heap.size (fun _ => True) v B ∧ Below W.heap.size W w') from by
        rw [← hz, ← HM.out.ys]; exact all2_calls HM.out.inY HM.out.inS (by have := HM.out.ys2; omega) A6 c6 A7 c7 W (Kd.C_below HY.out.2 hw) HY.out.1 h7.2 h7.1)
       have HSB := Lib.hid (fun (W : World) (hw : Below w5.heap.size w5 W) => show Calls Try.prog 19 #[.slice A5 X.length c5, .slice A6 Y.length c6] W (fun e w' => ∃ v : Value, e = .returned v ∧ Kd.R k39 39 w' W.heap.size (fun _ => True) v S ∧ Below W.heap.size W w') from by
        rw [← HM.out.s]; exact sub2_calls HM.out.inX.len HM.out.inY.len HM.out.inX.key HM.out.inY.key A5 c5 A6 c6 W (Kd.C_below HXC.out.2 hw) HXC.out.1 (Kd.C_below HY.out.2 hw) HY.out.1)
       have HOX := Lib.hid (fun (W : World) (hw : Below w5.heap.size w5 W) (A7 : Option Addr) (c7 : Nat) (h7 : B.length ≤ c7 ∧ Kd.C k39 W A7 B.length B) => show Calls Try.prog 20 #[.slice A5 X.length c5, .slice A7 B.length c7] W (fun e w' => e = .returned (.bool true) ∧ Below W.heap.size W w') from by
        have h := over_calls HM.out.inX.len HM.out.inB.len HM.out.inX.key HM.out.inB.key A5 c5 A7 c7 W (Kd.C_below HXC.out.2 hw) HXC.out.1 h7.2 h7.1
        rw [HM.out.xb] at h; exact h)
       have HOY := Lib.hid (fun (W : World) (hw : Below w5.heap.size w5 W) (A7 : Option Addr) (c7 : Nat) (h7 : B.length ≤ c7 ∧ Kd.C k39 W A7 B.length B) => show Calls Try.prog 20 #[.slice A6 Y.length c6, .slice A7 B.length c7] W (fun e w' => e = .returned (.bool true) ∧ Below W.heap.size W w') from by
        have h := over_calls HM.out.inY.len HM.out.inB.len HM.out.inY.key HM.out.inB.key A6 c6 A7 c7 W (Kd.C_below HY.out.2 hw) HY.out.1 h7.2 h7.1
        rw [HM.out.yb] at h; exact h)
       have HXY := Lib.hid (fun (W : World) (hw : Below w5.heap.size w5 W) => show Calls Try.prog 20 #[.slice A5 X.length c5, .slice A6 Y.length c6] W (fun e w' => e = .returned (.bool p) ∧ Below W.heap.size W w') from by
        rw [← HM.out.pe]; exact over_calls HM.out.inX.len HM.out.inY.len HM.out.inX.key HM.out.inY.key A5 c5 A6 c6 W (Kd.C_below HXC.out.2 hw) HXC.out.1 (Kd.C_below HY.out.2 hw) HY.out.1)
       have HYX := Lib.hid (fun (W : World) (hw : Below w5.heap.size w5 W) => show Calls Try.prog 20 #[.slice A6 Y.length c6, .slice A5 X.length c5] W (fun e w' => e = .returned (.bool q) ∧ Below W.heap.size W w') from by
        rw [← HM.out.qe]; exact over_calls HM.out.inY.len HM.out.inX.len HM.out.inY.key HM.out.inX.key A6 c6 A5 c5 W (Kd.C_below HY.out.2 hw) HY.out.1 (Kd.C_below HXC.out.2 hw) HXC.out.1)
       have HNX := Lib.hid (fun (W : World) (hw : Below w5.heap.size w5 W) => show Calls Try.prog 17 #[.slice A5 X.length c5] W (fun e w' => ∃ v : Value, e = .returned v ∧ Kd.R k39 39 w' W.heap.size (fun _ => True) v NX ∧ Below W.heap.size W w') from by
        rw [← HM.out.nx]; exact skerryref05_Norm.calls _ A5 c5 X _ W (Kd.C_below HXC.out.2 hw) HXC.out.1 (rnorm_f X HM.out.inX.len _ (Nat.lt_succ_self _)))
       have HNY := Lib.hid (fun (W : World) (hw : Below w5.heap.size w5 W) => show Calls Try.prog 17 #[.slice A6 Y.length c6] W (fun e w' => ∃ v : Value, e = .returned v ∧ Kd.R k39 39 w' W.heap.size (fun _ => True) v NY ∧ Below W.heap.size W w') from by
        rw [← HM.out.ny]; exact skerryref05_Norm.calls _ A6 c6 Y _ W (Kd.C_below HY.out.2 hw) HY.out.1 (rnorm_f Y HM.out.inY.len _ (Nat.lt_succ_self _)))
       have HLK := Lib.hid hmn.lk
       have HLB := Lib.hid (show B.length ≤ 1256584717458 by have := hmn.lb; omega)
       clear hmn HM HMN HY HXC HR0 HR1 HFEW
       go_upto_region 16 with fail
       go_cut [11] (fun v11 wd => ∃ (A7 : Option Addr) (c7 : Nat), v11 = .slice A7 B.length c7 ∧ Aside0 (B.length ≤ c7 ∧ Kd.C k39 wd A7 B.length B) ∧ Aside0 (Below w5.heap.size w5 wd))
       case first =>
        go_wp2_with (go_at_call 15; (with_reducible refine (HALL.out _ (Below.refl _ _) _ rfl).mono ?_); rintro e w6 ⟨v1, rfl, ho, hb⟩; obtain ⟨A7, c7, rfl, h7, hC7⟩ := Kd.R_reads ho; have HB6 := Lib.hid hb; have HC7 := Lib.hid (And.intro h7 hC7); clear hb ho h7 hC7)
        go_meet
        case rel => exact ⟨A7, c7, rfl, ⟨HC7.out⟩, ⟨HB6.out⟩⟩
       case rest =>
        obtain ⟨A7, c7, rfl, HC7, HB7⟩ := hcut
        obtain ⟨w7, hw7⟩ : ∃ w7, wc = w7 := ⟨_, rfl⟩
        rw [hw7] at HC7 HB7 ⊢
        clear hw7
        have HD7 := Lib.hid (Below.refl w7.heap.size w7)
        go_upto_region 17 with fail
        go_cut [68] (fun v68 wd => v68 = .bool false ∧ Aside0 (Below w5.heap.size w5 wd))
        case first =>
         go_wp2_with (first | (go_at_call 19; (with_reducible refine (HSB.out _ HB7.out).mono ?_); rintro e w8 ⟨v8, rfl, ho, hb⟩; obtain ⟨A8, c8, rfl, h8, hC8⟩ := Kd.R_reads ho; have HB8 := Lib.hid (below_step HB7.out hb); have HD8 := Lib.hid hb; have HC8 := Lib.hid (And.intro h8 hC8); clear hb ho h8 hC8) | (go_at_call 15; (with_reducible refine (HALS.out w8 HB8.out _ rfl A8 c8 HC8.out).mono ?_); rintro e w9 ⟨v9, rfl, ho, hb⟩; obtain ⟨A9, c9, rfl, h9, hC9⟩ := Kd.R_reads ho; have HB9 := Lib.hid (below_step HB8.out hb); have HD9 := Lib.hid (below_step HD8.out hb); have HC9 := Lib.hid (And.intro h9 hC9); clear hb ho h9 hC9) | (go_at_call 14; (with_reducible refine (like_calls HLB.out A9 c9 A7 c7 w9 HC9.out.2 HC9.out.1 (Kd.C_below HC7.out.2 HD9.out) HC7.out.1).mono ?_); rintro e w10 ⟨rfl, hb⟩; have HB10 := Lib.hid (below_step HB9.out hb); have HD10 := Lib.hid (below_step HD9.out hb); clear hb) | (go_at_call 20; (with_reducible refine (HOX.out w10 HB10.out A7 c7 ⟨HC7.out.1, Kd.C_below HC7.out.2 HD10.out⟩).mono ?_); rintro e w11 ⟨rfl, hb⟩; have HB11 := Lib.hid (below_step HB10.out hb); have HD11 := Lib.hid (below_step HD10.out hb); clear hb) | (go_at_call 20; (with_reducible refine (HOY.out w11 HB11.out A7 c7 ⟨HC7.out.1, Kd.C_below HC7.out.2 HD11.out⟩).mono ?_); rintro e w12 ⟨rfl, hb⟩; have HB12 := Lib.hid (below_step HB11.out hb); clear hb))
         go_meet
         case rel => exact ⟨rfl, ⟨HB12.out⟩⟩
        case rest =>
         clear HB7 HC7 HD7 HSB HALS HOX HOY HALL HLB
         obtain ⟨rfl, HB7⟩ := hcut
         obtain ⟨w7, hw7⟩ : ∃ w7, wc = w7 := ⟨_, rfl⟩
         rw [hw7] at HB7 ⊢
         clear hw7
         cases p
         ·
          have HLK2 := Lib.hid (show skerryref01_Like.f (NX.length + 1) NX NY = some false from HLK.out)
          go_wp2_with (first | (go_at_call 20; (with_reducible refine (HXY.out w7 HB7.out).mono ?_); rintro e w8 ⟨rfl, hb⟩; have HB8 := Lib.hid (below_step HB7.out hb); clear hb) | (go_at_call 17; (with_reducible refine (HNY.out w9 HB9.out).mono ?_); rintro e w10 ⟨v10, rfl, ho, hb⟩; obtain ⟨A10, c10, rfl, h10, hC10⟩ := Kd.R_reads ho; have HB10 := Lib.hid (below_step HB9.out hb); have HD10 := Lib.hid hb; have HC10 := Lib.hid (And.intro h10 hC10); clear hb ho h10 hC10) | (go_at_call 17; (with_reducible refine (HNX.out w8 HB8.out).mono ?_); rintro e w9 ⟨v9, rfl, ho, hb⟩; obtain ⟨A9, c9, rfl, h9, hC9⟩ := Kd.R_reads ho; have HB9 := Lib.hid (below_step HB8.out hb); have HC9 := Lib.hid (And.intro h9 hC9); clear hb ho h9 hC9) | (go_at_call 14; (with_reducible refine (like2_calls HLK2.out A9 c9 A10 c10 w10 (Kd.C_below HC9.out.2 HD10.out) HC9.out.1 HC10.out.2 HC10.out.1).mono ?_); rintro e w11 ⟨rfl, hb⟩; have HB11 := Lib.hid (below_step HB10.out hb); clear hb) | (go_at_call 10; (with_reducible refine (HLV.out w11).mono ?_); rintro e w12 ⟨rfl, hb⟩; have HB12 := Lib.hid (below_step HB11.out hb); clear hb))
          go_ret
          exact ⟨rfl, below_step HBY.out HB12.out⟩
         ·
          have HLK2 := Lib.hid (show skerryref01_Like.f (NX.length + 1) NX NY = some q from by have := HLK.out; rwa [Bool.true_and] at this)
          cases q
          all_goals
           go_wp2_with (first | (go_at_call 20; (with_reducible refine (HYX.out w7a HB7a.out).mono ?_); rintro e w8 ⟨rfl, hb⟩; have HB8 := Lib.hid (below_step HB7a.out hb); clear hb) | (go_at_call 20; (with_reducible refine (HXY.out w7 HB7.out).mono ?_); rintro e w7a ⟨rfl, hb⟩; have HB7a := Lib.hid (below_step HB7.out hb); clear hb) | (go_at_call 17; (with_reducible refine (HNY.out w9 HB9.out).mono ?_); rintro e w10 ⟨v10, rfl, ho, hb⟩; obtain ⟨A10, c10, rfl, h10, hC10⟩ := Kd.R_reads ho; have HB10 := Lib.hid (below_step HB9.out hb); have HD10 := Lib.hid hb; have HC10 := Lib.hid (And.intro h10 hC10); clear hb ho h10 hC10) | (go_at_call 17; (with_reducible refine (HNX.out w8 HB8.out).mono ?_); rintro e w9 ⟨v9, rfl, ho, hb⟩; obtain ⟨A9, c9, rfl, h9, hC9⟩ := Kd.R_reads ho; have HB9 := Lib.hid (below_step HB8.out hb); have HC9 := Lib.hid (And.intro h9 hC9); clear hb ho h9 hC9) | (go_at_call 14; (with_reducible refine (like2_calls HLK2.out A9 c9 A10 c10 w10 (Kd.C_below HC9.out.2 HD10.out) HC9.out.1 HC10.out.2 HC10.out.1).mono ?_); rintro e w11 ⟨rfl, hb⟩; have HB11 := Lib.hid (below_step HB10.out hb); clear hb) | (go_at_call 10; (with_reducible refine (HLV.out w11).mono ?_); rintro e w12 ⟨rfl, hb⟩; have HB12 := Lib.hid (below_step HB11.out hb); clear hb))
           go_ret
           exact ⟨rfl, below_step HBY.out HB12.out⟩
end Go.Proofs.Ytabiekkebdocnaa.Q
