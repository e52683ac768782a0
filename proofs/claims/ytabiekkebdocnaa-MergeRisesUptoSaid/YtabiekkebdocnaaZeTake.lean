/- Lemmas for this claim's walk: no condition of their own. -/
import Derived.Test.YtabiekkebdocnaaZeQx23
import Derived.Test.YtabiekkebdocnaaZeJ32
import Derived.Test.YtabiekkebdocnaaZeJ0
import Derived.Test.YtabiekkebdocnaaZeDown
import Derived.Test.YtabiekkebdocnaaZeSorted
import Derived.Deep.MidRow
import Derived.WalkLawsBesides
import Derived.WalkSpells
import Derived.Lib.Hide
import Derived.Deep.DeepFit
import Derived.Outline
namespace Go.Proofs.Ytabiekkebdocnaa.Q
open Go.RowKit Go.Proofs.YtabiekkebdocnaaW.PrintWords Go.Proofs.YtabiekkebdocnaaW.PrintLast Go.Proofs.YtabiekkebdocnaaW.PrintMore
attribute [local go_sem] max2_int min2_int max_two min_two max_three min_three max_four min_four
set_option linter.unusedVariables false
set_option linter.unusedSimpArgs false
open Go.Lib Go.Proofs.Ytabiekkebdocnaa.Hp
def cellL (x : Cl) : List Value := [.string x.f0.f0, .string x.f0.f1, .int .i64 x.f0.f2, .string x.f0.f3, .int .i64 x.f1.f0, .bool x.f1.f1, .int .i64 x.f1.f2, .int .i64 x.f1.f3.f0, .int .i64 x.f1.f3.f1, .string x.f1.f3.f2]
def popC (t : It) (tl : List Cl) (rest : List It) : List (Int × List Cl) := (if tl.length = 0 then [] else [(t.n, tl)]) ++ rest.map It.c
theorem src_head {q : Nat → Prop} {w : World} {t : It} {x : Cl} {tl : List Cl} (h : Src q w t) (ht : t.l = x :: tl) : ∃ ad, t.A = some ad ∧ w.cell? ad = some (.string x.f0.f0) ∧ w.cell? ⟨ad.block, ad.off + 1, none⟩ = some (.string x.f0.f1) ∧ w.cell? ⟨ad.block, ad.off + 2, none⟩ = some (.int .i64 x.f0.f2) ∧ w.cell? ⟨ad.block, ad.off + 3, none⟩ = some (.string x.f0.f3) ∧ w.cell? ⟨ad.block, ad.off + 4, none⟩ = some (.int .i64 x.f1.f0) ∧ w.cell? ⟨ad.block, ad.off + 5, none⟩ = some (.bool x.f1.f1) ∧ w.cell? ⟨ad.block, ad.off + 6, none⟩ = some (.int .i64 x.f1.f2) ∧ w.cell? ⟨ad.block, ad.off + 7, none⟩ = some (.int .i64 x.f1.f3.f0) ∧ w.cell? ⟨ad.block, ad.off + 8, none⟩ = some (.int .i64 x.f1.f3.f1) ∧ w.cell? ⟨ad.block, ad.off + 9, none⟩ = some (.string x.f1.f3.f2) := by
 have hC := h.c
 rw [ht] at hC
 obtain ⟨ad, h1, h2⟩ := at_T39 hC 0 (by omega) (by simp)
 have h3 : ad.add ((0 : Int).toNat * 10) = ad := by simp [Addr.add]
 rw [h3] at h2
 exact ⟨ad, h1, h2⟩
def popL (t : It) (rest : List It) : List It := ((t :: rest).set 0 ((t :: rest).getD rest.length It.z)).take rest.length
theorem popL_len (t : It) (rest : List It) : (popL t rest).length = rest.length := by simp [popL]
theorem popL_perm (t : It) (rest : List It) : (popL t rest).Perm rest := by
 rcases List.eq_nil_or_concat rest with rfl | ⟨r, l, rfl⟩
 ·
  exact List.Perm.refl _
 ·
  have h : popL t (r ++ [l]) = l :: r := by
   unfold popL
   simp
  rw [List.concat_eq_append, h]
  exact (List.perm_append_singleton l r).symm
theorem popL_getD (t t2 : It) (rest : List It) (j : Nat) (h1 : 1 ≤ j) (h2 : j < (popL t rest).length) : (popL t rest).getD j It.z = (t2 :: rest).getD j It.z := by
 obtain ⟨i, rfl⟩ : ∃ i, j = i + 1 := ⟨j - 1, by omega⟩
 rw [popL_len] at h2
 unfold popL
 simp only [List.getD_eq_getElem?_getD, List.set_cons_zero]
 rw [List.getElem?_take_of_lt h2]
 rfl
theorem put10 {w : World} {b : Nat} {y : Cl} (h : w.heap[b]? = some (.cells (cellL y).toArray 39 (0, 0))) (x : Cl) : (w.setCells b 0 (cellL x)).heap[b]? = some (.cells (cellL x).toArray 39 (0, 0)) := by
 refine blk_put (cs := #[.string x.f0.f0, .string x.f0.f1, .int .i64 x.f0.f2, .string x.f0.f3, .int .i64 x.f1.f0, .bool x.f1.f1, .int .i64 x.f1.f2, .int .i64 x.f1.f3.f0, .int .i64 x.f1.f3.f1, .string y.f1.f3.f2]) ?_ 9 _ rfl
 refine blk_put (cs := #[.string x.f0.f0, .string x.f0.f1, .int .i64 x.f0.f2, .string x.f0.f3, .int .i64 x.f1.f0, .bool x.f1.f1, .int .i64 x.f1.f2, .int .i64 x.f1.f3.f0, .int .i64 y.f1.f3.f1, .string y.f1.f3.f2]) ?_ 8 _ rfl
 refine blk_put (cs := #[.string x.f0.f0, .string x.f0.f1, .int .i64 x.f0.f2, .string x.f0.f3, .int .i64 x.f1.f0, .bool x.f1.f1, .int .i64 x.f1.f2, .int .i64 y.f1.f3.f0, .int .i64 y.f1.f3.f1, .string y.f1.f3.f2]) ?_ 7 _ rfl
 refine blk_put (cs := #[.string x.f0.f0, .string x.f0.f1, .int .i64 x.f0.f2, .string x.f0.f3, .int .i64 x.f1.f0, .bool x.f1.f1, .int .i64 y.f1.f2, .int .i64 y.f1.f3.f0, .int .i64 y.f1.f3.f1, .string y.f1.f3.f2]) ?_ 6 _ rfl
 refine blk_put (cs := #[.string x.f0.f0, .string x.f0.f1, .int .i64 x.f0.f2, .string x.f0.f3, .int .i64 x.f1.f0, .bool y.f1.f1, .int .i64 y.f1.f2, .int .i64 y.f1.f3.f0, .int .i64 y.f1.f3.f1, .string y.f1.f3.f2]) ?_ 5 _ rfl
 refine blk_put (cs := #[.string x.f0.f0, .string x.f0.f1, .int .i64 x.f0.f2, .string x.f0.f3, .int .i64 y.f1.f0, .bool y.f1.f1, .int .i64 y.f1.f2, .int .i64 y.f1.f3.f0, .int .i64 y.f1.f3.f1, .string y.f1.f3.f2]) ?_ 4 _ rfl
 refine blk_put (cs := #[.string x.f0.f0, .string x.f0.f1, .int .i64 x.f0.f2, .string y.f0.f3, .int .i64 y.f1.f0, .bool y.f1.f1, .int .i64 y.f1.f2, .int .i64 y.f1.f3.f0, .int .i64 y.f1.f3.f1, .string y.f1.f3.f2]) ?_ 3 _ rfl
 refine blk_put (cs := #[.string x.f0.f0, .string x.f0.f1, .int .i64 y.f0.f2, .string y.f0.f3, .int .i64 y.f1.f0, .bool y.f1.f1, .int .i64 y.f1.f2, .int .i64 y.f1.f3.f0, .int .i64 y.f1.f3.f1, .string y.f1.f3.f2]) ?_ 2 _ rfl
 refine blk_put (cs := #[.string x.f0.f0, .string y.f0.f1, .int .i64 y.f0.f2, .string y.f0.f3, .int .i64 y.f1.f0, .bool y.f1.f1, .int .i64 y.f1.f2, .int .i64 y.f1.f3.f0, .int .i64 y.f1.f3.f1, .string y.f1.f3.f2]) ?_ 1 _ rfl
 exact blk_put h 0 _ rfl
theorem R_put10 {w : World} {b : Nat} {y : Cl} (h : w.heap[b]? = some (.cells (cellL y).toArray 39 (0, 0))) (x : Cl) {base : Nat} {v : Value} {xs : List It} (hR : Kd.R kIt 59 w base (fun _ => True) v xs) : Kd.R kIt 59 (w.setCells b 0 (cellL x)) base (fun _ => True) v xs :=
 Kd.R_mono (Kd.R_step (Kd.R_types hR h (fun q hq => by simp only [kIt, List.mem_cons, List.not_mem_nil, or_false] at hq; subst hq; decide)) (fun k hk _ => setCells_far _ _ k hk.2)) (fun _ _ => trivial)
theorem grown_put10 {w w1 : World} {b : Nat} {row : Option Nat} (h : w.grownBy w1 row) (hb : w.heap.size ≤ b) (x : Cl) : w.grownBy (w1.setCells b 0 (cellL x)) row := by
 obtain ⟨s1, s2, s3, s4⟩ := setCells_same b (cellL x) 0 w1
 exact ⟨s1.trans h.os, s2.trans h.tape, s3.trans h.output, by rw [s4]; exact h.size, fun k hk hr => (setCells_far _ _ k (by omega)).trans (h.block k hk hr)⟩
theorem infoCl : (Try.prog.info? 39).map (·.size) = some 10 := by kernel_rfl
structure TK (w wc : World) (base g n cap b1 b2 : Nat) (ys : List It) (x : Cl) : Prop where
 row : Kd.R kIt 59 wc base (fun _ => True) (.slice (some ⟨g, 0, none⟩) n cap) ys
 gr : w.grownBy wc (some g)
 h1 : wc.heap[b1]? = some (.cells (cellL z39).toArray 39 (0, 0))
 h2 : wc.heap[b2]? = some (.cells (cellL x).toArray 39 (0, 0))
 ge : w.heap.size ≤ b1 ∧ b1 < b2 ∧ g < w.heap.size
set_option maxHeartbeats 2000000 in
set_option maxRecDepth 100000 in
theorem take_calls {lt : It → It → Bool} (hlt : Lt lt) (hO : Srt.WOrd lt) (base : Nat) (q : Nat → Prop) (v : Value) (t : It) (x : Cl) (tl : List Cl) (rest : List It) (w : World) (hH : HW lt base q w v (t :: rest)) (ht : t.l = x :: tl) (hlen : rest.length < 1000000) :
  Calls Try.prog 31 #[v] w fun e w' => ∃ (v' : Value) (zs : List It), e = .returned (.tuple #[.agg (cellL x).toArray, v']) ∧ HW lt base q w' v' zs ∧ (zs.map It.c).Perm (popC t tl rest) ∧ w.grownBy w' v.ownBlock := by
 obtain ⟨g, cap, rfl, hg1, hg2, -⟩ := Kd.R_form hH.row (by simp)
 have HH := Lib.hid hH
 have HLT := Lib.hid (And.intro hlt hO)
 obtain ⟨hs, -⟩ := hH.src t List.mem_cons_self
 have hle : t.l.length ≤ t.cap := hs.cap
 have hl1 : t.l.length = tl.length + 1 := by rw [ht]; rfl
 rw [hl1] at hle
 have HG := Lib.hid (And.intro hg1 hg2)
 have HL := Lib.hid (And.intro hlen (And.intro ht hs))
 simp only [List.length_cons]
 have q0 : (0 : Int) < ((rest.length + 1 : Nat) : Int) := by omega
 have q1 : (0 : Int) < ((tl.length + 1 : Nat) : Int) := by omega
 have HQ := Lib.hid (And.intro hle hl1)
 clear hlt hO hH hs ht hlen hle hl1 hg1 hg2
 go_enter Try.func31, Try.ntmps31
 go_upto_region 0 with fail
 go_cut [2] (fun v2 wc => ∃ b1 : Nat, v2 = .pointer (some ⟨b1, 0, none⟩) ∧ Aside0 (w.heap.size ≤ b1 ∧ wc.heap[b1]? = some (.cells (cellL z39).toArray 39 (0, 0))) ∧ Aside0 (Below w.heap.size w wc))
 case first =>
  go_wp2_with fail
  go_meet
  case rel => exact ⟨w.heap.size, rfl, ⟨Nat.le_refl _, heap_new_ _ _⟩, ⟨below_alloc (Below.refl _ _) _⟩⟩
 case rest =>
  obtain ⟨b1, rfl, HB1, HB⟩ := hcut
  have HH1 := Lib.hid (Kd.R_below HH.out.row HB.out)
  obtain ⟨c1, c2, cf⟩ := it_cells HH1.out 0 (by simp)
  rw [show (t :: rest).getD 0 It.z = t from rfl] at c1 c2
  obtain ⟨ad, hA, d0, d1, d2, d3, d4, d5, d6, d7, d8, d9⟩ := src_head (HL.out.2.2.below HB.out) HL.out.2.1
  rw [hA, HQ.out.2] at c1
  have HA := Lib.hid hA
  clear hA cf
  go_upto_region 1 with fail
  go_cut [4] (fun v4 wd => ∃ b2 : Nat, v4 = .pointer (some ⟨b2, 0, none⟩) ∧ Aside0 (TK w wd base g (rest.length + 1) cap b1 b2 (t :: rest) x))
  case first =>
   go_wp2_with fail
   go_meet
   case rel =>
    have hb1 := HB1.out.1
    have hc2 := HB1.out.2
    have hlt1 := blk_lt hc2
    exact ⟨wc.heap.size, rfl, ⟨Kd.R_alloc HH1.out _, grown_below (grown_of_below HB.out _) (below_alloc (Below.refl _ _) _), blk_alloc hc2 _, heap_new_ _ _, hb1, hlt1, HG.out.2⟩⟩
  case rest =>
   clear HH1 HB1 HB c1 c2 d0 d1 d2 d3 d4 d5 d6 d7 d8 d9
   obtain ⟨b2, rfl, HT⟩ := hcut
   obtain ⟨c1, c2, cf⟩ := it_cells HT.out.row 0 (by simp)
   rw [show (t :: rest).getD 0 It.z = t from rfl] at c1 c2
   rw [HA.out, HQ.out.2] at c1
   have f1 := cf (0 * 2)
   have q2 : (1 : Int) ≤ ((tl.length + 1 : Nat) : Int) := by omega
   have q3 : (1 : Int) ≤ (t.cap : Int) := by have := HQ.out.1; omega
   clear cf
   obtain ⟨A', eA⟩ : ∃ A', (if t.cap = 1 then t.A else t.A.map (·.add 10)) = A' := ⟨_, rfl⟩
   obtain ⟨cap', eC⟩ : ∃ cap', t.cap - 1 = cap' := ⟨_, rfl⟩
   have HS1 := Lib.hid (show Src q w ⟨A', cap', t.n, tl⟩ by
    have h := HL.out.2.2.tail (by rw [HL.out.2.1]; simp)
    rw [eA, eC, HL.out.2.1] at h
    exact h)
   rw [HA.out] at eA
   have HE := Lib.hid (And.intro eA eC)
   clear eA eC
   go_upto_region 2 with fail
   go_cut [3] (fun v3 we => ∃ u : Value, v3 = u ∧ Aside0 (TK w we base g (rest.length + 1) cap b1 b2 (⟨A', cap', t.n, tl⟩ :: rest) x))
   case first =>
    have key := fun (V : Value) (hV : V = .slice A' tl.length cap') => (show TK w (wc.setCell ⟨g, 0, none⟩ V) base g (rest.length + 1) cap b1 b2 (⟨A', cap', t.n, tl⟩ :: rest) x from by
     subst hV
     obtain ⟨r1, r2, r4, r5, r6⟩ := HT.out
     have r7 := it_put0 r1 0 (by simp) ⟨A', cap', t.n, tl⟩ rfl
     refine ⟨r7, grown_set r2 (.inr rfl) _, ?_, ?_, r6⟩
     ·
      exact blk_far (p := ⟨g, 0, none⟩) r4 (by show b1 ≠ g; omega) _
     ·
      exact blk_far (p := ⟨g, 0, none⟩) r5 (by show b2 ≠ g; omega) _)
    have HK := Lib.hid key
    clear key
    by_cases hcap : t.cap = 1
    ·
     have hv : Value.slice (some ad) tl.length 0 = .slice A' tl.length cap' := by rw [← HE.out.1, ← HE.out.2, if_pos hcap, hcap]
     have HV := Lib.hid hv
     clear hv
     go_wp2_with fail
     go_meet
     case rel => exact ⟨_, rfl, ⟨HK.out _ HV.out⟩⟩
    ·
     have hv : Value.slice (some (ad.add 10)) tl.length (t.cap - 1) = .slice A' tl.length cap' := by rw [← HE.out.1, ← HE.out.2, if_neg hcap]; rfl
     have HV := Lib.hid hv
     clear hv
     go_wp2_with fail
     go_meet
     case rel => exact ⟨_, rfl, ⟨HK.out _ HV.out⟩⟩
   case rest =>
    clear HT c1 c2 f1 HA HE
    obtain ⟨_, rfl, HT⟩ := hcut
    obtain ⟨c1, c2, cf⟩ := it_cells HT.out.row 0 (by simp)
    rw [show ((⟨A', cap', t.n, tl⟩ : It) :: rest).getD 0 It.z = ⟨A', cap', t.n, tl⟩ from rfl] at c1 c2
    dsimp only at c1 c2
    have HF := Lib.hid cf
    clear cf q2 q3
    go_upto_if 24 with fail
    have hx : ∀ zs : List It, zs.length ≤ rest.length + 1 → (∀ j, 1 ≤ j → j < zs.length → zs.getD j It.z = (t :: rest).getD j It.z) → Hx lt It.z 0 0 zs := fun zs h1 h2 => Hx.root HH.out.hp h1 h2
    have HX := Lib.hid hx
    clear hx
    go_cut [0] (fun v0 we => ∃ zs : List It, v0 = .slice (some ⟨g, 0, none⟩) zs.length cap ∧ Aside0 (TK w we base g zs.length cap b1 b2 zs x) ∧ Aside0 ((∀ t ∈ zs, Src q w t ∧ t.l ≠ []) ∧ Hx lt It.z 0 0 zs ∧ (zs.map It.c).Perm (popC t tl rest) ∧ zs.length ≤ rest.length + 1))
    case first =>
     by_cases h0 : tl.length = 0
     ·
      have q2 : (tl.length : Int) = 0 := by omega
      have q3 : (rest.length : Int) ≤ 1000000 := by have := HL.out.1; omega
      have q4 : rest.length + 1 ≤ cap := by
       have h := (Kd.R_reads' HT.out.row).2.1
       exact h
      obtain ⟨c3, c4, -⟩ := it_cells HT.out.row rest.length (by simp)
      obtain ⟨la, ela⟩ : ∃ la, ((⟨A', cap', t.n, tl⟩ : It) :: rest).getD rest.length It.z = la := ⟨_, rfl⟩
      rw [ela] at c3 c4
      have f0 := HF.out (0 * 2)
      have f1 := HF.out (0 * 2 + 1)
      have HLA := Lib.hid ela
      have H0 := Lib.hid h0
      clear ela h0
      go_wp2_with fail
      go_meet
      case rel =>
       refine ⟨popL ⟨A', cap', t.n, tl⟩ rest, by rw [popL_len], ⟨?_⟩, ⟨fun u hu => HH.out.src u (List.mem_cons_of_mem _ ((popL_perm _ rest).mem_iff.1 hu)), HX.out _ (by rw [popL_len]; omega) (fun j h1 h2 => popL_getD _ _ _ j h1 h2), ?_, by rw [popL_len]; omega⟩⟩
       ·
        obtain ⟨r1, r2, r4, r5, r6⟩ := HT.out
        have r7 := Kd.R_take (m := rest.length) (it_put r1 0 (by simp) la) (by simp)
        rw [← HLA.out] at r7
        rw [popL_len]
        rw [← HLA.out]
        refine ⟨r7, grown_set (grown_set r2 (p := ⟨g, 0, none⟩) (.inr rfl) _) (p := ⟨g, 1, none⟩) (.inr rfl) _, ?_, ?_, r6⟩
        ·
         exact blk_far (p := ⟨g, 1, none⟩) (blk_far (p := ⟨g, 0, none⟩) r4 (by show b1 ≠ g; omega) _) (by show b1 ≠ g; omega) _
        ·
         exact blk_far (p := ⟨g, 1, none⟩) (blk_far (p := ⟨g, 0, none⟩) r5 (by show b2 ≠ g; omega) _) (by show b2 ≠ g; omega) _
       ·
        unfold popC
        rw [if_pos H0.out]
        exact (popL_perm _ rest).map _
     ·
      have q2 : ¬ (tl.length : Int) = 0 := by omega
      go_wp2_with fail
      go_meet
      case rel =>
       refine ⟨⟨A', cap', t.n, tl⟩ :: rest, rfl, ⟨HT.out⟩, ⟨fun u hu => ?_, HX.out _ (Nat.le_refl _) (fun j h1 h2 => by obtain ⟨i, rfl⟩ : ∃ i, j = i + 1 := ⟨j - 1, by omega⟩; rfl), ?_, Nat.le_refl _⟩⟩
       ·
        rcases List.mem_cons.1 hu with rfl | hu
        ·
         exact ⟨HS1.out, fun e => h0 (by rw [show tl = [] from e]; rfl)⟩
        ·
         exact HH.out.src u (List.mem_cons_of_mem _ hu)
       ·
        unfold popC
        rw [if_neg h0]
        exact List.Perm.refl _
    case rest =>
     clear HT c1 c2 HF HX HS1
     obtain ⟨zs, rfl, HT, HZ⟩ := hcut
     go_upto_region 6 with fail
     go_upto_if 40 with fail
     go_cut [3] (fun v3 we => ∃ (u : Value) (ys : List It), v3 = u ∧ Aside0 (TK w we base g zs.length cap b1 b2 ys x) ∧ Aside0 (ys.Perm zs ∧ Hp lt It.z 0 ys))
     case first =>
      by_cases h0 : zs.length = 0
      ·
       have q2 : ¬ (0 : Int) < (zs.length : Int) := by omega
       have H0 := Lib.hid h0
       clear h0
       go_wp2_with fail
       go_meet
       case rel => exact ⟨_, zs, rfl, ⟨HT.out⟩, ⟨List.Perm.refl _, Hp.short (by have := H0.out; omega)⟩⟩
      ·
       have q2 : (0 : Int) < (zs.length : Int) := by omega
       have HD := Lib.hid (show Calls Try.prog 46 #[.slice (some ⟨g, 0, none⟩) zs.length cap, .int .i64 0] wc _ from down_calls HLT.out.1 base g zs.length cap (fun _ => True) zs 0 wc HT.out.row (fun u hu => ⟨(HZ.out.1 u hu).1.grown HH.out.row HT.out.gr, (HZ.out.1 u hu).2⟩) (by omega) (by have := HZ.out.2.2.2; have := HL.out.1; omega))
       clear h0
       go_wp2_with (go_at_call 46; (with_reducible refine HD.out.mono ?_); rintro e w1 ⟨rfl, ho, hg⟩; have HR1 := Lib.hid ho; have HG1 := Lib.hid hg; clear ho hg)
       go_meet
       case rel =>
        obtain ⟨r1, r2, r4, r5, r6⟩ := HT.out
        exact ⟨_, dn lt It.z zs 0, rfl, ⟨HR1.out, grown_trans r2 HG1.out, blk_grown r4 HG1.out (by intro e; injection e with e; omega), blk_grown r5 HG1.out (by intro e; injection e with e; omega), r6⟩, ⟨dn_perm zs 0, dn_hp HLT.out.2 (Nat.le_refl _) HZ.out.2.1⟩⟩
     case rest =>
      clear HT
      obtain ⟨_, ys, rfl, HT, HY⟩ := hcut
      have b0 := fun i => blk_cell HT.out.h1 i
      have d0 := (blk_cell HT.out.h2 0).trans (show _ = some (Value.string x.f0.f0) from rfl)
      have d1 := (blk_cell HT.out.h2 1).trans (show _ = some (Value.string x.f0.f1) from rfl)
      have d2 := (blk_cell HT.out.h2 2).trans (show _ = some (Value.int .i64 x.f0.f2) from rfl)
      have d3 := (blk_cell HT.out.h2 3).trans (show _ = some (Value.string x.f0.f3) from rfl)
      have d4 := (blk_cell HT.out.h2 4).trans (show _ = some (Value.int .i64 x.f1.f0) from rfl)
      have d5 := (blk_cell HT.out.h2 5).trans (show _ = some (Value.bool x.f1.f1) from rfl)
      have d6 := (blk_cell HT.out.h2 6).trans (show _ = some (Value.int .i64 x.f1.f2) from rfl)
      have d7 := (blk_cell HT.out.h2 7).trans (show _ = some (Value.int .i64 x.f1.f3.f0) from rfl)
      have d8 := (blk_cell HT.out.h2 8).trans (show _ = some (Value.int .i64 x.f1.f3.f1) from rfl)
      have d9 := (blk_cell HT.out.h2 9).trans (show _ = some (Value.string x.f1.f3.f2) from rfl)
      have e0 := (b0 0).trans (show _ = some (Value.string z39.f0.f0) from rfl)
      have e1 := (b0 1).trans (show _ = some (Value.string z39.f0.f1) from rfl)
      have e2 := (b0 2).trans (show _ = some (Value.int .i64 z39.f0.f2) from rfl)
      have e3 := (b0 3).trans (show _ = some (Value.string z39.f0.f3) from rfl)
      have e4 := (b0 4).trans (show _ = some (Value.int .i64 z39.f1.f0) from rfl)
      have e5 := (b0 5).trans (show _ = some (Value.bool z39.f1.f1) from rfl)
      have e6 := (b0 6).trans (show _ = some (Value.int .i64 z39.f1.f2) from rfl)
      have e7 := (b0 7).trans (show _ = some (Value.int .i64 z39.f1.f3.f0) from rfl)
      have e8 := (b0 8).trans (show _ = some (Value.int .i64 z39.f1.f3.f1) from rfl)
      have e9 := (b0 9).trans (show _ = some (Value.string z39.f1.f3.f2) from rfl)
      have f0 := blk_frozen HT.out.h1 0
      have f1 := blk_frozen HT.out.h1 1
      have f2 := blk_frozen HT.out.h1 2
      have f3 := blk_frozen HT.out.h1 3
      have f4 := blk_frozen HT.out.h1 4
      have f5 := blk_frozen HT.out.h1 5
      have f6 := blk_frozen HT.out.h1 6
      have f7 := blk_frozen HT.out.h1 7
      have f8 := blk_frozen HT.out.h1 8
      have f9 := blk_frozen HT.out.h1 9
      clear b0
      go_wp2_with fail
      clear d0 d1 d2 d3 d4 d5 d6 d7 d8 d9 e0 e1 e2 e3 e4 e5 e6 e7 e8 e9 f0 f1 f2 f3 f4 f5 f6 f7 f8 f9
      show bodyPost _ _ _ _ _ (wc.setCells b1 0 (cellL x))
      obtain ⟨r1, r2, r4, r5, r6⟩ := HT.out
      refine bodyPost_ret (results_ct rfl _ _ b1 39 (cellL x).toArray (0, 0) _ rfl (put10 r4 x) Try.underlying39 rfl infoCl) rfl ?_
      have hg := grown_put10 (x := x) r2 r6.1
      refine ⟨_, ys, rfl, ⟨R_put10 r4 x r1, fun u hu => ?_, HY.out.2⟩, (HY.out.1.map _).trans HZ.out.2.2.1, hg⟩
      have hu' := HZ.out.1 u (HY.out.1.mem_iff.1 hu)
      exact ⟨hu'.1.grown HH.out.row hg, hu'.2⟩
end Go.Proofs.Ytabiekkebdocnaa.Q
