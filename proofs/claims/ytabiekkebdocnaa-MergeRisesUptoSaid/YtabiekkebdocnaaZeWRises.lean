/- Lemmas for this claim's walk: no condition of their own. -/
import Derived.Test.YtabiekkebdocnaaZeQx23
import Derived.Test.YtabiekkebdocnaaZeQx24
import Derived.Test.YtabiekkebdocnaaZeJ16
import Derived.Test.YtabiekkebdocnaaZeQx0
import Derived.Test.YtabiekkebdocnaaZeQx25
import Derived.Test.YtabiekkebdocnaaZeQx27
import Derived.Test.YtabiekkebdocnaaZeJ32
import Derived.Test.YtabiekkebdocnaaZeJ0
import Derived.Test.YtabiekkebdocnaaZeDown
import Derived.Test.YtabiekkebdocnaaZeSorted
import Derived.Test.YtabiekkebdocnaaZeTake
import Derived.Test.YtabiekkebdocnaaZeEach
import Derived.Test.YtabiekkebdocnaaZeGrp
import Derived.Test.YtabiekkebdocnaaZeRh
import Derived.Test.YtabiekkebdocnaaZeSeqE
import Derived.Test.YtabiekkebdocnaaZeJ13
import Derived.Test.YtabiekkebdocnaaZeAll
import Derived.Test.YtabiekkebdocnaaZeJ42
import Derived.Test.YtabiekkebdocnaaZeSub
import Derived.Test.YtabiekkebdocnaaZeJ44
import Derived.Test.YtabiekkebdocnaaZeJ35
import Derived.Test.YtabiekkebdocnaaZeQx13
import Derived.Deep.AppendLies
import Derived.Deep.MidRow
import Derived.WalkLawsBesides
import Derived.WalkSpells
import Derived.Lib.Hide
import Derived.Deep.DeepFit
import Derived.Outline
namespace Go.Proofs.Ytabiekkebdocnaa.Q
open Go.RowKit Go.Proofs.YtabiekkebdocnaaW.PrintWords Go.Proofs.YtabiekkebdocnaaW.PrintLast Go.Proofs.YtabiekkebdocnaaW.PrintMore
attribute [local go_sem] max2_int min2_int max_two min_two max_three min_three max_four min_four
set_option linter.unusedVariables false
set_option linter.unusedSimpArgs false
open Go.Lib Go.Proofs.Ytabiekkebdocnaa.Hp Go.Proofs.Ytabiekkebdocnaa.Pl Go.Proofs.Ytabiekkebdocnaa.Rh Go.Proofs.Ytabiekkebdocnaa.Ord Go.Proofs.Ytabiekkebdocnaa.Nm Go.Proofs.Ytabiekkebdocnaa.Opn
attribute [local go_sem] Oper.semAt_some
theorem eqF (d : Nat) (w : World) (f : Fn) (x y : Array Value) : (Op.equalIn (d + 1) 30 (.func f x y) .nilFunc).run Try.prog w = .ok false w := by
 have h := Try.underlying30
 unfold Op.equalIn
 simp [go_sem, h]
theorem eqFn (w : World) (f : Fn) (x y : Array Value) : (binOp .eql 30 (.func f x y) .nilFunc).run Try.prog w = .ok (.bool false) w := by
 simp only [binOp]
 simp [Op.equal, Op.maxDepth, eqF 9999]
attribute [local go_sem high] eqFn eqA39
theorem ins_ok {ls : List (List Cl)} (h : Ins ls) (h4 : ls.length ≤ 400) : LsOk normC ls := lsok (by omega) (fun l hl => (h.one l hl).len) (by have := norm_sum ls; have := h.tot; omega)
theorem outs_tot (ls : List (List Cl)) : sumI ((outs (src0 normC 0 ls)).map Prod.snd) = ((ls.flatMap normC).length : Int) := by
 rw [outs_sum (fun p hp => by obtain ⟨-, -, l, -, e⟩ := src0_mem normC 0 ls p hp; rw [e]; exact norm_inc cmpK_cmp joinC_key l), src0_flat]
def eqC (x c : Cl) : Bool := (x.f0.f0.toList == c.f0.f0.toList && (x.f0.f1.toList == c.f0.f1.toList && (x.f0.f2 == c.f0.f2 && (x.f0.f3.toList == c.f0.f3.toList)))) && ((x.f1.f0 == c.f1.f0 && (x.f1.f1 == c.f1.f1 && (x.f1.f2 == c.f1.f2 && ((x.f1.f3.f0 == c.f1.f3.f0 && (x.f1.f3.f1 == c.f1.f3.f1 && (x.f1.f3.f2.toList == c.f1.f3.f2.toList))))))))
theorem eqC_self (c : Cl) : eqC c c = true := by simp [eqC]
theorem any_snoc {α : Type} {l : List α} (q : α → Bool) {i : Nat} (h : i < l.length) : (l.take (i + 1)).any q = ((l.take i).any q || q l[i]) := by
 rw [List.take_succ_eq_append_getElem h, List.any_append]; simp
theorem Kp.cell {A : World} {n0 n1 b : Nat} {t : Int} (hb : A.heap[b]? = some (.cells #[.int .i64 t] 3 (0, 0))) (h1 : n1 ≤ b) (u : Value) : Kp TH n0 n1 A (A.setCell ⟨b, 0, none⟩ u) := ⟨rfl, rfl, rfl, by simp [World.setCell], fun k hk hc => Below.heap_setCell A ⟨b, 0, none⟩ u k (fun e => by
 have e2 : k = b := e
 subst e2
 rcases hc with hc | ⟨cells, fr, hc⟩
 ·
  omega
 ·
  rw [hb] at hc; cases hc)⟩
structure Tot (w : World) (b : Nat) (W : World) (t : Int) : Prop where
 box : W.heap[b]? = some (.cells #[.int .i64 t] 3 (0, 0))
 bel : Below w.heap.size w W
 lt : w.heap.size ≤ b
theorem Tot.mvb {w : World} {b B : Nat} {A C : World} {t : Int} (h : Tot w b A t) (hm : MvB TH w.heap.size B A C) (hB : w.heap.size ≤ B) : Tot w b C t := by
 obtain ⟨h1, h3, h4⟩ := h
 exact ⟨(hm.same b (blk_lt h1) (.inr (typed_ne h1 (by decide))) (.inr ⟨_, h1, rfl⟩)).trans h1, ⟨hm.os.trans h3.os, hm.tape.trans h3.tape, hm.output.trans h3.output, Nat.le_trans h3.size hm.size, fun k hk => (hm.same k (by have := h3.size; omega) (.inl hk) (.inl (by omega))).trans (h3.block k hk)⟩, h4⟩
theorem Tot.below {w : World} {b : Nat} {A C : World} {t : Int} (h : Tot w b A t) (hb : Below A.heap.size A C) : Tot w b C t := ⟨blk_below h.box hb, below_step h.bel hb, h.lt⟩
theorem Tot.put {w : World} {b : Nat} {A : World} {t : Int} (h : Tot w b A t) (u : Int) : Tot w b (A.setCell ⟨b, 0, none⟩ (.int .i64 u)) u := ⟨blk_put h.box 0 _ rfl, below_set h.bel h.lt, h.lt⟩
theorem pre_sum {pre all : List (Cl × Int)} (h : pre <+: all) (hn : ∀ p ∈ all, 0 ≤ p.2) : 0 ≤ sumI (pre.map Prod.snd) ∧ sumI (pre.map Prod.snd) ≤ sumI (all.map Prod.snd) := by
 have pos : ∀ l : List (Cl × Int), (∀ p ∈ l, 0 ≤ p.2) → 0 ≤ sumI (l.map Prod.snd) := fun l => by
  induction l with
  | nil => intro _; exact Int.le_refl _
  | cons x l ih =>
   intro h
   rw [List.map_cons, sum_cons]
   have := ih (fun p hp => h p (List.mem_cons_of_mem _ hp))
   have := h x List.mem_cons_self
   omega
 obtain ⟨r, rfl⟩ := h
 have h1 := pos pre (fun p hp => hn p (List.mem_append_left _ hp))
 have h2 := pos r (fun p hp => hn p (List.mem_append_right _ hp))
 have h3 : sumI ((pre ++ r).map Prod.snd) = sumI (pre.map Prod.snd) + sumI (r.map Prod.snd) := by
  rw [List.map_append]
  have := sum_go (r.map Prod.snd) (sumI (pre.map Prod.snd))
  unfold sumI at this ⊢
  rw [List.foldl_append, this]
 exact ⟨h1, by omega⟩
theorem outs_pos (S : SL) : ∀ p ∈ outs S, 0 ≤ p.2 := fun p hp => by
 unfold outs at hp
 obtain ⟨y, -, rfl⟩ := List.mem_map.1 hp
 exact Int.natCast_nonneg _
theorem drop_sum {ls : List (List Cl)} {j : Nat} (hj : j < ls.length) : ((ls.drop j).flatMap normC).length = (normC ls[j]).length + ((ls.drop (j + 1)).flatMap normC).length := by
 rw [List.drop_eq_getElem_cons hj, List.flatMap_cons, List.length_append]
set_option maxHeartbeats 8000000 in
set_option maxRecDepth 100000 in
theorem walkRises (A0 : Option Addr) (c0 : Nat) (ls : List (List Cl)) (b : Bool) (w : World) (hr0 : Kd.C (Kd.slice 39 k39) w A0 ls.length ls) (hc0 : ls.length ≤ c0) (h : Ins ls ∧ b = true) :
  Calls Try.prog 4 #[.slice A0 ls.length c0] w fun e w' => e = .returned (.bool b) ∧ Below w.heap.size w w' := by
 obtain ⟨h0, rfl⟩ := h
 obtain ⟨r, hr4, hfew⟩ := fews_calls h0
 have HFEW := Lib.hid (hfew A0 c0 w hr0 hc0)
 have HLV := Lib.hid lives_calls
 have HI := Lib.hid h0
 have HR4 := Lib.hid hr4
 have HR0 := Lib.hid (fun (W : World) (hw : Below w.heap.size w W) => Kd.C_below hr0 hw)
 clear hr0 hfew h0 hr4
 refine (callsIn_wide (n := 6)).1 ?_
 refine callsIn_of_wp_marks Try.func4 rfl trivial ?_ rfl
 simp only [Try.ntmps4, List.size_toArray, List.length_cons, List.length_nil, Nat.reduceAdd, Nat.reduceSub, Array.replicate_succ, Array.replicate_zero, List.push_toArray, List.append_toArray, List.nil_append, List.cons_append]
 refine (wpIn_wide (n := 6)).2 ?_
 go_upto_region 1 with fail
 go_cut [19] from 3 to 81 (fun v16 wc => v16 = .bool (!r) ∧ Aside0 (Below w.heap.size w wc))
 case first =>
  go_wp2_with (go_at_call 9; (with_reducible refine HFEW.out.mono ?_); rintro e w1 ⟨rfl, hb⟩; have HB1 := Lib.hid hb; clear hb)
  go_meet
  case rel => exact ⟨rfl, ⟨HB1.out⟩⟩
 case rest =>
  obtain ⟨rfl, HB⟩ := hcut
  cases r
  ·
   go_wp2_with (go_at_call 10; (with_reducible refine (HLV.out _).mono ?_); rintro e w1 ⟨rfl, hb⟩; have HB1 := Lib.hid (below_step HB.out hb); clear hb)
   refine ⟨_, ?_, ⟨rfl, HB1.out⟩⟩
   simp [results, Try.f4, go_sem]
  ·
   have h400 := HR4.out rfl
   have hn : (ls.length : Int) ≤ 400 := by omega
   clear HR4 HFEW
   obtain ⟨w3, hw3⟩ : ∃ w3, wc = w3 := ⟨_, rfl⟩
   rw [hw3] at HB ⊢
   clear hw3
   have HRA := Lib.hid (fun (W : World) (hw : Below w3.heap.size w3 W) => HR0.out W (below_step HB.out hw))
   have HALL := Lib.hid (fun (W : World) (hw : Below w3.heap.size w3 W) => all_calls (ins_ok HI.out h400) A0 c0 W (HRA.out W hw) hc0)
   have HEA := Lib.hid (fun (W : World) (hw : Below w3.heap.size w3 W) => each_ok (ins_ok HI.out h400) A0 c0 W (HRA.out W hw) hc0)
   have hML : (normC (ls.flatMap normC)).length ≤ 1048576 := by
    have h1 : (normC (ls.flatMap normC)).length ≤ (ls.flatMap normC).length := norm_len (c := cmpK) (key := keyC) (jn := joinC) _
    have := norm_sum ls; have := HI.out.tot; omega
   obtain ⟨sb, hsb, hsb2⟩ := sorted_f (normC (ls.flatMap normC)) (by omega) _ (Nat.lt_succ_self _)
   obtain rfl : sb = true := hsb2.2 (norm_inc cmpK_cmp joinC_key _)
   have HIN := Lib.hid (fun (z : Cl) (hz : z ∈ normC (ls.flatMap normC)) => all_in hz)
   obtain ⟨M, hM⟩ : ∃ M, normC (ls.flatMap normC) = M := ⟨_, rfl⟩
   rw [hM] at HALL hML hsb HIN
   have HSB := Lib.hid hsb
   have HML := Lib.hid hML
   clear hsb hsb2 hM hML
   go_upto_region 3 with fail
   go_cut [3] from 3 to 81 (fun v3 wd => ∃ (A3 : Option Addr) (c3 : Nat), v3 = .slice A3 M.length c3 ∧ Aside0 (M.length ≤ c3 ∧ Kd.C k39 wd A3 M.length M) ∧ Aside0 (Below w3.heap.size w3 wd))
   case first =>
    go_wp2_with (go_at_call 15; (with_reducible refine (HALL.out _ (Below.refl _ _)).mono ?_); rintro e w6 ⟨v1, rfl, ho, hb⟩; obtain ⟨A7, c7, rfl, h7, hC7⟩ := Kd.R_reads ho; have HB6 := Lib.hid hb; have HC7 := Lib.hid (And.intro h7 hC7); clear hb ho h7 hC7)
    go_meet
    case rel => exact ⟨A7, c7, rfl, ⟨HC7.out⟩, ⟨HB6.out⟩⟩
   case rest =>
    clear HALL
    obtain ⟨A3, c3, rfl, HC3, HB3⟩ := hcut
    obtain ⟨w4, hw4⟩ : ∃ w4, wc = w4 := ⟨_, rfl⟩
    rw [hw4] at HC3 HB3 ⊢
    clear hw4
    go_upto_region 9 with (first | (go_at_call 16; (with_reducible refine (cell_Sorted.calls _ A3 c3 M true w4 HC3.out.2 HC3.out.1 HSB.out).mono ?_); rintro e w6 ⟨rfl, hb⟩; have HB6 := Lib.hid hb; clear hb) | (go_at_call 13; (with_reducible refine (HEA.out _ (below_step HB3.out HB6.out)).mono ?_); rintro e w7 ⟨B, rfl, hsq, hb⟩; have HSQ := Lib.hid hsq; have HB7 := Lib.hid (below_step HB6.out hb); clear hsq hb))
    go_cut [3, 4, 5] from 3 to 81 (fun v3 v4 v5 wd => v3 = .slice A3 M.length c3 ∧ v4 = .func (.func 29) #[] #[.pointer (some ⟨B, 0, none⟩)] ∧ v5 = .pointer (some ⟨w7.heap.size, 0, none⟩) ∧ wd = (w7.alloc (.cells #[.int .i64 0] 3)))
    case first =>
     go_wp2_with fail
     go_meet
     case rel => exact ⟨rfl, rfl, rfl, rfl⟩
    case rest =>
     obtain ⟨rfl, rfl, rfl, rfl⟩ := hcut
     go_wp2_with fail
     have hT0 : Tot w7 w7.heap.size (w7.alloc (.cells #[.int .i64 0] 3)) (sumI (([] : List (Cl × Int)).map Prod.snd)) := ⟨heap_new_ _ _, below_alloc (Below.refl _ _) _, Nat.le_refl _⟩
     have HT0 := Lib.hid hT0
     have hsq := SeqH.later (HSQ.out 5 (by omega)) (below_alloc (Below.refl w7.heap.size w7) (.cells #[.int .i64 0] 3))
     have HTS := Lib.hid (fun (pre : List (Cl × Int)) (h : pre <+: outs (src0 normC 0 ls)) => (show 0 ≤ sumI (pre.map Prod.snd) ∧ sumI (pre.map Prod.snd) ≤ 1048576 from by
      have h1 := pre_sum h (outs_pos _)
      rw [outs_tot] at h1
      have := norm_sum ls; have := HI.out.tot; omega))
     clear hT0
     refine (wpIn_wide (n := 6)).1 ?_
     refine wpIn_range_h rfl (by omega) (gf := 29) (lb := #[.pointer (some ⟨B, 0, none⟩)]) rfl trivial (Go.Proofs.enters_of Try.func29 (by kernel_rfl) rfl) (by simp) hsq (fun _ => rfl)
      (fun pre W => Tot w7 w7.heap.size W (sumI (pre.map Prod.snd))) (fun _ _ _ => False) (fun _ _ _ h hm => Tot.mvb h hm (by simp)) (fun _ _ _ _ h _ => h) HT0.out
      (fun pre x a' W => Tot w7 w7.heap.size W (sumI (pre.map Prod.snd)) ∧ a' = { tmps := #[.slice A0 ls.length c0, undef, .bool false, .slice A3 M.length c3, .func (.func 29) #[] #[.pointer (some ⟨B, 0, none⟩)], .pointer (some ⟨w7.heap.size, 0, none⟩), u6, .int .i64 x.2, u8, u9, u10, u11, u12, u13, u14, u15, u16, u17, u18, u19, u20, u21, u22, u23, u24, u25, u26, u27, u28, u29, .func (.func 29) #[] #[.pointer (some ⟨B, 0, none⟩)], .agg (cellL x.1).toArray, .int .i64 x.2, u33, u34, u35, u36, u37, u38, u39, u40, u41, u42, u43, u44, u45, u46, u47, u48, u49, u50, u51, u52, u53, u54, u55, u56, u57, u58, u59, u60, u61, u62, u63, u64, u65, u66, u67, u68, u69, u70, u71, u72, u73, u74, u75, u76, u77, u78, u79, u80, u81], defers := [] })
      (fun pre x a' V C h hm => ⟨Tot.mvb h.1 hm (by simp), h.2⟩) ?assign ?body ?done ?stop
     case assign =>
      intro l pre x W K hI _ hK
      dsimp only [cellL]
      gi_wp2
      exact hK _ _ (KO.of (KeepsOthers.below (Below.refl _ _))) (Kp.refl _ _ _ _) ⟨hI, rfl⟩
     case body =>
      rintro l pre x a' W ⟨hI, rfl⟩ hpre
      obtain ⟨t, ht⟩ : ∃ t, sumI (pre.map Prod.snd) = t := ⟨_, rfl⟩
      have hs2 := HTS.out _ hpre
      have hs1 := HTS.out pre ((List.prefix_append _ _).trans hpre)
      rw [List.map_append, List.map_cons, List.map_nil, sum_snoc, ht] at hs2
      rw [ht] at hs1 hI
      have cb := (blk_cell hI.box 0).trans (show _ = some (Value.int .i64 t) from rfl)
      have fb := blk_frozen hI.box 0
      have qw : wrap64 (t + x.2) = t + x.2 := by unfold wrap64; omega
      have HIb := Lib.hid hI
      have HTb := Lib.hid ht
      clear hI hs1 hs2 ht
      gi_wp2
      refine ⟨KO.of (KeepsOthers.setCell _ _ _), ?_, ?_⟩
      ·
       exact Kp.cell HIb.out.box (Nat.le_refl _) _
      ·
       show Tot w7 w7.heap.size _ (sumI ((pre ++ [x]).map Prod.snd))
       rw [List.map_append, List.map_cons, List.map_nil, sum_snoc, HTb.out]
       first | exact HIb.out.put _ | (rw [← qw]; exact HIb.out.put _)
     case done =>
      rintro D W hD hI hK
      rw [outs_tot] at hI
      have HDK := Lib.hid (And.intro hD hK)
      have HIT := Lib.hid hI
      clear hI hD hK hsq HT0 HTS HSQ
      have HW7 := Lib.hid (below_step HB3.out HB7.out)
      have HCM := Lib.hid (And.intro HC3.out.1 (Kd.C_below HC3.out.2 HB7.out))
      have HD := Lib.hid HDK.out.2
      have hmM : (M.length : Int) ≤ 1048576 := by have := HML.out; omega
      go_wp2_with fail
      go_loopg [9, 38, 39, 40, 41, 42, 43, 44, 45, 46, 47] ls.length (fun gj v9 vj v39 v40 v41 v42 v43 v44 v45 v46 v47 wr => ∃ j : Nat, vj = .int .i64 j ∧ j ≤ ls.length ∧ ls.length - j ≤ gj ∧ Hid (Tot w7 w7.heap.size wr (((ls.drop j).flatMap normC).length : Int)) ∧ Hid (wr.heap[D]? = some (.deferred (some []))))
      case atStart => exact ⟨0, rfl, Nat.zero_le _, by omega, HIT, HD⟩
      case round =>
       obtain ⟨j, rfl, hj, hgj, HTJ, HDJ⟩ := hrel
       by_cases hjl : j < ls.length
       ·
        have hjz : (j : Int) < (ls.length : Int) := by omega
        have hj0 : (0 : Int) ≤ (j : Int) := by omega
        obtain ⟨ad0, A1, c1, e1, hx0, hc1, hC1⟩ := at_LL (HRA.out w7 HW7.out) j hjl
        have hx1 := pw_cell_below HTJ.out.bel hx0
        have hml0 := (HI.out.one _ (List.getElem_mem hjl)).len
        have hds := drop_sum hjl
        have hdt : ((ls.drop j).flatMap normC).length ≤ 1048576 := by
         have h1 := norm_sum (ls.drop j)
         have h2 : ls.flatten.length = (ls.take j).flatten.length + ((ls.drop j).flatten).length := by rw [← List.length_append, ← List.flatten_append, List.take_append_drop]
         have := HI.out.tot; omega
        obtain ⟨m, hm⟩ : ∃ m, ls[j] = m := ⟨_, rfl⟩
        rw [hm] at hx1 hc1 hC1 hml0 hds
        have HNRM := Lib.hid (fun (W : World) (hw : Below w7.heap.size w7 W) => skerryref05_Norm.calls _ A1 c1 m _ W (Kd.C_below hC1 hw) hc1 (rnorm_f m hml0 _ (Nat.lt_succ_self _)))
        obtain ⟨NX, hNX⟩ : ∃ NX, normC m = NX := ⟨_, rfl⟩
        rw [hNX] at HNRM hds
        obtain ⟨q, hq⟩ : ∃ q, ((ls.drop (j + 1)).flatMap normC).length = q := ⟨_, rfl⟩
        rw [hq] at hds
        rw [hds] at HTJ hdt
        have HQ := Lib.hid hq
        have qw : wrap64 (((NX.length + q : Nat) : Int) - (NX.length : Int)) = (q : Int) := by unfold wrap64; omega
        have cb := (blk_cell HTJ.out.box 0).trans (show _ = some (Value.int .i64 ((NX.length + q : Nat) : Int)) from rfl)
        have fb := blk_frozen HTJ.out.box 0
        obtain ⟨T, hT⟩ : ∃ T : Int, ((NX.length + q : Nat) : Int) = T := ⟨_, rfl⟩
        rw [hT] at HTJ cb qw
        subst e1
        clear hm hNX hq hds hdt hml0 hc1 hC1 hx0 hT
        go_upto_region 16 with fail
        refine wp_region_noPanic ?_
        go_region_with (first | (go_at_call 17; (with_reducible refine (HNRM.out _ (below_step HTJ.out.bel (below_drew (Below.refl _ _)))).mono ?_); rintro e w9 ⟨v9, rfl, ho, hb⟩; obtain ⟨A9, c9, rfl⟩ := Kd.R_slice ho; have HB9 := Lib.hid (below_step (below_drew (Below.refl wr.heap.size wr)) hb); have hs1 : w9.cell? ⟨w7.heap.size, 0, none⟩ = some (.int .i64 T) := (blk_cell (HTJ.out.below HB9.out).box 0).trans rfl; have fs1 := blk_frozen (HTJ.out.below HB9.out).box 0; clear ho hb))
        all_goals refine NoPanic.normal ?_
        all_goals
         go_wp2_with fail
         go_roundg (ls.length - (j + 1))
         case measure => omega
         case rel => exact ⟨j + 1, by go_num, by omega, Nat.le_refl _, Lib.hid (by rw [HQ.out]; first | exact (HTJ.out.below HB9.out).put _ | (rw [← qw]; exact (HTJ.out.below HB9.out).put _)), Lib.hid ((Below.heap_setCell _ ⟨w7.heap.size, 0, none⟩ _ D (fun e => by have e2 : D = w7.heap.size := e; have h1 := HDJ.out; rw [e2, HTJ.out.box] at h1; cases h1)).trans (blk_below HDJ.out HB9.out))⟩
       ·
        have hjz : ¬ (j : Int) < (ls.length : Int) := by omega
        obtain rfl : j = ls.length := by omega
        have ht0 := HTJ.out
        rw [List.drop_eq_nil_of_le (Nat.le_refl _)] at ht0
        have HT0 := Lib.hid (show Tot w7 w7.heap.size wr 0 from ht0)
        obtain ⟨w9, hw9⟩ : ∃ w9, wr = w9 := ⟨_, rfl⟩
        rw [hw9] at HT0 HDJ ⊢
        clear HTJ ht0 hgj hj hw9
        go_wp2_with fail
        rcases A3 with _ | ad3
        ·
         go_loopg [11, 12, 14, 16, 50, 51, 52, 53, 54, 55, 56, 57, 58, 59, 60, 61, 62, 63, 64, 65, 66, 67, 68, 69, 70, 71, 72, 73, 74, 75, 76] M.length (fun gk v11 v12 v14 v16 vk v51 v52 v53 v54 v55 v56 v57 v58 v59 v60 v61 v62 v63 v64 v65 v66 v67 v68 v69 v70 v71 v72 v73 v74 v75 v76 wr => ∃ i : Nat, vk = .int .i64 i ∧ i ≤ M.length ∧ M.length - i ≤ gk ∧ Hid (Below w9.heap.size w9 wr))
         case atStart => exact ⟨0, rfl, Nat.zero_le _, by omega, Lib.hid (Below.refl _ _)⟩
         case round =>
          obtain ⟨i, rfl, hi, hgi, HBI⟩ := hrel
          have hil : ¬ i < M.length := by have h1 := HCM.out.2.2.2; intro h; obtain ⟨ad, e, -⟩ := h1 (by omega); cases e
          ·
           have hiz : ¬ (i : Int) < (M.length : Int) := by omega
           have HTZ := Lib.hid (HT0.out.below HBI.out)
           have HDZ := Lib.hid (blk_below HDJ.out HBI.out)
           have cb := (blk_cell HTZ.out.box 0).trans (show _ = some (Value.int .i64 0) from rfl)
           go_wp2_with (go_at_call 10; (with_reducible refine (HLV.out _).mono ?_); rintro e wl ⟨rfl, hb⟩; have HBL := Lib.hid hb; clear hb)
           have hk1 := blk_below HDZ.out HBL.out
           refine ⟨by simp, .inl ⟨_, _, rfl, run_takeDeferred hk1, ?_⟩⟩
           have hlw : w.heap.size ≤ D := by
            have h1 := HDK.out.1
            have h2 := HB.out.size; have h3 := HW7.out.size
            simp at h1; omega
           have hbl : Below w.heap.size w wl := below_step (below_step (below_step HB.out HW7.out) HTZ.out.bel) HBL.out
           refine ⟨_, ?_, ⟨rfl, hbl.trans (belowK_b (w := w) (Nat.le_refl _) wl D _ _ hlw hk1 rfl rfl)⟩⟩
           simp [results, Try.f4, go_sem]
        ·
         go_loopg [11, 12, 14, 16, 50, 51, 52, 53, 54, 55, 56, 57, 58, 59, 60, 61, 62, 63, 64, 65, 66, 67, 68, 69, 70, 71, 72, 73, 74, 75, 76] M.length (fun gk v11 v12 v14 v16 vk v51 v52 v53 v54 v55 v56 v57 v58 v59 v60 v61 v62 v63 v64 v65 v66 v67 v68 v69 v70 v71 v72 v73 v74 v75 v76 wr => ∃ i : Nat, vk = .int .i64 i ∧ i ≤ M.length ∧ M.length - i ≤ gk ∧ Hid (Below w9.heap.size w9 wr))
         case atStart => exact ⟨0, rfl, Nat.zero_le _, by omega, Lib.hid (Below.refl _ _)⟩
         case round =>
          obtain ⟨i, rfl, hi, hgi, HBI⟩ := hrel
          by_cases hil : i < M.length
          ·
           have hiz : (i : Int) < (M.length : Int) := by omega
           have hi0 : (0 : Int) ≤ (i : Int) := by omega
           have HBM := Lib.hid (below_step HT0.out.bel HBI.out)
           obtain ⟨ad, hA, d⟩ := cl_cells (Kd.C_below HCM.out.2 HBM.out) i hil
           obtain rfl : ad3 = ad := by injection hA
           clear hA
           obtain ⟨c, hc⟩ : ∃ c, M[i] = c := ⟨_, rfl⟩
           rw [show M.getD i z39 = c by rw [← hc, List.getD_eq_getElem?_getD, List.getElem?_eq_getElem hil]; rfl] at d
           obtain ⟨d0, d1, d2, d3, d4, d5, d6, d7, d8, d9⟩ := d
           have HANY := Lib.hid (show (ls.any fun l => l.any fun x => eqC x c) = true from by
            obtain ⟨l, h1, h2⟩ := HIN.out c (hc ▸ List.getElem_mem hil)
            exact List.any_eq_true.2 ⟨l, h1, List.any_eq_true.2 ⟨c, h2, eqC_self c⟩⟩)
           obtain ⟨W1, hW1⟩ : ∃ W1, wr.alloc (.cells #[.string c.f0.f0, .string c.f0.f1, .int .i64 c.f0.f2, .string c.f0.f3, .int .i64 c.f1.f0, .bool c.f1.f1, .int .i64 c.f1.f2, .int .i64 c.f1.f3.f0, .int .i64 c.f1.f3.f1, .string c.f1.f3.f2] 39) = W1 := ⟨_, rfl⟩
           have HW1 := Lib.hid (show W1.heap[wr.heap.size]? = some (.cells #[.string c.f0.f0, .string c.f0.f1, .int .i64 c.f0.f2, .string c.f0.f3, .int .i64 c.f1.f0, .bool c.f1.f1, .int .i64 c.f1.f2, .int .i64 c.f1.f3.f0, .int .i64 c.f1.f3.f1, .string c.f1.f3.f2] 39 (0, 0)) from hW1 ▸ heap_new_ wr _)
           have HBW1 := Lib.hid (show Below w9.heap.size w9 W1 from hW1 ▸ below_alloc HBI.out _)
           obtain ⟨g, hg⟩ : ∃ g, wr.heap.size = g := ⟨_, rfl⟩
           clear hc
           go_wp2_with fail
           rw [hg] at HW1
           have HBM1 := Lib.hid (below_step HT0.out.bel HBW1.out)
           clear d0 d1 d2 d3 d4 d5 d6 d7 d8 d9 hW1 hg HBI HBM
           go_loopg [12, 14, 16, 56, 57, 58, 59, 60, 61, 62, 63, 64, 65, 66, 67, 68, 69, 70, 71, 72, 73] ls.length (fun gj v12 v14 v16 vj v57 v58 v59 v60 v61 v62 v63 v64 v65 v66 v67 v68 v69 v70 v71 v72 v73 wq => ∃ a : Nat, vj = .int .i64 a ∧ v12 = .bool ((ls.take a).any fun l => l.any fun x => eqC x c) ∧ a ≤ ls.length ∧ ls.length - a ≤ gj ∧ Hid (Below W1.heap.size W1 wq))
           case atStart => exact ⟨0, rfl, rfl, Nat.zero_le _, by omega, Lib.hid (Below.refl _ _)⟩
           case round =>
            obtain ⟨a, rfl, rfl, ha, hga, HBA⟩ := hrel
            by_cases hal : a < ls.length
            ·
             have haz : (a : Int) < (ls.length : Int) := by omega
             have ha0 : (0 : Int) ≤ (a : Int) := by omega
             obtain ⟨ad1, A1, c1, e1, hx0, hc1, hC1⟩ := at_LL (HRA.out w7 HW7.out) a hal
             have hx1 := pw_cell_below (below_step HBM1.out HBA.out) hx0
             have HAS := Lib.hid (any_snoc (fun l : List Cl => l.any fun x => eqC x c) hal)
             have hml := HI.out.len _ (List.getElem_mem hal)
             obtain ⟨m, hm⟩ : ∃ m, ls[a] = m := ⟨_, rfl⟩
             rw [hm] at hx1 hc1 hC1 hml HAS
             obtain ⟨pb, hpb⟩ : ∃ pb, ((ls.take a).any fun l => l.any fun x => eqC x c) = pb := ⟨_, rfl⟩
             rw [hpb] at HAS ⊢
             have hmz : (m.length : Int) ≤ 1048576 := by omega
             have HMC := Lib.hid hC1
             subst e1
             clear hm hpb hc1 hC1 hx0
             go_wp2_with fail
             go_loopg [12, 16, 62, 63, 64, 65, 66, 67, 68, 69, 70, 71, 72] m.length (fun gj v12 v16 vj v63 v64 v65 v66 v67 v68 v69 v70 v71 v72 wz => ∃ e : Nat, vj = .int .i64 e ∧ v12 = .bool (pb || (m.take e).any fun x => eqC x c) ∧ e ≤ m.length ∧ m.length - e ≤ gj ∧ Hid (Below W1.heap.size W1 wz))
             case atStart => exact ⟨0, rfl, by simp, Nat.zero_le _, by omega, HBA⟩
             case round =>
              obtain ⟨e, rfl, rfl, he, hge, HBE⟩ := hrel
              by_cases hel : e < m.length
              ·
               have hez : (e : Int) < (m.length : Int) := by omega
               have he0 : (0 : Int) ≤ (e : Int) := by omega
               obtain ⟨ad2, hA2, d⟩ := cl_cells (Kd.C_below HMC.out (below_step HBM1.out HBE.out)) e hel
               have HAS2 := Lib.hid (any_snoc (fun x : Cl => eqC x c) hel)
               obtain ⟨x, hx⟩ : ∃ x, m[e] = x := ⟨_, rfl⟩
               rw [show m.getD e z39 = x by rw [← hx, List.getD_eq_getElem?_getD, List.getElem?_eq_getElem hel]; rfl] at d
               rw [hx] at HAS2
               obtain ⟨d0, d1, d2, d3, d4, d5, d6, d7, d8, d9⟩ := d
               subst hA2
               have HK := Lib.hid (blk_below HW1.out HBE.out)
               have y0 := fun o => (blk_cell (blk_alloc HK.out o) 0).trans (show _ = some (Value.string c.f0.f0) from rfl)
               have y1 := fun o => (blk_cell (blk_alloc HK.out o) 1).trans (show _ = some (Value.string c.f0.f1) from rfl)
               have y2 := fun o => (blk_cell (blk_alloc HK.out o) 2).trans (show _ = some (Value.int .i64 c.f0.f2) from rfl)
               have y3 := fun o => (blk_cell (blk_alloc HK.out o) 3).trans (show _ = some (Value.string c.f0.f3) from rfl)
               have y4 := fun o => (blk_cell (blk_alloc HK.out o) 4).trans (show _ = some (Value.int .i64 c.f1.f0) from rfl)
               have y5 := fun o => (blk_cell (blk_alloc HK.out o) 5).trans (show _ = some (Value.bool c.f1.f1) from rfl)
               have y6 := fun o => (blk_cell (blk_alloc HK.out o) 6).trans (show _ = some (Value.int .i64 c.f1.f2) from rfl)
               have y7 := fun o => (blk_cell (blk_alloc HK.out o) 7).trans (show _ = some (Value.int .i64 c.f1.f3.f0) from rfl)
               have y8 := fun o => (blk_cell (blk_alloc HK.out o) 8).trans (show _ = some (Value.int .i64 c.f1.f3.f1) from rfl)
               have y9 := fun o => (blk_cell (blk_alloc HK.out o) 9).trans (show _ = some (Value.string c.f1.f3.f2) from rfl)
               obtain ⟨vb, hvb⟩ : ∃ vb, (pb || (m.take e).any fun x => eqC x c) = vb := ⟨_, rfl⟩
               have HVB := Lib.hid (show (pb || (m.take (e + 1)).any fun x => eqC x c) = (vb || eqC x c) by rw [HAS2.out, ← Bool.or_assoc, hvb])
               rw [hvb]
               have HEQ := Lib.hid (rfl : eqC x c = eqC x c)
               clear hx hvb
               cases vb
               all_goals
                go_wp2_with fail
                go_roundg (m.length - (e + 1))
                case measure => omega
                case rel => exact ⟨e + 1, by go_num, (by rw [HVB.out]; first | rfl | simp [eqC]), by omega, Nat.le_refl _, Lib.hid (below_alloc HBE.out _)⟩
              ·
               have hez : ¬ (e : Int) < (m.length : Int) := by omega
               obtain rfl : e = m.length := by omega
               rw [List.take_of_length_le (Nat.le_refl _)]
               go_wp2_with fail
               go_roundg (ls.length - (a + 1))
               case measure => omega
               case rel => exact ⟨a + 1, by go_num, (by rw [HAS.out]), by omega, Nat.le_refl _, HBE⟩
            ·
             have haz : ¬ (a : Int) < (ls.length : Int) := by omega
             obtain rfl : a = ls.length := by omega
             rw [List.take_of_length_le (Nat.le_refl _), HANY.out]
             have HBN := Lib.hid (below_step HBW1.out HBA.out)
             go_wp2_with fail
             go_roundg (M.length - (i + 1))
             case measure => omega
             case rel => exact ⟨i + 1, by go_num, by omega, Nat.le_refl _, HBN⟩
          ·
           have hiz : ¬ (i : Int) < (M.length : Int) := by omega
           have HTZ := Lib.hid (HT0.out.below HBI.out)
           have HDZ := Lib.hid (blk_below HDJ.out HBI.out)
           have cb := (blk_cell HTZ.out.box 0).trans (show _ = some (Value.int .i64 0) from rfl)
           go_wp2_with (go_at_call 10; (with_reducible refine (HLV.out _).mono ?_); rintro e wl ⟨rfl, hb⟩; have HBL := Lib.hid hb; clear hb)
           have hk1 := blk_below HDZ.out HBL.out
           refine ⟨by simp, .inl ⟨_, _, rfl, run_takeDeferred hk1, ?_⟩⟩
           have hlw : w.heap.size ≤ D := by
            have h1 := HDK.out.1
            have h2 := HB.out.size; have h3 := HW7.out.size
            simp at h1; omega
           have hbl : Below w.heap.size w wl := below_step (below_step (below_step HB.out HW7.out) HTZ.out.bel) HBL.out
           refine ⟨_, ?_, ⟨rfl, hbl.trans (belowK_b (w := w) (Nat.le_refl _) wl D _ _ hlw hk1 rfl rfl)⟩⟩
           simp [results, Try.f4, go_sem]
     case stop =>
      rintro D c pre W _ _ h
      exact h.elim
end Go.Proofs.Ytabiekkebdocnaa.Q
