/- Lemmas for this claim's walk: no condition of their own. -/
import Derived.Test.YtabiekkebdocnaaZaQx23
import Derived.Test.YtabiekkebdocnaaZaQx24
import Derived.Test.YtabiekkebdocnaaZaJ17
import Derived.Test.YtabiekkebdocnaaZaQx30
import Derived.Test.YtabiekkebdocnaaZaQx31
import Derived.Test.YtabiekkebdocnaaZaJ36
import Derived.Test.YtabiekkebdocnaaZaJ0
import Derived.Test.YtabiekkebdocnaaZaDown
import Derived.Test.YtabiekkebdocnaaZaSorted
import Derived.Test.YtabiekkebdocnaaZaTake
import Derived.Test.YtabiekkebdocnaaZaEach
import Derived.Test.YtabiekkebdocnaaZaGrp
import Derived.Test.YtabiekkebdocnaaZaRh
import Derived.Test.YtabiekkebdocnaaZaSeqE
import Derived.Test.YtabiekkebdocnaaZaJ14
import Derived.Test.YtabiekkebdocnaaZaAll
import Derived.Test.YtabiekkebdocnaaZaJ46
import Derived.Test.YtabiekkebdocnaaZaSub
import Derived.Test.YtabiekkebdocnaaZaPart
import Derived.Test.YtabiekkebdocnaaZaJ49
import Derived.Deep.RegionHeld3
import Derived.Deep.MidRow
import Derived.WalkLawsBesides
import Derived.WalkSpells
import Derived.Lib.Hide
import Derived.Deep.DeepFit
import Derived.Outline
namespace Go.Proofs.Ytabiekkebdocnaa.Q
open Go.RowKit Go.Proofs.YtabiekkebdocnaaW.PrintWords Go.Proofs.YtabiekkebdocnaaW.PrintLast Go.Proofs.YtabiekkebdocnaaW.PrintMore
attribute [local go_sem] max2_int min2_int max_two min_two max_three min_three max_four min_four
set_option linter.unusedVariables false
set_option linter.unusedSimpArgs false
open Go.Lib Go.Proofs.Ytabiekkebdocnaa.Hp Go.Proofs.Ytabiekkebdocnaa.Pl Go.Proofs.Ytabiekkebdocnaa.Rh Go.Proofs.Ytabiekkebdocnaa.Ord Go.Proofs.Ytabiekkebdocnaa.Nm Go.Proofs.Ytabiekkebdocnaa.Opn
structure In (l : List Cl) : Prop where
 wc : ∀ c ∈ l, WC c
 len : l.length ≤ 1256584717421
theorem In.key {l : List Cl} (h : In l) : ∀ y ∈ l, KeyW y.f0 := fun y hy => WC.key (h.wc y hy)
theorem few2_calls {l0 l1 : List Cl} (h0 : In l0) (h1 : In l1) : ∃ r : Bool, ∀ (A0 : Option Addr) (c0 : Nat) (A1 : Option Addr) (c1 : Nat) (w : World), Kd.C k39 w A0 l0.length l0 → l0.length ≤ c0 → Kd.C k39 w A1 l1.length l1 → l1.length ≤ c1 → Calls Try.prog 9 #[.slice (some ⟨w.heap.size, 0, none⟩) 2 2] (w.alloc (.cells #[.slice A0 l0.length c0, .slice A1 l1.length c1] 25)) fun e w' => e = .returned (.bool r) ∧ Below w.heap.size w w' := by
 obtain ⟨r, hr, -⟩ := few_f [l0, l1] (fun l hl c hc => by
   rcases List.mem_cons.1 hl with rfl | hl
   ·
    exact WC.fine (h0.wc c hc)
   ·
    obtain rfl := List.mem_singleton.1 hl; exact WC.fine (h1.wc c hc)) (fun l hl => by
   rcases List.mem_cons.1 hl with rfl | hl
   ·
    exact h0.len
   ·
    obtain rfl := List.mem_singleton.1 hl; exact h1.len) (by simp) 1256584717422 (fun l hl => by
   rcases List.mem_cons.1 hl with rfl | hl
   ·
    have := h0.len; omega
   ·
    obtain rfl := List.mem_singleton.1 hl; have := h1.len; omega) 1256584717425 (by simp)
 refine ⟨r, fun A0 c0 A1 c1 w hC0 hc0 hC1 hc1 => (skerrylaw10_few.calls _ (some ⟨w.heap.size, 0, none⟩) 2 [l0, l1] r _ (C_two (heap_new_ w _) (Kd.C_alloc hC0 _) hc0 (Kd.C_alloc hC1 _) hc1) (Nat.le_refl 2) hr).mono ?_⟩
 rintro e w' ⟨rfl, hb⟩
 exact ⟨rfl, below_then (below_alloc (Below.refl _ _) _) (by simp) hb⟩
theorem like_calls {l : List Cl} (hl : l.length ≤ 1256584717458) (A0 : Option Addr) (c0 : Nat) (A1 : Option Addr) (c1 : Nat) (w : World) (hC0 : Kd.C k39 w A0 l.length l) (hc0 : l.length ≤ c0) (hC1 : Kd.C k39 w A1 l.length l) (hc1 : l.length ≤ c1) : Calls Try.prog 14 #[.slice A0 l.length c0, .slice A1 l.length c1] w fun e w' => e = .returned (.bool true) ∧ Below w.heap.size w w' :=
 (skerryref01_Like.calls _ A0 c0 l A1 c1 l true w hC0 hc0 hC1 hc1 (like_self l hl (l.length + 1) (Nat.lt_succ_self _))).mono fun e w' ⟨h1, h2⟩ => ⟨h1, h2.below⟩
theorem sub_le (a b : List Cl) : (subF (normC a) (normC b)).length ≤ a.length := by
 have h1 : (subF (normC a) (normC b)).length ≤ (normC a).length := List.length_filter_le _ _
 have h2 : (normC a).length ≤ a.length := norm_len (c := cmpK) (key := keyC) (jn := joinC) a
 omega
set_option maxHeartbeats 4000000 in
set_option maxRecDepth 100000 in
theorem walkSubs (A0 : Option Addr) (c0 : Nat) (l0 : List Cl) (A1 : Option Addr) (c1 : Nat) (l1 : List Cl) (k0 k1 : ByteArray) (k2 : Int) (k3 : ByteArray) (b : Bool) (w : World) (hr0 : Kd.C k39 w A0 l0.length l0) (hc0 : l0.length ≤ c0) (hr1 : Kd.C k39 w A1 l1.length l1) (hc1 : l1.length ≤ c1) (h : (In l0 ∧ In l1) ∧ b = true) :
  Calls Try.prog 5 #[.slice A0 l0.length c0, .slice A1 l1.length c1, .agg #[.string k0, .string k1, .int .i64 k2, .string k3]] w fun e w' => e = .returned (.bool b) ∧ Below w.heap.size w w' := by
 obtain ⟨⟨h0, h1⟩, rfl⟩ := h
 obtain ⟨r, hfew⟩ := few2_calls h0 h1
 have HFEW := Lib.hid (fun (W : World) (hw : Below w.heap.size w W) (z : Nat) (hz : W.heap.size = z) => show Calls Try.prog 9 #[.slice (some ⟨z, 0, none⟩) 2 2] (W.alloc (.cells #[.slice A0 l0.length c0, .slice A1 l1.length c1] 25)) (fun e w' => e = .returned (.bool r) ∧ Below W.heap.size W w') from by rw [← hz]; exact hfew A0 c0 A1 c1 W (Kd.C_below hr0 hw) hc0 (Kd.C_below hr1 hw) hc1)
 have HLV := Lib.hid lives_calls
 have HRS := Lib.hid (fun (W : World) (hw : Below w.heap.size w W) => skerryref10_Sub.calls _ A0 c0 l0 A1 c1 l1 _ W (Kd.C_below hr0 hw) hc0 (Kd.C_below hr1 hw) hc1 (rsub_f l0 l1 h0.len h1.len _ (Nat.lt_succ_self _)))
 have HSB := Lib.hid (fun (W : World) (hw : Below w.heap.size w W) => sub2_calls h0.len h1.len h0.key h1.key A0 c0 A1 c1 W (Kd.C_below hr0 hw) hc0 (Kd.C_below hr1 hw) hc1)
 have HOV := Lib.hid (fun (W : World) (hw : Below w.heap.size w W) => over_calls h0.len h1.len h0.key h1.key A0 c0 A1 c1 W (Kd.C_below hr0 hw) hc0 (Kd.C_below hr1 hw) hc1)
 have HPT := Lib.hid (fun (W : World) (hw : Below w.heap.size w W) => part_calls h0.len k0 k1 A0 c0 W (Kd.C_below hr0 hw) hc0)
 have HRP := Lib.hid (fun (W : World) (hw : Below w.heap.size w W) => skerryref10_Part.calls _ A0 c0 l0 k0 k1 _ W (Kd.C_below hr0 hw) hc0 (rpart_f l0 k0 k1 h0.len _ (Nat.lt_succ_self _)))
 have hL := sub_le l0 l1
 have hP : ((normC l0).filter fun x => !otherP k0 k1 x).length ≤ l0.length := Nat.le_trans (List.length_filter_le _ _) (norm_len (c := cmpK) (key := keyC) (jn := joinC) l0)
 have HL := Lib.hid (And.intro hL (And.intro hP (And.intro h0.len h1.len)))
 obtain ⟨S, hS⟩ : ∃ S, subF (normC l0) (normC l1) = S := ⟨_, rfl⟩
 obtain ⟨P, hPP⟩ : ∃ P, ((normC l0).filter fun x => !otherP k0 k1 x) = P := ⟨_, rfl⟩
 rw [hS] at HRS HSB HOV
 rw [hS, hPP] at HL
 rw [hPP] at HPT HRP
 clear hr0 hc0 hr1 hc1 h0 h1 hfew hL hP hS hPP
 go_enter Try.func5, Try.ntmps5
 go_upto_region 1 with fail
 go_cut [12, 5] (fun v12 v5 wc => ∃ b5 : Nat, v12 = .bool (!r) ∧ v5 = .pointer (some ⟨b5, 0, none⟩) ∧ Aside0 (wc.heap[b5]? = some (.cells #[.string k0, .string k1, .int .i64 k2, .string k3] 33 (0, 0))) ∧ Aside0 (Below w.heap.size w wc))
 case first =>
  have hA : Below w.heap.size w (w.alloc (.cells #[.string k0, .string k1, .int .i64 k2, .string k3] 33)) := below_alloc (Below.refl _ _) _
  have HA := Lib.hid hA
  clear hA
  go_wp2_with (go_at_call 9; (with_reducible refine (HFEW.out _ HA.out _ (by simp)).mono ?_); rintro e w1 ⟨rfl, hb⟩; have HB1 := Lib.hid hb; clear hb)
  go_meet
  case rel => exact ⟨w.heap.size, rfl, rfl, ⟨blk_below (heap_new_ w _) HB1.out⟩, ⟨below_step HA.out HB1.out⟩⟩
 case rest =>
  obtain ⟨b5, rfl, rfl, HK, HB⟩ := hcut
  cases r
  ·
   go_wp2_with (go_at_call 10; (with_reducible refine (HLV.out _).mono ?_); rintro e w1 ⟨rfl, hb⟩; have HB1 := Lib.hid (below_step HB.out hb); clear hb)
   go_ret
   exact ⟨rfl, HB1.out⟩
  ·
   go_upto_region 3 with fail
   go_cut [7] (fun v7 wd => ∃ (A7 : Option Addr) (c7 : Nat), v7 = .slice A7 S.length c7 ∧ Aside0 (S.length ≤ c7 ∧ Kd.C k39 wd A7 S.length S) ∧ Aside0 (Below wc.heap.size wc wd))
   case first =>
    go_wp2_with (go_at_call 18; (with_reducible refine (HRS.out _ HB.out).mono ?_); rintro e w1 ⟨v1, rfl, ho, hb⟩; obtain ⟨A7, c7, rfl, h7, hC7⟩ := Kd.R_reads ho; have HB1 := Lib.hid hb; have HC7 := Lib.hid (And.intro h7 hC7); clear hb ho h7 hC7)
    go_meet
    case rel => exact ⟨A7, c7, rfl, ⟨HC7.out⟩, ⟨HB1.out⟩⟩
   case rest =>
    obtain ⟨A7, c7, rfl, HC7, HB7⟩ := hcut
    have HBW := Lib.hid (below_step HB.out HB7.out)
    have k5 := blk_below HK.out HB7.out
    have HK5 := Lib.hid k5
    have e0 := (blk_cell k5 0).trans (show _ = some (Value.string k0) from rfl)
    have e1 := (blk_cell k5 1).trans (show _ = some (Value.string k1) from rfl)
    clear k5 HK HB HB7
    go_upto_region 4 with fail
    obtain ⟨bz, hbz⟩ : ∃ bz, decide (S.length = 0) = bz := ⟨_, rfl⟩
    have hq : ((S.length : Int) == 0) = bz := by rw [← hbz]; by_cases h : S.length = 0 <;> simp [h]
    rw [hbz] at HOV
    clear hbz
    go_region_held3 (fun w' => w'.cell? ⟨b5, 0, none⟩ = some (.string k0) ∧ w'.cell? ⟨b5, 1, none⟩ = some (.string k1)) (first | go_keep | exact hs1 | exact hs2 | exact hs3 | exact hs4 | exact hs5 | exact hs6 | exact hs7) (first | (go_at_call 19; (with_reducible refine (HSB.out _ (below_step HBW.out (below_drew (Below.refl _ _)))).mono ?_); rintro e w1 ⟨v1, rfl, ho, hb⟩; obtain ⟨AA1, cc1, rfl, h7, hC8⟩ := Kd.R_reads ho; have HB1 := Lib.hid (below_step (below_drew (Below.refl wc.heap.size wc)) hb); have HC1 := Lib.hid (And.intro h7 hC8); have hs1 : w1.cell? ⟨b5, 0, none⟩ = some (.string k0) ∧ w1.cell? ⟨b5, 1, none⟩ = some (.string k1) := ⟨(blk_cell (blk_below HK5.out HB1.out) 0).trans rfl, (blk_cell (blk_below HK5.out HB1.out) 1).trans rfl⟩; clear ho hb h7 hC8) | (go_at_call 22; (with_reducible refine (HRP.out _ (below_step HBW.out HB4.out)).mono ?_); rintro e w5 ⟨v5, rfl, ho, hb⟩; obtain ⟨AA5, cc5, rfl, h7, hC8⟩ := Kd.R_reads ho; have HB5 := Lib.hid (below_step HB4.out hb); have HD5 := Lib.hid hb; have HC5 := Lib.hid (And.intro h7 hC8); have hs5 : w5.cell? ⟨b5, 0, none⟩ = some (.string k0) ∧ w5.cell? ⟨b5, 1, none⟩ = some (.string k1) := ⟨(blk_cell (blk_below HK5.out HB5.out) 0).trans rfl, (blk_cell (blk_below HK5.out HB5.out) 1).trans rfl⟩; clear ho hb h7 hC8) | (go_at_call 21; (with_reducible refine (HPT.out _ (below_step HBW.out HB3.out)).mono ?_); rintro e w4 ⟨v4, rfl, ho, hb⟩; obtain ⟨AA4, cc4, rfl, h7, hC8⟩ := Kd.R_reads ho; have HB4 := Lib.hid (below_step HB3.out hb); have HC4 := Lib.hid (And.intro h7 hC8); have hs4 : w4.cell? ⟨b5, 0, none⟩ = some (.string k0) ∧ w4.cell? ⟨b5, 1, none⟩ = some (.string k1) := ⟨(blk_cell (blk_below HK5.out HB4.out) 0).trans rfl, (blk_cell (blk_below HK5.out HB4.out) 1).trans rfl⟩; clear ho hb h7 hC8) | (go_at_call 14; (with_reducible refine (like_calls (l := P) (by have := HL.out; omega) AA4 cc4 AA5 cc5 w5 (Kd.C_below HC4.out.2 (HD5.out)) HC4.out.1 HC5.out.2 HC5.out.1).mono ?_); rintro e w6 ⟨rfl, hb⟩; have HB6 := Lib.hid (below_step HB5.out hb); have hs6 : w6.cell? ⟨b5, 0, none⟩ = some (.string k0) ∧ w6.cell? ⟨b5, 1, none⟩ = some (.string k1) := ⟨(blk_cell (blk_below HK5.out HB6.out) 0).trans rfl, (blk_cell (blk_below HK5.out HB6.out) 1).trans rfl⟩; clear hb) | (go_at_call 14; (with_reducible refine (like_calls (l := S) (by have := HL.out; omega) AA1 cc1 A7 c7 w1 HC1.out.2 HC1.out.1 (Kd.C_below HC7.out.2 HB1.out) HC7.out.1).mono ?_); rintro e w2 ⟨rfl, hb⟩; have HB2 := Lib.hid (below_step HB1.out hb); have hs2 : w2.cell? ⟨b5, 0, none⟩ = some (.string k0) ∧ w2.cell? ⟨b5, 1, none⟩ = some (.string k1) := ⟨(blk_cell (blk_below HK5.out HB2.out) 0).trans rfl, (blk_cell (blk_below HK5.out HB2.out) 1).trans rfl⟩; clear hb) | (go_at_call 20; (with_reducible refine (HOV.out _ (below_step HBW.out HB2.out)).mono ?_); rintro e w3 ⟨rfl, hb⟩; have HB3 := Lib.hid (below_step HB2.out hb); have hs3 : w3.cell? ⟨b5, 0, none⟩ = some (.string k0) ∧ w3.cell? ⟨b5, 1, none⟩ = some (.string k1) := ⟨(blk_cell (blk_below HK5.out HB3.out) 0).trans rfl, (blk_cell (blk_below HK5.out HB3.out) 1).trans rfl⟩; clear hb) | (go_at_call 10; (with_reducible refine (HLV.out _).mono ?_); rintro e w7 ⟨rfl, hb⟩; have HB7 := Lib.hid (below_step HB6.out hb); have hs7 : w7.cell? ⟨b5, 0, none⟩ = some (.string k0) ∧ w7.cell? ⟨b5, 1, none⟩ = some (.string k1) := ⟨(blk_cell (blk_below HK5.out HB7.out) 0).trans rfl, (blk_cell (blk_below HK5.out HB7.out) 1).trans rfl⟩; clear hb))
    go_wp2_with fail
    go_ret
    exact ⟨rfl, below_step HBW.out HB7.out⟩
end Go.Proofs.Ytabiekkebdocnaa.Q
