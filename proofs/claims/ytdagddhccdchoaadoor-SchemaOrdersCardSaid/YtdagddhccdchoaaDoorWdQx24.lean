/- Lemmas for this claim's walk: no condition of their own. -/
import Derived.Test.YtdagddhccdchoaaDoorWdSq
import Derived.Test.YtdagddhccdchoaaDoorWdQx0
import Derived.Test.YtdagddhccdchoaaDoorWdQx6
import Derived.Test.YtdagddhccdchoaaDoorWdQx7
import Derived.Test.YtdagddhccdchoaaDoorWdQx9
namespace Go.Proofs.YtdagddhccdchoaaDoor.Q
open Go.RowKit Go.Proofs.YtdagddhccdchoaaDoorW.PrintWords Go.Proofs.YtdagddhccdchoaaDoorW.PrintLast Go.Proofs.YtdagddhccdchoaaDoorW.PrintMore
attribute [local go_sem] max2_int min2_int max_two min_two max_three min_three max_four min_four
set_option linter.unusedVariables false
set_option linter.unusedSimpArgs false
mutual
def skerrylaw17_SchemaOrders.j0 : Nat → List ByteArray → Bool → ByteArray → ByteArray → ByteArray → List (S29) → Option (Bool)
 | 0, _, _, _, _, _, _ => none
 | k + 1, x1, x24, x253000, x253001, x253002, x253003 => if x24 = true then ((skerrylaw17_lives.f k).bind fun t254 => (some t254)) else ((schema_Order.f k x253000 x253001 x253002 x253003 x1).bind fun bt255 => ((schema_Order.f k x253000 x253001 x253002 x253003 ([] : List ByteArray)).bind fun bt259 => (if bt259.2 = true then (skerrylaw17_SchemaOrders.j1 k x1 bt255.1 bt255.2 bt259.1 ((bt259.1.length : Int) != (x253003.length : Int))) else (skerrylaw17_SchemaOrders.j1 k x1 bt255.1 bt255.2 bt259.1 true))))
def skerrylaw17_SchemaOrders.j1 : Nat → List ByteArray → List ByteArray → Bool → List ByteArray → Bool → Option (Bool)
 | 0, _, _, _, _, _ => none
 | k + 1, x1, x5, x6, x7, x46 => if x46 = true then (none) else (skerrylaw17_SchemaOrders.l0 k x1 x5 x6 x7 0 x5 (x5.length : Int) 0)
def skerrylaw17_SchemaOrders.l0 : Nat → List ByteArray → List ByteArray → Bool → List ByteArray → Int → List ByteArray → Int → Int → Option (Bool)
 | 0, _, _, _, _, _, _, _, _ => none
 | k + 1, x1, x5, x6, x7, x9, x47, x48, x49 => if x49 < x48 then (if 0 ≤ x49 then (if x49 < (x47.length : Int) then (skerrylaw17_SchemaOrders.l1 k x1 x5 x6 x7 x9 (rdOf ByteArray.empty x47 x49) x47 x48 x49) else (none)) else (none)) else (skerrylaw17_SchemaOrders.l2 k x5 x6 x1 (x1.length : Int) 0)
def skerrylaw17_SchemaOrders.l1 : Nat → List ByteArray → List ByteArray → Bool → List ByteArray → Int → ByteArray → List ByteArray → Int → Int → Option (Bool)
 | 0, _, _, _, _, _, _, _, _, _ => none
 | k + 1, x1, x5, x6, x7, x9, x11, x47, x48, x49 => if x9 < (x7.length : Int) then (if 0 ≤ x9 then (if (rdOf ByteArray.empty x7 x9).toList = x11.toList then (if x9 = (x7.length : Int) then (none) else (skerrylaw17_SchemaOrders.l0 k x1 x5 x6 x7 (wrap64 (x9 + 1)) x47 x48 (wrap64 (x49 + 1)))) else (skerrylaw17_SchemaOrders.l1 k x1 x5 x6 x7 (wrap64 (x9 + 1)) x11 x47 x48 x49)) else (none)) else (if x9 = (x7.length : Int) then (none) else (skerrylaw17_SchemaOrders.l0 k x1 x5 x6 x7 (wrap64 (x9 + 1)) x47 x48 (wrap64 (x49 + 1))))
def skerrylaw17_SchemaOrders.l2 : Nat → List ByteArray → Bool → List ByteArray → Int → Int → Option (Bool)
 | 0, _, _, _, _, _ => none
 | k + 1, x5, x6, x74, x75, x76 => if x76 < x75 then (if 0 ≤ x76 then (if x76 < (x74.length : Int) then (skerrylaw17_SchemaOrders.l3 k x5 x6 (rdOf ByteArray.empty x74 x76) false x74 x75 x76 x5 (x5.length : Int) 0) else (none)) else (none)) else (if x6 = true then ((skerrylaw17_lives.f k).bind fun t265 => (some t265)) else (if (x5.length : Int) = 0 then ((skerrylaw17_lives.f k).bind fun t266 => (some t266)) else (none)))
def skerrylaw17_SchemaOrders.l3 : Nat → List ByteArray → Bool → ByteArray → Bool → List ByteArray → Int → Int → List ByteArray → Int → Int → Option (Bool)
 | 0, _, _, _, _, _, _, _, _, _, _ => none
 | k + 1, x5, x6, x13, x14, x74, x75, x76, x80, x81, x82 => if x82 < x81 then (if 0 ≤ x82 then (if x82 < (x80.length : Int) then (if x14 = true then (skerrylaw17_SchemaOrders.l3 k x5 x6 x13 true x74 x75 x76 x80 x81 (wrap64 (x82 + 1))) else (skerrylaw17_SchemaOrders.l3 k x5 x6 x13 ((rdOf ByteArray.empty x80 x82).toList == x13.toList) x74 x75 x76 x80 x81 (wrap64 (x82 + 1)))) else (none)) else (none)) else (if (x14 != x6) = true then (if x6 = true then (none) else (skerrylaw17_SchemaOrders.l2 k x5 x6 x74 x75 (wrap64 (x76 + 1)))) else (skerrylaw17_SchemaOrders.l2 k x5 x6 x74 x75 (wrap64 (x76 + 1))))
end
def skerrylaw17_SchemaOrders.f (k : Nat) (a0_0 : ByteArray) (a0_1 : ByteArray) (a0_2 : ByteArray) (l0_3 : List (S29)) (l1 : List ByteArray) : Option (Bool) := (schema_Table.f a0_0 a0_1 a0_2 l0_3).bind fun t253 => (if t253 = 0 then (skerrylaw17_SchemaOrders.j0 k l1 (decide ((l1.length : Int) > 200)) a0_0 a0_1 a0_2 l0_3) else (skerrylaw17_SchemaOrders.j0 k l1 true a0_0 a0_1 a0_2 l0_3))
set_option maxHeartbeats 8000000 in
set_option maxRecDepth 100000 in
theorem skerrylaw17_SchemaOrders.calls (k : Nat) (a0_0 : ByteArray) (a0_1 : ByteArray) (a0_2 : ByteArray) (A0_3 : Option Addr) (c0_3 : Nat) (l0_3 : List (S29)) (A1 : Option Addr) (c1 : Nat) (l1 : List ByteArray) (r : Bool) (w : World) (hr0_3 : Kd.C k29 w A0_3 l0_3.length l0_3) (hc0_3 : l0_3.length ≤ c0_3) (hr1 : Kd.C Kd.string w A1 l1.length l1) (hc1 : l1.length ≤ c1) (h : skerrylaw17_SchemaOrders.f k a0_0 a0_1 a0_2 l0_3 l1 = some r) :
  Calls Tryd.prog 5 #[.agg #[.string a0_0, .string a0_1, .string a0_2, .slice A0_3 l0_3.length c0_3], .slice A1 l1.length c1] w fun e w' => e = .returned (.bool r) ∧ Below w.heap.size w w' := by
 have hu26 := Tryd.underlying26
 have HR0_3 := Aside0.mk hr0_3
 have HC0_3 := Aside0.mk hc0_3
 clear hr0_3 hc0_3
 have HR1 := Aside0.mk hr1
 have HC1 := Aside0.mk hc1
 clear hr1 hc1
 have HB := Aside0.mk (Below.refl w.heap.size w)
 have H : ((schema_Table.f a0_0 a0_1 a0_2 l0_3).bind fun t253 => (if t253 = 0 then (skerrylaw17_SchemaOrders.j0 k l1 (decide ((l1.length : Int) > 200)) a0_0 a0_1 a0_2 l0_3) else (skerrylaw17_SchemaOrders.j0 k l1 true a0_0 a0_1 a0_2 l0_3))) = some r := h
 clear h
 have HC3 := Aside0.mk H
 clear H
 go_enter Tryd.func5, Tryd.ntmps5
 go_upto_region 1 with (first | ((with_reducible refine gate_dst (N := 2) rfl ?_); (try (refine gate_guard (by rfl) ?_; dsimp only)); refine box_event ?hg (N := 2) ?hd (cs := #[.string a0_0, .string a0_1, .string a0_2, .slice A0_3 l0_3.length c0_3]) (t := 26) ?hr ?_; (case hd => rfl); (case hg => rfl); (case hr => first | (go_simp; done) | (go_simp; rfl)); intro gb252 hg w4 hbox hb; have BK252 := Aside0.mk (hbox); have GW252 := Aside0.mk ((by rw [hg]; exact (bZ_ (kwW HB)) : w.heap.size ≤ gb252)); replace HB := Aside0.mk (below_step (kwW HB) hb); have GE252 := GW252; clear hb hbox hg))
 (try simp only [Act.put, List.setIfInBounds_toArray, List.set_cons_zero, List.set_cons_succ])
 go_cut [24] (fun v24 wc => ∃ (kq : Nat) (x24_2 : Bool), v24 = .bool x24_2 ∧ Aside0 (skerrylaw17_SchemaOrders.j0 kq l1 x24_2 a0_0 a0_1 a0_2 l0_3 = some r) ∧ Aside0 (kq ≤ k) ∧ Aside0 (wc.heap[gb252]? = some (.cells #[.string a0_0, .string a0_1, .string a0_2, (.slice A0_3 l0_3.length c0_3)] 26 (0, 0))) ∧ Aside0 (Below w.heap.size w wc))
 case first =>
  have H := HC3.out
  clear HC3
  replace H := Option.bind_eq_some_iff.mp H
  obtain ⟨t253, A50, H⟩ := H
  have A5 := Aside0.mk A50
  clear A50
  by_cases c6 : t253 = 0
  rotate_left
  ·
   rw [if_neg c6] at H
   have c6b0 : (t253 == 0) = false := beq_eq_false_iff_ne.mpr c6
   have c6b1 : (t253 != 0) = true := bne_iff_ne.mpr c6
   (first | rw [c6b0] | (simp only [i64_w, i32_w]; rw [c6b0]) | skip)
   have H' := Aside0.mk H
   clear H
   obtain ⟨hcz9_0, hcz9_1, hcz9_2, hcz9_3, hfz9_0, hfz9_1, hfz9_2, hfz9_3⟩ := czf4 BK252
   go_wp2_with (first | ((with_reducible refine gate_callee (f := 15) rfl ?_); refine goesL_ (some 18) rfl rfl Tryd.func15 (by kernel_rfl) rfl #[.agg #[.string a0_0, .string a0_1, .string a0_2, .slice A0_3 l0_3.length c0_3]] rfl (by (try simp only [mT_, mC_, mN_]); first | done | rfl) ?_; (with_reducible refine (schema_Table.calls a0_0 a0_1 a0_2 _ _ l0_3 t253 _ ?side1 ?side2 A5.out).mono ?_); (case side1 => repeat (first | exact (Kd.C_below HR0_3.out HB.out) | (with_reducible refine Kd.C_alloc ?_ _) | (with_reducible refine Kd.C_drewN ?_ _) | (with_reducible refine Kd.C_drew ?_))); (case side2 => exact HC0_3.out); rintro e w10 ⟨rfl, hb⟩; refine ⟨_, rfl, ?_⟩; replace BK252 := kB BK252 hb; replace HB := Aside0.mk (below_step (by repeat (first | (with_reducible first | exact HB.out | apply bA_ | apply bN_ | apply bD_ | refine bS_ ?_ GE252) | exact HB.out)) hb); (try clear hb); (try clear hb2); (try clear hk); (try clear hi)))
   go_meet
   case rel => exact ⟨_, (true), (by first | rfl | (simp; done) | (simp [bne, *]; done)), H', ⟨by first | omega | exact Nat.le_refl _⟩, ⟨by (with_reducible repeat (first | refine blk_drewN ?_ _ | refine blk_drew ?_ | refine blk_alloc ?_ _)); exact BK252.out⟩, ⟨by repeat (first | (with_reducible first | exact HB.out | apply bA_ | apply bN_ | apply bD_ | refine bS_ ?_ GE252) | exact HB.out)⟩⟩
  rw [if_pos c6] at H
  have c6b0 : (t253 == 0) = true := beq_iff_eq.mpr c6
  have c6b1 : (t253 != 0) = false := bne_eq_false_iff_eq.mpr c6
  clear c6
  (first | rw [c6b0] | (simp only [i64_w, i32_w]; rw [c6b0]) | skip)
  have H' := Aside0.mk H
  clear H
  obtain ⟨hcz7_0, hcz7_1, hcz7_2, hcz7_3, hfz7_0, hfz7_1, hfz7_2, hfz7_3⟩ := czf4 BK252
  go_wp2_with (first | ((with_reducible refine gate_callee (f := 15) rfl ?_); refine goesL_ (some 18) rfl rfl Tryd.func15 (by kernel_rfl) rfl #[.agg #[.string a0_0, .string a0_1, .string a0_2, .slice A0_3 l0_3.length c0_3]] rfl (by (try simp only [mT_, mC_, mN_]); first | done | rfl) ?_; (with_reducible refine (schema_Table.calls a0_0 a0_1 a0_2 _ _ l0_3 t253 _ ?side1 ?side2 A5.out).mono ?_); (case side1 => repeat (first | exact (Kd.C_below HR0_3.out HB.out) | (with_reducible refine Kd.C_alloc ?_ _) | (with_reducible refine Kd.C_drewN ?_ _) | (with_reducible refine Kd.C_drew ?_))); (case side2 => exact HC0_3.out); rintro e w8 ⟨rfl, hb⟩; refine ⟨_, rfl, ?_⟩; replace BK252 := kB BK252 hb; replace HB := Aside0.mk (below_step (by repeat (first | (with_reducible first | exact HB.out | apply bA_ | apply bN_ | apply bD_ | refine bS_ ?_ GE252) | exact HB.out)) hb); (try clear hb); (try clear hb2); (try clear hk); (try clear hi)))
  go_meet
  case rel => exact ⟨_, (decide ((l1.length : Int) > 200)), (by first | rfl | (simp; done) | (simp [bne, *]; done)), H', ⟨by first | omega | exact Nat.le_refl _⟩, ⟨by (with_reducible repeat (first | refine blk_drewN ?_ _ | refine blk_drew ?_ | refine blk_alloc ?_ _)); exact BK252.out⟩, ⟨by repeat (first | (with_reducible first | exact HB.out | apply bA_ | apply bN_ | apply bD_ | refine bS_ ?_ GE252) | exact HB.out)⟩⟩
 case rest =>
  clear HC3
  try clear c1
  try clear p2
  try clear c5
  try clear c6
  try clear c6b0
  try clear c6b1
  try clear hcz7_0
  try clear hcz7_1
  try clear hcz7_2
  try clear hcz7_3
  try clear hcz9_0
  try clear hcz9_1
  try clear hcz9_2
  try clear hcz9_3
  try clear hfz7_0
  try clear hfz7_1
  try clear hfz7_2
  try clear hfz7_3
  try clear hfz9_0
  try clear hfz9_1
  try clear hfz9_2
  try clear hfz9_3
  obtain ⟨kq, x24_2, rfl, HA, HJ2, BK252, HB⟩ := hcut
  cases kq with
  | zero => exact absurd HA.out (by simp [skerrylaw17_SchemaOrders.j0])
  | succ kj2 =>
   have H := HA.out
   clear HA
   simp only [skerrylaw17_SchemaOrders.j0] at H
   by_cases c11 : x24_2 = true
   ·
    subst c11
    have H1 : ((skerrylaw17_lives.f kj2).bind fun t254 => (some t254)) = some r := by rw [if_pos rfl] at H; exact H
    clear H
    have H := H1
    clear H1
    replace H := Option.bind_eq_some_iff.mp H
    obtain ⟨t254, A120, H⟩ := H
    have A12 := Aside0.mk A120
    clear A120
    obtain rfl := Option.some.inj H
    go_wp2_with (first | ((with_reducible refine gate_callee (f := 8) rfl ?_); refine goesL_ (some 25) rfl rfl Tryd.func8 (by kernel_rfl) rfl #[] rfl (by (try simp only [mT_, mC_, mN_]); first | done | rfl) ?_; (with_reducible refine (skerrylaw17_lives.calls kj2  t254 _ A12.out).mono ?_); rintro e w13 ⟨rfl, hb⟩; refine ⟨_, rfl, ?_⟩; replace BK252 := kB BK252 hb; replace HB := Aside0.mk (below_step (by repeat (first | (with_reducible first | exact HB.out | apply bA_ | apply bN_ | apply bD_ | refine bS_ ?_ GE252) | exact HB.out)) hb); (try clear hb); (try clear hb2); (try clear hk); (try clear hi)))
    go_ret
    exact ⟨by first | rfl | (simp <;> rfl) | (simp [*] <;> rfl), by repeat (first | (with_reducible first | exact HB.out | apply bA_ | apply bN_ | apply bD_ | refine bS_ ?_ GE252) | exact HB.out)⟩
   ·
    replace c11 := Bool.eq_false_iff.mpr c11
    subst c11
    have H1 : ((schema_Order.f kj2 a0_0 a0_1 a0_2 l0_3 l1).bind fun bt255 => ((schema_Order.f kj2 a0_0 a0_1 a0_2 l0_3 ([] : List ByteArray)).bind fun bt259 => (if bt259.2 = true then (skerrylaw17_SchemaOrders.j1 kj2 l1 bt255.1 bt255.2 bt259.1 ((bt259.1.length : Int) != (l0_3.length : Int))) else (skerrylaw17_SchemaOrders.j1 kj2 l1 bt255.1 bt255.2 bt259.1 true)))) = some r := by rw [if_neg (show ¬ (false = true) by decide)] at H; exact H
    clear H
    have H := H1
    clear H1
    replace H := Option.bind_eq_some_iff.mp H
    obtain ⟨⟨t255, t258⟩, A140, H⟩ := H
    have A14 := Aside0.mk A140
    clear A140
    replace H := Option.bind_eq_some_iff.mp H
    obtain ⟨⟨t259, t262⟩, A150, H⟩ := H
    have A15 := Aside0.mk A150
    clear A150
    have HC16 := Aside0.mk H
    clear H
    obtain ⟨hcz17_0, hcz17_1, hcz17_2, hcz17_3, hfz17_0, hfz17_1, hfz17_2, hfz17_3⟩ := czf4 BK252
    go_upto_region 5 with (first | ((with_reducible refine gate_callee (f := 13) rfl ?_); refine goesL_ (some 29) rfl rfl Tryd.func13 (by kernel_rfl) rfl #[.agg #[.string a0_0, .string a0_1, .string a0_2, .slice A0_3 l0_3.length c0_3], .slice A1 l1.length c1] rfl (by (try simp only [mT_, mC_, mN_]); first | done | rfl) ?_; (with_reducible refine (schema_Order.calls kj2 a0_0 a0_1 a0_2 _ _ l0_3 _ _ l1 t255 t258 _ ?side1 ?side2 ?side3 ?side4 A14.out).mono ?_); (case side1 => repeat (first | exact (Kd.C_below HR0_3.out HB.out) | (with_reducible refine Kd.C_alloc ?_ _) | (with_reducible refine Kd.C_drewN ?_ _) | (with_reducible refine Kd.C_drew ?_))); (case side2 => exact HC0_3.out); (case side3 => repeat (first | exact (Kd.C_below HR1.out HB.out) | (with_reducible refine Kd.C_alloc ?_ _) | (with_reducible refine Kd.C_drewN ?_ _) | (with_reducible refine Kd.C_drew ?_))); (case side4 => exact HC1.out); rintro e w18 ⟨v256, rfl, ho0, hb⟩; refine ⟨_, rfl, ?_⟩; have HO257 := Aside0.mk (Kd.R_lower ho0 (bZ_ (by repeat (first | (with_reducible first | exact HB.out | apply bA_ | apply bN_ | apply bD_ | refine bS_ ?_ GE252) | exact HB.out)))); replace BK252 := kB BK252 hb; replace HB := Aside0.mk (below_step (by repeat (first | (with_reducible first | exact HB.out | apply bA_ | apply bN_ | apply bD_ | refine bS_ ?_ GE252) | exact HB.out)) hb); (try clear hb); (try clear hb2); (try clear hk); (try clear hi); (try clear ho0); obtain ⟨hcz19_0, hcz19_1, hcz19_2, hcz19_3, hfz19_0, hfz19_1, hfz19_2, hfz19_3⟩ := czf4 BK252) | ((with_reducible refine gate_callee (f := 13) rfl ?_); refine goesL_ (some 34) rfl rfl Tryd.func13 (by kernel_rfl) rfl #[.agg #[.string a0_0, .string a0_1, .string a0_2, .slice A0_3 l0_3.length c0_3], .slice none 0 0] rfl (by (try simp only [mT_, mC_, mN_]); first | done | rfl) ?_; (refine (schema_Order.calls kj2 a0_0 a0_1 a0_2 _ _ l0_3 _ _ ([] : List ByteArray) t259 t262 _ ?side1 ?side2 ?side3 ?side4 A15.out).mono ?_); (case side1 => repeat (first | exact (Kd.C_below HR0_3.out HB.out) | (with_reducible refine Kd.C_alloc ?_ _) | (with_reducible refine Kd.C_drewN ?_ _) | (with_reducible refine Kd.C_drew ?_))); (case side2 => exact HC0_3.out); (case side3 => exact Kd.C_nil _ _); (case side4 => exact Nat.le_refl _); rintro e w20 ⟨v260, rfl, ho0, hb⟩; refine ⟨_, rfl, ?_⟩; have HO261 := Aside0.mk (Kd.R_lower (Kd.R_new' ho0 (Kd.R_lt (krW HO257))) (bZ_ (by repeat (first | (with_reducible first | exact HB.out | apply bA_ | apply bN_ | apply bD_ | refine bS_ ?_ GE252) | exact HB.out)))); replace HO257 := Aside0.mk (Kd.R_elder' (krW HO257) (Kd.R_base ho0) hb); replace BK252 := kB BK252 hb; replace HB := Aside0.mk (below_step (by repeat (first | (with_reducible first | exact HB.out | apply bA_ | apply bN_ | apply bD_ | refine bS_ ?_ GE252) | exact HB.out)) hb); (try clear hb); (try clear hb2); (try clear hk); (try clear hi); (try clear ho0)))
    (try simp only [Act.put, List.setIfInBounds_toArray, List.set_cons_zero, List.set_cons_succ])
    go_cut [46] (fun v46 wc => ∃ (kq : Nat) (x46_15 : Bool), v46 = .bool x46_15 ∧ Aside0 (skerrylaw17_SchemaOrders.j1 kq l1 t255 t258 t259 x46_15 = some r) ∧ Aside0 (kq ≤ kj2) ∧ Aside0 (Kd.R Kd.string 9 wc w.heap.size (fun k_ => some k_ ≠ (v260 : Value).ownBlock) v256 t255) ∧ Aside0 (Kd.R Kd.string 9 wc w.heap.size (fun k_ => some k_ ≠ (v256 : Value).ownBlock) v260 t259) ∧ Aside0 (wc.heap[gb252]? = some (.cells #[.string a0_0, .string a0_1, .string a0_2, (.slice A0_3 l0_3.length c0_3)] 26 (0, 0))) ∧ Aside0 (Below w.heap.size w wc))
    case first =>
     have H := HC16.out
     clear HC16
     by_cases c21 : t262 = true
     rotate_left
     ·
      replace c21 := Bool.eq_false_iff.mpr c21
      subst c21
      have H1 : (skerrylaw17_SchemaOrders.j1 kj2 l1 t255 t258 t259 true) = some r := by rw [if_neg (show ¬ (false = true) by decide)] at H; exact H
      clear H
      have H := H1
      clear H1
      have H' := Aside0.mk H
      clear H
      go_wp2
      go_meet
      case rel => exact ⟨_, (true), (by first | rfl | (simp; done) | (simp [bne, *]; done)), H', ⟨by have := HJ2.out; first | omega | exact Nat.le_refl _⟩, ⟨by (with_reducible repeat (first | apply Kd.R_alloc | apply Kd.R_drewN | apply Kd.R_drew)); exact Kd.R_mono HO257.out (fun _ hk => hk.2)⟩, ⟨by (with_reducible repeat (first | apply Kd.R_alloc | apply Kd.R_drewN | apply Kd.R_drew)); exact Kd.R_mono HO261.out (fun _ hk => hk.2)⟩, ⟨by (with_reducible repeat (first | refine blk_drewN ?_ _ | refine blk_drew ?_ | refine blk_alloc ?_ _)); exact BK252.out⟩, ⟨by repeat (first | (with_reducible first | exact HB.out | apply bA_ | apply bN_ | apply bD_ | refine bS_ ?_ GE252) | exact HB.out)⟩⟩
     subst c21
     have H1 : (skerrylaw17_SchemaOrders.j1 kj2 l1 t255 t258 t259 ((t259.length : Int) != (l0_3.length : Int))) = some r := by rw [if_pos rfl] at H; exact H
     clear H
     have H := H1
     clear H1
     have H' := Aside0.mk H
     clear H
     obtain ⟨Ao22, co22, eo22⟩ := Kd.R_slice HO261.out
     subst eo22
     obtain ⟨hcz23_0, hcz23_1, hcz23_2, hcz23_3, hfz23_0, hfz23_1, hfz23_2, hfz23_3⟩ := czf4 BK252
     go_wp2
     go_meet
     case rel => exact ⟨_, (((t259.length : Int) != (l0_3.length : Int))), (by first | rfl | (simp; done) | (simp [bne, *]; done)), H', ⟨by have := HJ2.out; first | omega | exact Nat.le_refl _⟩, ⟨by (with_reducible repeat (first | apply Kd.R_alloc | apply Kd.R_drewN | apply Kd.R_drew)); exact Kd.R_mono HO257.out (fun _ hk => hk.2)⟩, ⟨by (with_reducible repeat (first | apply Kd.R_alloc | apply Kd.R_drewN | apply Kd.R_drew)); exact Kd.R_mono HO261.out (fun _ hk => hk.2)⟩, ⟨by (with_reducible repeat (first | refine blk_drewN ?_ _ | refine blk_drew ?_ | refine blk_alloc ?_ _)); exact BK252.out⟩, ⟨by repeat (first | (with_reducible first | exact HB.out | apply bA_ | apply bN_ | apply bD_ | refine bS_ ?_ GE252) | exact HB.out)⟩⟩
    case rest =>
     clear HC16
     try clear c1
     try clear c2
     try clear p2
     try clear c5
     try clear c6
     try clear c6b0
     try clear c6b1
     try clear c8
     try clear c11
     try clear c13
     try clear c15
     try clear c21
     try clear hcz17_0
     try clear hcz17_1
     try clear hcz17_2
     try clear hcz17_3
     try clear hcz19_0
     try clear hcz19_1
     try clear hcz19_2
     try clear hcz19_3
     try clear hcz23_0
     try clear hcz23_1
     try clear hcz23_2
     try clear hcz23_3
     try clear hcz7_0
     try clear hcz7_1
     try clear hcz7_2
     try clear hcz7_3
     try clear hcz9_0
     try clear hcz9_1
     try clear hcz9_2
     try clear hcz9_3
     try clear hfz17_0
     try clear hfz17_1
     try clear hfz17_2
     try clear hfz17_3
     try clear hfz19_0
     try clear hfz19_1
     try clear hfz19_2
     try clear hfz19_3
     try clear hfz23_0
     try clear hfz23_1
     try clear hfz23_2
     try clear hfz23_3
     try clear hfz7_0
     try clear hfz7_1
     try clear hfz7_2
     try clear hfz7_3
     try clear hfz9_0
     try clear hfz9_1
     try clear hfz9_2
     try clear hfz9_3
     try clear p2
     obtain ⟨kq, x46_15, rfl, HA, HJ15, HO_5, HO_7, BK252, HB⟩ := hcut
     cases kq with
     | zero => exact absurd HA.out (by simp [skerrylaw17_SchemaOrders.j1])
     | succ kj15 =>
      have H := HA.out
      clear HA
      simp only [skerrylaw17_SchemaOrders.j1] at H
      by_cases c24 : x46_15 = true
      ·
       subst c24
       have H1 : (none) = some r := by rw [if_pos rfl] at H; exact H
       clear H
       have H := H1
       clear H1
       exact absurd H (by simp)
      ·
       replace c24 := Bool.eq_false_iff.mpr c24
       subst c24
       have H1 : (skerrylaw17_SchemaOrders.l0 kj15 l1 t255 t258 t259 0 t255 (t255.length : Int) 0) = some r := by rw [if_neg (show ¬ (false = true) by decide)] at H; exact H
       clear H
       have H := H1
       clear H1
       have H' := Aside0.mk H
       clear H
       obtain ⟨Ao25, co25, eo25⟩ := Kd.R_slice HO_5.out
       subst eo25
       go_wp2
       go_loopg [9, 49] kj15 (fun kq v9 v49 w' => ∃ (x9_3 : Int) (x49_3 : Int), v9 = .int .i64 x9_3 ∧ v49 = .int .i64 x49_3 ∧ Aside0 (skerrylaw17_SchemaOrders.l0 kq l1 t255 t258 t259 x9_3 t255 (t255.length : Int) x49_3 = some r) ∧ Aside0 (kq ≤ kj15) ∧ Aside0 (Kd.R Kd.string 9 w' w.heap.size (fun k_ => some k_ ≠ (v260 : Value).ownBlock) (.slice Ao25 t255.length co25) t255) ∧ Aside0 (Kd.R Kd.string 9 w' w.heap.size (fun k_ => some k_ ≠ ((.slice Ao25 t255.length co25) : Value).ownBlock ∧ some k_ ≠ ((.slice Ao25 t255.length co25) : Value).ownBlock) v260 t259) ∧ Aside0 (Kd.R Kd.string 9 w' w.heap.size (fun k_ => some k_ ≠ (v260 : Value).ownBlock) (.slice Ao25 t255.length co25) t255) ∧ Aside0 (w'.heap[gb252]? = some (.cells #[.string a0_0, .string a0_1, .string a0_2, (.slice A0_3 l0_3.length c0_3)] 26 (0, 0))) ∧ Aside0 (Below w.heap.size w w'))
       case atStart => exact ⟨(0), (0), (by first | rfl | (simp; done) | (simp [bne, *]; done)), (by first | rfl | (simp; done) | (simp [bne, *]; done)), H', ⟨Nat.le_refl _⟩, ⟨krW HO_5⟩, ⟨by (with_reducible repeat (first | apply Kd.R_alloc | apply Kd.R_drewN | apply Kd.R_drew)); exact Kd.R_mono HO_7.out (fun _ hk => ⟨hk, hk⟩)⟩, ⟨krW HO_5⟩, ⟨by (with_reducible repeat (first | refine blk_drewN ?_ _ | refine blk_drew ?_ | refine blk_alloc ?_ _)); exact BK252.out⟩, ⟨by repeat (first | (with_reducible first | exact HB.out | apply bA_ | apply bN_ | apply bD_ | refine bS_ ?_ GE252) | exact HB.out)⟩⟩
       case round =>
        clear H'
        try clear c1
        try clear c2
        try clear p2
        try clear c5
        try clear c6
        try clear c6b0
        try clear c6b1
        try clear c8
        try clear c11
        try clear c13
        try clear c15
        try clear c21
        try clear c24
        try clear hcz17_0
        try clear hcz17_1
        try clear hcz17_2
        try clear hcz17_3
        try clear hcz19_0
        try clear hcz19_1
        try clear hcz19_2
        try clear hcz19_3
        try clear hcz23_0
        try clear hcz23_1
        try clear hcz23_2
        try clear hcz23_3
        try clear hcz7_0
        try clear hcz7_1
        try clear hcz7_2
        try clear hcz7_3
        try clear hcz9_0
        try clear hcz9_1
        try clear hcz9_2
        try clear hcz9_3
        try clear hfz17_0
        try clear hfz17_1
        try clear hfz17_2
        try clear hfz17_3
        try clear hfz19_0
        try clear hfz19_1
        try clear hfz19_2
        try clear hfz19_3
        try clear hfz23_0
        try clear hfz23_1
        try clear hfz23_2
        try clear hfz23_3
        try clear hfz7_0
        try clear hfz7_1
        try clear hfz7_2
        try clear hfz7_3
        try clear hfz9_0
        try clear hfz9_1
        try clear hfz9_2
        try clear hfz9_3
        try clear p2
        obtain ⟨x9_3, x49_3, rfl, rfl, HA, HK3, HO_5, HO_7, HO_47, BK252, HB⟩ := hrel
        cases gk with
        | zero => exact absurd HA.out (by simp [skerrylaw17_SchemaOrders.l0])
        | succ k3 =>
         have H := HA.out
         clear HA
         simp only [skerrylaw17_SchemaOrders.l0] at H
         by_cases c26 : x49_3 < (t255.length : Int)
         ·
          rw [if_pos c26] at H
          have c26b0 : decide (x49_3 < (t255.length : Int)) = true := decide_eq_true c26
          clear c26
          by_cases c27 : 0 ≤ x49_3
          rotate_left
          ·
           rw [if_neg c27] at H
           exact absurd H (by simp)
          rw [if_pos c27] at H
          have c27b0 : decide (0 ≤ x49_3) = true := decide_eq_true c27
          clear c27
          by_cases c28 : x49_3 < (t255.length : Int)
          rotate_left
          ·
           rw [if_neg c28] at H
           exact absurd H (by simp)
          rw [if_pos c28] at H
          have c28b0 : decide (x49_3 < (t255.length : Int)) = true := decide_eq_true c28
          clear c28
          have H' := Aside0.mk H
          clear H
          have p263 : 0 ≤ (x49_3 : Int) := of_decide_eq_true (by first | (with_reducible assumption) | assumption)
          have q263 : x49_3 < (t255.length : Int) := of_decide_eq_true (by first | (with_reducible assumption) | assumption)
          obtain ⟨ad263, e263, hx263_0⟩ := Kd.at_string (Kd.R_reads' HO_47.out).2.2 x49_3 p263 q263
          cases e263
          replace p263 := eq_true p263
          replace q263 := eq_true q263
          go_wp2
          go_loopg [9] k3 (fun kq v9 w' => ∃ (x9_4 : Int), v9 = .int .i64 x9_4 ∧ Aside0 (skerrylaw17_SchemaOrders.l1 kq l1 t255 t258 t259 x9_4 (rdOf ByteArray.empty t255 x49_3) t255 (t255.length : Int) x49_3 = some r) ∧ Aside0 (kq ≤ k3) ∧ Aside0 (Kd.R Kd.string 9 w' w.heap.size (fun k_ => some k_ ≠ (v260 : Value).ownBlock) (.slice (some ad263) t255.length co25) t255) ∧ Aside0 (Kd.R Kd.string 9 w' w.heap.size (fun k_ => some k_ ≠ ((.slice (some ad263) t255.length co25) : Value).ownBlock ∧ some k_ ≠ ((.slice (some ad263) t255.length co25) : Value).ownBlock) v260 t259) ∧ Aside0 (Kd.R Kd.string 9 w' w.heap.size (fun k_ => some k_ ≠ (v260 : Value).ownBlock) (.slice (some ad263) t255.length co25) t255) ∧ Aside0 (w'.heap[gb252]? = some (.cells #[.string a0_0, .string a0_1, .string a0_2, (.slice A0_3 l0_3.length c0_3)] 26 (0, 0))) ∧ Aside0 (Below w.heap.size w w'))
          case atStart => exact ⟨(x9_3), (by first | rfl | (simp; done) | (simp [bne, *]; done)), H', ⟨Nat.le_refl _⟩, ⟨krW HO_5⟩, ⟨krW HO_7⟩, ⟨krW HO_47⟩, ⟨by (with_reducible repeat (first | refine blk_drewN ?_ _ | refine blk_drew ?_ | refine blk_alloc ?_ _)); exact BK252.out⟩, ⟨by repeat (first | (with_reducible first | exact HB.out | apply bA_ | apply bN_ | apply bD_ | refine bS_ ?_ GE252) | exact HB.out)⟩⟩
          case round =>
           clear H'
           try clear c1
           try clear c2
           try clear p2
           try clear q2
           try clear hx2
           try clear c5
           try clear c6
           try clear c6b0
           try clear c6b1
           try clear c8
           try clear c11
           try clear c13
           try clear c15
           try clear c21
           try clear c24
           try clear c26
           try clear c26b0
           try clear p26
           try clear q26
           try clear hx26
           try clear c27
           try clear c27b0
           try clear c28
           try clear c28b0
           try clear hcz17_0
           try clear hcz17_1
           try clear hcz17_2
           try clear hcz17_3
           try clear hcz19_0
           try clear hcz19_1
           try clear hcz19_2
           try clear hcz19_3
           try clear hcz23_0
           try clear hcz23_1
           try clear hcz23_2
           try clear hcz23_3
           try clear hcz7_0
           try clear hcz7_1
           try clear hcz7_2
           try clear hcz7_3
           try clear hcz9_0
           try clear hcz9_1
           try clear hcz9_2
           try clear hcz9_3
           try clear hfz17_0
           try clear hfz17_1
           try clear hfz17_2
           try clear hfz17_3
           try clear hfz19_0
           try clear hfz19_1
           try clear hfz19_2
           try clear hfz19_3
           try clear hfz23_0
           try clear hfz23_1
           try clear hfz23_2
           try clear hfz23_3
           try clear hfz7_0
           try clear hfz7_1
           try clear hfz7_2
           try clear hfz7_3
           try clear hfz9_0
           try clear hfz9_1
           try clear hfz9_2
           try clear hfz9_3
           try clear hx263_0
           try clear p2
           try clear p263
           try clear q263
           obtain ⟨x9_4, rfl, HA, HK4, HO_5, HO_7, HO_47, BK252, HB⟩ := hrel
           cases gk with
           | zero => exact absurd HA.out (by simp [skerrylaw17_SchemaOrders.l1])
           | succ k4 =>
            have H := HA.out
            clear HA
            simp only [skerrylaw17_SchemaOrders.l1] at H
            by_cases c29 : x9_4 < (t259.length : Int)
            rotate_left
            ·
             rw [if_neg c29] at H
             have c29b0 : decide (x9_4 < (t259.length : Int)) = false := decide_eq_false c29
             clear c29
             by_cases c35 : x9_4 = (t259.length : Int)
             ·
              rw [if_pos c35] at H
              exact absurd H (by simp)
             ·
              rw [if_neg c35] at H
              have c35b0 : (x9_4 == (t259.length : Int)) = false := beq_eq_false_iff_ne.mpr c35
              have c35b1 : (x9_4 != (t259.length : Int)) = true := bne_iff_ne.mpr c35
              have H' := Aside0.mk H
              clear H
              obtain ⟨Ao36, co36, eo36⟩ := Kd.R_slice HO_7.out
              subst eo36
              go_wp2
              go_roundg k4
              case measure => have := HJ2.out; have := HJ15.out; have := HK3.out; have := HK4.out; omega
              case rel => exact ⟨(wrap64 (x9_4 + 1)), (wrap64 (x49_3 + 1)), (by first | rfl | (simp; done) | (simp [bne, *]; done)), (by first | rfl | (simp; done) | (simp [bne, *]; done)), H', ⟨by have := HJ2.out; have := HJ15.out; have := HK3.out; have := HK4.out; omega⟩, ⟨krW HO_5⟩, ⟨krW HO_7⟩, ⟨krW HO_47⟩, ⟨by (with_reducible repeat (first | refine blk_drewN ?_ _ | refine blk_drew ?_ | refine blk_alloc ?_ _)); exact BK252.out⟩, ⟨by repeat (first | (with_reducible first | exact HB.out | apply bA_ | apply bN_ | apply bD_ | refine bS_ ?_ GE252) | exact HB.out)⟩⟩
            rw [if_pos c29] at H
            have c29b0 : decide (x9_4 < (t259.length : Int)) = true := decide_eq_true c29
            clear c29
            by_cases c30 : 0 ≤ x9_4
            rotate_left
            ·
             rw [if_neg c30] at H
             exact absurd H (by simp)
            rw [if_pos c30] at H
            have c30b0 : decide (0 ≤ x9_4) = true := decide_eq_true c30
            clear c30
            by_cases c31 : (rdOf ByteArray.empty t259 x9_4).toList = (rdOf ByteArray.empty t255 x49_3).toList
            rotate_left
            ·
             rw [if_neg c31] at H
             have c31b0 : ((rdOf ByteArray.empty t259 x9_4).toList == (rdOf ByteArray.empty t255 x49_3).toList) = false := beq_eq_false_iff_ne.mpr c31
             have c31b1 : ((rdOf ByteArray.empty t259 x9_4).toList != (rdOf ByteArray.empty t255 x49_3).toList) = true := bne_iff_ne.mpr c31
             have H' := Aside0.mk H
             clear H
             obtain ⟨Ao34, co34, eo34⟩ := Kd.R_slice HO_7.out
             subst eo34
             have p264 : 0 ≤ (x9_4 : Int) := of_decide_eq_true (by first | (with_reducible assumption) | assumption)
             have q264 : x9_4 < (t259.length : Int) := of_decide_eq_true (by first | (with_reducible assumption) | assumption)
             obtain ⟨ad264, e264, hx264_0⟩ := Kd.at_string (Kd.R_reads' HO_7.out).2.2 x9_4 p264 q264
             cases e264
             replace p264 := eq_true p264
             replace q264 := eq_true q264
             go_wp2
             go_roundg k4
             case measure => have := HJ2.out; have := HJ15.out; have := HK3.out; have := HK4.out; omega
             case rel => exact ⟨(wrap64 (x9_4 + 1)), (by first | rfl | (simp; done) | (simp [bne, *]; done)), H', ⟨by have := HJ2.out; have := HJ15.out; have := HK3.out; have := HK4.out; omega⟩, ⟨krW HO_5⟩, ⟨krW HO_7⟩, ⟨krW HO_47⟩, ⟨by (with_reducible repeat (first | refine blk_drewN ?_ _ | refine blk_drew ?_ | refine blk_alloc ?_ _)); exact BK252.out⟩, ⟨by repeat (first | (with_reducible first | exact HB.out | apply bA_ | apply bN_ | apply bD_ | refine bS_ ?_ GE252) | exact HB.out)⟩⟩
            rw [if_pos c31] at H
            have c31b0 : ((rdOf ByteArray.empty t259 x9_4).toList == (rdOf ByteArray.empty t255 x49_3).toList) = true := beq_iff_eq.mpr c31
            have c31b1 : ((rdOf ByteArray.empty t259 x9_4).toList != (rdOf ByteArray.empty t255 x49_3).toList) = false := bne_eq_false_iff_eq.mpr c31
            clear c31
            by_cases c32 : x9_4 = (t259.length : Int)
            ·
             rw [if_pos c32] at H
             exact absurd H (by simp)
            ·
             rw [if_neg c32] at H
             have c32b0 : (x9_4 == (t259.length : Int)) = false := beq_eq_false_iff_ne.mpr c32
             have c32b1 : (x9_4 != (t259.length : Int)) = true := bne_iff_ne.mpr c32
             have H' := Aside0.mk H
             clear H
             obtain ⟨Ao33, co33, eo33⟩ := Kd.R_slice HO_7.out
             subst eo33
             have p264 : 0 ≤ (x9_4 : Int) := of_decide_eq_true (by first | (with_reducible assumption) | assumption)
             have q264 : x9_4 < (t259.length : Int) := of_decide_eq_true (by first | (with_reducible assumption) | assumption)
             obtain ⟨ad264, e264, hx264_0⟩ := Kd.at_string (Kd.R_reads' HO_7.out).2.2 x9_4 p264 q264
             cases e264
             replace p264 := eq_true p264
             replace q264 := eq_true q264
             go_wp2
             go_roundg k4
             case measure => have := HJ2.out; have := HJ15.out; have := HK3.out; have := HK4.out; omega
             case rel => exact ⟨(wrap64 (x9_4 + 1)), (wrap64 (x49_3 + 1)), (by first | rfl | (simp; done) | (simp [bne, *]; done)), (by first | rfl | (simp; done) | (simp [bne, *]; done)), H', ⟨by have := HJ2.out; have := HJ15.out; have := HK3.out; have := HK4.out; omega⟩, ⟨krW HO_5⟩, ⟨krW HO_7⟩, ⟨krW HO_47⟩, ⟨by (with_reducible repeat (first | refine blk_drewN ?_ _ | refine blk_drew ?_ | refine blk_alloc ?_ _)); exact BK252.out⟩, ⟨by repeat (first | (with_reducible first | exact HB.out | apply bA_ | apply bN_ | apply bD_ | refine bS_ ?_ GE252) | exact HB.out)⟩⟩
         ·
          rw [if_neg c26] at H
          have c26b0 : decide (x49_3 < (t255.length : Int)) = false := decide_eq_false c26
          clear c26
          have H' := Aside0.mk H
          clear H
          go_wp2
          go_loopg [76] k3 (fun kq v76 w' => ∃ (x76_4 : Int), v76 = .int .i64 x76_4 ∧ Aside0 (skerrylaw17_SchemaOrders.l2 kq t255 t258 l1 (l1.length : Int) x76_4 = some r) ∧ Aside0 (kq ≤ k3) ∧ Aside0 (Kd.R Kd.string 9 w' w.heap.size (fun _ => True) (.slice Ao25 t255.length co25) t255) ∧ Aside0 (w'.heap[gb252]? = some (.cells #[.string a0_0, .string a0_1, .string a0_2, (.slice A0_3 l0_3.length c0_3)] 26 (0, 0))) ∧ Aside0 (Below w.heap.size w w'))
          case atStart => exact ⟨(0), (by first | rfl | (simp; done) | (simp [bne, *]; done)), H', ⟨Nat.le_refl _⟩, ⟨by (with_reducible repeat (first | apply Kd.R_alloc | apply Kd.R_drewN | apply Kd.R_drew)); exact Kd.R_mono HO_5.out (fun _ hk => trivial)⟩, ⟨by (with_reducible repeat (first | refine blk_drewN ?_ _ | refine blk_drew ?_ | refine blk_alloc ?_ _)); exact BK252.out⟩, ⟨by repeat (first | (with_reducible first | exact HB.out | apply bA_ | apply bN_ | apply bD_ | refine bS_ ?_ GE252) | exact HB.out)⟩⟩
          case round =>
           clear H'
           try clear c1
           try clear c2
           try clear p2
           try clear q2
           try clear hx2
           try clear c3
           try clear c5
           try clear c6
           try clear c6b0
           try clear c6b1
           try clear p6
           try clear c8
           try clear c11
           try clear c13
           try clear c15
           try clear c21
           try clear c24
           try clear c26
           try clear c26b0
           try clear p26
           try clear q26
           try clear hx26
           try clear c27
           try clear c27b0
           try clear c28
           try clear c28b0
           try clear c29
           try clear c29b0
           try clear c30
           try clear c30b0
           try clear c31
           try clear c31b0
           try clear c31b1
           try clear c32
           try clear c32b0
           try clear c32b1
           try clear c35
           try clear c35b0
           try clear c35b1
           try clear hcz17_0
           try clear hcz17_1
           try clear hcz17_2
           try clear hcz17_3
           try clear hcz19_0
           try clear hcz19_1
           try clear hcz19_2
           try clear hcz19_3
           try clear hcz23_0
           try clear hcz23_1
           try clear hcz23_2
           try clear hcz23_3
           try clear hcz7_0
           try clear hcz7_1
           try clear hcz7_2
           try clear hcz7_3
           try clear hcz9_0
           try clear hcz9_1
           try clear hcz9_2
           try clear hcz9_3
           try clear hfz17_0
           try clear hfz17_1
           try clear hfz17_2
           try clear hfz17_3
           try clear hfz19_0
           try clear hfz19_1
           try clear hfz19_2
           try clear hfz19_3
           try clear hfz23_0
           try clear hfz23_1
           try clear hfz23_2
           try clear hfz23_3
           try clear hfz7_0
           try clear hfz7_1
           try clear hfz7_2
           try clear hfz7_3
           try clear hfz9_0
           try clear hfz9_1
           try clear hfz9_2
           try clear hfz9_3
           try clear hx263_0
           try clear hx264_0
           try clear p2
           try clear p26
           try clear p263
           try clear p264
           try clear q2
           try clear q26
           try clear q263
           try clear q264
           obtain ⟨x76_4, rfl, HA, HK4, HO_5, BK252, HB⟩ := hrel
           cases gk with
           | zero => exact absurd HA.out (by simp [skerrylaw17_SchemaOrders.l2])
           | succ k4 =>
            have H := HA.out
            clear HA
            simp only [skerrylaw17_SchemaOrders.l2] at H
            by_cases c37 : x76_4 < (l1.length : Int)
            rotate_left
            ·
             rw [if_neg c37] at H
             have c37b0 : decide (x76_4 < (l1.length : Int)) = false := decide_eq_false c37
             clear c37
             by_cases c46 : t258 = true
             ·
              subst c46
              have H1 : ((skerrylaw17_lives.f k4).bind fun t265 => (some t265)) = some r := by rw [if_pos rfl] at H; exact H
              clear H
              have H := H1
              clear H1
              replace H := Option.bind_eq_some_iff.mp H
              obtain ⟨t265, A470, H⟩ := H
              have A47 := Aside0.mk A470
              clear A470
              obtain rfl := Option.some.inj H
              go_wp2_with (first | (go_at_call 8; (with_reducible refine (skerrylaw17_lives.calls k4  t265 _ A47.out).mono ?_); rintro e w48 ⟨rfl, hb⟩; replace HO_5 := kR HO_5 hb; replace BK252 := kB BK252 hb; replace HB := Aside0.mk (below_step (by repeat (first | (with_reducible first | exact HB.out | apply bA_ | apply bN_ | apply bD_ | refine bS_ ?_ GE252) | exact HB.out)) hb); (try clear hb); (try clear hb2); (try clear hk); (try clear hi)))
              go_ret
              exact ⟨by first | rfl | (simp <;> rfl) | (simp [*] <;> rfl), by repeat (first | (with_reducible first | exact HB.out | apply bA_ | apply bN_ | apply bD_ | refine bS_ ?_ GE252) | exact HB.out)⟩
             ·
              replace c46 := Bool.eq_false_iff.mpr c46
              subst c46
              have H1 : (if (t255.length : Int) = 0 then ((skerrylaw17_lives.f k4).bind fun t266 => (some t266)) else (none)) = some r := by rw [if_neg (show ¬ (false = true) by decide)] at H; exact H
              clear H
              have H := H1
              clear H1
              by_cases c49 : (t255.length : Int) = 0
              rotate_left
              ·
               rw [if_neg c49] at H
               exact absurd H (by simp)
              rw [if_pos c49] at H
              have c49b0 : ((t255.length : Int) == 0) = true := beq_iff_eq.mpr c49
              have c49b1 : ((t255.length : Int) != 0) = false := bne_eq_false_iff_eq.mpr c49
              clear c49
              replace H := Option.bind_eq_some_iff.mp H
              obtain ⟨t266, A500, H⟩ := H
              have A50 := Aside0.mk A500
              clear A500
              obtain rfl := Option.some.inj H
              go_wp2_with (first | (go_at_call 8; (with_reducible refine (skerrylaw17_lives.calls k4  t266 _ A50.out).mono ?_); rintro e w51 ⟨rfl, hb⟩; replace HO_5 := kR HO_5 hb; replace BK252 := kB BK252 hb; replace HB := Aside0.mk (below_step (by repeat (first | (with_reducible first | exact HB.out | apply bA_ | apply bN_ | apply bD_ | refine bS_ ?_ GE252) | exact HB.out)) hb); (try clear hb); (try clear hb2); (try clear hk); (try clear hi)))
              go_ret
              exact ⟨by first | rfl | (simp <;> rfl) | (simp [*] <;> rfl), by repeat (first | (with_reducible first | exact HB.out | apply bA_ | apply bN_ | apply bD_ | refine bS_ ?_ GE252) | exact HB.out)⟩
            rw [if_pos c37] at H
            have c37b0 : decide (x76_4 < (l1.length : Int)) = true := decide_eq_true c37
            clear c37
            by_cases c38 : 0 ≤ x76_4
            rotate_left
            ·
             rw [if_neg c38] at H
             exact absurd H (by simp)
            rw [if_pos c38] at H
            have c38b0 : decide (0 ≤ x76_4) = true := decide_eq_true c38
            clear c38
            by_cases c39 : x76_4 < (l1.length : Int)
            rotate_left
            ·
             rw [if_neg c39] at H
             exact absurd H (by simp)
            rw [if_pos c39] at H
            have c39b0 : decide (x76_4 < (l1.length : Int)) = true := decide_eq_true c39
            clear c39
            have H' := Aside0.mk H
            clear H
            have p267 : 0 ≤ (x76_4 : Int) := of_decide_eq_true (by first | (with_reducible assumption) | assumption)
            have q267 : x76_4 < (l1.length : Int) := of_decide_eq_true (by first | (with_reducible assumption) | assumption)
            obtain ⟨ad267, e267, hx267_0⟩ := Kd.at_string HR1.out x76_4 p267 q267
            cases e267
            replace hx267_0 := cB_ HB hx267_0
            replace p267 := eq_true p267
            replace q267 := eq_true q267
            go_wp2
            go_loopg [14, 82] k4 (fun kq v14 v82 w' => ∃ (x14_5 : Bool) (x82_5 : Int), v14 = .bool x14_5 ∧ v82 = .int .i64 x82_5 ∧ Aside0 (skerrylaw17_SchemaOrders.l3 kq t255 t258 (rdOf ByteArray.empty l1 x76_4) x14_5 l1 (l1.length : Int) x76_4 t255 (t255.length : Int) x82_5 = some r) ∧ Aside0 (kq ≤ k4) ∧ Aside0 (Kd.R Kd.string 9 w' w.heap.size (fun _ => True) (.slice Ao25 t255.length co25) t255) ∧ Aside0 (Kd.R Kd.string 9 w' w.heap.size (fun _ => True) (.slice Ao25 t255.length co25) t255) ∧ Aside0 (w'.heap[gb252]? = some (.cells #[.string a0_0, .string a0_1, .string a0_2, (.slice A0_3 l0_3.length c0_3)] 26 (0, 0))) ∧ Aside0 (Below w.heap.size w w'))
            case atStart => exact ⟨(false), (0), (by first | rfl | (simp; done) | (simp [bne, *]; done)), (by first | rfl | (simp; done) | (simp [bne, *]; done)), H', ⟨Nat.le_refl _⟩, ⟨krW HO_5⟩, ⟨krW HO_5⟩, ⟨by (with_reducible repeat (first | refine blk_drewN ?_ _ | refine blk_drew ?_ | refine blk_alloc ?_ _)); exact BK252.out⟩, ⟨by repeat (first | (with_reducible first | exact HB.out | apply bA_ | apply bN_ | apply bD_ | refine bS_ ?_ GE252) | exact HB.out)⟩⟩
            case round =>
             clear H'
             try clear c1
             try clear c2
             try clear p2
             try clear q2
             try clear hx2
             try clear c3
             try clear c5
             try clear c6
             try clear c6b0
             try clear c6b1
             try clear p6
             try clear c8
             try clear c11
             try clear c13
             try clear c15
             try clear c21
             try clear c24
             try clear c26
             try clear c26b0
             try clear p26
             try clear q26
             try clear hx26
             try clear c27
             try clear c27b0
             try clear c28
             try clear c28b0
             try clear c29
             try clear c29b0
             try clear c30
             try clear c30b0
             try clear c31
             try clear c31b0
             try clear c31b1
             try clear c32
             try clear c32b0
             try clear c32b1
             try clear c35
             try clear c35b0
             try clear c35b1
             try clear c37
             try clear c37b0
             try clear c38
             try clear c38b0
             try clear c39
             try clear c39b0
             try clear hcz17_0
             try clear hcz17_1
             try clear hcz17_2
             try clear hcz17_3
             try clear hcz19_0
             try clear hcz19_1
             try clear hcz19_2
             try clear hcz19_3
             try clear hcz23_0
             try clear hcz23_1
             try clear hcz23_2
             try clear hcz23_3
             try clear hcz7_0
             try clear hcz7_1
             try clear hcz7_2
             try clear hcz7_3
             try clear hcz9_0
             try clear hcz9_1
             try clear hcz9_2
             try clear hcz9_3
             try clear hfz17_0
             try clear hfz17_1
             try clear hfz17_2
             try clear hfz17_3
             try clear hfz19_0
             try clear hfz19_1
             try clear hfz19_2
             try clear hfz19_3
             try clear hfz23_0
             try clear hfz23_1
             try clear hfz23_2
             try clear hfz23_3
             try clear hfz7_0
             try clear hfz7_1
             try clear hfz7_2
             try clear hfz7_3
             try clear hfz9_0
             try clear hfz9_1
             try clear hfz9_2
             try clear hfz9_3
             try clear hx263_0
             try clear hx264_0
             try clear hx267_0
             try clear p2
             try clear p26
             try clear p263
             try clear p264
             try clear p267
             try clear p6
             try clear q2
             try clear q26
             try clear q263
             try clear q264
             try clear q267
             obtain ⟨x14_5, x82_5, rfl, rfl, HA, HK5, HO_5, HO_80, BK252, HB⟩ := hrel
             cases gk with
             | zero => exact absurd HA.out (by simp [skerrylaw17_SchemaOrders.l3])
             | succ k5 =>
              have H := HA.out
              clear HA
              simp only [skerrylaw17_SchemaOrders.l3] at H
              by_cases c40 : x82_5 < (t255.length : Int)
              rotate_left
              ·
               rw [if_neg c40] at H
               have c40b0 : decide (x82_5 < (t255.length : Int)) = false := decide_eq_false c40
               clear c40
               by_cases c44 : (x14_5 != t258) = true
               rotate_left
               ·
                rw [if_neg c44] at H
                have c44b0 : (x14_5 != t258) = false := by simpa using c44
                (try (have c44b1 : decide (x14_5 = t258) = true := by simpa using c44))
                (try (have c44b2 : (x14_5 == t258) = true := by simpa using c44))
                clear c44
                have H' := Aside0.mk H
                clear H
                go_wp2
                go_roundg k5
                case measure => have := HJ2.out; have := HJ15.out; have := HK3.out; have := HK4.out; have := HK5.out; omega
                case rel => exact ⟨(wrap64 (x76_4 + 1)), (by first | rfl | (simp; done) | (simp [bne, *]; done)), H', ⟨by have := HJ2.out; have := HJ15.out; have := HK3.out; have := HK4.out; have := HK5.out; omega⟩, ⟨krW HO_5⟩, ⟨by (with_reducible repeat (first | refine blk_drewN ?_ _ | refine blk_drew ?_ | refine blk_alloc ?_ _)); exact BK252.out⟩, ⟨by repeat (first | (with_reducible first | exact HB.out | apply bA_ | apply bN_ | apply bD_ | refine bS_ ?_ GE252) | exact HB.out)⟩⟩
               rw [if_pos c44] at H
               have c44b0 : (x14_5 != t258) = true := c44
               (try (have c44b1 : decide (x14_5 = t258) = false := by simpa using c44))
               (try (have c44b2 : (x14_5 == t258) = false := by simpa using c44))
               (try (have c44b3 : ¬ (x14_5 = t258) := by simpa using c44))
               clear c44
               by_cases c45 : t258 = true
               ·
                subst c45
                try simp only [Bool.true_beq, Bool.false_beq, beq_true, beq_false, Bool.true_bne, Bool.false_bne, Bool.bne_true, Bool.bne_false, Bool.not_not] at c44b0
                have H1 : (none) = some r := by rw [if_pos rfl] at H; exact H
                clear H
                have H := H1
                clear H1
                exact absurd H (by simp)
               ·
                replace c45 := Bool.eq_false_iff.mpr c45
                subst c45
                try simp only [Bool.true_beq, Bool.false_beq, beq_true, beq_false, Bool.true_bne, Bool.false_bne, Bool.bne_true, Bool.bne_false, Bool.not_not] at c44b0
                have H1 : (skerrylaw17_SchemaOrders.l2 k5 t255 false l1 (l1.length : Int) (wrap64 (x76_4 + 1))) = some r := by rw [if_neg (show ¬ (false = true) by decide)] at H; exact H
                clear H
                have H := H1
                clear H1
                have H' := Aside0.mk H
                clear H
                go_wp2
                go_roundg k5
                case measure => have := HJ2.out; have := HJ15.out; have := HK3.out; have := HK4.out; have := HK5.out; omega
                case rel => exact ⟨(wrap64 (x76_4 + 1)), (by first | rfl | (simp; done) | (simp [bne, *]; done)), H', ⟨by have := HJ2.out; have := HJ15.out; have := HK3.out; have := HK4.out; have := HK5.out; omega⟩, ⟨krW HO_5⟩, ⟨by (with_reducible repeat (first | refine blk_drewN ?_ _ | refine blk_drew ?_ | refine blk_alloc ?_ _)); exact BK252.out⟩, ⟨by repeat (first | (with_reducible first | exact HB.out | apply bA_ | apply bN_ | apply bD_ | refine bS_ ?_ GE252) | exact HB.out)⟩⟩
              rw [if_pos c40] at H
              have c40b0 : decide (x82_5 < (t255.length : Int)) = true := decide_eq_true c40
              clear c40
              by_cases c41 : 0 ≤ x82_5
              rotate_left
              ·
               rw [if_neg c41] at H
               exact absurd H (by simp)
              rw [if_pos c41] at H
              have c41b0 : decide (0 ≤ x82_5) = true := decide_eq_true c41
              clear c41
              by_cases c42 : x82_5 < (t255.length : Int)
              rotate_left
              ·
               rw [if_neg c42] at H
               exact absurd H (by simp)
              rw [if_pos c42] at H
              have c42b0 : decide (x82_5 < (t255.length : Int)) = true := decide_eq_true c42
              clear c42
              by_cases c43 : x14_5 = true
              ·
               subst c43
               have H1 : (skerrylaw17_SchemaOrders.l3 k5 t255 t258 (rdOf ByteArray.empty l1 x76_4) true l1 (l1.length : Int) x76_4 t255 (t255.length : Int) (wrap64 (x82_5 + 1))) = some r := by rw [if_pos rfl] at H; exact H
               clear H
               have H := H1
               clear H1
               have H' := Aside0.mk H
               clear H
               have p268 : 0 ≤ (x82_5 : Int) := of_decide_eq_true (by first | (with_reducible assumption) | assumption)
               have q268 : x82_5 < (t255.length : Int) := of_decide_eq_true (by first | (with_reducible assumption) | assumption)
               obtain ⟨ad268, e268, hx268_0⟩ := Kd.at_string (Kd.R_reads' HO_80.out).2.2 x82_5 p268 q268
               cases e268
               replace p268 := eq_true p268
               replace q268 := eq_true q268
               go_wp2
               go_roundg k5
               case measure => have := HJ2.out; have := HJ15.out; have := HK3.out; have := HK4.out; have := HK5.out; omega
               case rel => exact ⟨(true), (wrap64 (x82_5 + 1)), (by first | rfl | (simp; done) | (simp [bne, *]; done)), (by first | rfl | (simp; done) | (simp [bne, *]; done)), H', ⟨by have := HJ2.out; have := HJ15.out; have := HK3.out; have := HK4.out; have := HK5.out; omega⟩, ⟨krW HO_5⟩, ⟨krW HO_80⟩, ⟨by (with_reducible repeat (first | refine blk_drewN ?_ _ | refine blk_drew ?_ | refine blk_alloc ?_ _)); exact BK252.out⟩, ⟨by repeat (first | (with_reducible first | exact HB.out | apply bA_ | apply bN_ | apply bD_ | refine bS_ ?_ GE252) | exact HB.out)⟩⟩
              ·
               replace c43 := Bool.eq_false_iff.mpr c43
               subst c43
               have H1 : (skerrylaw17_SchemaOrders.l3 k5 t255 t258 (rdOf ByteArray.empty l1 x76_4) ((rdOf ByteArray.empty t255 x82_5).toList == (rdOf ByteArray.empty l1 x76_4).toList) l1 (l1.length : Int) x76_4 t255 (t255.length : Int) (wrap64 (x82_5 + 1))) = some r := by rw [if_neg (show ¬ (false = true) by decide)] at H; exact H
               clear H
               have H := H1
               clear H1
               have H' := Aside0.mk H
               clear H
               have p268 : 0 ≤ (x82_5 : Int) := of_decide_eq_true (by first | (with_reducible assumption) | assumption)
               have q268 : x82_5 < (t255.length : Int) := of_decide_eq_true (by first | (with_reducible assumption) | assumption)
               obtain ⟨ad268, e268, hx268_0⟩ := Kd.at_string (Kd.R_reads' HO_80.out).2.2 x82_5 p268 q268
               cases e268
               replace p268 := eq_true p268
               replace q268 := eq_true q268
               go_wp2
               go_roundg k5
               case measure => have := HJ2.out; have := HJ15.out; have := HK3.out; have := HK4.out; have := HK5.out; omega
               case rel => exact ⟨(((rdOf ByteArray.empty t255 x82_5).toList == (rdOf ByteArray.empty l1 x76_4).toList)), (wrap64 (x82_5 + 1)), (by first | rfl | (simp; done) | (simp [bne, *]; done)), (by first | rfl | (simp; done) | (simp [bne, *]; done)), H', ⟨by have := HJ2.out; have := HJ15.out; have := HK3.out; have := HK4.out; have := HK5.out; omega⟩, ⟨krW HO_5⟩, ⟨krW HO_80⟩, ⟨by (with_reducible repeat (first | refine blk_drewN ?_ _ | refine blk_drew ?_ | refine blk_alloc ?_ _)); exact BK252.out⟩, ⟨by repeat (first | (with_reducible first | exact HB.out | apply bA_ | apply bN_ | apply bD_ | refine bS_ ?_ GE252) | exact HB.out)⟩⟩
end Go.Proofs.YtdagddhccdchoaaDoor.Q
