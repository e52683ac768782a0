/- Lemmas for this claim's walk: no condition of their own. -/
import Derived.Test.YtabiekkebdocnaaZeQx23
import Derived.Test.YtabiekkebdocnaaZeJ32
import Derived.Test.YtabiekkebdocnaaZeJ0
import Derived.Test.YtabiekkebdocnaaZeDown
import Derived.Test.YtabiekkebdocnaaZeQx13
import Derived.Test.YtabiekkebdocnaaZeJ35
import Derived.Test.YtabiekkebdocnaaZeJ16
import Derived.Deep.MidRow
import Derived.WalkLawsBesides
import Derived.WalkSpells
import Derived.Lib.Hide
import Derived.Deep.DeepFit
import Derived.Outline
namespace Go.Proofs.Ytabiekkebdocnaa.Q
open Go.RowKit Go.Proofs.YtabiekkebdocnaaW.PrintWords Go.Proofs.YtabiekkebdocnaaW.PrintLast Go.Proofs.YtabiekkebdocnaaW.PrintMore
attribute [local go_sem] max2_int min2_int max_two min_two max_three min_three max_four min_four
set_option linter.unusedVariables false
set_option linter.unusedSimpArgs false
open Go.Lib Go.Proofs.Ytabiekkebdocnaa.Hp
theorem at_LL {w : World} {A : Option Addr} {n : Nat} {xs : List (List Cl)} (h : Kd.C (Kd.slice 39 k39) w A n xs) (i : Nat) (h1 : i < xs.length) : ∃ ad A0 c0, A = some ad ∧ w.cell? (ad.add i) = some (.slice A0 xs[i].length c0) ∧ xs[i].length ≤ c0 ∧ k39.C w A0 xs[i].length xs[i] := by
 obtain ⟨ad, c, e, _, hK, hc0⟩ := Kd.C_get h ([] : List Cl) (i : Int) (by omega) (by have := h.1; omega)
 have hc : ∀ j u, c[j]? = some u → w.cell? (ad.add ((i : Int).toNat * 1 + j)) = some u := hc0
 rw [Int.toNat_natCast] at hK hc
 rw [List.getD_eq_getElem?_getD, List.getElem?_eq_getElem h1, Option.getD_some] at hK
 obtain ⟨A0, c0, rfl, l0, g0⟩ := hK
 exact ⟨ad, A0, c0, e, by have hq := hc 0 _ rfl; rwa [Nat.mul_one, Nat.add_zero] at hq, l0, g0⟩
theorem src_own {q : Nat → Prop} {w : World} {base c : Nat} {ok : Nat → Prop} {A : Option Addr} {m : List Cl} (ho : Kd.R k39 39 w base ok (.slice A m.length c) m) (hp : 0 < m.length) (j : Int) (hq : ∀ k, base ≤ k → q k) : Src q w ⟨A, c, j, m⟩ := by
 obtain ⟨h1, h2, h3⟩ := Kd.R_reads' ho
 obtain ⟨g, cap, e, hgb, _, hcells⟩ := Kd.R_form ho hp
 injection e with e1 e2 e3
 subst e1
 exact ⟨h3, h2, fun a ha => by cases ha; exact hq _ hgb, fun a ha => by cases ha; exact hcells⟩
theorem srcs_snoc {q : Nat → Prop} {w : World} {zs : List It} {t : It} (h : ∀ t ∈ zs, Src q w t ∧ t.l ≠ []) (ht : Src q w t) (hl : t.l ≠ []) : ∀ x ∈ zs ++ [t], Src q w x ∧ x.l ≠ [] := fun x hx => by
 rcases List.mem_append.1 hx with hx | hx
 ·
  exact h x hx
 ·
  obtain rfl := List.mem_singleton.1 hx
  exact ⟨ht, hl⟩
theorem infoH : (Try.prog.info? 59).map (fun i => (i.zero, i.size, i.bytes)) = some (some (.agg #[.slice none 0 0, .int .i64 0]), 2, 32) := by kernel_rfl
def src0 (N : List Cl → List Cl) : Nat → List (List Cl) → List (Int × List Cl)
 | _, [] => []
 | i, l :: ls => if (N l).length = 0 then src0 N (i + 1) ls else ((i : Int), N l) :: src0 N (i + 1) ls
theorem src0_snoc (N : List Cl → List Cl) (l : List Cl) : ∀ (i : Nat) (ls : List (List Cl)), src0 N i (ls ++ [l]) = src0 N i ls ++ (if (N l).length = 0 then [] else [(((i + ls.length : Nat) : Int), N l)])
 | i, [] => by
  simp only [List.nil_append, src0, List.length_nil, Nat.add_zero]
 | i, x :: ls => by
  simp only [List.cons_append, src0, src0_snoc N l (i + 1) ls, List.length_cons]
  rw [show i + 1 + ls.length = i + (ls.length + 1) by omega]
  split <;> simp
theorem src0_len (N : List Cl → List Cl) : ∀ (i : Nat) (ls : List (List Cl)), (src0 N i ls).length ≤ ls.length
 | i, [] => Nat.le_refl _
 | i, x :: ls => by
  have := src0_len N (i + 1) ls
  unfold src0; split <;> simp <;> omega
structure Nl (N : List Cl → List Cl) (l : List Cl) : Prop where
 s : ∃ k b, cell_Sorted.f k l = some b ∧ (b = true → N l = l) ∧ (b = false → ∃ k, cell_Norm.f k l = some (N l))
 len : (N l).length ≤ 1256584717421
def It.c (t : It) : Int × List Cl := (t.n, t.l)
structure HW (lt : It → It → Bool) (base : Nat) (q : Nat → Prop) (w : World) (v : Value) (ys : List It) : Prop where
 row : Kd.R kIt 59 w base (fun _ => True) v ys
 src : ∀ t ∈ ys, Src q w t ∧ t.l ≠ []
 hp : Hp lt It.z 0 ys
theorem R_srcs {q : Nat → Prop} {w w1 : World} {v : Value} {base : Nat} {ok : Nat → Prop} {xs zs : List It} (hR : Kd.R kIt 59 w base ok v xs) (hg : w.grownBy w1 v.ownBlock) (h : ∀ t ∈ zs, Src q w t ∧ t.l ≠ []) : ∀ t ∈ zs, Src q w1 t ∧ t.l ≠ [] :=
 fun t ht => ⟨(h t ht).1.grown hR hg, (h t ht).2⟩
theorem srcs_below {q : Nat → Prop} {w w1 : World} {zs : List It} (hb : Below w.heap.size w w1) (h : ∀ t ∈ zs, Src q w t ∧ t.l ≠ []) : ∀ t ∈ zs, Src q w1 t ∧ t.l ≠ [] := fun t ht => ⟨(h t ht).1.below hb, (h t ht).2⟩
set_option maxHeartbeats 2000000 in
set_option maxRecDepth 100000 in
theorem sorted_calls {lt : It → It → Bool} (hlt : Lt lt) (hO : Srt.WOrd lt) (N : List Cl → List Cl) (A0 : Option Addr) (c0 : Nat) (ls : List (List Cl)) (w : World) (hC : Kd.C (Kd.slice 39 k39) w A0 ls.length ls) (hc : ls.length ≤ c0) (hN : ∀ l ∈ ls, Nl N l) (hlen : ls.length ≤ 1000000) :
  Calls Try.prog 28 #[.slice A0 ls.length c0] w fun e w' => ∃ (v : Value) (ys : List It), e = .returned v ∧ HW lt w.heap.size (fun k => w.heap.size ≤ k) w' v ys ∧ (ys.map It.c).Perm (src0 N 0 ls) ∧ Below w.heap.size w w' := by
 have HLT := Lib.hid hlt
 have HO := Lib.hid hO
 have HC := Lib.hid hC
 have HN := Lib.hid hN
 have HL := Lib.hid (And.intro hc hlen)
 clear hlt hO hC hN hc hlen
 go_enter Try.func28, Try.ntmps28
 go_wp2_with fail
 go_loopg [3, 4, 5, 9] ls.length (fun gk v3 v4 v5 v9 wr => ∃ (j : Nat) (ys : List It), v9 = .int .i64 j ∧ Aside0 (j ≤ ls.length ∧ ls.length - j ≤ gk) ∧ Aside0 (Kd.R kIt 59 wr w.heap.size (fun _ => True) v3 ys) ∧ Aside0 (∀ t ∈ ys, Src (fun k => w.heap.size ≤ k) wr t ∧ t.l ≠ []) ∧ Aside0 (ys.map It.c = src0 N 0 (ls.take j)) ∧ Aside0 (Below w.heap.size w wr))
 case atStart => exact ⟨0, [], rfl, ⟨by omega, by omega⟩, ⟨Kd.R_nil _ _ _ _ _⟩, ⟨fun t ht => by cases ht⟩, ⟨rfl⟩, ⟨Below.refl _ _⟩⟩
 case round =>
  obtain ⟨j, ys, rfl, HJ, HR, HS, HY, HB⟩ := hrel
  obtain ⟨A3, c3, rfl, hc3, -⟩ := Kd.R_reads HR.out
  by_cases hj : j < ls.length
  ·
   have q1 : (j : Int) < (ls.length : Int) := by omega
   have q0 : (0 : Int) ≤ (j : Int) := by omega
   have q9 : (j : Int) ≤ 1000000 := by have := HL.out.2; omega
   obtain ⟨ad, A1, c1, e1, hx, hc1, hC1⟩ := at_LL (Kd.C_below HC.out HB.out) j hj
   obtain ⟨⟨ks, b, hs, hb1, hb2⟩, hnl⟩ := HN.out ls[j] (List.getElem_mem hj)
   have HT := Lib.hid (show src0 N 0 (ls.take (j + 1)) = ys.map It.c ++ (if (N ls[j]).length = 0 then [] else [((j : Int), N ls[j])]) by
    rw [HY.out, List.take_succ_eq_append_getElem hj, src0_snoc, List.length_take, Nat.min_eq_left (by omega), Nat.zero_add])
   generalize ls[j] = l at hx hc1 hC1 hs hb1 hb2 hnl HT
   obtain ⟨m, hm⟩ : ∃ m, N l = m := ⟨_, rfl⟩
   rw [hm] at hb1 hb2 hnl HT
   have HCS := Lib.hid (fun (W : World) h => cell_Sorted.calls ks A1 c1 l b W h hc1 hs)
   have HC1 := Lib.hid hC1
   have HC2 := Lib.hid (And.intro hc1 (And.intro hb1 hb2))
   have HNL := Lib.hid hnl
   subst e1
   clear hc1 hC1 hs hb1 hb2 hnl hm
   go_upto_region 5 with fail
   go_cut [5, 16] (fun v5 v16 wc => v5 = .slice A1 l.length c1 ∧ v16 = .bool (!b) ∧ Aside0 (Below wr.heap.size wr wc))
   case first =>
    go_wp2_with (go_at_call 16; (with_reducible refine (HCS.out _ HC1.out).mono ?_); rintro e w1 ⟨rfl, hb⟩; have HB1 := Lib.hid hb; clear hb)
    go_meet
    case rel => exact ⟨rfl, rfl, ⟨HB1.out⟩⟩
   case rest =>
    obtain ⟨rfl, rfl, HB1⟩ := hcut
    have HB0 := Lib.hid HB1.out
    clear HB1
    go_upto_if 16 with fail
    go_cut [5] (fun v5 wd => ∃ (A5 : Option Addr) (c5 : Nat), v5 = .slice A5 m.length c5 ∧ Aside0 (m.length ≤ c5 ∧ Kd.C k39 wd A5 m.length m) ∧ Aside0 (Below wr.heap.size wr wd))
    case first =>
     cases b
     ·
      obtain ⟨kn, hkn⟩ := HC2.out.2.2 rfl
      have HCN := Lib.hid (fun (W : World) h => cell_Norm.calls kn A1 c1 l m W h HC2.out.1 hkn)
      clear hkn
      go_wp2_with (go_at_call 24; (with_reducible refine (HCN.out _ (Kd.C_below HC1.out HB0.out)).mono ?_); rintro e w1 ⟨v1, rfl, ho, hb⟩; obtain ⟨A5, c5, rfl, hc5, hC5⟩ := Kd.R_reads ho; have HB2 := Lib.hid (below_step HB0.out hb); have HC5 := Lib.hid (And.intro hc5 hC5); clear hb ho hc5 hC5)
      go_meet
      case rel => exact ⟨A5, c5, rfl, ⟨HC5.out⟩, ⟨HB2.out⟩⟩
     ·
      obtain rfl := HC2.out.2.1 rfl
      go_wp2_with fail
      go_meet
      case rel => exact ⟨A1, c1, rfl, ⟨HC2.out.1, Kd.C_below HC1.out HB0.out⟩, ⟨HB0.out⟩⟩
    case rest =>
     clear HC1 HC2 HCS HB0
     obtain ⟨A5, c5, rfl, HC5, HB2⟩ := hcut
     have HRd := Lib.hid (Kd.R_below HR.out HB2.out)
     have HSd := Lib.hid (srcs_below HB2.out HS.out)
     have HBd := Lib.hid (below_step HB.out HB2.out)
     clear HR HS HB HB2
     by_cases hm0 : m.length = 0
     ·
      have q3 : ¬ (0 : Int) < (m.length : Int) := by omega
      go_wp2_with fail
      go_roundg (ls.length - (j + 1))
      case measure => have := HJ.out; omega
      case rel => exact ⟨j + 1, ys, by go_num, ⟨by have := HJ.out; omega, Nat.le_refl _⟩, ⟨HRd.out⟩, ⟨HSd.out⟩, ⟨by rw [HT.out, if_pos hm0, List.append_nil]⟩, ⟨HBd.out⟩⟩
     ·
      have q3 : (0 : Int) < (m.length : Int) := by omega
      have q4 : m ≠ [] := fun e => hm0 (by rw [e]; rfl)
      have HCL := Lib.hid (fun (W : World) h => api_Cell_40.calls A5 c5 m m W h HC5.out.1 (by unfold api_Cell_40.f; rw [if_pos (by have := HNL.out; omega)]))
      have hyl : ys.length ≤ 1000000 := by
       have h1 := congrArg List.length HY.out
       rw [List.length_map] at h1
       have := src0_len N 0 (ls.take j)
       have := List.length_take_le j ls
       have := HL.out.2
       omega
      have HYL := Lib.hid hyl
      clear hyl
      go_upto_region 8 with fail
      go_wp2_with (first | (go_at_call 40; (with_reducible refine (HCL.out _ HC5.out.2).mono ?_); rintro e w1 ⟨v1, rfl, ho, hb⟩; obtain ⟨A6, c6, rfl⟩ := Kd.R_slice ho; have HS6 := Lib.hid (src_own (q := fun k => w.heap.size ≤ k) ho (by omega) (j : Int) (fun k hk => Nat.le_trans (below_size HBd.out) hk)); have HR6 := Lib.hid (Kd.R_below HRd.out hb); have HB6 := Lib.hid (below_step HBd.out hb); have HX6 := Lib.hid (srcs_below hb HSd.out); clear ho hb) | ((with_reducible refine gate_builtin (b := .append) (xs := #[.tmp 22, .tmp 27]) rfl ?_); refine Kd.R_append kIt (w0 := w) w.heap.size rfl (.tmp 22) (.tmp 27) 54 59 (.agg #[.slice none 0 0, .int .i64 0]) 32 rfl Try.underlying54 infoH rfl (by decide) (by omega) (.slice A3 ys.length c3) ys ⟨A6, c6, j, m⟩ [.slice A6 m.length c6, .int .i64 j] (fun _ => True) (fun _ => False) rfl rfl rfl (fun _ hk => hk.elim) (fun _ _ => trivial) HR6.out HB6.out (below_size HB6.out) ?aL ?_; (case aL => have := HYL.out; omega); intro v7 w7 ho hb hg hat; have HR7 := Lib.hid ho; have HB7 := Lib.hid hb; have HG7 := Lib.hid hg; clear ho hb hg hat))
      go_roundg (ls.length - (j + 1))
      case measure => have := HJ.out; omega
      case rel => exact ⟨j + 1, _, by go_num, ⟨by have := HJ.out; omega, Nat.le_refl _⟩, ⟨HR7.out⟩, ⟨R_srcs HR6.out HG7.out (srcs_snoc HX6.out HS6.out q4)⟩, ⟨by rw [HT.out, if_neg hm0, List.map_append]; rfl⟩, ⟨HB7.out⟩⟩
  ·
   have q1 : ¬ (j : Int) < (ls.length : Int) := by omega
   have HY2 := Lib.hid (show ys.map It.c = src0 N 0 ls by rw [HY.out, List.take_of_length_le (by omega)])
   clear HY HJ
   have hyl : ys.length ≤ 1000000 := by
    have h1 := congrArg List.length HY2.out
    rw [List.length_map] at h1
    have := src0_len N 0 ls
    have := HL.out.2
    omega
   have HYL := Lib.hid hyl
   have hyi : (ys.length : Int) ≤ 1000000 := by omega
   clear hyl
   go_wp2_with fail
   have HR3 := Lib.hid HR.out
   have HS3 := Lib.hid HS.out
   have HB3 := Lib.hid HB.out
   clear HR HS HB
   go_loopg [6] ys.length (fun gk v6 wr2 => Aside0 (Below w.heap.size w wr2) ∧ ∃ zs : List It, Aside0 (zs.Perm ys) ∧ Aside0 (Kd.R kIt 59 wr2 w.heap.size (fun _ => True) (.slice A3 ys.length c3) zs) ∧ Aside0 (∀ t ∈ zs, Src (fun k => w.heap.size ≤ k) wr2 t ∧ t.l ≠ []) ∧ ((∃ i : Nat, v6 = .int .i64 i ∧ Aside0 (i < ys.length ∧ i < gk ∧ Hp lt It.z (i + 1) zs)) ∨ (v6 = .int .i64 (-1) ∧ Aside0 (Hp lt It.z 0 zs))))
   case atStart =>
    refine ⟨⟨HB3.out⟩, ys, ⟨List.Perm.refl _⟩, ⟨HR3.out⟩, ⟨HS3.out⟩, ?_⟩
    by_cases h0 : ys.length = 0
    ·
     refine .inr ⟨?_, ⟨Hp.short (by omega)⟩⟩
     exact congrArg _ (by omega)
    ·
     refine .inl ⟨ys.length - 1, ?_, ⟨by omega, by omega, Hp.short (by omega)⟩⟩
     exact congrArg _ (by omega)
   case round =>
    clear HR3 HS3 HB3
    obtain ⟨HB, zs, HZ, HR, HS, ⟨i, rfl, HI⟩ | ⟨rfl, HI⟩⟩ := hrel
    ·
     have q2 : (0 : Int) ≤ (i : Int) := by omega
     have q3 : (i : Int) ≤ 1000000 := by have := HI.out.1; have := HYL.out; omega
     have hzl : zs.length = ys.length := HZ.out.length_eq
     obtain ⟨g, cap, ev, hg1, hg2, -⟩ := Kd.R_form HR.out (by have := HI.out.1; omega)
     rw [hzl] at ev
     injection ev with ev1 ev2 ev3
     subst ev1 ev3
     have HD := Lib.hid (down_calls HLT.out w.heap.size g ys.length c3 (fun _ => True) zs i wr HR.out HS.out (by have := HI.out.1; omega) (by have := HYL.out; omega))
     have HG := Lib.hid hg1
     clear hg1 hg2
     go_wp2_with (go_at_call 46; (with_reducible refine HD.out.mono ?_); rintro e w1 ⟨rfl, ho, hg⟩; have HR1 := Lib.hid ho; have HG1 := Lib.hid hg; clear ho hg)
     go_roundg i
     case measure => have := HI.out; omega
     case rel =>
      refine ⟨⟨pw_below_grown HB.out (some g) (below_size HB.out) HG1.out (fun k hk => by injection hk with hk; have := HG.out; omega)⟩, dn lt It.z zs i, ⟨(dn_perm zs i).trans HZ.out⟩, ⟨HR1.out⟩, ⟨fun t ht => R_srcs HR.out HG1.out HS.out t ((dn_perm zs i).mem_iff.1 ht)⟩, ?_⟩
      have hh : Hp lt It.z i (dn lt It.z zs i) := dn_hp HO.out (Nat.le_refl _) (Hx.of_hp HI.out.2.2)
      cases i with
      | zero => exact .inr ⟨rfl, ⟨hh⟩⟩
      | succ i => exact .inl ⟨i, congrArg _ (by omega), ⟨by have := HI.out.1; omega, by omega, hh⟩⟩
    ·
     go_wp2_with fail
     go_ret
     exact ⟨_, zs, rfl, ⟨HR.out, HS.out, HI.out⟩, by rw [← HY2.out]; exact HZ.out.map _, HB.out⟩
end Go.Proofs.Ytabiekkebdocnaa.Q
