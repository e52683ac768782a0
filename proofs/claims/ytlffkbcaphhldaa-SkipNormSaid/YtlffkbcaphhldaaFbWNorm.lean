/- Lemmas for this claim's walk: no condition of their own. -/
import Derived.Test.YtlffkbcaphhldaaFbQx4
import Derived.Test.YtlffkbcaphhldaaFbQx13
import Derived.Test.YtlffkbcaphhldaaFbQx16
import Derived.Test.YtlffkbcaphhldaaFbQx17
import Derived.Test.YtlffkbcaphhldaaFbWGets
import Derived.Test.YtlffkbcaphhldaaFbJ29
import Derived.Deep.MidRow
import Derived.WalkLawsBesides
import Derived.WalkSpells
import Derived.Lib.Hide
import Derived.Deep.DeepFit
import Derived.Outline
namespace Go.Proofs.Ytlffkbcaphhldaa.Q
open Go.RowKit Go.Proofs.YtlffkbcaphhldaaW.PrintWords Go.Proofs.YtlffkbcaphhldaaW.PrintLast Go.Proofs.YtlffkbcaphhldaaW.PrintMore
attribute [local go_sem] max2_int min2_int max_two min_two max_three min_three max_four min_four
set_option linter.unusedVariables false
set_option linter.unusedSimpArgs false
open Go.Lib Go.Proofs.Ytlffkbcaphhldaa.Sk Go.Proofs.Ytlffkbcaphhldaa.Pl Go.Proofs.Ytlffkbcaphhldaa.Ord Go.Proofs.Ytlffkbcaphhldaa.Nm Go.Proofs.Ytlffkbcaphhldaa.Rh
attribute [local go_sem] Oper.semAt_some
attribute [local go_sem high] eqA31 eqA35
theorem sl_typed {w : World} {base l : Nat} {T : List Tw} {A : Option Addr} {c : Nat} {lv : List Int} (h : SL w base l T A c lv) {k : Nat} (hk : Sk.Own l T A k) : ∃ cells t, w.heap[k]? = some (.cells cells t (0, 0)) ∧ (t = 67 ∨ t = 72 ∨ t = 3) := by
 rcases hk with rfl | ⟨p, hp, rfl⟩ | ⟨a, rfl, rfl⟩
 ·
  exact ⟨_, _, h.box, .inl rfl⟩
 ·
  exact ⟨_, _, h.mem.blk p hp, .inr (.inl rfl)⟩
 ·
  obtain ⟨cells, hc⟩ := Kd.R_typed h.lvr a.block rfl
  exact ⟨cells, 3, hc, .inr (.inr rfl)⟩
theorem IsL.typed {w : World} {base l : Nat} {lv : List Int} {C : List Cl} {H : List Int} {own : Nat → Prop} (h : IsL w base l lv C H own) : ∀ k, own k → ∃ cells t, w.heap[k]? = some (.cells cells t (0, 0)) ∧ (t = 67 ∨ t = 72 ∨ t = 3) := by
 obtain ⟨T, A, c, h1, h2, h3, h4⟩ := h
 exact fun k hk => sl_typed h1 ((h4 k).2 hk)
theorem R_own {w w1 : World} {base bl l : Nat} {lv : List Int} {C : List Cl} {H : List Int} {own : Nat → Prop} (h : IsL w bl l lv C H own) (hc : Ch own w w1) {v : Value} {G : List Cl} (hR : Kd.R k37 37 w base (fun _ => True) v G) : Kd.R k37 37 w1 base (fun _ => True) v G := by
 refine Kd.R_mono (hc.R (Kd.R_bound hR) fun k hk ho => ?_) fun _ _ => trivial
 obtain ⟨-, -, -, q, hq, cells, hc1⟩ := hk
 obtain rfl : q = 37 := by
  rcases List.mem_cons.1 hq with e | e
  ·
   exact e
  ·
   cases e
 obtain ⟨cs, t, h1, h2⟩ := h.typed k ho
 rw [hc1] at h1
 injection h1 with h1
 injection h1 with _ h1
 subst h1
 rcases h2 with h2 | h2 | h2 <;> exact absurd h2 (by decide)
theorem IsL.grown {w w1 : World} {base bl l : Nat} {lv : List Int} {C : List Cl} {H : List Int} {own : Nat → Prop} (h : IsL w bl l lv C H own) {v : Value} {G : List Cl} {ok : Nat → Prop} (hR : Kd.R k37 37 w base ok v G) (hg : w.grownBy w1 v.ownBlock) : IsL w1 bl l lv C H own := by
 refine h.ch (S := fun k => some k = v.ownBlock) ⟨hg.os, hg.tape, hg.output, hg.size, fun k hk hn => hg.block k hk fun e => hn e⟩ fun k hk e => ?_
 obtain ⟨cs, t, h1, h2⟩ := h.typed k hk
 obtain ⟨cells, h3⟩ := Kd.R_typed hR k e.symm
 rw [h1] at h3
 injection h3 with h3
 injection h3 with _ h3
 subst h3
 rcases h2 with h2 | h2 | h2 <;> exact absurd h2 (by decide)
structure NS (w : World) (ba la bb lb : Nat) (lva lvb : List Int) (Ca : List Cl) (Ha : List Int) (Cb : List Cl) (Hb : List Int) (v : Value) (G : List Cl) (W : World) : Prop where
 ab : ∃ owna ownb, IsL W ba la lva Ca Ha owna ∧ IsL W bb lb lvb Cb Hb ownb ∧ ∀ k, owna k → ¬ ownb k
 g : Kd.R k37 37 W w.heap.size (fun _ => True) v G
 bel : Below w.heap.size w W
 lt : w.heap.size ≤ ba ∧ w.heap.size ≤ bb
theorem NS.below {w : World} {ba la bb lb : Nat} {lva lvb : List Int} {Ca : List Cl} {Ha : List Int} {Cb : List Cl} {Hb : List Int} {v : Value} {G : List Cl} {W W1 : World} (h : NS w ba la bb lb lva lvb Ca Ha Cb Hb v G W) (hb : Below W.heap.size W W1) : NS w ba la bb lb lva lvb Ca Ha Cb Hb v G W1 := by
 obtain ⟨⟨oa, ob, h1, h2, h3⟩, h4, h5, h6⟩ := h
 exact ⟨⟨oa, ob, h1.below hb, h2.below hb, h3⟩, Kd.R_below h4 hb, below_step h5 hb, h6⟩
theorem ns_putA {w : World} {ba la bb lb : Nat} {lva lvb : List Int} {Ca : List Cl} {Ha : List Int} {Cb : List Cl} {Hb : List Int} {v : Value} {G : List Cl} {W : World} (h : NS w ba la bb lb lva lvb Ca Ha Cb Hb v G W) (x : Cl) (hC : Ca.length < 1000) (hlv : lva.length ≤ 1000000) :
  Calls Try.prog 11 #[.pointer (some ⟨la, 0, none⟩), .agg (ca x)] W fun e w' => e = .returned (.int .i64 (if goodB x = true then 0 else 2)) ∧ NS w ba la bb lb lva lvb (stp lva (Ca, Ha) x).1 (stp lva (Ca, Ha) x).2 Cb Hb v G w' := by
 by_cases hg : goodB x = true
 ·
  rw [if_pos hg]
  obtain ⟨⟨oa, ob, h1, h2, h3⟩, h4, h5, h6⟩ := h
  refine (isl_put h1 x hg hC hlv).mono ?_
  rintro e w1 ⟨rfl, own', hl, hch, ho⟩
  refine ⟨rfl, ⟨own', ob, by unfold stp; rw [if_pos hg]; exact hl, h2.ch hch fun k hk hk2 => h3 k hk2 hk, fun k hk hk2 => ?_⟩, R_own h1 hch h4, hch.to_below h5 fun k hk => Nat.le_trans h6.1 (h1.ge k hk).1, h6⟩
  rcases ho k hk with h7 | h7
  ·
   exact h3 k h7 hk2
  ·
   have := (h2.ge k hk2).2; omega
 ·
  rw [if_neg hg]
  obtain ⟨⟨oa, ob, h1, h2, h3⟩, h4, h5, h6⟩ := id h
  refine (isl_bad h1 x (by simpa using hg)).mono ?_
  rintro e w1 ⟨rfl, hb⟩
  have : stp lva (Ca, Ha) x = (Ca, Ha) := by unfold stp; rw [if_neg hg]
  rw [this]
  exact ⟨rfl, h.below hb⟩
theorem NS.swap {w : World} {ba la bb lb : Nat} {lva lvb : List Int} {Ca : List Cl} {Ha : List Int} {Cb : List Cl} {Hb : List Int} {v : Value} {G : List Cl} {W : World} (h : NS w ba la bb lb lva lvb Ca Ha Cb Hb v G W) : NS w bb lb ba la lvb lva Cb Hb Ca Ha v G W := by
 obtain ⟨⟨oa, ob, h1, h2, h3⟩, h4, h5, h6⟩ := h
 exact ⟨⟨ob, oa, h2, h1, fun k hk hk2 => h3 k hk2 hk⟩, h4, h5, ⟨h6.2, h6.1⟩⟩
theorem NS.app {w : World} {ba la bb lb : Nat} {lva lvb : List Int} {Ca : List Cl} {Ha : List Int} {Cb : List Cl} {Hb : List Int} {v v1 : Value} {G G1 : List Cl} {W W1 : World} (h : NS w ba la bb lb lva lvb Ca Ha Cb Hb v G W) (hR : Kd.R k37 37 W1 w.heap.size (fun _ => True) v1 G1) (hb : Below w.heap.size w W1) (hg : W.grownBy W1 v.ownBlock) : NS w ba la bb lb lva lvb Ca Ha Cb Hb v1 G1 W1 := by
 obtain ⟨⟨oa, ob, h1, h2, h3⟩, h4, h5, h6⟩ := h
 exact ⟨⟨oa, ob, h1.grown h4 hg, h2.grown h4 hg, h3⟩, hR, hb, h6⟩
theorem rev_get {xs : List Cl} {i : Nat} (hi : i < xs.length) : xs.reverse[i]'(by rw [List.length_reverse]; exact hi) = xs[xs.length - 1 - i] := List.getElem_reverse ..
theorem norm_rev (xs : List Cl) : normC (xs.reverse.filter goodB) = normC (xs.filter goodB) := by
 have h1 : ∀ x ∈ xs.reverse.filter goodB, PG x := fun x hx => (List.mem_filter.1 hx).2
 have h2 : ∀ x ∈ xs.filter goodB, PG x := fun x hx => (List.mem_filter.1 hx).2
 exact norm_dom gdC h1 h2 (Dom.sub gdC fun x hx => by rw [List.mem_filter] at hx ⊢; exact ⟨List.mem_reverse.1 hx.1, hx.2⟩) (Dom.sub gdC fun x hx => by rw [List.mem_filter] at hx ⊢; exact ⟨List.mem_reverse.2 hx.1, hx.2⟩)
theorem gv_mem {C : List Cl} (h : Inc cmpK keyC C) {c : Cl} (hc : c ∈ C) : gv c.f0 C = (c.f1, true) := by
 unfold gv
 rw [show lk cmpK keyC c.f0 C = some c from lk_mem cmpK_cmp h hc]
set_option maxHeartbeats 4000000 in
set_option maxRecDepth 100000 in
theorem walkNorm (A0 : Option Addr) (c0 : Nat) (lv : List Int) (A1 : Option Addr) (c1 : Nat) (xs : List Cl) (b : Bool) (w : World) (hr0 : (Kd.int .i64).C w A0 lv.length lv) (hc0 : lv.length ≤ c0) (hr1 : k37.C w A1 xs.length xs) (hc1 : xs.length ≤ c1) (h : InC xs ∧ b = true) :
  Calls Try.prog 3 #[.slice A0 lv.length c0, .slice A1 xs.length c1] w fun e w' => e = .returned (.bool b) ∧ Below w.heap.size w w' := by
 obtain ⟨h0, rfl⟩ := h
 obtain ⟨r, hr, hwe⟩ := weigh_calls h0
 have HWE := Lib.hid (hwe A1 c1 w hr1 hc1)
 have HLV := Lib.hid lives_calls
 have HR := Lib.hid hr
 have HR0 := Lib.hid (fun (W : World) (hW : Below w.heap.size w W) => Kd.C_below hr0 hW)
 have HR1 := Lib.hid (fun (W : World) (hW : Below w.heap.size w W) => Kd.C_below hr1 hW)
 have hml := hr0.2.1
 have HC0 := Lib.hid hc0
 have HC1 := Lib.hid hc1
 clear hr0 hr1 hwe hr hc0 hc1 h0
 go_enter Try.func3, Try.ntmps3
 go_upto_region 1 with fail
 by_cases hbig : 200 < r ∨ 1000 < lv.length
 ·
  have hq : (200 : Int) < (r : Int) ∨ ¬ (200 : Int) < (r : Int) ∧ (1000 : Int) < (lv.length : Int) := by omega
  rcases hq with hq | ⟨hq, hq2⟩
  all_goals
   clear hbig
   go_wp2_with (first | (go_at_call 8; (with_reducible refine HWE.out.mono ?_); rintro e w1 ⟨rfl, hb⟩; have HB1 := Lib.hid hb; clear hb) | (go_at_call 9; (with_reducible refine (HLV.out _).mono ?_); rintro e w2 ⟨rfl, hb⟩; have HB2 := Lib.hid (below_step HB1.out hb); clear hb))
   go_ret
   exact ⟨rfl, HB2.out⟩
 ·
  have hq : ¬ (200 : Int) < (r : Int) := by omega
  have hq2 : ¬ (1000 : Int) < (lv.length : Int) := by omega
  have hx200 : xs.length ≤ 200 := HR.out (by omega)
  have hlv : lv.length ≤ 1000 := by omega
  clear hbig HR
  go_upto_region 7 with (first | (go_at_call 8; (with_reducible refine HWE.out.mono ?_); rintro e w1 ⟨rfl, hb⟩; have HB1 := Lib.hid hb; clear hb) | (go_at_call 10; (with_reducible refine (isl_new A0 c0 lv _ (HR0.out _ HB1.out) HC0.out (by omega)).mono ?_); rintro e w2 ⟨la, owna, rfl, hl, hb⟩; have HLA := Lib.hid hl; have HB2 := Lib.hid (below_step HB1.out hb); clear hl hb) | (go_at_call 10; (with_reducible refine (show Calls Try.prog 10 #[.slice none 0 0] w2 _ from isl_new none 0 [] w2 (Kd.C_nil _ _) (Nat.le_refl _) (by decide)).mono ?_); rintro e w3 ⟨lb, ownb, rfl, hl, hb⟩; have HLB := Lib.hid hl; have HB3 := Lib.hid (below_step HB2.out hb); have HLA3 := Lib.hid (HLA.out.below hb); clear hl hb))
  have hlt : w.heap.size ≤ w1.heap.size ∧ w.heap.size ≤ w2.heap.size := ⟨HB1.out.size, HB2.out.size⟩
  have HNS := Lib.hid (show NS w w1.heap.size la w2.heap.size lb lv [] [] [] [] [] (.slice none 0 0) [] w3 from
   ⟨⟨owna, ownb, HLA3.out, HLB.out, fun k h1 h2 => by have h3 := (HLA.out.ge k h1).2; have h4 := (HLB.out.ge k h2).1; omega⟩, Kd.R_nil _ _ _ _ _, HB3.out, hlt⟩)
  have hxz : (xs.length : Int) ≤ 200 := by omega
  go_wp2_with fail
  go_loopg [7, 8, 34] xs.length (fun gj v7 v8 v34 wr => ∃ i : Nat, v34 = .int .i64 i ∧ Aside0 (i ≤ xs.length ∧ xs.length - i ≤ gj) ∧ Aside0 (NS w w1.heap.size la w2.heap.size lb lv [] (Ps lv (xs.take i)).1 (Ps lv (xs.take i)).2 (Ps [] (xs.reverse.take i)).1 (Ps [] (xs.reverse.take i)).2 v7 ((xs.take i).filter goodB) wr))
  case atStart => exact ⟨0, rfl, ⟨Nat.zero_le _, by omega⟩, ⟨HNS.out⟩⟩
  case round =>
   clear HNS HLA HLA3 HLB HB1 HB2 HB3 hlt
   obtain ⟨i, rfl, HI, HN⟩ := hrel
   by_cases hil : i < xs.length
   ·
    have q1 : (i : Int) < (xs.length : Int) := by omega
    have q0 : (0 : Int) ≤ (i : Int) := by omega
    have q2 : (0 : Int) ≤ (xs.length : Int) - 1 - (i : Int) := by omega
    have q3 : (xs.length : Int) - 1 - (i : Int) < (xs.length : Int) := by omega
    have q4 : ((xs.length : Int) - 1 - (i : Int)).toNat = xs.length - 1 - i := by omega
    have HPS := Lib.hid (Ps_snoc lv hil)
    have HPR := Lib.hid (Ps_snoc [] (l := xs.reverse) (i := i) (by rw [List.length_reverse]; exact hil))
    have HFI := Lib.hid (show (xs.take (i + 1)).filter goodB = if goodB xs[i] = true then (xs.take i).filter goodB ++ [xs[i]] else (xs.take i).filter goodB by
     rw [List.take_succ_eq_append_getElem hil, List.filter_append]
     by_cases h : goodB xs[i] = true
     ·
      rw [if_pos h, List.filter_cons, if_pos h]; rfl
     ·
      rw [if_neg h, List.filter_cons, if_neg h]; simp)
    rw [rev_get hil] at HPR
    have HD0 := Lib.hid (fun (W : World) (hW : Below w.heap.size w W) => cl_cells (HR1.out W hW) i hil)
    have HD1 := Lib.hid (fun (W : World) (hW : Below w.heap.size w W) => cl_cells (HR1.out W hW) (xs.length - 1 - i) (by omega))
    obtain ⟨x, hx⟩ : ∃ x, xs[i] = x := ⟨_, rfl⟩
    obtain ⟨y, hy⟩ : ∃ y, xs[xs.length - 1 - i] = y := ⟨_, rfl⟩
    rw [show xs.getD i z37 = x by rw [fin_ofD hil, hx]] at HD0
    rw [show xs.getD (xs.length - 1 - i) z37 = y by rw [fin_ofD (by omega), hy]] at HD1
    rw [hx] at HPS HFI
    rw [hy] at HPR
    have hC1 : (Ps lv (xs.take i)).1.length < 1000 := by have h1 := Ps_len lv (xs.take i); rw [List.length_take] at h1; omega
    have hC2 : (Ps [] (xs.reverse.take i)).1.length < 1000 := by have h1 := Ps_len [] (xs.reverse.take i); rw [List.length_take, List.length_reverse] at h1; omega
    have hG1 : ((xs.take i).filter goodB).length ≤ 200 := by have h1 := List.length_filter_le goodB (xs.take i); rw [List.length_take] at h1; omega
    obtain ⟨P, hP⟩ : ∃ P, Ps lv (xs.take i) = P := ⟨_, rfl⟩
    obtain ⟨R, hR⟩ : ∃ R, Ps [] (xs.reverse.take i) = R := ⟨_, rfl⟩
    obtain ⟨G, hG⟩ : ∃ G, (xs.take i).filter goodB = G := ⟨_, rfl⟩
    rw [hP] at hC1 HPS HN
    rw [hR] at hC2 HPR HN
    rw [hG] at hG1 HFI HN
    have HC := Lib.hid (And.intro hC1 hC2)
    have HGL := Lib.hid hG1
    obtain ⟨A7, c7, rfl⟩ := Kd.R_slice HN.out.g
    obtain ⟨ad, rfl, d0, d1, d2, d3, d4, d5, d6, d7, d8, d9⟩ := HD0.out wr HN.out.bel
    have HPT := Lib.hid (ns_putA HN.out x hC1 (by omega))
    clear hx hy hC1 hC2 hG1 hP hR hG
    go_upto_region 10 with fail
    obtain ⟨wo, hwo⟩ : ∃ wo, wr = wo := ⟨_, rfl⟩
    rw [hwo] at HN HPT d0 d1 d2 d3 d4 d5 d6 d7 d8 d9 ⊢
    clear hwo
    by_cases hg : goodB x = true
    ·
     rw [if_pos hg] at HPT HFI
     clear hg
     go_upto_region 12 with (first | (go_at_call 11; (with_reducible refine HPT.out.mono ?_); rintro e w5 ⟨rfl, hN⟩; have HN5 := Lib.hid hN; obtain ⟨ad2, e2, g0, g1, g2, g3, g4, g5, g6, g7, g8, g9⟩ := HD0.out w5 hN.bel; obtain rfl : ad = ad2 := Option.some.inj e2; clear e2 hN) | ((with_reducible refine gate_builtin (b := .append) (xs := #[.tmp 44, .tmp 49]) rfl ?_); at_builtin; refine Kd.R_append k37 (w0 := w) w.heap.size rfl (.tmp 44) (.tmp 49) 23 37 (.agg #[(.string ⟨#[]⟩), (.string ⟨#[]⟩), (.int .i64 0), (.string ⟨#[]⟩), (.int .i64 0), (.bool false), (.int .i64 0), (.int .i64 0), (.int .i64 0), (.string ⟨#[]⟩)]) 112 rfl Try.underlying23 info37 rfl (by decide) (by omega) (.slice A7 G.length c7) G x [.string x.f0.f0, .string x.f0.f1, .int .i64 x.f0.f2, .string x.f0.f3, .int .i64 x.f1.f0, .bool x.f1.f1, .int .i64 x.f1.f2, .int .i64 x.f1.f3.f0, .int .i64 x.f1.f3.f1, .string x.f1.f3.f2] (fun _ => True) (fun _ => False) rfl (by first | (go_simp; done) | (go_simp; rfl)) ?aP (fun _ hk => hk.elim) (fun _ _ => trivial) ?aO ?aB ?aS ?aL ?_; (case aP => exact k37_mkM _ _ _ x); (case aO => exact HN5.out.g); (case aB => exact HN5.out.bel); (case aS => exact HN5.out.bel.size); (case aL => have := HGL.out; omega); intro v32 w6 ho3 hb3 hg3 hat3; have HN6 := Lib.hid (HN5.out.app ho3 hb3 hg3); clear ho3 hb3 hg3 hat3))
     clear d0 d1 d2 d3 d4 d5 d6 d7 d8 d9 g0 g1 g2 g3 g4 g5 g6 g7 g8 g9
     have HPB := Lib.hid (ns_putA HN6.out.swap y HC.out.2 (by decide))
     obtain ⟨nn, hnn⟩ : ∃ nn, (if goodB y = true then (0 : Int) else 2) = nn := ⟨_, rfl⟩
     rw [hnn] at HPB
     clear hnn
     obtain ⟨ad3, e3, h0, h1, h2, h3, h4, h5, h6, h7, h8, h9⟩ := HD1.out w6 HN6.out.bel
     obtain rfl : ad = ad3 := Option.some.inj e3
     clear e3
     go_wp2_with (go_at_call 11; (with_reducible refine HPB.out.mono ?_); rintro e w7 ⟨rfl, hN⟩; have HN7 := Lib.hid hN.swap; clear hN)
     go_roundg (xs.length - (i + 1))
     case measure => have := HI.out; omega
     case rel => exact ⟨i + 1, by go_num, ⟨by omega, Nat.le_refl _⟩, ⟨by rw [HPS.out, HPR.out, HFI.out]; exact HN7.out⟩⟩
    ·
     rw [if_neg hg] at HPT HFI
     clear hg
     go_upto_region 12 with (go_at_call 11; (with_reducible refine HPT.out.mono ?_); rintro e w6 ⟨rfl, hN⟩; have HN6 := Lib.hid hN; clear hN)
     clear d0 d1 d2 d3 d4 d5 d6 d7 d8 d9
     have HPB := Lib.hid (ns_putA HN6.out.swap y HC.out.2 (by decide))
     obtain ⟨nn, hnn⟩ : ∃ nn, (if goodB y = true then (0 : Int) else 2) = nn := ⟨_, rfl⟩
     rw [hnn] at HPB
     clear hnn
     obtain ⟨ad3, e3, h0, h1, h2, h3, h4, h5, h6, h7, h8, h9⟩ := HD1.out w6 HN6.out.bel
     obtain rfl : ad = ad3 := Option.some.inj e3
     clear e3
     go_wp2_with (go_at_call 11; (with_reducible refine HPB.out.mono ?_); rintro e w7 ⟨rfl, hN⟩; have HN7 := Lib.hid hN.swap; clear hN)
     go_roundg (xs.length - (i + 1))
     case measure => have := HI.out; omega
     case rel => exact ⟨i + 1, by go_num, ⟨by omega, Nat.le_refl _⟩, ⟨by rw [HPS.out, HPR.out, HFI.out]; exact HN7.out⟩⟩
   ·
    obtain rfl : i = xs.length := by have := HI.out; omega
    have q1 : ¬ ((xs.length : Nat) : Int) < (xs.length : Int) := by omega
    rw [List.take_of_length_le (Nat.le_refl _), List.take_of_length_le (by rw [List.length_reverse]; exact Nat.le_refl _)] at HN
    have hCa := Ps_cells lv xs
    have hCb := Ps_cells [] xs.reverse
    rw [norm_rev] at hCb
    have hG1 : (xs.filter goodB).length ≤ 200 := Nat.le_trans (List.length_filter_le _ _) hx200
    have hM1 : (normC (xs.filter goodB)).length ≤ 200 := Nat.le_trans (norm_len _) hG1
    have hMI : Inc cmpK keyC (normC (xs.filter goodB)) := norm_inc cmpK_cmp joinC_key _
    have hnf := rnorm_f (xs.filter goodB) (by omega) (2 * (xs.filter goodB).length + 1) (by omega)
    have hlk := fun k hk => like_self (normC (xs.filter goodB)) (by omega) k hk
    rw [hCa, hCb] at HN
    obtain ⟨M, hM⟩ : ∃ M, normC (xs.filter goodB) = M := ⟨_, rfl⟩
    obtain ⟨G, hG⟩ : ∃ G, xs.filter goodB = G := ⟨_, rfl⟩
    rw [hM] at HN hM1 hMI hnf hlk
    rw [hG] at HN hG1 hnf
    clear hM hG hCa hCb
    obtain ⟨A7, c7, rfl, hc7, hC7⟩ := Kd.R_reads HN.out.g
    have HNR := Lib.hid (skerryref05_Norm.calls _ A7 c7 G M wr hC7 hc7 hnf)
    have HINC := Lib.hid hMI
    have HLK := Lib.hid hlk
    have HM1 := Lib.hid hM1
    clear hC7 hc7 hnf hlk hMI
    go_upto_region 15 with (go_at_call 12; (with_reducible refine HNR.out.mono ?_); rintro e w6 ⟨v6, rfl, ho, hb⟩; have HN6 := Lib.hid (HN.out.below hb); have HO6 := Lib.hid ho; clear ho hb)
    obtain ⟨A6, c6, rfl⟩ := Kd.R_slice HO6.out
    have HC6 := Lib.hid (Kd.R_reads' HO6.out).2
    have hmz : (M.length : Int) ≤ 200 := by omega
    go_wp2_with fail
    go_loopg [11, 12, 13, 66] M.length (fun gj v11 v12 v13 v66 wz => ∃ j : Nat, v66 = .int .i64 j ∧ Aside0 (j ≤ M.length ∧ M.length - j ≤ gj) ∧ Aside0 (Below w6.heap.size w6 wz))
    case atStart => exact ⟨0, rfl, ⟨Nat.zero_le _, by omega⟩, ⟨Below.refl _ _⟩⟩
    case round =>
     obtain ⟨j, rfl, HJ, HW⟩ := hrel
     by_cases hjl : j < M.length
     ·
      have p1 : (j : Int) < (M.length : Int) := by omega
      have p0 : (0 : Int) ≤ (j : Int) := by omega
      obtain ⟨ad, rfl, d⟩ := cl_cells (Kd.C_below HC6.out.2 HW.out) j hjl
      have HGM := Lib.hid (gv_mem HINC.out (List.getElem_mem hjl))
      obtain ⟨c, hc⟩ : ∃ c, M[j] = c := ⟨_, rfl⟩
      rw [show M.getD j z37 = c by rw [fin_ofD hjl, hc]] at d
      rw [hc] at HGM
      obtain ⟨d0, d1, d2, d3, d4, d5, d6, d7, d8, d9⟩ := d
      have HJL := Lib.hid hjl
      clear hc hjl
      go_upto_region 18 with fail
      obtain ⟨w7, hw7⟩ : ∃ w7, wr.alloc (.cells (ca c) 37) = w7 := ⟨_, rfl⟩
      have HX := Lib.hid (show w7.heap[wr.heap.size]? = some (.cells (ca c) 37 (0, 0)) from hw7 ▸ heap_new_ wr _)
      have HB7 := Lib.hid (show Below w6.heap.size w6 w7 from below_step HW.out (hw7 ▸ below_alloc (Below.refl _ _) _))
      have HGE := Lib.hid (show Calls Try.prog 13 #[.pointer (some ⟨la, 0, none⟩), .agg #[.string c.f0.f0, .string c.f0.f1, .int .i64 c.f0.f2, .string c.f0.f3]] w7 fun e w' => e = .returned (.tuple #[.agg (va c.f1), .bool true]) ∧ Below w7.heap.size w7 w' from by
       obtain ⟨oa, ob, h1, -, -⟩ := (HN6.out.below HB7.out).ab
       have h2 := isl_get h1 c.f0
       rw [HGM.out] at h2
       exact h2)
      rw [hw7]
      obtain ⟨gx, hgx⟩ : ∃ gx, wr.heap.size = gx := ⟨_, rfl⟩
      rw [hgx] at HX ⊢
      clear hw7 hgx d0 d1 d2 d3 d4 d5 d6 d7 d8 d9
      have k0 := (blk_cell HX.out 0).trans (show _ = some (Value.string c.f0.f0) from rfl)
      have k1 := (blk_cell HX.out 1).trans (show _ = some (Value.string c.f0.f1) from rfl)
      have k2 := (blk_cell HX.out 2).trans (show _ = some (Value.int .i64 c.f0.f2) from rfl)
      have k3 := (blk_cell HX.out 3).trans (show _ = some (Value.string c.f0.f3) from rfl)
      go_upto_region 19 with (go_at_call 13; (with_reducible refine HGE.out.mono ?_); rintro e w8 ⟨rfl, hb⟩; have HB8 := Lib.hid (below_step HB7.out hb); have hx8 := blk_below HX.out hb; have HX8 := Lib.hid hx8; clear hb hx8)
      obtain ⟨w9, hw9⟩ : ∃ w9, w8.alloc (.cells (va c.f1) 35) = w9 := ⟨_, rfl⟩
      have HV9 := Lib.hid (show w9.heap[w8.heap.size]? = some (.cells (va c.f1) 35 (0, 0)) from hw9 ▸ heap_new_ w8 _)
      have HX9 := Lib.hid (show w9.heap[gx]? = some (.cells (ca c) 37 (0, 0)) from hw9 ▸ blk_alloc HX8.out _)
      have HB9 := Lib.hid (show Below w6.heap.size w6 w9 from hw9 ▸ below_alloc HB8.out _)
      rw [hw9]
      clear hw9 k0 k1 k2 k3
      have a0 := (blk_cell HX9.out 4).trans (show _ = some (Value.int .i64 c.f1.f0) from rfl)
      have b0 := (blk_cell HV9.out 0).trans (show _ = some (Value.int .i64 c.f1.f0) from rfl)
      have a1 := (blk_cell HX9.out 5).trans (show _ = some (Value.bool c.f1.f1) from rfl)
      have b1 := (blk_cell HV9.out 1).trans (show _ = some (Value.bool c.f1.f1) from rfl)
      have a2 := (blk_cell HX9.out 6).trans (show _ = some (Value.int .i64 c.f1.f2) from rfl)
      have b2 := (blk_cell HV9.out 2).trans (show _ = some (Value.int .i64 c.f1.f2) from rfl)
      have a3 := (blk_cell HX9.out 7).trans (show _ = some (Value.int .i64 c.f1.f3.f0) from rfl)
      have b3 := (blk_cell HV9.out 3).trans (show _ = some (Value.int .i64 c.f1.f3.f0) from rfl)
      have a4 := (blk_cell HX9.out 8).trans (show _ = some (Value.int .i64 c.f1.f3.f1) from rfl)
      have b4 := (blk_cell HV9.out 4).trans (show _ = some (Value.int .i64 c.f1.f3.f1) from rfl)
      have a5 := (blk_cell HX9.out 9).trans (show _ = some (Value.string c.f1.f3.f2) from rfl)
      have b5 := (blk_cell HV9.out 5).trans (show _ = some (Value.string c.f1.f3.f2) from rfl)
      go_wp2_with fail
      go_roundg (M.length - (j + 1))
      case measure => have := HJ.out; have := HJL.out; omega
      case rel => exact ⟨j + 1, by go_num, ⟨HJL.out, Nat.le_refl _⟩, ⟨HB9.out⟩⟩
     ·
      obtain rfl : j = M.length := by have := HJ.out; omega
      have p1 : ¬ ((M.length : Nat) : Int) < (M.length : Int) := by omega
      have HNZ := Lib.hid (HN6.out.below HW.out)
      have HCZ := Lib.hid (And.intro HC6.out.1 (Kd.C_below HC6.out.2 HW.out))
      clear hjl HW
      have HAA := Lib.hid (fun (W : World) (hW : Below wr.heap.size wr W) => show Calls Try.prog 15 #[.pointer (some ⟨la, 0, none⟩)] W fun e w' => ∃ (A : Option Addr) (c : Nat), e = .returned (.slice A M.length c) ∧ (M.length ≤ c ∧ k37.C w' A M.length M) ∧ Below W.heap.size W w' from by
       obtain ⟨oa, ob, h1, -, -⟩ := (HNZ.out.below hW).ab
       refine (isl_all h1 (by have := HM1.out; omega)).mono ?_
       rintro e w1 ⟨v, rfl, hr, hb⟩
       obtain ⟨A, c, rfl, hc, hC⟩ := Kd.R_reads hr
       exact ⟨A, c, rfl, ⟨hc, hC⟩, hb⟩)
      have HAB := Lib.hid (fun (W : World) (hW : Below wr.heap.size wr W) => show Calls Try.prog 15 #[.pointer (some ⟨lb, 0, none⟩)] W fun e w' => ∃ (A : Option Addr) (c : Nat), e = .returned (.slice A M.length c) ∧ (M.length ≤ c ∧ k37.C w' A M.length M) ∧ Below W.heap.size W w' from by
       obtain ⟨oa, ob, -, h1, -⟩ := (HNZ.out.below hW).ab
       refine (isl_all h1 (by have := HM1.out; omega)).mono ?_
       rintro e w1 ⟨v, rfl, hr, hb⟩
       obtain ⟨A, c, rfl, hc, hC⟩ := Kd.R_reads hr
       exact ⟨A, c, rfl, ⟨hc, hC⟩, hb⟩)
      have HLE := Lib.hid (fun (W : World) (hW : Below wr.heap.size wr W) => show Calls Try.prog 16 #[.pointer (some ⟨la, 0, none⟩)] W fun e w' => e = .returned (.int .i64 (M.length : Int)) ∧ W = w' from by
       obtain ⟨oa, ob, h1, -, -⟩ := (HNZ.out.below hW).ab
       exact isl_len h1)
      have HLI := Lib.hid (fun (W : World) (hW : Below wr.heap.size wr W) (A : Option Addr) (c : Nat) (hC : M.length ≤ c ∧ k37.C W A M.length M) => skerryref01_Like.calls (M.length + 1) A c M A6 c6 M true W hC.2 hC.1 (Kd.C_below HCZ.out.2 hW) HCZ.out.1 (HLK.out _ (Nat.lt_succ_self _)))
      have HB0 := Lib.hid (Below.refl wr.heap.size wr)
      have e1 : ((M.length : Int) == (M.length : Int)) = true := by simp
      go_wp2_with (first | (go_at_call 15; (with_reducible refine (HAA.out _ HB0.out).mono ?_); rintro e wa ⟨Aa, ka_, rfl, hC, hb⟩; have HCa := Lib.hid hC; have HBa := Lib.hid (below_step HB0.out hb); clear hC hb) | (go_at_call 14; (with_reducible refine (HLI.out _ HBa.out Aa ka_ HCa.out).mono ?_); rintro e wb ⟨rfl, hb⟩; have HBb := Lib.hid (below_step HBa.out hb.below); clear hb) | (go_at_call 15; (with_reducible refine (HAB.out _ HBb.out).mono ?_); rintro e wc ⟨Ab, kb_, rfl, hC, hb⟩; have HCb := Lib.hid hC; have HBc := Lib.hid (below_step HBb.out hb); clear hC hb) | (go_at_call 14; (with_reducible refine (HLI.out _ HBc.out Ab kb_ HCb.out).mono ?_); rintro e wd ⟨rfl, hb⟩; have HBd := Lib.hid (below_step HBc.out hb.below); clear hb) | (go_at_call 16; (with_reducible refine (HLE.out _ HBd.out).mono ?_); rintro e we ⟨rfl, rfl⟩) | (go_at_call 9; (with_reducible refine (HLV.out _).mono ?_); rintro e wf ⟨rfl, hb⟩; have HBf := Lib.hid (below_step HBd.out hb); clear hb))
      go_ret
      exact ⟨rfl, below_step HNZ.out.bel HBf.out⟩
end Go.Proofs.Ytlffkbcaphhldaa.Q
