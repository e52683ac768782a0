/- Lemmas for this claim's walk: no condition of their own. -/
import Derived.Test.YtabiekkebdocnaaZdQx23
import Derived.Test.YtabiekkebdocnaaZdJ16
import Derived.Test.YtabiekkebdocnaaZdQx0
import Derived.Test.YtabiekkebdocnaaZdJ29
import Derived.Test.YtabiekkebdocnaaZdJ0
import Derived.Test.YtabiekkebdocnaaZdDown
import Derived.Test.YtabiekkebdocnaaZdSorted
import Derived.Test.YtabiekkebdocnaaZdTake
import Derived.Test.YtabiekkebdocnaaZdEach
import Derived.Test.YtabiekkebdocnaaZdGrp
import Derived.Test.YtabiekkebdocnaaZdRh
import Derived.Test.YtabiekkebdocnaaZdSeqE
import Derived.Test.YtabiekkebdocnaaZdJ13
import Derived.Test.YtabiekkebdocnaaZdAll
import Derived.Test.YtabiekkebdocnaaZdJ39
import Derived.Test.YtabiekkebdocnaaZdSub
import Derived.Test.YtabiekkebdocnaaZdJ41
import Derived.Test.YtabiekkebdocnaaZdQx33
import Derived.Test.YtabiekkebdocnaaZdJ32
import Derived.Deep.MidRow
import Derived.WalkLawsBesides
import Derived.WalkSpells
import Derived.Lib.Hide
import Derived.Deep.DeepFit
import Derived.Outline
namespace Go.Proofs.Ytabiekkebdocnaa.Q
open Go.RowKit Go.Proofs.YtabiekkebdocnaaW.PrintWords Go.Proofs.YtabiekkebdocnaaW.PrintLast Go.Proofs.YtabiekkebdocnaaW.PrintMore
attribute [local go_sem] max2_int min2_int max_two min_two max_three min_three max_four min_four
set_option linter.unusedVariables false
set_option linter.unusedSimpArgs false
open Go.Lib Go.Proofs.Ytabiekkebdocnaa.Hp Go.Proofs.Ytabiekkebdocnaa.Pl Go.Proofs.Ytabiekkebdocnaa.Rh Go.Proofs.Ytabiekkebdocnaa.Ord Go.Proofs.Ytabiekkebdocnaa.Nm Go.Proofs.Ytabiekkebdocnaa.Opn
abbrev Sv := Option Addr × Nat × Nat
def encS (s : Sv) : Value := .slice s.1 s.2.1 s.2.2
def kSv : Kd Sv := Kd.scalar encS (fun _ => rfl)
structure Hs (w : World) (ss : List Sv) (gs : List (List Cl)) : Prop where
 len : ss.length = gs.length
 each : ∀ (j : Nat) (s : Sv) (g : List Cl), ss[j]? = some s → gs[j]? = some g → s.2.1 = g.length ∧ g.length ≤ s.2.2 ∧ Kd.C k39 w s.1 g.length g
theorem Hs.below {w w1 : World} {ss : List Sv} {gs : List (List Cl)} (h : Hs w ss gs) (hb : Below w.heap.size w w1) : Hs w1 ss gs := ⟨h.len, fun j s g h1 h2 => by obtain ⟨a, b, c⟩ := h.each j s g h1 h2; exact ⟨a, b, Kd.C_below c hb⟩⟩
theorem Hs.put {w : World} {ss : List Sv} {gs : List (List Cl)} (h : Hs w ss gs) {A : Option Addr} {c : Nat} {g : List Cl} (hc : g.length ≤ c) (hC : Kd.C k39 w A g.length g) : Hs w ([(A, g.length, c)] ++ ss) (g :: gs) := ⟨by simp [h.len], fun j s g' h1 h2 => by
 cases j with
 | zero =>
  obtain rfl : (A, g.length, c) = s := by simpa using h1
  obtain rfl : g = g' := by simpa using h2
  exact ⟨rfl, hc, hC⟩
 | succ j => exact h.each j s g' (by simpa using h1) (by simpa using h2)⟩
theorem C_of_S {w : World} {A : Option Addr} {ss : List Sv} {gs : List (List Cl)} (h : Kd.C kSv w A ss.length ss) (hs : Hs w ss gs) : Kd.C (Kd.slice 39 k39) w A gs.length gs := by
 obtain ⟨h1, h2, h3⟩ := h
 refine ⟨rfl, by rw [← hs.len]; exact h2, fun hp => ?_⟩
 obtain ⟨ad, e, hc⟩ := h3 (by rw [hs.len]; exact hp)
 refine ⟨ad, e, fun j p hj => ?_⟩
 have hjl : j < ss.length := by rw [hs.len]; exact (List.getElem?_eq_some_iff.1 hj).1
 obtain ⟨c, hc1, hc2, hc3⟩ := hc j ss[j] (List.getElem?_eq_getElem hjl)
 obtain ⟨q1, q2, q3⟩ := hs.each j _ p (List.getElem?_eq_getElem hjl) hj
 refine ⟨c, hc1, ⟨ss[j].1, ss[j].2.2, ?_, q2, q3⟩, hc3⟩
 rw [← q1]
 exact hc2
theorem R_one {W : World} {s : Sv} (w : World) (hw : w.heap.size = W.heap.size) : Kd.R kSv 25 (W.alloc (.cells #[encS s] 25)) w.heap.size (fun _ => True) (.slice (some ⟨W.heap.size, 0, none⟩) 1 1) [s] := by
 have h2 := World.ownsRow_lit (base := w.heap.size) (e := 25) (size := 1) W #[encS s] 1 (by omega) (by decide) rfl
 exact Kd.R_of_own (by simpa [encs] using h2) (fun _ _ => trivial)
def good1 (l : List Cl) : List Cl := l.filter goodB
theorem whole_all (ls : List (List Cl)) : normC (((ls.map good1).reverse).flatMap normC) = normC (ls.flatten.filter goodB) := by
 have gl : ∀ c ∈ ((ls.map good1).reverse).flatMap normC, ∃ l ∈ ls, c ∈ normC (good1 l) := fun c hc => by
  obtain ⟨g, h1, h2⟩ := List.mem_flatMap.1 hc
  obtain ⟨l, h3, rfl⟩ := List.mem_map.1 (List.mem_reverse.1 h1)
  exact ⟨l, h3, h2⟩
 refine norm_dom gdC (fun c hc => ?_) (fgood _) (fun c hc => ?_) (fun c hc => ?_)
 ·
  obtain ⟨l, h1, h2⟩ := gl c hc
  exact norm_good (fgood l) c h2
 ·
  obtain ⟨l, h1, h2⟩ := gl c hc
  have h3 := List.mem_filter.1 (norm_mem gdC (fgood l) h2)
  exact ⟨c, List.mem_filter.2 ⟨List.mem_flatten.2 ⟨l, h1, h3.1⟩, h3.2⟩, cmpK_cmp.refl _, by rw [verC_cmp.refl]; exact Int.le_refl _⟩
 ·
  obtain ⟨h1, h2⟩ := List.mem_filter.1 hc
  obtain ⟨l, h3, h4⟩ := List.mem_flatten.1 h1
  obtain ⟨z, h5, h6, h7⟩ := Dom.norm gdC (fgood l) c (List.mem_filter.2 ⟨h4, h2⟩)
  exact ⟨z, List.mem_flatMap.2 ⟨good1 l, List.mem_reverse.2 (List.mem_map.2 ⟨l, h3, rfl⟩), h5⟩, h6, h7⟩
structure Ins (ls : List (List Cl)) : Prop where
 wc : ∀ l ∈ ls, ∀ c ∈ l, WC c
 tot : ls.length + ls.flatten.length ≤ 1048576
theorem mem_len {l : List Cl} : ∀ {ls : List (List Cl)}, l ∈ ls → l.length ≤ ls.flatten.length
 | m :: ls, h => by
  rw [List.flatten_cons, List.length_append]
  rcases List.mem_cons.1 h with rfl | h
  ·
   omega
  ·
   have := mem_len h; omega
theorem Ins.len {ls : List (List Cl)} (h : Ins ls) : ∀ l ∈ ls, l.length ≤ 1048576 := fun l hl => by have := mem_len hl; have := h.tot; omega
theorem Ins.one {ls : List (List Cl)} (h : Ins ls) : ∀ l ∈ ls, In l := fun l hl => ⟨h.wc l hl, by have := h.len l hl; omega⟩
theorem fews_calls {ls : List (List Cl)} (h : Ins ls) : ∃ r : Bool, (r = true → ls.length ≤ 400) ∧ ∀ (A0 : Option Addr) (c0 : Nat) (w : World), Kd.C (Kd.slice 39 k39) w A0 ls.length ls → ls.length ≤ c0 → Calls Try.prog 9 #[.slice A0 ls.length c0] w fun e w' => e = .returned (.bool r) ∧ Below w.heap.size w w' := by
 obtain ⟨r, hr, h4⟩ := few_f ls (fun l hl c hc => WC.fine (h.wc l hl c hc)) (fun l hl => (h.one l hl).len) (by have := h.tot; omega) 1048577 (fun l hl => by have := h.len l hl; omega) (1048577 + ls.length + 1) (by omega)
 exact ⟨r, h4, fun A0 c0 w hC hc => skerrylaw10_few.calls _ A0 c0 ls r w hC hc hr⟩
theorem norm_sum (ls : List (List Cl)) : (ls.flatMap normC).length ≤ ls.flatten.length := by
 induction ls with
 | nil => exact Nat.le_refl _
 | cons l ls ih =>
  rw [List.flatMap_cons, List.length_append, List.flatten_cons, List.length_append]
  have : (normC l).length ≤ l.length := norm_len (c := cmpK) (key := keyC) (jn := joinC) l
  omega
theorem good_sum (ls : List (List Cl)) : ((ls.map good1).flatten).length ≤ ls.flatten.length := by
 induction ls with
 | nil => exact Nat.le_refl _
 | cons l ls ih =>
  rw [List.map_cons, List.flatten_cons, List.length_append, List.flatten_cons, List.length_append]
  have : (good1 l).length ≤ l.length := List.length_filter_le _ _
  omega
theorem lens_ok {ls : List (List Cl)} (h : Ins ls) (h4 : ls.length ≤ 400) : LsOk normC ((ls.map good1).reverse) := lsok (by simp; omega) (fun l hl => by
  obtain ⟨g, h3, rfl⟩ := List.mem_map.1 (List.mem_reverse.1 hl)
  have h5 : (good1 g).length ≤ g.length := List.length_filter_le _ _
  have := h.len g h3; omega) (by
  have h1 := norm_sum ((ls.map good1).reverse)
  have h2 : ((ls.map good1).reverse).flatten.length = (ls.map good1).flatten.length := by simp only [List.length_flatten, List.map_reverse, List.sum_reverse]
  have h3 := good_sum ls
  have := h.tot
  omega)
theorem take_tot {ls : List (List Cl)} {j : Nat} (hj : j < ls.length) : ((ls.take j).flatten.filter goodB).length + ls[j].length ≤ ls.flatten.length := by
 have h1 := List.length_filter_le goodB (ls.take j).flatten
 have h2 : ls.flatten.length = (ls.take j).flatten.length + ((ls.drop j).flatten).length := by rw [← List.length_append, ← List.flatten_append, List.take_append_drop]
 rw [List.drop_eq_getElem_cons hj, List.flatten_cons, List.length_append] at h2
 omega
theorem take_flat {ls : List (List Cl)} {j : Nat} (hj : j < ls.length) : (ls.take (j + 1)).flatten.filter goodB = (ls.take j).flatten.filter goodB ++ ls[j].filter goodB := by
 rw [List.take_succ_eq_append_getElem hj, List.flatten_append, List.filter_append]; simp
theorem take_rev {ls : List (List Cl)} {j : Nat} (hj : j < ls.length) : ((ls.take (j + 1)).map good1).reverse = ls[j].filter goodB :: ((ls.take j).map good1).reverse := by
 rw [List.take_succ_eq_append_getElem hj, List.map_append, List.reverse_append]; rfl
set_option maxHeartbeats 8000000 in
set_option maxRecDepth 100000 in
theorem walkWhole (A0 : Option Addr) (c0 : Nat) (ls : List (List Cl)) (b : Bool) (w : World) (hr0 : Kd.C (Kd.slice 39 k39) w A0 ls.length ls) (hc0 : ls.length ≤ c0) (h : Ins ls ∧ b = true) :
  Calls Try.prog 7 #[.slice A0 ls.length c0] w fun e w' => e = .returned (.bool b) ∧ Below w.heap.size w w' := by
 obtain ⟨h0, rfl⟩ := h
 obtain ⟨r, hr4, hfew⟩ := fews_calls h0
 have HFEW := Lib.hid (hfew A0 c0 w hr0 hc0)
 have HLV := Lib.hid lives_calls
 have HI := Lib.hid h0
 have HR4 := Lib.hid hr4
 have HR0 := Lib.hid (fun (W : World) (hw : Below w.heap.size w W) => Kd.C_below hr0 hw)
 clear hr0 hfew h0 hr4
 go_enter Try.func7, Try.ntmps7
 go_upto_region 1 with fail
 go_cut [16] (fun v16 wc => v16 = .bool (!r) ∧ Aside0 (Below w.heap.size w wc))
 case first =>
  go_wp2_with (go_at_call 9; (with_reducible refine HFEW.out.mono ?_); rintro e w1 ⟨rfl, hb⟩; have HB1 := Lib.hid hb; clear hb)
  go_meet
  case rel => exact ⟨rfl, ⟨HB1.out⟩⟩
 case rest =>
  obtain ⟨rfl, HB⟩ := hcut
  cases r
  ·
   go_wp2_with (go_at_call 10; (with_reducible refine (HLV.out _).mono ?_); rintro e w1 ⟨rfl, hb⟩; have HB1 := Lib.hid (below_step HB.out hb); clear hb)
   go_ret
   exact ⟨rfl, HB1.out⟩
  ·
   have h400 := HR4.out rfl
   have hn : (ls.length : Int) ≤ 400 := by omega
   clear HR4 HFEW
   obtain ⟨w3, hw3⟩ : ∃ w3, wc = w3 := ⟨_, rfl⟩
   rw [hw3] at HB ⊢
   clear hw3
   have HRA := Lib.hid (fun (W : World) (hw : Below w3.heap.size w3 W) => HR0.out W (below_step HB.out hw))
   go_wp2_with fail
   go_loopg [3, 20] ls.length (fun gj v3 vj wr => ∃ j : Nat, vj = .int .i64 j ∧ j ≤ ls.length ∧ ls.length - j ≤ gj ∧ Hid (Kd.R k39 39 wr w3.heap.size (fun _ => True) v3 ((ls.take j).flatten.filter goodB)) ∧ Hid (Below w3.heap.size w3 wr))
   case atStart => exact ⟨0, rfl, Nat.zero_le _, by omega, Lib.hid (Kd.R_nil _ _ _ _ _), Lib.hid (Below.refl _ _)⟩
   case round =>
    obtain ⟨j, rfl, hj, hgj, HOJ, HBJ⟩ := hrel
    by_cases hjl : j < ls.length
    ·
     have hjz : (j : Int) < (ls.length : Int) := by omega
     have hj0 : (0 : Int) ≤ (j : Int) := by omega
     obtain ⟨ad0, A1, c1, e1, hx0, hc1, hC1⟩ := at_LL (HRA.out w3 (Below.refl _ _)) j hjl
     have hx1 := pw_cell_below HBJ.out hx0
     clear hx0
     have HTT := Lib.hid (take_tot hjl)
     have HTF := Lib.hid (take_flat hjl)
     obtain ⟨m, hm⟩ : ∃ m, ls[j] = m := ⟨_, rfl⟩
     rw [hm] at hx1 hc1 hC1 HTT HTF
     obtain ⟨Pf, hPf⟩ : ∃ Pf, (ls.take j).flatten.filter goodB = Pf := ⟨_, rfl⟩
     rw [hPf] at HOJ HTT HTF
     have HLN := Lib.hid (show Pf.length + m.length ≤ 1048576 by have := HTT.out; have := HI.out.tot; omega)
     have hml : (m.length : Int) ≤ 1048576 := by have := HLN.out; omega
     have HCI := Lib.hid (fun (W : World) (hw : Below w3.heap.size w3 W) => Kd.C_below hC1 hw)
     have HCX := Lib.hid hc1
     subst e1
     clear hm hPf hc1 hC1
     go_wp2_with fail
     go_loopg [3, 26] m.length (fun gk v5 vi wr => ∃ i : Nat, vi = .int .i64 i ∧ i ≤ m.length ∧ m.length - i ≤ gk ∧ Hid (Kd.R k39 39 wr w3.heap.size (fun _ => True) v5 (Pf ++ (m.take i).filter goodB)) ∧ Hid (Below w3.heap.size w3 wr))
     case atStart => exact ⟨0, rfl, Nat.zero_le _, by omega, Lib.hid (by simpa using HOJ.out), HBJ⟩
     case round =>
      obtain ⟨i, rfl, hi, hgk, HO, HB9⟩ := hrel
      by_cases hlt : i < m.length
      ·
       have hltz : (i : Int) < (m.length : Int) := by omega
       have hi0 : (0 : Int) ≤ (i : Int) := by omega
       obtain ⟨x, hx⟩ : ∃ x, m[i] = x := ⟨_, rfl⟩
       have HX := Lib.hid hx
       obtain ⟨ad, hA, d⟩ := cl_cells (HCI.out _ HB9.out) i hlt
       rw [show m.getD i z39 = x by rw [← hx, List.getD_eq_getElem?_getD, List.getElem?_eq_getElem hlt]; rfl] at d
       obtain ⟨d0, d1, d2, d3, d4, d5, d6, d7, d8, d9⟩ := d
       subst hA
       have HF := Lib.hid (filt_snoc goodB m i hlt)
       clear hx
       obtain ⟨gb, hg⟩ : ∃ gb, goodB x = gb := ⟨_, rfl⟩
       have HG2 := Lib.hid hg
       have HG1 := Lib.hid ((good_f x).trans (congrArg some hg))
       clear hg
       go_wp2_with fail
       refine (cell_Good.calls x.f0.f0 x.f0.f1 x.f0.f2 x.f0.f3 x.f1.f0 x.f1.f1 x.f1.f2 x.f1.f3.f0 x.f1.f3.f1 x.f1.f3.f2 gb _ HG1.out).mono ?_
       rintro e w2 ⟨rfl, hb⟩
       have HBX := Lib.hid (show w2.heap[wr.heap.size]? = some (.cells #[.string x.f0.f0, .string x.f0.f1, .int .i64 x.f0.f2, .string x.f0.f3, .int .i64 x.f1.f0, .bool x.f1.f1, .int .i64 x.f1.f2, .int .i64 x.f1.f3.f0, .int .i64 x.f1.f3.f1, .string x.f1.f3.f2] 39 (0, 0)) from blk_below (blk_new wr _) hb)
       have HO2 := Lib.hid (Kd.R_below (Kd.R_alloc HO.out _) hb)
       have HB2 := Lib.hid (below_step (below_alloc HB9.out _) hb)
       have hsz : wr.heap.size < w2.heap.size := blk_lt HBX.out
       clear hb d0 d1 d2 d3 d4 d5 d6 d7 d8 d9
       cases gb
       ·
        go_wp2_with fail
        go_roundg (m.length - (i + 1))
        case measure => omega
        case rel => exact ⟨i + 1, by go_num, by omega, Nat.le_refl _, Lib.hid (by rw [HF.out, HX.out, HG2.out, if_neg (by decide), List.append_nil]; exact HO2.out), HB2⟩
       ·
        have z0 : w2.cell? ⟨wr.heap.size, 0, none⟩ = some (.string x.f0.f0) := (blk_cell HBX.out 0).trans rfl
        have z1 : w2.cell? ⟨wr.heap.size, 1, none⟩ = some (.string x.f0.f1) := (blk_cell HBX.out 1).trans rfl
        have z2 : w2.cell? ⟨wr.heap.size, 2, none⟩ = some (.int .i64 x.f0.f2) := (blk_cell HBX.out 2).trans rfl
        have z3 : w2.cell? ⟨wr.heap.size, 3, none⟩ = some (.string x.f0.f3) := (blk_cell HBX.out 3).trans rfl
        have z4 : w2.cell? ⟨wr.heap.size, 4, none⟩ = some (.int .i64 x.f1.f0) := (blk_cell HBX.out 4).trans rfl
        have z5 : w2.cell? ⟨wr.heap.size, 5, none⟩ = some (.bool x.f1.f1) := (blk_cell HBX.out 5).trans rfl
        have z6 : w2.cell? ⟨wr.heap.size, 6, none⟩ = some (.int .i64 x.f1.f2) := (blk_cell HBX.out 6).trans rfl
        have z7 : w2.cell? ⟨wr.heap.size, 7, none⟩ = some (.int .i64 x.f1.f3.f0) := (blk_cell HBX.out 7).trans rfl
        have z8 : w2.cell? ⟨wr.heap.size, 8, none⟩ = some (.int .i64 x.f1.f3.f1) := (blk_cell HBX.out 8).trans rfl
        have z9 : w2.cell? ⟨wr.heap.size, 9, none⟩ = some (.string x.f1.f3.f2) := (blk_cell HBX.out 9).trans rfl
        have hfl : (Pf ++ (m.take i).filter goodB).length ≤ 1048576 := by
         rw [List.length_append]
         have h1 := List.length_filter_le goodB (m.take i)
         rw [List.length_take] at h1
         have := HLN.out; omega
        go_wp2_with ((with_reducible refine gate_builtin (b := .append) (xs := #[.tmp 32, .tmp 34]) rfl ?_); at_builtin; refine Kd.R_append k39 (w0 := w3) w3.heap.size rfl (.tmp 32) (.tmp 34) 25 39 (.agg #[(.string ⟨#[]⟩), (.string ⟨#[]⟩), (.int .i64 0), (.string ⟨#[]⟩), (.int .i64 0), (.bool false), (.int .i64 0), (.int .i64 0), (.int .i64 0), (.string ⟨#[]⟩)]) 112 rfl Try.underlying25 info39 rfl (by decide) (by omega) u3 (Pf ++ (m.take i).filter goodB) x [.string x.f0.f0, .string x.f0.f1, .int .i64 x.f0.f2, .string x.f0.f3, .int .i64 x.f1.f0, .bool x.f1.f1, .int .i64 x.f1.f2, .int .i64 x.f1.f3.f0, .int .i64 x.f1.f3.f1, .string x.f1.f3.f2] (fun _ => True) (fun _ => False) rfl (by first | (go_simp; done) | (go_simp; rfl)) ?aP (fun _ hk => hk.elim) (fun _ _ => trivial) ?aO ?aB ?aS ?aL ?_; (case aP => exact k39_mkM _ _ _ x); (case aO => exact HO2.out); (case aB => exact HB2.out); (case aS => exact HB2.out.size); (case aL => omega); intro v32 w3 ho3 hb3 hg3 hat3; have HO3 := Lib.hid ho3; have HB3 := Lib.hid hb3; clear ho3 hb3 hg3 hat3)
        go_roundg (m.length - (i + 1))
        case measure => omega
        case rel => exact ⟨i + 1, by go_num, by omega, Nat.le_refl _, Lib.hid (by rw [HF.out, HX.out, HG2.out, if_pos rfl, ← List.append_assoc]; exact HO3.out), HB3⟩
      ·
       have hltz : ¬ (i : Int) < (m.length : Int) := by omega
       obtain rfl : i = m.length := by omega
       have ho := HO.out
       rw [List.take_of_length_le (Nat.le_refl _)] at ho
       have HO2 := Lib.hid ho
       clear ho
       go_wp2_with fail
       go_roundg (ls.length - (j + 1))
       case measure => omega
       case rel => exact ⟨j + 1, by go_num, by omega, Nat.le_refl _, Lib.hid (by rw [HTF.out]; exact HO2.out), HB9⟩
    ·
     have hjz : ¬ (j : Int) < (ls.length : Int) := by omega
     obtain rfl : j = ls.length := by omega
     have ho := HOJ.out
     rw [List.take_of_length_le (Nat.le_refl _)] at ho
     obtain ⟨A3, c3, rfl, hc3, hC3⟩ := Kd.R_reads ho
     have HBW := Lib.hid (below_step HB.out HBJ.out)
     have hnl : (ls.flatten.filter goodB).length ≤ 1048576 := by have := List.length_filter_le goodB ls.flatten; have := HI.out.tot; omega
     have HALL := Lib.hid (fun (W : World) (A : Option Addr) (c : Nat) (hC : Kd.C (Kd.slice 39 k39) W A ((ls.map good1).reverse).length ((ls.map good1).reverse)) (hc : ((ls.map good1).reverse).length ≤ c) => all_calls (lens_ok HI.out h400) A c W hC hc)
     rw [whole_all] at HALL
     have HNO := Lib.hid (norm_f (ls.flatten.filter goodB) (by omega) _ (Nat.lt_succ_self _))
     obtain ⟨L, hL⟩ : ∃ L, ls.flatten.filter goodB = L := ⟨_, rfl⟩
     rw [hL] at hc3 hC3 HALL HNO hnl ⊢
     have hNl : (normC L).length ≤ L.length := norm_len (c := cmpK) (key := keyC) (jn := joinC) L
     have HLK := Lib.hid (show (normC L).length ≤ 1256584717458 by omega)
     have HL3 := Lib.hid (And.intro hc3 hC3)
     have HRB := Lib.hid (fun (W : World) (hw : Below wr.heap.size wr W) => HR0.out W (below_step HBW.out hw))
     clear ho hc3 hC3 HOJ hgj hj HRA hnl hNl hL HBJ
     obtain ⟨w4, hw4⟩ : ∃ w4, wr = w4 := ⟨_, rfl⟩
     rw [hw4] at HL3 HBW HRB ⊢
     clear hw4
     go_wp2_with fail
     go_loopg [8, 40] ls.length (fun gj v8 vj wr => ∃ (j : Nat) (A8 : Option Addr) (c8 : Nat) (ss : List Sv), vj = .int .i64 j ∧ v8 = .slice A8 ss.length c8 ∧ j ≤ ls.length ∧ ls.length - j ≤ gj ∧ Hid (ss.length ≤ c8 ∧ Kd.C kSv wr A8 ss.length ss) ∧ Hid (Hs wr ss ((ls.take j).map good1).reverse) ∧ Hid (Below w4.heap.size w4 wr))
     case atStart => exact ⟨0, none, 0, [], rfl, rfl, Nat.zero_le _, by omega, Lib.hid ⟨Nat.le_refl _, ⟨rfl, by simp, fun h => absurd h (by simp)⟩⟩, Lib.hid ⟨rfl, fun j s g h => by simp at h⟩, Lib.hid (Below.refl _ _)⟩
     case round =>
      obtain ⟨j, A8, c8, ss, rfl, rfl, hj, hgj, HSC, HSS, HBJ⟩ := hrel
      by_cases hjl : j < ls.length
      ·
       have hjz : (j : Int) < (ls.length : Int) := by omega
       have hj0 : (0 : Int) ≤ (j : Int) := by omega
       obtain ⟨ad0, A1, c1, e1, hx1, hc1, hC1⟩ := at_LL (HRB.out _ HBJ.out) j hjl
       have HTF := Lib.hid (take_rev hjl)
       have HLN := Lib.hid (HI.out.len _ (List.getElem_mem hjl))
       have hsl : ss.length = j := by have := HSS.out.len; simp at this; omega
       have HSL := Lib.hid hsl
       clear hsl
       obtain ⟨m, hm⟩ : ∃ m, ls[j] = m := ⟨_, rfl⟩
       rw [hm] at hx1 hc1 hC1 HTF HLN
       have hml : (m.length : Int) ≤ 1048576 := by have := HLN.out; omega
       have HCX := Lib.hid (And.intro hc1 hC1)
       obtain ⟨w6, hw6⟩ : ∃ w6, wr = w6 := ⟨_, rfl⟩
       rw [hw6] at HCX HSC HSS HBJ hx1 ⊢
       subst e1
       clear hm hc1 hC1 hw6
       have HCI := Lib.hid (fun (W : World) (hw : Below w6.heap.size w6 W) => Kd.C_below HCX.out.2 hw)
       go_wp2_with fail
       go_loopg [11, 46] m.length (fun gk v5 vi wr => ∃ i : Nat, vi = .int .i64 i ∧ i ≤ m.length ∧ m.length - i ≤ gk ∧ Hid (Kd.R k39 39 wr w6.heap.size (fun _ => True) v5 ((m.take i).filter goodB)) ∧ Hid (Below w6.heap.size w6 wr))
       case atStart => exact ⟨0, rfl, Nat.zero_le _, by omega, Lib.hid (Kd.R_nil _ _ _ _ _), Lib.hid (Below.refl _ _)⟩
       case round =>
        obtain ⟨i, rfl, hi, hgk, HO, HB9⟩ := hrel
        by_cases hlt : i < m.length
        ·
         have hltz : (i : Int) < (m.length : Int) := by omega
         have hi0 : (0 : Int) ≤ (i : Int) := by omega
         obtain ⟨x, hx⟩ : ∃ x, m[i] = x := ⟨_, rfl⟩
         have HX := Lib.hid hx
         obtain ⟨ad, hA, d⟩ := cl_cells (HCI.out _ HB9.out) i hlt
         rw [show m.getD i z39 = x by rw [← hx, List.getD_eq_getElem?_getD, List.getElem?_eq_getElem hlt]; rfl] at d
         obtain ⟨d0, d1, d2, d3, d4, d5, d6, d7, d8, d9⟩ := d
         subst hA
         have HF := Lib.hid (filt_snoc goodB m i hlt)
         clear hx
         obtain ⟨gb, hg⟩ : ∃ gb, goodB x = gb := ⟨_, rfl⟩
         have HG2 := Lib.hid hg
         have HG1 := Lib.hid ((good_f x).trans (congrArg some hg))
         clear hg
         go_wp2_with fail
         refine (cell_Good.calls x.f0.f0 x.f0.f1 x.f0.f2 x.f0.f3 x.f1.f0 x.f1.f1 x.f1.f2 x.f1.f3.f0 x.f1.f3.f1 x.f1.f3.f2 gb _ HG1.out).mono ?_
         rintro e w2 ⟨rfl, hb⟩
         have HBX := Lib.hid (show w2.heap[wr.heap.size]? = some (.cells #[.string x.f0.f0, .string x.f0.f1, .int .i64 x.f0.f2, .string x.f0.f3, .int .i64 x.f1.f0, .bool x.f1.f1, .int .i64 x.f1.f2, .int .i64 x.f1.f3.f0, .int .i64 x.f1.f3.f1, .string x.f1.f3.f2] 39 (0, 0)) from blk_below (blk_new wr _) hb)
         have HO2 := Lib.hid (Kd.R_below (Kd.R_alloc HO.out _) hb)
         have HB2 := Lib.hid (below_step (below_alloc HB9.out _) hb)
         have hsz : wr.heap.size < w2.heap.size := blk_lt HBX.out
         clear hb d0 d1 d2 d3 d4 d5 d6 d7 d8 d9
         cases gb
         ·
          go_wp2_with fail
          go_roundg (m.length - (i + 1))
          case measure => omega
          case rel => exact ⟨i + 1, by go_num, by omega, Nat.le_refl _, Lib.hid (by rw [HF.out, HX.out, HG2.out, if_neg (by decide), List.append_nil]; exact HO2.out), HB2⟩
         ·
          have z0 : w2.cell? ⟨wr.heap.size, 0, none⟩ = some (.string x.f0.f0) := (blk_cell HBX.out 0).trans rfl
          have z1 : w2.cell? ⟨wr.heap.size, 1, none⟩ = some (.string x.f0.f1) := (blk_cell HBX.out 1).trans rfl
          have z2 : w2.cell? ⟨wr.heap.size, 2, none⟩ = some (.int .i64 x.f0.f2) := (blk_cell HBX.out 2).trans rfl
          have z3 : w2.cell? ⟨wr.heap.size, 3, none⟩ = some (.string x.f0.f3) := (blk_cell HBX.out 3).trans rfl
          have z4 : w2.cell? ⟨wr.heap.size, 4, none⟩ = some (.int .i64 x.f1.f0) := (blk_cell HBX.out 4).trans rfl
          have z5 : w2.cell? ⟨wr.heap.size, 5, none⟩ = some (.bool x.f1.f1) := (blk_cell HBX.out 5).trans rfl
          have z6 : w2.cell? ⟨wr.heap.size, 6, none⟩ = some (.int .i64 x.f1.f2) := (blk_cell HBX.out 6).trans rfl
          have z7 : w2.cell? ⟨wr.heap.size, 7, none⟩ = some (.int .i64 x.f1.f3.f0) := (blk_cell HBX.out 7).trans rfl
          have z8 : w2.cell? ⟨wr.heap.size, 8, none⟩ = some (.int .i64 x.f1.f3.f1) := (blk_cell HBX.out 8).trans rfl
          have z9 : w2.cell? ⟨wr.heap.size, 9, none⟩ = some (.string x.f1.f3.f2) := (blk_cell HBX.out 9).trans rfl
          have hfl : ((m.take i).filter goodB).length ≤ 1048576 := by
           have h1 := List.length_filter_le goodB (m.take i)
           rw [List.length_take] at h1
           have := HLN.out; omega
          go_wp2_with ((with_reducible refine gate_builtin (b := .append) (xs := #[.tmp 52, .tmp 54]) rfl ?_); at_builtin; refine Kd.R_append k39 (w0 := w6) w6.heap.size rfl (.tmp 52) (.tmp 54) 25 39 (.agg #[(.string ⟨#[]⟩), (.string ⟨#[]⟩), (.int .i64 0), (.string ⟨#[]⟩), (.int .i64 0), (.bool false), (.int .i64 0), (.int .i64 0), (.int .i64 0), (.string ⟨#[]⟩)]) 112 rfl Try.underlying25 info39 rfl (by decide) (by omega) u11 ((m.take i).filter goodB) x [.string x.f0.f0, .string x.f0.f1, .int .i64 x.f0.f2, .string x.f0.f3, .int .i64 x.f1.f0, .bool x.f1.f1, .int .i64 x.f1.f2, .int .i64 x.f1.f3.f0, .int .i64 x.f1.f3.f1, .string x.f1.f3.f2] (fun _ => True) (fun _ => False) rfl (by first | (go_simp; done) | (go_simp; rfl)) ?aP (fun _ hk => hk.elim) (fun _ _ => trivial) ?aO ?aB ?aS ?aL ?_; (case aP => exact k39_mkM _ _ _ x); (case aO => exact HO2.out); (case aB => exact HB2.out); (case aS => exact HB2.out.size); (case aL => omega); intro v32 w3 ho3 hb3 hg3 hat3; have HO3 := Lib.hid ho3; have HB3 := Lib.hid hb3; clear ho3 hb3 hg3 hat3)
          go_roundg (m.length - (i + 1))
          case measure => omega
          case rel => exact ⟨i + 1, by go_num, by omega, Nat.le_refl _, Lib.hid (by rw [HF.out, HX.out, HG2.out, if_pos rfl]; exact HO3.out), HB3⟩
        ·
         have hltz : ¬ (i : Int) < (m.length : Int) := by omega
         obtain rfl : i = m.length := by omega
         have ho := HO.out
         rw [List.take_of_length_le (Nat.le_refl _)] at ho
         obtain ⟨A11, c11, rfl, hc11, hC11⟩ := Kd.R_reads ho
         obtain ⟨G, hG⟩ : ∃ G, m.filter goodB = G := ⟨_, rfl⟩
         rw [hG] at hc11 hC11 HTF ⊢
         have HG := Lib.hid (And.intro hc11 hC11)
         have HSC2 := Lib.hid (And.intro HSC.out.1 (Kd.C_below HSC.out.2 HB9.out))
         have HSS2 := Lib.hid (HSS.out.below HB9.out)
         have HBK := Lib.hid (below_step HBJ.out HB9.out)
         have HSL2 := Lib.hid HSL.out
         clear ho hc11 hC11 hG HO HSC HSS HBJ HB9 hgk hi hlt HCI HCX
         have hsl : ss.length ≤ 400 := by have := HSL2.out; omega
         go_wp2_with ((with_reducible refine gate_builtin (b := .append) (xs := #[.tmp 58, .tmp 59]) rfl ?_); at_builtin; refine Kd.R_append_rows kSv (w0 := wr) wr.heap.size rfl (.tmp 58) (.tmp 59) 22 25 (.slice none 0 0) 24 rfl Try.underlying22 (by kernel_rfl) rfl (by decide) (by decide) (.slice (some ⟨wr.heap.size, 0, none⟩) 1 1) [((A11, G.length, c11) : Sv)] ss A8 ss.length c8 (fun _ => True) (fun _ => False) (by first | rfl | (go_simp; rfl)) (by first | rfl | (go_simp; rfl)) (R_one wr rfl) (Kd.C_alloc HSC2.out.2 _) (fun _ _ h => h) (fun _ h => h.elim) (fun _ _ => trivial) (below_alloc (Below.refl _ _) _) (by simp) (by simp only [List.length_singleton]; omega) ?_; intro v60 w7 ho7 hb7 hg7 hat7; obtain ⟨A9, c9, rfl, hc9, hC9⟩ := Kd.R_reads ho7; have HC9 := Lib.hid (And.intro hc9 hC9); have HB7 := Lib.hid hb7; clear ho7 hb7 hg7 hat7 hc9 hC9)
         go_roundg (ls.length - (j + 1))
         case measure => omega
         case rel => exact ⟨j + 1, A9, c9, [((A11, G.length, c11) : Sv)] ++ ss, by go_num, rfl, by omega, Nat.le_refl _, HC9, Lib.hid (by rw [HTF.out]; exact (HSS2.out.put HG.out.1 HG.out.2).below HB7.out), Lib.hid (below_step HBK.out HB7.out)⟩
      ·
       have hjz : ¬ (j : Int) < (ls.length : Int) := by omega
       obtain rfl : j = ls.length := by omega
       have hs := HSS.out
       rw [List.take_of_length_le (Nat.le_refl _)] at hs
       have hgl : ss.length = ((ls.map good1).reverse).length := hs.len
       have HCC := Lib.hid (C_of_S HSC.out.2 hs)
       have hc8 := HSC.out.1
       rw [hgl] at hc8 ⊢
       have HC8 := Lib.hid hc8
       have HBX := Lib.hid (below_step HBW.out HBJ.out)
       clear HSC HSS hs hc8 hgl hgj hj
       obtain ⟨gs, hgs⟩ : ∃ gs, (ls.map good1).reverse = gs := ⟨_, rfl⟩
       rw [hgs] at HCC HC8 HALL ⊢
       clear hgs
       obtain ⟨NL, hNL⟩ : ∃ NL, normC L = NL := ⟨_, rfl⟩
       rw [hNL] at HALL HNO HLK
       clear hNL
       go_wp2_with (first | (go_at_call 15; (with_reducible refine (HALL.out _ A8 c8 HCC.out HC8.out).mono ?_); rintro e w8 ⟨v8, rfl, ho, hb⟩; obtain ⟨A9, c9, rfl, h9, hC9⟩ := Kd.R_reads ho; have HB8 := Lib.hid hb; have HC9 := Lib.hid (And.intro h9 hC9); clear hb ho h9 hC9) | (go_at_call 24; (with_reducible refine (cell_Norm.calls _ A3 c3 L NL w8 (Kd.C_below HL3.out.2 (below_step HBJ.out HB8.out)) HL3.out.1 HNO.out).mono ?_); rintro e w9 ⟨v9, rfl, ho, hb⟩; obtain ⟨A10, c10, rfl, h10, hC10⟩ := Kd.R_reads ho; have HB9 := Lib.hid (below_step HB8.out hb); have HD9 := Lib.hid hb; have HC10 := Lib.hid (And.intro h10 hC10); clear hb ho h10 hC10) | (go_at_call 14; (with_reducible refine (like_calls HLK.out A9 c9 A10 c10 w9 (Kd.C_below HC9.out.2 HD9.out) HC9.out.1 HC10.out.2 HC10.out.1).mono ?_); rintro e w10 ⟨rfl, hb⟩; have HB10 := Lib.hid (below_step HB9.out hb); clear hb) | (go_at_call 10; (with_reducible refine (HLV.out w10).mono ?_); rintro e w11 ⟨rfl, hb⟩; have HB11 := Lib.hid (below_step HB10.out hb); clear hb))
       go_ret
       exact ⟨rfl, below_step HBX.out HB11.out⟩
theorem sum_lists (ls : List (List Cl)) : (ls.map fun xs => (xs.map fun _ => 1).sum + 1).sum = ls.length + ls.flatten.length := by
 induction ls with
 | nil => rfl
 | cons l ls ih =>
  have h : (l.map fun _ => 1).sum = l.length := by
   induction l with
   | nil => rfl
   | cons x l ih => rw [List.map_cons, List.sum_cons, ih, List.length_cons]; omega
  rw [List.map_cons, List.sum_cons, ih, h, List.length_cons, List.flatten_cons, List.length_append]; omega
end Go.Proofs.Ytabiekkebdocnaa.Q
