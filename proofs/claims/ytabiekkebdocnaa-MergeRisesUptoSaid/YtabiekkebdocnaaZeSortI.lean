/- The library's stable sort, a part of its walk. -/
import Derived.Test.YtabiekkebdocnaaZeSortW
namespace Go.Proofs.Ytabiekkebdocnaa.Srt
open Go Go.Shelf Go.RowKit Go.Lib Go.Sort Go.Proofs
section
variable {P : Program} {α : Type} [Inhabited α] {k : Nat} {enc : α → List Value} {w0 w : World} {blk off : Nat} {d0 : Array α} {cf : α → α → Int} {g : Nat} {cb : Array Value} {cap : Nat}
set_option maxHeartbeats 4000000 in
set_option maxRecDepth 1000000 in
theorem insn (H : L P k) (R : RowK enc k w0 blk off d0) (hN : d0.size < 4611686018427387904) (eg : ∀ args w, (callFunc g args).run P w = .ok (.enter g args) w) (hC : CmpB P g cb enc k cf w0 blk off d0.size) (HO : WOrd (ltOf cf)) (p l q : List α) (hs : p.length + l.length + q.length = d0.size)
  (S : SWB enc k w0 blk off (p ++ l ++ q).toArray w) (a b : Int) (ha : a = (p.length : Nat)) (hb : b = (p.length + l.length : Nat)) :
  Calls P 66 #[.slice (some ⟨blk, off, none⟩) d0.size cap, .int .i64 a, .int .i64 b, .func (.func g) #[] cb] w fun e w' => e = .returned (.tuple #[]) ∧ ∃ r, Stab (ltOf cf) l r ∧ SWB enc k w0 blk off (p ++ r ++ q).toArray w' := by
 have mixed := H.mixed; have t0 := H.t0; have a0 := H.a0; have z0 := H.z0; have v0 := H.v0; have t3 := H.t3; have a3 := H.a3; have z3 := H.z3; have v3 := H.v3; have t4 := H.t4; have a4 := H.a4; have z4 := H.z4; have v4 := H.v4; have t22 := H.t22; have a22 := H.a22; have z22 := H.z22; have v22 := H.v22; have t25 := H.t25; have a25 := H.a25; have z25 := H.z25; have v25 := H.v25; have aE := H.aE; have zE := H.zE
 have u22 := run_underlying H.t22
 have FG := H.fI
 obtain ⟨A, hA⟩ : ∃ A : Nat, A = p.length := ⟨_, rfl⟩
 obtain ⟨B, hB⟩ : ∃ B : Nat, B = p.length + l.length := ⟨_, rfl⟩
 obtain rfl : a = (A : Int) := by rw [ha, hA]
 obtain rfl : b = (B : Int) := by rw [hb, hB]
 have HC : Aside _ := hC
 have S0 : Aside _ := S
 have hAB : A ≤ B := by omega
 have hBN : B ≤ d0.size := by omega
 have HH : Hid (A = p.length ∧ B = p.length + l.length ∧ p.length + l.length + q.length = d0.size) := ⟨hA, hB, hs⟩
 have HO' := Lib.hid HO
 clear S ha hb hA hB hs hC HO
 cases l with
 | nil =>
  have hlt : ¬ (A : Int) + 1 < (B : Int) := by have h1 := HH.out.2.1; have := HH.out.1; simp only [List.length_nil] at h1; omega
  go_enter FG, Try.ntmps66
  go_wp2
  go_loopg [8] 0 (fun g1 vi wr => vi = .int .i64 ((A : Int) + 1) ∧ Aside (SWB enc k w0 blk off (p ++ [] ++ q).toArray wr))
  case atStart => exact ⟨by go_num, S0⟩
  case round =>
   obtain ⟨rfl, S1⟩ := hrel
   go_wp2
   go_end0
   exact ⟨rfl, [], Stab.refl List.Pairwise.nil, S1.out⟩
 | cons x0 l0 =>
  have hAB1 : A + 1 ≤ B := by have h1 := HH.out.2.1; have := HH.out.1; simp only [List.length_cons] at h1; omega
  go_enter FG, Try.ntmps66
  go_wp2
  go_loopg [8] (B - A) (fun g1 vi wr => ∃ (i : Nat) (s0 s t : List α), vi = .int .i64 i ∧ A < i ∧ i ≤ B ∧ B - i ≤ g1 ∧ Hid (x0 :: l0 = s0 ++ t ∧ Stab (ltOf cf) s0 s ∧ i = A + s0.length) ∧ Aside (SWB enc k w0 blk off (p ++ s ++ t ++ q).toArray wr))
  case atStart => exact ⟨A + 1, [x0], [x0], l0, by go_num, by omega, by omega, by omega, ⟨by simp, Stab.refl (List.pairwise_singleton _ _), by simp⟩, by rw [show p ++ [x0] ++ l0 ++ q = p ++ (x0 :: l0) ++ q by simp]; exact S0⟩
  case round =>
   clear S0
   obtain ⟨i, s0, s, t, rfl, hai, hiB, hg1, HI, S1⟩ := hrel
   cases t with
   | nil =>
    have hlt : ¬ (i : Int) < (B : Int) := by
     have h1 := HI.out.1; have h2 := HI.out.2.2; have h3 := HH.out.2.1; rw [h1] at h3; simp only [List.length_append, List.length_nil] at h3; have := HH.out.1; omega
    go_wp2
    go_end0
    refine ⟨rfl, s, ?_, ?_⟩
    ·
     have := HI.out.2.1; rw [HI.out.1, List.append_nil]; exact this
    ·
     have := S1.out; rw [show p ++ s ++ [] ++ q = p ++ (s ++ q) by simp] at this; exact this
   | cons x t =>
    have hlt : (i : Int) < (B : Int) := by
     have h1 := HI.out.1; have h2 := HI.out.2.2; have h3 := HH.out.2.1; rw [h1] at h3; simp only [List.length_append, List.length_cons] at h3; have := HH.out.1; omega
    have hltn : i < B := by omega
    go_wp2
    go_loopg [9] i (fun g2 vj wr2 => ∃ (j : Nat) (s1 h : List α), vj = .int .i64 j ∧ A ≤ j ∧ j ≤ i ∧ j ≤ g2 ∧ Hid (s = s1 ++ h ∧ j = A + s1.length ∧ (∀ y ∈ h, ltOf cf x y = true)) ∧ Aside (SWB enc k w0 blk off (p ++ s1 ++ x :: (h ++ t ++ q)).toArray wr2))
    case atStart =>
     refine ⟨i, s, [], rfl, by omega, Nat.le_refl _, Nat.le_refl _, ⟨by simp, ?_, by simp⟩, ?_⟩
     ·
      rw [HI.out.2.2, HI.out.2.1.length]
     ·
      rw [show p ++ s ++ x :: ([] ++ t ++ q) = p ++ s ++ x :: t ++ q by simp]; exact S1
    case round =>
     clear S1
     obtain ⟨j, s1, h, rfl, haj, hji, hg2, HJ, S2⟩ := hrel
     have OUT : Aside ((∀ y ∈ s1, ltOf cf x y = false) → Hid (x0 :: l0 = (s0 ++ [x]) ++ t ∧ Stab (ltOf cf) (s0 ++ [x]) (s1 ++ x :: h) ∧ i + 1 = A + (s0 ++ [x]).length)) := (show Aside _ from fun hy => by
      obtain ⟨e1, e2, e3⟩ := HI.out
      obtain ⟨f1, f2, f3⟩ := HJ.out
      rw [f1] at e2
      exact ⟨by rw [e1]; simp, e2.cat (stab_one' HO'.out e2.srt hy f3), by rw [e3]; simp; omega⟩)
     rcases List.eq_nil_or_concat s1 with e | ⟨s2, y, e⟩
     ·
      -- j = a: the guard is false
      have hja : j = A := by have := HJ.out.2.1; rw [e] at this; simpa using this
      have hO := Lib.hid (OUT.out (by rw [e]; simp))
      clear OUT HJ
      have hjaz : decide ((j : Int) > (A : Int)) = false := decide_eq_false (by omega)
      have hjaz' : ¬ (A : Int) < (j : Int) := by omega
      have hjan : ¬ A < j := by omega
      have S3 : Aside (SWB enc k w0 blk off (p ++ (s1 ++ x :: h) ++ t ++ q).toArray wr.drew) := by rw [show p ++ (s1 ++ x :: h) ++ t ++ q = p ++ s1 ++ x :: (h ++ t ++ q) by simp]; exact S2.out.drew
      clear S2 hja e
      go_wp2_with fail
      go_big_region_o
      all_goals go_wp2
      go_roundg (B - (i + 1))
      case measure => omega
      case rel => exact ⟨i + 1, s0 ++ [x], s1 ++ x :: h, t, by go_num, by omega, by omega, by omega, hO.out, S3⟩
     ·
      obtain ⟨jp, hjp⟩ : ∃ jp, jp = A + s2.length := ⟨_, rfl⟩
      have ej : j = jp + 1 := by have := HJ.out.2.1; rw [e] at this; simp only [List.concat_eq_append, List.length_append, List.length_singleton] at this; omega
      subst ej
      rw [List.concat_eq_append] at e
      have el : p ++ s1 ++ x :: (h ++ t ++ q) = (p ++ s2) ++ y :: ([] ++ x :: (h ++ t ++ q)) := by rw [e]; simp
      have er : p ++ s2 ++ x :: ((y :: h) ++ t ++ q) = (p ++ s2) ++ x :: ([] ++ y :: (h ++ t ++ q)) := by simp
      have S2' := S2.out
      rw [el] at S2'
      have hz : ((p ++ s2) ++ y :: ([] ++ x :: (h ++ t ++ q))).toArray.size = d0.size := by
       obtain ⟨e1, e2, e3⟩ := HI.out
       have f1 := HJ.out.1
       have h3 := HH.out.2.2
       have h4 := e2.length
       rw [f1, e] at h4
       rw [e1] at h3
       simp only [List.size_toArray, List.length_append, List.length_cons, List.length_nil] at h3 h4 ⊢
       omega
      have hJ1 : jp + 1 < d0.size := by omega
      have hA := HH.out.1
      have ga : ((p ++ s2) ++ y :: ([] ++ x :: (h ++ t ++ q))).toArray[jp + 1]! = x := by
       have e : (p ++ s2) ++ y :: ([] ++ x :: (h ++ t ++ q)) = ((p ++ s2) ++ [y]) ++ x :: (h ++ t ++ q) := by simp
       rw [e]; exact get_at _ _ _ _ (by simp only [List.length_append, List.length_singleton]; omega)
      have gb : ((p ++ s2) ++ y :: ([] ++ x :: (h ++ t ++ q))).toArray[jp]! = y := get_at _ _ _ _ (by simp only [List.length_append]; omega)
      have hwp : IntKind.i64.wrap (jp : Int) = (jp : Int) := by rw [IntKind.wrap_i64]; omega
      have jz : (jp : Int) + 1 < (d0.size : Int) := by omega
      have jz1 : (jp : Int) < (d0.size : Int) := by omega
      have hjaz' : (A : Int) < (jp : Int) + 1 := by omega
      have p0 : (0 : Int) ≤ (jp : Int) + 1 := by omega
      have e0 : ((jp : Int) + 1).toNat = jp + 1 := by omega
      have la := fun a => S2'.ld R hz P (jp + 1) (by rw [hz]; exact hJ1) a
      have lb := fun a => S2'.ld R hz P jp (by rw [hz]; omega) a
      have hcg := fun a => S2'.cmp HC.out R hz x y a
      simp only [ga] at la
      simp only [gb] at lb
      have G := Lib.hid (fun a => S2'.grown R a)
      have HZ := Lib.hid hz
      have HG := Lib.hid (And.intro ga gb)
      have HE := Lib.hid e
      clear hz ga gb S2' S2 el e hA
      by_cases hlv : cf x y < 0
      ·
       have hO := Lib.hid (show Hid (s = s2 ++ (y :: h) ∧ jp = A + s2.length ∧ (∀ z ∈ y :: h, ltOf cf x z = true)) from ⟨by rw [HJ.out.1, HE.out]; simp, hjp, fun z hz => by
        rcases List.mem_cons.1 hz with f | f
        ·
         rw [f]; exact decide_eq_true hlv
        ·
         exact HJ.out.2.2 z f⟩)
       have HP := Lib.hid hjp
       clear OUT hjp HJ
       go_wp2_with fail
       refine wp_region_quiet_bw (by assumption) (by kernel_rfl) ?_
       repeat (quiet_step (first | (go_at_fn g; refine Calls.bw_of (hcg _))))
       refine wpQuiet_nil ?_
       intro _ hw'
       obtain ⟨bq, hw''⟩ := hw'
       subst hw''
       go_wp2_with fail
       have S3 := G.out bq
       clear la lb hcg G
       generalize bq.w' = wq2 at S3 ⊢
       have S4 := S3.swapped R (jp + 1) jp (by rw [HZ.out]; exact hJ1) (by rw [HZ.out]; omega)
       have la := S3.ld1 R HZ.out P (jp + 1) (by rw [HZ.out]; exact hJ1)
       have lb := S3.ld1 R HZ.out P jp (by rw [HZ.out]; omega)
       have sa := S3.st1 R HZ.out P (jp + 1) (by rw [HZ.out]; exact hJ1) y
       have sb := S3.st2 R HZ.out P (jp + 1) jp (by rw [HZ.out]; exact hJ1) (by rw [HZ.out]; omega) y x
       rw [HG.out.1] at la S4
       rw [HG.out.2] at lb S4
       have hA := HH.out.1
       rw [swp_at' (p ++ s2) y [] x (h ++ t ++ q) jp (jp + 1) (by rw [HP.out]; simp only [List.length_append]; omega) (by rw [HP.out]; simp only [List.length_append, List.length_nil]; omega), ← er] at S4
       have na : (enc x).length = k := R.hk _
       have nb : (enc y).length = k := R.hk _
       have SS : Aside _ := S4
       clear S3 S4 HE HG hA er
       generalize enc x = cx at SS la sb na
       generalize enc y = cy at SS lb sa sb nb
       go_big_region_o
       all_goals go_wp2
       go_roundg jp
       case measure => omega
       case rel => exact ⟨jp, s2, y :: h, by first | rfl | go_num, by omega, by omega, Nat.le_refl _, hO.out, SS⟩
      ·
       have hO := Lib.hid (OUT.out (by
        intro z hz
        have f1 := HI.out.2.1.srt
        rw [HJ.out.1, HE.out] at f1
        have f2 := (srt_app (srt_app f1).1).2.2
        rw [HE.out] at hz
        have hxy : ltOf cf x y = false := decide_eq_false hlv
        rcases List.mem_append.1 hz with f | f
        ·
         exact HO'.out.tr z y x (f2 z f y (List.mem_singleton.2 rfl)) hxy
        ·
         rw [List.mem_singleton.1 f]; exact hxy))
       have er2 : p ++ (s1 ++ x :: h) ++ t ++ q = (p ++ s2) ++ y :: ([] ++ x :: (h ++ t ++ q)) := by rw [HE.out]; simp
       have ER := Lib.hid er2
       clear OUT HJ HE HG HZ hjp er er2
       go_wp2_with fail
       refine wp_region_quiet_bw (by assumption) (by kernel_rfl) ?_
       repeat (quiet_step (first | (go_at_fn g; refine Calls.bw_of (hcg _))))
       refine wpQuiet_nil ?_
       intro _ hw'
       obtain ⟨bq, hw''⟩ := hw'
       subst hw''
       have S3 : Aside (SWB enc k w0 blk off (p ++ (s1 ++ x :: h) ++ t ++ q).toArray bq.w') := by rw [ER.out]; exact G.out bq
       clear la lb hcg G
       generalize bq.w' = wq2 at S3 ⊢
       go_wp2
       go_roundg (B - (i + 1))
       case measure => omega
       case rel => exact ⟨i + 1, s0 ++ [x], s1 ++ x :: h, t, by go_num, by omega, by omega, by omega, hO.out, S3⟩
set_option maxHeartbeats 4000000 in
set_option maxRecDepth 1000000 in
theorem sym1 (H : L P k) (R : RowK enc k w0 blk off d0) (hN : d0.size < 4611686018427387904) (eg : ∀ args w, (callFunc g args).run P w = .ok (.enter g args) w) (hC : CmpB P g cb enc k cf w0 blk off d0.size) (HO : WOrd (ltOf cf)) (p : List α) (x : α) (Y q : List α) (hs : p.length + 1 + Y.length + q.length = d0.size)
  (sY : Y.Pairwise fun x y => ltOf cf y x = false) (S : SWB enc k w0 blk off (p ++ x :: (Y ++ q)).toArray w) (a m b : Int) (ha : a = (p.length : Nat)) (hm : m = (p.length + 1 : Nat)) (hb : b = (p.length + 1 + Y.length : Nat)) :
  Calls P 67 #[.slice (some ⟨blk, off, none⟩) d0.size cap, .int .i64 a, .int .i64 m, .int .i64 b, .func (.func g) #[] cb] w fun e w' => e = .returned (.tuple #[]) ∧ ∃ r, Stab (ltOf cf) (x :: Y) r ∧ SWB enc k w0 blk off (p ++ r ++ q).toArray w' := by
 have mixed := H.mixed; have t0 := H.t0; have a0 := H.a0; have z0 := H.z0; have v0 := H.v0; have t3 := H.t3; have a3 := H.a3; have z3 := H.z3; have v3 := H.v3; have t4 := H.t4; have a4 := H.a4; have z4 := H.z4; have v4 := H.v4; have t22 := H.t22; have a22 := H.a22; have z22 := H.z22; have v22 := H.v22; have t25 := H.t25; have a25 := H.a25; have z25 := H.z25; have v25 := H.v25; have aE := H.aE; have zE := H.zE; have t45 := H.t45; have a45 := H.a45; have z45 := H.z45; have v45 := H.v45
 have u22 := run_underlying H.t22
 have FG := H.fM
 obtain ⟨A, hA⟩ : ∃ A : Nat, A = p.length := ⟨_, rfl⟩
 obtain ⟨B, hB⟩ : ∃ B : Nat, B = p.length + 1 + Y.length := ⟨_, rfl⟩
 obtain rfl : a = (A : Int) := by rw [ha, hA]
 obtain rfl : m = (A : Int) + 1 := by rw [hm, hA]; simp
 obtain rfl : b = (B : Int) := by rw [hb, hB]
 have HC : Aside _ := hC
 have S0 : Aside _ := S
 have hAB : A + 1 ≤ B := by omega
 have hBN : B ≤ d0.size := by omega
 have HH : Hid (A = p.length ∧ B = p.length + 1 + Y.length ∧ p.length + 1 + Y.length + q.length = d0.size) := ⟨hA, hB, hs⟩
 have HO' := Lib.hid HO
 have SY := Lib.hid sY
 have hm1 : ((A : Int) + 1 - (A : Int) == 1) = true := by rw [beq_iff_eq]; omega
 have hm2 : IntKind.i64.wrap ((A : Int) + 1) = (A : Int) + 1 := by rw [IntKind.wrap_i64]; omega
 have hm3 : ((A : Int) + 1 - (A : Int)) = 1 := by omega
 clear S ha hb hm hA hB hs hC HO sY
 go_enter FG, Try.ntmps67
 go_wp2
 go_loopg [10, 11] (B - A) (fun g1 vi vj wr => ∃ (i j : Nat) (Y1 Y2 Y3 : List α), vi = .int .i64 i ∧ vj = .int .i64 j ∧ A + 1 ≤ i ∧ i ≤ j ∧ j ≤ B ∧ j - i ≤ g1 ∧ Hid (Y = Y1 ++ Y2 ++ Y3 ∧ i = A + 1 + Y1.length ∧ j = A + 1 + Y1.length + Y2.length ∧ (∀ y ∈ Y1, ltOf cf y x = true) ∧ (∀ y ∈ Y3, ltOf cf y x = false)) ∧ Aside (SWB enc k w0 blk off (p ++ x :: (Y ++ q)).toArray wr))
 case atStart => exact ⟨A + 1, B, [], Y, [], by go_num, by go_num, by omega, by omega, by omega, by omega, ⟨by simp, by simp, by have := HH.out.2.1; have := HH.out.1; simp only [List.length_nil]; omega, by simp, by simp⟩, S0⟩
 case round =>
  clear S0
  obtain ⟨i, j, Y1, Y2, Y3, rfl, rfl, hAi, hij, hjB, hg1, HI, S1⟩ := hrel
  cases Y2 with
  | nil =>
   have hlt : ¬ (i : Int) < (j : Int) := by have h1 := HI.out.2.1; have h2 := HI.out.2.2.1; simp only [List.length_nil] at h2; omega
   have hltn : ¬ i < j := by omega
   have G := Lib.hid (show i = A + 1 + Y1.length ∧ Y = Y1 ++ Y3 from ⟨HI.out.2.1, by rw [HI.out.1]; simp⟩)
   have hAi2 : i - 1 < d0.size := by omega
   have S2 : Aside (SWB enc k w0 blk off (p ++ [] ++ x :: (Y1 ++ (Y3 ++ q))).toArray wr) := by rw [show p ++ [] ++ x :: (Y1 ++ (Y3 ++ q)) = p ++ x :: (Y ++ q) by rw [G.out.2]; simp]; exact S1
   clear S1
   go_wp2
   go_loopg [13] (i - A) (fun g2 vk wr2 => ∃ (c : Nat) (Z1 Z2 : List α), vk = .int .i64 c ∧ A ≤ c ∧ c < i ∧ i - c ≤ g2 ∧ Hid (Y1 = Z1 ++ Z2 ∧ c = A + Z1.length) ∧ Aside (SWB enc k w0 blk off (p ++ Z1 ++ x :: (Z2 ++ (Y3 ++ q))).toArray wr2))
   case atStart => exact ⟨A, [], Y1, rfl, by omega, by omega, by omega, ⟨rfl, by simp⟩, S2⟩
   case round =>
    clear S2
    obtain ⟨c, Z1, Z2, rfl, hAc, hci, hg2, HZ, S3⟩ := hrel
    cases Z2 with
    | nil =>
     have hlt2 : ¬ (c : Int) < (i : Int) - 1 := by
      have h1 := G.out.1; have h2 := HZ.out.1; have h3 := HZ.out.2; rw [h2] at h1; simp only [List.append_nil] at h1; omega
     go_wp2
     refine bodyPost_ret (results_none rfl _ _ _) rfl ?_
     refine ⟨rfl, Y1 ++ x :: Y3, ?_, ?_⟩
     ·
      have := stab_one HO'.out (x := x) (a := Y1) (b := Y3) (by rw [← G.out.2]; exact SY.out) HI.out.2.2.2.1 HI.out.2.2.2.2
      rw [G.out.2]
      simpa using this
     ·
      have := S3.out
      rw [show Z1 = Y1 by rw [HZ.out.1]; simp] at this
      rw [show p ++ (Y1 ++ x :: Y3 ++ q) = p ++ Y1 ++ x :: ([] ++ (Y3 ++ q)) by simp]
      exact this
    | cons y Z2 =>
     have hzl : c + 1 < i := by
      have h1 := G.out.1; have h2 := HZ.out.1; have h3 := HZ.out.2; rw [h2] at h1; simp only [List.length_append, List.length_cons] at h1; omega
     have hlt2 : (c : Int) < (i : Int) - 1 := by omega
     have el : p ++ Z1 ++ x :: (y :: Z2 ++ (Y3 ++ q)) = (p ++ Z1) ++ x :: ([] ++ y :: (Z2 ++ (Y3 ++ q))) := by simp
     have er : p ++ (Z1 ++ [y]) ++ x :: (Z2 ++ (Y3 ++ q)) = (p ++ Z1) ++ y :: ([] ++ x :: (Z2 ++ (Y3 ++ q))) := by simp
     have S3' := S3.out
     rw [el] at S3'
     have hc : c = (p ++ Z1).length := by rw [HZ.out.2, HH.out.1]; simp
     have hz : ((p ++ Z1) ++ x :: ([] ++ y :: (Z2 ++ (Y3 ++ q)))).toArray.size = d0.size := by
      have h1 := HH.out.2.2; have h2 := G.out.2; have h3 := HZ.out.1
      rw [h2, h3] at h1
      simp only [List.size_toArray, List.length_append, List.length_cons, List.length_nil] at h1 ⊢
      omega
     have hc1 : c + 1 < d0.size := by omega
     have S4 := S3'.swapped R c (c + 1) (by rw [hz]; omega) (by rw [hz]; exact hc1)
     have la := S3'.ld1 R hz P c (by rw [hz]; omega)
     have lb := S3'.ld1 R hz P (c + 1) (by rw [hz]; exact hc1)
     have ga : ((p ++ Z1) ++ x :: ([] ++ y :: (Z2 ++ (Y3 ++ q)))).toArray[c]! = x := get_at _ _ _ _ hc
     have gb : ((p ++ Z1) ++ x :: ([] ++ y :: (Z2 ++ (Y3 ++ q)))).toArray[c + 1]! = y := by
      have e : (p ++ Z1) ++ x :: ([] ++ y :: (Z2 ++ (Y3 ++ q))) = ((p ++ Z1) ++ [x]) ++ y :: (Z2 ++ (Y3 ++ q)) := by simp
      rw [e]; exact get_at _ _ _ _ (by rw [hc]; simp; try omega)
     have sa := S3'.st1 R hz P c (by rw [hz]; omega) y
     have sb := S3'.st2 R hz P c (c + 1) (by rw [hz]; omega) (by rw [hz]; exact hc1) y x
     rw [ga] at la S4
     rw [gb] at lb S4
     rw [swp_at (p ++ Z1) x [] y (Z2 ++ (Y3 ++ q)) c (c + 1) hc (by rw [hc]; simp), ← er] at S4
     have na : (enc x).length = k := R.hk _
     have nb : (enc y).length = k := R.hk _
     have HZ2 : Hid (Y1 = (Z1 ++ [y]) ++ Z2 ∧ c + 1 = A + (Z1 ++ [y]).length) := ⟨by rw [HZ.out.1]; simp, by have := HZ.out.2; simp; omega⟩
     have eb : ((c : Int) + 1).toNat = c + 1 := by omega
     have pb : (0 : Int) ≤ (c : Int) + 1 := by omega
     have ba : (c : Int) < (d0.size : Int) := by omega
     have bb : (c : Int) + 1 < (d0.size : Int) := by omega
     have rb : IntKind.i64.wrap ((c : Int) + 1) = (c : Int) + 1 := by rw [IntKind.wrap_i64]; omega
     have SS : Aside _ := S4
     clear S3 S3' S4 HZ hz ga gb hc hc1 el er
     generalize enc x = cx at SS la sb na
     generalize enc y = cy at SS lb sa sb nb
     go_wp2_with fail
     go_big_region_o
     all_goals go_wp2
     go_roundg (i - (c + 1))
     case measure => omega
     case rel => exact ⟨c + 1, Z1 ++ [y], Z2, by go_num, by omega, by omega, by omega, HZ2, SS⟩
  | cons y0 Y2 =>
   have hlt : (i : Int) < (j : Int) := by have h1 := HI.out.2.1; have h2 := HI.out.2.2.1; simp only [List.length_cons] at h2; omega
   have hltn : i < j := by omega
   have hu : IntKind.u64.wrap ((i : Int) + (j : Int)) = (i : Int) + (j : Int) := half_u i j (by omega)
   obtain ⟨h, hh⟩ : ∃ h : Nat, h = (i + j) / 2 := ⟨_, rfl⟩
   have hih : i ≤ h := by omega
   have hhj : h < j := by omega
   obtain ⟨Ya, y, Yb, eY, hYa⟩ := part1 (y0 :: Y2) (h - i) (by have h1 := HI.out.2.1; have h2 := HI.out.2.2.1; omega)
   have eA := HH.out.1
   have el : p ++ x :: (Y ++ q) = (p ++ x :: (Y1 ++ Ya)) ++ y :: (Yb ++ Y3 ++ q) := by rw [HI.out.1, eY]; simp
   have S2 := S1.out
   have hz : (p ++ x :: (Y ++ q)).toArray.size = d0.size := by have := HH.out.2.2; simp only [List.size_toArray, List.length_append, List.length_cons]; omega
   have ga : (p ++ x :: (Y ++ q)).toArray[A]! = x := get_at _ _ _ _ eA
   have gb : (p ++ x :: (Y ++ q)).toArray[h]! = y := by rw [el]; exact get_at _ _ _ _ (by have h1 := HI.out.2.1; simp only [List.length_append, List.length_cons]; omega)
   have la := fun a => S2.ld R hz P A (by rw [hz]; omega) a
   have lb := fun a => S2.ld R hz P h (by rw [hz]; omega) a
   have hcg := fun a => S2.cmp HC.out R hz y x a
   simp only [ga] at la
   simp only [gb] at lb
   have Gr := Lib.hid (fun a => S2.grown R a)
   have e0 : (((i : Int) + (j : Int)) / 2).toNat = h := by omega
   have p0 : (0 : Int) ≤ ((i : Int) + (j : Int)) / 2 := by omega
   have b0 : ((i : Int) + (j : Int)) / 2 < (d0.size : Int) := by omega
   have bA : (A : Int) < (d0.size : Int) := by omega
   have rb : IntKind.i64.wrap (((i : Int) + (j : Int)) / 2 + 1) = ((i : Int) + (j : Int)) / 2 + 1 := by rw [IntKind.wrap_i64]; omega
   have hs2 := srt_get (l := y0 :: Y2) (by have := SY.out; rw [HI.out.1] at this; exact (srt_app (srt_app this).1).2.1) eY
   have HE := Lib.hid (And.intro eY hs2)
   have HH2 := Lib.hid hh
   have HYa := Lib.hid hYa
   clear S1 S2 hz ga gb el eA eY hs2 hh hYa
   by_cases hlv : cf y x < 0
   ·
    have hyx : Hid (ltOf cf y x = true) := decide_eq_true hlv
    have HI2 : Hid (Y = (Y1 ++ (Ya ++ [y])) ++ Yb ++ Y3 ∧ h + 1 = A + 1 + (Y1 ++ (Ya ++ [y])).length ∧ j = A + 1 + (Y1 ++ (Ya ++ [y])).length + Yb.length ∧ (∀ z ∈ Y1 ++ (Ya ++ [y]), ltOf cf z x = true) ∧ (∀ z ∈ Y3, ltOf cf z x = false)) := by
     obtain ⟨f1, f2, f3, f4, f5⟩ := HI.out
     have e1 := HE.out.1
     have e2 := congrArg List.length e1
     simp only [List.length_append, List.length_cons] at e2 f3
     have := HYa.out
     refine ⟨by rw [f1, e1]; simp, by simp only [List.length_append, List.length_singleton]; omega, by simp only [List.length_append, List.length_singleton]; omega, fun z hz => ?_, f5⟩
     rcases List.mem_append.1 hz with f | f
     ·
      exact f4 z f
     ·
      rcases List.mem_append.1 f with f | f
      ·
       cases hzx : ltOf cf z x
       ·
        have := HO'.out.tr x z y hzx (HE.out.2.1 z f)
        rw [hyx.out] at this; cases this
       ·
        rfl
      ·
       rw [List.mem_singleton.1 f]; exact hyx.out
    go_wp2_with fail
    refine wp_region_quiet_bw (by assumption) (by kernel_rfl) ?_
    repeat (quiet_step (first | (go_at_fn g; refine Calls.bw_of (hcg _))))
    refine wpQuiet_nil ?_
    intro _ hw'
    obtain ⟨bq, hw''⟩ := hw'
    subst hw''
    have S3 : Aside (SWB enc k w0 blk off (p ++ x :: (Y ++ q)).toArray bq.w') := Gr.out bq
    clear la lb hcg Gr
    generalize bq.w' = wq2 at S3 ⊢
    go_wp2
    go_roundg (j - (h + 1))
    case measure => omega
    case rel => exact ⟨h + 1, j, Y1 ++ (Ya ++ [y]), Yb, Y3, by first | rfl | go_num | (have := HH2.out; congr 1; omega), rfl, by omega, by omega, by omega, by omega, HI2, S3⟩
   ·
    have hyx : Hid (ltOf cf y x = false) := decide_eq_false hlv
    have HI2 : Hid (Y = Y1 ++ Ya ++ (y :: (Yb ++ Y3)) ∧ i = A + 1 + Y1.length ∧ h = A + 1 + Y1.length + Ya.length ∧ (∀ z ∈ Y1, ltOf cf z x = true) ∧ (∀ z ∈ y :: (Yb ++ Y3), ltOf cf z x = false)) := by
     obtain ⟨f1, f2, f3, f4, f5⟩ := HI.out
     have e1 := HE.out.1
     have := HYa.out
     refine ⟨by rw [f1, e1]; simp, f2, by omega, f4, fun z hz => ?_⟩
     rcases List.mem_cons.1 hz with f | f
     ·
      rw [f]; exact hyx.out
     ·
      rcases List.mem_append.1 f with f | f
      ·
       exact HO'.out.tr x y z hyx.out (HE.out.2.2 z f)
      ·
       exact f5 z f
    go_wp2_with fail
    refine wp_region_quiet_bw (by assumption) (by kernel_rfl) ?_
    repeat (quiet_step (first | (go_at_fn g; refine Calls.bw_of (hcg _))))
    refine wpQuiet_nil ?_
    intro _ hw'
    obtain ⟨bq, hw''⟩ := hw'
    subst hw''
    have S3 : Aside (SWB enc k w0 blk off (p ++ x :: (Y ++ q)).toArray bq.w') := Gr.out bq
    clear la lb hcg Gr
    generalize bq.w' = wq2 at S3 ⊢
    go_wp2
    go_roundg (h - i)
    case measure => omega
    case rel => exact ⟨i, h, Y1, Ya, y :: (Yb ++ Y3), rfl, by first | rfl | go_num | (have := HH2.out; congr 1; omega), by omega, by omega, by omega, by omega, HI2, S3⟩
set_option maxHeartbeats 4000000 in
set_option maxRecDepth 1000000 in
theorem sym2 (H : L P k) (R : RowK enc k w0 blk off d0) (hN : d0.size < 4611686018427387904) (eg : ∀ args w, (callFunc g args).run P w = .ok (.enter g args) w) (hC : CmpB P g cb enc k cf w0 blk off d0.size) (HO : WOrd (ltOf cf)) (p X : List α) (y : α) (q : List α) (hX : 2 ≤ X.length) (hs : p.length + X.length + 1 + q.length = d0.size)
  (sX : X.Pairwise fun x y => ltOf cf y x = false) (S : SWB enc k w0 blk off (p ++ X ++ y :: q).toArray w) (a m b : Int) (ha : a = (p.length : Nat)) (hm : m = (p.length + X.length : Nat)) (hb : b = (p.length + X.length + 1 : Nat)) :
  Calls P 67 #[.slice (some ⟨blk, off, none⟩) d0.size cap, .int .i64 a, .int .i64 m, .int .i64 b, .func (.func g) #[] cb] w fun e w' => e = .returned (.tuple #[]) ∧ ∃ r, Stab (ltOf cf) (X ++ [y]) r ∧ SWB enc k w0 blk off (p ++ r ++ q).toArray w' := by
 have mixed := H.mixed; have t0 := H.t0; have a0 := H.a0; have z0 := H.z0; have v0 := H.v0; have t3 := H.t3; have a3 := H.a3; have z3 := H.z3; have v3 := H.v3; have t4 := H.t4; have a4 := H.a4; have z4 := H.z4; have v4 := H.v4; have t22 := H.t22; have a22 := H.a22; have z22 := H.z22; have v22 := H.v22; have t25 := H.t25; have a25 := H.a25; have z25 := H.z25; have v25 := H.v25; have aE := H.aE; have zE := H.zE; have t45 := H.t45; have a45 := H.a45; have z45 := H.z45; have v45 := H.v45
 have u22 := run_underlying H.t22
 have FG := H.fM
 obtain ⟨A, hA⟩ : ∃ A : Nat, A = p.length := ⟨_, rfl⟩
 obtain ⟨M, hM⟩ : ∃ M : Nat, M = p.length + X.length := ⟨_, rfl⟩
 obtain rfl : a = (A : Int) := by rw [ha, hA]
 obtain rfl : m = (M : Int) := by rw [hm, hM]
 obtain rfl : b = (M : Int) + 1 := by rw [hb, hM]; simp
 have HC : Aside _ := hC
 have S0 : Aside _ := S
 have hAM : A + 2 ≤ M := by omega
 have hMN : M < d0.size := by omega
 have HH : Hid (A = p.length ∧ M = p.length + X.length ∧ p.length + X.length + 1 + q.length = d0.size) := ⟨hA, hM, hs⟩
 have HO' := Lib.hid HO
 have SX := Lib.hid sX
 have hm1 : ((M : Int) - (A : Int) == 1) = false := by rw [beq_eq_false_iff_ne]; omega
 have hm2 : ((M : Int) + 1 - (M : Int) == 1) = true := by rw [beq_iff_eq]; omega
 have hm3 : ((M : Int) + 1 - (M : Int)) = 1 := by omega
 clear S ha hb hm hA hM hs hC HO sX hX
 go_enter FG, Try.ntmps67
 go_wp2
 go_loopg [14, 15] (M - A) (fun g1 vi vj wr => ∃ (i j : Nat) (X1 X2 X3 : List α), vi = .int .i64 i ∧ vj = .int .i64 j ∧ A ≤ i ∧ i ≤ j ∧ j ≤ M ∧ j - i ≤ g1 ∧ Hid (X = X1 ++ X2 ++ X3 ∧ i = A + X1.length ∧ j = A + X1.length + X2.length ∧ (∀ z ∈ X1, ltOf cf y z = false) ∧ (∀ z ∈ X3, ltOf cf y z = true)) ∧ Aside (SWB enc k w0 blk off (p ++ X ++ y :: q).toArray wr))
 case atStart => exact ⟨A, M, [], X, [], by go_num, by go_num, by omega, by omega, by omega, by omega, ⟨by simp, by simp, by have := HH.out.2.1; have := HH.out.1; simp only [List.length_nil]; omega, by simp, by simp⟩, S0⟩
 case round =>
  clear S0
  obtain ⟨i, j, X1, X2, X3, rfl, rfl, hAi, hij, hjM, hg1, HI, S1⟩ := hrel
  cases X2 with
  | nil =>
   have hlt : ¬ (i : Int) < (j : Int) := by have h1 := HI.out.2.1; have h2 := HI.out.2.2.1; simp only [List.length_nil] at h2; omega
   have hltn : ¬ i < j := by omega
   have G := Lib.hid (show i = A + X1.length ∧ X = X1 ++ X3 from ⟨HI.out.2.1, by rw [HI.out.1]; simp⟩)
   have hiM : i ≤ M := by omega
   have S2 : Aside (SWB enc k w0 blk off (p ++ X1 ++ X3 ++ y :: ([] ++ q)).toArray wr) := by rw [show p ++ X1 ++ X3 ++ y :: ([] ++ q) = p ++ X ++ y :: q by rw [G.out.2]; simp]; exact S1
   clear S1
   go_wp2
   go_loopg [17] (M - i) (fun g2 vk wr2 => ∃ (c : Nat) (Z1 Z2 : List α), vk = .int .i64 c ∧ i ≤ c ∧ c ≤ M ∧ c - i ≤ g2 ∧ Hid (X3 = Z1 ++ Z2 ∧ c = i + Z1.length) ∧ Aside (SWB enc k w0 blk off (p ++ X1 ++ Z1 ++ y :: (Z2 ++ q)).toArray wr2))
   case atStart => exact ⟨M, X3, [], rfl, by omega, by omega, by omega, ⟨by simp, by have h1 := HH.out.2.1; have h2 := HH.out.1; have h3 := G.out.1; rw [G.out.2, List.length_append] at h1; omega⟩, S2⟩
   case round =>
    clear S2
    obtain ⟨c, Z1, Z2, rfl, hic, hcM, hg2, HZ, S3⟩ := hrel
    rcases List.eq_nil_or_concat Z1 with e | ⟨Z0, z, e⟩
    ·
     have hlt2 : ¬ (i : Int) < (c : Int) := by have h3 := HZ.out.2; rw [e] at h3; simp only [List.length_nil] at h3; omega
     have hlt3 : ¬ i < c := by omega
     have HE := Lib.hid e
     clear e
     go_wp2
     refine bodyPost_ret (results_none rfl _ _ _) rfl ?_
     refine ⟨rfl, X1 ++ y :: X3, ?_, ?_⟩
     ·
      have := stab_one' HO'.out (x := y) (a := X1) (b := X3) (by rw [← G.out.2]; exact SX.out) HI.out.2.2.2.1 HI.out.2.2.2.2
      rw [G.out.2]
      exact this
     ·
      have := S3.out
      have e3 : X3 = Z2 := by rw [HZ.out.1, HE.out]; simp
      rw [HE.out, ← e3] at this
      rw [show p ++ (X1 ++ y :: X3 ++ q) = p ++ X1 ++ [] ++ y :: (X3 ++ q) by simp]
      exact this
    ·
     rw [List.concat_eq_append] at e
     obtain ⟨cp, hcp⟩ : ∃ cp, cp = i + Z0.length := ⟨_, rfl⟩
     have ec : c = cp + 1 := by have := HZ.out.2; rw [e] at this; simp only [List.length_append, List.length_singleton] at this; omega
     subst ec
     have hlt2 : (i : Int) < (cp : Int) + 1 := by omega
     have hlt3 : i < cp + 1 := by omega
     have el : p ++ X1 ++ Z1 ++ y :: (Z2 ++ q) = (p ++ X1 ++ Z0) ++ z :: ([] ++ y :: (Z2 ++ q)) := by rw [e]; simp
     have er : p ++ X1 ++ Z0 ++ y :: ((z :: Z2) ++ q) = (p ++ X1 ++ Z0) ++ y :: ([] ++ z :: (Z2 ++ q)) := by simp
     have S3' := S3.out
     rw [el] at S3'
     have hc : cp = (p ++ X1 ++ Z0).length := by have h1 := G.out.1; have h2 := HH.out.1; simp only [List.length_append]; omega
     have hz : ((p ++ X1 ++ Z0) ++ z :: ([] ++ y :: (Z2 ++ q))).toArray.size = d0.size := by
      have h1 := HH.out.2.2; have h2 := G.out.2; have h3 := HZ.out.1
      rw [h2, h3, e] at h1
      simp only [List.size_toArray, List.length_append, List.length_cons, List.length_nil] at h1 ⊢
      omega
     have hc1 : cp + 1 < d0.size := by omega
     have S4 := S3'.swapped R (cp + 1) cp (by rw [hz]; exact hc1) (by rw [hz]; omega)
     have la := S3'.ld1 R hz P (cp + 1) (by rw [hz]; exact hc1)
     have lb := S3'.ld1 R hz P cp (by rw [hz]; omega)
     have gb : ((p ++ X1 ++ Z0) ++ z :: ([] ++ y :: (Z2 ++ q))).toArray[cp]! = z := get_at _ _ _ _ hc
     have ga : ((p ++ X1 ++ Z0) ++ z :: ([] ++ y :: (Z2 ++ q))).toArray[cp + 1]! = y := by
      have e : (p ++ X1 ++ Z0) ++ z :: ([] ++ y :: (Z2 ++ q)) = ((p ++ X1 ++ Z0) ++ [z]) ++ y :: (Z2 ++ q) := by simp
      rw [e]; exact get_at _ _ _ _ (by rw [hc]; simp only [List.length_append, List.length_singleton])
     have sa := S3'.st1 R hz P (cp + 1) (by rw [hz]; exact hc1) z
     have sb := S3'.st2 R hz P (cp + 1) cp (by rw [hz]; exact hc1) (by rw [hz]; omega) z y
     rw [ga] at la S4
     rw [gb] at lb S4
     rw [swp_at' (p ++ X1 ++ Z0) z [] y (Z2 ++ q) cp (cp + 1) hc (by rw [hc]; simp only [List.length_append, List.length_nil]; try omega), ← er] at S4
     have na : (enc y).length = k := R.hk _
     have nb : (enc z).length = k := R.hk _
     have HZ2 : Hid (X3 = Z0 ++ (z :: Z2) ∧ cp = i + Z0.length) := ⟨by rw [HZ.out.1, e]; simp, hcp⟩
     have hwp : IntKind.i64.wrap (cp : Int) = (cp : Int) := by rw [IntKind.wrap_i64]; omega
     have eb : ((cp : Int) + 1).toNat = cp + 1 := by omega
     have pb : (0 : Int) ≤ (cp : Int) + 1 := by omega
     have ba : (cp : Int) < (d0.size : Int) := by omega
     have bb : (cp : Int) + 1 < (d0.size : Int) := by omega
     have SS : Aside _ := S4
     clear S3 S3' S4 HZ hz ga gb hc hc1 el er e hcp
     generalize enc y = cx at SS la sb na
     generalize enc z = cy at SS lb sa sb nb
     go_wp2_with fail
     go_big_region_o
     all_goals go_wp2
     go_roundg (cp - i)
     case measure => omega
     case rel => exact ⟨cp, Z0, z :: Z2, by first | rfl | go_num, by omega, by omega, by omega, HZ2, SS⟩
  | cons y0 X2 =>
   have hlt : (i : Int) < (j : Int) := by have h1 := HI.out.2.1; have h2 := HI.out.2.2.1; simp only [List.length_cons] at h2; omega
   have hltn : i < j := by omega
   have hu : IntKind.u64.wrap ((i : Int) + (j : Int)) = (i : Int) + (j : Int) := half_u i j (by omega)
   obtain ⟨h, hh⟩ : ∃ h : Nat, h = (i + j) / 2 := ⟨_, rfl⟩
   have hih : i ≤ h := by omega
   have hhj : h < j := by omega
   obtain ⟨Xa, z, Xb, eX, hXa⟩ := part1 (y0 :: X2) (h - i) (by have h1 := HI.out.2.1; have h2 := HI.out.2.2.1; omega)
   have eA := HH.out.1
   have el : p ++ X ++ y :: q = (p ++ (X1 ++ Xa)) ++ z :: (Xb ++ X3 ++ y :: q) := by rw [HI.out.1, eX]; simp
   have S2 := S1.out
   have hz : (p ++ X ++ y :: q).toArray.size = d0.size := by have := HH.out.2.2; simp only [List.size_toArray, List.length_append, List.length_cons]; omega
   have ga : (p ++ X ++ y :: q).toArray[M]! = y := get_at _ _ _ _ (by rw [HH.out.2.1, List.length_append])
   have gb : (p ++ X ++ y :: q).toArray[h]! = z := by rw [el]; exact get_at _ _ _ _ (by have h1 := HI.out.2.1; simp only [List.length_append]; omega)
   have la := fun a => S2.ld R hz P M (by rw [hz]; omega) a
   have lb := fun a => S2.ld R hz P h (by rw [hz]; omega) a
   have hcg := fun a => S2.cmp HC.out R hz y z a
   simp only [ga] at la
   simp only [gb] at lb
   have Gr := Lib.hid (fun a => S2.grown R a)
   have e0 : (((i : Int) + (j : Int)) / 2).toNat = h := by omega
   have p0 : (0 : Int) ≤ ((i : Int) + (j : Int)) / 2 := by omega
   have b0 : ((i : Int) + (j : Int)) / 2 < (d0.size : Int) := by omega
   have bA : (M : Int) < (d0.size : Int) := by omega
   have rb : IntKind.i64.wrap (((i : Int) + (j : Int)) / 2 + 1) = ((i : Int) + (j : Int)) / 2 + 1 := by rw [IntKind.wrap_i64]; omega
   have hs2 := srt_get (l := y0 :: X2) (by have := SX.out; rw [HI.out.1] at this; exact (srt_app (srt_app this).1).2.1) eX
   have HE := Lib.hid (And.intro eX hs2)
   have HH2 := Lib.hid hh
   have HXa := Lib.hid hXa
   clear S1 S2 hz ga gb el eA eX hs2 hh hXa
   by_cases hlv : cf y z < 0
   ·
    have hyz : Hid (ltOf cf y z = true) := decide_eq_true hlv
    have HI2 : Hid (X = X1 ++ Xa ++ (z :: (Xb ++ X3)) ∧ i = A + X1.length ∧ h = A + X1.length + Xa.length ∧ (∀ u ∈ X1, ltOf cf y u = false) ∧ (∀ u ∈ z :: (Xb ++ X3), ltOf cf y u = true)) := by
     obtain ⟨f1, f2, f3, f4, f5⟩ := HI.out
     have e1 := HE.out.1
     have := HXa.out
     refine ⟨by rw [f1, e1]; simp, f2, by omega, f4, fun u hu => ?_⟩
     rcases List.mem_cons.1 hu with f | f
     ·
      rw [f]; exact hyz.out
     ·
      rcases List.mem_append.1 f with f | f
      ·
       cases hzx : ltOf cf y u
       ·
        have := HO'.out.tr z u y (HE.out.2.2 u f) hzx
        rw [hyz.out] at this; cases this
       ·
        rfl
      ·
       exact f5 u f
    go_wp2_with fail
    refine wp_region_quiet_bw (by assumption) (by kernel_rfl) ?_
    repeat (quiet_step (first | (go_at_fn g; refine Calls.bw_of (hcg _))))
    refine wpQuiet_nil ?_
    intro _ hw'
    obtain ⟨bq, hw''⟩ := hw'
    subst hw''
    have S3 : Aside (SWB enc k w0 blk off (p ++ X ++ y :: q).toArray bq.w') := Gr.out bq
    clear la lb hcg Gr
    generalize bq.w' = wq2 at S3 ⊢
    go_wp2
    go_roundg (h - i)
    case measure => omega
    case rel => exact ⟨i, h, X1, Xa, z :: (Xb ++ X3), rfl, by first | rfl | go_num | (have := HH2.out; congr 1; omega), by omega, by omega, by omega, by omega, HI2, S3⟩
   ·
    have hyz : Hid (ltOf cf y z = false) := decide_eq_false hlv
    have hlb : decide (cf y z < 0) = false := decide_eq_false hlv
    have hlc : 0 ≤ cf y z := by omega
    have HI2 : Hid (X = (X1 ++ (Xa ++ [z])) ++ Xb ++ X3 ∧ h + 1 = A + (X1 ++ (Xa ++ [z])).length ∧ j = A + (X1 ++ (Xa ++ [z])).length + Xb.length ∧ (∀ u ∈ X1 ++ (Xa ++ [z]), ltOf cf y u = false) ∧ (∀ u ∈ X3, ltOf cf y u = true)) := by
     obtain ⟨f1, f2, f3, f4, f5⟩ := HI.out
     have e1 := HE.out.1
     have e2 := congrArg List.length e1
     simp only [List.length_append, List.length_cons] at e2 f3
     have := HXa.out
     refine ⟨by rw [f1, e1]; simp, by simp only [List.length_append, List.length_singleton]; omega, by simp only [List.length_append, List.length_singleton]; omega, fun u hu => ?_, f5⟩
     rcases List.mem_append.1 hu with f | f
     ·
      exact f4 u f
     ·
      rcases List.mem_append.1 f with f | f
      ·
       exact HO'.out.tr u z y (HE.out.2.1 u f) hyz.out
      ·
       rw [List.mem_singleton.1 f]; exact hyz.out
    go_wp2_with fail
    refine wp_region_quiet_bw (by assumption) (by kernel_rfl) ?_
    repeat (quiet_step (first | (go_at_fn g; refine Calls.bw_of (hcg _))))
    refine wpQuiet_nil ?_
    intro _ hw'
    obtain ⟨bq, hw''⟩ := hw'
    subst hw''
    have S3 : Aside (SWB enc k w0 blk off (p ++ X ++ y :: q).toArray bq.w') := Gr.out bq
    clear la lb hcg Gr
    generalize bq.w' = wq2 at S3 ⊢
    go_wp2
    go_roundg (j - (h + 1))
    case measure => omega
    case rel => exact ⟨h + 1, j, X1 ++ (Xa ++ [z]), Xb, X3, by first | rfl | go_num | (have := HH2.out; congr 1; omega), rfl, by omega, by omega, by omega, by omega, HI2, S3⟩
end
end Go.Proofs.Ytabiekkebdocnaa.Srt
