/- The library's stable sort, a part of its walk. -/
import Derived.Test.YtabiekkebdocnaaZeSortW
namespace Go.Proofs.Ytabiekkebdocnaa.Srt
open Go Go.Shelf Go.RowKit Go.Lib Go.Sort Go.Proofs
section
variable {P : Program} {α : Type} [Inhabited α] {k : Nat} {enc : α → List Value} {w0 w : World} {blk off : Nat} {d0 : Array α} {cf : α → α → Int} {g : Nat} {cb : Array Value} {cap : Nat}
set_option maxHeartbeats 8000000 in
set_option maxRecDepth 1000000 in
theorem sym3n (H : L P k) (R : RowK enc k w0 blk off d0) (hN : d0.size < 4611686018427387904) (eg : ∀ args w, (callFunc g args).run P w = .ok (.enter g args) w) (hC : CmpB P g cb enc k cf w0 blk off d0.size) (HO : WOrd (ltOf cf)) (n : Nat) (IH : SymAt P k enc w0 blk off d0 cf g cb cap n) (p X Y q : List α) (hX : 2 ≤ X.length) (hY : 2 ≤ Y.length) (hn : X.length + Y.length ≤ n + 1) (hcc : ¬ (X.length + Y.length) / 2 < X.length) (hs : p.length + X.length + Y.length + q.length = d0.size)
  (sX : X.Pairwise fun x y => ltOf cf y x = false) (sY : Y.Pairwise fun x y => ltOf cf y x = false) (S : SWB enc k w0 blk off (p ++ X ++ Y ++ q).toArray w) (a m b : Int) (ha : a = (p.length : Nat)) (hm : m = (p.length + X.length : Nat)) (hb : b = (p.length + X.length + Y.length : Nat)) :
  Calls P 67 #[.slice (some ⟨blk, off, none⟩) d0.size cap, .int .i64 a, .int .i64 m, .int .i64 b, .func (.func g) #[] cb] w fun e w' => e = .returned (.tuple #[]) ∧ Merged enc k w0 blk off cf p (X ++ Y) q w' := by
 have mixed := H.mixed; have t0 := H.t0; have a0 := H.a0; have z0 := H.z0; have v0 := H.v0; have t3 := H.t3; have a3 := H.a3; have z3 := H.z3; have v3 := H.v3; have t4 := H.t4; have a4 := H.a4; have z4 := H.z4; have v4 := H.v4; have t22 := H.t22; have a22 := H.a22; have z22 := H.z22; have v22 := H.v22; have t25 := H.t25; have a25 := H.a25; have z25 := H.z25; have v25 := H.v25; have aE := H.aE; have zE := H.zE; have t45 := H.t45; have a45 := H.a45; have z45 := H.z45; have v45 := H.v45
 have u22 := run_underlying H.t22
 have eR : ∀ args w, (callFunc 69 args).run P w = .ok (.enter 69 args) w := enters_of H.fR (by kernel_rfl) rfl
 have eM : ∀ args w, (callFunc 67 args).run P w = .ok (.enter 67 args) w := enters_of H.fM (by kernel_rfl) rfl
 have FG := H.fM
 obtain ⟨A, hA⟩ : ∃ A : Nat, A = p.length := ⟨_, rfl⟩
 obtain ⟨M, hM⟩ : ∃ M : Nat, M = p.length + X.length := ⟨_, rfl⟩
 obtain ⟨B, hB⟩ : ∃ B : Nat, B = p.length + X.length + Y.length := ⟨_, rfl⟩
 obtain ⟨h, hh⟩ : ∃ h : Nat, h = (X.length + Y.length) / 2 := ⟨_, rfl⟩
 obtain ⟨D, hD⟩ : ∃ D : Nat, D = A + h := ⟨_, rfl⟩
 obtain rfl : a = (A : Int) := by rw [ha, hA]
 obtain rfl : m = (M : Int) := by rw [hm, hM]
 obtain rfl : b = (B : Int) := by rw [hb, hB]
 have HC : Aside _ := hC
 have S0 : Aside _ := S
 have hAM : A + 2 ≤ M := by omega
 have hMB : M + 2 ≤ B := by omega
 have hBN : B ≤ d0.size := by omega
 have hAD : A < D := by omega
 have hDB : D < B := by omega
 have HH : Hid (A = p.length ∧ M = A + X.length ∧ B = A + X.length + Y.length ∧ p.length + X.length + Y.length + q.length = d0.size ∧ h = (X.length + Y.length) / 2 ∧ D = A + h ∧ X.length + Y.length ≤ n + 1) := ⟨hA, by omega, by omega, hs, hh, hD, hn⟩
 have HO' := Lib.hid HO
 have SX := Lib.hid sX
 have SY := Lib.hid sY
 have IHH := Lib.hid IH
 have hm1 : ((M : Int) - (A : Int) == 1) = false := by rw [beq_eq_false_iff_ne]; omega
 have hm2 : ((B : Int) - (M : Int) == 1) = false := by rw [beq_eq_false_iff_ne]; omega
 have hu : IntKind.u64.wrap ((A : Int) + (B : Int)) = (A : Int) + (B : Int) := half_u A B (by omega)
 have hmid : ((A : Int) + (B : Int)) / 2 = (D : Int) := by omega
 obtain ⟨Sa, Ra, hSR⟩ : ∃ Sa Ra : Nat, (D < M ∧ Sa = D + M - B ∧ Ra = D) ∨ (M ≤ D ∧ Sa = A ∧ Ra = M) := by
  by_cases c : D < M
  ·
   exact ⟨_, _, .inl ⟨c, rfl, rfl⟩⟩
  ·
   exact ⟨_, _, .inr ⟨by omega, rfl, rfl⟩⟩
 have hASa : A ≤ Sa := by omega
 have hSaRa : Sa ≤ Ra := by omega
 have hRaM : Ra ≤ M := by omega
 have hRaD : Ra ≤ D := by omega
 have hSaB : D + M ≤ B + Sa := by omega
 have HSR := Lib.hid hSR
 have hc : ¬ D < M := by omega
 have hSa1 := Lib.hid (show D < M → D + M - B = Sa by omega)
 have hRa1 := Lib.hid (show D < M → D = Ra by omega)
 have hSa2 := Lib.hid (show ¬ D < M → A = Sa by omega)
 have hRa2 := Lib.hid (show ¬ D < M → M = Ra by omega)
 clear S ha hb hm hA hM hB hs hh hD hn hC HO sX sY IH hX hY hSR hcc
 go_enter FG, Try.ntmps67
 have hcz : ¬ (D : Int) < (M : Int) := by omega
 have hq1 := Lib.hid (hSa2.out hc)
 have hq2 := Lib.hid (hRa2.out hc)
 go_wp2
 go_loopg [20, 21] (B - A) (fun g1 vi vj wr => ∃ (s r : Nat), vi = .int .i64 s ∧ vj = .int .i64 r ∧ Sa ≤ s ∧ s ≤ r ∧ r ≤ Ra ∧ r - s ≤ g1 ∧ Hid ((s = Sa ∨ ltOf cf (X ++ Y).toArray[h + X.length - (s - A)]! (X ++ Y).toArray[s - A - 1]! = false) ∧ (r = Ra ∨ ltOf cf (X ++ Y).toArray[h + X.length - 1 - (r - A)]! (X ++ Y).toArray[r - A]! = true)) ∧ Aside (SWB enc k w0 blk off (p ++ X ++ Y ++ q).toArray wr))
 case atStart => exact ⟨Sa, Ra, by first | rfl | (have := hq1.out; congr 1; omega), by first | rfl | (have := hq2.out; congr 1; omega), by omega, by omega, by omega, by omega, ⟨.inl rfl, .inl rfl⟩, S0⟩
 case round =>
  clear S0
  try clear hsub
  obtain ⟨s, r, rfl, rfl, hSs, hsr, hrR, hg1, HI, S1⟩ := hrel
  by_cases hlt : s < r
  ·
   have hltz : (s : Int) < (r : Int) := by omega
   have hu2 : IntKind.u64.wrap ((s : Int) + (r : Int)) = (s : Int) + (r : Int) := half_u s r (by omega)
   obtain ⟨c, hc'⟩ : ∃ c : Nat, c = (s + r) / 2 := ⟨_, rfl⟩
   obtain ⟨f, hf⟩ : ∃ f : Nat, f = D + M - 1 - c := ⟨_, rfl⟩
   have hsc : s ≤ c := by omega
   have hcr : c < r := by omega
   have hAc : A ≤ c := by omega
   obtain ⟨hA, hM, hB, hs, hh, hD, hn⟩ := HH.out
   have hfN : f < B := by omega
   have hfM : M ≤ f := by omega
   have S2 := S1.out
   have hz : (p ++ X ++ Y ++ q).toArray.size = d0.size := by simp only [List.size_toArray, List.length_append]; omega
   have eL : p ++ X ++ Y ++ q = p ++ (X ++ Y) ++ q := by simp
   have ga : (p ++ X ++ Y ++ q).toArray[f]! = (X ++ Y).toArray[f - A]! := by rw [eL, show f = p.length + (f - A) by omega, get_in _ _ _ _ (by rw [List.length_append]; omega)]; congr 1; omega
   have gb : (p ++ X ++ Y ++ q).toArray[c]! = (X ++ Y).toArray[c - A]! := by rw [eL, show c = p.length + (c - A) by omega, get_in _ _ _ _ (by rw [List.length_append]; omega)]; congr 1; omega
   obtain ⟨vx, hvx⟩ : ∃ v, (X ++ Y).toArray[f - A]! = v := ⟨_, rfl⟩
   obtain ⟨vy, hvy⟩ : ∃ v, (X ++ Y).toArray[c - A]! = v := ⟨_, rfl⟩
   have la := fun a => S2.ld R hz P f (by rw [hz]; omega) a
   have lb := fun a => S2.ld R hz P c (by rw [hz]; omega) a
   have hcg := fun a => S2.cmp HC.out R hz vx vy a
   simp only [ga, hvx] at la
   simp only [gb, hvy] at lb
   have Gr := Lib.hid (fun a => S2.grown R a)
   have e0 : (((s : Int) + (r : Int)) / 2).toNat = c := by omega
   have p0 : (0 : Int) ≤ ((s : Int) + (r : Int)) / 2 := by omega
   have b0 : ((s : Int) + (r : Int)) / 2 < (d0.size : Int) := by omega
   have e1 : ((D : Int) + (M : Int) - 1 - ((s : Int) + (r : Int)) / 2).toNat = f := by omega
   have p1 : (0 : Int) ≤ (D : Int) + (M : Int) - 1 - ((s : Int) + (r : Int)) / 2 := by omega
   have p2 : ((s : Int) + (r : Int)) / 2 ≤ (D : Int) + (M : Int) - 1 := by omega
   have b1 : (D : Int) + (M : Int) - 1 - ((s : Int) + (r : Int)) / 2 < (d0.size : Int) := by omega
   have r1 : IntKind.i64.wrap ((D : Int) + (M : Int) - 1 - ((s : Int) + (r : Int)) / 2) = (D : Int) + (M : Int) - 1 - ((s : Int) + (r : Int)) / 2 := by rw [IntKind.wrap_i64]; omega
   have r2 : IntKind.i64.wrap (((s : Int) + (r : Int)) / 2 + 1) = ((s : Int) + (r : Int)) / 2 + 1 := by rw [IntKind.wrap_i64]; omega
   have HF := Lib.hid (show f - A = h + X.length - 1 - (c - A) ∧ f - A = h + X.length - (c + 1 - A) ∧ c - A = c + 1 - A - 1 from by omega)
   have HC' := Lib.hid hc'
   have HV := Lib.hid (And.intro hvx hvy)
   clear S1 S2 hz ga gb eL hA hM hB hs hh hD hn hc' hf hvx hvy
   by_cases hlv : cf vx vy < 0
   ·
    have HI2 : Hid ((s = Sa ∨ ltOf cf (X ++ Y).toArray[h + X.length - (s - A)]! (X ++ Y).toArray[s - A - 1]! = false) ∧ (c = Ra ∨ ltOf cf (X ++ Y).toArray[h + X.length - 1 - (c - A)]! (X ++ Y).toArray[c - A]! = true)) :=
     ⟨HI.out.1, .inr (by rw [← HF.out.1, HV.out.1, HV.out.2]; exact decide_eq_true hlv)⟩
    have hlb : decide (cf vx vy < 0) = true := decide_eq_true hlv
    go_wp2_with fail
    refine wp_region_quiet_bw (by assumption) (by kernel_rfl) ?_
    repeat (quiet_step (first | (go_at_fn g; refine Calls.bw_of (hcg _))))
    refine wpQuiet_nil ?_
    intro _ hw'
    obtain ⟨bq, hw''⟩ := hw'
    subst hw''
    have S3 : Aside (SWB enc k w0 blk off (p ++ X ++ Y ++ q).toArray bq.w') := Gr.out bq
    clear la lb hcg Gr
    generalize bq.w' = wq2 at S3 ⊢
    go_wp2
    go_roundg (c - s)
    case measure => omega
    case rel => exact ⟨s, c, rfl, by first | rfl | go_num | (have := HC'.out; congr 1; omega), by omega, by omega, by omega, by omega, HI2, S3⟩
   ·
    have HI2 : Hid ((c + 1 = Sa ∨ ltOf cf (X ++ Y).toArray[h + X.length - (c + 1 - A)]! (X ++ Y).toArray[c + 1 - A - 1]! = false) ∧ (r = Ra ∨ ltOf cf (X ++ Y).toArray[h + X.length - 1 - (r - A)]! (X ++ Y).toArray[r - A]! = true)) :=
     ⟨.inr (by rw [← HF.out.2.1, ← HF.out.2.2, HV.out.1, HV.out.2]; exact decide_eq_false hlv), HI.out.2⟩
    have hlb : decide (cf vx vy < 0) = false := decide_eq_false hlv
    have hlc : 0 ≤ cf vx vy := by omega
    go_wp2_with fail
    refine wp_region_quiet_bw (by assumption) (by kernel_rfl) ?_
    repeat (quiet_step (first | (go_at_fn g; refine Calls.bw_of (hcg _))))
    refine wpQuiet_nil ?_
    intro _ hw'
    obtain ⟨bq, hw''⟩ := hw'
    subst hw''
    have S3 : Aside (SWB enc k w0 blk off (p ++ X ++ Y ++ q).toArray bq.w') := Gr.out bq
    clear la lb hcg Gr
    generalize bq.w' = wq2 at S3 ⊢
    go_wp2
    go_roundg (r - (c + 1))
    case measure => omega
    case rel => exact ⟨c + 1, r, by first | rfl | go_num | (have := HC'.out; congr 1; omega), rfl, by omega, by omega, by omega, by omega, HI2, S3⟩
  ·
   have hltz : ¬ (s : Int) < (r : Int) := by omega
   have esr : s = r := by omega
   subst esr
   obtain ⟨hA, hM, hB, hs, hh, hD, hn⟩ := HH.out
   obtain ⟨X1, U, V, Y2, eX, eY, l1, l2, l3, q1, q2, q3⟩ := sym_parts HO'.out SX.out SY.out h (Sa - A) (Ra - A) (s - A) hh (.inr ⟨by omega, by have := hSa2.out hc; omega, by have := hRa2.out hc; omega⟩) (by omega) (by omega) (HI.out.1.imp (fun z => by omega) id) (HI.out.2.imp (fun z => by omega) id)
   have tX := srt_app (eX ▸ SX.out)
   have tY := srt_app (eY ▸ SY.out)
   have n1 := congrArg List.length eX
   have n2 := congrArg List.length eY
   rw [List.length_append] at n1 n2
   have hsM : s ≤ M := by omega
   have hsD : s ≤ D := by omega
   have hAs : A ≤ s := by omega
   have hDMB : D + M ≤ B + s := by omega
   have SA : Aside (SWB enc k w0 blk off (p ++ X1 ++ U ++ V ++ Y2 ++ q).toArray wr) := by rw [show p ++ X1 ++ U ++ V ++ Y2 ++ q = p ++ X ++ Y ++ q by rw [eX, eY]; simp]; exact S1
   have HR := Lib.hid (fun (c1 : s < M) (c2 : s < D) (w' : World) (S : SWB enc k w0 blk off (p ++ X1 ++ U ++ V ++ Y2 ++ q).toArray w') => rot (w := w') (cap := cap) H R hN (.func (.func g) #[] cb) (p ++ X1) U V (Y2 ++ q) (by omega) (by omega) (by simp only [List.length_append]; omega) (by rw [show p ++ X1 ++ U ++ V ++ (Y2 ++ q) = p ++ X1 ++ U ++ V ++ Y2 ++ q by simp]; exact S) (s : Int) (M : Int) ((D : Int) + (M : Int) - (s : Int)) (by simp only [List.length_append]; omega) (by simp only [List.length_append]; omega) (by simp only [List.length_append]; omega))
   rw [show p ++ X1 ++ V ++ U ++ (Y2 ++ q) = p ++ X1 ++ V ++ U ++ Y2 ++ q by simp] at HR
   have HL := Lib.hid (fun (c1 : A < s) (c2 : s < D) (w' : World) (S : SWB enc k w0 blk off (p ++ X1 ++ V ++ U ++ Y2 ++ q).toArray w') => IHH.out p X1 V (U ++ Y2 ++ q) w' (A : Int) (s : Int) (D : Int) (by omega) (by omega) (by omega) (by simp only [List.length_append]; omega) tX.1 tY.1 (by rw [show p ++ X1 ++ V ++ (U ++ Y2 ++ q) = p ++ X1 ++ V ++ U ++ Y2 ++ q by simp]; exact S) (by omega) (by omega) (by omega))
   have HT := Lib.hid (fun (c1 : s < M) (c2 : D + M < B + s) (r1 : List α) (hr1 : r1.length = (X1 ++ V).length) (w' : World) (S : SWB enc k w0 blk off (p ++ r1 ++ U ++ Y2 ++ q).toArray w') => IHH.out (p ++ r1) U Y2 q w' (D : Int) ((D : Int) + (M : Int) - (s : Int)) (B : Int) (by omega) (by omega) (by omega) (by rw [List.length_append] at hr1; simp only [List.length_append]; omega) tX.2.1 tY.2.1 S (by rw [List.length_append] at hr1; simp only [List.length_append]; omega) (by rw [List.length_append] at hr1; simp only [List.length_append]; omega) (by rw [List.length_append] at hr1; simp only [List.length_append]; omega))
   have LA := Lib.hid (show True ∧ (¬ (s < M ∧ s < D) → p ++ X1 ++ V ++ U ++ Y2 ++ q = p ++ X1 ++ U ++ V ++ Y2 ++ q) ∧ (¬ (A < s ∧ s < D) → Stab (ltOf cf) (X1 ++ V) (X1 ++ V)) ∧ (¬ (s < M ∧ D + M < B + s) → Stab (ltOf cf) (U ++ Y2) (U ++ Y2)) from by
    refine ⟨trivial, fun c => ?_, fun c => ?_, fun c => ?_⟩
    ·
     by_cases c1 : s < M
     ·
      rw [List.eq_nil_of_length_eq_zero (show V.length = 0 by omega)]; simp
     ·
      rw [List.eq_nil_of_length_eq_zero (show U.length = 0 by omega)]; simp
    ·
     by_cases c1 : A < s
     ·
      rw [List.eq_nil_of_length_eq_zero (show V.length = 0 by omega), List.append_nil]; exact Stab.refl tX.1
     ·
      rw [List.eq_nil_of_length_eq_zero (show X1.length = 0 by omega), List.nil_append]; exact Stab.refl tY.1
    ·
     by_cases c1 : s < M
     ·
      rw [List.eq_nil_of_length_eq_zero (show Y2.length = 0 by omega), List.append_nil]; exact Stab.refl tX.2.1
     ·
      rw [List.eq_nil_of_length_eq_zero (show U.length = 0 by omega), List.nil_append]; exact Stab.refl tY.2.1)
   have FIN := Lib.hid (show ∀ r1 r2, Stab (ltOf cf) (X1 ++ V) r1 → Stab (ltOf cf) (U ++ Y2) r2 → ∀ w', SWB enc k w0 blk off (p ++ r1 ++ r2 ++ q).toArray w' → Merged enc k w0 blk off cf p (X ++ Y) q w' from fun r1 r2 h1 h2 w' hw => ⟨r1 ++ r2, by
    have := stab_sym HO'.out q1 q2 q3 h1 h2
    rw [eX, eY, show X1 ++ U ++ (V ++ Y2) = X1 ++ U ++ V ++ Y2 by simp]; exact this, by rw [show p ++ (r1 ++ r2) ++ q = p ++ r1 ++ r2 ++ q by simp]; exact hw⟩)
   have rS : IntKind.i64.wrap ((D : Int) + (M : Int) - (s : Int)) = (D : Int) + (M : Int) - (s : Int) := by rw [IntKind.wrap_i64]; omega
   clear S1 HI eX eY l1 l2 l3 q1 q2 q3 tX tY n1 n2 hA hM hB hs hh hD hn
   by_cases cu : s < M
   ·
    have cu1 : (s : Int) < (M : Int) := by omega
    have cu2 : (D : Int) < (D : Int) + (M : Int) - (s : Int) := by omega
    by_cases cv : s < D
    ·
     have cv1 : (s : Int) < (D : Int) := by omega
     have cv2 : (M : Int) < (D : Int) + (M : Int) - (s : Int) := by omega
     by_cases cx : A < s
     ·
      have cx1 : (A : Int) < (s : Int) := by omega
      by_cases cy : D + M < B + s
      ·
       have cy1 : (D : Int) + (M : Int) - (s : Int) < (B : Int) := by omega
       go_wp2_with fail
       refine (HR.out (by omega) (by omega) _ SA.out).mono ?_
       rintro e w1 ⟨rfl, SB0⟩
       have SB : Aside _ := SB0
       clear SB0 SA
       go_wp2_with fail
       refine (HL.out (by omega) (by omega) _ SB.out).mono ?_
       rintro e w2 ⟨rfl, hm0⟩
       obtain ⟨r1, hr1, SC0⟩ := hm0
       rw [show p ++ r1 ++ (U ++ Y2 ++ q) = p ++ r1 ++ U ++ Y2 ++ q by simp] at SC0
       have SC : Aside _ := SC0
       have HR1 := Lib.hid hr1
       clear SC0 SB hr1
       go_wp2_with fail
       refine (HT.out (by omega) (by omega) _ HR1.out.length _ SC.out).mono ?_
       rintro e w3 ⟨rfl, hm1⟩
       obtain ⟨r2, hr2, SD0⟩ := hm1
       have SD : Aside _ := SD0
       have HR2 := Lib.hid hr2
       clear SD0 SC hr2
       go_wp2_with fail
       first | go_end0 | skip
       exact ⟨rfl, FIN.out _ _ HR1.out HR2.out _ SD.out⟩
      ·
       have cy1 : ¬ (D : Int) + (M : Int) - (s : Int) < (B : Int) := by omega
       exfalso
       obtain ⟨hA, hM, hB, hs, hh, hD, hn⟩ := HH.out
       have := hSa2.out hc
       omega
     ·
      have cx1 : ¬ (A : Int) < (s : Int) := by omega
      by_cases cy : D + M < B + s
      ·
       have cy1 : (D : Int) + (M : Int) - (s : Int) < (B : Int) := by omega
       go_wp2_with fail
       refine (HR.out (by omega) (by omega) _ SA.out).mono ?_
       rintro e w1 ⟨rfl, SB0⟩
       have SB : Aside _ := SB0
       clear SB0 SA
       go_wp2_with fail
       have HR1 := Lib.hid (LA.out.2.2.1 (by omega))
       have SC : Aside (SWB enc k w0 blk off (p ++ (X1 ++ V) ++ U ++ Y2 ++ q).toArray w1) := by rw [show p ++ (X1 ++ V) ++ U ++ Y2 ++ q = p ++ X1 ++ V ++ U ++ Y2 ++ q by simp]; exact SB.out
       clear SB
       refine (HT.out (by omega) (by omega) _ HR1.out.length _ SC.out).mono ?_
       rintro e w3 ⟨rfl, hm1⟩
       obtain ⟨r2, hr2, SD0⟩ := hm1
       have SD : Aside _ := SD0
       have HR2 := Lib.hid hr2
       clear SD0 SC hr2
       go_wp2_with fail
       first | go_end0 | skip
       exact ⟨rfl, FIN.out _ _ HR1.out HR2.out _ SD.out⟩
      ·
       have cy1 : ¬ (D : Int) + (M : Int) - (s : Int) < (B : Int) := by omega
       go_wp2_with fail
       refine (HR.out (by omega) (by omega) _ SA.out).mono ?_
       rintro e w1 ⟨rfl, SB0⟩
       have SB : Aside _ := SB0
       clear SB0 SA
       go_wp2_with fail
       have HR1 := Lib.hid (LA.out.2.2.1 (by omega))
       have SC : Aside (SWB enc k w0 blk off (p ++ (X1 ++ V) ++ U ++ Y2 ++ q).toArray w1) := by rw [show p ++ (X1 ++ V) ++ U ++ Y2 ++ q = p ++ X1 ++ V ++ U ++ Y2 ++ q by simp]; exact SB.out
       clear SB
       have HR2 := Lib.hid (LA.out.2.2.2 (by omega))
       have SD : Aside (SWB enc k w0 blk off (p ++ (X1 ++ V) ++ (U ++ Y2) ++ q).toArray w1) := by rw [show p ++ (X1 ++ V) ++ (U ++ Y2) ++ q = p ++ (X1 ++ V) ++ U ++ Y2 ++ q by simp]; exact SC.out
       clear SC
       first | go_end0 | skip
       exact ⟨rfl, FIN.out _ _ HR1.out HR2.out _ SD.out⟩
    ·
     have cv1 : ¬ (s : Int) < (D : Int) := by omega
     have cv2 : ¬ (M : Int) < (D : Int) + (M : Int) - (s : Int) := by omega
     by_cases cx : A < s
     ·
      have cx1 : (A : Int) < (s : Int) := by omega
      by_cases cy : D + M < B + s
      ·
       have cy1 : (D : Int) + (M : Int) - (s : Int) < (B : Int) := by omega
       go_wp2_with fail
       have SB : Aside (SWB enc k w0 blk off (p ++ X1 ++ V ++ U ++ Y2 ++ q).toArray wr) := by rw [LA.out.2.1 (by omega)]; exact SA.out
       clear SA
       have HR1 := Lib.hid (LA.out.2.2.1 (by omega))
       have SC : Aside (SWB enc k w0 blk off (p ++ (X1 ++ V) ++ U ++ Y2 ++ q).toArray wr) := by rw [show p ++ (X1 ++ V) ++ U ++ Y2 ++ q = p ++ X1 ++ V ++ U ++ Y2 ++ q by simp]; exact SB.out
       clear SB
       refine (HT.out (by omega) (by omega) _ HR1.out.length _ SC.out).mono ?_
       rintro e w3 ⟨rfl, hm1⟩
       obtain ⟨r2, hr2, SD0⟩ := hm1
       have SD : Aside _ := SD0
       have HR2 := Lib.hid hr2
       clear SD0 SC hr2
       go_wp2_with fail
       first | go_end0 | skip
       exact ⟨rfl, FIN.out _ _ HR1.out HR2.out _ SD.out⟩
      ·
       have cy1 : ¬ (D : Int) + (M : Int) - (s : Int) < (B : Int) := by omega
       go_wp2_with fail
       have SB : Aside (SWB enc k w0 blk off (p ++ X1 ++ V ++ U ++ Y2 ++ q).toArray wr) := by rw [LA.out.2.1 (by omega)]; exact SA.out
       clear SA
       have HR1 := Lib.hid (LA.out.2.2.1 (by omega))
       have SC : Aside (SWB enc k w0 blk off (p ++ (X1 ++ V) ++ U ++ Y2 ++ q).toArray wr) := by rw [show p ++ (X1 ++ V) ++ U ++ Y2 ++ q = p ++ X1 ++ V ++ U ++ Y2 ++ q by simp]; exact SB.out
       clear SB
       have HR2 := Lib.hid (LA.out.2.2.2 (by omega))
       have SD : Aside (SWB enc k w0 blk off (p ++ (X1 ++ V) ++ (U ++ Y2) ++ q).toArray wr) := by rw [show p ++ (X1 ++ V) ++ (U ++ Y2) ++ q = p ++ (X1 ++ V) ++ U ++ Y2 ++ q by simp]; exact SC.out
       clear SC
       first | go_end0 | skip
       exact ⟨rfl, FIN.out _ _ HR1.out HR2.out _ SD.out⟩
     ·
      have cx1 : ¬ (A : Int) < (s : Int) := by omega
      by_cases cy : D + M < B + s
      ·
       have cy1 : (D : Int) + (M : Int) - (s : Int) < (B : Int) := by omega
       go_wp2_with fail
       have SB : Aside (SWB enc k w0 blk off (p ++ X1 ++ V ++ U ++ Y2 ++ q).toArray wr) := by rw [LA.out.2.1 (by omega)]; exact SA.out
       clear SA
       have HR1 := Lib.hid (LA.out.2.2.1 (by omega))
       have SC : Aside (SWB enc k w0 blk off (p ++ (X1 ++ V) ++ U ++ Y2 ++ q).toArray wr) := by rw [show p ++ (X1 ++ V) ++ U ++ Y2 ++ q = p ++ X1 ++ V ++ U ++ Y2 ++ q by simp]; exact SB.out
       clear SB
       refine (HT.out (by omega) (by omega) _ HR1.out.length _ SC.out).mono ?_
       rintro e w3 ⟨rfl, hm1⟩
       obtain ⟨r2, hr2, SD0⟩ := hm1
       have SD : Aside _ := SD0
       have HR2 := Lib.hid hr2
       clear SD0 SC hr2
       go_wp2_with fail
       first | go_end0 | skip
       exact ⟨rfl, FIN.out _ _ HR1.out HR2.out _ SD.out⟩
      ·
       have cy1 : ¬ (D : Int) + (M : Int) - (s : Int) < (B : Int) := by omega
       go_wp2_with fail
       have SB : Aside (SWB enc k w0 blk off (p ++ X1 ++ V ++ U ++ Y2 ++ q).toArray wr) := by rw [LA.out.2.1 (by omega)]; exact SA.out
       clear SA
       have HR1 := Lib.hid (LA.out.2.2.1 (by omega))
       have SC : Aside (SWB enc k w0 blk off (p ++ (X1 ++ V) ++ U ++ Y2 ++ q).toArray wr) := by rw [show p ++ (X1 ++ V) ++ U ++ Y2 ++ q = p ++ X1 ++ V ++ U ++ Y2 ++ q by simp]; exact SB.out
       clear SB
       have HR2 := Lib.hid (LA.out.2.2.2 (by omega))
       have SD : Aside (SWB enc k w0 blk off (p ++ (X1 ++ V) ++ (U ++ Y2) ++ q).toArray wr) := by rw [show p ++ (X1 ++ V) ++ (U ++ Y2) ++ q = p ++ (X1 ++ V) ++ U ++ Y2 ++ q by simp]; exact SC.out
       clear SC
       first | go_end0 | skip
       exact ⟨rfl, FIN.out _ _ HR1.out HR2.out _ SD.out⟩
   ·
    have cu1 : ¬ (s : Int) < (M : Int) := by omega
    have cu2 : ¬ (D : Int) < (D : Int) + (M : Int) - (s : Int) := by omega
    by_cases cv : s < D
    ·
     have cv1 : (s : Int) < (D : Int) := by omega
     have cv2 : (M : Int) < (D : Int) + (M : Int) - (s : Int) := by omega
     by_cases cx : A < s
     ·
      have cx1 : (A : Int) < (s : Int) := by omega
      by_cases cy : D + M < B + s
      ·
       have cy1 : (D : Int) + (M : Int) - (s : Int) < (B : Int) := by omega
       go_wp2_with fail
       have SB : Aside (SWB enc k w0 blk off (p ++ X1 ++ V ++ U ++ Y2 ++ q).toArray wr) := by rw [LA.out.2.1 (by omega)]; exact SA.out
       clear SA
       refine (HL.out (by omega) (by omega) _ SB.out).mono ?_
       rintro e w2 ⟨rfl, hm0⟩
       obtain ⟨r1, hr1, SC0⟩ := hm0
       rw [show p ++ r1 ++ (U ++ Y2 ++ q) = p ++ r1 ++ U ++ Y2 ++ q by simp] at SC0
       have SC : Aside _ := SC0
       have HR1 := Lib.hid hr1
       clear SC0 SB hr1
       go_wp2_with fail
       have HR2 := Lib.hid (LA.out.2.2.2 (by omega))
       have SD : Aside (SWB enc k w0 blk off (p ++ r1 ++ (U ++ Y2) ++ q).toArray w2) := by rw [show p ++ r1 ++ (U ++ Y2) ++ q = p ++ r1 ++ U ++ Y2 ++ q by simp]; exact SC.out
       clear SC
       first | go_end0 | skip
       exact ⟨rfl, FIN.out _ _ HR1.out HR2.out _ SD.out⟩
      ·
       exfalso; omega
     ·
      exfalso; omega
    ·
     have cv1 : ¬ (s : Int) < (D : Int) := by omega
     have cv2 : ¬ (M : Int) < (D : Int) + (M : Int) - (s : Int) := by omega
     by_cases cx : A < s
     ·
      have cx1 : (A : Int) < (s : Int) := by omega
      by_cases cy : D + M < B + s
      ·
       have cy1 : (D : Int) + (M : Int) - (s : Int) < (B : Int) := by omega
       go_wp2_with fail
       have SB : Aside (SWB enc k w0 blk off (p ++ X1 ++ V ++ U ++ Y2 ++ q).toArray wr) := by rw [LA.out.2.1 (by omega)]; exact SA.out
       clear SA
       have HR1 := Lib.hid (LA.out.2.2.1 (by omega))
       have SC : Aside (SWB enc k w0 blk off (p ++ (X1 ++ V) ++ U ++ Y2 ++ q).toArray wr) := by rw [show p ++ (X1 ++ V) ++ U ++ Y2 ++ q = p ++ X1 ++ V ++ U ++ Y2 ++ q by simp]; exact SB.out
       clear SB
       have HR2 := Lib.hid (LA.out.2.2.2 (by omega))
       have SD : Aside (SWB enc k w0 blk off (p ++ (X1 ++ V) ++ (U ++ Y2) ++ q).toArray wr) := by rw [show p ++ (X1 ++ V) ++ (U ++ Y2) ++ q = p ++ (X1 ++ V) ++ U ++ Y2 ++ q by simp]; exact SC.out
       clear SC
       first | go_end0 | skip
       exact ⟨rfl, FIN.out _ _ HR1.out HR2.out _ SD.out⟩
      ·
       exfalso; omega
     ·
      exfalso; omega
end
end Go.Proofs.Ytabiekkebdocnaa.Srt
