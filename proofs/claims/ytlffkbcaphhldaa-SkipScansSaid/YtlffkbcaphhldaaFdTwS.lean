/- Lemmas for this claim's walk: no condition of their own. -/
import Derived.Test.YtlffkbcaphhldaaFdSkA
import Derived.Test.YtlffkbcaphhldaaFdRh
import Derived.Test.YtlffkbcaphhldaaFdJ4
import Derived.Deep.MidRow
import Derived.WalkLawsBesides
import Derived.WalkSpells
import Derived.Lib.Hide
import Derived.Deep.DeepFit
import Derived.Outline
namespace Go.Proofs.Ytlffkbcaphhldaa.Q
open Go.RowKit Go.Proofs.YtlffkbcaphhldaaW.PrintWords Go.Proofs.YtlffkbcaphhldaaW.PrintLast Go.Proofs.YtlffkbcaphhldaaW.PrintMore
attribute [local go_sem] max2_int min2_int max_two min_two max_three min_three max_four min_four
set_option linter.unusedVariables false
set_option linter.unusedSimpArgs false
open Go.Lib Go.Proofs.Ytlffkbcaphhldaa.Sk Go.Proofs.Ytlffkbcaphhldaa.Pl Go.Proofs.Ytlffkbcaphhldaa.Ord Go.Proofs.Ytlffkbcaphhldaa.Nm Go.Proofs.Ytlffkbcaphhldaa.Rh
attribute [local go_sem] Oper.semAt_some
theorem towers_calls (p : Option Addr) (w : World) : Calls Try.prog 34 #[.pointer p] w fun e w' => e = .returned (.func (.func 43) #[] #[.pointer (some ⟨w.heap.size, 0, none⟩)]) ∧ w.alloc (.cells #[.pointer p] 65) = w' := by
 go_enter Try.func34, Try.ntmps34
 go_wp2
 go_ret
 exact ⟨rfl, rfl⟩
def nx (T : List Tw) (p : Nat) : Option Nat := if p + 1 < T.length then some (tg T (p + 1)).b else none
theorem mv_set {n1 B : Nat} {w : World} {v u : Value} (hB : w.heap[B]? = some (.cells #[v] 65 (0, 0))) (h1 : n1 ≤ B) : Mv 65 n1 w (w.setCell ⟨B, 0, none⟩ u) :=
 ⟨rfl, rfl, rfl, by simp [World.setCell], fun k hk hc => Below.heap_setCell w ⟨B, 0, none⟩ u k fun e => by
  have e2 : k = B := e
  subst e2
  rcases hc with hc | hc
  ·
   omega
  ·
   exact hc _ _ hB⟩
set_option maxHeartbeats 2000000 in
set_option maxRecDepth 100000 in
theorem towers_seq (n : Nat) (hn : 1 ≤ n) (T : List Tw) (p0 B n1 : Nat) (w : World) (hM : Mem w T) (hB : w.heap[B]? = some (.cells #[pw (nx T p0)] 65 (0, 0))) (h1 : ∀ q, q < T.length → (tg T q).b < n1) (hB1 : n1 ≤ B) (hp0 : p0 < T.length) :
  SeqH 65 0 n1 Fence.wide n Try.prog 43 #[.pointer (some ⟨B, 0, none⟩)] (fun t : Tw => #[.pointer (some ⟨t.b, 0, none⟩)]) (T.drop (p0 + 1)) w := by
 intro l J Jx W hb hJM hY h0
 refine callsIn_wide.2 ?_
 have HMv := Lib.hid hJM
 have HY := Lib.hid hY
 have HJ := Lib.hid h0
 have HB := Lib.hid (blk_below hB hb)
 have HT := Lib.hid (hM.below hb)
 have HN := Lib.hid hn
 have H1 := Lib.hid (And.intro h1 hB1)
 clear hJM hY h0 hB hM hn h1 hB1 hb
 show Calls Try.prog 43 #[.func (.yield l) #[] #[], .pointer (some ⟨B, 0, none⟩)] W _
 go_enter Try.func43, Try.ntmps43
 go_wp2_with fail
 go_loopg [] T.length (fun gk wr => ∃ q : Nat, Aside0 (p0 ≤ q ∧ q < T.length ∧ T.length - q ≤ gk) ∧ Aside0 (J ((T.drop (p0 + 1)).take (q - p0)) wr) ∧ Aside0 (wr.heap[B]? = some (.cells #[pw (nx T q)] 65 (0, 0))) ∧ Aside0 (Mem wr T))
 case atStart => exact ⟨p0, ⟨Nat.le_refl _, hp0, by omega⟩, ⟨by rw [Nat.sub_self]; exact HJ.out⟩, ⟨HB.out⟩, ⟨HT.out⟩⟩
 case round =>
  clear HJ HB HT
  obtain ⟨q, HQ, HJ, HB, HT⟩ := hrel
  have cb := (blk_cell HB.out 0).trans (show _ = some (pw (nx T q)) from rfl)
  have fb := blk_frozen HB.out 0
  by_cases hq : q + 1 < T.length
  ·
   have hnx : nx T q = some (tg T (q + 1)).b := by unfold nx; rw [if_pos hq]
   rw [hnx] at cb
   simp only [pw, Option.map_some] at cb
   have hpre : (T.drop (p0 + 1)).take (q - p0) ++ [tg T (q + 1)] = (T.drop (p0 + 1)).take (q + 1 - p0) := by
    have hl : q - p0 < (T.drop (p0 + 1)).length := by rw [List.length_drop]; have := HQ.out; omega
    rw [show q + 1 - p0 = (q - p0) + 1 by have := HQ.out.1; omega, List.take_succ_eq_append_getElem hl, List.getElem_drop]
    congr 2
    have e : p0 + 1 + (q - p0) = q + 1 := by have := HQ.out.1; omega
    simp only [e]
    exact (tg_get hq).symm
   obtain ⟨fn, tmps, assign, body, hy, hR⟩ := HY.out _ (tg T (q + 1)) wr HJ.out (by rw [hpre]; exact List.take_prefix _ _)
   have HR := Lib.hid hR
   have HP := Lib.hid hpre
   have HQ1 := Lib.hid hq
   clear hnx hpre hR hq
   go_upto_region 0 with fail
   refine (wpIn_wide (n := n)).1 ?_
   gi_wp2_with fail
   refine ⟨fun _ => HN.out, HR.out.mono ?_⟩
   clear cb fb
   rintro e W3 (⟨rfl, hJ3, hk3⟩ | ⟨rfl, hJx3⟩)
   ·
    have hB3 : W3.heap[B]? = some (.cells #[pw (nx T q)] 65 (0, 0)) := (hk3.same B (blk_lt HB.out) (.inr ⟨_, _, HB.out⟩)).trans HB.out
    have HT3 := Lib.hid (HT.out.keep fun r hr => hk3.same _ (blk_lt (HT.out.blk r hr)) (.inl ⟨Nat.zero_le _, H1.out.1 r hr⟩))
    have cb := (blk_cell hB3 0).trans (show _ = some (pw (nx T q)) from rfl)
    rw [show nx T q = some (tg T (q + 1)).b by unfold nx; rw [if_pos HQ1.out]] at cb
    simp only [pw, Option.map_some] at cb
    have fb := blk_frozen hB3 0
    have hnx2 : lk' T (q + 1) (tg T (q + 1)).h 0 = nx T (q + 1) := HT3.out.next0 HQ1.out
    have cn := (blk_cell (HT3.out.blk (q + 1) HQ1.out) 11).trans (show _ = some (pw (lk' T (q + 1) (tg T (q + 1)).h 0)) from rfl)
    rw [hnx2] at cn
    rw [HP.out] at hJ3
    have HS3 := Lib.hid (And.intro hB3 (And.intro hJ3 (blk_put hB3 0 (pw (nx T (q + 1))) rfl)))
    obtain ⟨vp, hvp⟩ : ∃ vp, pw (nx T (q + 1)) = .pointer vp := ⟨_, rfl⟩
    rw [hvp] at cn
    have HVP := Lib.hid hvp
    clear hk3 hB3 hJ3 hnx2 hvp
    gi_wp2
    go_wp2_with fail
    go_roundg (T.length - (q + 1))
    case measure => have := HQ.out; omega
    case rel =>
     refine ⟨q + 1, ⟨by have := HQ.out; omega, HQ1.out, Nat.le_refl _⟩, ⟨HMv.out _ _ _ HS3.out.2.1 (mv_set HS3.out.1 H1.out.2)⟩, ⟨by rw [← HVP.out]; exact HS3.out.2.2⟩, ⟨HT3.out.keep fun r hr => Below.heap_setCell W3 ⟨B, 0, none⟩ _ _ fun e => ?_⟩⟩
     have e2 : (tg T r).b = B := e
     have := H1.out.1 r hr
     have := H1.out.2
     omega
   ·
    gi_wp2
    go_wp2_with fail
    go_end0
    exact ⟨⟨_, rfl⟩, .inr ⟨_, by rw [HP.out]; exact List.take_prefix _ _, hJx3⟩⟩
  ·
   have hnx : nx T q = none := by unfold nx; rw [if_neg hq]
   rw [hnx] at cb
   simp only [pw, Option.map_none] at cb
   have hJ2 := HJ.out
   rw [List.take_of_length_le (by rw [List.length_drop]; have := HQ.out; omega)] at hJ2
   have HJ2 := Lib.hid hJ2
   clear hnx hq hJ2
   go_wp2_with fail
   go_end0
   exact ⟨⟨_, rfl⟩, .inl HJ2.out⟩
end Go.Proofs.Ytlffkbcaphhldaa.Q
