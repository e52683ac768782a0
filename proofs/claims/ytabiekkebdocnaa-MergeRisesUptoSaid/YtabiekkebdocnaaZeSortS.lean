/- The library's stable sort, a part of its walk. -/
import Derived.Test.YtabiekkebdocnaaZeSortI
import Derived.Test.YtabiekkebdocnaaZeSort3p
import Derived.Test.YtabiekkebdocnaaZeSort3n
namespace Go.Proofs.Ytabiekkebdocnaa.Srt
open Go Go.Shelf Go.RowKit Go.Lib Go.Sort Go.Proofs
section
variable {P : Program} {α : Type} [Inhabited α] {k : Nat} {enc : α → List Value} {w0 w : World} {blk off : Nat} {d0 : Array α} {cf : α → α → Int} {g : Nat} {cb : Array Value} {cap : Nat}
theorem symA (H : L P k) (R : RowK enc k w0 blk off d0) (hN : d0.size < 4611686018427387904) (eg : ∀ args w, (callFunc g args).run P w = .ok (.enter g args) w) (hC : CmpB P g cb enc k cf w0 blk off d0.size) (HO : WOrd (ltOf cf)) : ∀ n, SymAt P k enc w0 blk off d0 cf g cb cap n
 | 0 => fun p X Y q w a m b hX hY hn => by omega
 | n + 1 => fun p X Y q w a m b hX hY hn hs sX sY S ha hm hb => by
  by_cases h1 : X.length = 1
  ·
   obtain ⟨x, rfl⟩ : ∃ x, X = [x] := List.length_eq_one_iff.1 h1
   simp only [List.length_singleton] at hs hm hb
   have := sym1 (cap := cap) H R hN eg hC HO p x Y q hs sY (by rw [show p ++ x :: (Y ++ q) = p ++ [x] ++ Y ++ q by simp]; exact S) a m b ha hm hb
   exact this.mono fun e w' h => ⟨h.1, by obtain ⟨r, hr, hw⟩ := h.2; exact ⟨r, hr, hw⟩⟩
  ·
   by_cases h2 : Y.length = 1
   ·
    obtain ⟨y, rfl⟩ : ∃ y, Y = [y] := List.length_eq_one_iff.1 h2
    simp only [List.length_singleton] at hs hb
    have := sym2 (cap := cap) H R hN eg hC HO p X y q (by omega) hs sX (by rw [show p ++ X ++ y :: q = p ++ X ++ [y] ++ q by simp]; exact S) a m b ha hm hb
    exact this.mono fun e w' h => ⟨h.1, by obtain ⟨r, hr, hw⟩ := h.2; exact ⟨r, hr, hw⟩⟩
   ·
    have IH := symA H R hN eg hC HO n
    by_cases hc : (X.length + Y.length) / 2 < X.length
    ·
     exact sym3p H R hN eg hC HO n IH p X Y q (by omega) (by omega) hn hc hs sX sY S a m b ha hm hb
    ·
     exact sym3n H R hN eg hC HO n IH p X Y q (by omega) (by omega) hn hc hs sX sY S a m b ha hm hb
set_option maxHeartbeats 4000000 in
set_option maxRecDepth 1000000 in
theorem stb (H : L P k) (R : RowK enc k w0 blk off d0) (hN : d0.size < 1152921504606846976) (eg : ∀ args w, (callFunc g args).run P w = .ok (.enter g args) w) (hC : CmpB P g cb enc k cf w0 blk off d0.size) (HO : WOrd (ltOf cf)) (l : List α) (hs : l.length = d0.size) (S : SWB enc k w0 blk off l.toArray w) (n : Int) (hn : n = (l.length : Nat)) :
  Calls P 57 #[.slice (some ⟨blk, off, none⟩) d0.size cap, .int .i64 n, .func (.func g) #[] cb] w fun e w' => e = .returned (.tuple #[]) ∧ Merged enc k w0 blk off cf [] l [] w' := by
 have mixed := H.mixed; have t0 := H.t0; have a0 := H.a0; have z0 := H.z0; have v0 := H.v0; have t3 := H.t3; have a3 := H.a3; have z3 := H.z3; have v3 := H.v3; have t4 := H.t4; have a4 := H.a4; have z4 := H.z4; have v4 := H.v4; have t22 := H.t22; have a22 := H.a22; have z22 := H.z22; have v22 := H.v22; have t25 := H.t25; have a25 := H.a25; have z25 := H.z25; have v25 := H.v25; have aE := H.aE; have zE := H.zE; have t45 := H.t45; have a45 := H.a45; have z45 := H.z45; have v45 := H.v45
 have eI : ∀ args w, (callFunc 66 args).run P w = .ok (.enter 66 args) w := enters_of H.fI (by kernel_rfl) rfl
 have eM : ∀ args w, (callFunc 67 args).run P w = .ok (.enter 67 args) w := enters_of H.fM (by kernel_rfl) rfl
 have FG := H.fS
 obtain ⟨N, hN'⟩ : ∃ N : Nat, N = l.length := ⟨_, rfl⟩
 obtain rfl : n = (N : Int) := by rw [hn, hN']
 have HC : Aside _ := hC
 have S0 : Aside _ := S
 have hNN : N < 1152921504606846976 := by omega
 have HH : Hid (N = l.length ∧ l.length = d0.size) := ⟨hN', hs⟩
 have HO' := Lib.hid HO
 have CI := Lib.hid (fun (p m q : List α) (w' : World) (a b : Int) (h1 : p.length + m.length + q.length = d0.size) (S : SWB enc k w0 blk off (p ++ m ++ q).toArray w') (ha : a = (p.length : Nat)) (hb : b = (p.length + m.length : Nat)) => insn (w := w') (cap := cap) H R (by omega) eg hC HO p m q h1 S a b ha hb)
 have CM := Lib.hid (symA (cap := cap) H R (by omega) eg hC HO d0.size)
 clear S hn hN' hs hC HO
 go_enter FG, Try.ntmps57
 go_wp2
 go_loopg [7, 8] (N + 1) (fun g1 va vb wr => ∃ (a : Nat) (l1 l2 r1 : List α), va = .int .i64 a ∧ vb = .int .i64 ((a : Int) + 20) ∧ a ≤ N ∧ N - a ≤ g1 ∧ Hid (l = l1 ++ l2 ∧ l1.length = a ∧ 20 ∣ l1.length ∧ Chunks (ltOf cf) 20 l1 r1) ∧ Aside (SWB enc k w0 blk off (r1 ++ l2).toArray wr))
 case atStart => exact ⟨0, [], l, [], by go_num, by go_num, by omega, by omega, ⟨rfl, rfl, by simp, .last (by simp) (Stab.refl List.Pairwise.nil)⟩, S0⟩
 case round =>
  clear S0
  obtain ⟨a, l1, l2, r1, rfl, rfl, haN, hg1, HI, S1⟩ := hrel
  by_cases hle : a + 20 ≤ N
  ·
   have hlez : (a : Int) + 20 ≤ (N : Int) := by omega
   obtain ⟨e1, e2, e3, e4⟩ := HI.out
   obtain ⟨f1, f2⟩ := HH.out
   obtain ⟨m, q, rfl, hm⟩ := part l2 20 (by rw [e1, List.length_append] at f1; omega)
   have n1 := congrArg List.length e1
   simp only [List.length_append] at n1
   have hr := e4.length
   have HCI := Lib.hid (CI.out r1 m q wr (a : Int) ((a : Int) + 20) (by omega) (by rw [List.append_assoc]; exact S1.out) (by omega) (by omega))
   have HI2 := Lib.hid (show l = (l1 ++ m) ++ q ∧ (l1 ++ m).length = a + 20 ∧ 20 ∣ (l1 ++ m).length ∧ ∀ s, Stab (ltOf cf) m s → Chunks (ltOf cf) 20 (l1 ++ m) (r1 ++ s) from
    ⟨by rw [e1]; simp, by simp only [List.length_append]; omega, by simp only [List.length_append]; omega, fun s hs => e4.snoc e3 (by omega) hs⟩)
   clear e1 e2 e3 e4 f1 f2 S1 HI n1 hr hm
   go_wp2_with (go_at_call 66; refine HCI.out.mono ?_; rintro e w1 ⟨rfl, hm0⟩)
   obtain ⟨s, hs, S20⟩ := hm0
   have S2 : Aside _ := S20
   have HS := Lib.hid (HI2.out.2.2.2 s hs)
   clear S20 hs HCI
   go_wp2
   go_roundg (N - (a + 20))
   case measure => omega
   case rel => exact ⟨a + 20, l1 ++ m, q, r1 ++ s, by go_num, by first | rfl | go_num | (congr 1; omega), by omega, by omega, ⟨HI2.out.1, HI2.out.2.1, HI2.out.2.2.1, HS.out⟩, S2⟩
  ·
   have hlez : ¬ (a : Int) + 20 ≤ (N : Int) := by omega
   obtain ⟨e1, e2, e3, e4⟩ := HI.out
   obtain ⟨f1, f2⟩ := HH.out
   have n1 := congrArg List.length e1
   simp only [List.length_append] at n1
   have hr := e4.length
   have HCI := Lib.hid (CI.out r1 l2 [] wr (a : Int) (N : Int) (by simp only [List.length_nil]; omega) (by rw [List.append_nil]; exact S1.out) (by omega) (by omega))
   have HI2 := Lib.hid (fun s (hs : Stab (ltOf cf) l2 s) => show Chunks (ltOf cf) 20 l (r1 ++ s) from by rw [e1]; exact e4.snoc e3 (by omega) hs)
   clear e1 e2 e3 e4 f1 f2 S1 HI n1 hr
   go_wp2_with (go_at_call 66; refine HCI.out.mono ?_; rintro e w1 ⟨rfl, hm0⟩)
   obtain ⟨s, hs, S20⟩ := hm0
   rw [List.append_nil] at S20
   have S2 : Aside _ := S20
   have HS := Lib.hid (HI2.out s hs)
   clear S20 hs HCI HI2
   go_loopg [6] (N + 1) (fun g2 vn wr => ∃ (bs : Nat) (r : List α), vn = .int .i64 bs ∧ 1 ≤ bs ∧ bs < 2305843009213693952 ∧ (bs < N → N - bs ≤ g2) ∧ Hid (Chunks (ltOf cf) bs l r) ∧ Aside (SWB enc k w0 blk off r.toArray wr))
   case atStart => exact ⟨20, r1 ++ s, by go_num, by omega, by omega, by omega, HS, S2⟩
   case round =>
    clear S2 HS
    obtain ⟨bs, r, rfl, hb1, hb2, hg2, HCh, S3⟩ := hrel
    by_cases hlt : bs < N
    ·
     have hltz : (bs : Int) < (N : Int) := by omega
     have w2 : IntKind.i64.wrap (2 * (bs : Int)) = 2 * (bs : Int) := by rw [IntKind.wrap_i64]; omega
     have w3 : IntKind.i64.wrap ((bs : Int) * 2) = (bs : Int) * 2 := by rw [IntKind.wrap_i64]; omega
     go_wp2
     go_loopg [7, 8] (N + 1) (fun g3 va vb wr => ∃ (a : Nat) (l1 l2 r1 r2 : List α), va = .int .i64 a ∧ vb = .int .i64 ((a : Int) + 2 * (bs : Int)) ∧ a ≤ N ∧ N - a ≤ g3 ∧ Hid (l = l1 ++ l2 ∧ l1.length = a ∧ 2 * bs ∣ l1.length ∧ Chunks (ltOf cf) (2 * bs) l1 r1 ∧ Chunks (ltOf cf) bs l2 r2) ∧ Aside (SWB enc k w0 blk off (r1 ++ r2).toArray wr))
     case atStart => exact ⟨0, [], l, [], r, by go_num, by first | rfl | go_num | (congr 1; omega), by omega, by omega, ⟨rfl, rfl, by simp, .last (by simp) (Stab.refl List.Pairwise.nil), HCh.out⟩, S3⟩
     case round =>
      clear S3 HCh
      obtain ⟨a, l1, l2, r1, r2, rfl, rfl, haN, hg3, HI, S4⟩ := hrel
      obtain ⟨e1, e2, e3, e4, e5⟩ := HI.out
      obtain ⟨f1, f2⟩ := HH.out
      have n1 := congrArg List.length e1
      rw [List.length_append] at n1
      have hr1 := e4.length
      have hr2 := e5.length
      rcases e5.two with ⟨hsm, hst⟩ | ⟨ca, cb', cc, ca', cb2, cc', g1, g2', g3, g4, g5, g6, g7, g8, g9⟩
      ·
       -- one block is left
       have hle : ¬ (a : Int) + 2 * (bs : Int) ≤ (N : Int) := by omega
       have hlt2 : ¬ (a : Int) + (bs : Int) < (N : Int) := by omega
       have HS := Lib.hid (show Chunks (ltOf cf) (2 * bs) l (r1 ++ r2) from by rw [e1]; exact e4.snoc e3 (by omega) hst)
       have wa : IntKind.i64.wrap ((a : Int) + (bs : Int)) = (a : Int) + (bs : Int) := by rw [IntKind.wrap_i64]; omega
       clear e1 e2 e3 e4 e5 f1 f2 n1 hr1 hr2 hsm hst HI
       go_wp2
       go_roundg (N - 2 * bs)
       case measure => omega
       case rel => exact ⟨2 * bs, r1 ++ r2, by first | rfl | go_num | (congr 1; omega), by omega, by omega, by omega, HS, S4⟩
      ·
       rw [g1, List.length_append, List.length_append] at n1
       have q1 := g4.length
       have q2 := g6.length
       have q3 := g9.length
       have wa : IntKind.i64.wrap ((a : Int) + (bs : Int)) = (a : Int) + (bs : Int) := by rw [IntKind.wrap_i64]; omega
       have HS := Lib.hid (fun s (hs : Stab (ltOf cf) (ca' ++ cb2) s) => show Chunks (ltOf cf) (2 * bs) (l1 ++ (ca ++ cb')) (r1 ++ s) from e4.snoc e3 (by rw [List.length_append]; omega) (g4.both g6 hs))
       have SL : Aside (SWB enc k w0 blk off (r1 ++ ca' ++ cb2 ++ cc').toArray wr) := by rw [show r1 ++ ca' ++ cb2 ++ cc' = r1 ++ r2 by rw [g2']; simp]; exact S4
       by_cases hle' : a + 2 * bs ≤ N
       ·
        -- two whole blocks
        have hle : (a : Int) + 2 * (bs : Int) ≤ (N : Int) := by omega
        have hbl : cb'.length = bs := by
         rcases g7 with ⟨g7, c1, c2⟩ | g7
         ·
          rw [c1] at n1; simp only [List.length_nil] at n1; omega
         ·
          exact g7
        have HM := Lib.hid (CM.out r1 ca' cb2 cc' wr (a : Int) ((a : Int) + (bs : Int)) ((a : Int) + 2 * (bs : Int)) (by omega) (by omega) (by omega) (by omega) g4.srt g6.srt SL.out (by omega) (by omega) (by omega))
        have HI2 := Lib.hid (show l = (l1 ++ (ca ++ cb')) ++ cc ∧ (l1 ++ (ca ++ cb')).length = a + 2 * bs ∧ 2 * bs ∣ (l1 ++ (ca ++ cb')).length ∧ Chunks (ltOf cf) bs cc cc' from
         ⟨by rw [e1, g1]; simp, by simp only [List.length_append]; omega, by rw [List.length_append]; exact (Nat.dvd_add_right e3).2 (by rw [List.length_append]; exact ⟨1, by omega⟩), g9⟩)
        have wb : IntKind.i64.wrap ((a : Int) + 2 * (bs : Int) + 2 * (bs : Int)) = (a : Int) + 2 * (bs : Int) + 2 * (bs : Int) := by rw [IntKind.wrap_i64]; omega
        clear e1 e2 e3 e4 e5 f1 f2 n1 hr1 hr2 HI g1 g2' g3 g4 g5 g6 g7 g8 g9 q1 q2 q3 S4 SL hbl
        go_wp2_with (go_at_call 67; refine HM.out.mono ?_; rintro e w1 ⟨rfl, hm0⟩)
        obtain ⟨s, hs, S50⟩ := hm0
        have S5 : Aside _ := S50
        have HS2 := Lib.hid (HS.out s hs)
        clear S50 hs HM HS
        go_wp2
        go_roundg (N - (a + 2 * bs))
        case measure => omega
        case rel => exact ⟨a + 2 * bs, l1 ++ (ca ++ cb'), cc, r1 ++ s, cc', by first | rfl | go_num | (congr 1; omega), by first | rfl | go_num | (congr 1; omega), by omega, by omega, ⟨HI2.out.1, HI2.out.2.1, HI2.out.2.2.1, HS2.out, HI2.out.2.2.2⟩, S5⟩
       ·
        -- a block, and what is left
        have hle : ¬ (a : Int) + 2 * (bs : Int) ≤ (N : Int) := by omega
        obtain ⟨c1, c2⟩ : cc = [] ∧ cc' = [] := by
         rcases g7 with ⟨g7, c1, c2⟩ | g7
         ·
          exact ⟨c1, c2⟩
         ·
          exfalso; omega
        rw [c1] at n1
        simp only [List.length_nil] at n1
        by_cases hm' : a + bs < N
        ·
         have hlt2 : (a : Int) + (bs : Int) < (N : Int) := by omega
         have HM := Lib.hid (CM.out r1 ca' cb2 [] wr (a : Int) ((a : Int) + (bs : Int)) (N : Int) (by omega) (by omega) (by omega) (by simp only [List.length_nil]; omega) g4.srt g6.srt (by rw [← c2]; exact SL.out) (by omega) (by omega) (by omega))
         have HL := Lib.hid (show l = l1 ++ (ca ++ cb') from by rw [e1, g1, c1]; simp)
         clear e1 e2 e3 e4 e5 f1 f2 n1 hr1 hr2 HI g1 g2' g3 g4 g5 g6 g7 g8 g9 q1 q2 q3 S4 SL c1 c2
         go_wp2_with (go_at_call 67; refine HM.out.mono ?_; rintro e w1 ⟨rfl, hm0⟩)
         obtain ⟨s, hs, S50⟩ := hm0
         rw [List.append_nil] at S50
         have S5 : Aside _ := S50
         have HS2 := Lib.hid (HS.out s hs)
         rw [← HL.out] at HS2
         clear S50 hs HM HS
         go_wp2
         go_roundg (N - 2 * bs)
         case measure => omega
         case rel => exact ⟨2 * bs, r1 ++ s, by first | rfl | go_num | (congr 1; omega), by omega, by omega, by omega, HS2, S5⟩
        ·
         have hlt2 : ¬ (a : Int) + (bs : Int) < (N : Int) := by omega
         have hcb : cb' = [] := List.eq_nil_of_length_eq_zero (by omega)
         have hcb2 : cb2 = [] := List.eq_nil_of_length_eq_zero (by omega)
         have HS2 := Lib.hid (HS.out (ca' ++ cb2) (by rw [hcb2, List.append_nil]; exact Stab.refl g4.srt))
         rw [show l1 ++ (ca ++ cb') = l by rw [e1, g1, c1]; simp, show r1 ++ (ca' ++ cb2) = r1 ++ r2 by rw [g2', c2]; simp] at HS2
         clear e1 e2 e3 e4 e5 f1 f2 n1 hr1 hr2 HI g1 g2' g3 g4 g5 g6 g7 g8 g9 q1 q2 q3 SL c1 c2 hcb hcb2 HS
         go_wp2
         go_roundg (N - 2 * bs)
         case measure => omega
         case rel => exact ⟨2 * bs, r1 ++ r2, by first | rfl | go_num | (congr 1; omega), by omega, by omega, by omega, HS2, S4⟩
    ·
     have hltz : ¬ (bs : Int) < (N : Int) := by omega
     go_wp2
     go_end0
     exact ⟨rfl, r, HCh.out.done (by rw [← HH.out.1]; omega), by simpa using S3.out⟩
set_option maxHeartbeats 1000000 in
theorem stb0 (H : L P k) (A : Option Addr) (c : Nat) (F : Value) (w : World) : Calls P 57 #[.slice A 0 c, .int .i64 0, F] w fun e w' => e = .returned (.tuple #[]) ∧ w' = w := by
 have mixed := H.mixed; have t0 := H.t0; have a0 := H.a0; have z0 := H.z0; have v0 := H.v0; have t3 := H.t3; have a3 := H.a3; have z3 := H.z3; have v3 := H.v3; have t4 := H.t4; have a4 := H.a4; have z4 := H.z4; have v4 := H.v4; have t22 := H.t22; have a22 := H.a22; have z22 := H.z22; have v22 := H.v22; have t25 := H.t25; have a25 := H.a25; have z25 := H.z25; have v25 := H.v25; have aE := H.aE; have zE := H.zE; have t45 := H.t45; have a45 := H.a45; have z45 := H.z45; have v45 := H.v45
 have eI : ∀ args w, (callFunc 66 args).run P w = .ok (.enter 66 args) w := enters_of H.fI (by kernel_rfl) rfl
 have FI := H.fI
 have FG := H.fS
 have CI : Calls P 66 #[.slice A 0 c, .int .i64 0, .int .i64 0, F] w fun e w' => e = .returned (.tuple #[]) ∧ w' = w := by
  go_enter FI, Try.ntmps66
  go_wp2
  go_loopg [8] 0 (fun g1 vi wr => vi = .int .i64 1 ∧ wr = w)
  case atStart => exact ⟨by go_num, rfl⟩
  case round =>
   obtain ⟨rfl, rfl⟩ := hrel
   go_wp2
   go_end0
   exact ⟨rfl, rfl⟩
 have HCI := Lib.hid CI
 clear CI
 go_enter FG, Try.ntmps57
 go_wp2
 go_loopg [7, 8] 0 (fun g1 va vb wr => va = .int .i64 0 ∧ vb = .int .i64 20 ∧ wr = w)
 case atStart => exact ⟨rfl, rfl, rfl⟩
 case round =>
  obtain ⟨rfl, rfl, rfl⟩ := hrel
  go_wp2_with (go_at_call 66; refine HCI.out.mono ?_; rintro e w1 ⟨rfl, rfl⟩)
  go_loopg [6, 7, 8] 0 (fun g1 v6 va vb wr => v6 = .int .i64 20 ∧ wr = w1)
  case atStart => exact ⟨rfl, rfl⟩
  case round =>
   obtain ⟨rfl, rfl⟩ := hrel
   go_wp2
   go_end0
   exact ⟨rfl, rfl⟩
end
end Go.Proofs.Ytabiekkebdocnaa.Srt
