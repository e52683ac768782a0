/- Lemmas for this claim's walk: no condition of their own. -/
import Derived.Test.YtafhnjlihhfoaaaUbJ13
import Derived.Test.YtafhnjlihhfoaaaUbQx0
import Derived.Test.YtafhnjlihhfoaaaUbQx10
import Derived.Test.YtafhnjlihhfoaaaUbQx11
import Derived.Test.YtafhnjlihhfoaaaUbJ15
namespace Go.Proofs.Ytafhnjlihhfoaaa.Q
open Go.RowKit Go.Proofs.YtafhnjlihhfoaaaW.PrintWords Go.Proofs.YtafhnjlihhfoaaaW.PrintLast Go.Proofs.YtafhnjlihhfoaaaW.PrintMore
attribute [local go_sem] max2_int min2_int max_two min_two max_three min_three max_four min_four
set_option linter.unusedVariables false
set_option linter.unusedSimpArgs false
def wbyN : Nat → Int → List Int
 | 0, _ => []
 | m + 1, a => a % 256 :: wbyN m (a / 256)
theorem wbyN_len : ∀ m a, (wbyN m a).length = m
 | 0, _ => rfl
 | m + 1, a => by simp [wbyN, wbyN_len m]
theorem word_l0 : ∀ (m : Nat) (k : Nat) (x : List Int) (a : Int), m ≤ 8 → x.length + m ≤ 1000 → tree_word.l0 (k + m + 1) x a (8 - m) = some (x ++ wbyN m a)
 | 0, k, x, a, _, _ => by simp [tree_word.l0, wbyN]
 | m + 1, k, x, a, h, hx => by
  have e : wrap64 ((8 : Int) - (m + 1 : Nat) + 1) = 8 - m := by unfold wrap64; omega
  rw [show k + (m + 1) + 1 = (k + m + 1) + 1 by omega, tree_word.l0, if_pos (by omega), if_pos (by omega), e]
  rw [word_l0 m k _ _ (by omega) (by simp; omega), List.append_assoc]; rfl
theorem word_f (x : List Int) (a : Int) (hx : x.length ≤ 992) : tree_word.f 9 x a = some (x ++ wbyN 8 a) := word_l0 8 0 x a (by omega) (by omega)
def pairSum (a b : Int) : Int := (Mur.sumN (wbyN 8 a ++ wbyN 8 b) 0).1
def stepB (o : List Int) (i : Nat) : List Int := if Go.bits .or .u64 (rd o (2 * (i : Int))) (rd o (2 * (i : Int) + 1)) = 0 then o else o.set i (pairSum (rd o (2 * (i : Int))) (rd o (2 * (i : Int) + 1)))
def bldI : Nat → List Int → List Int
 | 0, o => o
 | i + 1, o => bldI i (stepB o (i + 1))
def tree_Build.f (l0 : List Int) : Option (List Int) := (tree_power.f (l0.length : Int) 64).bind fun b => if b = true then (if l0.length ≤ 64 then some (bldI (l0.length - 1) (List.replicate l0.length 0 ++ l0)) else none) else some []
theorem R_spliced {W W1 : World} {e base g n cap off : Nat} {ok : Nat → Prop} {k : IntKind} {xs l : List Int} (h : Kd.R (Kd.int k) e W base ok (.slice (some ⟨g, 0, none⟩) n cap) xs) (hlen : off + l.length = xs.length) {cur : List Value} (hcur : W.heap[g]? = some (.cells cur.toArray e (0, 0)))
  (h1 : W1.heap[g]? = some (.cells (splice cur off (l.map (Value.int k))).toArray e (0, 0))) : Kd.R (Kd.int k) e W1 base ok (.slice (some ⟨g, 0, none⟩) n cap) (xs.take off ++ l) := by
 have hn := (Kd.R_reads' h).1
 have ho := Kd.own_of_R h
 obtain ⟨hl, h2⟩ := ho
 rcases h2 with ⟨h2, _⟩ | ⟨g', cap', cur', e1, hb, hg, hc1, hc2, hc3, ht⟩
 ·
  cases h2
 ·
  injection e1 with a1 a2 a3
  injection a1 with a1
  injection a1 with a1
  subst a1 a3
  rw [hcur] at hg
  injection hg with hg
  injection hg with hg
  subst hg
  have hL : (xs.take off ++ l).length = xs.length := by rw [List.length_append, List.length_take]; omega
  refine Kd.R_of_own (enc := Value.int k) (h1 := fun _ => rfl) ?_ h.1
  rw [hL]
  refine ⟨by rw [encs_length, hL]; simp, .inr ⟨g, cap, _, by rw [hn], hb, h1, by omega, hc2, ?_, ?_⟩⟩
  ·
   simp only [List.size_toArray] at hc3 ⊢
   unfold splice
   simp only [List.length_append, List.length_take, List.length_drop, List.length_map, Array.length_toList]
   omega
  ·
   unfold splice
   have ht' : cur.take xs.length = xs.map (Value.int k) := by simpa [encs] using ht
   have hcl : cur.length = cap := by simpa using hc3
   have e2 : cur.take off = (xs.take off).map (Value.int k) := by
    rw [List.map_take, ← ht', List.take_take, Nat.min_eq_left (by omega)]
   simp only [Nat.mul_one]
   rw [e2, encs, List.map_append, ← List.append_assoc, List.take_append_of_le_length (by simp; omega), List.take_of_length_le (by simp; omega)]
theorem R_cur {W : World} {e base g n cap : Nat} {ok : Nat → Prop} {k : IntKind} {xs : List Int} (h : Kd.R (Kd.int k) e W base ok (.slice (some ⟨g, 0, none⟩) n cap) xs) : ∃ cur : List Value, W.heap[g]? = some (.cells cur.toArray e (0, 0)) ∧ cur.length = cap ∧ n ≤ cap := by
 obtain ⟨hl, h2⟩ := Kd.own_of_R h
 rcases h2 with ⟨h2, _⟩ | ⟨g', cap', cur', e1, hb, hg, hc1, hc2, hc3, ht⟩
 ·
  cases h2
 ·
  have hn := (Kd.R_reads' h).1
  injection e1 with a1 a2 a3
  injection a1 with a1
  injection a1 with a1
  subst a1 a3
  exact ⟨cur'.toList, hg, by simpa using hc3, by omega⟩
theorem C_cells {W : World} {A : Option Addr} {k : IntKind} {xs : List Int} (h : Kd.C (Kd.int k) W A xs.length xs) (hp : 0 < xs.length) : ∃ ad, A = some ad ∧ ∀ (j : Nat) (v : Value), (xs.map (Value.int k))[j]? = some v → W.cell? (ad.add j) = some v := by
 obtain ⟨ad, rfl, _⟩ := Kd.at_int h 0 (by omega) (by omega)
 refine ⟨ad, rfl, fun j v hv => ?_⟩
 have hj : j < xs.length := by have := (List.getElem?_eq_some_iff.1 hv).1; simpa using this
 obtain ⟨ad', e, hc⟩ := Kd.at_int h j (by omega) (by omega)
 cases e
 rw [Int.toNat_natCast] at hc
 rw [hc]
 rw [List.getElem?_map, List.getElem?_eq_getElem hj] at hv
 unfold rd
 rw [Int.toNat_natCast, List.getD_eq_getElem?_getD, List.getElem?_eq_getElem hj]
 simpa using hv
theorem cell_off_ {w : World} {g i j : Nat} (h : i ≠ j) (u : Value) : (w.setCell ⟨g, i, none⟩ u).cell? ⟨g, j, none⟩ = w.cell? ⟨g, j, none⟩ := by
 apply World.cell?_setCell_other
 intro e
 injection e with _ e1 _
 exact h e1
theorem addr0_ (g j : Nat) : (⟨g, 0, none⟩ : Addr).add j = ⟨g, j, none⟩ := by by_cases h : j = 0 <;> simp [Addr.add, h]
set_option maxHeartbeats 4000000 in
set_option maxRecDepth 100000 in
theorem tree_Build.calls (A0 : Option Addr) (c0 : Nat) (l0 : List Int) (r : List Int) (w : World) (hr0 : Kd.C (Kd.int .u64) w A0 l0.length l0) (hc0 : l0.length ≤ c0) (h : tree_Build.f l0 = some r) :
  Calls Try.prog 9 #[.slice A0 l0.length c0] w fun e w' => ∃ v0_ : Value, e = .returned (v0_) ∧ Kd.R (Kd.int .u64) 50 w' w.heap.size (fun _ => True) v0_ r ∧ Below w.heap.size w w' := by
 have HR0 := Lib.hid hr0
 clear hr0
 unfold tree_Build.f at h
 obtain ⟨b, hp, h⟩ := Option.bind_eq_some_iff.1 h
 have HP := Lib.hid (fun W => tree_power.calls (l0.length : Int) 64 b W hp)
 have hz : b = true → l0.length ≠ 0 := by
  rintro rfl e
  rw [e] at hp
  exact absurd hp (by decide +kernel)
 clear hp
 cases b with
 | false =>
  have H := Lib.hid (show ([] : List Int) = r from Option.some.inj (by simpa using h))
  clear h
  go_enter Try.func9, Try.ntmps9
  go_wp2_with (go_at_call 29; refine (HP.out _).mono ?_; rintro e W1 ⟨rfl, m, rfl⟩)
  go_ret
  exact ⟨.slice none 0 0, rfl, H.out ▸ Kd.R_nil _ _ _ _ _, by repeat (first | exact Below.refl _ _ | apply below_alloc | apply pw_below_drewN | apply below_drew1)⟩
 | true =>
  rw [if_pos rfl] at h
  split at h
  case isFalse => cases h
  rename_i c3
  have C3 := Lib.hid c3
  have H := Lib.hid (Option.some.inj h)
  have k2 : (1 : Int) ≤ (l0.length : Int) := by have := hz rfl; omega
  have k0 : (0 : Int) ≤ (l0.length : Int) := by omega
  have k1 : (l0.length : Int) ≤ 64 := by omega
  clear h c3 hz
  go_enter Try.func9, Try.ntmps9
  go_upto_region 4 with (go_at_call 29; refine (HP.out _).mono ?_; rintro e W1 ⟨rfl, m, rfl⟩)
  go_cut [4] (fun v4 wc => ∃ g cap : Nat, v4 = .slice (some ⟨g, 0, none⟩) (l0.length + l0.length) cap ∧ Aside0 (l0.length + l0.length ≤ cap) ∧ Aside0 (Kd.R (Kd.int .u64) 50 wc w.heap.size (fun _ => True) (.slice (some ⟨g, 0, none⟩) (l0.length + l0.length) cap) (List.replicate (l0.length + l0.length) 0)) ∧ Aside0 (w.heap.size ≤ g) ∧ Aside0 (Below w.heap.size w wc))
  case first =>
   go_wp2_with ((with_reducible refine gate_dst (N := 14) rfl ?_); refine Kd.R_make (Kd.int .u64) (w0 := w) w.heap.size 50 rfl (N := 14) rfl 22 _ _ rfl (2 * (l0.length : Int)) rfl rfl Try.underlying22 (.int .u64 0) 8 info50 rfl (by decide) (by omega) 0 (ok := fun _ => True) (okp := fun _ => True) rfl (fun _ hk => hk) trivial (by omega) ?aL (pw_below_drewN (Below.refl _ _) _) (Nat.le_refl _) ?_; (case aL => have := C3.out; omega); intro v1 w1 ho hb hg_ hn_; have HO := Lib.hid ho; have HB := Lib.hid hb; clear ho hb hg_ hn_)
   go_meet
   case rel =>
    have e1 : (2 * (l0.length : Int)).toNat = l0.length + l0.length := by omega
    have ho := HO.out
    rw [e1] at ho
    obtain ⟨A, c, hv, hc, hC⟩ := Kd.R_reads ho
    rw [List.length_replicate] at hv hc
    subst hv
    obtain ⟨ad, ea, _⟩ := Kd.at_int hC 0 (by omega) (by rw [List.length_replicate]; omega)
    subst ea
    obtain ⟨g, eg⟩ := Kd.R_head ho
    subst eg
    exact ⟨g, c, rfl, ⟨hc⟩, ⟨ho⟩, ⟨Kd.R_base ho g rfl⟩, ⟨HB.out⟩⟩
  case rest =>
   obtain ⟨g, cap, rfl, HC, HO, HG, HB⟩ := hcut
   have q1 : (l0.length : Int) < (cap : Int) := by have := HC.out; omega
   have q2 : (l0.length + l0.length : Int) ≤ (cap : Int) := by have := HC.out; omega
   go_upto_region 5 with fail
   go_cut [4] (fun v4 wc => v4 = .slice (some ⟨g, 0, none⟩) (l0.length + l0.length) cap ∧ Aside0 (Kd.R (Kd.int .u64) 50 wc w.heap.size (fun _ => True) (.slice (some ⟨g, 0, none⟩) (l0.length + l0.length) cap) (List.replicate l0.length 0 ++ l0)) ∧ Aside0 (Below w.heap.size w wc))
   case first =>
    obtain ⟨cur, hcur, hcl, hcn⟩ := R_cur HO.out
    have HCU := Lib.hid hcur
    have HCL := Lib.hid hcl
    clear hcur hcl hcn
    have a1 : (l0.map (Value.int .u64)).length = Nat.min l0.length l0.length := by rw [List.length_map]; exact (Nat.min_self _).symm
    have a2 : 0 < (l0.map (Value.int .u64)).length → some (⟨g, l0.length, none⟩ : Addr) = some ⟨g, l0.length, none⟩ ∧ ∃ ad, A0 = some ad ∧ ∀ (j : Nat) (v : Value), (l0.map (Value.int .u64))[j]? = some v → wc.cell? (ad.add j) = some v := fun hp => ⟨rfl, C_cells (Kd.C_below HR0.out HB.out) (by simpa using hp)⟩
    have a3 : l0.length + (l0.map (Value.int .u64)).length ≤ cur.length := by rw [List.length_map]; have := HCL.out; have := HC.out; omega
    have a4 : ∀ v ∈ l0.map (Value.int .u64), v.oneCell' = true := by intro v hv; obtain ⟨x, _, rfl⟩ := List.mem_map.1 hv; rfl
    have A1 := Lib.hid a1
    have A2 := Lib.hid a2
    have A3 := Lib.hid a3
    have A4 := Lib.hid a4
    clear a1 a2 a3 a4
    go_wp2_with (with_reducible refine gate_builtin (b := .copy) (xs := #[.tmp 17, .tmp 18]) rfl ?_; refine wpList_copy_splice rfl (.tmp 17) (.tmp 18) 22 22 rfl 50 Try.underlying22 (by kernel_rfl) (some ⟨g, l0.length, none⟩) A0 l0.length (cap - l0.length) l0.length c0 rfl rfl g l0.length cur 50 HCU.out (l0.map (Value.int .u64)) A1.out A2.out A3.out A4.out w.heap.size w HB.out HG.out ?_; intro wc1 hh hb1; have HH := Lib.hid hh; have HB1 := Lib.hid hb1; clear hh hb1)
    go_meet
    case rel =>
     have h2 := R_spliced HO.out (by rw [List.length_replicate]) HCU.out HH.out.out
     rw [List.take_replicate, Nat.min_eq_left (by omega)] at h2
     exact ⟨rfl, ⟨h2⟩, ⟨HB1.out⟩⟩
   case rest =>
    clear HO HB
    obtain ⟨rfl, HO, HB⟩ := hcut
    have HC0 := Lib.hid (And.intro (And.intro HC.out HG.out) (And.intro C3.out k2))
    clear HC HG q1 q2
    go_upto_region 7 with fail
    obtain ⟨n1, en⟩ : ∃ n1 : Nat, l0.length = n1 + 1 := ⟨l0.length - 1, by omega⟩
    have e5 : ((l0.length : Int) - 1) = (n1 : Int) := by omega
    rw [e5]
    have EN := Lib.hid en
    clear e5 en
    go_loopg [5] n1 (fun gk v5 wr => ∃ (i : Nat) (o : List Int), v5 = .int .i64 i ∧ Aside0 (i ≤ n1 ∧ i ≤ gk ∧ o.length = l0.length + l0.length ∧ bldI i o = r) ∧ Aside0 (Kd.R (Kd.int .u64) 50 wr w.heap.size (fun _ => True) (.slice (some ⟨g, 0, none⟩) (l0.length + l0.length) cap) o) ∧ Aside0 (Below w.heap.size w wr))
    case atStart => exact ⟨n1, _, rfl, ⟨Nat.le_refl _, Nat.le_refl _, by simp, by rw [← H.out, EN.out]; simp⟩, HO, HB⟩
    case round =>
     clear HO HB
     obtain ⟨i, o, rfl, HI, HO, HB⟩ := hrel
     by_cases hi : 0 < i
     rotate_left
     ·
      have p1 : ¬ (0 : Int) < (i : Int) := by omega
      obtain rfl : i = 0 := by omega
      go_wp2
      go_ret
      exact ⟨_, rfl, by have h := HI.out.2.2.2; rw [bldI] at h; rw [← h]; exact HO.out, HB.out⟩
     have p1 : (0 : Int) < (i : Int) := by omega
     have p2 : (0 : Int) ≤ (i : Int) := by omega
     have hcc := HC0.out.1.1
     have h64 := HC0.out.2.1
     have hi1 := HI.out.1
     have hi3 := HI.out.2.2.1
     have hen := EN.out
     have p3 : (i : Int) ≤ 64 := by omega
     have p4 : (2 : Int) * (i : Int) + 2 ≤ (cap : Int) := by omega
     have p5 : (2 : Int) * (i : Int) < (cap : Int) := by omega
     have hL : 2 * (i : Int) + 1 < ((l0.length + l0.length : Nat) : Int) := by omega
     obtain ⟨ad, ea, hx⟩ := Kd.at_int (Kd.R_reads' HO.out).2.2 (2 * (i : Int)) (by omega) (by omega)
     cases ea
     obtain ⟨ad, ea, hy⟩ := Kd.at_int (Kd.R_reads' HO.out).2.2 (2 * (i : Int) + 1) (by omega) (by omega)
     cases ea
     obtain ⟨x, ex⟩ : ∃ x, rd o (2 * (i : Int)) = x := ⟨_, rfl⟩
     obtain ⟨y, ey⟩ : ∃ y, rd o (2 * (i : Int) + 1) = y := ⟨_, rfl⟩
     rw [ex] at hx
     rw [ey] at hy
     rw [show (2 * (i : Int)).toNat = 2 * i by omega] at hx
     rw [show (2 * (i : Int) + 1).toNat = 2 * i + 1 by omega] at hy
     have EX := Lib.hid ex
     have EY := Lib.hid ey
     clear ex ey hL hcc h64 hi1 hi3 hen
     have e6 : 2 * i + 2 - 2 * i = 2 := by omega
     replace hx : wr.cell? ⟨g, 2 * i, none⟩ = some (.int .u64 x) := by rw [addr0_] at hx; exact hx
     replace hy : wr.cell? ⟨g, 2 * i + 1, none⟩ = some (.int .u64 y) := by rw [addr0_] at hy; exact hy
     go_upto_region 10 with fail
     go_quiet (fail)
     by_cases hbit : Go.bits .or .u64 x y = 0
     ·
      have hbt : (Go.bits .or .u64 x y != 0) = false := by simp [hbit]
      have HBT := Lib.hid hbit
      clear hbit
      go_wp2
      go_roundg (i - 1)
      case measure => have := HI.out; omega
      case rel => exact ⟨i - 1, o, by go_num, ⟨by have := HI.out; omega, Nat.le_refl _, HI.out.2.2.1, by rw [← HI.out.2.2.2]; obtain ⟨i1, rfl⟩ : ∃ i1, i = i1 + 1 := ⟨i - 1, by omega⟩; rw [bldI]; unfold stepB; rw [if_pos (by rw [EX.out, EY.out]; exact HBT.out)]; rfl⟩, ⟨Kd.R_drewN HO.out _⟩, ⟨pw_below_drewN HB.out _⟩⟩
     ·
      have hbt : (Go.bits .or .u64 x y != 0) = true := by simp [hbit]
      have HBT := Lib.hid hbit
      clear hbit
      have hglt : g < wr.heap.size := Kd.R_lt HO.out g rfl
      have HO2 := HO.out
      obtain ⟨cur, hcur, hcl, hcn⟩ := R_cur HO2
      have hil : i < cur.length := by have := HI.out; have := EN.out; omega
      obtain ⟨cv, hci⟩ : ∃ cv, wr.cell? ⟨g, i, none⟩ = some cv := ⟨cur[i], (blk_cell hcur i).trans (by simp [hil])⟩
      have hfi : wr.frozen? ⟨g, i, none⟩ = false := blk_frozen hcur i
      have HGI := Lib.hid (And.intro hglt (And.intro hci hfi))
      have HXY := Lib.hid (And.intro hx hy)
      have HW1 := Lib.hid (fun (W : World) => tree_word.calls 9 (fun _ => False) (.slice none 0 0) [] x (wbyN 8 x) W W (Below.refl _ _) (Kd.R_nil _ _ _ _ _) (word_f [] x (by simp)))
      obtain ⟨L, hLL⟩ : ∃ L, wbyN 8 x ++ wbyN 8 y = L := ⟨_, rfl⟩
      have HW2 := Lib.hid (fun (W0 W : World) (v : Value) hB (ho : Kd.R (Kd.int .u8) 5 W W0.heap.size (fun k_ => False ∨ W0.heap.size ≤ k_) v (wbyN 8 x)) => tree_word.calls 9 (fun k_ => False ∨ W0.heap.size ≤ k_) v (wbyN 8 x) y L W0 W hB ho (hLL ▸ word_f _ y (by rw [wbyN_len]; omega)))
      obtain ⟨⟨s1, s2⟩, hs⟩ : ∃ s, Mur.sumN L 0 = s := ⟨_, rfl⟩
      have HSM := Lib.hid (fun (W : World) (A : Option Addr) (c : Nat) hC hc => murmur_Sum.calls A c L 0 s1 s2 W hC hc (by unfold murmur_Sum.f; rw [hs]))
      have HS := Lib.hid hs
      have HLL := Lib.hid hLL
      clear hs hLL HO2 hcur hcl hcn hil hci hfi hglt
      go_upto_region 11 with fail
      have p6 : (i : Int) < (l0.length : Int) + (l0.length : Int) := by have := HI.out; have := EN.out; omega
      have e6 : 2 * i + 2 - 2 * i = 2 := by omega
      go_region_held3 (fun w' => w'.cell? ⟨g, 2 * i, none⟩ = some (.int .u64 x) ∧ w'.cell? ⟨g, 2 * i + 1, none⟩ = some (.int .u64 y)) (first | go_keep | exact hs1 | exact hs2 | exact hs3 | exact ⟨(cell_off_ (by omega) _).trans hs3.1, (cell_off_ (by omega) _).trans hs3.2⟩) (first | (go_at_call 30; (with_reducible refine (HSM.out _ _ _ HR2a.out HR2b.out).mono ?_); rintro e w3 ⟨rfl, hb⟩; have HB3 := Lib.hid (below_step HB2.out hb); have hs3 : w3.cell? ⟨g, 2 * i, none⟩ = some (.int .u64 x) ∧ w3.cell? ⟨g, 2 * i + 1, none⟩ = some (.int .u64 y) := ⟨(HB3.out.cell (p := ⟨g, 2 * i, none⟩) HGI.out.1).trans HXY.out.1, (HB3.out.cell (p := ⟨g, 2 * i + 1, none⟩) HGI.out.1).trans HXY.out.2⟩; have ci3 := (HB3.out.cell (p := ⟨g, i, none⟩) HGI.out.1).trans HGI.out.2.1; have fi3 := (HB3.out.frozen (p := ⟨g, i, none⟩) HGI.out.1).trans HGI.out.2.2; clear hb) | (go_at_call 31; (with_reducible refine (HW2.out _ _ _ HB1.out HR1.out).mono ?_); rintro e w2 ⟨v1, rfl, ho, hb, -⟩; obtain ⟨A2, c2, ev2, hc2, hC2⟩ := Kd.R_reads ho; subst ev2; have HR2a := Lib.hid hC2; have HR2b := Lib.hid hc2; have HB2 := Lib.hid (below_step (pw_below_drewN (Below.refl wr.heap.size wr) _) hb); clear hC2 hc2; have hs2 : w2.cell? ⟨g, 2 * i, none⟩ = some (.int .u64 x) ∧ w2.cell? ⟨g, 2 * i + 1, none⟩ = some (.int .u64 y) := ⟨(HB2.out.cell (p := ⟨g, 2 * i, none⟩) HGI.out.1).trans HXY.out.1, (HB2.out.cell (p := ⟨g, 2 * i + 1, none⟩) HGI.out.1).trans HXY.out.2⟩; clear ho hb) | (go_at_call 31; (with_reducible refine (HW1.out _).mono ?_); rintro e w1 ⟨v0, rfl, ho, hb, -⟩; have HR1 := Lib.hid ho; have HB1 := Lib.hid hb; have HBw := Lib.hid (below_step (pw_below_drewN (Below.refl wr.heap.size wr) _) hb); have hs1 : w1.cell? ⟨g, 2 * i, none⟩ = some (.int .u64 x) ∧ w1.cell? ⟨g, 2 * i + 1, none⟩ = some (.int .u64 y) := ⟨(HBw.out.cell (p := ⟨g, 2 * i, none⟩) HGI.out.1).trans HXY.out.1, (HBw.out.cell (p := ⟨g, 2 * i + 1, none⟩) HGI.out.1).trans HXY.out.2⟩; clear ho hb))
      go_wp2
      go_roundg (i - 1)
      case measure => have := HI.out; omega
      case rel =>
       have hr := Kd.R_putn (h1 := fun _ => rfl) (enc := Value.int .u64) (Kd.R_below HO.out HB3.out) (i : Int) s1
       rw [Int.toNat_natCast] at hr
       refine ⟨i - 1, o.set i s1, by go_num, ⟨by have := HI.out; omega, Nat.le_refl _, by rw [List.length_set]; exact HI.out.2.2.1, ?_⟩, ⟨hr⟩, ⟨below_set (below_step HB.out HB3.out) HC0.out.1.2⟩⟩
       rw [← HI.out.2.2.2]
       obtain ⟨i1, rfl⟩ : ∃ i1, i = i1 + 1 := ⟨i - 1, by omega⟩
       rw [bldI]
       unfold stepB
       rw [EX.out, EY.out, if_neg HBT.out]
       unfold pairSum
       rw [HLL.out, HS.out]
       rfl
end Go.Proofs.Ytafhnjlihhfoaaa.Q
