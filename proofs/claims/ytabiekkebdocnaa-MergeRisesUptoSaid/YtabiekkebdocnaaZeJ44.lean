/- Lemmas for this claim's walk: no condition of their own. -/
import Derived.Test.YtabiekkebdocnaaZeQx23
import Derived.Test.YtabiekkebdocnaaZeJ32
import Derived.Test.YtabiekkebdocnaaZeJ0
import Derived.Test.YtabiekkebdocnaaZeDown
import Derived.Test.YtabiekkebdocnaaZeSorted
import Derived.Test.YtabiekkebdocnaaZeTake
import Derived.Test.YtabiekkebdocnaaZeEach
import Derived.Test.YtabiekkebdocnaaZeGrp
import Derived.Test.YtabiekkebdocnaaZeRh
import Derived.Test.YtabiekkebdocnaaZeSeqE
import Derived.Test.YtabiekkebdocnaaZeJ13
import Derived.Test.YtabiekkebdocnaaZeAll
import Derived.Test.YtabiekkebdocnaaZeJ42
import Derived.Test.YtabiekkebdocnaaZeSub
import Derived.Test.YtabiekkebdocnaaZeJ35
import Derived.Test.YtabiekkebdocnaaProg
import Derived.Shelf.SlSortCmp.KitK
import Derived.Shelf.SlicesQ.IndexFunc
import Derived.Lib.SlKept
import Derived.Lib.Hide
import Derived.Outline
import Derived.Deep.MidRow
import Derived.WalkLawsBesides
import Derived.WalkSpells
import Derived.Deep.DeepFit
import Derived.Test.YtabiekkebdocnaaZeQx0
import Derived.Test.YtabiekkebdocnaaZeQx25
import Derived.Test.YtabiekkebdocnaaZeQx27
import Derived.Test.YtabiekkebdocnaaZeJ16
import Derived.Test.YtabiekkebdocnaaZeQx24
import Derived.Deep.RegionHeld3
namespace Go.Proofs.Ytabiekkebdocnaa.Q
open Go.RowKit Go.Proofs.YtabiekkebdocnaaW.PrintWords Go.Proofs.YtabiekkebdocnaaW.PrintLast Go.Proofs.YtabiekkebdocnaaW.PrintMore
attribute [local go_sem] max2_int min2_int max_two min_two max_three min_three max_four min_four
set_option linter.unusedVariables false
set_option linter.unusedSimpArgs false
open Go.Lib Go.Proofs.Ytabiekkebdocnaa.Hp Go.Proofs.Ytabiekkebdocnaa.Pl Go.Proofs.Ytabiekkebdocnaa.Rh Go.Proofs.Ytabiekkebdocnaa.Ord Go.Proofs.Ytabiekkebdocnaa.Nm
theorem lsok {ls : List (List Cl)} (h1 : ls.length ≤ 900000) (h2 : ∀ l ∈ ls, l.length ≤ 1256584717421) (h3 : (ls.flatMap normC).length ≤ 1256584717457) : LsOk normC ls := ⟨fun l hl => by
 have h3 := h2 l hl
 obtain ⟨b, hb, hb2⟩ := sorted_f l (by omega) (l.length + 8) (by omega)
 refine ⟨⟨_, b, hb, fun e => norm_self (hb2.1 e), fun _ => ⟨l.length + 7, norm_f l (by omega) _ (by omega)⟩⟩, ?_⟩
 have : (normC l).length ≤ l.length := norm_len (c := cmpK) (key := keyC) (jn := joinC) l
 omega, fun l _ => norm_inc cmpK_cmp joinC_key l, h1, h3⟩
theorem norm2 (l : List Cl) : normC (normC l) = normC l := norm_self (norm_inc cmpK_cmp joinC_key l)
theorem one_ok {l : List Cl} (h : l.length ≤ 1256584717421) : LsOk normC [l] := lsok (by simp) (fun x hx => by obtain rfl := List.mem_singleton.1 hx; exact h) (by
 have : (normC l).length ≤ l.length := norm_len (c := cmpK) (key := keyC) (jn := joinC) l
 simp only [List.flatMap_cons, List.flatMap_nil, List.append_nil]; omega)
theorem sub2_calls {a b : List Cl} (ha : a.length ≤ 1256584717421) (hb : b.length ≤ 1256584717421) (hka : ∀ y ∈ a, KeyW y.f0) (hkb : ∀ y ∈ b, KeyW y.f0) (A0 : Option Addr) (c0 : Nat) (A1 : Option Addr) (c1 : Nat) (w : World) (hC0 : Kd.C k39 w A0 a.length a) (hc0 : a.length ≤ c0) (hC1 : Kd.C k39 w A1 b.length b) (hc1 : b.length ≤ c1) :
  Calls Try.prog 19 #[.slice A0 a.length c0, .slice A1 b.length c1] w fun e w' => ∃ v : Value, e = .returned v ∧ Kd.R k39 39 w' w.heap.size (fun _ => True) v (subF (normC a) (normC b)) ∧ Below w.heap.size w w' := by
 have key : ∀ l : List Cl, (∀ y ∈ l, KeyW y.f0) → ∀ y ∈ normC (normC l), KeyW y.f0 := fun l hl y hy => by
  rw [norm2] at hy
  obtain ⟨z, h1, h2⟩ := norm_key hy
  exact h2 ▸ hl z h1
 have h := sub_calls (N := normC) (one_ok ha) (one_ok hb) (key a hka) (key b hkb) A0 c0 A1 c1 w hC0 hc0 hC1 hc1
 rw [norm2, norm2] at h
 exact h
theorem over_calls {a b : List Cl} (ha : a.length ≤ 1256584717421) (hb : b.length ≤ 1256584717421) (hka : ∀ y ∈ a, KeyW y.f0) (hkb : ∀ y ∈ b, KeyW y.f0) (A0 : Option Addr) (c0 : Nat) (A1 : Option Addr) (c1 : Nat) (w : World) (hC0 : Kd.C k39 w A0 a.length a) (hc0 : a.length ≤ c0) (hC1 : Kd.C k39 w A1 b.length b) (hc1 : b.length ≤ c1) :
  Calls Try.prog 20 #[.slice A0 a.length c0, .slice A1 b.length c1] w fun e w' => e = .returned (.bool (decide ((subF (normC a) (normC b)).length = 0))) ∧ Below w.heap.size w w' := by
 have HS := Lib.hid (sub2_calls ha hb hka hkb A0 c0 A1 c1 w hC0 hc0 hC1 hc1)
 clear ha hb hka hkb hC0 hC1 hc0 hc1
 go_enter Try.func20, Try.ntmps20
 go_wp2_with (go_at_call 19; (with_reducible refine HS.out.mono ?_); rintro e w1 ⟨v, rfl, ho, hb⟩; obtain ⟨A, c, rfl⟩ := Kd.R_slice ho; have HB := Lib.hid hb; clear ho hb)
 go_ret
 refine ⟨?_, HB.out⟩
 congr 2
 by_cases h : (subF (normC a) (normC b)).length = 0 <;> simp [h]
end Go.Proofs.Ytabiekkebdocnaa.Q
namespace Go.Proofs.Ytabiekkebdocnaa.Pl
open Go Go.RowKit Go.Proofs.YtabiekkebdocnaaW.PrintWords Go.Proofs.Ytabiekkebdocnaa.Q Go.Proofs.Ytabiekkebdocnaa.Ord Go.Proofs.Ytabiekkebdocnaa.Nm Go.Proofs.Ytabiekkebdocnaa.Hp
set_option linter.unusedVariables false
set_option linter.unusedSimpArgs false
theorem rd_list (ls : List (List Cl)) (i : Nat) (hi : i < ls.length) : rd_L7 ls (i : Int) = ls[i] := by
 unfold rd_L7; simp [List.getD_eq_getElem?_getD, List.getElem?_eq_getElem hi]
theorem weigh_up (m : Nat) (hm : m ≤ 1000) (l : List Cl) (hF : ∀ c ∈ l, FineC c) (hl : l.length ≤ 1256584717458) : ∀ (d i k n : Nat), i + d = l.length → d < k → n ≤ m →
  ∃ r : Nat, skerrylaw10_weigh.l0 k (m : Int) (n : Int) l (l.length : Int) (i : Int) = some (r : Int) ∧ r ≤ 100000000000000
 | _, _, 0, _, _, hk, _ => by omega
 | 0, i, k + 1, n, hd, hk, hn => ⟨n, by rw [skerrylaw10_weigh.l0, if_neg (by omega)], by omega⟩
 | d + 1, i, k + 1, n, hd, hk, hn => by
  have hi : i < l.length := by omega
  obtain ⟨c, hc⟩ : ∃ c, l[i] = c := ⟨_, rfl⟩
  have hrd : rd_T39 l (i : Int) = c := (rd_at l i hi).trans hc
  have hcF := hF c (by rw [← hc]; exact List.getElem_mem hi)
  have hs := weigh_sum (n := n) (by omega) hcF.a hcF.b hcF.e hcF.d
  have hz : szC c = c.f0.f0.size + c.f0.f1.size + c.f0.f3.size + c.f1.f3.f2.size := rfl
  have hzb : szC c ≤ 562949953404928 := by have := hcF.a; have := hcF.b; have := hcF.e; have := hcF.d; omega
  rw [skerrylaw10_weigh.l0, if_pos (by omega), if_pos (by omega), if_pos (by omega)]
  simp only [hrd, hs, weigh_next hi hl]
  rw [← hz]
  by_cases hgt : ((n + (1 + szC c / 20) : Nat) : Int) > (m : Int)
  ·
   rw [if_pos hgt]
   exact ⟨_, rfl, by omega⟩
  ·
   rw [if_neg hgt]
   exact weigh_up m hm l hF hl d (i + 1) k (n + (1 + szC c / 20)) (by omega) (by omega) (by omega)
theorem few_l0 (ls : List (List Cl)) (hF : ∀ l ∈ ls, ∀ c ∈ l, FineC c) (hl : ∀ l ∈ ls, l.length ≤ 1256584717421) (hn : ls.length ≤ 1256584717421) (M : Nat) (hM : ∀ l ∈ ls, l.length < M) : ∀ (d i k n : Nat), i + d = ls.length → d + M < k → n ≤ 400 → ∃ r, skerrylaw10_few.l0 k (n : Int) ls (ls.length : Int) (i : Int) = some r ∧ (r = true → n + d ≤ 400)
 | d, i, 0, n, _, hk, _ => by omega
 | 0, i, k + 1, n, hd, hk, hn4 => ⟨true, by rw [skerrylaw10_few.l0, if_neg (by omega)], fun _ => by omega⟩
 | d + 1, i, k + 1, n, hd, hk, hn4 => by
  have hi : i < ls.length := by omega
  have hm := List.getElem_mem hi
  have h1 := hM _ hm
  obtain ⟨r, hr, hc⟩ := weigh_up 300 (by omega) ls[i] (hF _ hm) (by have := hl _ hm; omega) ls[i].length 0 k 0 (by omega) (by omega) (by omega)
  have hr' : skerrylaw10_weigh.f k ls[i] 300 = some (r : Int) := hr
  have e1 : wrap64 ((n : Int) + wrap64 (1 + (r : Int))) = ((n + (1 + r) : Nat) : Int) := by
   have : wrap64 (1 + (r : Int)) = 1 + (r : Int) := by unfold wrap64; omega
   rw [this]; unfold wrap64; omega
  rw [skerrylaw10_few.l0, if_pos (by omega), if_pos (by omega), if_pos (by omega), rd_list ls i hi, hr', Option.bind_some, e1, next_n hi (by omega)]
  by_cases h : ((n + (1 + r) : Nat) : Int) > 400
  ·
   rw [if_pos h]; exact ⟨false, rfl, fun e => by cases e⟩
  ·
   rw [if_neg h]
   obtain ⟨q, hq, hq2⟩ := few_l0 ls hF hl hn M hM d (i + 1) k (n + (1 + r)) (by omega) (by omega) (by omega)
   exact ⟨q, hq, fun e => by have := hq2 e; omega⟩
theorem few_f (ls : List (List Cl)) (hF : ∀ l ∈ ls, ∀ c ∈ l, FineC c) (hl : ∀ l ∈ ls, l.length ≤ 1256584717421) (hn : ls.length ≤ 1256584717421) (M : Nat) (hM : ∀ l ∈ ls, l.length < M) (k : Nat) (hk : ls.length + M < k) : ∃ r, skerrylaw10_few.f k ls = some r ∧ (r = true → ls.length ≤ 400) := by
 obtain ⟨r, h1, h2⟩ := few_l0 ls hF hl hn M hM ls.length 0 k 0 (by omega) hk (by omega)
 exact ⟨r, h1, fun h => by have := h2 h; omega⟩
end Go.Proofs.Ytabiekkebdocnaa.Pl
namespace Go.Proofs.Ytabiekkebdocnaa.Q
open Go.RowKit Go.Proofs.YtabiekkebdocnaaW.PrintWords Go.Proofs.YtabiekkebdocnaaW.PrintLast Go.Proofs.YtabiekkebdocnaaW.PrintMore
attribute [local go_sem] max2_int min2_int max_two min_two max_three min_three max_four min_four
set_option linter.unusedVariables false
set_option linter.unusedSimpArgs false
open Go.Lib Go.Proofs.Ytabiekkebdocnaa.Hp Go.Proofs.Ytabiekkebdocnaa.Pl Go.Proofs.Ytabiekkebdocnaa.Rh Go.Proofs.Ytabiekkebdocnaa.Ord Go.Proofs.Ytabiekkebdocnaa.Nm
theorem rep_get (l : List Cl) : ∀ (j i : Nat) (p : Cl), l[j]? = some p → i < 10 → (l.flatMap cellL)[j * 10 + i]? = (cellL p)[i]? := by
 induction l with
 | nil => intro j i p h; simp at h
 | cons x l ih =>
  intro j i p h hi
  rw [List.flatMap_cons]
  cases j with
  | zero =>
   obtain rfl : x = p := by simpa using h
   rw [Nat.zero_mul, Nat.zero_add, List.getElem?_append_left (by show i < 10; exact hi)]
  | succ j =>
   rw [List.getElem?_append_right (by show 10 ≤ _; omega)]
   have := ih j i p (by simpa using h) hi
   rw [← this]
   congr 1
   show (j + 1) * 10 + i - 10 = _
   omega
theorem C_blk {W : World} {b : Nat} {l : List Cl} (h : W.heap[b]? = some (.cells (l.flatMap cellL).toArray 39 (0, 0))) (hl : l.length ≤ 1000000) : Kd.C k39 W (some ⟨b, 0, none⟩) l.length l := by
 refine ⟨rfl, by omega, fun _ => ⟨_, rfl, fun j p hj => ⟨cellL p, rfl, k39_mk W p, fun i u hu => ?_⟩⟩⟩
 have hi : i < 10 := by have := (List.getElem?_eq_some_iff.1 hu).1; exact this
 have h1 := rep_get l j i p hj hi
 rw [hu] at h1
 have h2 := (blk_cell h (j * 10 + i)).trans (show _ = some u by rw [← h1]; simp)
 show W.cell? ((⟨b, 0, none⟩ : Addr).add (j * 10 + i)) = some u
 rw [addr0_]
 exact h2
where addr0_ (g j : Nat) : (⟨g, 0, none⟩ : Addr).add j = ⟨g, j, none⟩ := by by_cases h : j = 0 <;> simp [Addr.add, h]
theorem C_two {W : World} {b : Nat} {A0 A1 : Option Addr} {c0 c1 : Nat} {l0 l1 : List Cl} (h : W.heap[b]? = some (.cells #[.slice A0 l0.length c0, .slice A1 l1.length c1] 25 (0, 0))) (h0 : Kd.C k39 W A0 l0.length l0) (hc0 : l0.length ≤ c0) (h1 : Kd.C k39 W A1 l1.length l1) (hc1 : l1.length ≤ c1) : Kd.C (Kd.slice 39 k39) W (some ⟨b, 0, none⟩) 2 [l0, l1] := by
 refine ⟨rfl, by omega, fun _ => ⟨_, rfl, fun j p hj => ?_⟩⟩
 cases j with
 | zero =>
  obtain rfl : l0 = p := by simpa using hj
  refine ⟨[.slice A0 l0.length c0], rfl, ⟨A0, c0, rfl, hc0, h0⟩, fun i u hu => ?_⟩
  cases i with
  | zero =>
   obtain rfl : Value.slice A0 l0.length c0 = u := by simpa using hu
   have := (blk_cell h 0).trans (show _ = some (Value.slice A0 l0.length c0) from rfl)
   simpa [Addr.add] using this
  | succ i => simp at hu
 | succ j =>
  cases j with
  | zero =>
   obtain rfl : l1 = p := by simpa using hj
   refine ⟨[.slice A1 l1.length c1], rfl, ⟨A1, c1, rfl, hc1, h1⟩, fun i u hu => ?_⟩
   cases i with
   | zero =>
    obtain rfl : Value.slice A1 l1.length c1 = u := by simpa using hu
    have := (blk_cell h 1).trans (show _ = some (Value.slice A1 l1.length c1) from rfl)
    simpa [Addr.add, Kd.slice] using this
   | succ i => simp at hu
  | succ j => simp at hj
def atC (col : ByteArray) (n : Int) : Cl := ⟨⟨⟨#[116]⟩, ⟨#[120]⟩, 0, col⟩, ⟨n, false, 0, ⟨1, n, ⟨#[]⟩⟩⟩⟩
def exA : List Cl := [atC ⟨#[97]⟩ 1, atC ⟨#[98]⟩ 2]
def exB : List Cl := [atC ⟨#[98]⟩ 3, atC ⟨#[99]⟩ 1]
def exC : List Cl := [atC ⟨#[97]⟩ 1, atC ⟨#[98]⟩ 3, atC ⟨#[99]⟩ 1]
theorem ex_all : normC ([exA, exB].flatMap normC) = exC := by kernel_rfl
theorem ex_sub : subF (normC exA) (normC exB) = [atC ⟨#[97]⟩ 1] := by kernel_rfl
theorem ex_over : subF (normC exA) (normC exA) = [] := by kernel_rfl
theorem ex_key : ∀ y ∈ exA ++ exB, KeyW y.f0 := by
 have h : ((exA ++ exB).all fun y => (keyOf Try.prog 33 (keyV y.f0)).isSome) = true := by kernel_rfl
 intro y hy
 exact Option.isSome_iff_exists.1 (List.all_eq_true.1 h y hy)
theorem at_calls (col : ByteArray) (n : Int) (w : World) : Calls Try.prog 26 #[.string col, .int .i64 n] w fun e w' => e = .returned (.agg (cellL (atC col n)).toArray) ∧ Below w.heap.size w w' :=
 skerrylaw10_at.calls col n _ _ _ _ _ _ _ _ _ _ w rfl
set_option maxHeartbeats 4000000 in
set_option maxRecDepth 100000 in
theorem lives_calls (w : World) : Calls Try.prog 10 #[] w fun e w' => e = .returned (.bool true) ∧ Below w.heap.size w w' := by
 go_enter Try.func10, Try.ntmps10
 have HAT := Lib.hid at_calls
 go_upto_region 1 with fail
 go_cut [1, 2] (fun v1 v2 wc => ∃ g1 g2 : Nat, v1 = .slice (some ⟨g1, 0, none⟩) 2 2 ∧ v2 = .slice (some ⟨g2, 0, none⟩) 2 2 ∧ Aside0 (wc.heap[g1]? = some (.cells (exA.flatMap cellL).toArray 39 (0, 0))) ∧ Aside0 (wc.heap[g2]? = some (.cells (exB.flatMap cellL).toArray 39 (0, 0))) ∧ Aside0 (Below w.heap.size w wc))
 case first =>
  go_wp2_with (first | (go_at_call 26; (with_reducible refine (HAT.out ⟨#[97]⟩ 1 _).mono ?_); rintro e w1 ⟨rfl, hb1⟩; unfold cellL atC; dsimp only) | (go_at_call 26; (with_reducible refine (HAT.out ⟨#[98]⟩ 2 _).mono ?_); rintro e w2 ⟨rfl, hb2⟩; unfold cellL atC; dsimp only) | (go_at_call 26; (with_reducible refine (HAT.out ⟨#[98]⟩ 3 _).mono ?_); rintro e w3 ⟨rfl, hb3⟩; unfold cellL atC; dsimp only) | (go_at_call 26; (with_reducible refine (HAT.out ⟨#[99]⟩ 1 _).mono ?_); rintro e w4 ⟨rfl, hb4⟩; unfold cellL atC; dsimp only))
  go_meet
  case rel =>
   have h12 := below_step hb1 hb2
   have h13 := below_step (below_alloc h12 _) hb3
   have h14 := below_step h13 hb4
   refine ⟨_, _, rfl, rfl, ⟨blk_alloc (blk_below (blk_below (heap_new_ w2 _) hb3) hb4) _⟩, ⟨heap_new_ w4 _⟩, ⟨below_alloc h14 _⟩⟩
 case rest =>
  obtain ⟨g1, g2, rfl, rfl, HG1, HG2, HB⟩ := hcut
  have hka : ∀ y ∈ exA, KeyW y.f0 := fun y hy => ex_key y (List.mem_append_left _ hy)
  have hkb : ∀ y ∈ exB, KeyW y.f0 := fun y hy => ex_key y (List.mem_append_right _ hy)
  have HCA := Lib.hid (fun (W : World) (hw : Below wc.heap.size wc W) => (show Kd.C k39 W (some ⟨g1, 0, none⟩) exA.length exA from C_blk (blk_below HG1.out hw) (by decide)))
  have HCB := Lib.hid (fun (W : World) (hw : Below wc.heap.size wc W) => (show Kd.C k39 W (some ⟨g2, 0, none⟩) exB.length exB from C_blk (blk_below HG2.out hw) (by decide)))
  have HALL := Lib.hid (fun (W : World) (hw : Below wc.heap.size wc W) (z : Nat) (hz : W.heap.size = z) => (show Calls Try.prog 15 #[.slice (some ⟨z, 0, none⟩) 2 2] (W.alloc (.cells #[.slice (some ⟨g1, 0, none⟩) 2 2, .slice (some ⟨g2, 0, none⟩) 2 2] 25)) _ from hz ▸ all_calls (N := normC) (ls := [exA, exB]) (lsok (by decide) (by decide) (by decide +kernel)) (some ⟨W.heap.size, 0, none⟩) 2 _ (C_two (l0 := exA) (l1 := exB) (heap_new_ W _) (HCA.out _ (below_alloc hw _)) (Nat.le_refl _) (HCB.out _ (below_alloc hw _)) (Nat.le_refl _)) (Nat.le_refl _)))
  have HSUB := Lib.hid (fun (W : World) (hw : Below wc.heap.size wc W) => show Calls Try.prog 19 #[.slice (some ⟨g1, 0, none⟩) 2 2, .slice (some ⟨g2, 0, none⟩) 2 2] W _ from sub2_calls (a := exA) (b := exB) (by decide) (by decide) hka hkb (some ⟨g1, 0, none⟩) 2 (some ⟨g2, 0, none⟩) 2 W (HCA.out _ hw) (Nat.le_refl _) (HCB.out _ hw) (Nat.le_refl _))
  have HOV1 := Lib.hid (fun (W : World) (hw : Below wc.heap.size wc W) => show Calls Try.prog 20 #[.slice (some ⟨g1, 0, none⟩) 2 2, .slice (some ⟨g2, 0, none⟩) 2 2] W _ from over_calls (a := exA) (b := exB) (by decide) (by decide) hka hkb (some ⟨g1, 0, none⟩) 2 (some ⟨g2, 0, none⟩) 2 W (HCA.out _ hw) (Nat.le_refl _) (HCB.out _ hw) (Nat.le_refl _))
  have HOV2 := Lib.hid (fun (W : World) (hw : Below wc.heap.size wc W) => show Calls Try.prog 20 #[.slice (some ⟨g1, 0, none⟩) 2 2, .slice (some ⟨g1, 0, none⟩) 2 2] W _ from over_calls (a := exA) (b := exA) (by decide) (by decide) hka hka (some ⟨g1, 0, none⟩) 2 (some ⟨g1, 0, none⟩) 2 W (HCA.out _ hw) (Nat.le_refl _) (HCA.out _ hw) (Nat.le_refl _))
  rw [ex_sub] at HSUB HOV1
  rw [ex_over] at HOV2
  rw [ex_all] at HALL
  clear hka hkb
  have HBW := Lib.hid (Below.refl wc.heap.size wc)
  go_wp2_with (first | (go_at_call 15; (with_reducible refine (HALL.out _ HBW.out _ rfl).mono ?_); rintro e w1 ⟨v1, rfl, ho1, hb1⟩; obtain ⟨A1, c1, rfl, hc1, hC1⟩ := Kd.R_reads ho1; have HB1 := Lib.hid (below_step (below_alloc HBW.out _) hb1); have HC1 := Lib.hid (And.intro hc1 hC1); have HD1 := Lib.hid (Below.refl w1.heap.size w1); clear ho1 hb1 hc1 hC1) | (go_at_call 26; have hz := HB6.out; clear hz; (with_reducible refine (HAT.out ⟨#[97]⟩ 1 _).mono ?_); rintro e w7 ⟨rfl, hb⟩; have HB7 := Lib.hid (below_step HB6.out hb); have HD7 := Lib.hid (below_step HD6.out hb); clear hb; unfold cellL atC; dsimp only) | (go_at_call 26; (with_reducible refine (HAT.out ⟨#[97]⟩ 1 _).mono ?_); rintro e w2 ⟨rfl, hb⟩; have HB2 := Lib.hid (below_step HB1.out hb); have HD2 := Lib.hid (below_step HD1.out hb); clear hb; unfold cellL atC; dsimp only) | (go_at_call 26; (with_reducible refine (HAT.out ⟨#[98]⟩ 3 _).mono ?_); rintro e w3 ⟨rfl, hb⟩; have HB3 := Lib.hid (below_step HB2.out hb); have HD3 := Lib.hid (below_step HD2.out hb); clear hb; unfold cellL atC; dsimp only) | (go_at_call 26; (with_reducible refine (HAT.out ⟨#[99]⟩ 1 _).mono ?_); rintro e w4 ⟨rfl, hb⟩; have HB4 := Lib.hid (below_step HB3.out hb); have HD4 := Lib.hid (below_step HD3.out hb); clear hb; unfold cellL atC; dsimp only) | (go_at_call 14; (refine (skerryref01_Like.calls 10 A6 c6 [atC ⟨#[97]⟩ 1] (some ⟨w7.heap.size, 0, none⟩) 1 [atC ⟨#[97]⟩ 1] true _ (Kd.C_below HC6.out.2 (below_alloc HD7.out _)) HC6.out.1 (C_blk (heap_new_ w7 _) (by decide)) (Nat.le_refl _) (like_self [atC ⟨#[97]⟩ 1] (by decide) 10 (by decide))).mono ?_); rintro e w8 ⟨rfl, hb⟩; have HB8 := Lib.hid (below_step (below_alloc HB7.out _) hb.below); clear hb) | (go_at_call 14; (refine (skerryref01_Like.calls 10 A1 c1 exC (some ⟨w4.heap.size, 0, none⟩) 3 exC true _ (Kd.C_below HC1.out.2 (below_alloc HD4.out _)) HC1.out.1 (C_blk (heap_new_ w4 _) (by decide)) (Nat.le_refl _) (like_self exC (by decide) 10 (by decide))).mono ?_); rintro e w5 ⟨rfl, hb⟩; have HB5 := Lib.hid (below_step (below_alloc HB4.out _) hb.below); clear hb HC1) | (go_at_call 19; (with_reducible refine (HSUB.out _ HB5.out).mono ?_); rintro e w6 ⟨v6, rfl, ho6, hb⟩; obtain ⟨A6, c6, rfl, hc6, hC6⟩ := Kd.R_reads ho6; have HB6 := Lib.hid (below_step HB5.out hb); have HC6 := Lib.hid (And.intro hc6 hC6); have HD6 := Lib.hid (Below.refl w6.heap.size w6); clear ho6 hb hc6 hC6) | (go_at_call 20; (with_reducible refine (HOV2.out _ HB9.out).mono ?_); rintro e w10 ⟨rfl, hb⟩; have HB10 := Lib.hid (below_step HB9.out hb); clear hb) | (go_at_call 20; (with_reducible refine (HOV1.out _ HB8.out).mono ?_); rintro e w9 ⟨rfl, hb⟩; have HB9 := Lib.hid (below_step HB8.out hb); clear hb))
  go_ret
  exact ⟨rfl, below_step HB.out HB10.out⟩
end Go.Proofs.Ytabiekkebdocnaa.Q
namespace Go.Proofs.Ytabiekkebdocnaa.Q
open Go.RowKit Go.Proofs.YtabiekkebdocnaaW.PrintWords Go.Proofs.YtabiekkebdocnaaW.PrintLast Go.Proofs.YtabiekkebdocnaaW.PrintMore
attribute [local go_sem] max2_int min2_int max_two min_two max_three min_three max_four min_four
set_option linter.unusedVariables false
set_option linter.unusedSimpArgs false
open Go.Lib Go.Proofs.Ytabiekkebdocnaa.Hp Go.Proofs.Ytabiekkebdocnaa.Pl Go.Proofs.Ytabiekkebdocnaa.Rh Go.Proofs.Ytabiekkebdocnaa.Ord Go.Proofs.Ytabiekkebdocnaa.Nm Go.Proofs.Ytabiekkebdocnaa.Opn
structure In (l : List Cl) : Prop where
 wc : ∀ c ∈ l, WC c
 len : l.length ≤ 1256584717421
theorem In.key {l : List Cl} (h : In l) : ∀ y ∈ l, KeyW y.f0 := fun y hy => WC.key (h.wc y hy)
end Go.Proofs.Ytabiekkebdocnaa.Q
namespace Go.Proofs.Ytabiekkebdocnaa.Q
open Go.RowKit Go.Proofs.YtabiekkebdocnaaW.PrintWords Go.Proofs.YtabiekkebdocnaaW.PrintLast Go.Proofs.YtabiekkebdocnaaW.PrintMore
attribute [local go_sem] max2_int min2_int max_two min_two max_three min_three max_four min_four
set_option linter.unusedVariables false
set_option linter.unusedSimpArgs false
open Go.Lib Go.Proofs.Ytabiekkebdocnaa.Hp Go.Proofs.Ytabiekkebdocnaa.Pl Go.Proofs.Ytabiekkebdocnaa.Rh Go.Proofs.Ytabiekkebdocnaa.Ord Go.Proofs.Ytabiekkebdocnaa.Nm Go.Proofs.Ytabiekkebdocnaa.Opn
theorem cl_cells {W : World} {A : Option Addr} {M : List Cl} (h : Kd.C k39 W A M.length M) (i : Nat) (hi : i < M.length) : ∃ ad, A = some ad ∧ W.cell? (ad.add (i * 10)) = some (.string (M.getD i z39).f0.f0) ∧ W.cell? ⟨(ad.add (i * 10)).block, (ad.add (i * 10)).off + 1, none⟩ = some (.string (M.getD i z39).f0.f1) ∧ W.cell? ⟨(ad.add (i * 10)).block, (ad.add (i * 10)).off + 2, none⟩ = some (.int .i64 (M.getD i z39).f0.f2) ∧ W.cell? ⟨(ad.add (i * 10)).block, (ad.add (i * 10)).off + 3, none⟩ = some (.string (M.getD i z39).f0.f3) ∧ W.cell? ⟨(ad.add (i * 10)).block, (ad.add (i * 10)).off + 4, none⟩ = some (.int .i64 (M.getD i z39).f1.f0) ∧ W.cell? ⟨(ad.add (i * 10)).block, (ad.add (i * 10)).off + 5, none⟩ = some (.bool (M.getD i z39).f1.f1) ∧ W.cell? ⟨(ad.add (i * 10)).block, (ad.add (i * 10)).off + 6, none⟩ = some (.int .i64 (M.getD i z39).f1.f2) ∧ W.cell? ⟨(ad.add (i * 10)).block, (ad.add (i * 10)).off + 7, none⟩ = some (.int .i64 (M.getD i z39).f1.f3.f0) ∧ W.cell? ⟨(ad.add (i * 10)).block, (ad.add (i * 10)).off + 8, none⟩ = some (.int .i64 (M.getD i z39).f1.f3.f1) ∧ W.cell? ⟨(ad.add (i * 10)).block, (ad.add (i * 10)).off + 9, none⟩ = some (.string (M.getD i z39).f1.f3.f2) := by
 have h1 := at_T39 h (i : Int) (by omega) (by omega)
 unfold rd_T39 at h1
 rw [Int.toNat_natCast] at h1
 exact h1
end Go.Proofs.Ytabiekkebdocnaa.Q
namespace Go.Proofs.Ytabiekkebdocnaa.Q
open Go.RowKit Go.Proofs.YtabiekkebdocnaaW.PrintWords Go.Proofs.YtabiekkebdocnaaW.PrintLast Go.Proofs.YtabiekkebdocnaaW.PrintMore
attribute [local go_sem] max2_int min2_int max_two min_two max_three min_three max_four min_four
set_option linter.unusedVariables false
set_option linter.unusedSimpArgs false
open Go.Lib Go.Proofs.Ytabiekkebdocnaa.Hp Go.Proofs.Ytabiekkebdocnaa.Pl Go.Proofs.Ytabiekkebdocnaa.Rh Go.Proofs.Ytabiekkebdocnaa.Ord Go.Proofs.Ytabiekkebdocnaa.Nm Go.Proofs.Ytabiekkebdocnaa.Opn
theorem fin {l : List Cl} (h : In l) : In (l.filter goodB) := ⟨fun c hc => h.wc c (List.mem_filter.1 hc).1, Nat.le_trans (List.length_filter_le _ _) h.len⟩
end Go.Proofs.Ytabiekkebdocnaa.Q
namespace Go.Proofs.Ytabiekkebdocnaa.Q
open Go.RowKit Go.Proofs.YtabiekkebdocnaaW.PrintWords Go.Proofs.YtabiekkebdocnaaW.PrintLast Go.Proofs.YtabiekkebdocnaaW.PrintMore
attribute [local go_sem] max2_int min2_int max_two min_two max_three min_three max_four min_four
set_option linter.unusedVariables false
set_option linter.unusedSimpArgs false
open Go.Lib Go.Proofs.Ytabiekkebdocnaa.Hp Go.Proofs.Ytabiekkebdocnaa.Pl Go.Proofs.Ytabiekkebdocnaa.Rh Go.Proofs.Ytabiekkebdocnaa.Ord Go.Proofs.Ytabiekkebdocnaa.Nm Go.Proofs.Ytabiekkebdocnaa.Opn
abbrev Sv := Option Addr × Nat × Nat
structure Hs (w : World) (ss : List Sv) (gs : List (List Cl)) : Prop where
 len : ss.length = gs.length
 each : ∀ (j : Nat) (s : Sv) (g : List Cl), ss[j]? = some s → gs[j]? = some g → s.2.1 = g.length ∧ g.length ≤ s.2.2 ∧ Kd.C k39 w s.1 g.length g
theorem Hs.below {w w1 : World} {ss : List Sv} {gs : List (List Cl)} (h : Hs w ss gs) (hb : Below w.heap.size w w1) : Hs w1 ss gs := ⟨h.len, fun j s g h1 h2 => by obtain ⟨a, b, c⟩ := h.each j s g h1 h2; exact ⟨a, b, Kd.C_below c hb⟩⟩
theorem Hs.put {w : World} {ss : List Sv} {gs : List (List Cl)} (h : Hs w ss gs) {A : Option Addr} {c : Nat} {g : List Cl} (hc : g.length ≤ c) (hC : Kd.C k39 w A g.length g) : Hs w ([(A, g.length, c)] ++ ss) (g :: gs) := ⟨by simp [h.len], fun j s g' h1 h2 => by
 cases j with
 | zero =>
  obtain rfl : (A, g.length, c) = s := by simpa using h1
  obtain rfl : g = g' := by simpa using h2
  exact ⟨rfl, hc, hC⟩
 | succ j => exact h.each j s g' (by simpa using h1) (by simpa using h2)⟩
structure Ins (ls : List (List Cl)) : Prop where
 wc : ∀ l ∈ ls, ∀ c ∈ l, WC c
 tot : ls.length + ls.flatten.length ≤ 1048576
theorem mem_len {l : List Cl} : ∀ {ls : List (List Cl)}, l ∈ ls → l.length ≤ ls.flatten.length
 | m :: ls, h => by
  rw [List.flatten_cons, List.length_append]
  rcases List.mem_cons.1 h with rfl | h
  ·
   omega
  ·
   have := mem_len h; omega
theorem Ins.len {ls : List (List Cl)} (h : Ins ls) : ∀ l ∈ ls, l.length ≤ 1048576 := fun l hl => by have := mem_len hl; have := h.tot; omega
theorem Ins.one {ls : List (List Cl)} (h : Ins ls) : ∀ l ∈ ls, In l := fun l hl => ⟨h.wc l hl, by have := h.len l hl; omega⟩
theorem fews_calls {ls : List (List Cl)} (h : Ins ls) : ∃ r : Bool, (r = true → ls.length ≤ 400) ∧ ∀ (A0 : Option Addr) (c0 : Nat) (w : World), Kd.C (Kd.slice 39 k39) w A0 ls.length ls → ls.length ≤ c0 → Calls Try.prog 9 #[.slice A0 ls.length c0] w fun e w' => e = .returned (.bool r) ∧ Below w.heap.size w w' := by
 obtain ⟨r, hr, h4⟩ := few_f ls (fun l hl c hc => WC.fine (h.wc l hl c hc)) (fun l hl => (h.one l hl).len) (by have := h.tot; omega) 1048577 (fun l hl => by have := h.len l hl; omega) (1048577 + ls.length + 1) (by omega)
 exact ⟨r, h4, fun A0 c0 w hC hc => skerrylaw10_few.calls _ A0 c0 ls r w hC hc hr⟩
theorem norm_sum (ls : List (List Cl)) : (ls.flatMap normC).length ≤ ls.flatten.length := by
 induction ls with
 | nil => exact Nat.le_refl _
 | cons l ls ih =>
  rw [List.flatMap_cons, List.length_append, List.flatten_cons, List.length_append]
  have : (normC l).length ≤ l.length := norm_len (c := cmpK) (key := keyC) (jn := joinC) l
  omega
theorem sum_lists (ls : List (List Cl)) : (ls.map fun xs => (xs.map fun _ => 1).sum + 1).sum = ls.length + ls.flatten.length := by
 induction ls with
 | nil => rfl
 | cons l ls ih =>
  have h : (l.map fun _ => 1).sum = l.length := by
   induction l with
   | nil => rfl
   | cons x l ih => rw [List.map_cons, List.sum_cons, ih, List.length_cons]; omega
  rw [List.map_cons, List.sum_cons, ih, h, List.length_cons, List.flatten_cons, List.length_append]; omega
end Go.Proofs.Ytabiekkebdocnaa.Q
