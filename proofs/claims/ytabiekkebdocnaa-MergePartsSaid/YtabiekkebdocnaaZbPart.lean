/- Lemmas for this claim's walk: no condition of their own. -/
import Derived.Test.YtabiekkebdocnaaZbQx23
import Derived.Test.YtabiekkebdocnaaZbJ28
import Derived.Test.YtabiekkebdocnaaZbJ0
import Derived.Test.YtabiekkebdocnaaZbDown
import Derived.Test.YtabiekkebdocnaaZbSorted
import Derived.Test.YtabiekkebdocnaaZbTake
import Derived.Test.YtabiekkebdocnaaZbEach
import Derived.Test.YtabiekkebdocnaaZbGrp
import Derived.Test.YtabiekkebdocnaaZbRh
import Derived.Test.YtabiekkebdocnaaZbSeqE
import Derived.Test.YtabiekkebdocnaaZbJ14
import Derived.Test.YtabiekkebdocnaaZbAll
import Derived.Test.YtabiekkebdocnaaZbJ38
import Derived.Test.YtabiekkebdocnaaZbSub
import Derived.Test.YtabiekkebdocnaaZbJ31
import Derived.Deep.MidRow
import Derived.WalkLawsBesides
import Derived.WalkSpells
import Derived.Lib.Hide
import Derived.Deep.DeepFit
import Derived.Outline
namespace Go.Proofs.Ytabiekkebdocnaa.Q
open Go.RowKit Go.Proofs.YtabiekkebdocnaaW.PrintWords Go.Proofs.YtabiekkebdocnaaW.PrintLast Go.Proofs.YtabiekkebdocnaaW.PrintMore
attribute [local go_sem] max2_int min2_int max_two min_two max_three min_three max_four min_four
set_option linter.unusedVariables false
set_option linter.unusedSimpArgs false
open Go.Lib Go.Proofs.Ytabiekkebdocnaa.Hp Go.Proofs.Ytabiekkebdocnaa.Pl Go.Proofs.Ytabiekkebdocnaa.Rh Go.Proofs.Ytabiekkebdocnaa.Ord Go.Proofs.Ytabiekkebdocnaa.Nm
theorem lsok {ls : List (List Cl)} (h1 : ls.length ≤ 900000) (h2 : ∀ l ∈ ls, l.length ≤ 1256584717421) (h3 : (ls.flatMap normC).length ≤ 1256584717457) : LsOk normC ls := ⟨fun l hl => by
 have h3 := h2 l hl
 obtain ⟨b, hb, hb2⟩ := sorted_f l (by omega) (l.length + 8) (by omega)
 refine ⟨⟨_, b, hb, fun e => norm_self (hb2.1 e), fun _ => ⟨l.length + 7, norm_f l (by omega) _ (by omega)⟩⟩, ?_⟩
 have : (normC l).length ≤ l.length := norm_len (c := cmpK) (key := keyC) (jn := joinC) l
 omega, fun l _ => norm_inc cmpK_cmp joinC_key l, h1, h3⟩
theorem norm2 (l : List Cl) : normC (normC l) = normC l := norm_self (norm_inc cmpK_cmp joinC_key l)
theorem one_ok {l : List Cl} (h : l.length ≤ 1256584717421) : LsOk normC [l] := lsok (by simp) (fun x hx => by obtain rfl := List.mem_singleton.1 hx; exact h) (by
 have : (normC l).length ≤ l.length := norm_len (c := cmpK) (key := keyC) (jn := joinC) l
 simp only [List.flatMap_cons, List.flatMap_nil, List.append_nil]; omega)
theorem sub2_calls {a b : List Cl} (ha : a.length ≤ 1256584717421) (hb : b.length ≤ 1256584717421) (hka : ∀ y ∈ a, KeyW y.f0) (hkb : ∀ y ∈ b, KeyW y.f0) (A0 : Option Addr) (c0 : Nat) (A1 : Option Addr) (c1 : Nat) (w : World) (hC0 : Kd.C k39 w A0 a.length a) (hc0 : a.length ≤ c0) (hC1 : Kd.C k39 w A1 b.length b) (hc1 : b.length ≤ c1) :
  Calls Try.prog 19 #[.slice A0 a.length c0, .slice A1 b.length c1] w fun e w' => ∃ v : Value, e = .returned v ∧ Kd.R k39 39 w' w.heap.size (fun _ => True) v (subF (normC a) (normC b)) ∧ Below w.heap.size w w' := by
 have key : ∀ l : List Cl, (∀ y ∈ l, KeyW y.f0) → ∀ y ∈ normC (normC l), KeyW y.f0 := fun l hl y hy => by
  rw [norm2] at hy
  obtain ⟨z, h1, h2⟩ := norm_key hy
  exact h2 ▸ hl z h1
 have h := sub_calls (N := normC) (one_ok ha) (one_ok hb) (key a hka) (key b hkb) A0 c0 A1 c1 w hC0 hc0 hC1 hc1
 rw [norm2, norm2] at h
 exact h
theorem over_calls {a b : List Cl} (ha : a.length ≤ 1256584717421) (hb : b.length ≤ 1256584717421) (hka : ∀ y ∈ a, KeyW y.f0) (hkb : ∀ y ∈ b, KeyW y.f0) (A0 : Option Addr) (c0 : Nat) (A1 : Option Addr) (c1 : Nat) (w : World) (hC0 : Kd.C k39 w A0 a.length a) (hc0 : a.length ≤ c0) (hC1 : Kd.C k39 w A1 b.length b) (hc1 : b.length ≤ c1) :
  Calls Try.prog 20 #[.slice A0 a.length c0, .slice A1 b.length c1] w fun e w' => e = .returned (.bool (decide ((subF (normC a) (normC b)).length = 0))) ∧ Below w.heap.size w w' := by
 have HS := Lib.hid (sub2_calls ha hb hka hkb A0 c0 A1 c1 w hC0 hc0 hC1 hc1)
 clear ha hb hka hkb hC0 hC1 hc0 hc1
 go_enter Try.func20, Try.ntmps20
 go_wp2_with (go_at_call 19; (with_reducible refine HS.out.mono ?_); rintro e w1 ⟨v, rfl, ho, hb⟩; obtain ⟨A, c, rfl⟩ := Kd.R_slice ho; have HB := Lib.hid hb; clear ho hb)
 go_ret
 refine ⟨?_, HB.out⟩
 congr 2
 by_cases h : (subF (normC a) (normC b)).length = 0 <;> simp [h]
def encP_ (x : S39) : List Value := [.string x.f0.f0, .string x.f0.f1, .int .i64 x.f0.f2, .string x.f0.f3, .int .i64 x.f1.f0, .bool x.f1.f1, .int .i64 x.f1.f2, .int .i64 x.f1.f3.f0, .int .i64 x.f1.f3.f1, .string x.f1.f3.f2]
theorem idx0_ (A : Option Addr) (c : Nat) (g : Nat) (cb : Array Value) (w : World) : Calls Try.prog 55 #[.slice A 0 c, .func (.func g) #[] cb] w fun e w' => e = .returned (.int .i64 (-1)) ∧ w' = w := by
 go_enter Try.func55, Try.ntmps55
 go_wp2
 go_loopg [8] 0 (fun g1 vi wr => vi = .int .i64 0 ∧ wr = w)
 case atStart => exact ⟨rfl, rfl⟩
 case round =>
  obtain ⟨rfl, rfl⟩ := hrel
  go_wp2
  go_ret
  exact ⟨rfl, rfl⟩
theorem del0_ (A : Option Addr) (c : Nat) (g : Nat) (cb : Array Value) (w : World) : Calls Try.prog 38 #[.slice A 0 c, .func (.func g) #[] cb] w fun e w' => e = .returned (.slice A 0 c) ∧ w' = w := by
 have HI := Lib.hid (idx0_ A c g cb w)
 go_enter Try.func38, Try.ntmps38
 go_wp2_with (go_at_call 55; refine HI.out.mono ?_; rintro e w1 ⟨rfl, rfl⟩)
 go_ret
 exact ⟨rfl, rfl⟩
theorem del_R (base : Nat) (ok : Nat → Prop) (v : Value) (xs : List (S39)) (p : S39 → Bool) (g : Nat) (cb : Array Value) (w : World) (eg : ∀ args w, (callFunc g args).run Try.prog w = .ok (.enter g args) w) (hv : Kd.R k39 39 w base ok v xs) (hb : base ≤ w.heap.size) (hsz : xs.length ≤ 922337203685477580)
  (hP : ∀ (W : World) (x : S39), x ∈ xs → Below base w W → Calls Try.prog g (#[.agg (encP_ x).toArray] ++ cb) W fun e w' => e = .returned (.bool (p x)) ∧ Below W.heap.size W w') :
  Calls Try.prog 38 #[v, .func (.func g) #[] cb] w fun e w' => ∃ v' : Value, e = .returned v' ∧ Kd.R k39 39 w' base ok v' (xs.filter fun x => !p x) ∧ Below base w w' := by
 obtain ⟨A, c, rfl⟩ := Kd.R_slice hv
 cases xs with
 | nil =>
  refine (del0_ A c g cb w).mono ?_
  rintro e w' ⟨rfl, rfl⟩
  exact ⟨_, rfl, hv, Below.refl _ _⟩
 | cons x l =>
  obtain ⟨inner, ho⟩ := Kd.R_own hv
  rcases ho.2 with ⟨h1, _⟩ | ⟨b, cap, cur, h1, _⟩
  ·
   cases h1
  ·
   injection h1 with a1 a2 a3
   subst a1 a3
   have hk : ∀ x, (encP_ x).length = k39.sz := fun _ => rfl
   have hM : ∀ w base ok x cs, k39.M w base ok x cs → cs = encP_ x := fun w base ok x cs hx => k39_openM hx
   letI : Inhabited (S39) := ⟨z39⟩
   obtain ⟨parts, h1c, hge, hok, hcap, hrest⟩ := Srt.R_parts hM hv
   obtain ⟨hH, hlt, hge, hok⟩ := Srt.R_holds hk hM hv
   have R : RowK encP_ 10 w b 0 (x :: l).toArray := ⟨fun _ => rfl, fun x v hv => by simp [encP_] at hv; rcases hv with rfl | rfl | rfl | rfl | rfl | rfl | rfl | rfl | rfl | rfl <;> rfl, hH, hlt⟩
   have hPB : Srt.PredB g cb encP_ p w b (x :: l).toArray.toList := fun W y hy o1 o2 o3 h1 h2 => hP W y (by simpa using hy) ⟨o1, o2, o3, by omega, fun i hi => h2 i (by omega) (by omega)⟩
   have hD := Srt.delF (cap := c) R hPB (by simp) eg (by simpa using hsz) (by simpa using hcap) z39 (fun w => Try.zeroValue39 w)
   refine Calls.mono (show Calls _ _ _ _ _ from hD) ?_
   rintro e w' ⟨rfl, hW⟩
   have hfl : ((x :: l).filter fun x => !p x).length ≤ (x :: l).length := List.length_filter_le _ _
   refine ⟨_, rfl, Srt.R_shrunk hk hM (fun w base ok x => k39_mkM w base ok x) hv _ hW (by simp only [List.length_append, List.length_replicate, List.size_toArray]; omega), ⟨hW.os, hW.tape, hW.output, by have := hW.size; omega, fun i hi => hW.other i (by omega) (by omega)⟩⟩
def otherP (t s : ByteArray) (x : Cl) : Bool := (!(x.f0.f0.toList == t.toList)) || (!(x.f0.f1.toList == s.toList))
set_option maxHeartbeats 600000 in
theorem part_clo (B4 B5 : Nat) (t s : ByteArray) (W : World) (x : Cl) (g1 : W.heap[B4]? = some (.cells #[.string t] 9 (0, 0))) (g2 : W.heap[B5]? = some (.cells #[.string s] 9 (0, 0))) :
  Calls Try.prog 37 (#[.agg (cellL x).toArray] ++ #[.pointer (some ⟨B4, 0, none⟩), .pointer (some ⟨B5, 0, none⟩)]) W fun e w' => e = .returned (.bool (otherP t s x)) ∧ Below W.heap.size W w' := by
 have c4 := fun o => (blk_cell (blk_alloc g1 o) 0).trans (show _ = some (Value.string t) from rfl)
 have c5 := fun o => (blk_cell (blk_alloc g2 o) 0).trans (show _ = some (Value.string s) from rfl)
 unfold otherP
 cases h : (x.f0.f0.toList == t.toList)
 all_goals
  dsimp only [cellL]
  go_enter Try.func37, Try.ntmps37
  go_wp2
  go_ret
  exact ⟨rfl, below_alloc (Below.refl _ _) _⟩
set_option maxHeartbeats 1000000 in
set_option maxRecDepth 100000 in
theorem part_calls {l : List Cl} (hl : l.length ≤ 1256584717421) (t s : ByteArray) (A0 : Option Addr) (c0 : Nat) (w : World) (hC0 : Kd.C k39 w A0 l.length l) (hc0 : l.length ≤ c0) :
  Calls Try.prog 21 #[.slice A0 l.length c0, .string t, .string s] w fun e w' => ∃ v : Value, e = .returned v ∧ Kd.R k39 39 w' w.heap.size (fun _ => True) v ((normC l).filter fun x => !otherP t s x) ∧ Below w.heap.size w w' := by
 have hnl : (normC l).length ≤ l.length := norm_len (c := cmpK) (key := keyC) (jn := joinC) l
 have HL := Lib.hid (And.intro hl hnl)
 have HA := Lib.hid (fun (W : World) (hw : Below w.heap.size w W) (z : Nat) (hz : W.heap.size = z) => (show Calls Try.prog 15 #[.slice (some ⟨z, 0, none⟩) 1 1] (W.alloc (.cells #[.slice A0 l.length c0] 25)) _ from hz ▸ all_calls (N := normC) (one_ok hl) (some ⟨W.heap.size, 0, none⟩) 1 (W.alloc (.cells #[.slice A0 l.length c0] 25)) (C_one (Kd.C_below hC0 hw) hc0) (Nat.le_refl 1)))
 have hfl : normC ([l].flatMap normC) = normC l := by rw [List.flatMap_cons, List.flatMap_nil, List.append_nil, norm2]
 have HF := Lib.hid hfl
 clear hl hC0 hc0 hnl hfl
 go_enter Try.func21, Try.ntmps21
 go_upto_region 0 with fail
 go_cut [4, 5] (fun v4 v5 wc => ∃ B4 B5 : Nat, v4 = .pointer (some ⟨B4, 0, none⟩) ∧ v5 = .pointer (some ⟨B5, 0, none⟩) ∧ Aside0 (wc.heap[B4]? = some (.cells #[.string t] 9 (0, 0))) ∧ Aside0 (wc.heap[B5]? = some (.cells #[.string s] 9 (0, 0))) ∧ Aside0 (Below w.heap.size w wc))
 case first =>
  go_wp2
  go_meet
  case rel => exact ⟨w.heap.size, w.heap.size + 1, rfl, by simp, ⟨blk_alloc (heap_new_ _ _) _⟩, ⟨by have h := heap_new_ (w.alloc (.cells #[.string t] 9)) (.cells #[.string s] 9); simp only [World.size_alloc] at h; exact h⟩, ⟨below_alloc (below_alloc (Below.refl _ _) _) _⟩⟩
 case rest =>
  obtain ⟨B4, B5, rfl, rfl, HB4, HB5, HB⟩ := hcut
  have HCLO := Lib.hid (fun (w3 W : World) (hb3 : Below wc.heap.size wc w3) (b : Nat) (hbb : wc.heap.size ≤ b) (x : Cl) (hb : Below b w3 W) => part_clo B4 B5 t s W x (((hb3.block B4 (blk_lt HB4.out)) ▸ hb.block B4 (Nat.lt_of_lt_of_le (blk_lt HB4.out) hbb)) ▸ HB4.out) (((hb3.block B5 (blk_lt HB5.out)) ▸ hb.block B5 (Nat.lt_of_lt_of_le (blk_lt HB5.out) hbb)) ▸ HB5.out))
  have eg : ∀ args w, (callFunc 37 args).run Try.prog w = .ok (.enter 37 args) w := enters_of Try.func37 (by kernel_rfl) rfl
  have hbz : wc.heap.size ≤ (wc.alloc (.cells #[.slice A0 l.length c0] 25)).heap.size := by simp
  have HBZ := Lib.hid hbz
  clear hbz
  go_wp2_with (first | (go_at_call 15; (with_reducible refine (HA.out _ HB.out _ rfl).mono ?_); rintro e w3 ⟨v3, rfl, ho, hb⟩; have HO := Lib.hid (HF.out ▸ ho); have HB3 := Lib.hid (below_then (below_alloc (Below.refl wc.heap.size wc) _) HBZ.out hb); have HSZ := Lib.hid hb.size; clear ho hb) | (go_at_call 38; refine (del_R _ (fun _ => True) v3 (normC l) (otherP t s) 37 #[.pointer (some ⟨B4, 0, none⟩), .pointer (some ⟨B5, 0, none⟩)] w3 eg HO.out HSZ.out (by have := HL.out; omega) (fun W x _ hb => HCLO.out w3 W HB3.out _ HBZ.out x hb)).mono ?_; rintro e w5 ⟨v5, rfl, ho5, hb5⟩; have HO5 := Lib.hid ho5; have HB5b := Lib.hid hb5; clear ho5 hb5))
  go_ret
  have hb13 : Below w.heap.size w w3 := HB.out.trans (HB3.out.mono (below_size HB.out))
  have hsz : w.heap.size ≤ (wc.alloc (.cells #[.slice A0 l.length c0] 25)).heap.size := Nat.le_trans (below_size HB.out) HBZ.out
  exact ⟨_, rfl, Kd.R_lower HO5.out hsz, hb13.trans (HB5b.out.mono hsz)⟩
end Go.Proofs.Ytabiekkebdocnaa.Q
