/- Buckets, the cells of buckets, the hashes of buckets: the program's and the document's. -/
import Derived.Test.YtafhnjlihhfoaaaUbQx26
import Derived.Test.YtafhnjlihhfoaaaUbJ41
import Derived.Test.YtafhnjlihhfoaaaUbQx38
import Derived.Test.YtafhnjlihhfoaaaUbQx35
import Derived.Test.YtafhnjlihhfoaaaUbJ32
import Derived.Test.YtafhnjlihhfoaaaUbJ43
import Derived.Test.YtafhnjlihhfoaaaUbJ15
namespace Go.Proofs.Ytafhnjlihhfoaaa.Pl
open Go Go.RowKit Go.Proofs.YtafhnjlihhfoaaaW.PrintWords Go.Proofs.YtafhnjlihhfoaaaW.PrintMore Go.Proofs.Ytafhnjlihhfoaaa.Q Go.Proofs.Ytafhnjlihhfoaaa.Mur Go.Proofs.Ytafhnjlihhfoaaa.Ord Go.Proofs.Ytafhnjlihhfoaaa.Nm
set_option linter.unusedVariables false
set_option linter.unusedSimpArgs false
abbrev Cl := S38
theorem add_from (x : Cl) : ∀ (l : List Cl) (z : Cl), z ∈ add cmpK keyC joinC x l → z = x ∨ z ∈ l
 | [], z, h => by
  simp [add] at h
  exact .inl h
 | y :: l, z, h => by
  rcases Int.lt_trichotomy (cmpK (keyC y) (keyC x)) 0 with h1 | h1 | h1
  ·
   rw [add_less x h1] at h
   rcases List.mem_cons.1 h with rfl | h
   ·
    exact .inr List.mem_cons_self
   ·
    rcases add_from x l z h with h | h
    ·
     exact .inl h
    ·
     exact .inr (List.mem_cons_of_mem _ h)
  ·
   rw [add_same x h1] at h
   rcases List.mem_cons.1 h with rfl | h
   ·
    have hk : y.f0 = x.f0 := key_same h1
    rcases join_or y.f1 x.f1 with e | e
    ·
     refine .inr (List.mem_cons.2 (.inl ?_))
     unfold joinC; rw [e]
    ·
     refine .inl ?_
     unfold joinC; rw [e, hk]
   ·
    exact .inr (List.mem_cons_of_mem _ h)
  ·
   rw [add_more x h1] at h
   rcases List.mem_cons.1 h with rfl | h
   ·
    exact .inl rfl
   ·
    exact .inr h
theorem run_from : ∀ (l s : List Cl) (z : Cl), z ∈ l.foldl (fun s x => add cmpK keyC joinC x s) s → z ∈ l ∨ z ∈ s
 | [], s, z, h => .inr h
 | x :: l, s, z, h => by
  rcases run_from l _ z h with h | h
  ·
   exact .inl (List.mem_cons_of_mem _ h)
  ·
   rcases add_from x s z h with rfl | h
   ·
    exact .inl List.mem_cons_self
   ·
    exact .inr h
theorem normC_from {l : List Cl} {z : Cl} (h : z ∈ normC l) : z ∈ l := by
 rcases run_from l [] z h with h | h
 ·
  exact h
 ·
  cases h
def depN (a : Int) : Nat := (mn (mx a 0) 6).toNat
theorem dep_eq (a : Int) : mn (mx a 0) 6 = (depN a : Int) ∧ depN a ≤ 6 := by
 unfold depN mn mx
 repeat' split
 all_goals omega
def bk (d : Nat) (c : Cl) : Int := bucketOf c.f0.f1 (d : Int)
theorem sum2_rng (l : List Int) (s : Int) : 0 ≤ (sumN l s).2 ∧ (sumN l s).2 < 18446744073709551616 := by
 unfold sumN sumF
 simp only
 rw [IntKind.wrap_u64]
 omega
theorem bucket_rng (p : ByteArray) (d : Nat) (hd : d ≤ 6) : 0 ≤ bucketOf p (d : Int) ∧ bucketOf p (d : Int) < ((2 ^ d : Nat) : Int) ∧ bucketOf p (d : Int) = bucketR (sumN (bytesOf p) 0).2 (d : Int) := by
 unfold bucketOf bucketR
 have h := sum2_rng (bytesOf p) 0
 generalize (sumN (bytesOf p) 0).2 = x at *
 unfold wrap64
 rcases (show d = 0 ∨ d = 1 ∨ d = 2 ∨ d = 3 ∨ d = 4 ∨ d = 5 ∨ d = 6 by omega) with rfl | rfl | rfl | rfl | rfl | rfl | rfl
 all_goals
  simp
  omega
theorem bk_nat (d : Nat) (hd : d ≤ 6) (c : Cl) : ∃ b : Nat, bk d c = (b : Int) ∧ b < 2 ^ d := by
 obtain ⟨h1, h2, _⟩ := bucket_rng c.f0.f1 d hd
 exact ⟨(bk d c).toNat, by unfold bk; omega, by unfold bk; omega⟩
theorem tbucket_f (p : ByteArray) (a : Int) (hs : p.size ≤ 9223372036854775807) : tree_Bucket.f p a = some (bucketOf p (depN a : Int)) := by
 unfold tree_Bucket.f
 rw [if_pos hs, (dep_eq a).1]
theorem rbucket_f (p : ByteArray) (a : Int) (hs : p.size ≤ 1000000) (k : Nat) (hk : 1000020 ≤ k) : skerryref22_Bucket.f k p a = some (bucketOf p (depN a : Int)) := by
 unfold skerryref22_Bucket.f
 rw [if_pos (by omega), (dep_eq a).1, rsum_f _ (bytesOf_byt p) (by rw [bytesOf_length]; omega) k (by rw [bytesOf_length]; omega), Option.map_some, (bucket_rng p _ (dep_eq a).2).2.2]
def pickC (l : List Cl) (d : Nat) (bs : List Int) : List Cl := (normC l).filter fun c => bs.contains (bk d c)
structure Sm (l : List Cl) : Prop where
 len : l.length ≤ 1000
 sz : ∀ c ∈ l, szC c ≤ 4000
 ok : ∀ c ∈ l, okC c
theorem Sm.app {l m : List Cl} (h : Sm l) (h' : Sm m) (hl : (l ++ m).length ≤ 1000) : Sm (l ++ m) := ⟨hl, fun c hc => (List.mem_append.1 hc).elim (h.sz c) (h'.sz c), fun c hc => (List.mem_append.1 hc).elim (h.ok c) (h'.ok c)⟩
theorem Sm.sub {l m : List Cl} (h : Sm l) (hl : m.length ≤ l.length) (hm : ∀ c ∈ m, c ∈ l) : Sm m := ⟨Nat.le_trans hl h.len, fun c hc => h.sz c (hm c hc), fun c hc => h.ok c (hm c hc)⟩
theorem Sm.norm {l : List Cl} (h : Sm l) : Sm (normC l) := h.sub (norm_len l) (fun c hc => normC_from hc)
theorem Sm.pick {l : List Cl} (h : Sm l) (d : Nat) (bs : List Int) : Sm (pickC l d bs) := h.norm.sub (List.length_filter_le _ _) (fun c hc => (List.mem_filter.1 hc).1)
theorem Sm.part {l : List Cl} (h : Sm l) {c : Cl} (hc : c ∈ l) : c.f0.f1.size ≤ 4000 := by
 have := h.sz c hc
 unfold szC at this
 omega
theorem pick_f (l : List Cl) (h : Sm l) (a : Int) (bs : List Int) (k : Nat) (hk : 2000 ≤ k) : tree_Pick.f k l a bs = some (pickC l (depN a) bs) := by
 unfold tree_Pick.f
 have hl := h.len
 have hn := h.norm.len
 rw [norm_f l (by omega) k (by omega), Option.bind_some, (dep_eq a).1]
 rw [if_pos ⟨by omega, List.all_eq_true.2 (fun c hc => by have := h.norm.part hc; simp; omega)⟩]
 rfl
theorem in_l0 (x : Int) (bs : List Int) (hb : bs.length ≤ 1000000) : ∀ (d i k : Nat), i + d = bs.length → d < k → skerryref22_in.l0 k x bs (bs.length : Int) (i : Int) = some ((bs.drop i).contains x)
 | d, i, 0, _, hk => by omega
 | 0, i, k + 1, hd, _ => by
  rw [skerryref22_in.l0, if_neg (by omega), List.drop_of_length_le (by omega)]; rfl
 | d + 1, i, k + 1, hd, hk => by
  have hi : i < bs.length := by omega
  have e1 : wrap64 ((i : Int) + 1) = ((i + 1 : Nat) : Int) := by unfold wrap64; omega
  have e2 : rd bs (i : Int) = bs[i] := by unfold rd; rw [Int.toNat_natCast, List.getD_eq_getElem?_getD, List.getElem?_eq_getElem hi]; rfl
  rw [skerryref22_in.l0, if_pos (by omega), if_pos (by omega), if_pos (by omega), e1, e2, in_l0 x bs hb d (i + 1) k (by omega) (by omega), List.drop_eq_getElem_cons hi, List.contains_cons]
  by_cases h : bs[i] = x
  ·
   rw [if_pos h]; simp [h]
  ·
   rw [if_neg h]
   have : (x == bs[i]) = false := by simpa using fun e => h e.symm
   rw [this, Bool.false_or]
theorem in_f (x : Int) (bs : List Int) (hb : bs.length ≤ 1000000) (k : Nat) (hk : bs.length < k) : skerryref22_in.f k bs x = some (bs.contains x) := by
 have := in_l0 x bs hb bs.length 0 k (by omega) hk
 simpa [skerryref22_in.f] using this
theorem rpick_l0 (a : Int) (bs : List Int) (hb : bs.length ≤ 1000000) (m : List Cl) (h : Sm m) : ∀ (d i k : Nat) (os : List Cl), i + d = m.length → d + 1000100 < k → os.length ≤ i →
  skerryref22_Pick.l0 k a bs os m (m.length : Int) (i : Int) = some (os ++ (m.drop i).filter fun c => bs.contains (bk (depN a) c))
 | d, i, 0, os, _, hk, _ => by omega
 | 0, i, k + 1, os, hd, _, _ => by
  rw [skerryref22_Pick.l0, if_neg (by omega), List.drop_of_length_le (by omega)]; simp
 | d + 1, i, k + 1, os, hd, hk, ho => by
  have hi : i < m.length := by omega
  have hl := h.len
  have e1 : wrap64 ((i : Int) + 1) = ((i + 1 : Nat) : Int) := by unfold wrap64; omega
  have e2 := rd_cell m i hi
  have hc : m[i] ∈ m := List.getElem_mem hi
  have hs := h.part hc
  have ih1 := rpick_l0 a bs hb m h d (i + 1) k os (by omega) (by omega) (by omega)
  have ih2 := rpick_l0 a bs hb m h d (i + 1) k (os ++ [m[i]]) (by omega) (by omega) (by simp; omega)
  rw [skerryref22_Pick.l0, if_pos (by omega), if_pos (by omega), if_pos (by omega), e1, e2, rbucket_f _ a (by omega) k (by omega), Option.bind_some, in_f _ bs hb k (by omega), Option.bind_some, List.drop_eq_getElem_cons hi, List.filter_cons]
  by_cases hb2 : bs.contains (bucketOf (m[i]).f0.f1 (depN a : Int)) = true
  ·
   rw [if_pos hb2, if_pos (by omega), if_pos (show bs.contains (bk (depN a) m[i]) = true from hb2)]
   refine Eq.trans ?_ (ih2.trans (by rw [List.append_assoc]; rfl))
   rfl
  ·
   rw [if_neg hb2, if_neg (show ¬ bs.contains (bk (depN a) m[i]) = true from hb2)]
   exact ih1
theorem rpick_f (l : List Cl) (h : Sm l) (a : Int) (bs : List Int) (hb : bs.length ≤ 1000000) (k : Nat) (hk : 1002000 ≤ k) : skerryref22_Pick.f k l a bs = some (pickC l (depN a) bs) := by
 unfold skerryref22_Pick.f
 have hl := h.len
 have hn := h.norm.len
 rw [rnorm_f l (by omega) k (by omega), Option.bind_some]
 have := rpick_l0 a bs hb (normC l) h.norm (normC l).length 0 k [] (by omega) (by omega) (by simp)
 simpa [pickC] using this
end Go.Proofs.Ytafhnjlihhfoaaa.Pl
namespace Go.Proofs.Ytafhnjlihhfoaaa.Pl
open Go Go.RowKit Go.Proofs.YtafhnjlihhfoaaaW.PrintWords Go.Proofs.YtafhnjlihhfoaaaW.PrintMore Go.Proofs.Ytafhnjlihhfoaaa.Q Go.Proofs.Ytafhnjlihhfoaaa.Mur Go.Proofs.Ytafhnjlihhfoaaa.Ord Go.Proofs.Ytafhnjlihhfoaaa.Nm
set_option linter.unusedVariables false
set_option linter.unusedSimpArgs false
def inB (d b : Nat) (l : List Cl) : List Cl := l.filter fun c => bk d c == (b : Int)
def hashB (p : List Cl) : Int := if p.length = 0 then 0 else digN p
def leavesC (l : List Cl) (d : Nat) : List Int := (List.range (2 ^ d)).map fun b => hashB (inB d b (normC l))
theorem pick_one (l : List Cl) (d b : Nat) : pickC l d [(b : Int)] = inB d b (normC l) := by
 unfold pickC inB
 exact List.filter_congr (fun c _ => by rw [List.contains_cons]; simp)
theorem Sm.inB {l : List Cl} (h : Sm l) (d b : Nat) : Sm (inB d b l) := h.sub (List.length_filter_le _ _) (fun c hc => (List.mem_filter.1 hc).1)
theorem wOf_sz (c : Cl) : wOf c ≤ 100 + szC c := by unfold wOf szC; split <;> omega
theorem Sm.dig {l : List Cl} (h : Sm l) (k : Nat) (hk : 100000100 ≤ k) : cell_Digest.f k l = some (digN l) ∧ skerryref05_Digest.f k l = some (digN l) := by
 have hl := h.len
 refine digest_f l h.ok (by omega) ?_ k hk
 have := total_le 4100 l fun c hc => by have := h.sz c hc; have := wOf_sz c; omega
 have h3 : l.length * 4100 ≤ 1000 * 4100 := Nat.mul_le_mul_right _ hl
 omega
def dist (d : Nat) (m : List Cl) : List (List Cl) := (List.range (2 ^ d)).map fun b => inB d b m
theorem dist_len (d : Nat) (m : List Cl) : (dist d m).length = 2 ^ d := by simp [dist]
theorem dist_rd (d : Nat) (m : List Cl) (b : Nat) (hb : b < 2 ^ d) : rd_L12 (dist d m) (b : Int) = inB d b m := by
 unfold rd_L12 dist
 rw [Int.toNat_natCast, List.getD_eq_getElem?_getD, List.getElem?_map, List.getElem?_range hb]
 rfl
theorem dist_snoc (d : Nat) (m : List Cl) (c : Cl) (b : Nat) (hb : b < 2 ^ d) (e : bk d c = (b : Int)) : (dist d m).set b (inB d b m ++ [c]) = dist d (m ++ [c]) := by
 apply List.ext_getElem
 ·
  simp [dist]
 ·
  intro i h1 h2
  have hi : i < 2 ^ d := by simpa [dist] using h1
  have f1 : ∀ (q : List Cl) (h : i < (dist d q).length), (dist d q)[i] = inB d i q := fun q h => by simp [dist]
  rw [List.getElem_set, f1, f1]
  unfold inB
  rw [List.filter_append]
  by_cases hbi : b = i
  ·
   subst hbi
   simp [e]
  ·
   rw [if_neg hbi]
   have : (bk d c == (i : Int)) = false := by rw [e]; simpa using fun h => hbi (by omega)
   simp [this]
theorem tl_l1 (ps : List (List Cl)) (hp : ∀ p ∈ ps, Sm p) (hn : ps.length ≤ 64) : ∀ (d i k : Nat), i + d = ps.length → d + 100000200 < k →
  tree_Leaves.l1 k ((ps.take i).map hashB ++ List.replicate d 0) ps (ps.length : Int) (i : Int) = some (ps.map hashB)
 | d, i, 0, _, hk => by omega
 | 0, i, k + 1, hd, _ => by
  rw [tree_Leaves.l1, if_neg (by omega), List.take_of_length_le (by omega)]
  simp
 | d + 1, i, k + 1, hd, hk => by
  have hi : i < ps.length := by omega
  have e1 : wrap64 ((i : Int) + 1) = ((i + 1 : Nat) : Int) := by unfold wrap64; omega
  have e2 : rd_L12 ps (i : Int) = ps[i] := by unfold rd_L12; rw [Int.toNat_natCast, List.getD_eq_getElem?_getD, List.getElem?_eq_getElem hi]; rfl
  have hm := hp _ (List.getElem_mem hi)
  have ih := tl_l1 ps hp hn d (i + 1) k (by omega) (by omega)
  have hlen : (((ps.take i).map hashB ++ List.replicate (d + 1) 0 : List Int)).length = ps.length := by simp; omega
  rw [tree_Leaves.l1, if_pos (by omega), if_pos (by omega), if_pos (by omega), e2, e1]
  have es : ∀ x : Int, ((ps.take i).map hashB ++ List.replicate (d + 1) 0).set i x = (ps.take i).map hashB ++ x :: List.replicate d 0 := fun x => by
   rw [List.set_append_right _ _ (by simp; omega)]
   have : i - ((ps.take i).map hashB).length = 0 := by simp; omega
   rw [this, List.replicate_succ, List.set_cons_zero]
  have et : (ps.take (i + 1)).map hashB ++ List.replicate d 0 = (ps.take i).map hashB ++ hashB ps[i] :: List.replicate d 0 := by
   rw [List.take_succ_eq_append_getElem hi, List.map_append, List.append_assoc]; rfl
  rw [et] at ih
  by_cases h0 : ((ps[i].length : Int)) > 0
  ·
   rw [if_pos h0, (hm.dig k (by omega)).1, Option.bind_some, if_pos (by rw [hlen]; omega), Int.toNat_natCast, es]
   unfold hashB at ih
   rw [if_neg (by omega)] at ih
   exact ih
  ·
   rw [if_neg h0]
   unfold hashB at ih
   rw [if_pos (by omega)] at ih
   rw [List.replicate_succ]
   exact ih
theorem tl_l0 (a : Int) (m : List Cl) (h : Sm m) : ∀ (d i k : Nat), i + d = m.length → d + 100001000 < k →
  tree_Leaves.l0 k a (dist (depN a) (m.take i)) m (m.length : Int) (i : Int) = some ((dist (depN a) m).map hashB)
 | d, i, 0, _, hk => by omega
 | 0, i, k + 1, hd, hk => by
  have hp := pow_le (dep_eq a).2
  have h64 : (2 : Nat) ^ 6 = 64 := rfl
  have hl := dist_len (depN a) m
  rw [tree_Leaves.l0, if_neg (by omega), List.take_of_length_le (by omega), if_pos (by omega), if_pos (by omega), Int.toNat_natCast]
  have := tl_l1 (dist (depN a) m) (fun p hp => by
   unfold dist at hp
   obtain ⟨b, _, rfl⟩ := List.mem_map.1 hp
   exact h.inB _ _) (by omega) (dist (depN a) m).length 0 k (by omega) (by omega)
  simpa using this
 | d + 1, i, k + 1, hd, hk => by
  have hp := pow_le (dep_eq a).2
  have h64 : (2 : Nat) ^ 6 = 64 := rfl
  have hi : i < m.length := by omega
  have hlm := h.len
  have e1 : wrap64 ((i : Int) + 1) = ((i + 1 : Nat) : Int) := by unfold wrap64; omega
  have e2 := rd_cell m i hi
  have hs := h.part (List.getElem_mem hi)
  obtain ⟨b, hb, hb2⟩ := bk_nat (depN a) (dep_eq a).2 m[i]
  have hbk : bucketOf (m[i]).f0.f1 (depN a : Int) = (b : Int) := hb
  have hl := dist_len (depN a) (m.take i)
  have hlb : (inB (depN a) b (m.take i)).length ≤ i := Nat.le_trans (List.length_filter_le _ _) (by rw [List.length_take]; omega)
  have ih := tl_l0 a m h d (i + 1) k (by omega) (by omega)
  rw [List.take_succ_eq_append_getElem hi, ← dist_snoc _ _ _ b hb2 hb] at ih
  rw [tree_Leaves.l0, if_pos (by omega), if_pos (by omega), if_pos (by omega), e1, e2, tbucket_f _ a (by omega), Option.bind_some, hbk, if_pos (by omega), if_pos (by omega), dist_rd _ _ _ hb2, if_pos (by omega), Int.toNat_natCast]
  exact ih
theorem dist_map (l : List Cl) (d : Nat) : (dist d (normC l)).map hashB = leavesC l d := by
 unfold dist leavesC
 rw [List.map_map]; rfl
theorem shl1 (d : Nat) (hd : d ≤ 6) : shl .i64 1 (d : Int) = ((2 ^ d : Nat) : Int) := by
 rcases (show d = 0 ∨ d = 1 ∨ d = 2 ∨ d = 3 ∨ d = 4 ∨ d = 5 ∨ d = 6 by omega) with rfl | rfl | rfl | rfl | rfl | rfl | rfl <;> decide
theorem dist_nil (d : Nat) : dist d [] = List.replicate (2 ^ d) [] := by
 unfold dist inB
 apply List.ext_getElem
 ·
  simp
 ·
  intro i h1 h2; simp
theorem leaves_f (l : List Cl) (h : Sm l) (a : Int) (k : Nat) (hk : 100010000 ≤ k) : tree_Leaves.f k l a = some (leavesC l (depN a)) := by
 have hp := pow_le (dep_eq a).2
 have h64 : (2 : Nat) ^ 6 = 64 := rfl
 have hl := h.len
 have hn := h.norm.len
 have hd := dep_eq a
 unfold tree_Leaves.f tree_depthOf.f
 rw [Option.bind_some, hd.1, shl1 _ hd.2, if_pos (by omega), if_pos (Int.natCast_nonneg _), if_pos (by rw [Int.toNat_natCast]; omega), norm_f l (by omega) k (by omega), Option.bind_some, Int.toNat_natCast, ← dist_nil, ← dist_map]
 exact tl_l0 a (normC l) h.norm (normC l).length 0 k (by omega) (by omega)
theorem rdep_f (a : Int) : skerryref22_Depth.f a = some (depN a : Int) := by rw [ref22_dep, (dep_eq a).1]
theorem rl_l0 (l : List Cl) (h : Sm l) (a : Int) : ∀ (d i k : Nat) (os : List Int), i + d = 2 ^ depN a → d + 100010000 < k → os.length ≤ i →
  skerryref22_Leaves.l0 k l a os (i : Int) = some (os ++ (List.range d).map fun j => hashB (inB (depN a) (i + j) (normC l)))
 | d, i, 0, os, _, hk, _ => by omega
 | 0, i, k + 1, os, hd, _, _ => by
  have hd6 := dep_eq a
  have e0 : IntKind.u64.wrap (depN a : Int) = (depN a : Int) := wraps_u64 _ (by omega) (by omega)
  rw [skerryref22_Leaves.l0, rdep_f, Option.bind_some, e0, if_pos (by omega), shl1 _ hd6.2, if_neg (by omega)]
  simp
 | d + 1, i, k + 1, os, hd, hk, ho => by
  have hd6 := dep_eq a
  have hp := pow_le hd6.2
  have h64 : (2 : Nat) ^ 6 = 64 := rfl
  have e0 : IntKind.u64.wrap (depN a : Int) = (depN a : Int) := wraps_u64 _ (by omega) (by omega)
  have e1 : wrap64 ((i : Int) + 1) = ((i + 1 : Nat) : Int) := by unfold wrap64; omega
  have hm := h.norm.inB (depN a) i
  have er : List.range (d + 1) = 0 :: (List.range d).map (fun j => 1 + j) := by rw [Nat.add_comm, List.range_add]; rfl
  have ih : ∀ x : Int, x = hashB (inB (depN a) i (normC l)) → skerryref22_Leaves.l0 k l a (os ++ [x]) ((i + 1 : Nat) : Int) = some (os ++ (List.range (d + 1)).map fun j => hashB (inB (depN a) (i + j) (normC l))) := fun x hx => by
   rw [rl_l0 l h a d (i + 1) k (os ++ [x]) (by omega) (by omega) (by simp; omega), er, List.map_cons, List.map_map, List.append_assoc, hx]
   have f1 : (List.range d).map (fun j => hashB (inB (depN a) (i + 1 + j) (normC l))) = (List.range d).map ((fun j => hashB (inB (depN a) (i + j) (normC l))) ∘ fun j => 1 + j) :=
    List.map_congr_left (fun j _ => by simp only [Function.comp]; rw [show i + (1 + j) = i + 1 + j by omega])
   rw [f1]; rfl
  rw [skerryref22_Leaves.l0, rdep_f, Option.bind_some, e0, if_pos (by omega), shl1 _ hd6.2, if_pos (by omega), rpick_f l h a _ (by simp) k (by omega), Option.bind_some, pick_one]
  by_cases h0 : (((inB (depN a) i (normC l)).length : Int)) > 0
  ·
   rw [if_pos h0, (hm.dig k (by omega)).2, Option.bind_some, if_pos (by omega), e1]
   exact ih _ (by unfold hashB; rw [if_neg (by omega)])
  ·
   rw [if_neg h0, if_pos (by omega), e1]
   exact ih _ (by unfold hashB; rw [if_pos (by omega)])
theorem rleaves_f (l : List Cl) (h : Sm l) (a : Int) (k : Nat) (hk : 100020000 ≤ k) : skerryref22_Leaves.f k l a = some (leavesC l (depN a)) := by
 have hp := pow_le (dep_eq a).2
 have h64 : (2 : Nat) ^ 6 = 64 := rfl
 have := rl_l0 l h a (2 ^ depN a) 0 k [] (by omega) (by omega) (by simp)
 unfold skerryref22_Leaves.f leavesC
 simpa using this
theorem leavesC_len (l : List Cl) (d : Nat) : (leavesC l d).length = 2 ^ d := by simp [leavesC]
theorem words_l0 (l : List Int) (hl : l.length ≤ 1000000) : ∀ (d i k : Nat), i + d = l.length → d < k → skerryref01_Words.l0 k l l (l.length : Int) (i : Int) = some true
 | d, i, 0, _, hk => by omega
 | 0, i, k + 1, hd, _ => by rw [skerryref01_Words.l0, if_neg (by omega)]
 | d + 1, i, k + 1, hd, hk => by
  have e1 : wrap64 ((i : Int) + 1) = ((i + 1 : Nat) : Int) := by unfold wrap64; omega
  rw [skerryref01_Words.l0, if_pos (by omega), if_pos (by omega), if_pos (by omega), if_pos (by omega), if_pos rfl, e1, words_l0 l hl d (i + 1) k (by omega) (by omega)]
theorem words_self (l : List Int) (hl : l.length ≤ 1000000) (k : Nat) (hk : l.length < k) : skerryref01_Words.f k l l = some true := by
 unfold skerryref01_Words.f
 rw [if_pos rfl]
 exact words_l0 l hl l.length 0 k (by omega) hk
end Go.Proofs.Ytafhnjlihhfoaaa.Pl
