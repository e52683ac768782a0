/- CellWhole's plain law: it answers true, whatever the cells and the cut. -/
import Derived.Test.YtaedmofnhjaljaaKwJ39
import Derived.Test.YtaedmofnhjaljaaKwPWeigh
import Derived.Test.YtaedmofnhjaljaaKwPLives
import Derived.Test.YtaedmofnhjaljaaKwWholeW
import Derived.Test.YtaedmofnhjaljaaKwJ26
namespace Go.Proofs.Ytaedmofnhjaljaa.Pl
open Go Go.RowKit Go.Proofs.YtaedmofnhjaljaaW.PrintWords Go.Proofs.Ytaedmofnhjaljaa.Q Go.Proofs.Ytaedmofnhjaljaa.Ord Go.Proofs.Ytaedmofnhjaljaa.Nm Go.Proofs.Ytaedmofnhjaljaa.Wh Go.Proofs.Ytaedmofnhjaljaa.Opn
def WhOk (l : List (S29)) (cut : Int) (k : Nat) : Prop :=
 ∃ (r : Int) (gB : S29 → Bool) (all nall n1 n2 nback nparts : List (S29)) (K : Nat), (0 ≤ cut ∧ cut < 18446744073709551616) ∧ (K : Int) = cut % (((l.filter gB).length + 1 : Nat) : Int) ∧
  (∀ c : S29, cell_Good.f c.f0.f0 c.f0.f1 c.f0.f2 c.f0.f3 c.f1.f0 c.f1.f1 c.f1.f2 c.f1.f3.f0 c.f1.f3.f1 c.f1.f3.f2 = some (gB c)) ∧
  skerrylaw05_weigh.f k l 300 = some r ∧ skerrylaw05_lives.f k = some true ∧ (¬ r > 300 → l.length ≤ 1000000 ∧ WholeOk k (l.filter gB) K all nall n1 n2 nback nparts)
theorem back_mem (l : List (S29)) (x : S29) : x ∈ backL l ↔ x ∈ l := by
 unfold backL
 rw [List.mem_flatMap]
 constructor
 ·
  rintro ⟨c, hc, hx⟩
  have : x = c := by simpa using hx
  rw [this]; exact List.mem_reverse.1 hc
 ·
  intro h
  exact ⟨x, List.mem_reverse.2 h, by simp⟩
theorem back_len (l : List (S29)) : (backL l).length = 2 * l.length := by
 have : ∀ l : List (S29), (l.flatMap fun c => [c, c]).length = 2 * l.length := fun l => by
  induction l with
  | nil => rfl
  | cons x l ih => rw [List.flatMap_cons, List.length_append, ih]; simp; omega
 unfold backL
 rw [this, List.length_reverse]
theorem cellWhole (l : List (S29)) (cut : Int) (hF : ∀ c ∈ l, FineC c) (hl : l.length ≤ 1256584717421) (hcut : 0 ≤ cut ∧ cut < 18446744073709551616) : ∃ k, WhOk l cut k ∧ true = true := by
 obtain ⟨K, hK1⟩ : ∃ K : Nat, l.length + 3000 < K := ⟨l.length + 3001, by omega⟩
 obtain ⟨r, hr, hc⟩ := weigh_f 300 (by omega) l hF (by omega) K (by omega)
 obtain ⟨G, hG⟩ : ∃ G, G = l.filter goodB := ⟨_, rfl⟩
 obtain ⟨q, hq⟩ : ∃ q : Nat, (q : Int) = cut % ((G.length + 1 : Nat) : Int) := ⟨(cut % ((G.length + 1 : Nat) : Int)).toNat, by have := Int.emod_nonneg cut (show ((G.length + 1 : Nat) : Int) ≠ 0 by omega); omega⟩
 have hP : ∀ x ∈ G, PG x := fun x hx => by rw [hG] at hx; exact (List.mem_filter.1 hx).2
 have hd : ∀ x ∈ G.drop q, PG x := fun x hx => hP x (List.mem_of_mem_drop hx)
 have ht : ∀ x ∈ G.take q, PG x := fun x hx => hP x (List.mem_of_mem_take hx)
 have hbk : normC (backL G) = normC G := norm_dom gdC (fun x hx => hP x ((back_mem G x).1 hx)) hP (Dom.sub gdC fun x hx => (back_mem G x).1 hx) (Dom.sub gdC fun x hx => (back_mem G x).2 hx)
 have hpt : normC (normC (G.drop q) ++ normC (G.take q)) = normC G := by
  have := norm_parts gdC hd ht
  rw [List.take_append_drop] at this
  exact this
 have hself : normC (normC G) = normC G := norm_self (norm_inc cmpK_cmp joinC_key G)
 refine ⟨K, ⟨(r : Int), goodB, normC G, normC G, normC (G.drop q), normC (G.take q), normC G, normC G, q, hcut, by rw [← hG]; exact hq, good_f, hr, lives_f K (by omega), fun hgt => ?_⟩, rfl⟩
 rcases hc with hc | ⟨h1, _⟩
 ·
  omega
 rw [← hG]
 have hGl : G.length ≤ 300 := by
  have := List.length_filter_le goodB l
  rw [← hG] at this; omega
 have l0 : (normC G).length ≤ G.length := norm_len G
 have l1 : (normC (G.drop q)).length ≤ 300 := by
  have h2 : (normC (G.drop q)).length ≤ (G.drop q).length := norm_len _
  rw [List.length_drop] at h2; omega
 have l2 : (normC (G.take q)).length ≤ 300 := by
  have h2 : (normC (G.take q)).length ≤ (G.take q).length := norm_len _
  rw [List.length_take] at h2; omega
 have lk' : skerryref01_Like.f K (normC G) (normC G) = some true := like_self _ (by omega) K (by omega)
 obtain ⟨b, hb, hi⟩ := sorted_f (normC G) (by omega) K (by omega)
 obtain rfl : b = true := hi.2 (norm_inc cmpK_cmp joinC_key G)
 refine ⟨by omega, ⟨by omega, by omega, norm_f G (by omega) K (by omega), norm_f _ (by rw [List.length_drop]; omega) K (by rw [List.length_drop]; omega), norm_f _ (by rw [List.length_take]; omega) K (by rw [List.length_take]; omega),
  ?_, lk', ?_, lk', ?_, lk', hb, fun c hc => ?_, fun c hc => ?_⟩⟩
 ·
  rw [norm_f (normC G) (by omega) K (by omega), hself]
 ·
  rw [norm_f (backL G) (by rw [back_len]; omega) K (by rw [back_len]; omega), hbk]
 ·
  rw [norm_f _ (by rw [List.length_append]; omega) K (by rw [List.length_append]; omega), hpt]
 ·
  obtain ⟨m, m1, _, _, m4⟩ := lk_top gdC hP hc
  refine ⟨m.f1.f0, m.f1.f1, m.f1.f2, m.f1.f3.f0, m.f1.f3.f1, m.f1.f3.f2, cmpV m.f1 c.f1, ?_, ?_, m4⟩
  ·
   rw [find_f, show lk cmpK keyC c.f0 (normC G) = some m from m1]; rfl
  ·
   rw [cmp_f K (by omega)]
 ·
  rw [rkey_f, cmpK_cmp.refl]
theorem wf_u64 {n : Int} (h : (Lit.int .u64 n).wf = true) : 0 ≤ n ∧ n < 18446744073709551616 := by
 have : 0 ≤ n ∧ n ≤ 18446744073709551615 := by simpa [Lit.wf, IntKind.min, IntKind.max, IntKind.signed, IntKind.bits] using h
 omega
theorem walkW (k : Nat) (A0 : Option Addr) (c0 : Nat) (l0 : List (S29)) (cut : Int) (b : Bool) (w : World) (hr0 : Kd.C k29 w A0 l0.length l0) (hc0 : l0.length ≤ c0) (h : WhOk l0 cut k ∧ b = true) :
  Calls Try.prog 8 #[.slice A0 l0.length c0, .int .u64 cut] w fun e w' => e = .returned (.bool b) ∧ Below w.heap.size w w' := by
 obtain ⟨⟨r, gB, all, nall, n1, n2, nback, nparts, K, h1, h2, h3, h4, h5, h6⟩, rfl⟩ := h
 exact walk A0 c0 l0 cut w hr0 hc0 k r h1 gB all nall n1 n2 nback nparts K h2 h3 h4 h5 h6
end Go.Proofs.Ytaedmofnhjaljaa.Pl
