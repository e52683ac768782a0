/- Rows of rows: small lemmas on the print's words (a cut of a row, a row whose elements turn into others, the places 0..n-1). -/
import Derived.Test.YthlffcaaifpdeaaVbTier3
import Derived.Test.YthlffcaaifpdeaaVbJ22
import Derived.Test.YthlffcaaifpdeaaVbJ17
namespace Go.Proofs.Ythlffcaaifpdeaa.Srt
open Go Go.Shelf Go.RowKit Go.Lib Go.Sort Go.Proofs Go.Proofs.YthlffcaaifpdeaaW.PrintWords Go.Proofs.YthlffcaaifpdeaaW.PrintLast Go.Proofs.YthlffcaaifpdeaaW.PrintMore Go.Proofs.Ythlffcaaifpdeaa.Ord
set_option linter.unusedVariables false
set_option linter.unusedSimpArgs false
open Go.Proofs.YthlffcaaifpdeaaW.PrintWords.Kd
theorem reps_conv {α β : Type} {R : α → List Value → Prop} {R' : β → List Value → Prop} {sz : Nat} {xs : List α} {ys : List β} {cs : List Value} (hl : ys.length = xs.length) (h : Reps R sz xs cs)
  (hR : ∀ (j : Nat) x y c, xs[j]? = some x → ys[j]? = some y → R x c → R' y c) : Reps R' sz ys cs := by
 refine ⟨by rw [hl]; exact h.1, fun j y hj => ?_⟩
 have hlt : j < xs.length := by have := (List.getElem?_eq_some_iff.1 hj).1; omega
 exact hR j xs[j] y _ (List.getElem?_eq_getElem hlt) hj (h.2 j _ (List.getElem?_eq_getElem hlt))
theorem S_conv {α β : Type} {d : Kd α} {d' : Kd β} {e base : Nat} {ok : Nat → Prop} {w : World} {v : Value} {xs : List α} {ys : List β} (hs : d'.sz = d.sz) (hl : ys.length = xs.length) (h : Kd.S d e w base ok v xs)
  (hM : ∀ (ok' : Nat → Prop) (j : Nat) x y c, xs[j]? = some x → ys[j]? = some y → d.M w base ok' x c → d'.M w base ok' y c) : Kd.S d' e w base ok v ys := by
 obtain ⟨f, h0, inner, ho, hr⟩ := h
 have e1 : (ys.zipIdx).length = (xs.zipIdx).length := by simp [hl]
 refine ⟨f, h0, inner, ?_, ?_⟩
 ·
  have : (Kd.tag f d').sz = (Kd.tag f d).sz := hs
  rw [this, e1]; exact ho
 ·
  have e2 : (Kd.tag f d').sz = (Kd.tag f d).sz := hs
  rw [e2]
  refine reps_conv e1 hr (fun j x y c hx hy h => ?_)
  rw [List.getElem?_zipIdx, Nat.zero_add] at hx hy
  obtain ⟨x', hx1, rfl⟩ := Option.map_eq_some_iff.1 hx
  obtain ⟨y', hy1, rfl⟩ := Option.map_eq_some_iff.1 hy
  exact hM _ j x' y' c hx1 hy1 h
theorem R_S {α : Type} {d : Kd α} {e base : Nat} {ok : Nat → Prop} {w : World} {v : Value} {xs : List α} (hf : ∀ (ok1 ok2 : Nat → Prop) x c, d.M w base ok1 x c → d.M w base ok2 x c) (h : d.R e w base ok v xs) : Kd.S d e w base ok v xs := by
 obtain ⟨h0, inner, ho, hr⟩ := h
 have e1 : (xs.zipIdx).length = xs.length := by simp
 refine ⟨fun _ => 0, h0, inner, by rw [e1]; exact ho, reps_conv e1 hr (fun j x y c hx hy h => ?_)⟩
 rw [List.getElem?_zipIdx, Nat.zero_add] at hy
 obtain ⟨y', hy1, rfl⟩ := Option.map_eq_some_iff.1 hy
 rw [hx] at hy1
 obtain rfl : x = y' := Option.some.inj hy1
 exact hf _ _ _ _ h
theorem C_cut {W : World} {g n : Nat} {xs : List Int} (h : (Kd.int .i64).C W (some ⟨g, 0, none⟩) n xs) (a b : Nat) (hb : b ≤ n) : (Kd.int .i64).C W (some ⟨g, a, none⟩) (b - a) ((xs.drop a).take (b - a)) := by
 obtain ⟨h1, h2, h3⟩ := h
 refine ⟨by rw [List.length_take, List.length_drop]; omega, by omega, fun hp => ⟨_, rfl, fun j p hj => ?_⟩⟩
 have hj1 : j < b - a := by have := (List.getElem?_eq_some_iff.1 hj).1; rw [List.length_take] at this; omega
 rw [List.getElem?_take_of_lt hj1, List.getElem?_drop] at hj
 obtain ⟨ad, e1, hc⟩ := h3 (by omega)
 injection e1 with e1
 subst e1
 obtain ⟨c, c1, c2, c3⟩ := hc _ _ hj
 refine ⟨c, c1, c2, fun i u hu => ?_⟩
 have := c3 i u hu
 rw [add_plain] at this
 have e2 : (⟨g, a, none⟩ : Addr).add (j * (Kd.int .i64).sz + i) = ⟨g, (a + j) * (Kd.int .i64).sz + i, none⟩ := by
  rw [show (Kd.int .i64).sz = 1 from rfl, Nat.mul_one, Nat.mul_one]
  unfold Addr.add; split
  ·
   congr 1; omega
  ·
   simp_all; omega
 rw [e2]; exact this
def ups (i n : Nat) : List Int := (List.range i).map (fun (j : Nat) => (j : Int)) ++ List.replicate (n - i) 0
theorem ups_zero (n : Nat) : ups 0 n = List.replicate n 0 := by simp [ups]
theorem ups_set {i n : Nat} (h : i < n) : (ups i n).set i (i : Int) = ups (i + 1) n := by
 unfold ups
 rw [List.set_append_right _ _ (by simp), List.range_succ, List.map_append, List.append_assoc]
 congr 1
 obtain ⟨m, hm⟩ : ∃ m, n - i = m + 1 := ⟨n - i - 1, by omega⟩
 have : n - (i + 1) = m := by omega
 simp [hm, this, List.replicate_succ]
theorem ups_full (n : Nat) : ups n n = nums (List.finRange n) := by
 unfold ups nums
 rw [Nat.sub_self, List.replicate_zero, List.append_nil]
 apply List.ext_getElem
 ·
  simp
 ·
  intro i h1 h2; simp
end Go.Proofs.Ythlffcaaifpdeaa.Srt
