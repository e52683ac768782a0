/- Rows of elements without rows inside (each element's cells are a list told by the element alone): the print's word of a row, and the sort's. -/
import Derived.Test.YthlffcaaifpdeaaVbWWords
import Derived.Test.YthlffcaaifpdeaaVbSortRow
namespace Go.Proofs.Ythlffcaaifpdeaa.Srt
open Go Go.Shelf Go.RowKit Go.Lib Go.Sort Go.Proofs Go.Proofs.YthlffcaaifpdeaaW.PrintWords
set_option linter.unusedVariables false
set_option linter.unusedSimpArgs false
variable {α : Type} [Inhabited α] {enc : α → List Value} {k : Nat}
omit [Inhabited α] in
theorem div_lt' {t n k : Nat} (h : t < n * k) : t / k < n := Nat.div_lt_of_lt_mul (by rw [Nat.mul_comm]; exact h)
theorem holds_own {w : World} {g e cap : Nat} {xs : List α} {inner : List Value} {cur : Array Value} (hk : ∀ x, (enc x).length = k) (hh : w.heap[g]? = some (.cells cur e (0, 0))) (ht : cur.toList.take (xs.length * k) = inner) (hc : xs.length ≤ cap) (hcs : cur.size = cap * k)
  (hr : Reps (fun x cs => cs = enc x) k xs inner) : HoldsK enc k w g 0 xs.toArray := by
 intro t ht'
 rw [size_flatK] at ht'
 rw [get_flatK _ _ _ _ ht']
 simp only [List.size_toArray] at ht'
 have hj := div_lt' ht'
 have k0 : 0 < k := Nat.pos_of_ne_zero fun h => by subst h; omega
 have hle : xs.length * k ≤ cap * k := Nat.mul_le_mul_right k hc
 have h1 := hr.2 (t / k) _ (List.getElem?_eq_getElem hj)
 have hm : t / k * k + t % k = t := by rw [Nat.mul_comm]; exact Nat.div_add_mod t k
 have hlt := Nat.mod_lt t k0
 have h2 : inner[t]? = (enc xs[t / k])[t % k]? := by
  rw [← h1, List.getElem?_take_of_lt hlt, List.getElem?_drop, hm]
 have h3 : inner[t]? = cur[t]? := by
  rw [← ht, List.getElem?_take_of_lt ht']; simp
 have h4 : (enc xs[t / k])[t % k]? = some (enc xs[t / k])[t % k]! := by
  rw [List.getElem?_eq_getElem (by rw [hk]; exact hlt), getElem!_pos _ _ (by rw [hk]; exact hlt)]
 have e1 : xs.toArray[t / k]! = xs[t / k] := by simp [hj]
 constructor
 ·
  show w.cell? ⟨g, 0 + t, none⟩ = some (enc xs.toArray[t / k]!)[t % k]!
  unfold World.cell?
  simp only [hh, Nat.zero_add]
  rw [e1, ← h4, ← h2, h3]
  simp
 ·
  unfold World.frozen?
  simp only [hh]
  simp
theorem own_holds {W : World} {g e cap : Nat} {xs : List α} {cur : Array Value} (hk : ∀ x, (enc x).length = k) (hh : W.heap[g]? = some (.cells cur e (0, 0))) (hc : xs.length ≤ cap) (hcs : cur.size = cap * k) (h : HoldsK enc k W g 0 xs.toArray) :
  Reps (fun x cs => cs = enc x) k xs (cur.toList.take (xs.length * k)) := by
 have hle : xs.length * k ≤ cap * k := Nat.mul_le_mul_right k hc
 refine ⟨by rw [List.length_take]; simp; omega, fun j p hj => ?_⟩
 obtain ⟨hl, rfl⟩ := List.getElem?_eq_some_iff.1 hj
 apply List.ext_getElem?
 intro i
 have hjk : j * k + k ≤ xs.length * k := by
  have := Nat.mul_le_mul_right k (show j + 1 ≤ xs.length from hl); rwa [Nat.add_mul, Nat.one_mul] at this
 rcases Nat.lt_or_ge i k with hi | hi
 ·
  rw [List.getElem?_take_of_lt hi, List.getElem?_drop, List.getElem?_take_of_lt (by omega)]
  have h1 := (HoldsK.cell h (i := j) (c := i) (by simpa using hl) hi).1
  unfold World.cell? at h1
  simp only [hh, Nat.zero_add] at h1
  have e1 : xs.toArray[j]! = xs[j] := by simp [hl]
  rw [e1] at h1
  have h2 : cur[j * k + i]? = some (enc xs[j])[i]! := by simpa using h1
  rw [show cur.toList[j * k + i]? = cur[j * k + i]? by simp, h2, List.getElem?_eq_getElem (by rw [hk]; exact hi), getElem!_pos _ _ (by rw [hk]; exact hi)]
 ·
  rw [List.getElem?_eq_none (by rw [List.length_take]; omega), List.getElem?_eq_none (by rw [hk]; exact hi)]
theorem SWB.block {w0 W : World} {g off e : Nat} {dk : Array α} {cur : Array Value} (h : SWB enc k w0 g off dk W) (hh : w0.heap[g]? = some (.cells cur e (0, 0))) : ∃ cur', W.heap[g]? = some (.cells cur' e (0, 0)) ∧ cur'.size = cur.size := by
 refine ⟨putCells id off (flatK enc k dk) cur, ?_, by simp [putCells]⟩
 rw [h.row]
 unfold putRowK putRow mapBlock
 simp only [Array.getElem?_modify, if_true, hh]
 rfl
section
variable {d : Kd α} {w W : World} {base g e cap : Nat} {ok : Nat → Prop} {xs ys : List α}
omit [Inhabited α] in
theorem R_parts (hM : ∀ w base ok x cs, d.M w base ok x cs → cs = enc x) (h : d.R e w base ok (.slice (some ⟨g, 0, none⟩) xs.length cap) xs) :
  ∃ cur, w.heap[g]? = some (.cells cur e (0, 0)) ∧ base ≤ g ∧ ok g ∧ xs.length ≤ cap ∧ cap ≤ maxLen ∧ cur.size = cap * d.sz ∧ Reps (fun x cs => cs = enc x) d.sz xs (cur.toList.take (xs.length * d.sz)) := by
 obtain ⟨h0, inner, ho, hr⟩ := h
 rcases ho.2 with ⟨h1, _⟩ | ⟨g', cap', cur, h1, h2, h3, h4, h5, h6, h7⟩
 ·
  cases h1
 ·
  injection h1 with a1 a2 a3
  injection a1 with a1
  injection a1 with a1
  subst a1 a3
  exact ⟨cur, h3, h2, h0 g rfl, h4, h5, h6, by rw [h7]; exact hr.imp_ (fun x cs hx => hM _ _ _ _ _ hx)⟩
theorem R_holds (hk : ∀ x, (enc x).length = d.sz) (hM : ∀ w base ok x cs, d.M w base ok x cs → cs = enc x) (h : d.R e w base ok (.slice (some ⟨g, 0, none⟩) xs.length cap) xs) : HoldsK enc d.sz w g 0 xs.toArray ∧ g < w.heap.size ∧ base ≤ g ∧ ok g := by
 obtain ⟨cur, h1, h2, h3, h4, h5, h6, h7⟩ := R_parts hM h
 exact ⟨holds_own hk h1 rfl h4 h6 h7, (Array.getElem?_eq_some_iff.1 h1).1, h2, h3⟩
theorem R_rewritten (hk : ∀ x, (enc x).length = d.sz) (hM : ∀ w base ok x cs, d.M w base ok x cs → cs = enc x) (hM' : ∀ w base ok x, d.M w base ok x (enc x)) (h : d.R e w base ok (.slice (some ⟨g, 0, none⟩) xs.length cap) xs)
  (hW : SWB enc d.sz w g 0 ys.toArray W) (hl : ys.length = xs.length) : d.R e W base ok (.slice (some ⟨g, 0, none⟩) xs.length cap) ys := by
 obtain ⟨cur, h1, h2, h3, h4, h5, h6, h7⟩ := R_parts hM h
 obtain ⟨cur', c1, c2⟩ := hW.block h1
 have hH := hW.holds (holds_own hk h1 rfl h4 h6 h7) (by simp [hl])
 have hr := own_holds (cap := cap) hk c1 (by omega) (by rw [c2, h6]) hH
 refine ⟨fun q hq => ?_, cur'.toList.take (ys.length * d.sz), ⟨hr.1, .inr ⟨g, cap, cur', by rw [hl], h2, c1, by omega, h5, by rw [c2, h6], rfl⟩⟩, hr.imp_ (fun x cs hx => by rw [hx]; exact hM' _ _ _ _)⟩
 have : g = q := by simpa [Value.ownBlock] using hq
 rw [← this]; exact h3
end
end Go.Proofs.Ythlffcaaifpdeaa.Srt
