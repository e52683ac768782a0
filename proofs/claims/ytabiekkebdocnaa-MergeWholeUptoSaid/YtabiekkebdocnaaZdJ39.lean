/- Lemmas for this claim's walk: no condition of their own. -/
import Derived.Test.YtabiekkebdocnaaZdQx23
import Derived.Test.YtabiekkebdocnaaZdJ29
import Derived.Test.YtabiekkebdocnaaZdJ0
import Derived.Test.YtabiekkebdocnaaZdDown
import Derived.Test.YtabiekkebdocnaaZdSorted
import Derived.Test.YtabiekkebdocnaaZdTake
import Derived.Test.YtabiekkebdocnaaZdEach
import Derived.Test.YtabiekkebdocnaaZdGrp
import Derived.Test.YtabiekkebdocnaaZdRh
import Derived.Test.YtabiekkebdocnaaZdSeqE
import Derived.Test.YtabiekkebdocnaaZdJ13
import Derived.Test.YtabiekkebdocnaaZdAll
import Derived.Maps.OwnIn
import Derived.DeepKeys4
import Derived.Deep.MidRow
import Derived.WalkLawsBesides
import Derived.WalkSpells
import Derived.Lib.Hide
import Derived.Deep.DeepFit
import Derived.Outline
import Derived.Test.YtabiekkebdocnaaZdJ20
import Derived.Test.YtabiekkebdocnaaZdJ16
namespace Go.Proofs.Ytabiekkebdocnaa.Q
open Go.RowKit Go.Proofs.YtabiekkebdocnaaW.PrintWords Go.Proofs.YtabiekkebdocnaaW.PrintLast Go.Proofs.YtabiekkebdocnaaW.PrintMore
attribute [local go_sem] max2_int min2_int max_two min_two max_three min_three max_four min_four
set_option linter.unusedVariables false
set_option linter.unusedSimpArgs false
open Go.Lib Go.Proofs.Ytabiekkebdocnaa.Hp Go.Proofs.Ytabiekkebdocnaa.Pl Go.Proofs.Ytabiekkebdocnaa.Rh Go.Proofs.Ytabiekkebdocnaa.Ord Go.Proofs.Ytabiekkebdocnaa.Nm Go.Maps
abbrev Key := S33
abbrev Ver := S37
def keyV (k : Key) : Value := .agg #[.string k.f0, .string k.f1, .int .i64 k.f2, .string k.f3]
def verV (x : Ver) : Value := .agg #[.int .i64 x.f0, .bool x.f1, .int .i64 x.f2, .int .i64 x.f3.f0, .int .i64 x.f3.f1, .string x.f3.f2]
theorem laid_prog : laidOutB Try.prog = true := by kernel_rfl
theorem keyed : Keyed Try.prog 33 := Keyed.of_law (deep_law_laid laid_prog (m := 3) (by omega) (of_decide_eq_true (by kernel_rfl)) (by kernel_rfl) (by kernel_rfl))
def RV : Value → Option (DataW Value × List MemPlace) := fun v => some (.held v, [])
def KeyW (k : Key) : Prop := ∃ l, keyOf Try.prog 33 (keyV k) = some l
theorem key_inj {k k' : Key} {l : Lit} (h : keyOf Try.prog 33 (keyV k) = some l) (h' : keyOf Try.prog 33 (keyV k') = some l) : k = k' := by
 have e := keyed.inj h h'
 obtain ⟨a, b, c, d⟩ := k
 obtain ⟨a', b', c', d'⟩ := k'
 unfold keyV at e
 injection e with e
 injection e with e
 simp at e
 obtain ⟨rfl, rfl, rfl, rfl⟩ := e
 rfl
structure MD (D : DataW Value) (os : List Cl) : Prop where
 m : IsMap D
 at_ : ∀ k l, keyOf Try.prog 33 (keyV k) = some l → (∀ z, D.atKey l z = match lk cmpK keyC k os with | some y => .held (verV y.f1) | none => z) ∧ has D l = (lk cmpK keyC k os).isSome
theorem MD.nil : MD (.map []) [] := ⟨⟨[], rfl⟩, fun k l _ => ⟨fun z => rfl, rfl⟩⟩
theorem lk_snoc (k : Key) (os : List Cl) (y : Cl) : lk cmpK keyC k (os ++ [y]) = match lk cmpK keyC k os with | some x => some x | none => if cmpK y.f0 k = 0 then some y else none := by
 unfold lk
 rw [List.find?_append]
 cases List.find? (fun x => cmpK (keyC x) k == 0) os with
 | some x => rfl
 | none =>
  rw [Option.none_or, List.find?_cons]
  dsimp only
  by_cases h : cmpK y.f0 k = 0
  ·
   rw [if_pos h, show (cmpK (keyC y) k == 0) = true by show (cmpK y.f0 k == 0) = true; rw [h]; rfl]
  ·
   rw [if_neg h, show (cmpK (keyC y) k == 0) = false by show (cmpK y.f0 k == 0) = false; simpa using h]; rfl
theorem MD.put {D : DataW Value} {os : List Cl} (h : MD D os) {y : Cl} {l : Lit} (hl : keyOf Try.prog 33 (keyV y.f0) = some l) (hn : lk cmpK keyC y.f0 os = none) : MD (D.put l (.held (verV y.f1))) (os ++ [y]) := by
 refine ⟨h.m.put _ _, fun k l' hl' => ?_⟩
 rw [lk_snoc]
 by_cases e : y.f0 = k
 ·
  subst e
  have el : l' = l := Option.some.inj (hl'.symm.trans hl)
  subst el
  rw [hn]
  dsimp only
  rw [if_pos (cmpK_cmp.refl _)]
  exact ⟨fun z => atKey_put_same h.m (keyed.key hl) _ z, has_put_same h.m (keyed.key hl) _⟩
 ·
  have hne : l' ≠ l := fun e2 => e (key_inj hl (e2 ▸ hl'))
  obtain ⟨h1, h2⟩ := h.at_ k l' hl'
  rw [has_put_other hne]
  refine ⟨fun z => ?_, ?_⟩
  ·
   rw [atKey_put_other hne, h1]
   cases lk cmpK keyC k os with
   | some x => rfl
   | none => dsimp only; rw [if_neg (fun e2 => e (key_same e2))]
  ·
   rw [h2]
   cases lk cmpK keyC k os with
   | some x => rfl
   | none => dsimp only; rw [if_neg (fun e2 => e (key_same e2))]
def subF (a b : List Cl) : List Cl := a.filter fun c => match lk cmpK keyC c.f0 b with | none => true | some y => decide (cmpV y.f1 c.f1 < 0)
theorem C_one {w : World} {A : Option Addr} {c : Nat} {l : List Cl} (h : Kd.C k39 w A l.length l) (hc : l.length ≤ c) : Kd.C (Kd.slice 39 k39) (w.alloc (.cells #[.slice A l.length c] 25)) (some ⟨w.heap.size, 0, none⟩) 1 [l] := by
 refine ⟨rfl, by omega, fun _ => ⟨_, rfl, fun j p hj => ?_⟩⟩
 have hj0 : j = 0 := by
  cases j with
  | zero => rfl
  | succ j => simp at hj
 subst hj0
 obtain rfl : l = p := by simpa using hj
 refine ⟨[.slice A l.length c], rfl, ⟨A, c, rfl, hc, Kd.C_alloc h _⟩, fun i u hu => ?_⟩
 cases i with
 | zero =>
  obtain rfl : Value.slice A l.length c = u := by simpa using hu
  simp [Addr.add]
 | succ i => simp at hu
end Go.Proofs.Ytabiekkebdocnaa.Q
namespace Go.Proofs.Ytabiekkebdocnaa.Pl
open Go Go.RowKit Go.Proofs.YtabiekkebdocnaaW.PrintWords Go.Proofs.Ytabiekkebdocnaa.Q Go.Proofs.Ytabiekkebdocnaa.Opn
set_option linter.unusedVariables false
set_option linter.unusedSimpArgs false
theorem lits_key (d : Nat) (k : S33) (h : WK k) : ∃ ls, Try.prog.keyLits (d + 2) 33 [.string k.f0, .string k.f1, .int .i64 k.f2, .string k.f3] = some ls := by
 obtain ⟨h0, h1, h2, h3⟩ := h
 have m : (140737488351232 : Nat) ≤ maxLen := by decide
 have c33 : Try.prog.cellsOf 33 = 4 := by kernel_rfl
 have c9 : Try.prog.cellsOf 9 = 1 := by kernel_rfl
 have c3 : Try.prog.cellsOf 3 = 1 := by kernel_rfl
 have s : ∀ (x : ByteArray), x.size ≤ 140737488351232 → Try.prog.keyLits (d + 1) 9 [.string x] = some [.string x.data.toList] := fun x hx => by
  unfold Program.keyLits
  rw [Try.underlying9]
  dsimp only
  rw [if_pos (Nat.le_trans hx m)]
 have i : Try.prog.keyLits (d + 1) 3 [.int .i64 k.f2] = some [.int .i64 k.f2] := by
  unfold Program.keyLits
  rw [Try.underlying3]
  dsimp only
  rw [if_pos ⟨rfl, h2⟩]
 unfold Program.keyLits
 rw [Try.underlying33]
 dsimp only
 rw [if_pos ⟨c33.symm ▸ rfl, by decide +kernel⟩]
 simp [c9, c3, s _ h0, s _ h1, s _ h3, i]
theorem keyW {k : S33} (h : WK k) : KeyW k := by
 obtain ⟨d, hd⟩ : ∃ d, Try.prog.types.size = d + 1 := Nat.exists_eq_succ_of_ne_zero (by decide +kernel)
 obtain ⟨ls, hls⟩ := lits_key d k h
 refine ⟨.string (keyBytes ls), ?_⟩
 unfold keyOf
 rw [Try.underlying33]
 dsimp only
 have hf : (Try.prog.keyType 33 && (keyV k).formed Try.prog 33) = true := by
  have h1 : Try.prog.keyType 33 = true := by kernel_rfl
  have h2 : (keyV k).formed Try.prog 33 = true := by
   unfold keyV Value.formed
   rw [Try.underlying33]
   dsimp only
   have c33 : Try.prog.cellsOf 33 = 4 := by kernel_rfl
   rw [c33]; rfl
  rw [h1, h2]; rfl
 rw [if_pos hf, hd]
 show Option.map _ (Try.prog.keyLits (d + 2) 33 [.string k.f0, .string k.f1, .int .i64 k.f2, .string k.f3]) = _
 rw [hls]; rfl
theorem WC.fine {c : S39} (h : WC c) : FineC c := ⟨h.1.1, h.1.2.1, h.1.2.2.2, h.2.2.2.2.2.2⟩
theorem WC.key {c : S39} (h : WC c) : KeyW c.f0 := keyW h.1
end Go.Proofs.Ytabiekkebdocnaa.Pl
