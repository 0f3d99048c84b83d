/-
  Rows of numbers, and what swaps make of them. No program in sight.
-/
import Derived.Test.YtalhohfhjniapaaBase
namespace Go.Proofs.Ytalhohfhjniapaa.W
open Go Go.Vm Go.Proofs
set_option maxRecDepth 100000
set_option linter.unusedSimpArgs false
def gA (X : List Int) (i : Int) : Int := (X[i.toNat]?).getD 0
def swp (X : List Int) (i j : Int) : List Int := (X.set i.toNat (gA X j)).set j.toNat (gA X i)
theorem swp_len {X : List Int} {i j : Int} : (swp X i j).length = X.length := by simp [swp]
theorem gA_swp {X : List Int} {i j k : Int} (hi : 0 ≤ i) (hi' : i < X.length) (hj : 0 ≤ j) (hj' : j < X.length) (hk : 0 ≤ k) : gA (swp X i j) k = if k = j then gA X i else if k = i then gA X j else gA X k := by
 simp only [swp, gA]
 by_cases e1 : k = j
 ·subst e1
  rw [if_pos rfl, List.getElem?_set_self (by simp; omega)]
  rfl
 ·rw [if_neg e1, List.getElem?_set_ne (by omega)]
  by_cases e2 : k = i
  ·subst e2
   rw [if_pos rfl, List.getElem?_set_self (by omega)]
   rfl
  ·rw [if_neg e2, List.getElem?_set_ne (by omega)]
/-- what swaps between a and b make of a row -/
inductive Pm (a b : Int) (X : List Int) : List Int → Prop where
 | refl : Pm a b X X
 | swap {Y : List Int} {i j : Int} (h : Pm a b X Y) (hi : a ≤ i) (hi' : i < b) (hj : a ≤ j) (hj' : j < b) : Pm a b X (swp Y i j)
theorem Pm.len {a b : Int} {X Y : List Int} (h : Pm a b X Y) : Y.length = X.length := by
 induction h with
 | refl => rfl
 | swap _ _ _ _ _ ih => rw [swp_len, ih]
theorem Pm.trans {a b : Int} {X Y Z : List Int} (h : Pm a b X Y) (k : Pm a b Y Z) : Pm a b X Z := by
 induction k with
 | refl => exact h
 | swap _ h1 h2 h3 h4 ih => exact .swap ih h1 h2 h3 h4
theorem Pm.mono {a b a' b' : Int} {X Y : List Int} (h : Pm a' b' X Y) (h1 : a ≤ a') (h2 : b' ≤ b) : Pm a b X Y := by
 induction h with
 | refl => exact .refl
 | swap _ i1 i2 i3 i4 ih => exact .swap ih (by omega) (by omega) (by omega) (by omega)
theorem Pm.out {a b : Int} {X Y : List Int} (h : Pm a b X Y) (ha : 0 ≤ a) (hb : b ≤ X.length) {k : Int} (hk : 0 ≤ k) (ho : k < a ∨ b ≤ k) : gA Y k = gA X k := by
 induction h with
 | refl => rfl
 | swap h i1 i2 i3 i4 ih =>
  have := h.len
  rw [gA_swp (by omega) (by omega) (by omega) (by omega) hk, if_neg (by omega), if_neg (by omega), ih]
theorem Pm.iff {a b : Int} {X Y : List Int} (h : Pm a b X Y) (ha : 0 ≤ a) (hb : b ≤ X.length) (p : Int → Prop) : (∀ k, a ≤ k → k < b → p (gA X k)) ↔ (∀ k, a ≤ k → k < b → p (gA Y k)) := by
 induction h with
 | refl => exact Iff.rfl
 | @swap Y i j h i1 i2 i3 i4 ih =>
  have hl := h.len
  rw [ih]
  have e := fun k (hk : a ≤ k) => gA_swp (X := Y) (i := i) (j := j) (k := k) (by omega) (by omega) (by omega) (by omega) (by omega)
  constructor
  ·intro H k h1 h2
   rw [e k h1]
   split
   ·exact H i i1 i2
   ·split
    ·exact H j i3 i4
    ·exact H k h1 h2
  ·intro H k h1 h2
   by_cases e1 : k = i
   ·have := H j i3 i4
    rw [e j i3, if_pos rfl] at this
    rw [e1]; exact this
   ·by_cases e2 : k = j
    ·have := H i i1 i2
     rw [e i i1] at this
     split at this
     ·rename_i e3
      rw [e2, ← e3]; exact this
     ·rw [if_pos rfl] at this
      rw [e2]; exact this
    ·have := H k h1 h2
     rw [e k h1, if_neg e2, if_neg e1] at this
     exact this
theorem Pm.all {a b : Int} {X Y : List Int} (h : Pm a b X Y) (ha : 0 ≤ a) (hb : b ≤ X.length) {p : Int → Prop} (H : ∀ k, a ≤ k → k < b → p (gA X k)) : ∀ k, a ≤ k → k < b → p (gA Y k) := (h.iff ha hb p).1 H
/-- sorted from a to b -/
def Sd (a b : Int) (X : List Int) : Prop := ∀ i j, a ≤ i → i < j → j < b → gA X i ≤ gA X j
theorem gA_mem {X : List Int} {v : Int} : v ∈ X ↔ ∃ k : Int, 0 ≤ k ∧ k < X.length ∧ gA X k = v := by
 constructor
 ·intro h
  obtain ⟨n, hn, e⟩ := List.mem_iff_getElem.1 h
  exact ⟨n, by omega, by omega, by simp [gA, List.getElem?_eq_getElem hn, e]⟩
 ·rintro ⟨k, h0, h1, rfl⟩
  rw [gA, List.getElem?_eq_getElem (by omega)]
  exact List.getElem_mem _
theorem Pm.mem {X Y : List Int} (h : Pm 0 X.length X Y) {v : Int} : v ∈ Y ↔ v ∈ X := by
 have := (h.iff (Int.le_refl _) (Int.le_refl _) (· ≠ v))
 rw [gA_mem, gA_mem, h.len]
 constructor
 ·rintro ⟨k, h0, h1, e⟩
  refine Classical.byContradiction fun hn => (this.1 fun k h0 h1 e => hn ⟨k, h0, h1, e⟩) k h0 h1 e
 ·rintro ⟨k, h0, h1, e⟩
  refine Classical.byContradiction fun hn => (this.2 fun k h0 h1 e => hn ⟨k, h0, h1, e⟩) k h0 h1 e
end Go.Proofs.Ytalhohfhjniapaa.W
