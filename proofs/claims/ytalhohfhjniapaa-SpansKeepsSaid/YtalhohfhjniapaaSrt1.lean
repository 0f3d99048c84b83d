/-
  What the steps of a sort bring about. No program in sight.
-/
import Derived.Test.YtalhohfhjniapaaSrt0
namespace Go.Proofs.Ytalhohfhjniapaa.W
open Go Go.Vm Go.Proofs
set_option maxRecDepth 100000
set_option linter.unusedSimpArgs false
/-! a new one among sorted ones -/
def Ins (a i j : Int) (Y : List Int) : Prop := (∀ p q, a ≤ p → p < q → q ≤ i → p ≠ j → q ≠ j → gA Y p ≤ gA Y q) ∧ (∀ q, j < q → q ≤ i → gA Y j ≤ gA Y q)
theorem ins_init {a i : Int} {Y : List Int} (h : Sd a i Y) : Ins a i i Y :=
 ⟨fun p q h1 h2 h3 _ h5 => h p q h1 h2 (by omega), fun q h1 h2 => by omega⟩
theorem ins_step {a i j : Int} {Y : List Int} (h : Ins a i j Y) (ha : 0 ≤ a) (hj : a < j) (hi : j ≤ i) (hn : i < Y.length) (hlt : gA Y j < gA Y (j - 1)) : Ins a i (j - 1) (swp Y j (j - 1)) := by
 have e := fun k (hk : 0 ≤ k) => gA_swp (X := Y) (i := j) (j := j - 1) (k := k) (by omega) (by omega) (by omega) (by omega) hk
 constructor
 ·intro p q h1 h2 h3 h4 h5
  rw [e p (by omega), e q (by omega), if_neg h4, if_neg h5]
  by_cases e1 : p = j
  ·rw [if_pos e1, if_neg (by omega)]
   exact h.1 (j - 1) q (by omega) (by omega) h3 (by omega) (by omega)
  ·rw [if_neg e1]
   by_cases e2 : q = j
   ·rw [if_pos e2]
    exact h.1 p (j - 1) h1 (by omega) (by omega) e1 (by omega)
   ·rw [if_neg e2]
    exact h.1 p q h1 h2 h3 e1 e2
 ·intro q h1 h2
  rw [e (j - 1) (by omega), e q (by omega), if_pos rfl, if_neg (by omega)]
  by_cases e1 : q = j
  ·rw [if_pos e1]; omega
  ·rw [if_neg e1]
   exact h.2 q (by omega) h2
theorem ins_end {a i j : Int} {Y : List Int} (h : Ins a i j Y) (hend : j ≤ a ∨ gA Y (j - 1) ≤ gA Y j) : Sd a (i + 1) Y := by
 intro p q h1 h2 h3
 by_cases e1 : p = j
 ·rw [e1]
  exact h.2 q (by omega) (by omega)
 ·by_cases e2 : q = j
  ·subst e2
   rcases hend with hend | hend
   ·omega
   ·by_cases e3 : p = q - 1
    ·rw [e3]; exact hend
    ·exact Int.le_trans (h.1 p (q - 1) h1 (by omega) (by omega) e1 (by omega)) hend
  ·exact h.1 p q h1 h2 (by omega) e1 e2
/-! heaps -/
def Hp (f lo hi : Int) (Y : List Int) : Prop := ∀ p c, lo ≤ p → (c = 2 * p + 1 ∨ c = 2 * p + 2) → c < hi → gA Y (f + c) ≤ gA Y (f + p)
def Hr (f lo hi r : Int) (Y : List Int) : Prop := (∀ p c, lo ≤ p → p ≠ r → (c = 2 * p + 1 ∨ c = 2 * p + 2) → c < hi → gA Y (f + c) ≤ gA Y (f + p)) ∧
 (∀ p c, lo ≤ p → (r = 2 * p + 1 ∨ r = 2 * p + 2) → (c = 2 * r + 1 ∨ c = 2 * r + 2) → c < hi → gA Y (f + c) ≤ gA Y (f + p))
theorem hr_init {f lo hi : Int} {Y : List Int} (h : Hp f (lo + 1) hi Y) (h0 : 0 ≤ lo) : Hr f lo hi lo Y :=
 ⟨fun p c h1 h2 h3 h4 => h p c (by omega) h3 h4, fun p c h1 h2 => by omega⟩
theorem hr_step {f lo hi r c : Int} {Y : List Int} (h : Hr f lo hi r Y) (hf : 0 ≤ f) (h0 : 0 ≤ lo) (hr : lo ≤ r) (hc : c = 2 * r + 1 ∨ c = 2 * r + 2) (hh : c < hi) (hn : f + hi ≤ Y.length)
  (hmax : ∀ d, (d = 2 * r + 1 ∨ d = 2 * r + 2) → d < hi → gA Y (f + d) ≤ gA Y (f + c)) (hlt : gA Y (f + r) < gA Y (f + c)) : Hr f lo hi c (swp Y (f + r) (f + c)) := by
 have e := fun k (hk : 0 ≤ k) => gA_swp (X := Y) (i := f + r) (j := f + c) (k := f + k) (by omega) (by omega) (by omega) (by omega) (by omega)
 constructor
 ·intro p d h1 h2 h3 h4
  rw [e p (by omega), e d (by omega), if_neg (show ¬ f + p = f + c by omega)]
  by_cases e1 : p = r
  ·subst e1
   rw [if_pos rfl]
   by_cases e2 : d = c
   ·rw [if_pos (by omega)]; omega
   ·rw [if_neg (by omega), if_neg (by omega)]
    exact hmax d h3 h4
  ·rw [if_neg (show ¬ f + p = f + r by omega), if_neg (show ¬ f + d = f + c by omega)]
   by_cases e2 : d = r
   ·subst e2
    rw [if_pos rfl]
    exact h.2 p c h1 h3 hc hh
   ·rw [if_neg (by omega)]
    exact h.1 p d h1 e1 h3 h4
 ·intro p d h1 h2 h3 h4
  obtain rfl : p = r := by omega
  rw [e p (by omega), e d (by omega), if_neg (by omega), if_neg (by omega), if_neg (by omega), if_pos rfl]
  exact h.1 c d (by omega) (by omega) h3 h4
theorem hr_end {f lo hi r : Int} {Y : List Int} (h : Hr f lo hi r Y) (hmax : ∀ d, (d = 2 * r + 1 ∨ d = 2 * r + 2) → d < hi → gA Y (f + d) ≤ gA Y (f + r)) : Hp f lo hi Y := by
 intro p c h1 h2 h3
 by_cases e : p = r
 ·subst e
  exact hmax c h2 h3
 ·exact h.1 p c h1 e h2 h3
theorem hp_root {f hi : Int} {Y : List Int} (h : Hp f 0 hi Y) : ∀ (n : Nat) (p : Int), 0 ≤ p → p < hi → p ≤ n → gA Y (f + p) ≤ gA Y f
 | 0, p, h0, _, hn => by
  obtain rfl : p = 0 := by omega
  simp
 | n + 1, p, h0, h1, hn => by
  by_cases e : p = 0
  ·subst e; simp
  ·have h2 := h ((p - 1) / 2) p (by omega) (by omega) h1
   exact Int.le_trans h2 (hp_root h n ((p - 1) / 2) (by omega) (by omega) (by omega))
/-- the largest ones stand behind -/
def Po (f i hi : Int) (Y : List Int) : Prop := Hp f 0 (i + 1) Y ∧ Sd (f + i + 1) (f + hi) Y ∧ ∀ p q, 0 ≤ p → p ≤ i → i < q → q < hi → gA Y (f + p) ≤ gA Y (f + q)
theorem po_swap {f i hi : Int} {Y : List Int} (h : Po f i hi Y) (hf : 0 ≤ f) (hi0 : 0 ≤ i) (hi1 : i < hi) (hn : f + hi ≤ Y.length) : Hp f 1 i (swp Y f (f + i)) ∧ Sd (f + i) (f + hi) (swp Y f (f + i)) ∧ ∀ p q, 0 ≤ p → p < i → i ≤ q → q < hi → gA (swp Y f (f + i)) (f + p) ≤ gA (swp Y f (f + i)) (f + q) := by
 have e := fun k (hk : 0 ≤ k) => gA_swp (X := Y) (i := f) (j := f + i) (k := f + k) (by omega) (by omega) (by omega) (by omega) (by omega)
 have e' := fun k (hk : 0 ≤ k) => gA_swp (X := Y) (i := f) (j := f + i) (k := k) (by omega) (by omega) (by omega) (by omega) hk
 have top := fun p h0 h1 => hp_root h.1 p.toNat p h0 h1 (by omega)
 refine ⟨fun p c h1 h2 h3 => ?_, fun p q h1 h2 h3 => ?_, fun p q h1 h2 h3 h4 => ?_⟩
 ·rw [e p (by omega), e c (by omega), if_neg (by omega), if_neg (by omega), if_neg (by omega), if_neg (by omega)]
  exact h.1 p c (by omega) h2 (by omega)
 ·rw [e' p (by omega), e' q (by omega), if_neg (show ¬ q = f + i by omega), if_neg (show ¬ q = f by omega)]
  by_cases e1 : p = f + i
  ·rw [if_pos e1]
   have := h.2.2 0 (q - f) (by omega) (by omega) (by omega) (by omega)
   simpa [show f + (q - f) = q by omega] using this
  ·rw [if_neg e1, if_neg (by omega)]
   exact h.2.1 p q (by omega) h2 h3
 ·rw [e p h1, e q (by omega), if_neg (show ¬ f + p = f + i by omega)]
  have hp : (if f + p = f then gA Y (f + i) else gA Y (f + p)) ≤ gA Y f := by
   split
   ·exact top i hi0 (by omega)
   ·exact top p h1 (by omega)
  by_cases e1 : q = i
  ·rw [if_pos (show f + q = f + i by omega)]; exact hp
  ·rw [if_neg (show ¬ f + q = f + i by omega), if_neg (show ¬ f + q = f by omega)]
   have := h.2.2 0 q (by omega) (by omega) (by omega) h4
   exact Int.le_trans hp (by simpa using this)
theorem po_next {f i hi : Int} {Y Z : List Int} (h1 : Sd (f + i) (f + hi) Y) (h2 : ∀ p q, 0 ≤ p → p < i → i ≤ q → q < hi → gA Y (f + p) ≤ gA Y (f + q)) (hf : 0 ≤ f) (hi0 : 0 ≤ i) (hi1 : i < hi) (hn : f + hi ≤ Y.length) (hp : Pm f (f + i) Y Z) (hh : Hp f 0 i Z) : Po f (i - 1) hi Z := by
 have o := fun k (hk : f + i ≤ k) => hp.out hf (by omega) (k := k) (by omega) (.inr hk)
 refine ⟨by rw [show i - 1 + 1 = i by omega]; exact hh, fun p q k1 k2 k3 => ?_, fun p q k1 k2 k3 k4 => ?_⟩
 ·rw [o p (by omega), o q (by omega)]
  exact h1 p q (by omega) k2 k3
 ·rw [o (f + q) (by omega)]
  refine hp.all hf (by omega) (p := fun v => v ≤ gA Y (f + q)) (fun k m1 m2 => ?_) (f + p) (by omega) (by omega)
  have := h2 (k - f) q (by omega) (by omega) (by omega) k4
  simpa [show f + (k - f) = k by omega] using this
theorem po_end {f hi : Int} {Y : List Int} (h : Po f (-1) hi Y) : Sd f (f + hi) Y := by
 have := h.2.1
 simpa [show f + -1 + 1 = f by omega] using this
theorem po_init {f hi : Int} {Y : List Int} (h : Hp f 0 hi Y) : Po f (hi - 1) hi Y :=
 ⟨by rw [show hi - 1 + 1 = hi by omega]; exact h, fun p q h1 h2 h3 => by omega, fun p q h1 h2 h3 h4 => by omega⟩
/-! parts -/
/-- what stands between i and j is still to be parted by what stands at a -/
def Pt (a b i j : Int) (Y : List Int) : Prop := (∀ p, a < p → p < i → gA Y p ≤ gA Y a) ∧ ∀ p, j < p → p < b → gA Y a ≤ gA Y p
theorem pt_swap {a b i j : Int} {Y : List Int} (h : Pt a b i j Y) (ha : 0 ≤ a) (hi : a < i) (hij : i ≤ j) (hj : j < b) (hb : b ≤ Y.length) (h1 : gA Y a ≤ gA Y i) (h2 : gA Y j ≤ gA Y a) : Pt a b (i + 1) (j - 1) (swp Y i j) := by
 have e := fun k (hk : 0 ≤ k) => gA_swp (X := Y) (i := i) (j := j) (k := k) (by omega) (by omega) (by omega) (by omega) hk
 constructor
 ·intro p k1 k2
  rw [e p (by omega), e a ha, if_neg (show ¬ a = j by omega), if_neg (show ¬ a = i by omega)]
  by_cases e1 : p = i
  ·subst e1
   by_cases e2 : p = j
   ·subst e2
    rw [if_pos rfl]; exact h2
   ·rw [if_neg e2, if_pos rfl]; exact h2
  ·rw [if_neg (show ¬ p = j by omega), if_neg e1]
   exact h.1 p k1 (by omega)
 ·intro p k1 k2
  rw [e p (by omega), e a ha, if_neg (show ¬ a = j by omega), if_neg (show ¬ a = i by omega)]
  by_cases e1 : p = j
  ·rw [if_pos e1]; exact h1
  ·rw [if_neg e1]
   by_cases e2 : p = i
   ·omega
   ·rw [if_neg e2]
    exact h.2 p (by omega) k2
/-- parted at m -/
def Md (a b m : Int) (Y : List Int) : Prop := (∀ p, a ≤ p → p < m → gA Y p ≤ gA Y m) ∧ ∀ p, m < p → p < b → gA Y m ≤ gA Y p
theorem pt_end {a b i j : Int} {Y : List Int} (h : Pt a b i j Y) (ha : 0 ≤ a) (hi : a < i) (hij : i = j + 1) (hj : j < b) (hb : b ≤ Y.length) : Md a b j (swp Y j a) := by
 have e := fun k (hk : 0 ≤ k) => gA_swp (X := Y) (i := j) (j := a) (k := k) (by omega) (by omega) (by omega) (by omega) hk
 have ej : gA (swp Y j a) j = gA Y a := by
  rw [e j (by omega)]
  by_cases e1 : j = a
  ·rw [if_pos e1, e1]
  ·rw [if_neg e1, if_pos rfl]
 constructor
 ·intro p k1 k2
  rw [ej, e p (by omega)]
  by_cases e1 : p = a
  ·rw [if_pos e1]
   exact h.1 j (by omega) (by omega)
  ·rw [if_neg e1, if_neg (by omega)]
   exact h.1 p (by omega) (by omega)
 ·intro p k1 k2
  rw [ej, e p (by omega), if_neg (by omega), if_neg (by omega)]
  exact h.2 p (by omega) k2
/-- what is left to be sorted stands between a and b -/
structure Lft (a0 b0 a b : Int) (Y : List Int) : Prop where
 l : Sd a0 a Y
 r : Sd b b0 Y
 lm : ∀ p q, a0 ≤ p → p < a → a ≤ q → q < b0 → gA Y p ≤ gA Y q
 mr : ∀ p q, a0 ≤ p → p < b → b ≤ q → q < b0 → gA Y p ≤ gA Y q
theorem lft_init {a b : Int} {Y : List Int} : Lft a b a b Y := ⟨fun _ _ _ _ _ => by omega, fun _ _ _ _ _ => by omega, fun _ _ _ _ _ _ => by omega, fun _ _ _ _ _ _ => by omega⟩
/-- sorting part of what is left -/
theorem lft_perm {a0 b0 a b : Int} {Y Z : List Int} (h : Lft a0 b0 a b Y) (hp : Pm a b Y Z) (h0 : 0 ≤ a0) (ha : a0 ≤ a) (hab : a ≤ b) (hb : b ≤ b0) (hn : b0 ≤ Y.length) : Lft a0 b0 a b Z := by
 have o := fun k (hk : 0 ≤ k) ho => hp.out (by omega) (by omega) (k := k) hk ho
 refine ⟨fun p q h1 h2 h3 => ?_, fun p q h1 h2 h3 => ?_, fun p q h1 h2 h3 h4 => ?_, fun p q h1 h2 h3 h4 => ?_⟩
 ·rw [o p (by omega) (.inl (by omega)), o q (by omega) (.inl (by omega))]
  exact h.l p q h1 h2 h3
 ·rw [o p (by omega) (.inr (by omega)), o q (by omega) (.inr (by omega))]
  exact h.r p q h1 h2 h3
 ·rw [o p (by omega) (.inl (by omega))]
  by_cases e : q < b
  ·exact hp.all (by omega) (by omega) (p := fun v => gA Y p ≤ v) (fun k k1 k2 => h.lm p k h1 h2 k1 (by omega)) q h3 e
  ·rw [o q (by omega) (.inr (by omega))]
   exact h.lm p q h1 h2 h3 h4
 ·rw [o q (by omega) (.inr (by omega))]
  by_cases e : a ≤ p
  ·exact hp.all (by omega) (by omega) (p := fun v => v ≤ gA Y q) (fun k k1 k2 => h.mr k q (by omega) k2 h3 h4) p e h2
  ·rw [o p (by omega) (.inl (by omega))]
   exact h.mr p q h1 h2 h3 h4
theorem lft_end {a0 b0 a b : Int} {Y : List Int} (h : Lft a0 b0 a b Y) (hs : Sd a b Y) (hab : a ≤ b) (ha : a0 ≤ a) (hb : b ≤ b0) : Sd a0 b0 Y := by
 intro p q h1 h2 h3
 by_cases e1 : q < a
 ·exact h.l p q h1 h2 e1
 ·by_cases e2 : p < a
  ·exact h.lm p q h1 e2 (by omega) h3
  ·by_cases e3 : b ≤ p
   ·exact h.r p q e3 h2 h3
   ·by_cases e4 : q < b
    ·exact hs p q (by omega) h2 e4
    ·exact h.mr p q h1 (by omega) (by omega) h3
/-- the left part is sorted -/
theorem lft_left {a0 b0 a b m : Int} {Y : List Int} (h : Lft a0 b0 a b Y) (hm : Md a b m Y) (hs : Sd a m Y) (h0 : a0 ≤ a) (h1 : a ≤ m) (h2 : m < b) (h3 : b ≤ b0) : Lft a0 b0 (m + 1) b Y := by
 refine ⟨fun p q k1 k2 k3 => ?_, h.r, fun p q k1 k2 k3 k4 => ?_, h.mr⟩
 ·by_cases e1 : p < a
  ·by_cases e2 : q < a
   ·exact h.l p q k1 k2 e2
   ·exact h.lm p q k1 e1 (by omega) (by omega)
  ·by_cases e2 : q = m
   ·rw [e2]; exact hm.1 p (by omega) (by omega)
   ·exact hs p q (by omega) k2 (by omega)
 ·by_cases e1 : p < a
  ·exact h.lm p q k1 e1 (by omega) k4
  ·by_cases e2 : q < b
   ·have g2 := hm.2 q (by omega) e2
    by_cases e3 : p = m
    ·rw [e3]; exact g2
    ·exact Int.le_trans (hm.1 p (by omega) (by omega)) g2
   ·exact h.mr p q k1 (by omega) (by omega) k4
theorem lft_right {a0 b0 a b m : Int} {Y : List Int} (h : Lft a0 b0 a b Y) (hm : Md a b m Y) (hs : Sd (m + 1) b Y) (h0 : a0 ≤ a) (h1 : a ≤ m) (h2 : m < b) (h3 : b ≤ b0) : Lft a0 b0 a m Y := by
 refine ⟨h.l, fun p q k1 k2 k3 => ?_, h.lm, fun p q k1 k2 k3 k4 => ?_⟩
 ·by_cases e1 : b ≤ q
  ·by_cases e2 : b ≤ p
   ·exact h.r p q e2 k2 k3
   ·exact h.mr p q (by omega) (by omega) e1 k3
  ·by_cases e2 : p = m
   ·rw [e2]; exact hm.2 q (by omega) (by omega)
   ·exact hs p q (by omega) k2 (by omega)
 ·by_cases e1 : b ≤ q
  ·exact h.mr p q k1 (by omega) e1 k4
  ·by_cases e3 : p < a
   ·exact h.lm p q k1 e3 (by omega) k4
   ·have g1 := hm.1 p (by omega) (by omega)
    by_cases e2 : q = m
    ·rw [e2]; exact g1
    ·exact Int.le_trans g1 (hm.2 q (by omega) (by omega))
/-- what stands from a to m is all the same, and least -/
theorem lft_same {a0 b0 a b m : Int} {Y : List Int} {v : Int} (h : Lft a0 b0 a b Y) (hl : ∀ p, a ≤ p → p < m → gA Y p = v) (hr : ∀ p, m ≤ p → p < b → v ≤ gA Y p) (h0 : a0 ≤ a) (h1 : a ≤ m) (h2 : m ≤ b) (h3 : b ≤ b0) : Lft a0 b0 m b Y := by
 refine ⟨fun p q k1 k2 k3 => ?_, h.r, fun p q k1 k2 k3 k4 => ?_, h.mr⟩
 ·by_cases e1 : q < a
  ·exact h.l p q k1 k2 e1
  ·by_cases e2 : p < a
   ·exact h.lm p q k1 e2 (by omega) (by omega)
   ·rw [hl p (by omega) (by omega), hl q (by omega) k3]
    omega
 ·by_cases e1 : p < a
  ·exact h.lm p q k1 e1 (by omega) k4
  ·by_cases e2 : q < b
   ·rw [hl p (by omega) k2]
    exact hr q k3 e2
   ·exact h.mr p q k1 (by omega) (by omega) k4
end Go.Proofs.Ytalhohfhjniapaa.W
