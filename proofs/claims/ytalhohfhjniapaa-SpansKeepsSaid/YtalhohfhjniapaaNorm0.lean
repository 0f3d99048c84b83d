/-
  Spans laid over one another: between two neighbouring marks each span covers all or nothing. Plain lists, no program. No condition.
-/
import Derived.Test.YtalhohfhjniapaaLay
import Derived.Test.YtalhohfhjniapaaCmp
namespace Go.Proofs.Ytalhohfhjniapaa.W
open Go Go.Vm Go.Proofs
set_option maxRecDepth 100000
set_option linter.unusedSimpArgs false
def markS (s : Sp) : List Int := if s.f < s.t then [s.f, s.t] else []
/-- the marks of the first k spans -/
def marksK (l : List Sp) (n : Int) (k : Nat) : List Int := [0, n] ++ (l.take k).flatMap markS
theorem marksK_zero {l : List Sp} {n : Int} : marksK l n 0 = [0, n] := by simp [marksK]
theorem marksK_succ {l : List Sp} {n : Int} {k : Nat} (h : k < l.length) : marksK l n (k + 1) = marksK l n k ++ markS l[k] := by
 rw [marksK, marksK, List.take_succ_eq_append_getElem h, List.flatMap_append]
 simp
theorem marksK_len {l : List Sp} {n : Int} : ∀ k : Nat, k ≤ l.length → (marksK l n k).length ≤ 2 + 2 * k
 | 0, _ => by simp [marksK]
 | k + 1, h => by
  have := marksK_len (l := l) (n := n) k (by omega)
  rw [marksK_succ (by omega), List.length_append, markS]
  split <;> simp <;> omega
theorem marks_mem {l : List Sp} {n v : Int} : v ∈ marksK l n l.length ↔ v = 0 ∨ v = n ∨ ∃ s, s ∈ l ∧ s.f < s.t ∧ (v = s.f ∨ v = s.t) := by
 simp only [marksK, List.take_length, List.cons_append, List.nil_append, List.mem_cons, List.mem_flatMap, markS]
 constructor
 ·rintro (h | h | ⟨s, hs, hv⟩)
  ·exact .inl h
  ·exact .inr (.inl h)
  ·split at hv
   ·rename_i hlt
    exact .inr (.inr ⟨s, hs, hlt, by simpa using hv⟩)
   ·cases hv
 ·rintro (h | h | ⟨s, hs, hlt, hv⟩)
  ·exact .inl h
  ·exact .inr (.inl h)
  ·exact .inr (.inr ⟨s, hs, by rw [if_pos hlt]; simpa using hv⟩)
theorem valAt_same {l : List Sp} {p q : Int} (h : ∀ s, s ∈ l → ((s.f ≤ p ∧ p < s.t) ↔ (s.f ≤ q ∧ q < s.t))) : valAt l p = valAt l q := by
 induction l using snoc_ind with
 | h0 => rfl
 | h1 l s ih =>
  have h1 := h s (by simp)
  have h2 := ih fun s hs => h s (by simp [hs])
  rw [valAt_snoc, valAt_snoc, h2]
  by_cases hc : s.f ≤ p ∧ p < s.t
  ·rw [if_pos hc, if_pos (h1.1 hc)]
  ·rw [if_neg hc, if_neg (fun h => hc (h1.2 h))]
theorem vals_ext {l : List Sp} {a b x : Int} (h0 : 0 ≤ a) (hab : a ≤ b) (h : ∀ q, a ≤ q → q < b → valAt l q = x) : valsF l b = valsF l a ++ List.replicate (b - a).toNat x := by
 obtain ⟨k, hk⟩ : ∃ k : Nat, b.toNat = a.toNat + k ∧ (b - a).toNat = k := ⟨b.toNat - a.toNat, by omega, by omega⟩
 rw [valsF, valsF, hk.1, hk.2, List.range_add, List.map_append]
 congr 1
 rw [List.map_map]
 apply List.ext_getElem (by simp)
 intro j hj hj'
 simp only [List.length_map, List.length_range] at hj
 simp only [List.getElem_map, List.getElem_range, Function.comp_apply, List.getElem_replicate]
 exact h _ (by omega) (by omega)
theorem vals_none {l : List Sp} {a : Int} (h : a ≤ 0) : valsF l a = [] := by
 rw [valsF, show a.toNat = 0 by omega]
 rfl
theorem vals_len {l : List Sp} {a : Int} : (valsF l a).length = a.toNat := by simp [valsF]
/-- a place, brought to 0 and n -/
def clp (n p : Int) : Int := min (max p 0) n
section
variable {l : List Sp} {n : Int} {Z : List Int} (hm : ∀ v, v ∈ Z ↔ v ∈ marksK l n l.length) (hu : Up1 Z.length Z)
include hm in
theorem nrm_pos : 0 < Z.length := by
 refine List.length_pos_iff.2 fun e => ?_
 have := (hm 0).2 (marks_mem.2 (.inl rfl))
 rw [e] at this
 cases this
include hm hu
theorem nrm_init : valsF l (clp n (gA Z 0)) = [] := by
 refine vals_none ?_
 obtain ⟨k, k0, k1, e⟩ := gA_mem.1 ((hm 0).2 (marks_mem.2 (.inl rfl)))
 have : gA Z 0 ≤ 0 := by
  by_cases e0 : k = 0
  ·subst e0; omega
  ·have := hu 0 k (by omega) (by omega) k1
   omega
 simp only [clp]
 omega
theorem nrm_end : valsF l (clp n (gA Z ((Z.length : Int) - 1))) = valsF l n := by
 obtain ⟨k, k0, k1, e⟩ := gA_mem.1 ((hm n).2 (marks_mem.2 (.inr (.inl rfl))))
 have : n ≤ gA Z ((Z.length : Int) - 1) := by
  by_cases e0 : k = (Z.length : Int) - 1
  ·rw [← e, e0]; exact Int.le_refl _
  ·have := hu k ((Z.length : Int) - 1) k0 (by omega) (by omega)
   omega
 rw [show clp n (gA Z ((Z.length : Int) - 1)) = n by simp only [clp]; omega]
/-- no mark stands between two neighbours -/
theorem nrm_gap {i : Nat} (h1 : 1 ≤ i) (h2 : i < Z.length) {v : Int} (hv : v ∈ marksK l n l.length) : v ≤ gA Z ((i : Int) - 1) ∨ gA Z i ≤ v := by
 obtain ⟨k, k0, k1, e⟩ := gA_mem.1 ((hm v).2 hv)
 by_cases hk : k < i
 ·left
  by_cases e0 : k = (i : Int) - 1
  ·rw [← e, e0]; exact Int.le_refl _
  ·have := hu k ((i : Int) - 1) k0 (by omega) (by omega)
   omega
 ·right
  by_cases e0 : k = i
  ·rw [← e, e0]; exact Int.le_refl _
  ·have := hu i k (by omega) (by omega) k1
   omega
omit hm in
theorem nrm_skip {i : Nat} (h1 : 1 ≤ i) (h2 : i < Z.length) (hc : min (gA Z i) n ≤ max (gA Z ((i : Int) - 1)) 0) : clp n (gA Z i) = clp n (gA Z ((i : Int) - 1)) := by
 have := hu ((i : Int) - 1) i (by omega) (by omega) (by omega)
 simp only [clp]
 omega
theorem nrm_step {i : Nat} (h1 : 1 ≤ i) (h2 : i < Z.length) (hc : max (gA Z ((i : Int) - 1)) 0 < min (gA Z i) n) :
  clp n (gA Z ((i : Int) - 1)) = max (gA Z ((i : Int) - 1)) 0 ∧ valsF l (clp n (gA Z i)) = valsF l (clp n (gA Z ((i : Int) - 1))) ++ List.replicate (min (gA Z i) n - max (gA Z ((i : Int) - 1)) 0).toNat (valAt l (max (gA Z ((i : Int) - 1)) 0)) := by
 have e1 : clp n (gA Z ((i : Int) - 1)) = max (gA Z ((i : Int) - 1)) 0 := by simp only [clp]; omega
 have e2 : clp n (gA Z i) = min (gA Z i) n := by simp only [clp]; omega
 refine ⟨e1, ?_⟩
 rw [e1, e2]
 refine vals_ext (by omega) (by omega) fun q q1 q2 => valAt_same fun s hs => ?_
 by_cases hlt : s.f < s.t
 ·have g1 := nrm_gap hm hu h1 h2 (marks_mem.2 (.inr (.inr ⟨s, hs, hlt, .inl rfl⟩)))
  have g2 := nrm_gap hm hu h1 h2 (marks_mem.2 (.inr (.inr ⟨s, hs, hlt, .inr rfl⟩)))
  omega
 ·omega
end
end Go.Proofs.Ytalhohfhjniapaa.W
