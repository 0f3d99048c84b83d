/-
  Spans of values: they are whole, the first that has a place has its value, a stretch set twice. Plain lists, no program. No condition.
-/
import Derived.Test.YtalhohfhjniapaaSets
import Derived.Test.YtalhohfhjniapaaEdits
import Derived.Test.YtalhohfhjniapaaWhole
namespace Go.Proofs.Ytalhohfhjniapaa.W
open Go Go.Vm Go.Proofs
set_option maxRecDepth 100000
set_option linter.unusedSimpArgs false
theorem goW_snoc {s : Sp} : ∀ {L : List Sp} {a : Int} {p : Option Int}, goW (L ++ [s]) a p = (goW L a p).bind fun b => if s.f ≠ b ∨ s.t ≤ b ∨ (if L = [] then p else L.getLast?.map (·.v)) = some s.v then none else some s.t
 | [], a, p => by simp [goW]
 | q :: r, a, p => by
  rw [List.cons_append, goW, goW]
  split
  ·rfl
  ·rw [goW_snoc]
   congr 1
   funext b
   cases r with
   | nil => simp
   | cons q2 r2 => simp
theorem goW_of (v : List Int) : goW (ofF v) 0 none = some (v.length : Int) := by
 induction v using snoc_ind with
 | h0 => rfl
 | h1 v x ih =>
  rw [ofF_snoc]
  rcases snoc_cases (ofF v) with e | ⟨L, s, e⟩
  ·rw [e] at ih ⊢
   simp only [goW, Option.some.injEq] at ih
   rw [layF_nil]
   have hn : v.length = 0 := by omega
   simp [goW, hn]
  ·rw [e] at ih ⊢
   rw [goW_snoc] at ih
   cases hb : goW L 0 none with
   | none => rw [hb] at ih; simp at ih
   | some b =>
    rw [hb] at ih
    simp only [Option.bind_some] at ih
    by_cases hc : s.f ≠ b ∨ s.t ≤ b ∨ (if L = [] then none else L.getLast?.map (·.v)) = some s.v
    ·rw [if_pos hc] at ih
     cases ih
    ·rw [if_neg hc] at ih
     simp only [Option.some.injEq] at ih
     rw [layF_snoc]
     by_cases hx : s.v = x
     ·rw [if_pos hx, goW_snoc, hb]
      simp only [Option.bind_some]
      rw [if_neg (by intro h; apply hc; rcases h with h | h | h; exact .inl h; omega; exact .inr (.inr h))]
      simp
      omega
     ·have hne : (L ++ [s] = []) = False := by simp
      rw [if_neg hx, goW_snoc, goW_snoc, hb]
      simp only [Option.bind_some]
      rw [if_neg hc]
      simp only [Option.bind_some, hne, if_false, List.getLast?_append, List.getLast?_singleton, Option.some_or, Option.map_some, Option.some.injEq]
      rw [if_neg (by intro h; rcases h with h | h | h; exact h rfl; omega; exact hx h)]
      simp
      omega
theorem whole_of (v : List Int) {n : Int} (h : n = v.length) : wholeF (ofF v) n = true := by
 simp [wholeF, goW_of, h]
theorem atF_chain : ∀ {L : List Sp} {a b : Int}, chain a L b → ∀ i, a ≤ i → i < b → (expand L)[(i - a).toNat]? = some (atF L i)
 | [], a, b, h, i, h1, h2 => by simp only [chain] at h; omega
 | s :: r, a, b, h, i, h1, h2 => by
  obtain ⟨e1, e2, e3⟩ := h
  have hx : expand (s :: r) = List.replicate (s.t - s.f).toNat s.v ++ expand r := by simp [expand]
  rw [hx, atF]
  by_cases hc : i < s.t
  ·rw [if_pos ⟨by omega, hc⟩, List.getElem?_append_left (by simp; omega), List.getElem?_replicate, if_pos (by omega)]
  ·rw [if_neg (by omega), List.getElem?_append_right (by simp; omega), List.length_replicate]
   have := atF_chain e3 i (by omega) h2
   rw [← this]
   congr 1
   omega
theorem atF_of {v : List Int} {i : Int} (h0 : 0 ≤ i) (h1 : i < v.length) : v[i.toNat]? = some (atF (ofF v) i) := by
 have := atF_chain (ofF_chain v) i h0 h1
 rw [expand_of] at this
 simpa using this
theorem setR_twice {lo hi x y : Int} : ∀ {v : List Int} {a : Int}, setR lo hi x a (setR lo hi y a v) = setR lo hi x a v
 | [], _ => rfl
 | z :: r, a => by
  rw [setR, setR, setR, setR_twice]
  by_cases h : lo ≤ a ∧ a < hi
  ·rw [if_pos h, if_pos h]
  ·rw [if_neg h, if_neg h, if_neg h]
theorem setR_same {i x : Int} : ∀ {v : List Int} {a : Int}, (a ≤ i → v[(i - a).toNat]? = some x ∨ (a + v.length : Int) ≤ i) → setR i (i + 1) x a v = v
 | [], _, _ => rfl
 | z :: r, a, h => by
  rw [setR, setR_same (v := r) (a := a + 1)]
  ·by_cases hc : i ≤ a ∧ a < i + 1
   ·rw [if_pos hc]
    have := h (by omega)
    rw [show (i - a).toNat = 0 by omega] at this
    rcases this with e | e
    ·simp at e; rw [e]
    ·simp at e; omega
   ·rw [if_neg hc]
  ·intro h1
   rcases h (by omega) with e | e
   ·left
    rw [show (i - a).toNat = (i - (a + 1)).toNat + 1 by omega] at e
    simpa using e
   ·right
    simp only [List.length_cons] at e
    omega
theorem setR_at {v : List Int} {i : Int} (h0 : 0 ≤ i) (h1 : i < v.length) : setR i (i + 1) (atF (ofF v) i) 0 v = v :=
 setR_same fun _ => .inl (by simpa using atF_of h0 h1)
end Go.Proofs.Ytalhohfhjniapaa.W
