/-
  Spans of values: they are whole, the first that has a place has its value, a stretch set twice. Plain lists, no program. No condition.
-/
import Derived.Test.YtalhohfhjniapaaSets
import Derived.Test.YtalhohfhjniapaaEdits
import Derived.Test.YtalhohfhjniapaaWhole
namespace Go.Proofs.Ytalhohfhjniapaa.W
open Go Go.Vm Go.Proofs
set_option maxRecDepth 100000
set_option linter.unusedSimpArgs false
theorem goW_snoc {s : Sp} : ∀ {L : List Sp} {a : Int} {p : Option Int}, goW (L ++ [s]) a p = (goW L a p).bind fun b => if s.f ≠ b ∨ s.t ≤ b ∨ (if L = [] then p else L.getLast?.map (·.v)) = some s.v then none else some s.t
 | [], a, p => by simp [goW]
 | q :: r, a, p => by
  rw [List.cons_append, goW, goW]
  split
  ·rfl
  ·rw [goW_snoc]
   congr 1
   funext b
   cases r with
   | nil => simp
   | cons q2 r2 => simp
theorem goW_of (v : List Int) : goW (ofF v) 0 none = some (v.length : Int) := by
 induction v using snoc_ind with
 | h0 => rfl
 | h1 v x ih =>
  rw [ofF_snoc]
  rcases snoc_cases (ofF v) with e | ⟨L, s, e⟩
  ·rw [e] at ih ⊢
   simp only [goW, Option.some.injEq] at ih
   rw [layF_nil]
   have hn : v.length = 0 := by omega
   simp [goW, hn]
  ·rw [e] at ih ⊢
   rw [goW_snoc] at ih
   cases hb : goW L 0 none with
   | none => rw [hb] at ih; simp at ih
   | some b =>
    rw [hb] at ih
    simp only [Option.bind_some] at ih
    by_cases hc : s.f ≠ b ∨ s.t ≤ b ∨ (if L = [] then none else L.getLast?.map (·.v)) = some s.v
    ·rw [if_pos hc] at ih
     cases ih
    ·rw [if_neg hc] at ih
     simp only [Option.some.injEq] at ih
     rw [layF_snoc]
     by_cases hx : s.v = x
     ·rw [if_pos hx, goW_snoc, hb]
      simp only [Option.bind_some]
      rw [if_neg (by intro h; apply hc; rcases h with h | h | h; exact .inl h; omega; exact .inr (.inr h))]
      simp
      omega
     ·have hne : (L ++ [s] = []) = False := by simp
      rw [if_neg hx, goW_snoc, goW_snoc, hb]
      simp only [Option.bind_some]
      rw [if_neg hc]
      simp only [Option.bind_some, hne, if_false, List.getLast?_append, List.getLast?_singleton, Option.some_or, Option.map_some, Option.some.injEq]
      rw [if_neg (by intro h; rcases h with h | h | h; exact h rfl; omega; exact hx h)]
      simp
      omega
theorem whole_of (v : List Int) {n : Int} (h : n = v.length) : wholeF (ofF v) n = true := by
 simp [wholeF, goW_of, h]
theorem edit_set {v : List Int} {a b : Nat} {x : Int} (h : a ≤ b) (hb : b ≤ v.length) : editV v a (b - a) (b - a) x = setR a b x 0 v := by
 rw [setR_eq (by omega) (by omega) (by omega), editV]
 rw [show ((a : Int) - 0).toNat = a by omega, show ((b : Int) - (a : Int)).toNat = b - a by omega, show ((b : Int) - 0).toNat = b by omega, show a + (b - a) = b by omega]
theorem edit_none {v : List Int} {a : Nat} {x : Int} : editV v a 0 0 x = v := by simp [editV]
end Go.Proofs.Ytalhohfhjniapaa.W
