/-
  Steps over all glyphs, plainly. No program in sight.
-/
import Derived.Test.YtcjmkpkhjhjepaaGreatPosD
namespace Go.Proofs.YtcjmkpkhjhjepaaGreat.W
open Go Go.Vm Go.Proofs
set_option maxRecDepth 100000
set_option linter.unusedSimpArgs false
def passF (F : Ff) (lookup mask : Int) : Nat → List Gl → Int → Int → List Gl × Int
 | 0, l, _, left => (l, left)
 | n + 1, l, x, left => if (l.length : Int) ≤ x then (l, left) else if andE (glAt l x).mask mask = 0 then passF F lookup mask n l (x + 1) left
  else match onceF F 9 lookup l x left with
   | (some q, left') => passF F lookup mask n q.1 (max q.2 (x + 1)) left'
   | (none, left') => passF F lookup mask n l (x + 1) left'
/-- a step: a lookup's number, and a mask -/
structure Stp where
 k : Int
 m : Int
abbrev stp (s : Stp) : V := .agg [I s.k, I s.m]
def allP (F : Ff) : List Stp → List Gl → Int → List Gl × Int
 | [], l, left => (l, left)
 | s :: r, l, left => allP F r (passF F s.k s.m l.length l 0 left).1 (passF F s.k s.m l.length l 0 left).2
theorem passF_end {F : Ff} {lookup mask : Int} {n : Nat} {l : List Gl} {x left : Int} (h : (l.length : Int) ≤ x) : passF F lookup mask n l x left = (l, left) := by
 cases n with
 | zero => rfl
 | succ n => rw [passF, if_pos h]
theorem passF_p (F : Ff) (lookup mask : Int) : ∀ (n : Nat) (l : List Gl) (x left : Int), 0 ≤ left → coreL (passF F lookup mask n l x left).1 = coreL l ∧ 0 ≤ (passF F lookup mask n l x left).2 ∧ (passF F lookup mask n l x left).2 ≤ left ∧
  ∀ d, 0 ≤ d → 0 < (passF F lookup mask n l x left).2 → passF F lookup mask n l x (left + d) = ((passF F lookup mask n l x left).1, (passF F lookup mask n l x left).2 + d)
 | 0, l, x, left, h0 => ⟨rfl, h0, Int.le_refl _, fun _ _ _ => rfl⟩
 | n + 1, l, x, left, h0 => by
  rw [passF]
  split
  ·rename_i hx
   exact ⟨rfl, h0, Int.le_refl _, fun d _ _ => by rw [passF, if_pos hx]⟩
  ·rename_i hx
   split
   ·rename_i hm
    obtain ⟨a, b, c, e⟩ := passF_p F lookup mask n l (x + 1) left h0
    exact ⟨a, b, c, fun d hd hp => by rw [passF, if_neg hx, if_pos hm]; exact e d hd hp⟩
   ·rename_i hm
    have P := onceF_p F 9
    have hle := P.le lookup l x left h0
    have hco := P.core lookup l x left
    have hmo := P.more lookup l x left
    cases ho : onceF F 9 lookup l x left with
    | mk r u =>
     rw [ho] at hle hco hmo
     cases r with
     | some q =>
      simp only
      obtain ⟨a, b, c, e⟩ := passF_p F lookup mask n q.1 (max q.2 (x + 1)) u hle.1
      refine ⟨a.trans (hco q rfl), b, Int.le_trans c hle.2, fun d hd hp => ?_⟩
      rw [passF, if_neg hx, if_neg hm, hmo d h0 hd (Int.lt_of_lt_of_le hp c)]
      simp only
      rw [e d hd hp]
     | none =>
      simp only
      obtain ⟨a, b, c, e⟩ := passF_p F lookup mask n l (x + 1) u hle.1
      refine ⟨a, b, Int.le_trans c hle.2, fun d hd hp => ?_⟩
      rw [passF, if_neg hx, if_neg hm, hmo d h0 hd (Int.lt_of_lt_of_le hp c)]
      simp only
      rw [e d hd hp]
/-- steps one by one, each with all doings -/
def eachP (F : Ff) : List Stp → List Gl → List Gl
 | [], l => l
 | s :: r, l => eachP F r (passF F s.k s.m l.length l 0 65536).1
end Go.Proofs.YtcjmkpkhjhjepaaGreat.W
