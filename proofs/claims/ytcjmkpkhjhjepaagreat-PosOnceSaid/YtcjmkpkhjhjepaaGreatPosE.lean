/-
  Steps over all glyphs, plainly. No program in sight.
-/
import Derived.Test.YtcjmkpkhjhjepaaGreatPosD
namespace Go.Proofs.YtcjmkpkhjhjepaaGreat.W
open Go Go.Vm Go.Proofs
set_option maxRecDepth 100000
set_option linter.unusedSimpArgs false
def passF (F : Ff) (lookup mask : Int) : Nat → List Gl → Int → Int → List Gl × Int
 | 0, l, _, left => (l, left)
 | n + 1, l, x, left => if (l.length : Int) ≤ x then (l, left) else if andE (glAt l x).mask mask = 0 then passF F lookup mask n l (x + 1) left
  else match onceF F 9 lookup l x left with
   | (some q, left') => passF F lookup mask n q.1 (max q.2 (x + 1)) left'
   | (none, left') => passF F lookup mask n l (x + 1) left'
/-- a step: a lookup's number, and a mask -/
structure Stp where
 k : Int
 m : Int
abbrev stp (s : Stp) : V := .agg [I s.k, I s.m]
def allP (F : Ff) : List Stp → List Gl → Int → List Gl × Int
 | [], l, left => (l, left)
 | s :: r, l, left => allP F r (passF F s.k s.m l.length l 0 left).1 (passF F s.k s.m l.length l 0 left).2
/-- steps one by one, each with all doings -/
def eachP (F : Ff) : List Stp → List Gl → List Gl
 | [], l => l
 | s :: r, l => eachP F r (passF F s.k s.m l.length l 0 65536).1
end Go.Proofs.YtcjmkpkhjhjepaaGreat.W
