/-
  Whether a row of glyphs is right, as a function. No program in sight.
-/
import Derived.Test.YtcjmkpkhjhjepaaGls
namespace Go.Proofs.Ytcjmkpkhjhjepaa.W
open Go Go.Vm Go.Proofs
def placeF (n : Int) (m : Nat) : Bool := decide (-1 ≤ n) && decide (n < m)
def okR (ls : List Gl) (i : Nat) : Bool := !(decide (0 < i) && decide ((glAt ls (i : Int)).cl < (glAt ls ((i : Int) - 1)).cl)) && placeF (glAt ls (i : Int)).to ls.length && placeF (glAt ls (i : Int)).hang ls.length
def allR (ls : List Gl) : Nat → Nat → Bool
  | 0, _ => true
  | n + 1, i => okR ls i && allR ls n (i + 1)
def rightF (ls : List Gl) : Bool := allR ls ls.length 0
end Go.Proofs.Ytcjmkpkhjhjepaa.W
