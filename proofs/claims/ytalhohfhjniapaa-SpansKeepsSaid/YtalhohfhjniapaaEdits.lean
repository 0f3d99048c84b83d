/-
  The law SpansEdits: what its function does, for every input. No condition.
-/
import Derived.Test.YtalhohfhjniapaaRoll2
namespace Go.Proofs.Ytalhohfhjniapaa.W
open Go Go.Vm Go.Proofs
set_option maxRecDepth 100000
set_option linter.unusedSimpArgs false
/-! typecase/spans.Edit -/
def c11 : AC :=
 (.seq (.reg [oo 10 (.mov (.c .empty))])
 (.seq (.reg [oo 13 (.mov (.s 0)),
 oo 14 (.call 20 [(.s 13)]),
 oo 11 (.mov (.s 14))])
 (.seq (.reg [oo 15 (.mov (.s 1)),
 oo 16 (.mov (.s 11)),
 oo 17 (.mn (.s 15) (.s 16)),
 oo 18 (.mx (nI 0) (.s 17)),
 oo 1 (.mov (.s 18))])
 (.seq (.reg [oo 19 (.mov (.s 2)),
 oo 20 (.mov (.s 11)),
 oo 21 (.mov (.s 1)),
 oo 22 (.bin .sub (.s 20) (.s 21)),
 oo 23 (.mn (.s 19) (.s 22)),
 oo 24 (.mx (nI 0) (.s 23)),
 oo 2 (.mov (.s 24))])
 (.seq (.reg [oo 12 (.box (.c (.agg [.empty])))])
 (.seq (.reg [oo 25 (.mov (.s 0)),
 oo 26 (.mov (.s 1)),
 oo 27 (.call 21 [(.s 12), (.s 25), (nI 0), (.s 26)])])
 (.seq (.reg [oo 28 (.mov (.s 3)),
 oo 29 (.mov (.s 4)),
 oo 30 (.call 17 [(.s 12), (.s 28), (.s 29)])])
 (.seq (.reg [oo 31 (.mov (.s 0)),
 oo 32 (.mov (.s 1)),
 oo 33 (.mov (.s 2)),
 oo 34 (.bin .add (.s 32) (.s 33)),
 oo 35 (.mov (.s 11)),
 oo 36 (.call 21 [(.s 12), (.s 31), (.s 34), (.s 35)])])
 (.seq (.reg [oo 37 (.fldA 0 (.s 12)),
 oo 38 (.load false 1 (.s 37)),
 oo 10 (.mov (.s 38))])
 .ret)))))))))
/-- the values behind an edit -/
def editV (v : List Int) (a c p : Nat) (x : Int) : List Int := v.take a ++ List.replicate p x ++ v.drop (a + c)
def outB (v : List Int) (a : Nat) (x : Int) (j : Nat) : List Int := v.take a ++ List.replicate j x
def outA (v : List Int) (k : Nat) : List Int := v.take k
def outC (v : List Int) (a c p : Nat) (x : Int) (j : Nat) : List Int := v.take a ++ List.replicate p x ++ (v.drop (a + c)).take j
end Go.Proofs.Ytalhohfhjniapaa.W
