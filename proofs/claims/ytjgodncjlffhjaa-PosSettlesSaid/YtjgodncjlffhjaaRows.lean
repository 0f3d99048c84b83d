/-
  No cell of these rows narrows 'for every input' (looked for: loops, veiled, ifaces, maps, wideKeys, modest, calm, conditions, laid).
  DERIVED. THE GIVEN ROWS OF THIS SEAT. 17 by the template 'for every input the law returns true; each argument reads behind the call as it read before'; 0 by the template 'total and deterministic' (their statements: YtjgodncjlffhjaaTotals.lean).
  GIVEN WITH THE SEED: the statements are not yours to turn. If you find one false, say at which input.
  Laid BY PROGRAM, IN A SANDBOX (cutbox-rows.mjs): the forced cells as the released guide's own fill.sh prints them over the translation 3941c83b2f896a7c… (all of the seat's roots in one cut). By AI agents, Wed Nov 11 2026. No macro, syntax, notation, axiom, sorry.
-/
import Derived.Test.YtjgodncjlffhjaaChecked
import GoSem.Claim
import GoSem.ClaimJoined
import GoSem.ClaimMapViews
import Derived.JoinedTies
import Derived.KernelRfl
namespace Go.Proofs.Ytjgodncjlffhjaa
/- THE CELL 'sum', in the pinned program and in every row, IS THE sha256 OF THE DUMP (.gsa) THAT YtjgodncjlffhjaaProg.lean LOADS. Nothing in Lean hashes anything: it is a label: what it is worth is what the hold of that sum in a sandbox is worth. -/
noncomputable def Try.pinned : Pinned := { name := "ytjgodncjlffhjaa", sum := "3941c83b2f896a7ce28d5428cadfd36252a5cfb9ede19bd5a37c7cbb1c08e76f", checked := Try.checked }
namespace Rows
def none {H : Type} : Left H := { results := [], args := [] }

/-- 'typecaselaw32.AdjustAdds': WHATEVER THE INPUT: true; the input reads as it did. -/
def adjustAddsSpec : ChangeSpec := { name := "adjustAdds", fn := fun _ => fun
  | [d1, d2, d3] => { results := [.lit (.bool true)], args := [d1, d2, d3] }
  | _ => none }
def adjustAddsRow : OpenClaim := { program := "ytjgodncjlffhjaa", sum := "3941c83b2f896a7ce28d5428cadfd36252a5cfb9ede19bd5a37c7cbb1c08e76f", func := "typecase/typecaselaw32.AdjustAdds", spec := "adjustAdds", apart := false }
def AdjustAddsSaid : Prop := adjustAddsRow.holds Try.pinned (OpenSpec.ofChange adjustAddsSpec)

/-- ITS FALSE NEIGHBOUR: 'it returns false'. Refute it at one input. -/
def adjustAddsWrong : ChangeSpec := { name := "adjustAdds", fn := fun _ => fun
  | [d1, d2, d3] => { results := [.lit (.bool false)], args := [d1, d2, d3] }
  | _ => none }
def AdjustAddsWrongFalsely : Prop := adjustAddsRow.holds Try.pinned (OpenSpec.ofChange adjustAddsWrong)

/-- 'typecaselaw32.AdjustPairs': WHATEVER THE INPUT: true; the input reads as it did. -/
def adjustPairsSpec : ChangeSpec := { name := "adjustPairs", fn := fun _ => fun
  | [d1, d2, d3] => { results := [.lit (.bool true)], args := [d1, d2, d3] }
  | _ => none }
def adjustPairsRow : OpenClaim := { program := "ytjgodncjlffhjaa", sum := "3941c83b2f896a7ce28d5428cadfd36252a5cfb9ede19bd5a37c7cbb1c08e76f", func := "typecase/typecaselaw32.AdjustPairs", spec := "adjustPairs", apart := false }
def AdjustPairsSaid : Prop := adjustPairsRow.holds Try.pinned (OpenSpec.ofChange adjustPairsSpec)

/-- ITS FALSE NEIGHBOUR: 'it returns false'. Refute it at one input. -/
def adjustPairsWrong : ChangeSpec := { name := "adjustPairs", fn := fun _ => fun
  | [d1, d2, d3] => { results := [.lit (.bool false)], args := [d1, d2, d3] }
  | _ => none }
def AdjustPairsWrongFalsely : Prop := adjustPairsRow.holds Try.pinned (OpenSpec.ofChange adjustPairsWrong)

/-- 'typecaselaw29.ContextMoved': WHATEVER THE INPUT: true; the input reads as it did. -/
def contextMovedSpec : ChangeSpec := { name := "contextMoved", fn := fun _ => fun
  | [d1, d2] => { results := [.lit (.bool true)], args := [d1, d2] }
  | _ => none }
def contextMovedRow : OpenClaim := { program := "ytjgodncjlffhjaa", sum := "3941c83b2f896a7ce28d5428cadfd36252a5cfb9ede19bd5a37c7cbb1c08e76f", func := "typecase/typecaselaw29.ContextMoved", spec := "contextMoved", apart := false }
def ContextMovedSaid : Prop := contextMovedRow.holds Try.pinned (OpenSpec.ofChange contextMovedSpec)

/-- ITS FALSE NEIGHBOUR: 'it returns false'. Refute it at one input. -/
def contextMovedWrong : ChangeSpec := { name := "contextMoved", fn := fun _ => fun
  | [d1, d2] => { results := [.lit (.bool false)], args := [d1, d2] }
  | _ => none }
def ContextMovedWrongFalsely : Prop := contextMovedRow.holds Try.pinned (OpenSpec.ofChange contextMovedWrong)

/-- 'typecaselaw05.SpansWhole': WHATEVER THE INPUT: true; the input reads as it did. -/
def spansWholeSpec : ChangeSpec := { name := "spansWhole", fn := fun _ => fun
  | [d1, d2, d3] => { results := [.lit (.bool true)], args := [d1, d2, d3] }
  | _ => none }
def spansWholeRow : OpenClaim := { program := "ytjgodncjlffhjaa", sum := "3941c83b2f896a7ce28d5428cadfd36252a5cfb9ede19bd5a37c7cbb1c08e76f", func := "typecase/typecaselaw05.SpansWhole", spec := "spansWhole", apart := false }
def SpansWholeSaid : Prop := spansWholeRow.holds Try.pinned (OpenSpec.ofChange spansWholeSpec)

/-- ITS FALSE NEIGHBOUR: 'it returns false'. Refute it at one input. -/
def spansWholeWrong : ChangeSpec := { name := "spansWhole", fn := fun _ => fun
  | [d1, d2, d3] => { results := [.lit (.bool false)], args := [d1, d2, d3] }
  | _ => none }
def SpansWholeWrongFalsely : Prop := spansWholeRow.holds Try.pinned (OpenSpec.ofChange spansWholeWrong)

/-- 'typecaselaw05.SpansMeet': WHATEVER THE INPUT: true; the input reads as it did. -/
def spansMeetSpec : ChangeSpec := { name := "spansMeet", fn := fun _ => fun
  | [d1, d2, d3] => { results := [.lit (.bool true)], args := [d1, d2, d3] }
  | _ => none }
def spansMeetRow : OpenClaim := { program := "ytjgodncjlffhjaa", sum := "3941c83b2f896a7ce28d5428cadfd36252a5cfb9ede19bd5a37c7cbb1c08e76f", func := "typecase/typecaselaw05.SpansMeet", spec := "spansMeet", unfollowed := true, recurses := true, apart := false }
def SpansMeetSaid : Prop := spansMeetRow.holds Try.pinned (OpenSpec.ofChange spansMeetSpec)

/-- ITS FALSE NEIGHBOUR: 'it returns false'. Refute it at one input. -/
def spansMeetWrong : ChangeSpec := { name := "spansMeet", fn := fun _ => fun
  | [d1, d2, d3] => { results := [.lit (.bool false)], args := [d1, d2, d3] }
  | _ => none }
def SpansMeetWrongFalsely : Prop := spansMeetRow.holds Try.pinned (OpenSpec.ofChange spansMeetWrong)

/-- 'typecaselaw05.SpansParts': WHATEVER THE INPUT: true; the input reads as it did. -/
def spansPartsSpec : ChangeSpec := { name := "spansParts", fn := fun _ => fun
  | [d1, d2] => { results := [.lit (.bool true)], args := [d1, d2] }
  | _ => none }
def spansPartsRow : OpenClaim := { program := "ytjgodncjlffhjaa", sum := "3941c83b2f896a7ce28d5428cadfd36252a5cfb9ede19bd5a37c7cbb1c08e76f", func := "typecase/typecaselaw05.SpansParts", spec := "spansParts", apart := false }
def SpansPartsSaid : Prop := spansPartsRow.holds Try.pinned (OpenSpec.ofChange spansPartsSpec)

/-- ITS FALSE NEIGHBOUR: 'it returns false'. Refute it at one input. -/
def spansPartsWrong : ChangeSpec := { name := "spansParts", fn := fun _ => fun
  | [d1, d2] => { results := [.lit (.bool false)], args := [d1, d2] }
  | _ => none }
def SpansPartsWrongFalsely : Prop := spansPartsRow.holds Try.pinned (OpenSpec.ofChange spansPartsWrong)

/-- 'typecaselaw05.SpansEdits': WHATEVER THE INPUT: true; the input reads as it did. -/
def spansEditsSpec : ChangeSpec := { name := "spansEdits", fn := fun _ => fun
  | [d1, d2] => { results := [.lit (.bool true)], args := [d1, d2] }
  | _ => none }
def spansEditsRow : OpenClaim := { program := "ytjgodncjlffhjaa", sum := "3941c83b2f896a7ce28d5428cadfd36252a5cfb9ede19bd5a37c7cbb1c08e76f", func := "typecase/typecaselaw05.SpansEdits", spec := "spansEdits", apart := false }
def SpansEditsSaid : Prop := spansEditsRow.holds Try.pinned (OpenSpec.ofChange spansEditsSpec)

/-- ITS FALSE NEIGHBOUR: 'it returns false'. Refute it at one input. -/
def spansEditsWrong : ChangeSpec := { name := "spansEdits", fn := fun _ => fun
  | [d1, d2] => { results := [.lit (.bool false)], args := [d1, d2] }
  | _ => none }
def SpansEditsWrongFalsely : Prop := spansEditsRow.holds Try.pinned (OpenSpec.ofChange spansEditsWrong)

/-- 'typecaselaw05.SpansSets': WHATEVER THE INPUT: true; the input reads as it did. -/
def spansSetsSpec : ChangeSpec := { name := "spansSets", fn := fun _ => fun
  | [d1, d2] => { results := [.lit (.bool true)], args := [d1, d2] }
  | _ => none }
def spansSetsRow : OpenClaim := { program := "ytjgodncjlffhjaa", sum := "3941c83b2f896a7ce28d5428cadfd36252a5cfb9ede19bd5a37c7cbb1c08e76f", func := "typecase/typecaselaw05.SpansSets", spec := "spansSets", apart := false }
def SpansSetsSaid : Prop := spansSetsRow.holds Try.pinned (OpenSpec.ofChange spansSetsSpec)

/-- ITS FALSE NEIGHBOUR: 'it returns false'. Refute it at one input. -/
def spansSetsWrong : ChangeSpec := { name := "spansSets", fn := fun _ => fun
  | [d1, d2] => { results := [.lit (.bool false)], args := [d1, d2] }
  | _ => none }
def SpansSetsWrongFalsely : Prop := spansSetsRow.holds Try.pinned (OpenSpec.ofChange spansSetsWrong)

/-- 'typecaselaw35.PosSettles': WHATEVER THE INPUT: true; the input reads as it did. -/
def posSettlesSpec : ChangeSpec := { name := "posSettles", fn := fun _ => fun
  | [d] => { results := [.lit (.bool true)], args := [d] }
  | _ => none }
def posSettlesRow : OpenClaim := { program := "ytjgodncjlffhjaa", sum := "3941c83b2f896a7ce28d5428cadfd36252a5cfb9ede19bd5a37c7cbb1c08e76f", func := "typecase/typecaselaw35.PosSettles", spec := "posSettles", unfollowed := true, recurses := true, apart := false }
def PosSettlesSaid : Prop := posSettlesRow.holds Try.pinned (OpenSpec.ofChange posSettlesSpec)

/-- ITS FALSE NEIGHBOUR: 'it returns false'. Refute it at one input. -/
def posSettlesWrong : ChangeSpec := { name := "posSettles", fn := fun _ => fun
  | [d] => { results := [.lit (.bool false)], args := [d] }
  | _ => none }
def PosSettlesWrongFalsely : Prop := posSettlesRow.holds Try.pinned (OpenSpec.ofChange posSettlesWrong)

/-- 'typecaselaw26.SkipSkips': WHATEVER THE INPUT: true; the input reads as it did. -/
def skipSkipsSpec : ChangeSpec := { name := "skipSkips", fn := fun _ => fun
  | [d1, d2, d3] => { results := [.lit (.bool true)], args := [d1, d2, d3] }
  | _ => none }
def skipSkipsRow : OpenClaim := { program := "ytjgodncjlffhjaa", sum := "3941c83b2f896a7ce28d5428cadfd36252a5cfb9ede19bd5a37c7cbb1c08e76f", func := "typecase/typecaselaw26.SkipSkips", spec := "skipSkips", apart := false }
def SkipSkipsSaid : Prop := skipSkipsRow.holds Try.pinned (OpenSpec.ofChange skipSkipsSpec)

/-- ITS FALSE NEIGHBOUR: 'it returns false'. Refute it at one input. -/
def skipSkipsWrong : ChangeSpec := { name := "skipSkips", fn := fun _ => fun
  | [d1, d2, d3] => { results := [.lit (.bool false)], args := [d1, d2, d3] }
  | _ => none }
def SkipSkipsWrongFalsely : Prop := skipSkipsRow.holds Try.pinned (OpenSpec.ofChange skipSkipsWrong)

/-- 'typecaselaw26.SkipNext': WHATEVER THE INPUT: true; the input reads as it did. -/
def skipNextSpec : ChangeSpec := { name := "skipNext", fn := fun _ => fun
  | [d1, d2, d3] => { results := [.lit (.bool true)], args := [d1, d2, d3] }
  | _ => none }
def skipNextRow : OpenClaim := { program := "ytjgodncjlffhjaa", sum := "3941c83b2f896a7ce28d5428cadfd36252a5cfb9ede19bd5a37c7cbb1c08e76f", func := "typecase/typecaselaw26.SkipNext", spec := "skipNext", unfollowed := true, recurses := true, apart := false }
def SkipNextSaid : Prop := skipNextRow.holds Try.pinned (OpenSpec.ofChange skipNextSpec)

/-- ITS FALSE NEIGHBOUR: 'it returns false'. Refute it at one input. -/
def skipNextWrong : ChangeSpec := { name := "skipNext", fn := fun _ => fun
  | [d1, d2, d3] => { results := [.lit (.bool false)], args := [d1, d2, d3] }
  | _ => none }
def SkipNextWrongFalsely : Prop := skipNextRow.holds Try.pinned (OpenSpec.ofChange skipNextWrong)

/-- 'typecaselaw26.SkipLeads': WHATEVER THE INPUT: true; the input reads as it did. -/
def skipLeadsSpec : ChangeSpec := { name := "skipLeads", fn := fun _ => fun
  | [d1, d2, d3] => { results := [.lit (.bool true)], args := [d1, d2, d3] }
  | _ => none }
def skipLeadsRow : OpenClaim := { program := "ytjgodncjlffhjaa", sum := "3941c83b2f896a7ce28d5428cadfd36252a5cfb9ede19bd5a37c7cbb1c08e76f", func := "typecase/typecaselaw26.SkipLeads", spec := "skipLeads", unfollowed := true, recurses := true, apart := false }
def SkipLeadsSaid : Prop := skipLeadsRow.holds Try.pinned (OpenSpec.ofChange skipLeadsSpec)

/-- ITS FALSE NEIGHBOUR: 'it returns false'. Refute it at one input. -/
def skipLeadsWrong : ChangeSpec := { name := "skipLeads", fn := fun _ => fun
  | [d1, d2, d3] => { results := [.lit (.bool false)], args := [d1, d2, d3] }
  | _ => none }
def SkipLeadsWrongFalsely : Prop := skipLeadsRow.holds Try.pinned (OpenSpec.ofChange skipLeadsWrong)

/-- 'typecaselaw26.SkipRow': WHATEVER THE INPUT: true; the input reads as it did. -/
def skipRowSpec : ChangeSpec := { name := "skipRow", fn := fun _ => fun
  | [d1, d2, d3] => { results := [.lit (.bool true)], args := [d1, d2, d3] }
  | _ => none }
def skipRowRow : OpenClaim := { program := "ytjgodncjlffhjaa", sum := "3941c83b2f896a7ce28d5428cadfd36252a5cfb9ede19bd5a37c7cbb1c08e76f", func := "typecase/typecaselaw26.SkipRow", spec := "skipRow", unfollowed := true, recurses := true, apart := false }
def SkipRowSaid : Prop := skipRowRow.holds Try.pinned (OpenSpec.ofChange skipRowSpec)

/-- ITS FALSE NEIGHBOUR: 'it returns false'. Refute it at one input. -/
def skipRowWrong : ChangeSpec := { name := "skipRow", fn := fun _ => fun
  | [d1, d2, d3] => { results := [.lit (.bool false)], args := [d1, d2, d3] }
  | _ => none }
def SkipRowWrongFalsely : Prop := skipRowRow.holds Try.pinned (OpenSpec.ofChange skipRowWrong)

/-- 'typecaselaw26.SkipRises': WHATEVER THE INPUT: true; the input reads as it did. -/
def skipRisesSpec : ChangeSpec := { name := "skipRises", fn := fun _ => fun
  | [d1, d2, d3] => { results := [.lit (.bool true)], args := [d1, d2, d3] }
  | _ => none }
def skipRisesRow : OpenClaim := { program := "ytjgodncjlffhjaa", sum := "3941c83b2f896a7ce28d5428cadfd36252a5cfb9ede19bd5a37c7cbb1c08e76f", func := "typecase/typecaselaw26.SkipRises", spec := "skipRises", unfollowed := true, recurses := true, apart := false }
def SkipRisesSaid : Prop := skipRisesRow.holds Try.pinned (OpenSpec.ofChange skipRisesSpec)

/-- ITS FALSE NEIGHBOUR: 'it returns false'. Refute it at one input. -/
def skipRisesWrong : ChangeSpec := { name := "skipRises", fn := fun _ => fun
  | [d1, d2, d3] => { results := [.lit (.bool false)], args := [d1, d2, d3] }
  | _ => none }
def SkipRisesWrongFalsely : Prop := skipRisesRow.holds Try.pinned (OpenSpec.ofChange skipRisesWrong)

/-- 'typecaselaw29.ContextMatch': WHATEVER THE INPUT: true; the input reads as it did. -/
def contextMatchSpec : ChangeSpec := { name := "contextMatch", fn := fun _ => fun
  | [d1, d2, d3] => { results := [.lit (.bool true)], args := [d1, d2, d3] }
  | _ => none }
def contextMatchRow : OpenClaim := { program := "ytjgodncjlffhjaa", sum := "3941c83b2f896a7ce28d5428cadfd36252a5cfb9ede19bd5a37c7cbb1c08e76f", func := "typecase/typecaselaw29.ContextMatch", spec := "contextMatch", unfollowed := true, recurses := true, apart := false }
def ContextMatchSaid : Prop := contextMatchRow.holds Try.pinned (OpenSpec.ofChange contextMatchSpec)

/-- ITS FALSE NEIGHBOUR: 'it returns false'. Refute it at one input. -/
def contextMatchWrong : ChangeSpec := { name := "contextMatch", fn := fun _ => fun
  | [d1, d2, d3] => { results := [.lit (.bool false)], args := [d1, d2, d3] }
  | _ => none }
def ContextMatchWrongFalsely : Prop := contextMatchRow.holds Try.pinned (OpenSpec.ofChange contextMatchWrong)

/-- 'typecaselaw32.AdjustApplies': WHATEVER THE INPUT: true; the input reads as it did. -/
def adjustAppliesSpec : ChangeSpec := { name := "adjustApplies", fn := fun _ => fun
  | [d1, d2, d3] => { results := [.lit (.bool true)], args := [d1, d2, d3] }
  | _ => none }
def adjustAppliesRow : OpenClaim := { program := "ytjgodncjlffhjaa", sum := "3941c83b2f896a7ce28d5428cadfd36252a5cfb9ede19bd5a37c7cbb1c08e76f", func := "typecase/typecaselaw32.AdjustApplies", spec := "adjustApplies", unfollowed := true, recurses := true, apart := false }
def AdjustAppliesSaid : Prop := adjustAppliesRow.holds Try.pinned (OpenSpec.ofChange adjustAppliesSpec)

/-- ITS FALSE NEIGHBOUR: 'it returns false'. Refute it at one input. -/
def adjustAppliesWrong : ChangeSpec := { name := "adjustApplies", fn := fun _ => fun
  | [d1, d2, d3] => { results := [.lit (.bool false)], args := [d1, d2, d3] }
  | _ => none }
def AdjustAppliesWrongFalsely : Prop := adjustAppliesRow.holds Try.pinned (OpenSpec.ofChange adjustAppliesWrong)

/-- 'typecaselaw32.AdjustKeeps': WHATEVER THE INPUT: true; the input reads as it did. -/
def adjustKeepsSpec : ChangeSpec := { name := "adjustKeeps", fn := fun _ => fun
  | [d1, d2, d3] => { results := [.lit (.bool true)], args := [d1, d2, d3] }
  | _ => none }
def adjustKeepsRow : OpenClaim := { program := "ytjgodncjlffhjaa", sum := "3941c83b2f896a7ce28d5428cadfd36252a5cfb9ede19bd5a37c7cbb1c08e76f", func := "typecase/typecaselaw32.AdjustKeeps", spec := "adjustKeeps", unfollowed := true, recurses := true, apart := false }
def AdjustKeepsSaid : Prop := adjustKeepsRow.holds Try.pinned (OpenSpec.ofChange adjustKeepsSpec)

/-- ITS FALSE NEIGHBOUR: 'it returns false'. Refute it at one input. -/
def adjustKeepsWrong : ChangeSpec := { name := "adjustKeeps", fn := fun _ => fun
  | [d1, d2, d3] => { results := [.lit (.bool false)], args := [d1, d2, d3] }
  | _ => none }
def AdjustKeepsWrongFalsely : Prop := adjustKeepsRow.holds Try.pinned (OpenSpec.ofChange adjustKeepsWrong)

/- THE SECOND FORM. 'bulk': how many values and letters a reading holds, each counted each time it is reached (what is shared counts as often as it is met; a slice's spare places count too). A statement '..UptoSaid' is the law's where the arguments, and the package variables that the reading takes, are together of bulk at most 1048576: NARROWER than '..Said'. Prove '..Said' where nothing that the law and all that it calls make is longer than what came in: it says more and counts as full. Else prove '..UptoSaid'. A law counts once. -/
mutual
def uptoBulk {H : Type} : DataW H → Nat
  | .lit (.string bytes) => bytes.length + 1
  | .lit _ => 1
  | .nil => 1
  | .ptr d => uptoBulk d + 1
  | .slice elems spare => uptoBulkAll elems + uptoBulkAll spare + 1
  | .agg parts => uptoBulkAll parts + 1
  | .iface _ d => uptoBulk d + 1
  | .map entries => uptoBulkEntries entries + 1
  | .held _ => 1
def uptoBulkAll {H : Type} : List (DataW H) → Nat
  | [] => 0
  | d :: r => uptoBulk d + uptoBulkAll r
def uptoBulkEntries {H : Type} : List (Lit × DataW H) → Nat
  | [] => 0
  | x :: r => uptoBulkEntry x + uptoBulkEntries r
def uptoBulkEntry {H : Type} : Lit × DataW H → Nat
  | (.string bytes, d) => bytes.length + uptoBulk d + 1
  | (_, d) => uptoBulk d + 1
 end
def uptoSmall : (H : Type) → List (DataW H) → Bool := fun _ ds => decide (uptoBulkAll ds ≤ 1048576)
def OpenSpec.upto (s : _root_.Go.ChangeSpec) : _root_.Go.OpenSpec := { _root_.Go.OpenSpec.ofChange s with cond := some uptoSmall }

/-- 'typecaselaw32.AdjustAdds', WHERE WHAT IT READS IS OF BULK AT MOST 1048576: true; the input reads as it did. -/
def adjustAddsUptoRow : OpenClaim := { program := "ytjgodncjlffhjaa", sum := "3941c83b2f896a7ce28d5428cadfd36252a5cfb9ede19bd5a37c7cbb1c08e76f", func := "typecase/typecaselaw32.AdjustAdds", spec := "adjustAdds", apart := false, narrowed := true }
def AdjustAddsUptoSaid : Prop := adjustAddsUptoRow.holds Try.pinned (OpenSpec.upto adjustAddsSpec)

/-- 'typecaselaw32.AdjustPairs', WHERE WHAT IT READS IS OF BULK AT MOST 1048576: true; the input reads as it did. -/
def adjustPairsUptoRow : OpenClaim := { program := "ytjgodncjlffhjaa", sum := "3941c83b2f896a7ce28d5428cadfd36252a5cfb9ede19bd5a37c7cbb1c08e76f", func := "typecase/typecaselaw32.AdjustPairs", spec := "adjustPairs", apart := false, narrowed := true }
def AdjustPairsUptoSaid : Prop := adjustPairsUptoRow.holds Try.pinned (OpenSpec.upto adjustPairsSpec)

/-- 'typecaselaw29.ContextMoved', WHERE WHAT IT READS IS OF BULK AT MOST 1048576: true; the input reads as it did. -/
def contextMovedUptoRow : OpenClaim := { program := "ytjgodncjlffhjaa", sum := "3941c83b2f896a7ce28d5428cadfd36252a5cfb9ede19bd5a37c7cbb1c08e76f", func := "typecase/typecaselaw29.ContextMoved", spec := "contextMoved", apart := false, narrowed := true }
def ContextMovedUptoSaid : Prop := contextMovedUptoRow.holds Try.pinned (OpenSpec.upto contextMovedSpec)

/-- 'typecaselaw05.SpansWhole', WHERE WHAT IT READS IS OF BULK AT MOST 1048576: true; the input reads as it did. -/
def spansWholeUptoRow : OpenClaim := { program := "ytjgodncjlffhjaa", sum := "3941c83b2f896a7ce28d5428cadfd36252a5cfb9ede19bd5a37c7cbb1c08e76f", func := "typecase/typecaselaw05.SpansWhole", spec := "spansWhole", apart := false, narrowed := true }
def SpansWholeUptoSaid : Prop := spansWholeUptoRow.holds Try.pinned (OpenSpec.upto spansWholeSpec)

/-- 'typecaselaw05.SpansMeet', WHERE WHAT IT READS IS OF BULK AT MOST 1048576: true; the input reads as it did. -/
def spansMeetUptoRow : OpenClaim := { program := "ytjgodncjlffhjaa", sum := "3941c83b2f896a7ce28d5428cadfd36252a5cfb9ede19bd5a37c7cbb1c08e76f", func := "typecase/typecaselaw05.SpansMeet", spec := "spansMeet", unfollowed := true, recurses := true, apart := false, narrowed := true }
def SpansMeetUptoSaid : Prop := spansMeetUptoRow.holds Try.pinned (OpenSpec.upto spansMeetSpec)

/-- 'typecaselaw05.SpansParts', WHERE WHAT IT READS IS OF BULK AT MOST 1048576: true; the input reads as it did. -/
def spansPartsUptoRow : OpenClaim := { program := "ytjgodncjlffhjaa", sum := "3941c83b2f896a7ce28d5428cadfd36252a5cfb9ede19bd5a37c7cbb1c08e76f", func := "typecase/typecaselaw05.SpansParts", spec := "spansParts", apart := false, narrowed := true }
def SpansPartsUptoSaid : Prop := spansPartsUptoRow.holds Try.pinned (OpenSpec.upto spansPartsSpec)

/-- 'typecaselaw05.SpansEdits', WHERE WHAT IT READS IS OF BULK AT MOST 1048576: true; the input reads as it did. -/
def spansEditsUptoRow : OpenClaim := { program := "ytjgodncjlffhjaa", sum := "3941c83b2f896a7ce28d5428cadfd36252a5cfb9ede19bd5a37c7cbb1c08e76f", func := "typecase/typecaselaw05.SpansEdits", spec := "spansEdits", apart := false, narrowed := true }
def SpansEditsUptoSaid : Prop := spansEditsUptoRow.holds Try.pinned (OpenSpec.upto spansEditsSpec)

/-- 'typecaselaw05.SpansSets', WHERE WHAT IT READS IS OF BULK AT MOST 1048576: true; the input reads as it did. -/
def spansSetsUptoRow : OpenClaim := { program := "ytjgodncjlffhjaa", sum := "3941c83b2f896a7ce28d5428cadfd36252a5cfb9ede19bd5a37c7cbb1c08e76f", func := "typecase/typecaselaw05.SpansSets", spec := "spansSets", apart := false, narrowed := true }
def SpansSetsUptoSaid : Prop := spansSetsUptoRow.holds Try.pinned (OpenSpec.upto spansSetsSpec)

/-- 'typecaselaw35.PosSettles', WHERE WHAT IT READS IS OF BULK AT MOST 1048576: true; the input reads as it did. -/
def posSettlesUptoRow : OpenClaim := { program := "ytjgodncjlffhjaa", sum := "3941c83b2f896a7ce28d5428cadfd36252a5cfb9ede19bd5a37c7cbb1c08e76f", func := "typecase/typecaselaw35.PosSettles", spec := "posSettles", unfollowed := true, recurses := true, apart := false, narrowed := true }
def PosSettlesUptoSaid : Prop := posSettlesUptoRow.holds Try.pinned (OpenSpec.upto posSettlesSpec)

/-- 'typecaselaw26.SkipSkips', WHERE WHAT IT READS IS OF BULK AT MOST 1048576: true; the input reads as it did. -/
def skipSkipsUptoRow : OpenClaim := { program := "ytjgodncjlffhjaa", sum := "3941c83b2f896a7ce28d5428cadfd36252a5cfb9ede19bd5a37c7cbb1c08e76f", func := "typecase/typecaselaw26.SkipSkips", spec := "skipSkips", apart := false, narrowed := true }
def SkipSkipsUptoSaid : Prop := skipSkipsUptoRow.holds Try.pinned (OpenSpec.upto skipSkipsSpec)

/-- 'typecaselaw26.SkipNext', WHERE WHAT IT READS IS OF BULK AT MOST 1048576: true; the input reads as it did. -/
def skipNextUptoRow : OpenClaim := { program := "ytjgodncjlffhjaa", sum := "3941c83b2f896a7ce28d5428cadfd36252a5cfb9ede19bd5a37c7cbb1c08e76f", func := "typecase/typecaselaw26.SkipNext", spec := "skipNext", unfollowed := true, recurses := true, apart := false, narrowed := true }
def SkipNextUptoSaid : Prop := skipNextUptoRow.holds Try.pinned (OpenSpec.upto skipNextSpec)

/-- 'typecaselaw26.SkipLeads', WHERE WHAT IT READS IS OF BULK AT MOST 1048576: true; the input reads as it did. -/
def skipLeadsUptoRow : OpenClaim := { program := "ytjgodncjlffhjaa", sum := "3941c83b2f896a7ce28d5428cadfd36252a5cfb9ede19bd5a37c7cbb1c08e76f", func := "typecase/typecaselaw26.SkipLeads", spec := "skipLeads", unfollowed := true, recurses := true, apart := false, narrowed := true }
def SkipLeadsUptoSaid : Prop := skipLeadsUptoRow.holds Try.pinned (OpenSpec.upto skipLeadsSpec)

/-- 'typecaselaw26.SkipRow', WHERE WHAT IT READS IS OF BULK AT MOST 1048576: true; the input reads as it did. -/
def skipRowUptoRow : OpenClaim := { program := "ytjgodncjlffhjaa", sum := "3941c83b2f896a7ce28d5428cadfd36252a5cfb9ede19bd5a37c7cbb1c08e76f", func := "typecase/typecaselaw26.SkipRow", spec := "skipRow", unfollowed := true, recurses := true, apart := false, narrowed := true }
def SkipRowUptoSaid : Prop := skipRowUptoRow.holds Try.pinned (OpenSpec.upto skipRowSpec)

/-- 'typecaselaw26.SkipRises', WHERE WHAT IT READS IS OF BULK AT MOST 1048576: true; the input reads as it did. -/
def skipRisesUptoRow : OpenClaim := { program := "ytjgodncjlffhjaa", sum := "3941c83b2f896a7ce28d5428cadfd36252a5cfb9ede19bd5a37c7cbb1c08e76f", func := "typecase/typecaselaw26.SkipRises", spec := "skipRises", unfollowed := true, recurses := true, apart := false, narrowed := true }
def SkipRisesUptoSaid : Prop := skipRisesUptoRow.holds Try.pinned (OpenSpec.upto skipRisesSpec)

/-- 'typecaselaw29.ContextMatch', WHERE WHAT IT READS IS OF BULK AT MOST 1048576: true; the input reads as it did. -/
def contextMatchUptoRow : OpenClaim := { program := "ytjgodncjlffhjaa", sum := "3941c83b2f896a7ce28d5428cadfd36252a5cfb9ede19bd5a37c7cbb1c08e76f", func := "typecase/typecaselaw29.ContextMatch", spec := "contextMatch", unfollowed := true, recurses := true, apart := false, narrowed := true }
def ContextMatchUptoSaid : Prop := contextMatchUptoRow.holds Try.pinned (OpenSpec.upto contextMatchSpec)

/-- 'typecaselaw32.AdjustApplies', WHERE WHAT IT READS IS OF BULK AT MOST 1048576: true; the input reads as it did. -/
def adjustAppliesUptoRow : OpenClaim := { program := "ytjgodncjlffhjaa", sum := "3941c83b2f896a7ce28d5428cadfd36252a5cfb9ede19bd5a37c7cbb1c08e76f", func := "typecase/typecaselaw32.AdjustApplies", spec := "adjustApplies", unfollowed := true, recurses := true, apart := false, narrowed := true }
def AdjustAppliesUptoSaid : Prop := adjustAppliesUptoRow.holds Try.pinned (OpenSpec.upto adjustAppliesSpec)

/-- 'typecaselaw32.AdjustKeeps', WHERE WHAT IT READS IS OF BULK AT MOST 1048576: true; the input reads as it did. -/
def adjustKeepsUptoRow : OpenClaim := { program := "ytjgodncjlffhjaa", sum := "3941c83b2f896a7ce28d5428cadfd36252a5cfb9ede19bd5a37c7cbb1c08e76f", func := "typecase/typecaselaw32.AdjustKeeps", spec := "adjustKeeps", unfollowed := true, recurses := true, apart := false, narrowed := true }
def AdjustKeepsUptoSaid : Prop := adjustKeepsUptoRow.holds Try.pinned (OpenSpec.upto adjustKeepsSpec)

end Rows
end Go.Proofs.Ytjgodncjlffhjaa
