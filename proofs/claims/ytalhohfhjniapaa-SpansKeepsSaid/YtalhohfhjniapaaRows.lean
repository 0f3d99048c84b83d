/-
  No cell of these rows narrows 'for every input' (looked for: loops, veiled, ifaces, maps, wideKeys, modest, calm, conditions, laid).
  DERIVED. THE GIVEN ROWS OF THIS SEAT. 3 by the template 'for every input the law returns true; each argument reads behind the call as it read before'; 0 by the template 'total and deterministic' (their statements: YtalhohfhjniapaaTotals.lean).
  GIVEN WITH THE SEED: the statements are not yours to turn. If you find one false, say at which input.
  Laid BY PROGRAM, IN A SANDBOX (cutbox-rows.mjs): the forced cells as the released guide's own fill.sh prints them over the translation 197fbb4171484d4d… (all of the seat's roots in one cut). By AI agents, Wed Nov 11 2026. No macro, syntax, notation, axiom, sorry.
-/
import Derived.Test.YtalhohfhjniapaaChecked
import GoSem.Claim
import GoSem.ClaimJoined
import GoSem.ClaimMapViews
import Derived.JoinedTies
import Derived.KernelRfl
namespace Go.Proofs.Ytalhohfhjniapaa
/- THE CELL 'sum', in the pinned program and in every row, IS THE sha256 OF THE DUMP (.gsa) THAT YtalhohfhjniapaaProg.lean LOADS. Nothing in Lean hashes anything: it is a label: what it is worth is what the hold of that sum in a sandbox is worth. -/
noncomputable def Try.pinned : Pinned := { name := "ytalhohfhjniapaa", sum := "197fbb4171484d4dd11bf60d0b96b3b5a6cacbd26d9060deb33724611d5744a9", checked := Try.checked }
namespace Rows
def none {H : Type} : Left H := { results := [], args := [] }

/-- 'typecaselaw05.SpansNorms': WHATEVER THE INPUT: true; the input reads as it did. -/
def spansNormsSpec : ChangeSpec := { name := "spansNorms", fn := fun _ => fun
  | [d1, d2] => { results := [.lit (.bool true)], args := [d1, d2] }
  | _ => none }
def spansNormsRow : OpenClaim := { program := "ytalhohfhjniapaa", sum := "197fbb4171484d4dd11bf60d0b96b3b5a6cacbd26d9060deb33724611d5744a9", func := "typecase/typecaselaw05.SpansNorms", spec := "spansNorms", recurses := true, apart := false }
def SpansNormsSaid : Prop := spansNormsRow.holds Try.pinned (OpenSpec.ofChange spansNormsSpec)

/-- ITS FALSE NEIGHBOUR: 'it returns false'. Refute it at one input. -/
def spansNormsWrong : ChangeSpec := { name := "spansNorms", fn := fun _ => fun
  | [d1, d2] => { results := [.lit (.bool false)], args := [d1, d2] }
  | _ => none }
def SpansNormsWrongFalsely : Prop := spansNormsRow.holds Try.pinned (OpenSpec.ofChange spansNormsWrong)

/-- 'typecaselaw05.SpansSwaps': WHATEVER THE INPUT: true; the input reads as it did. -/
def spansSwapsSpec : ChangeSpec := { name := "spansSwaps", fn := fun _ => fun
  | [d1, d2] => { results := [.lit (.bool true)], args := [d1, d2] }
  | _ => none }
def spansSwapsRow : OpenClaim := { program := "ytalhohfhjniapaa", sum := "197fbb4171484d4dd11bf60d0b96b3b5a6cacbd26d9060deb33724611d5744a9", func := "typecase/typecaselaw05.SpansSwaps", spec := "spansSwaps", recurses := true, apart := false }
def SpansSwapsSaid : Prop := spansSwapsRow.holds Try.pinned (OpenSpec.ofChange spansSwapsSpec)

/-- ITS FALSE NEIGHBOUR: 'it returns false'. Refute it at one input. -/
def spansSwapsWrong : ChangeSpec := { name := "spansSwaps", fn := fun _ => fun
  | [d1, d2] => { results := [.lit (.bool false)], args := [d1, d2] }
  | _ => none }
def SpansSwapsWrongFalsely : Prop := spansSwapsRow.holds Try.pinned (OpenSpec.ofChange spansSwapsWrong)

/-- 'typecaselaw05.SpansKeeps': WHATEVER THE INPUT: true; the input reads as it did. -/
def spansKeepsSpec : ChangeSpec := { name := "spansKeeps", fn := fun _ => fun
  | [d1, d2] => { results := [.lit (.bool true)], args := [d1, d2] }
  | _ => none }
def spansKeepsRow : OpenClaim := { program := "ytalhohfhjniapaa", sum := "197fbb4171484d4dd11bf60d0b96b3b5a6cacbd26d9060deb33724611d5744a9", func := "typecase/typecaselaw05.SpansKeeps", spec := "spansKeeps", recurses := true, apart := false }
def SpansKeepsSaid : Prop := spansKeepsRow.holds Try.pinned (OpenSpec.ofChange spansKeepsSpec)

/-- ITS FALSE NEIGHBOUR: 'it returns false'. Refute it at one input. -/
def spansKeepsWrong : ChangeSpec := { name := "spansKeeps", fn := fun _ => fun
  | [d1, d2] => { results := [.lit (.bool false)], args := [d1, d2] }
  | _ => none }
def SpansKeepsWrongFalsely : Prop := spansKeepsRow.holds Try.pinned (OpenSpec.ofChange spansKeepsWrong)

/- THE SECOND FORM. 'bulk': how many values and letters a reading holds, each counted each time it is reached (what is shared counts as often as it is met; a slice's spare places count too). A statement '..UptoSaid' is the law's where the arguments, and the package variables that the reading takes, are together of bulk at most 1048576: NARROWER than '..Said'. Prove '..Said' where nothing that the law and all that it calls make is longer than what came in: it says more and counts as full. Else prove '..UptoSaid'. A law counts once. -/
mutual
def uptoBulk {H : Type} : DataW H → Nat
  | .lit (.string bytes) => bytes.length + 1
  | .lit _ => 1
  | .nil => 1
  | .ptr d => uptoBulk d + 1
  | .slice elems spare => uptoBulkAll elems + uptoBulkAll spare + 1
  | .agg parts => uptoBulkAll parts + 1
  | .iface _ d => uptoBulk d + 1
  | .map entries => uptoBulkEntries entries + 1
  | .held _ => 1
def uptoBulkAll {H : Type} : List (DataW H) → Nat
  | [] => 0
  | d :: r => uptoBulk d + uptoBulkAll r
def uptoBulkEntries {H : Type} : List (Lit × DataW H) → Nat
  | [] => 0
  | x :: r => uptoBulkEntry x + uptoBulkEntries r
def uptoBulkEntry {H : Type} : Lit × DataW H → Nat
  | (.string bytes, d) => bytes.length + uptoBulk d + 1
  | (_, d) => uptoBulk d + 1
 end
def uptoSmall : (H : Type) → List (DataW H) → Bool := fun _ ds => decide (uptoBulkAll ds ≤ 1048576)
def OpenSpec.upto (s : _root_.Go.ChangeSpec) : _root_.Go.OpenSpec := { _root_.Go.OpenSpec.ofChange s with cond := some uptoSmall }

/-- 'typecaselaw05.SpansNorms', WHERE WHAT IT READS IS OF BULK AT MOST 1048576: true; the input reads as it did. -/
def spansNormsUptoRow : OpenClaim := { program := "ytalhohfhjniapaa", sum := "197fbb4171484d4dd11bf60d0b96b3b5a6cacbd26d9060deb33724611d5744a9", func := "typecase/typecaselaw05.SpansNorms", spec := "spansNorms", recurses := true, apart := false, narrowed := true }
def SpansNormsUptoSaid : Prop := spansNormsUptoRow.holds Try.pinned (OpenSpec.upto spansNormsSpec)

/-- 'typecaselaw05.SpansSwaps', WHERE WHAT IT READS IS OF BULK AT MOST 1048576: true; the input reads as it did. -/
def spansSwapsUptoRow : OpenClaim := { program := "ytalhohfhjniapaa", sum := "197fbb4171484d4dd11bf60d0b96b3b5a6cacbd26d9060deb33724611d5744a9", func := "typecase/typecaselaw05.SpansSwaps", spec := "spansSwaps", recurses := true, apart := false, narrowed := true }
def SpansSwapsUptoSaid : Prop := spansSwapsUptoRow.holds Try.pinned (OpenSpec.upto spansSwapsSpec)

/-- 'typecaselaw05.SpansKeeps', WHERE WHAT IT READS IS OF BULK AT MOST 1048576: true; the input reads as it did. -/
def spansKeepsUptoRow : OpenClaim := { program := "ytalhohfhjniapaa", sum := "197fbb4171484d4dd11bf60d0b96b3b5a6cacbd26d9060deb33724611d5744a9", func := "typecase/typecaselaw05.SpansKeeps", spec := "spansKeeps", recurses := true, apart := false, narrowed := true }
def SpansKeepsUptoSaid : Prop := spansKeepsUptoRow.holds Try.pinned (OpenSpec.upto spansKeepsSpec)

end Rows
end Go.Proofs.Ytalhohfhjniapaa
