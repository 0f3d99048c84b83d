/-
  No cell of these rows narrows 'for every input' (looked for: loops, veiled, ifaces, maps, wideKeys, modest, calm, conditions, laid).
  DERIVED. THE GIVEN ROWS OF THIS SEAT. 7 by the template 'for every input the law returns true; each argument reads behind the call as it read before'; 0 by the template 'total and deterministic' (their statements: YtcjmkpkhjhjepaaTotals.lean).
  GIVEN WITH THE SEED: the statements are not yours to turn. If you find one false, say at which input.
  Laid BY PROGRAM, IN A SANDBOX (cutbox-rows.mjs): the forced cells as the released guide's own fill.sh prints them over the translation 4828fe77591a337f… (all of the seat's roots in one cut). By AI agents, Wed Nov 11 2026. No macro, syntax, notation, axiom, sorry.
-/
import Derived.Test.YtcjmkpkhjhjepaaChecked
import GoSem.Claim
import GoSem.ClaimJoined
import GoSem.ClaimMapViews
import Derived.JoinedTies
import Derived.KernelRfl
namespace Go.Proofs.Ytcjmkpkhjhjepaa
/- THE CELL 'sum', in the pinned program and in every row, IS THE sha256 OF THE DUMP (.gsa) THAT YtcjmkpkhjhjepaaProg.lean LOADS. Nothing in Lean hashes anything: it is a label: what it is worth is what the hold of that sum in a sandbox is worth. -/
noncomputable def Try.pinned : Pinned := { name := "ytcjmkpkhjhjepaa", sum := "4828fe77591a337fe155ade93ceaac7696a30c894d2678f320e7a77aa12caab4", checked := Try.checked }
namespace Rows
def none {H : Type} : Left H := { results := [], args := [] }

/-- 'typecaselaw33.CursiveFinds': WHATEVER THE INPUT: true; the input reads as it did. -/
def cursiveFindsSpec : ChangeSpec := { name := "cursiveFinds", fn := fun _ => fun
  | [d1, d2, d3] => { results := [.lit (.bool true)], args := [d1, d2, d3] }
  | _ => none }
def cursiveFindsRow : OpenClaim := { program := "ytcjmkpkhjhjepaa", sum := "4828fe77591a337fe155ade93ceaac7696a30c894d2678f320e7a77aa12caab4", func := "typecase/typecaselaw33.CursiveFinds", spec := "cursiveFinds", unfollowed := true, recurses := true, apart := false }
def CursiveFindsSaid : Prop := cursiveFindsRow.holds Try.pinned (OpenSpec.ofChange cursiveFindsSpec)

/-- ITS FALSE NEIGHBOUR: 'it returns false'. Refute it at one input. -/
def cursiveFindsWrong : ChangeSpec := { name := "cursiveFinds", fn := fun _ => fun
  | [d1, d2, d3] => { results := [.lit (.bool false)], args := [d1, d2, d3] }
  | _ => none }
def CursiveFindsWrongFalsely : Prop := cursiveFindsRow.holds Try.pinned (OpenSpec.ofChange cursiveFindsWrong)

/-- 'typecaselaw33.CursiveDoes': WHATEVER THE INPUT: true; the input reads as it did. -/
def cursiveDoesSpec : ChangeSpec := { name := "cursiveDoes", fn := fun _ => fun
  | [d1, d2, d3] => { results := [.lit (.bool true)], args := [d1, d2, d3] }
  | _ => none }
def cursiveDoesRow : OpenClaim := { program := "ytcjmkpkhjhjepaa", sum := "4828fe77591a337fe155ade93ceaac7696a30c894d2678f320e7a77aa12caab4", func := "typecase/typecaselaw33.CursiveDoes", spec := "cursiveDoes", unfollowed := true, recurses := true, apart := false }
def CursiveDoesSaid : Prop := cursiveDoesRow.holds Try.pinned (OpenSpec.ofChange cursiveDoesSpec)

/-- ITS FALSE NEIGHBOUR: 'it returns false'. Refute it at one input. -/
def cursiveDoesWrong : ChangeSpec := { name := "cursiveDoes", fn := fun _ => fun
  | [d1, d2, d3] => { results := [.lit (.bool false)], args := [d1, d2, d3] }
  | _ => none }
def CursiveDoesWrongFalsely : Prop := cursiveDoesRow.holds Try.pinned (OpenSpec.ofChange cursiveDoesWrong)

/-- 'typecaselaw33.CursiveKeeps': WHATEVER THE INPUT: true; the input reads as it did. -/
def cursiveKeepsSpec : ChangeSpec := { name := "cursiveKeeps", fn := fun _ => fun
  | [d1, d2, d3] => { results := [.lit (.bool true)], args := [d1, d2, d3] }
  | _ => none }
def cursiveKeepsRow : OpenClaim := { program := "ytcjmkpkhjhjepaa", sum := "4828fe77591a337fe155ade93ceaac7696a30c894d2678f320e7a77aa12caab4", func := "typecase/typecaselaw33.CursiveKeeps", spec := "cursiveKeeps", unfollowed := true, recurses := true, apart := false }
def CursiveKeepsSaid : Prop := cursiveKeepsRow.holds Try.pinned (OpenSpec.ofChange cursiveKeepsSpec)

/-- ITS FALSE NEIGHBOUR: 'it returns false'. Refute it at one input. -/
def cursiveKeepsWrong : ChangeSpec := { name := "cursiveKeeps", fn := fun _ => fun
  | [d1, d2, d3] => { results := [.lit (.bool false)], args := [d1, d2, d3] }
  | _ => none }
def CursiveKeepsWrongFalsely : Prop := cursiveKeepsRow.holds Try.pinned (OpenSpec.ofChange cursiveKeepsWrong)

/-- 'typecaselaw30.ReverseDoes': WHATEVER THE INPUT: true; the input reads as it did. -/
def reverseDoesSpec : ChangeSpec := { name := "reverseDoes", fn := fun _ => fun
  | [d1, d2, d3] => { results := [.lit (.bool true)], args := [d1, d2, d3] }
  | _ => none }
def reverseDoesRow : OpenClaim := { program := "ytcjmkpkhjhjepaa", sum := "4828fe77591a337fe155ade93ceaac7696a30c894d2678f320e7a77aa12caab4", func := "typecase/typecaselaw30.ReverseDoes", spec := "reverseDoes", unfollowed := true, recurses := true, apart := false }
def ReverseDoesSaid : Prop := reverseDoesRow.holds Try.pinned (OpenSpec.ofChange reverseDoesSpec)

/-- ITS FALSE NEIGHBOUR: 'it returns false'. Refute it at one input. -/
def reverseDoesWrong : ChangeSpec := { name := "reverseDoes", fn := fun _ => fun
  | [d1, d2, d3] => { results := [.lit (.bool false)], args := [d1, d2, d3] }
  | _ => none }
def ReverseDoesWrongFalsely : Prop := reverseDoesRow.holds Try.pinned (OpenSpec.ofChange reverseDoesWrong)

/-- 'typecaselaw30.ReverseAll': WHATEVER THE INPUT: true; the input reads as it did. -/
def reverseAllSpec : ChangeSpec := { name := "reverseAll", fn := fun _ => fun
  | [d1, d2, d3] => { results := [.lit (.bool true)], args := [d1, d2, d3] }
  | _ => none }
def reverseAllRow : OpenClaim := { program := "ytcjmkpkhjhjepaa", sum := "4828fe77591a337fe155ade93ceaac7696a30c894d2678f320e7a77aa12caab4", func := "typecase/typecaselaw30.ReverseAll", spec := "reverseAll", unfollowed := true, recurses := true, apart := false }
def ReverseAllSaid : Prop := reverseAllRow.holds Try.pinned (OpenSpec.ofChange reverseAllSpec)

/-- ITS FALSE NEIGHBOUR: 'it returns false'. Refute it at one input. -/
def reverseAllWrong : ChangeSpec := { name := "reverseAll", fn := fun _ => fun
  | [d1, d2, d3] => { results := [.lit (.bool false)], args := [d1, d2, d3] }
  | _ => none }
def ReverseAllWrongFalsely : Prop := reverseAllRow.holds Try.pinned (OpenSpec.ofChange reverseAllWrong)

/-- 'typecaselaw30.ReverseKeeps': WHATEVER THE INPUT: true; the input reads as it did. -/
def reverseKeepsSpec : ChangeSpec := { name := "reverseKeeps", fn := fun _ => fun
  | [d1, d2, d3] => { results := [.lit (.bool true)], args := [d1, d2, d3] }
  | _ => none }
def reverseKeepsRow : OpenClaim := { program := "ytcjmkpkhjhjepaa", sum := "4828fe77591a337fe155ade93ceaac7696a30c894d2678f320e7a77aa12caab4", func := "typecase/typecaselaw30.ReverseKeeps", spec := "reverseKeeps", unfollowed := true, recurses := true, apart := false }
def ReverseKeepsSaid : Prop := reverseKeepsRow.holds Try.pinned (OpenSpec.ofChange reverseKeepsSpec)

/-- ITS FALSE NEIGHBOUR: 'it returns false'. Refute it at one input. -/
def reverseKeepsWrong : ChangeSpec := { name := "reverseKeeps", fn := fun _ => fun
  | [d1, d2, d3] => { results := [.lit (.bool false)], args := [d1, d2, d3] }
  | _ => none }
def ReverseKeepsWrongFalsely : Prop := reverseKeepsRow.holds Try.pinned (OpenSpec.ofChange reverseKeepsWrong)

/-- 'typecaselaw35.PosKeeps': WHATEVER THE INPUT: true; the input reads as it did. -/
def posKeepsSpec : ChangeSpec := { name := "posKeeps", fn := fun _ => fun
  | [d1, d2, d3] => { results := [.lit (.bool true)], args := [d1, d2, d3] }
  | _ => none }
def posKeepsRow : OpenClaim := { program := "ytcjmkpkhjhjepaa", sum := "4828fe77591a337fe155ade93ceaac7696a30c894d2678f320e7a77aa12caab4", func := "typecase/typecaselaw35.PosKeeps", spec := "posKeeps", unfollowed := true, recurses := true, apart := false }
def PosKeepsSaid : Prop := posKeepsRow.holds Try.pinned (OpenSpec.ofChange posKeepsSpec)

/-- ITS FALSE NEIGHBOUR: 'it returns false'. Refute it at one input. -/
def posKeepsWrong : ChangeSpec := { name := "posKeeps", fn := fun _ => fun
  | [d1, d2, d3] => { results := [.lit (.bool false)], args := [d1, d2, d3] }
  | _ => none }
def PosKeepsWrongFalsely : Prop := posKeepsRow.holds Try.pinned (OpenSpec.ofChange posKeepsWrong)

/- THE SECOND FORM. 'bulk': how many values and letters a reading holds, each counted each time it is reached (what is shared counts as often as it is met; a slice's spare places count too). A statement '..UptoSaid' is the law's where the arguments, and the package variables that the reading takes, are together of bulk at most 1048576: NARROWER than '..Said'. Prove '..Said' where nothing that the law and all that it calls make is longer than what came in: it says more and counts as full. Else prove '..UptoSaid'. A law counts once. -/
mutual
def uptoBulk {H : Type} : DataW H → Nat
  | .lit (.string bytes) => bytes.length + 1
  | .lit _ => 1
  | .nil => 1
  | .ptr d => uptoBulk d + 1
  | .slice elems spare => uptoBulkAll elems + uptoBulkAll spare + 1
  | .agg parts => uptoBulkAll parts + 1
  | .iface _ d => uptoBulk d + 1
  | .map entries => uptoBulkEntries entries + 1
  | .held _ => 1
def uptoBulkAll {H : Type} : List (DataW H) → Nat
  | [] => 0
  | d :: r => uptoBulk d + uptoBulkAll r
def uptoBulkEntries {H : Type} : List (Lit × DataW H) → Nat
  | [] => 0
  | x :: r => uptoBulkEntry x + uptoBulkEntries r
def uptoBulkEntry {H : Type} : Lit × DataW H → Nat
  | (.string bytes, d) => bytes.length + uptoBulk d + 1
  | (_, d) => uptoBulk d + 1
 end
def uptoSmall : (H : Type) → List (DataW H) → Bool := fun _ ds => decide (uptoBulkAll ds ≤ 1048576)
def OpenSpec.upto (s : _root_.Go.ChangeSpec) : _root_.Go.OpenSpec := { _root_.Go.OpenSpec.ofChange s with cond := some uptoSmall }

/-- 'typecaselaw33.CursiveFinds', WHERE WHAT IT READS IS OF BULK AT MOST 1048576: true; the input reads as it did. -/
def cursiveFindsUptoRow : OpenClaim := { program := "ytcjmkpkhjhjepaa", sum := "4828fe77591a337fe155ade93ceaac7696a30c894d2678f320e7a77aa12caab4", func := "typecase/typecaselaw33.CursiveFinds", spec := "cursiveFinds", unfollowed := true, recurses := true, apart := false, narrowed := true }
def CursiveFindsUptoSaid : Prop := cursiveFindsUptoRow.holds Try.pinned (OpenSpec.upto cursiveFindsSpec)

/-- 'typecaselaw33.CursiveDoes', WHERE WHAT IT READS IS OF BULK AT MOST 1048576: true; the input reads as it did. -/
def cursiveDoesUptoRow : OpenClaim := { program := "ytcjmkpkhjhjepaa", sum := "4828fe77591a337fe155ade93ceaac7696a30c894d2678f320e7a77aa12caab4", func := "typecase/typecaselaw33.CursiveDoes", spec := "cursiveDoes", unfollowed := true, recurses := true, apart := false, narrowed := true }
def CursiveDoesUptoSaid : Prop := cursiveDoesUptoRow.holds Try.pinned (OpenSpec.upto cursiveDoesSpec)

/-- 'typecaselaw33.CursiveKeeps', WHERE WHAT IT READS IS OF BULK AT MOST 1048576: true; the input reads as it did. -/
def cursiveKeepsUptoRow : OpenClaim := { program := "ytcjmkpkhjhjepaa", sum := "4828fe77591a337fe155ade93ceaac7696a30c894d2678f320e7a77aa12caab4", func := "typecase/typecaselaw33.CursiveKeeps", spec := "cursiveKeeps", unfollowed := true, recurses := true, apart := false, narrowed := true }
def CursiveKeepsUptoSaid : Prop := cursiveKeepsUptoRow.holds Try.pinned (OpenSpec.upto cursiveKeepsSpec)

/-- 'typecaselaw30.ReverseDoes', WHERE WHAT IT READS IS OF BULK AT MOST 1048576: true; the input reads as it did. -/
def reverseDoesUptoRow : OpenClaim := { program := "ytcjmkpkhjhjepaa", sum := "4828fe77591a337fe155ade93ceaac7696a30c894d2678f320e7a77aa12caab4", func := "typecase/typecaselaw30.ReverseDoes", spec := "reverseDoes", unfollowed := true, recurses := true, apart := false, narrowed := true }
def ReverseDoesUptoSaid : Prop := reverseDoesUptoRow.holds Try.pinned (OpenSpec.upto reverseDoesSpec)

/-- 'typecaselaw30.ReverseAll', WHERE WHAT IT READS IS OF BULK AT MOST 1048576: true; the input reads as it did. -/
def reverseAllUptoRow : OpenClaim := { program := "ytcjmkpkhjhjepaa", sum := "4828fe77591a337fe155ade93ceaac7696a30c894d2678f320e7a77aa12caab4", func := "typecase/typecaselaw30.ReverseAll", spec := "reverseAll", unfollowed := true, recurses := true, apart := false, narrowed := true }
def ReverseAllUptoSaid : Prop := reverseAllUptoRow.holds Try.pinned (OpenSpec.upto reverseAllSpec)

/-- 'typecaselaw30.ReverseKeeps', WHERE WHAT IT READS IS OF BULK AT MOST 1048576: true; the input reads as it did. -/
def reverseKeepsUptoRow : OpenClaim := { program := "ytcjmkpkhjhjepaa", sum := "4828fe77591a337fe155ade93ceaac7696a30c894d2678f320e7a77aa12caab4", func := "typecase/typecaselaw30.ReverseKeeps", spec := "reverseKeeps", unfollowed := true, recurses := true, apart := false, narrowed := true }
def ReverseKeepsUptoSaid : Prop := reverseKeepsUptoRow.holds Try.pinned (OpenSpec.upto reverseKeepsSpec)

/-- 'typecaselaw35.PosKeeps', WHERE WHAT IT READS IS OF BULK AT MOST 1048576: true; the input reads as it did. -/
def posKeepsUptoRow : OpenClaim := { program := "ytcjmkpkhjhjepaa", sum := "4828fe77591a337fe155ade93ceaac7696a30c894d2678f320e7a77aa12caab4", func := "typecase/typecaselaw35.PosKeeps", spec := "posKeeps", unfollowed := true, recurses := true, apart := false, narrowed := true }
def PosKeepsUptoSaid : Prop := posKeepsUptoRow.holds Try.pinned (OpenSpec.upto posKeepsSpec)

end Rows
end Go.Proofs.Ytcjmkpkhjhjepaa
