/-
  No cell of these rows narrows 'for every input' (looked for: loops, veiled, ifaces, maps, wideKeys, modest, calm, conditions, laid).
  DERIVED. THE GIVEN ROWS OF THIS SEAT. 4 by the template 'for every input the law returns true; each argument reads behind the call as it read before'; 0 by the template 'total and deterministic' (their statements: YtcjmkpkhjhjepaaGreatTotals.lean).
  GIVEN WITH THE SEED: the statements are not yours to turn. If you find one false, say at which input.
  Laid BY PROGRAM, IN A SANDBOX (cutbox-rows.mjs): the forced cells as the released guide's own fill.sh prints them over the translation b76fb7ebb2ae0864… (all of the seat's roots in one cut). By AI agents, Wed Nov 11 2026. No macro, syntax, notation, axiom, sorry.
-/
import Derived.Test.YtcjmkpkhjhjepaaGreatChecked
import GoSem.Claim
import GoSem.ClaimJoined
import GoSem.ClaimMapViews
import Derived.JoinedTies
import Derived.KernelRfl
namespace Go.Proofs.YtcjmkpkhjhjepaaGreat
/- THE CELL 'sum', in the pinned program and in every row, IS THE sha256 OF THE DUMP (.gsa) THAT YtcjmkpkhjhjepaaGreatProg.lean LOADS. Nothing in Lean hashes anything: it is a label: what it is worth is what the hold of that sum in a sandbox is worth. -/
noncomputable def Tryz.pinned : Pinned := { name := "ytcjmkpkhjhjepaagreat", sum := "b76fb7ebb2ae0864018aa6b4502b2f4301755ef81a469be0de0e1f4e1de5c018", checked := Tryz.checked }
namespace Rows
def none {H : Type} : Left H := { results := [], args := [] }

/-- 'typecaselaw35.PosOnce': WHATEVER THE INPUT: true; the input reads as it did. -/
def posOnceSpec : ChangeSpec := { name := "posOnce", fn := fun _ => fun
  | [d1, d2, d3] => { results := [.lit (.bool true)], args := [d1, d2, d3] }
  | _ => none }
def posOnceRow : OpenClaim := { program := "ytcjmkpkhjhjepaagreat", sum := "b76fb7ebb2ae0864018aa6b4502b2f4301755ef81a469be0de0e1f4e1de5c018", func := "typecase/typecaselaw35.PosOnce", spec := "posOnce", unfollowed := true, recurses := true, apart := false }
def PosOnceSaid : Prop := posOnceRow.holds Tryz.pinned (OpenSpec.ofChange posOnceSpec)

/-- ITS FALSE NEIGHBOUR: 'it returns false'. Refute it at one input. -/
def posOnceWrong : ChangeSpec := { name := "posOnce", fn := fun _ => fun
  | [d1, d2, d3] => { results := [.lit (.bool false)], args := [d1, d2, d3] }
  | _ => none }
def PosOnceWrongFalsely : Prop := posOnceRow.holds Tryz.pinned (OpenSpec.ofChange posOnceWrong)

/-- 'typecaselaw35.PosLookup': WHATEVER THE INPUT: true; the input reads as it did. -/
def posLookupSpec : ChangeSpec := { name := "posLookup", fn := fun _ => fun
  | [d1, d2, d3] => { results := [.lit (.bool true)], args := [d1, d2, d3] }
  | _ => none }
def posLookupRow : OpenClaim := { program := "ytcjmkpkhjhjepaagreat", sum := "b76fb7ebb2ae0864018aa6b4502b2f4301755ef81a469be0de0e1f4e1de5c018", func := "typecase/typecaselaw35.PosLookup", spec := "posLookup", unfollowed := true, recurses := true, apart := false }
def PosLookupSaid : Prop := posLookupRow.holds Tryz.pinned (OpenSpec.ofChange posLookupSpec)

/-- ITS FALSE NEIGHBOUR: 'it returns false'. Refute it at one input. -/
def posLookupWrong : ChangeSpec := { name := "posLookup", fn := fun _ => fun
  | [d1, d2, d3] => { results := [.lit (.bool false)], args := [d1, d2, d3] }
  | _ => none }
def PosLookupWrongFalsely : Prop := posLookupRow.holds Tryz.pinned (OpenSpec.ofChange posLookupWrong)

/-- 'typecaselaw35.PosAll': WHATEVER THE INPUT: true; the input reads as it did. -/
def posAllSpec : ChangeSpec := { name := "posAll", fn := fun _ => fun
  | [d1, d2, d3] => { results := [.lit (.bool true)], args := [d1, d2, d3] }
  | _ => none }
def posAllRow : OpenClaim := { program := "ytcjmkpkhjhjepaagreat", sum := "b76fb7ebb2ae0864018aa6b4502b2f4301755ef81a469be0de0e1f4e1de5c018", func := "typecase/typecaselaw35.PosAll", spec := "posAll", unfollowed := true, recurses := true, apart := false }
def PosAllSaid : Prop := posAllRow.holds Tryz.pinned (OpenSpec.ofChange posAllSpec)

/-- ITS FALSE NEIGHBOUR: 'it returns false'. Refute it at one input. -/
def posAllWrong : ChangeSpec := { name := "posAll", fn := fun _ => fun
  | [d1, d2, d3] => { results := [.lit (.bool false)], args := [d1, d2, d3] }
  | _ => none }
def PosAllWrongFalsely : Prop := posAllRow.holds Tryz.pinned (OpenSpec.ofChange posAllWrong)

/-- 'typecaselaw35.PosQuiet': WHATEVER THE INPUT: true; the input reads as it did. -/
def posQuietSpec : ChangeSpec := { name := "posQuiet", fn := fun _ => fun
  | [d1, d2, d3] => { results := [.lit (.bool true)], args := [d1, d2, d3] }
  | _ => none }
def posQuietRow : OpenClaim := { program := "ytcjmkpkhjhjepaagreat", sum := "b76fb7ebb2ae0864018aa6b4502b2f4301755ef81a469be0de0e1f4e1de5c018", func := "typecase/typecaselaw35.PosQuiet", spec := "posQuiet", unfollowed := true, recurses := true, apart := false }
def PosQuietSaid : Prop := posQuietRow.holds Tryz.pinned (OpenSpec.ofChange posQuietSpec)

/-- ITS FALSE NEIGHBOUR: 'it returns false'. Refute it at one input. -/
def posQuietWrong : ChangeSpec := { name := "posQuiet", fn := fun _ => fun
  | [d1, d2, d3] => { results := [.lit (.bool false)], args := [d1, d2, d3] }
  | _ => none }
def PosQuietWrongFalsely : Prop := posQuietRow.holds Tryz.pinned (OpenSpec.ofChange posQuietWrong)

/- THE SECOND FORM. 'bulk': how many values and letters a reading holds, each counted each time it is reached (what is shared counts as often as it is met; a slice's spare places count too). A statement '..UptoSaid' is the law's where the arguments, and the package variables that the reading takes, are together of bulk at most 1048576: NARROWER than '..Said'. Prove '..Said' where nothing that the law and all that it calls make is longer than what came in: it says more and counts as full. Else prove '..UptoSaid'. A law counts once. -/
mutual
def uptoBulk {H : Type} : DataW H → Nat
  | .lit (.string bytes) => bytes.length + 1
  | .lit _ => 1
  | .nil => 1
  | .ptr d => uptoBulk d + 1
  | .slice elems spare => uptoBulkAll elems + uptoBulkAll spare + 1
  | .agg parts => uptoBulkAll parts + 1
  | .iface _ d => uptoBulk d + 1
  | .map entries => uptoBulkEntries entries + 1
  | .held _ => 1
def uptoBulkAll {H : Type} : List (DataW H) → Nat
  | [] => 0
  | d :: r => uptoBulk d + uptoBulkAll r
def uptoBulkEntries {H : Type} : List (Lit × DataW H) → Nat
  | [] => 0
  | x :: r => uptoBulkEntry x + uptoBulkEntries r
def uptoBulkEntry {H : Type} : Lit × DataW H → Nat
  | (.string bytes, d) => bytes.length + uptoBulk d + 1
  | (_, d) => uptoBulk d + 1
 end
def uptoSmall : (H : Type) → List (DataW H) → Bool := fun _ ds => decide (uptoBulkAll ds ≤ 1048576)
def OpenSpec.upto (s : _root_.Go.ChangeSpec) : _root_.Go.OpenSpec := { _root_.Go.OpenSpec.ofChange s with cond := some uptoSmall }

/-- 'typecaselaw35.PosOnce', WHERE WHAT IT READS IS OF BULK AT MOST 1048576: true; the input reads as it did. -/
def posOnceUptoRow : OpenClaim := { program := "ytcjmkpkhjhjepaagreat", sum := "b76fb7ebb2ae0864018aa6b4502b2f4301755ef81a469be0de0e1f4e1de5c018", func := "typecase/typecaselaw35.PosOnce", spec := "posOnce", unfollowed := true, recurses := true, apart := false, narrowed := true }
def PosOnceUptoSaid : Prop := posOnceUptoRow.holds Tryz.pinned (OpenSpec.upto posOnceSpec)

/-- 'typecaselaw35.PosLookup', WHERE WHAT IT READS IS OF BULK AT MOST 1048576: true; the input reads as it did. -/
def posLookupUptoRow : OpenClaim := { program := "ytcjmkpkhjhjepaagreat", sum := "b76fb7ebb2ae0864018aa6b4502b2f4301755ef81a469be0de0e1f4e1de5c018", func := "typecase/typecaselaw35.PosLookup", spec := "posLookup", unfollowed := true, recurses := true, apart := false, narrowed := true }
def PosLookupUptoSaid : Prop := posLookupUptoRow.holds Tryz.pinned (OpenSpec.upto posLookupSpec)

/-- 'typecaselaw35.PosAll', WHERE WHAT IT READS IS OF BULK AT MOST 1048576: true; the input reads as it did. -/
def posAllUptoRow : OpenClaim := { program := "ytcjmkpkhjhjepaagreat", sum := "b76fb7ebb2ae0864018aa6b4502b2f4301755ef81a469be0de0e1f4e1de5c018", func := "typecase/typecaselaw35.PosAll", spec := "posAll", unfollowed := true, recurses := true, apart := false, narrowed := true }
def PosAllUptoSaid : Prop := posAllUptoRow.holds Tryz.pinned (OpenSpec.upto posAllSpec)

/-- 'typecaselaw35.PosQuiet', WHERE WHAT IT READS IS OF BULK AT MOST 1048576: true; the input reads as it did. -/
def posQuietUptoRow : OpenClaim := { program := "ytcjmkpkhjhjepaagreat", sum := "b76fb7ebb2ae0864018aa6b4502b2f4301755ef81a469be0de0e1f4e1de5c018", func := "typecase/typecaselaw35.PosQuiet", spec := "posQuiet", unfollowed := true, recurses := true, apart := false, narrowed := true }
def PosQuietUptoSaid : Prop := posQuietUptoRow.holds Tryz.pinned (OpenSpec.upto posQuietSpec)

end Rows
end Go.Proofs.YtcjmkpkhjhjepaaGreat
