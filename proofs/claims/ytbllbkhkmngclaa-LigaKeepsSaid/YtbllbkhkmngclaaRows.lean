/-
  No cell of these rows narrows 'for every input' (looked for: loops, veiled, ifaces, maps, wideKeys, modest, calm, conditions, laid).
  DERIVED. THE GIVEN ROWS OF THIS SEAT. 10 by the template 'for every input the law returns true; each argument reads behind the call as it read before'; 0 by the template 'total and deterministic' (their statements: YtbllbkhkmngclaaTotals.lean).
  GIVEN WITH THE SEED: the statements are not yours to turn. If you find one false, say at which input.
  Laid BY PROGRAM, IN A SANDBOX (cutbox-rows.mjs): the forced cells as the released guide's own fill.sh prints them over the translation 1741c6bad6640f14… (all of the seat's roots in one cut). By AI agents, Wed Nov 11 2026. No macro, syntax, notation, axiom, sorry.
-/
import Derived.Test.YtbllbkhkmngclaaChecked
import GoSem.Claim
import GoSem.ClaimJoined
import GoSem.ClaimMapViews
import Derived.JoinedTies
import Derived.KernelRfl
namespace Go.Proofs.Ytbllbkhkmngclaa
/- THE CELL 'sum', in the pinned program and in every row, IS THE sha256 OF THE DUMP (.gsa) THAT YtbllbkhkmngclaaProg.lean LOADS. Nothing in Lean hashes anything: it is a label: what it is worth is what the hold of that sum in a sandbox is worth. -/
noncomputable def Try.pinned : Pinned := { name := "ytbllbkhkmngclaa", sum := "1741c6bad6640f14971c615f319c3b49e2ef5444e53a1382060c9b4d0fa2adbd", checked := Try.checked }
namespace Rows
def none {H : Type} : Left H := { results := [], args := [] }

/-- 'typecaselaw34.MarksHosts': WHATEVER THE INPUT: true; the input reads as it did. -/
def marksHostsSpec : ChangeSpec := { name := "marksHosts", fn := fun _ => fun
  | [d1, d2, d3, d4] => { results := [.lit (.bool true)], args := [d1, d2, d3, d4] }
  | _ => none }
def marksHostsRow : OpenClaim := { program := "ytbllbkhkmngclaa", sum := "1741c6bad6640f14971c615f319c3b49e2ef5444e53a1382060c9b4d0fa2adbd", func := "typecase/typecaselaw34.MarksHosts", spec := "marksHosts", unfollowed := true, recurses := true, apart := false }
def MarksHostsSaid : Prop := marksHostsRow.holds Try.pinned (OpenSpec.ofChange marksHostsSpec)

/-- ITS FALSE NEIGHBOUR: 'it returns false'. Refute it at one input. -/
def marksHostsWrong : ChangeSpec := { name := "marksHosts", fn := fun _ => fun
  | [d1, d2, d3, d4] => { results := [.lit (.bool false)], args := [d1, d2, d3, d4] }
  | _ => none }
def MarksHostsWrongFalsely : Prop := marksHostsRow.holds Try.pinned (OpenSpec.ofChange marksHostsWrong)

/-- 'typecaselaw34.MarksAnchors': WHATEVER THE INPUT: true; the input reads as it did. -/
def marksAnchorsSpec : ChangeSpec := { name := "marksAnchors", fn := fun _ => fun
  | [d1, d2, d3, d4, d5] => { results := [.lit (.bool true)], args := [d1, d2, d3, d4, d5] }
  | _ => none }
def marksAnchorsRow : OpenClaim := { program := "ytbllbkhkmngclaa", sum := "1741c6bad6640f14971c615f319c3b49e2ef5444e53a1382060c9b4d0fa2adbd", func := "typecase/typecaselaw34.MarksAnchors", spec := "marksAnchors", unfollowed := true, recurses := true, apart := false }
def MarksAnchorsSaid : Prop := marksAnchorsRow.holds Try.pinned (OpenSpec.ofChange marksAnchorsSpec)

/-- ITS FALSE NEIGHBOUR: 'it returns false'. Refute it at one input. -/
def marksAnchorsWrong : ChangeSpec := { name := "marksAnchors", fn := fun _ => fun
  | [d1, d2, d3, d4, d5] => { results := [.lit (.bool false)], args := [d1, d2, d3, d4, d5] }
  | _ => none }
def MarksAnchorsWrongFalsely : Prop := marksAnchorsRow.holds Try.pinned (OpenSpec.ofChange marksAnchorsWrong)

/-- 'typecaselaw34.MarksApplies': WHATEVER THE INPUT: true; the input reads as it did. -/
def marksAppliesSpec : ChangeSpec := { name := "marksApplies", fn := fun _ => fun
  | [d1, d2, d3, d4] => { results := [.lit (.bool true)], args := [d1, d2, d3, d4] }
  | _ => none }
def marksAppliesRow : OpenClaim := { program := "ytbllbkhkmngclaa", sum := "1741c6bad6640f14971c615f319c3b49e2ef5444e53a1382060c9b4d0fa2adbd", func := "typecase/typecaselaw34.MarksApplies", spec := "marksApplies", unfollowed := true, recurses := true, apart := false }
def MarksAppliesSaid : Prop := marksAppliesRow.holds Try.pinned (OpenSpec.ofChange marksAppliesSpec)

/-- ITS FALSE NEIGHBOUR: 'it returns false'. Refute it at one input. -/
def marksAppliesWrong : ChangeSpec := { name := "marksApplies", fn := fun _ => fun
  | [d1, d2, d3, d4] => { results := [.lit (.bool false)], args := [d1, d2, d3, d4] }
  | _ => none }
def MarksAppliesWrongFalsely : Prop := marksAppliesRow.holds Try.pinned (OpenSpec.ofChange marksAppliesWrong)

/-- 'typecaselaw34.MarksKeep': WHATEVER THE INPUT: true; the input reads as it did. -/
def marksKeepSpec : ChangeSpec := { name := "marksKeep", fn := fun _ => fun
  | [d1, d2, d3, d4] => { results := [.lit (.bool true)], args := [d1, d2, d3, d4] }
  | _ => none }
def marksKeepRow : OpenClaim := { program := "ytbllbkhkmngclaa", sum := "1741c6bad6640f14971c615f319c3b49e2ef5444e53a1382060c9b4d0fa2adbd", func := "typecase/typecaselaw34.MarksKeep", spec := "marksKeep", unfollowed := true, recurses := true, apart := false }
def MarksKeepSaid : Prop := marksKeepRow.holds Try.pinned (OpenSpec.ofChange marksKeepSpec)

/-- ITS FALSE NEIGHBOUR: 'it returns false'. Refute it at one input. -/
def marksKeepWrong : ChangeSpec := { name := "marksKeep", fn := fun _ => fun
  | [d1, d2, d3, d4] => { results := [.lit (.bool false)], args := [d1, d2, d3, d4] }
  | _ => none }
def MarksKeepWrongFalsely : Prop := marksKeepRow.holds Try.pinned (OpenSpec.ofChange marksKeepWrong)

/-- 'typecaselaw29.ContextApplies': WHATEVER THE INPUT: true; the input reads as it did. -/
def contextAppliesSpec : ChangeSpec := { name := "contextApplies", fn := fun _ => fun
  | [d1, d2, d3] => { results := [.lit (.bool true)], args := [d1, d2, d3] }
  | _ => none }
def contextAppliesRow : OpenClaim := { program := "ytbllbkhkmngclaa", sum := "1741c6bad6640f14971c615f319c3b49e2ef5444e53a1382060c9b4d0fa2adbd", func := "typecase/typecaselaw29.ContextApplies", spec := "contextApplies", unfollowed := true, recurses := true, apart := false }
def ContextAppliesSaid : Prop := contextAppliesRow.holds Try.pinned (OpenSpec.ofChange contextAppliesSpec)

/-- ITS FALSE NEIGHBOUR: 'it returns false'. Refute it at one input. -/
def contextAppliesWrong : ChangeSpec := { name := "contextApplies", fn := fun _ => fun
  | [d1, d2, d3] => { results := [.lit (.bool false)], args := [d1, d2, d3] }
  | _ => none }
def ContextAppliesWrongFalsely : Prop := contextAppliesRow.holds Try.pinned (OpenSpec.ofChange contextAppliesWrong)

/-- 'typecaselaw29.ContextRises': WHATEVER THE INPUT: true; the input reads as it did. -/
def contextRisesSpec : ChangeSpec := { name := "contextRises", fn := fun _ => fun
  | [d1, d2, d3] => { results := [.lit (.bool true)], args := [d1, d2, d3] }
  | _ => none }
def contextRisesRow : OpenClaim := { program := "ytbllbkhkmngclaa", sum := "1741c6bad6640f14971c615f319c3b49e2ef5444e53a1382060c9b4d0fa2adbd", func := "typecase/typecaselaw29.ContextRises", spec := "contextRises", unfollowed := true, recurses := true, apart := false }
def ContextRisesSaid : Prop := contextRisesRow.holds Try.pinned (OpenSpec.ofChange contextRisesSpec)

/-- ITS FALSE NEIGHBOUR: 'it returns false'. Refute it at one input. -/
def contextRisesWrong : ChangeSpec := { name := "contextRises", fn := fun _ => fun
  | [d1, d2, d3] => { results := [.lit (.bool false)], args := [d1, d2, d3] }
  | _ => none }
def ContextRisesWrongFalsely : Prop := contextRisesRow.holds Try.pinned (OpenSpec.ofChange contextRisesWrong)

/-- 'typecaselaw28.LigaFinds': WHATEVER THE INPUT: true; the input reads as it did. -/
def ligaFindsSpec : ChangeSpec := { name := "ligaFinds", fn := fun _ => fun
  | [d1, d2, d3, d4] => { results := [.lit (.bool true)], args := [d1, d2, d3, d4] }
  | _ => none }
def ligaFindsRow : OpenClaim := { program := "ytbllbkhkmngclaa", sum := "1741c6bad6640f14971c615f319c3b49e2ef5444e53a1382060c9b4d0fa2adbd", func := "typecase/typecaselaw28.LigaFinds", spec := "ligaFinds", unfollowed := true, recurses := true, apart := false }
def LigaFindsSaid : Prop := ligaFindsRow.holds Try.pinned (OpenSpec.ofChange ligaFindsSpec)

/-- ITS FALSE NEIGHBOUR: 'it returns false'. Refute it at one input. -/
def ligaFindsWrong : ChangeSpec := { name := "ligaFinds", fn := fun _ => fun
  | [d1, d2, d3, d4] => { results := [.lit (.bool false)], args := [d1, d2, d3, d4] }
  | _ => none }
def LigaFindsWrongFalsely : Prop := ligaFindsRow.holds Try.pinned (OpenSpec.ofChange ligaFindsWrong)

/-- 'typecaselaw28.LigaApplies': WHATEVER THE INPUT: true; the input reads as it did. -/
def ligaAppliesSpec : ChangeSpec := { name := "ligaApplies", fn := fun _ => fun
  | [d1, d2, d3, d4] => { results := [.lit (.bool true)], args := [d1, d2, d3, d4] }
  | _ => none }
def ligaAppliesRow : OpenClaim := { program := "ytbllbkhkmngclaa", sum := "1741c6bad6640f14971c615f319c3b49e2ef5444e53a1382060c9b4d0fa2adbd", func := "typecase/typecaselaw28.LigaApplies", spec := "ligaApplies", unfollowed := true, recurses := true, apart := false }
def LigaAppliesSaid : Prop := ligaAppliesRow.holds Try.pinned (OpenSpec.ofChange ligaAppliesSpec)

/-- ITS FALSE NEIGHBOUR: 'it returns false'. Refute it at one input. -/
def ligaAppliesWrong : ChangeSpec := { name := "ligaApplies", fn := fun _ => fun
  | [d1, d2, d3, d4] => { results := [.lit (.bool false)], args := [d1, d2, d3, d4] }
  | _ => none }
def LigaAppliesWrongFalsely : Prop := ligaAppliesRow.holds Try.pinned (OpenSpec.ofChange ligaAppliesWrong)

/-- 'typecaselaw28.LigaKeeps': WHATEVER THE INPUT: true; the input reads as it did. -/
def ligaKeepsSpec : ChangeSpec := { name := "ligaKeeps", fn := fun _ => fun
  | [d1, d2, d3, d4] => { results := [.lit (.bool true)], args := [d1, d2, d3, d4] }
  | _ => none }
def ligaKeepsRow : OpenClaim := { program := "ytbllbkhkmngclaa", sum := "1741c6bad6640f14971c615f319c3b49e2ef5444e53a1382060c9b4d0fa2adbd", func := "typecase/typecaselaw28.LigaKeeps", spec := "ligaKeeps", unfollowed := true, recurses := true, apart := false }
def LigaKeepsSaid : Prop := ligaKeepsRow.holds Try.pinned (OpenSpec.ofChange ligaKeepsSpec)

/-- ITS FALSE NEIGHBOUR: 'it returns false'. Refute it at one input. -/
def ligaKeepsWrong : ChangeSpec := { name := "ligaKeeps", fn := fun _ => fun
  | [d1, d2, d3, d4] => { results := [.lit (.bool false)], args := [d1, d2, d3, d4] }
  | _ => none }
def LigaKeepsWrongFalsely : Prop := ligaKeepsRow.holds Try.pinned (OpenSpec.ofChange ligaKeepsWrong)

/-- 'typecaselaw28.LigaParts': WHATEVER THE INPUT: true; the input reads as it did. -/
def ligaPartsSpec : ChangeSpec := { name := "ligaParts", fn := fun _ => fun
  | [d1, d2] => { results := [.lit (.bool true)], args := [d1, d2] }
  | _ => none }
def ligaPartsRow : OpenClaim := { program := "ytbllbkhkmngclaa", sum := "1741c6bad6640f14971c615f319c3b49e2ef5444e53a1382060c9b4d0fa2adbd", func := "typecase/typecaselaw28.LigaParts", spec := "ligaParts", unfollowed := true, recurses := true, apart := false }
def LigaPartsSaid : Prop := ligaPartsRow.holds Try.pinned (OpenSpec.ofChange ligaPartsSpec)

/-- ITS FALSE NEIGHBOUR: 'it returns false'. Refute it at one input. -/
def ligaPartsWrong : ChangeSpec := { name := "ligaParts", fn := fun _ => fun
  | [d1, d2] => { results := [.lit (.bool false)], args := [d1, d2] }
  | _ => none }
def LigaPartsWrongFalsely : Prop := ligaPartsRow.holds Try.pinned (OpenSpec.ofChange ligaPartsWrong)

/- THE SECOND FORM. 'bulk': how many values and letters a reading holds, each counted each time it is reached (what is shared counts as often as it is met; a slice's spare places count too). A statement '..UptoSaid' is the law's where the arguments, and the package variables that the reading takes, are together of bulk at most 1048576: NARROWER than '..Said'. Prove '..Said' where nothing that the law and all that it calls make is longer than what came in: it says more and counts as full. Else prove '..UptoSaid'. A law counts once. -/
mutual
def uptoBulk {H : Type} : DataW H → Nat
  | .lit (.string bytes) => bytes.length + 1
  | .lit _ => 1
  | .nil => 1
  | .ptr d => uptoBulk d + 1
  | .slice elems spare => uptoBulkAll elems + uptoBulkAll spare + 1
  | .agg parts => uptoBulkAll parts + 1
  | .iface _ d => uptoBulk d + 1
  | .map entries => uptoBulkEntries entries + 1
  | .held _ => 1
def uptoBulkAll {H : Type} : List (DataW H) → Nat
  | [] => 0
  | d :: r => uptoBulk d + uptoBulkAll r
def uptoBulkEntries {H : Type} : List (Lit × DataW H) → Nat
  | [] => 0
  | x :: r => uptoBulkEntry x + uptoBulkEntries r
def uptoBulkEntry {H : Type} : Lit × DataW H → Nat
  | (.string bytes, d) => bytes.length + uptoBulk d + 1
  | (_, d) => uptoBulk d + 1
 end
def uptoSmall : (H : Type) → List (DataW H) → Bool := fun _ ds => decide (uptoBulkAll ds ≤ 1048576)
def OpenSpec.upto (s : _root_.Go.ChangeSpec) : _root_.Go.OpenSpec := { _root_.Go.OpenSpec.ofChange s with cond := some uptoSmall }

/-- 'typecaselaw34.MarksHosts', WHERE WHAT IT READS IS OF BULK AT MOST 1048576: true; the input reads as it did. -/
def marksHostsUptoRow : OpenClaim := { program := "ytbllbkhkmngclaa", sum := "1741c6bad6640f14971c615f319c3b49e2ef5444e53a1382060c9b4d0fa2adbd", func := "typecase/typecaselaw34.MarksHosts", spec := "marksHosts", unfollowed := true, recurses := true, apart := false, narrowed := true }
def MarksHostsUptoSaid : Prop := marksHostsUptoRow.holds Try.pinned (OpenSpec.upto marksHostsSpec)

/-- 'typecaselaw34.MarksAnchors', WHERE WHAT IT READS IS OF BULK AT MOST 1048576: true; the input reads as it did. -/
def marksAnchorsUptoRow : OpenClaim := { program := "ytbllbkhkmngclaa", sum := "1741c6bad6640f14971c615f319c3b49e2ef5444e53a1382060c9b4d0fa2adbd", func := "typecase/typecaselaw34.MarksAnchors", spec := "marksAnchors", unfollowed := true, recurses := true, apart := false, narrowed := true }
def MarksAnchorsUptoSaid : Prop := marksAnchorsUptoRow.holds Try.pinned (OpenSpec.upto marksAnchorsSpec)

/-- 'typecaselaw34.MarksApplies', WHERE WHAT IT READS IS OF BULK AT MOST 1048576: true; the input reads as it did. -/
def marksAppliesUptoRow : OpenClaim := { program := "ytbllbkhkmngclaa", sum := "1741c6bad6640f14971c615f319c3b49e2ef5444e53a1382060c9b4d0fa2adbd", func := "typecase/typecaselaw34.MarksApplies", spec := "marksApplies", unfollowed := true, recurses := true, apart := false, narrowed := true }
def MarksAppliesUptoSaid : Prop := marksAppliesUptoRow.holds Try.pinned (OpenSpec.upto marksAppliesSpec)

/-- 'typecaselaw34.MarksKeep', WHERE WHAT IT READS IS OF BULK AT MOST 1048576: true; the input reads as it did. -/
def marksKeepUptoRow : OpenClaim := { program := "ytbllbkhkmngclaa", sum := "1741c6bad6640f14971c615f319c3b49e2ef5444e53a1382060c9b4d0fa2adbd", func := "typecase/typecaselaw34.MarksKeep", spec := "marksKeep", unfollowed := true, recurses := true, apart := false, narrowed := true }
def MarksKeepUptoSaid : Prop := marksKeepUptoRow.holds Try.pinned (OpenSpec.upto marksKeepSpec)

/-- 'typecaselaw29.ContextApplies', WHERE WHAT IT READS IS OF BULK AT MOST 1048576: true; the input reads as it did. -/
def contextAppliesUptoRow : OpenClaim := { program := "ytbllbkhkmngclaa", sum := "1741c6bad6640f14971c615f319c3b49e2ef5444e53a1382060c9b4d0fa2adbd", func := "typecase/typecaselaw29.ContextApplies", spec := "contextApplies", unfollowed := true, recurses := true, apart := false, narrowed := true }
def ContextAppliesUptoSaid : Prop := contextAppliesUptoRow.holds Try.pinned (OpenSpec.upto contextAppliesSpec)

/-- 'typecaselaw29.ContextRises', WHERE WHAT IT READS IS OF BULK AT MOST 1048576: true; the input reads as it did. -/
def contextRisesUptoRow : OpenClaim := { program := "ytbllbkhkmngclaa", sum := "1741c6bad6640f14971c615f319c3b49e2ef5444e53a1382060c9b4d0fa2adbd", func := "typecase/typecaselaw29.ContextRises", spec := "contextRises", unfollowed := true, recurses := true, apart := false, narrowed := true }
def ContextRisesUptoSaid : Prop := contextRisesUptoRow.holds Try.pinned (OpenSpec.upto contextRisesSpec)

/-- 'typecaselaw28.LigaFinds', WHERE WHAT IT READS IS OF BULK AT MOST 1048576: true; the input reads as it did. -/
def ligaFindsUptoRow : OpenClaim := { program := "ytbllbkhkmngclaa", sum := "1741c6bad6640f14971c615f319c3b49e2ef5444e53a1382060c9b4d0fa2adbd", func := "typecase/typecaselaw28.LigaFinds", spec := "ligaFinds", unfollowed := true, recurses := true, apart := false, narrowed := true }
def LigaFindsUptoSaid : Prop := ligaFindsUptoRow.holds Try.pinned (OpenSpec.upto ligaFindsSpec)

/-- 'typecaselaw28.LigaApplies', WHERE WHAT IT READS IS OF BULK AT MOST 1048576: true; the input reads as it did. -/
def ligaAppliesUptoRow : OpenClaim := { program := "ytbllbkhkmngclaa", sum := "1741c6bad6640f14971c615f319c3b49e2ef5444e53a1382060c9b4d0fa2adbd", func := "typecase/typecaselaw28.LigaApplies", spec := "ligaApplies", unfollowed := true, recurses := true, apart := false, narrowed := true }
def LigaAppliesUptoSaid : Prop := ligaAppliesUptoRow.holds Try.pinned (OpenSpec.upto ligaAppliesSpec)

/-- 'typecaselaw28.LigaKeeps', WHERE WHAT IT READS IS OF BULK AT MOST 1048576: true; the input reads as it did. -/
def ligaKeepsUptoRow : OpenClaim := { program := "ytbllbkhkmngclaa", sum := "1741c6bad6640f14971c615f319c3b49e2ef5444e53a1382060c9b4d0fa2adbd", func := "typecase/typecaselaw28.LigaKeeps", spec := "ligaKeeps", unfollowed := true, recurses := true, apart := false, narrowed := true }
def LigaKeepsUptoSaid : Prop := ligaKeepsUptoRow.holds Try.pinned (OpenSpec.upto ligaKeepsSpec)

/-- 'typecaselaw28.LigaParts', WHERE WHAT IT READS IS OF BULK AT MOST 1048576: true; the input reads as it did. -/
def ligaPartsUptoRow : OpenClaim := { program := "ytbllbkhkmngclaa", sum := "1741c6bad6640f14971c615f319c3b49e2ef5444e53a1382060c9b4d0fa2adbd", func := "typecase/typecaselaw28.LigaParts", spec := "ligaParts", unfollowed := true, recurses := true, apart := false, narrowed := true }
def LigaPartsUptoSaid : Prop := ligaPartsUptoRow.holds Try.pinned (OpenSpec.upto ligaPartsSpec)

end Rows
end Go.Proofs.Ytbllbkhkmngclaa
