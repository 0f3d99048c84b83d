/-
  The laws of lookups at a place, and of steps.
-/
import Derived.Test.YtcjmkpkhjhjepaaGreatPos4
import Derived.Test.YtcjmkpkhjhjepaaGreatPos5
import Derived.Test.YtcjmkpkhjhjepaaGreatRPos3
import Derived.Test.YtcjmkpkhjhjepaaGreatSame29
namespace Go.Proofs.YtcjmkpkhjhjepaaGreat.W
open Go Go.Vm Go.Proofs
set_option maxRecDepth 100000
set_option linter.unusedSimpArgs false
set_option maxHeartbeats 4000000
/-! typecase/typecaselaw35.PosAll -/
def c5 : AC :=
 (.seq (.reg [oo 3 (.box (.s 0)),
 oo 6 (.mov (nB false))])
 (.seq (.seq (.reg [oo 7 (.load true 6 (.s 3)),
 oo 8 (.mov (.s 1)),
 oo 9 (.call 7 [(.s 7), (.s 8)]),
 oo 10 (.un .not (.s 9)),
 oo 11 (.mov (.s 10)),
 og 12 11 false (.mov (.s 2)),
 og 13 11 false (.len (.s 12)),
 og 14 11 false (.bin .gtr (.s 13) (nI 8)),
 oo 15 (.pick (.s 11) (nB true) (.s 14))])
 (.cond (.s 15)
 (.seq (.reg [oo 6 (.mov (nB true))])
 .ret)
 .skip))
 (.seq (.regq [oo 16 (.load true 6 (.s 3)),
 oo 17 (.mov (.s 2)),
 oo 18 (.call 14 [(.s 17)]),
 oo 19 (.mov (.s 1)),
 oo 20 (.call 13 [(.s 16), (.s 18), (.s 19)]),
 oo 21 (.load true 6 (.s 3)),
 oo 22 (.mov (.s 2)),
 oo 23 (.mov (.s 1))]
[oo 24 (.call 12 [(.s 21), (.s 22), (.s 23)]),
 oo 25 (.call 10 [(.s 20), (.s 24)]),
 oo 6 (.mov (.s 25))])
 .ret)))
theorem ty_steps : tyC Tryz.prog 20 42 = some (false, [.sl true [.int .i64, .int .i64]]) := by kernel_rfl
theorem stp_of {v : V} (h : OkE true [.int .i64, .int .i64] v) : ∃ s, v = stp s ∧ True := by
 obtain ⟨l, hl, rfl⟩ := ints_of (k := 2) h
 match l, hl with
 | [a, b], _ => exact ⟨⟨a, b⟩, rfl, trivial⟩
theorem steps_of {v : V} (h : OkT Tryz.prog 42 v) : ∃ l : List Stp, v = .sl (l.map stp) := by
 obtain ⟨l, h1, _⟩ := lists_of (f := stp) (fun _ h => stp_of h) (cell_of (h _ _ _ ty_steps))
 exact ⟨l, h1⟩
end Go.Proofs.YtcjmkpkhjhjepaaGreat.W
