/-
  Copies of glyphs. No condition but on sizes.
-/
import Derived.Test.YtcjmkpkhjhjepaaGls
import Derived.Test.YtcjmkpkhjhjepaaCloneG
import Derived.Test.YtcjmkpkhjhjepaaStops
namespace Go.Proofs.Ytcjmkpkhjhjepaa.W
open Go Go.Vm Go.Proofs
set_option maxRecDepth 100000
set_option linter.unusedSimpArgs false
set_option maxHeartbeats 4000000
/-! typecase/typecaseref27.Copy -/
def c38_0 : AC :=
 (.seq (.reg [⟨some 18, none, .mov (.s 3)⟩,
⟨some 2, none, .mov (.s 18)⟩])
 .ret)
def c38_1 : AC :=
 (.seq (.seq (.reg [⟨some 5, none, .mov (.s 4)⟩,
⟨some 6, none, .mov (.s 0)⟩,
⟨some 7, none, .len (.s 6)⟩,
⟨some 8, none, .bin .lss (.s 5) (.s 7)⟩])
 (.cond (.s 8)
 .skip
 (.exit 0)))
 (.seq (.block 1
 (.reg [⟨some 11, none, .mov (.s 3)⟩,
⟨some 12, none, .mov (.s 0)⟩,
⟨some 13, none, .mov (.s 4)⟩,
⟨some 14, none, .idxA 10 (.s 12) (.s 13)⟩,
⟨some 15, none, .load true 10 (.s 14)⟩,
⟨some 16, none, .bslice 10 [(.s 15)]⟩,
⟨some 17, none, .app 10 80 (.s 11) (.s 16)⟩,
⟨some 3, none, .mov (.s 17)⟩]))
 (.reg [⟨some 9, none, .mov (.s 4)⟩,
⟨some 10, none, .bin .add (.s 9) (.c (.pure (.int .i64 1)))⟩,
⟨some 4, none, .mov (.s 10)⟩])))
def c38 : AC :=
 (.seq (.reg [⟨some 2, none, .mov (.c .empty)⟩])
 (.seq (.reg [⟨some 3, none, .mov (.c .empty)⟩])
 (.seq (.seq (.reg [⟨some 4, none, .mov (.c (.pure (.int .i64 0)))⟩])
 (.block 0
 (.loop c38_1)))
 c38_0)))
theorem cloneG_q (l : List Gl) (hl : l.length ≤ 1000) : FnQ Try.prog 36 [.sl (l.map gl)] [.sl (l.map gl)] :=
 fnQ_of_call ((cloneG_c l hl).mono fun s H' h => by
  rcases h with ⟨rfl, rfl⟩
  exact gives_row' rfl (by simp) rfl)
end Go.Proofs.Ytcjmkpkhjhjepaa.W
