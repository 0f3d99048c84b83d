/-
  Where a glyph is in a cover. No condition.
-/
import Derived.Test.YtcjmkpkhjhjepaaSkip
namespace Go.Proofs.Ytcjmkpkhjhjepaa.W
open Go Go.Vm Go.Proofs
set_option maxRecDepth 100000
set_option linter.unusedSimpArgs false
set_option maxHeartbeats 1000000
/-! typecase/cover.Index -/
def c43 : AC :=
 (.seq (.reg [⟨some 4, none, .mov (.c (.pure (.int .i64 0)))⟩,
⟨some 5, none, .mov (.c (.pure (.bool false)))⟩])
 (.seq (.reg [⟨some 7, none, .mov (.s 0)⟩,
⟨some 8, none, .mov (.s 1)⟩,
⟨some 9, none, .call 61 [(.s 7), (.s 8)]⟩,
⟨some 6, none, .mov (.s 9)⟩])
 (.seq (.reg [⟨some 10, none, .mov (.s 6)⟩,
⟨some 11, none, .mx (.s 10) (.c (.pure (.int .i64 0)))⟩,
⟨some 12, none, .mov (.s 6)⟩,
⟨some 13, none, .bin .geq (.s 12) (.c (.pure (.int .i64 0)))⟩,
⟨some 4, none, .mov (.s 11)⟩,
⟨some 5, none, .mov (.s 13)⟩])
 .ret)))
theorem k43 : OkF 43 Try.f43 c43 [.t 4, .t 5] 14 := ⟨Try.func43, by kernel_rfl, by kernel_rfl, by kernel_rfl, Try.ntmps43⟩
theorem cindex_q (l : List Int) (x : Int) : FnQ Try.prog 43 [LI l, I x] [I (max (idxF x 0 l) 0), .bool (decide (0 ≤ idxF x 0 l))] := by
 refine k43.q (by simp) ?_
 unfold c43
 simp -implicitDefEqProofs only [*, vmp,↓vmd,seval]
 refine onC_q (index_q _ _) rfl ?_
 simp -implicitDefEqProofs only [*, vmp,↓vmd,seval]
 exact gives_tup rfl (by simp)
end Go.Proofs.Ytcjmkpkhjhjepaa.W
