/-
  Where a glyph is in a cover. No condition.
-/
import Derived.Test.YtcjmkpkhjhjepaaGreatSkip
namespace Go.Proofs.YtcjmkpkhjhjepaaGreat.W
open Go Go.Vm Go.Proofs
set_option maxRecDepth 100000
set_option linter.unusedSimpArgs false
set_option maxHeartbeats 1000000
/-! typecase/cover.Index -/
def c106 : AC :=
 (.seq (.reg [oo 4 (.mov (nI 0)),
 oo 5 (.mov (nB false))])
 (.seq (.reg [oo 7 (.mov (.s 0)),
 oo 8 (.mov (.s 1)),
 oo 9 (.call 101 [(.s 7), (.s 8)]),
 oo 6 (.mov (.s 9))])
 (.seq (.reg [oo 10 (.mov (.s 6)),
 oo 11 (.mx (.s 10) (nI 0)),
 oo 12 (.mov (.s 6)),
 oo 13 (.bin .geq (.s 12) (nI 0)),
 oo 4 (.mov (.s 11)),
 oo 5 (.mov (.s 13))])
 .ret)))
theorem k106 : OkF 106 Tryz.f106 c106 [.t 4, .t 5] 14 := ⟨Tryz.func106, by kernel_rfl, by kernel_rfl, by kernel_rfl, Tryz.ntmps106⟩
theorem cindex_q (l : List Int) (x : Int) : FnQ Tryz.prog 106 [LI l, I x] [I (max (idxF x 0 l) 0), .bool (decide (0 ≤ idxF x 0 l))] := by
 refine k106.q (by simp) ?_
 unfold c106
 simp only [*, vmp,↓vmd,seval]
 refine onC_q (index_q _ _) rfl ?_
 simp only [*, vmp,↓vmd,seval]
 exact gives_tup rfl (by simp)
end Go.Proofs.YtcjmkpkhjhjepaaGreat.W
