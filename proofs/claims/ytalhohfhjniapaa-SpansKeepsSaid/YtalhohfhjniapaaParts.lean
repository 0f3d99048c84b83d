/-
  The law SpansParts: what its function does, for every input. No condition.
-/
import Derived.Test.YtalhohfhjniapaaRoll2
namespace Go.Proofs.Ytalhohfhjniapaa.W
open Go Go.Vm Go.Proofs
set_option maxRecDepth 100000
set_option linter.unusedSimpArgs false
/-! typecase/spans.Part -/
def c13 : AC :=
 (.seq (.reg [oo 6 (.mov (.c .empty))])
 (.seq (.reg [oo 7 (.box (.c (.agg [.empty])))])
 (.seq (.reg [oo 8 (.mov (.s 0)),
 oo 9 (.mov (.s 1)),
 oo 10 (.mx (.s 9) (nI 0)),
 oo 11 (.mov (.s 2)),
 oo 12 (.mov (.s 0)),
 oo 13 (.call 20 [(.s 12)]),
 oo 14 (.mn (.s 11) (.s 13)),
 oo 15 (.call 21 [(.s 7), (.s 8), (.s 10), (.s 14)])])
 (.seq (.reg [oo 16 (.fldA 0 (.s 7)),
 oo 17 (.load false 1 (.s 16)),
 oo 6 (.mov (.s 17))])
 .ret))))
theorem k13 : OkF 13 Try.f13 c13 [.t 6] 18 := ⟨Try.func13, by kernel_rfl, by kernel_rfl, by kernel_rfl, Try.ntmps13⟩
theorem part_q (v : List Int) (lo hi : Int) (hv : v.length ≤ 1000) : FnQ Try.prog 13 [.sl ((ofF v).map sp), I lo, I hi] [.sl ((ofF (takeV (ofF v) (max lo 0) (min hi v.length))).map sp)] := by
 refine OkF.p k13 (by simp) ?_
 unfold c13
 refine aWp_seq ?_
 simp only [*, vmp,↓vmd,seval]
 refine aWp_seq_up ?_
 simp only [*, vmp,↓vmd,seval]
 refine aWp_virtc 0 3 1 .live (by simp) rfl ?_
 refine aWp_x ?_
 simp only [*, vmp,↓vmd,seval]
 refine onC_q (pend_q _) rfl ?_
 rw [end_of]
 simp only [*, vmp,↓vmd,seval]
 have ht := take_c [] (ofF v) v.length (max lo 0) (min hi v.length) (ofF_chain v) (by omega) (by simp)
 rw [List.nil_append] at ht
 refine onC_fr' ht [0, 1] (by simp) (by simp only [rollH_f, show ofF [] = [] from rfl, kpp,seval]) rfl rfl (fun st => ?_)
 cases st
 ·refine ⟨by simp [rollH_f], ?_⟩
  rw [rollH_f]
  simp only [vmp,↓vmd,seval]
  exact gives_row rfl (by simp)
 ·refine ⟨by simp [rollH_t], ?_⟩
  rw [rollH_t]
  simp only [vmp,↓vmd,seval]
  exact gives_row rfl (by simp)
end Go.Proofs.Ytalhohfhjniapaa.W
