/-
  The law UtfFromUnits: what its function does, for every input. No condition.
-/
import Derived.Test.YtcngcapbikfbnaaDoorU10
import Derived.Test.YtcngcapbikfbnaaDoorUData
namespace Go.Proofs.YtcngcapbikfbnaaDoor.W
open Go Go.Vm Go.Proofs
set_option maxRecDepth 100000
set_option linter.unusedSimpArgs false
/-! typecase/typecaselaw02.UtfFromUnits -/
def c7 : AC :=
 (.seq (.reg [oo 2 (.mov (nB false))])
 (.seq (.seq (.reg [oo 9 (.mov (.s 0)),
 oo 10 (.len (.s 9)),
 oo 11 (.bin .gtr (.s 10) (nI 400))])
 (.cond (.s 11)
 (.seq (.reg [oo 12 (.call 9 []),
 oo 2 (.mov (.s 12))])
 .ret)
 .skip))
 (.seq (.reg [oo 14 (.mov (.s 0)),
 oo 15 (.call 26 [(.s 14)]),
 oo 13 (.mov (.s 15)),
 oo 16 (.ext 0 (.s 13)),
 oo 17 (.ext 1 (.s 13)),
 oo 18 (.ext 2 (.s 13)),
 oo 3 (.mov (.s 16)),
 oo 4 (.mov (.s 17)),
 oo 5 (.mov (.s 18))])
 (.seq (.reg [oo 20 (.mov (.s 0)),
 oo 21 (.call 27 [(.s 20)]),
 oo 19 (.mov (.s 21)),
 oo 22 (.ext 0 (.s 19)),
 oo 23 (.ext 1 (.s 19)),
 oo 24 (.ext 2 (.s 19)),
 oo 6 (.mov (.s 22)),
 oo 7 (.mov (.s 23)),
 oo 8 (.mov (.s 24))])
 (.seq (.reg [oo 25 (.mov (.s 3)),
 oo 26 (.mov (.s 6)),
 oo 27 (.call 23 [(.s 25), (.s 26)]),
 oo 28 (.mov (.s 27)),
 og 29 28 true (.mov (.s 4)),
 og 30 28 true (.mov (.s 7)),
 og 31 28 true (.bin .eql (.s 29) (.s 30)),
 oo 32 (.pick (.s 28) (.s 31) (nB false)),
 oo 33 (.mov (.s 32)),
 og 34 33 true (.mov (.s 5)),
 og 35 33 true (.mov (.s 8)),
 og 36 33 true (.bin .eql (.s 34) (.s 35)),
 oo 37 (.pick (.s 33) (.s 36) (nB false)),
 oo 38 (.mov (.s 37)),
 og 39 38 true (.call 9 []),
 oo 40 (.pick (.s 38) (.s 39) (nB false)),
 oo 2 (.mov (.s 40))])
 .ret)))))
theorem k7 : OkF 7 Tryd.f7 c7 [.t 2] 41 := ⟨Tryd.func7, by kernel_rfl, by kernel_rfl, by kernel_rfl, Tryd.ntmps7⟩
theorem from_law (u : List Int) (hu : Uns u) : FnQ Tryd.prog 7 [.sl (u.map U)] [.bool true] := by
 refine k7.q (by simp) ?_
 unfold c7
 simp only [vmp,↓vmd,seval]
 refine onIf_intro fun _ => ?_
 simp only [vmp,↓vmd,seval]
 by_cases h0 : (400 : Int) < (u.length : Int)
 ·refine onB_pos h0 ?_
  simp only [h0, vmp,↓vmd,seval]
  refine onC_q alive_q rfl ?_
  (first | apply envO | apply envQ); simp only [vmp,↓vmd,seval]; rfl
  simp only [vmp,↓vmd,seval]
  exact gives_pure
 refine onB_neg h0 ?_
 have hl : u.length ≤ 10000 := by omega
 simp only [h0, vmp,↓vmd,seval]
 refine onC_q (fromu_q u hu hl) rfl ?_
 (first | apply envO | apply envQ); simp only [vmp,↓vmd,seval]; rfl
 simp only [vmp,↓vmd,seval]
 refine onC_q (rfromu_q u hu hl) rfl ?_
 (first | apply envO | apply envQ); simp only [vmp,↓vmd,seval]; rfl
 simp only [vmp,↓vmd,seval]
 refine onC_q (samer_q _ _) rfl ?_
 rw [decide_eq_true rfl]
 (first | apply envO | apply envQ); simp only [vmp,↓vmd,seval]; rfl
 simp only [vmp,↓vmd,seval]
 refine onC_q alive_q rfl ?_
 (first | apply envO | apply envQ); simp only [vmp,↓vmd,seval]; rfl
 simp only [vmp,↓vmd,seval]
 exact gives_pure
theorem from_all (vs : List V) (h : OkTs Tryd.prog Tryd.f7.params.toList vs) : FnQ Tryd.prog 7 vs [.bool true] := by
 rw [Tryd.params7] at h
 match vs, h with
 | [x], h =>
  obtain ⟨h1, _⟩ := h
  obtain ⟨u, rfl, hu⟩ := units_of h1
  exact from_law u hu
end Go.Proofs.YtcngcapbikfbnaaDoor.W
