/-
  The law UtfReads: what its function does, for every input. No condition.
-/
import Derived.Test.YtcngcapbikfbnaaDoorU10
import Derived.Test.YtcngcapbikfbnaaDoorUData
namespace Go.Proofs.YtcngcapbikfbnaaDoor.W
open Go Go.Vm Go.Proofs
set_option maxRecDepth 100000
set_option linter.unusedSimpArgs false
/-! typecase/typecaselaw02.UtfReads -/
def c5 : AC :=
 (.seq (.reg [oo 2 (.mov (nB false))])
 (.seq (.seq (.reg [oo 9 (.mov (.s 0)),
 oo 10 (.len (.s 9)),
 oo 11 (.bin .gtr (.s 10) (nI 600))])
 (.cond (.s 11)
 (.seq (.reg [oo 12 (.call 9 []),
 oo 2 (.mov (.s 12))])
 .ret)
 .skip))
 (.seq (.reg [oo 14 (.mov (.s 0)),
 oo 15 (.call 21 [(.s 14)]),
 oo 13 (.mov (.s 15)),
 oo 16 (.ext 0 (.s 13)),
 oo 17 (.ext 1 (.s 13)),
 oo 18 (.ext 2 (.s 13)),
 oo 3 (.mov (.s 16)),
 oo 4 (.mov (.s 17)),
 oo 5 (.mov (.s 18))])
 (.seq (.reg [oo 20 (.mov (.s 0)),
 oo 21 (.call 22 [(.s 20)]),
 oo 19 (.mov (.s 21)),
 oo 22 (.ext 0 (.s 19)),
 oo 23 (.ext 1 (.s 19)),
 oo 24 (.ext 2 (.s 19)),
 oo 6 (.mov (.s 22)),
 oo 7 (.mov (.s 23)),
 oo 8 (.mov (.s 24))])
 (.seq (.reg [oo 25 (.mov (.s 3)),
 oo 26 (.mov (.s 6)),
 oo 27 (.call 23 [(.s 25), (.s 26)]),
 oo 28 (.mov (.s 27)),
 og 29 28 true (.mov (.s 4)),
 og 30 28 true (.mov (.s 7)),
 og 31 28 true (.bin .eql (.s 29) (.s 30)),
 oo 32 (.pick (.s 28) (.s 31) (nB false)),
 oo 33 (.mov (.s 32)),
 og 34 33 true (.mov (.s 5)),
 og 35 33 true (.mov (.s 8)),
 og 36 33 true (.bin .eql (.s 34) (.s 35)),
 oo 37 (.pick (.s 33) (.s 36) (nB false)),
 oo 38 (.mov (.s 37)),
 og 39 38 true (.mov (.s 0)),
 og 40 38 true (.call 24 [(.s 39)]),
 og 41 38 true (.mov (.s 0)),
 og 42 38 true (.call 25 [(.s 41)]),
 og 43 38 true (.call 23 [(.s 40), (.s 42)]),
 oo 44 (.pick (.s 38) (.s 43) (nB false)),
 oo 45 (.mov (.s 44)),
 og 46 45 true (.call 9 []),
 oo 47 (.pick (.s 45) (.s 46) (nB false)),
 oo 2 (.mov (.s 47))])
 .ret)))))
theorem k5 : OkF 5 Tryd.f5 c5 [.t 2] 48 := ⟨Tryd.func5, by kernel_rfl, by kernel_rfl, by kernel_rfl, Tryd.ntmps5⟩
theorem reads_law (b : List Int) (hb : Byt b) : FnQ Tryd.prog 5 [.sl (b.map B)] [.bool true] := by
 refine k5.q (by simp) ?_
 unfold c5
 simp only [vmp,↓vmd,seval]
 refine onIf_intro fun _ => ?_
 simp only [vmp,↓vmd,seval]
 by_cases h0 : (600 : Int) < (b.length : Int)
 ·refine onB_pos h0 ?_
  simp only [h0, vmp,↓vmd,seval]
  refine onC_q alive_q rfl ?_
  (first | apply envO | apply envQ); simp only [vmp,↓vmd,seval]; rfl
  simp only [vmp,↓vmd,seval]
  exact gives_pure
 refine onB_neg h0 ?_
 have hl : b.length ≤ 10000 := by omega
 simp only [h0, vmp,↓vmd,seval]
 refine onC_q (decode_q b hb hl) rfl ?_
 (first | apply envO | apply envQ); simp only [vmp,↓vmd,seval]; rfl
 simp only [vmp,↓vmd,seval]
 refine onC_q (rdecode_q b hb hl) rfl ?_
 (first | apply envO | apply envQ); simp only [vmp,↓vmd,seval]; rfl
 simp only [vmp,↓vmd,seval]
 refine onC_q (samer_q _ _) rfl ?_
 rw [decide_eq_true rfl]
 (first | apply envO | apply envQ); simp only [vmp,↓vmd,seval]; rfl
 simp only [vmp,↓vmd,seval]
 refine onC_q (lossy_q b hb hl) rfl ?_
 (first | apply envO | apply envQ); simp only [vmp,↓vmd,seval]; rfl
 simp only [vmp,↓vmd,seval]
 refine onC_q (rlossy_q b hb hl) rfl ?_
 (first | apply envO | apply envQ); simp only [vmp,↓vmd,seval]; rfl
 simp only [vmp,↓vmd,seval]
 refine onC_q (samer_q _ _) rfl ?_
 rw [decide_eq_true rfl]
 (first | apply envO | apply envQ); simp only [vmp,↓vmd,seval]; rfl
 simp only [vmp,↓vmd,seval]
 refine onC_q alive_q rfl ?_
 (first | apply envO | apply envQ); simp only [vmp,↓vmd,seval]; rfl
 simp only [vmp,↓vmd,seval]
 exact gives_pure
theorem reads_all (vs : List V) (h : OkTs Tryd.prog Tryd.f5.params.toList vs) : FnQ Tryd.prog 5 vs [.bool true] := by
 rw [Tryd.params5] at h
 match vs, h with
 | [x], h =>
  obtain ⟨h1, _⟩ := h
  obtain ⟨b, rfl, hb⟩ := bytes_of h1
  exact reads_law b hb
end Go.Proofs.YtcngcapbikfbnaaDoor.W
