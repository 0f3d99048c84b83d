/-
  The law UtfWrites: what its function does, for every input. No condition.
-/
import Derived.Test.YtcngcapbikfbnaaDoorU10
import Derived.Test.YtcngcapbikfbnaaDoorUData
namespace Go.Proofs.YtcngcapbikfbnaaDoor.W
open Go Go.Vm Go.Proofs
set_option maxRecDepth 100000
set_option linter.unusedSimpArgs false
/-! typecase/typecaselaw02.UtfWrites -/
def c3 : AC :=
 (.seq (.reg [oo 2 (.mov (nB false))])
 (.seq (.seq (.reg [oo 11 (.mov (.s 0)),
 oo 12 (.len (.s 11)),
 oo 13 (.bin .gtr (.s 12) (nI 400))])
 (.cond (.s 13)
 (.seq (.reg [oo 14 (.call 9 []),
 oo 2 (.mov (.s 14))])
 .ret)
 .skip))
 (.seq (.reg [oo 16 (.mov (.s 0)),
 oo 17 (.call 10 [(.s 16)]),
 oo 15 (.mov (.s 17)),
 oo 18 (.ext 0 (.s 15)),
 oo 19 (.ext 1 (.s 15)),
 oo 3 (.mov (.s 18)),
 oo 4 (.mov (.s 19))])
 (.seq (.reg [oo 21 (.mov (.s 0)),
 oo 22 (.call 11 [(.s 21)]),
 oo 20 (.mov (.s 22)),
 oo 23 (.ext 0 (.s 20)),
 oo 24 (.ext 1 (.s 20)),
 oo 5 (.mov (.s 23)),
 oo 6 (.mov (.s 24))])
 (.seq (.reg [oo 26 (.mov (.s 0)),
 oo 27 (.call 12 [(.s 26)]),
 oo 25 (.mov (.s 27)),
 oo 28 (.ext 0 (.s 25)),
 oo 29 (.ext 1 (.s 25)),
 oo 7 (.mov (.s 28)),
 oo 8 (.mov (.s 29))])
 (.seq (.reg [oo 31 (.mov (.s 0)),
 oo 32 (.call 13 [(.s 31)]),
 oo 30 (.mov (.s 32)),
 oo 33 (.ext 0 (.s 30)),
 oo 34 (.ext 1 (.s 30)),
 oo 9 (.mov (.s 33)),
 oo 10 (.mov (.s 34))])
 (.seq (.reg [oo 35 (.mov (.s 0)),
 oo 36 (.call 14 [(.s 35)]),
 oo 37 (.mov (.s 0)),
 oo 38 (.call 15 [(.s 37)]),
 oo 39 (.eqb false (.s 36) (.s 38)),
 oo 40 (.mov (.s 39)),
 og 41 40 true (.mov (.s 3)),
 og 42 40 true (.b2s (.s 41)),
 og 43 40 true (.mov (.s 5)),
 og 44 40 true (.b2s (.s 43)),
 og 45 40 true (.eqs false (.s 42) (.s 44)),
 oo 46 (.pick (.s 40) (.s 45) (nB false)),
 oo 47 (.mov (.s 46)),
 og 48 47 true (.mov (.s 4)),
 og 49 47 true (.mov (.s 6)),
 og 50 47 true (.bin .eql (.s 48) (.s 49)),
 oo 51 (.pick (.s 47) (.s 50) (nB false)),
 oo 52 (.mov (.s 51)),
 og 53 52 true (.mov (.s 7)),
 og 54 52 true (.mov (.s 9)),
 og 55 52 true (.call 16 [(.s 53), (.s 54)]),
 oo 56 (.pick (.s 52) (.s 55) (nB false)),
 oo 57 (.mov (.s 56)),
 og 58 57 true (.mov (.s 8)),
 og 59 57 true (.mov (.s 10)),
 og 60 57 true (.bin .eql (.s 58) (.s 59)),
 oo 61 (.pick (.s 57) (.s 60) (nB false)),
 oo 62 (.mov (.s 61)),
 og 63 62 true (.call 9 []),
 oo 64 (.pick (.s 62) (.s 63) (nB false)),
 oo 2 (.mov (.s 64))])
 .ret)))))))
theorem k3 : OkF 3 Tryd.f3 c3 [.t 2] 65 := ⟨Tryd.func3, by kernel_rfl, by kernel_rfl, by kernel_rfl, Tryd.ntmps3⟩
theorem writes_law (t : List Int) : FnQ Tryd.prog 3 [.sl (t.map R)] [.bool true] := by
 refine k3.q (by simp) ?_
 unfold c3
 simp only [vmp,↓vmd,seval]
 refine onIf_intro fun _ => ?_
 simp only [vmp,↓vmd,seval]
 by_cases h0 : (400 : Int) < (t.length : Int)
 ·refine onB_pos h0 ?_
  simp only [h0, vmp,↓vmd,seval]
  refine onC_q alive_q rfl ?_
  (first | apply envO | apply envQ); simp only [vmp,↓vmd,seval]; rfl
  simp only [vmp,↓vmd,seval]
  exact gives_pure
 refine onB_neg h0 ?_
 have ht : t.length ≤ 1000 := by omega
 simp only [h0, vmp,↓vmd,seval]
 refine onC_q (enc_q t ht) rfl ?_
 (first | apply envO | apply envQ); simp only [vmp,↓vmd,seval]; rfl
 simp only [vmp,↓vmd,seval]
 refine onC_q (renc_q t ht) rfl ?_
 (first | apply envO | apply envQ); simp only [vmp,↓vmd,seval]; rfl
 simp only [vmp,↓vmd,seval]
 refine onC_q (units_q t ht) rfl ?_
 (first | apply envO | apply envQ); simp only [vmp,↓vmd,seval]; rfl
 simp only [vmp,↓vmd,seval]
 refine onC_q (runits_q t ht) rfl ?_
 (first | apply envO | apply envQ); simp only [vmp,↓vmd,seval]; rfl
 simp only [vmp,↓vmd,seval]
 refine onC_q (rights_q t) rfl ?_
 (first | apply envO | apply envQ); simp only [vmp,↓vmd,seval]; rfl
 simp only [vmp,↓vmd,seval]
 refine onC_q (rrights_q t) rfl ?_
 (first | apply envO | apply envQ); simp only [vmp,↓vmd,seval]; rfl
 simp only [vmp,↓vmd,seval]
 refine onC_q (sameu_q _ _) rfl ?_
 rw [decide_eq_true rfl]
 (first | apply envO | apply envQ); simp only [vmp,↓vmd,seval]; rfl
 simp only [vmp,↓vmd,seval]
 refine onC_q alive_q rfl ?_
 (first | apply envO | apply envQ); simp only [vmp,↓vmd,seval]; rfl
 simp only [vmp,↓vmd,seval]
 exact gives_pure
theorem writes_all (vs : List V) (h : OkTs Tryd.prog Tryd.f3.params.toList vs) : FnQ Tryd.prog 3 vs [.bool true] := by
 rw [Tryd.params3] at h
 match vs, h with
 | [x], h =>
  obtain ⟨h1, _⟩ := h
  obtain ⟨t, rfl⟩ := runes_of h1
  exact writes_law t
end Go.Proofs.YtcngcapbikfbnaaDoor.W
