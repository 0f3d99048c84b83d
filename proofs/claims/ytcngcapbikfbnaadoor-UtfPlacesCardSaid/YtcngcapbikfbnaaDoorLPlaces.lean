/-
  The law UtfPlaces: what its function does, for every input. No condition.
-/
import Derived.Test.YtcngcapbikfbnaaDoorU10
import Derived.Test.YtcngcapbikfbnaaDoorUData
namespace Go.Proofs.YtcngcapbikfbnaaDoor.W
open Go Go.Vm Go.Proofs
set_option maxRecDepth 100000
set_option linter.unusedSimpArgs false
/-! typecase/typecaselaw02.UtfPlaces -/
def c4 : AC :=
 (.seq (.reg [oo 6 (.mov (nB false))])
 (.seq (.seq (.reg [oo 7 (.mov (.s 0)),
 oo 8 (.len (.s 7)),
 oo 9 (.bin .gtr (.s 8) (nI 400))])
 (.cond (.s 9)
 (.seq (.reg [oo 10 (.call 9 []),
 oo 6 (.mov (.s 10))])
 .ret)
 .skip))
 (.seq (.reg [oo 11 (.mov (.s 0)),
 oo 12 (.mov (.s 1)),
 oo 13 (.call 17 [(.s 11), (.s 12)]),
 oo 14 (.mov (.s 0)),
 oo 15 (.mov (.s 1)),
 oo 16 (.call 18 [(.s 14), (.s 15)]),
 oo 17 (.bin .eql (.s 13) (.s 16)),
 oo 18 (.mov (.s 17)),
 og 19 18 true (.mov (.s 0)),
 og 20 18 true (.mov (.s 2)),
 og 21 18 true (.call 19 [(.s 19), (.s 20)]),
 og 22 18 true (.mov (.s 0)),
 og 23 18 true (.mov (.s 2)),
 og 24 18 true (.call 20 [(.s 22), (.s 23)]),
 og 25 18 true (.bin .eql (.s 21) (.s 24)),
 oo 26 (.pick (.s 18) (.s 25) (nB false)),
 oo 27 (.mov (.s 26)),
 og 28 27 true (.call 9 []),
 oo 29 (.pick (.s 27) (.s 28) (nB false)),
 oo 6 (.mov (.s 29))])
 .ret)))
theorem k4 : OkF 4 Tryd.f4 c4 [.t 6] 30 := ⟨Tryd.func4, by kernel_rfl, by kernel_rfl, by kernel_rfl, Tryd.ntmps4⟩
theorem places_law (t : List Int) (a b : Int) (hb : b ≤ 9223372036854775807) : FnQ Tryd.prog 4 [.sl (t.map R), I a, I b] [.bool true] := by
 refine k4.q (by simp) ?_
 unfold c4
 simp only [vmp,↓vmd,seval]
 refine onIf_intro fun _ => ?_
 simp only [vmp,↓vmd,seval]
 by_cases h0 : (400 : Int) < (t.length : Int)
 ·refine onB_pos h0 ?_
  simp only [h0, vmp,↓vmd,seval]
  refine onC_q alive_q rfl ?_
  (first | apply envO | apply envQ); simp only [vmp,↓vmd,seval]; rfl
  simp only [vmp,↓vmd,seval]
  exact gives_pure
 refine onB_neg h0 ?_
 have ht : t.length ≤ 1000 := by omega
 simp only [h0, vmp,↓vmd,seval]
 refine onC_q (byte_q t a ht) rfl ?_
 (first | apply envO | apply envQ); simp only [vmp,↓vmd,seval]; rfl
 simp only [vmp,↓vmd,seval]
 refine onC_q (rbyte_q t a ht) rfl ?_
 (first | apply envO | apply envQ); simp only [vmp,↓vmd,seval]; rfl
 simp only [vmp,↓vmd,seval]
 refine onC_q (place_q t b ht hb) rfl ?_
 (first | apply envO | apply envQ); simp only [vmp,↓vmd,seval]; rfl
 simp only [vmp,↓vmd,seval]
 refine onC_q (rplace_q t b ht hb) rfl ?_
 (first | apply envO | apply envQ); simp only [vmp,↓vmd,seval]; rfl
 simp only [vmp,↓vmd,seval]
 refine onC_q alive_q rfl ?_
 (first | apply envO | apply envQ); simp only [vmp,↓vmd,seval]; rfl
 simp only [vmp,↓vmd,seval]
 exact gives_pure
theorem places_all (vs : List V) (h : OkTs Tryd.prog Tryd.f4.params.toList vs) : FnQ Tryd.prog 4 vs [.bool true] := by
 rw [Tryd.params4] at h
 match vs, h with
 | [x, y, z], h =>
  obtain ⟨h1, h2, h3, _⟩ := h
  obtain ⟨t, rfl⟩ := runes_of h1
  obtain ⟨a, rfl, _⟩ := int_of' h2
  obtain ⟨b, rfl, hb⟩ := int_of' h3
  exact places_law t a b hb.2
end Go.Proofs.YtcngcapbikfbnaaDoor.W
