/-
  The law UtfLossy: what its function does, for every input. No condition.
-/
import Derived.Test.YtcngcapbikfbnaaDoorU10
import Derived.Test.YtcngcapbikfbnaaDoorUPl2
import Derived.Test.YtcngcapbikfbnaaDoorUData
namespace Go.Proofs.YtcngcapbikfbnaaDoor.W
open Go Go.Vm Go.Proofs
set_option maxRecDepth 100000
set_option linter.unusedSimpArgs false
/-! typecase/typecaselaw02.UtfLossy -/
def c6 : AC :=
 (.seq (.reg [oo 2 (.mov (nB false))])
 (.seq (.seq (.reg [oo 9 (.mov (.s 0)),
 oo 10 (.len (.s 9)),
 oo 11 (.bin .gtr (.s 10) (nI 600))])
 (.cond (.s 11)
 (.seq (.reg [oo 12 (.call 9 []),
 oo 2 (.mov (.s 12))])
 .ret)
 .skip))
 (.seq (.reg [oo 13 (.mov (.s 0)),
 oo 14 (.call 24 [(.s 13)]),
 oo 3 (.mov (.s 14))])
 (.seq (.seq (.reg [oo 15 (.mov (.s 3)),
 oo 16 (.call 14 [(.s 15)]),
 oo 17 (.un .not (.s 16)),
 oo 18 (.mov (.s 17)),
 og 19 18 false (.mov (.s 3)),
 og 20 18 false (.len (.s 19)),
 og 21 18 false (.mov (.s 0)),
 og 22 18 false (.len (.s 21)),
 og 23 18 false (.bin .gtr (.s 20) (.s 22)),
 oo 24 (.pick (.s 18) (nB true) (.s 23))])
 (.cond (.s 24)
 (.seq (.reg [oo 2 (.mov (nB false))])
 .ret)
 .skip))
 (.seq (.reg [oo 26 (.mov (.s 0)),
 oo 27 (.call 21 [(.s 26)]),
 oo 25 (.mov (.s 27)),
 oo 28 (.ext 0 (.s 25)),
 oo 29 (.ext 1 (.s 25)),
 oo 30 (.ext 2 (.s 25)),
 oo 4 (.mov (.s 28)),
 oo 5 (.mov (.s 29)),
 oo 6 (.mov (.s 30))])
 (.seq (.seq (.reg [oo 31 (.mov (.s 6)),
 oo 32 (.bin .neq (.s 31) (nI 0))])
 (.cond (.s 32)
 (.seq (.reg [oo 33 (.mov (.s 4)),
 oo 34 (.len (.s 33)),
 oo 35 (.bin .eql (.s 34) (nI 0)),
 oo 36 (.mov (.s 35)),
 og 37 36 true (.call 9 []),
 oo 38 (.pick (.s 36) (.s 37) (nB false)),
 oo 2 (.mov (.s 38))])
 .ret)
 .skip))
 (.seq (.reg [oo 40 (.mov (.s 4)),
 oo 41 (.call 10 [(.s 40)]),
 oo 39 (.mov (.s 41)),
 oo 42 (.ext 0 (.s 39)),
 oo 43 (.ext 1 (.s 39)),
 oo 7 (.mov (.s 42)),
 oo 8 (.mov (.s 43))])
 (.seq (.reg [oo 44 (.mov (.s 4)),
 oo 45 (.mov (.s 3)),
 oo 46 (.call 23 [(.s 44), (.s 45)]),
 oo 47 (.mov (.s 46)),
 og 48 47 true (.mov (.s 8)),
 og 49 47 true (.bin .eql (.s 48) (nI 0)),
 oo 50 (.pick (.s 47) (.s 49) (nB false)),
 oo 51 (.mov (.s 50)),
 og 52 51 true (.mov (.s 7)),
 og 53 51 true (.b2s (.s 52)),
 og 54 51 true (.mov (.s 0)),
 og 55 51 true (.b2s (.s 54)),
 og 56 51 true (.eqs false (.s 53) (.s 55)),
 oo 57 (.pick (.s 51) (.s 56) (nB false)),
 oo 58 (.mov (.s 57)),
 og 59 58 true (.call 9 []),
 oo 60 (.pick (.s 58) (.s 59) (nB false)),
 oo 2 (.mov (.s 60))])
 .ret))))))))
theorem k6 : OkF 6 Tryd.f6 c6 [.t 2] 61 := ⟨Tryd.func6, by kernel_rfl, by kernel_rfl, by kernel_rfl, Tryd.ntmps6⟩
theorem lossy_law (b : List Int) (hb : Byt b) : FnQ Tryd.prog 6 [.sl (b.map B)] [.bool true] := by
 refine k6.q (by simp) ?_
 unfold c6
 simp only [vmp,↓vmd,seval]
 refine onIf_intro fun _ => ?_
 simp only [vmp,↓vmd,seval]
 by_cases h0 : (600 : Int) < (b.length : Int)
 ·refine onB_pos h0 ?_
  simp only [h0, vmp,↓vmd,seval]
  refine onC_q alive_q rfl ?_
  (first | apply envO | apply envQ); simp only [vmp,↓vmd,seval]; rfl
  simp only [vmp,↓vmd,seval]
  exact gives_pure
 refine onB_neg h0 ?_
 have hl : b.length ≤ 10000 := by omega
 have hr : (losR b).all rightF = true := loss_right hb rfl
 have hlen : (losR b).length ≤ b.length := by have h : (losR b).length ≤ ([] : List Int).length + b.length := loss_len; simpa using h
 have derr := deco_err (f := b.length) (b := b) (a := 0) (acc := [])
 have dok := deco_ok (f := b.length) (b := b) (a := 0) (acc := []) hb (Nat.le_refl _)
 change (decR b).2.2 ≠ 0 → (decR b).1 = [] at derr
 change (decR b).2.2 = 0 → ∃ s, (decR b).1 = [] ++ s ∧ losR b = [] ++ s ∧ s.all rightF = true ∧ encF s = b at dok
 simp only [h0, vmp,↓vmd,seval]
 refine onC_q (lossy_q b hb hl) rfl ?_
 (first | apply envO | apply envQ); simp only [vmp,↓vmd,seval]; rfl
 simp only [vmp,↓vmd,seval]
 refine onC_q (rights_q _) rfl ?_
 rw [hr]
 (first | apply envO | apply envQ); simp only [vmp,↓vmd,seval]; rfl
 simp only [vmp,↓vmd,seval]
 refine onIf_intro fun _ => ?_
 simp only [vmp,↓vmd,seval]
 refine onIf_intro fun _ => ?_
 simp only [vmp,↓vmd,seval]
 have h1 : ¬ (b.length : Int) < ((losR b).length : Int) := by omega
 refine onB_neg h1 ?_
 simp only [h1, vmp,↓vmd,seval]
 refine onC_q (decode_q b hb hl) rfl ?_
 by_cases he : (decR b).2.2 = 0
 ·obtain ⟨s, e1, e2, e3, e4⟩ := dok he
  rw [List.nil_append] at e1 e2
  rw [he, e1]
  have hsl : s.length ≤ 1000 := by rw [← e2]; omega
  have eE : encR s = (b, 0) := by rw [encR, if_pos e3, e4]
  (first | apply envO | apply envQ); simp only [vmp,↓vmd,seval]; rfl
  simp only [vmp,↓vmd,seval]
  refine onC_q (enc_q s hsl) rfl ?_
  rw [eE]
  (first | apply envO | apply envQ); simp only [vmp,↓vmd,seval]; rfl
  simp only [vmp,↓vmd,seval]
  rw [e2]
  refine onC_q (samer_q _ _) rfl ?_
  rw [decide_eq_true rfl]
  (first | apply envO | apply envQ); simp only [vmp,↓vmd,seval]; rfl
  simp only [vmp,↓vmd,seval]
  refine onC_q alive_q rfl ?_
  (first | apply envO | apply envQ); simp only [vmp,↓vmd,seval]; rfl
  simp only [vmp,↓vmd,seval]
  exact gives_pure
 ·rw [derr he]
  generalize (decR b).2.2 = w at *
  (first | apply envO | apply envQ); simp only [vmp,↓vmd,seval]; rfl
  simp only [he, vmp,↓vmd,seval]
  refine onC_q alive_q rfl ?_
  (first | apply envO | apply envQ); simp only [vmp,↓vmd,seval]; rfl
  simp only [vmp,↓vmd,seval]
  exact gives_pure
theorem lossy_all (vs : List V) (h : OkTs Tryd.prog Tryd.f6.params.toList vs) : FnQ Tryd.prog 6 vs [.bool true] := by
 rw [Tryd.params6] at h
 match vs, h with
 | [x], h =>
  obtain ⟨h1, _⟩ := h
  obtain ⟨b, rfl, hb⟩ := bytes_of h1
  exact lossy_law b hb
end Go.Proofs.YtcngcapbikfbnaaDoor.W
