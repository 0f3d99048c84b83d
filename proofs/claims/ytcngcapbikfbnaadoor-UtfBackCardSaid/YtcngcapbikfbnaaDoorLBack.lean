/-
  The law UtfBack: what its function does, for every input. No condition.
-/
import Derived.Test.YtcngcapbikfbnaaDoorU10
import Derived.Test.YtcngcapbikfbnaaDoorUPl2
import Derived.Test.YtcngcapbikfbnaaDoorUData
namespace Go.Proofs.YtcngcapbikfbnaaDoor.W
open Go Go.Vm Go.Proofs
set_option maxRecDepth 100000
set_option linter.unusedSimpArgs false
/-! typecase/typecaselaw02.UtfBack -/
def c8_0 : AC :=
 (.seq (.reg [oo 127 (.mov (.s 0)),
 oo 128 (.mov (.s 0)),
 oo 129 (.len (.s 128)),
 oo 130 (.call 17 [(.s 127), (.s 129)]),
 oo 131 (.mov (.s 3)),
 oo 132 (.len (.s 131)),
 oo 133 (.bin .eql (.s 130) (.s 132)),
 oo 134 (.mov (.s 133)),
 og 135 134 true (.call 9 []),
 oo 136 (.pick (.s 134) (.s 135) (nB false)),
 oo 2 (.mov (.s 136))])
 .ret)
def c8_1 : AC :=
 (.seq (.seq (.reg [oo 101 (.mov (.s 13)),
 oo 102 (.mov (.s 0)),
 oo 103 (.len (.s 102)),
 oo 104 (.bin .leq (.s 101) (.s 103))])
 (.cond (.s 104)
 .skip
 (.exit 0)))
 (.seq (.block 1
 (.seq (.reg [oo 107 (.mov (.s 0)),
 oo 108 (.mov (.s 13)),
 oo 109 (.call 17 [(.s 107), (.s 108)]),
 oo 14 (.mov (.s 109))])
 (.seq (.reg [oo 110 (.mov (.s 13)),
 oo 111 (.bin .gtr (.s 110) (nI 0)),
 oo 112 (.mov (.s 111)),
 og 113 112 true (.mov (.s 14)),
 og 114 112 true (.mov (.s 0)),
 og 115 112 true (.mov (.s 13)),
 og 116 112 true (.bin .sub (.s 115) (nI 1)),
 og 117 112 true (.call 17 [(.s 114), (.s 116)]),
 og 118 112 true (.bin .leq (.s 113) (.s 117)),
 oo 119 (.pick (.s 112) (.s 118) (nB false)),
 oo 120 (.mov (.s 119)),
 og 121 120 false (.mov (.s 0)),
 og 122 120 false (.mov (.s 14)),
 og 123 120 false (.call 19 [(.s 121), (.s 122)]),
 og 124 120 false (.mov (.s 13)),
 og 125 120 false (.bin .neq (.s 123) (.s 124)),
 oo 126 (.pick (.s 120) (nB true) (.s 125))])
 (.cond (.s 126)
 (.seq (.reg [oo 2 (.mov (nB false))])
 .ret)
 .skip))))
 (.reg [oo 105 (.mov (.s 13)),
 oo 106 (.bin .add (.s 105) (nI 1)),
 oo 13 (.mov (.s 106))])))
def c8 : AC :=
 (.seq (.reg [oo 2 (.mov (nB false))])
 (.seq (.seq (.reg [oo 15 (.mov (.s 0)),
 oo 16 (.len (.s 15)),
 oo 17 (.bin .gtr (.s 16) (nI 300))])
 (.cond (.s 17)
 (.seq (.reg [oo 18 (.call 9 []),
 oo 2 (.mov (.s 18))])
 .ret)
 .skip))
 (.seq (.reg [oo 20 (.mov (.s 0)),
 oo 21 (.call 10 [(.s 20)]),
 oo 19 (.mov (.s 21)),
 oo 22 (.ext 0 (.s 19)),
 oo 23 (.ext 1 (.s 19)),
 oo 3 (.mov (.s 22)),
 oo 4 (.mov (.s 23))])
 (.seq (.reg [oo 25 (.mov (.s 0)),
 oo 26 (.call 12 [(.s 25)]),
 oo 24 (.mov (.s 26)),
 oo 27 (.ext 0 (.s 24)),
 oo 28 (.ext 1 (.s 24)),
 oo 5 (.mov (.s 27)),
 oo 6 (.mov (.s 28))])
 (.seq (.seq (.reg [oo 29 (.mov (.s 0)),
 oo 30 (.call 14 [(.s 29)]),
 oo 31 (.un .not (.s 30))])
 (.cond (.s 31)
 (.seq (.reg [oo 32 (.mov (.s 3)),
 oo 33 (.len (.s 32)),
 oo 34 (.bin .eql (.s 33) (nI 0)),
 oo 35 (.mov (.s 34)),
 og 36 35 true (.mov (.s 5)),
 og 37 35 true (.len (.s 36)),
 og 38 35 true (.bin .eql (.s 37) (nI 0)),
 oo 39 (.pick (.s 35) (.s 38) (nB false)),
 oo 40 (.mov (.s 39)),
 og 41 40 true (.mov (.s 4)),
 og 42 40 true (.bin .eql (.s 41) (nI 13)),
 oo 43 (.pick (.s 40) (.s 42) (nB false)),
 oo 44 (.mov (.s 43)),
 og 45 44 true (.mov (.s 6)),
 og 46 44 true (.bin .eql (.s 45) (nI 13)),
 oo 47 (.pick (.s 44) (.s 46) (nB false)),
 oo 48 (.mov (.s 47)),
 og 49 48 true (.call 9 []),
 oo 50 (.pick (.s 48) (.s 49) (nB false)),
 oo 2 (.mov (.s 50))])
 .ret)
 .skip))
 (.seq (.reg [oo 52 (.mov (.s 3)),
 oo 53 (.call 21 [(.s 52)]),
 oo 51 (.mov (.s 53)),
 oo 54 (.ext 0 (.s 51)),
 oo 55 (.ext 1 (.s 51)),
 oo 56 (.ext 2 (.s 51)),
 oo 7 (.mov (.s 54)),
 oo 8 (.mov (.s 55)),
 oo 9 (.mov (.s 56))])
 (.seq (.reg [oo 58 (.mov (.s 5)),
 oo 59 (.call 26 [(.s 58)]),
 oo 57 (.mov (.s 59)),
 oo 60 (.ext 0 (.s 57)),
 oo 61 (.ext 1 (.s 57)),
 oo 62 (.ext 2 (.s 57)),
 oo 10 (.mov (.s 60)),
 oo 11 (.mov (.s 61)),
 oo 12 (.mov (.s 62))])
 (.seq (.seq (.reg [oo 63 (.mov (.s 4)),
 oo 64 (.bin .neq (.s 63) (nI 0)),
 oo 65 (.mov (.s 64)),
 og 66 65 false (.mov (.s 6)),
 og 67 65 false (.bin .neq (.s 66) (nI 0)),
 oo 68 (.pick (.s 65) (nB true) (.s 67)),
 oo 69 (.mov (.s 68)),
 og 70 69 false (.mov (.s 9)),
 og 71 69 false (.bin .neq (.s 70) (nI 0)),
 oo 72 (.pick (.s 69) (nB true) (.s 71)),
 oo 73 (.mov (.s 72)),
 og 74 73 false (.mov (.s 12)),
 og 75 73 false (.bin .neq (.s 74) (nI 0)),
 oo 76 (.pick (.s 73) (nB true) (.s 75)),
 oo 77 (.mov (.s 76)),
 og 78 77 false (.mov (.s 8)),
 og 79 77 false (.mov (.s 3)),
 og 80 77 false (.len (.s 79)),
 og 81 77 false (.bin .neq (.s 78) (.s 80)),
 oo 82 (.pick (.s 77) (nB true) (.s 81)),
 oo 83 (.mov (.s 82)),
 og 84 83 false (.mov (.s 11)),
 og 85 83 false (.mov (.s 5)),
 og 86 83 false (.len (.s 85)),
 og 87 83 false (.bin .neq (.s 84) (.s 86)),
 oo 88 (.pick (.s 83) (nB true) (.s 87)),
 oo 89 (.mov (.s 88)),
 og 90 89 false (.mov (.s 7)),
 og 91 89 false (.mov (.s 0)),
 og 92 89 false (.call 23 [(.s 90), (.s 91)]),
 og 93 89 false (.un .not (.s 92)),
 oo 94 (.pick (.s 89) (nB true) (.s 93)),
 oo 95 (.mov (.s 94)),
 og 96 95 false (.mov (.s 10)),
 og 97 95 false (.mov (.s 0)),
 og 98 95 false (.call 23 [(.s 96), (.s 97)]),
 og 99 95 false (.un .not (.s 98)),
 oo 100 (.pick (.s 95) (nB true) (.s 99))])
 (.cond (.s 100)
 (.seq (.reg [oo 2 (.mov (nB false))])
 .ret)
 .skip))
 (.seq (.seq (.reg [oo 13 (.mov (nI 0))])
 (.block 0
 (.loop c8_1)))
 c8_0)))))))))
theorem k8 : OkF 8 Tryd.f8 c8 [.t 2] 137 := ⟨Tryd.func8, by kernel_rfl, by kernel_rfl, by kernel_rfl, Tryd.ntmps8⟩
theorem enc_byt : ∀ {t : List Int}, t.all rightF = true → Byt (encF t)
 | [], _ => fun c hc => by cases hc
 | r :: t, h => by
  rw [List.all_cons, Bool.and_eq_true] at h
  intro c hc
  rcases List.mem_append.1 (show c ∈ formF r ++ encF t from hc) with hm | hm
  ·exact form_byt h.1 c hm
  ·exact enc_byt h.2 c hm
theorem units_uns : ∀ {t : List Int}, t.all rightF = true → Uns (unitsF t)
 | [], _ => fun c hc => by cases hc
 | r :: t, h => by
  rw [List.all_cons, Bool.and_eq_true] at h
  obtain ⟨h1, h2, h3⟩ := right_iff.1 h.1
  intro c hc
  rcases List.mem_append.1 (show c ∈ unitF r ++ unitsF t from hc) with hm | hm
  ·unfold unitF at hm
   split at hm
   ·simp at hm; omega
   ·simp at hm; omega
  ·exact units_uns h.2 c hm
theorem back_law (t : List Int) : FnQ Tryd.prog 8 [.sl (t.map R)] [.bool true] := by
 refine k8.q (by simp) ?_
 unfold c8
 simp only [vmp,↓vmd,seval]
 refine onIf_intro fun hlen => ?_
 simp only [vmp,↓vmd,seval]
 by_cases h0 : (300 : Int) < (t.length : Int)
 ·refine onB_pos h0 ?_
  simp only [h0, vmp,↓vmd,seval]
  refine onC_q alive_q rfl ?_
  (first | apply envO | apply envQ); simp only [vmp,↓vmd,seval]; rfl
  simp only [vmp,↓vmd,seval]
  exact gives_pure
 refine onB_neg h0 ?_
 have ht : t.length ≤ 1000 := by omega
 simp only [h0, vmp,↓vmd,seval]
 refine onC_q (enc_q t ht) rfl ?_
 cases hr : t.all rightF
 ·have e1 : encR t = ([], 13) := by simp [encR, hr]
  have e2 : uniR t = ([], 13) := by simp [uniR, hr]
  rw [e1]
  (first | apply envO | apply envQ); simp only [vmp,↓vmd,seval]; rfl
  simp only [vmp,↓vmd,seval]
  refine onC_q (units_q t ht) rfl ?_
  rw [e2]
  (first | apply envO | apply envQ); simp only [vmp,↓vmd,seval]; rfl
  simp only [vmp,↓vmd,seval]
  refine onC_q (rights_q t) rfl ?_
  rw [hr]
  (first | apply envO | apply envQ); simp only [vmp,↓vmd,seval]; rfl
  simp only [vmp,↓vmd,seval]
  refine onC_q alive_q rfl ?_
  (first | apply envO | apply envQ); simp only [vmp,↓vmd,seval]; rfl
  simp only [vmp,↓vmd,seval]
  exact gives_pure
 have e1 : encR t = (encF t, 0) := by simp [encR, hr]
 have e2 : uniR t = (unitsF t, 0) := by simp [uniR, hr]
 have d1 : decR (encF t) = (t, ((encF t).length : Int), 0) := by rw [decR, deco_enc hr (Nat.le_refl _)]; simp
 have d2 : froR (unitsF t) = (t, ((unitsF t).length : Int), 0) := by rw [froR, from_enc hr (Nat.le_refl _)]; simp
 have l1 := encF_len t
 have l2 := unitsF_len t
 rw [e1]
 (first | apply envO | apply envQ); simp only [vmp,↓vmd,seval]; rfl
 simp only [vmp,↓vmd,seval]
 refine onC_q (units_q t ht) rfl ?_
 rw [e2]
 (first | apply envO | apply envQ); simp only [vmp,↓vmd,seval]; rfl
 simp only [vmp,↓vmd,seval]
 refine onC_q (rights_q t) rfl ?_
 rw [hr]
 (first | apply envO | apply envQ); simp only [vmp,↓vmd,seval]; rfl
 simp only [vmp,↓vmd,seval]
 refine onC_q (decode_q _ (enc_byt hr) (by omega)) rfl ?_
 rw [d1]
 (first | apply envO | apply envQ); simp only [vmp,↓vmd,seval]; rfl
 simp only [vmp,↓vmd,seval]
 refine onC_q (fromu_q _ (units_uns hr) (by omega)) rfl ?_
 rw [d2]
 (first | apply envO | apply envQ); simp only [vmp,↓vmd,seval]; rfl
 simp only [vmp,↓vmd,seval]
 refine onIf_intro fun _ => ?_
 simp only [vmp,↓vmd,seval]
 refine onIf_intro fun _ => ?_
 simp only [vmp,↓vmd,seval]
 refine onC_q (samer_q _ _) rfl ?_
 rw [decide_eq_true rfl]
 (first | apply envO | apply envQ); simp only [vmp,↓vmd,seval]; rfl
 simp only [vmp,↓vmd,seval]
 refine onC_q (samer_q _ _) rfl ?_
 rw [decide_eq_true rfl]
 (first | apply envO | apply envQ); simp only [vmp,↓vmd,seval]; rfl
 simp only [vmp,↓vmd,seval]
 have hbyte : ∀ k : Nat, k ≤ t.length → byteF t (k : Int) = sumF (t.take k) := fun k hk => by rw [byteF_ok hr (by omega) (by omega), Int.toNat_natCast]
 have hplc : ∀ k : Nat, k ≤ t.length → placeF t (sumF (t.take k)) = (k : Int) := fun k hk => by
  rw [placeF_ok hr (sum_le (t := t) (k := k)).1, plc_sum hk, Int.zero_add]
 refine loop_at (T := Nat) (fun k => [(13, .pure (I k)), (3, .pure (.sl ((encF t).map B))), (0, .pure (.sl (t.map R)))]) (fun _ => []) (fun k => k ≤ t.length + 1) (fun k => t.length + 1 - k)
  0 [] (by simp) rfl (by simp) (by simp only [kpp,seval]) (by simp only [kpp,seval]) ?_
 intro k hk
 unfold c8_1
 simp only [vmp,↓vmd,seval]
 refine onIf_intro fun _ => ?_
 simp only [vmp,↓vmd,seval]
 by_cases c1 : (k : Int) ≤ (t.length : Int)
 case' neg => (
  refine onB_neg c1 ?_
  simp only [c1, vmp,↓vmd,seval]
  unfold c8_0
  simp only [vmp,↓vmd,seval]
  refine onIf_intro fun _ => ?_
  simp only [vmp,↓vmd,seval]
  refine onC_q (byte_q t t.length ht) rfl ?_
  rw [hbyte _ (Nat.le_refl _), List.take_length, show sumF t = ((encF t).length : Int) from rfl]
  (first | apply envO | apply envQ); simp only [vmp,↓vmd,seval]; rfl
  simp only [vmp,↓vmd,seval]
  refine onIf_intro fun _ => ?_
  simp only [vmp,↓vmd,seval]
  refine onC_q alive_q rfl ?_
  (first | apply envO | apply envQ); simp only [vmp,↓vmd,seval]; rfl
  simp only [vmp,↓vmd,seval]
  exact gives_pure)
 have hkl : k ≤ t.length := by omega
 have hs := sum_le (t := t) (k := k)
 have hp := hplc k hkl
 refine onB_pos c1 ?_
 simp only [c1, vmp,↓vmd,seval]
 refine onC_q (byte_q t k ht) rfl ?_
 rw [hbyte _ hkl]
 (first | apply envO | apply envQ); simp only [vmp,↓vmd,seval]; rfl
 simp only [vmp,↓vmd,seval]
 have hnext : IntKind.wrap .i64 ((k : Int) + 1) = ((k + 1 : Nat) : Int) := by rw [wrap_id (by omega) (by omega)]; omega
 by_cases c2 : (0 : Int) < (k : Int)
 ·obtain ⟨m, rfl⟩ : ∃ m, k = m + 1 := ⟨k - 1, by omega⟩
  have hm : m < t.length := by omega
  have wk : IntKind.wrap .i64 (((m + 1 : Nat) : Int) - 1) = (m : Int) := by rw [wrap_id (by omega) (by omega)]; omega
  have hs1 := sumF_snoc hm
  have hz := szF_pos (r := t[m])
  have c3 : ¬ sumF (t.take (m + 1)) ≤ sumF (t.take m) := by omega
  refine onB_pos c2 ?_
  simp only [c2, wk, vmp,↓vmd,seval]
  refine onC_q (byte_q t m ht) rfl ?_
  rw [hbyte _ (by omega)]
  (first | apply envO | apply envQ); simp only [vmp,↓vmd,seval]; rfl
  simp only [c2, vmp,↓vmd,seval]
  refine onB_neg c3 ?_
  simp only [c2, c3, vmp,↓vmd,seval]
  refine onC_q (place_q t _ ht (by omega)) rfl ?_
  rw [hp]
  (first | apply envO | apply envQ); simp only [vmp,↓vmd,seval]; rfl
  simp only [c2, c3, vmp,↓vmd,seval]
  refine onBk_to (m + 1 + 1) [] (by simp) rfl (by omega) (by omega) (by simp only [hnext, kpp,seval]) (by simp only [kpp,seval])
 ·refine onB_neg c2 ?_
  generalize sumF (t.take k) = p at *
  simp only [c2, vmp,↓vmd,seval]
  refine onC_q (place_q t p ht (by omega)) rfl ?_
  rw [hp]
  (first | apply envO | apply envQ); simp only [vmp,↓vmd,seval]; rfl
  simp only [c2, vmp,↓vmd,seval]
  refine onBk_to (k + 1) [] (by simp) rfl (by omega) (by omega) (by simp only [hnext, kpp,seval]) (by simp only [kpp,seval])
theorem back_all (vs : List V) (h : OkTs Tryd.prog Tryd.f8.params.toList vs) : FnQ Tryd.prog 8 vs [.bool true] := by
 rw [Tryd.params8] at h
 match vs, h with
 | [x], h =>
  obtain ⟨h1, _⟩ := h
  obtain ⟨t, rfl⟩ := runes_of h1
  exact back_law t
end Go.Proofs.YtcngcapbikfbnaaDoor.W
