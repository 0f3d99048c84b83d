/-
  Texts: which byte, which sign. No condition but on sizes.
-/
import Derived.Test.YtcngcapbikfbnaaDoorU2
namespace Go.Proofs.YtcngcapbikfbnaaDoor.W
open Go Go.Vm Go.Proofs
set_option maxRecDepth 100000
set_option linter.unusedSimpArgs false
set_option maxHeartbeats 1000000
/-! typecase/utf.Byte -/
def c17_0 : AC :=
 (.seq (.reg [oo 34 (.mov (.s 5)),
 oo 4 (.mov (.s 34))])
 .ret)
def c17_1 : AC :=
 (.seq (.reg [oo 26 (.bin .lss (.s 25) (.s 24))])
 (.seq (.cond (.s 26)
 .skip
 (.exit 0))
 (.seq (.block 1
 (.seq (.reg [oo 27 (.idxA 1 (.s 23) (.s 25)),
 oo 28 (.load false 1 (.s 27)),
 oo 7 (.mov (.s 28))])
 (.reg [oo 29 (.mov (.s 5)),
 oo 30 (.mov (.s 7)),
 oo 31 (.call 32 [(.s 30)]),
 oo 32 (.bin .add (.s 29) (.s 31)),
 oo 5 (.mov (.s 32))])))
 (.reg [oo 33 (.bin .add (.s 25) (nI 1)),
 oo 25 (.mov (.s 33))]))))
def c17 : AC :=
 (.seq (.reg [oo 4 (.mov (nI 0))])
 (.seq (.seq (.reg [oo 8 (.mov (.s 0)),
 oo 9 (.call 14 [(.s 8)]),
 oo 10 (.un .not (.s 9)),
 oo 11 (.mov (.s 10)),
 og 12 11 false (.mov (.s 1)),
 og 13 11 false (.bin .lss (.s 12) (nI 0)),
 oo 14 (.pick (.s 11) (nB true) (.s 13)),
 oo 15 (.mov (.s 14)),
 og 16 15 false (.mov (.s 1)),
 og 17 15 false (.mov (.s 0)),
 og 18 15 false (.len (.s 17)),
 og 19 15 false (.bin .gtr (.s 16) (.s 18)),
 oo 20 (.pick (.s 15) (nB true) (.s 19))])
 (.cond (.s 20)
 (.seq (.reg [oo 4 (.mov (nI (-1)))])
 .ret)
 .skip))
 (.seq (.reg [oo 5 (.mov (nI 0))])
 (.seq (.seq (.reg [oo 21 (.mov (.s 0)),
 oo 22 (.mov (.s 1)),
 oo 23 (.slc 1 (.s 21) none (some (.s 22)) none),
 oo 24 (.len (.s 23)),
 oo 25 (.mov (nI 0))])
 (.block 0
 (.loop c17_1)))
 c17_0))))
/-! typecase/typecaseref02.Byte -/
def c18_0 : AC :=
 (.seq (.reg [oo 33 (.mov (.s 5)),
 oo 4 (.mov (.s 33))])
 .ret)
def c18_1 : AC :=
 (.seq (.seq (.reg [oo 20 (.mov (.s 6)),
 oo 21 (.mov (.s 1)),
 oo 22 (.bin .lss (.s 20) (.s 21))])
 (.cond (.s 22)
 .skip
 (.exit 0)))
 (.seq (.block 1
 (.reg [oo 25 (.mov (.s 5)),
 oo 26 (.mov (.s 0)),
 oo 27 (.mov (.s 6)),
 oo 28 (.idxA 1 (.s 26) (.s 27)),
 oo 29 (.load false 1 (.s 28)),
 oo 30 (.call 29 [(.s 29)]),
 oo 31 (.len (.s 30)),
 oo 32 (.bin .add (.s 25) (.s 31)),
 oo 5 (.mov (.s 32))]))
 (.reg [oo 23 (.mov (.s 6)),
 oo 24 (.bin .add (.s 23) (nI 1)),
 oo 6 (.mov (.s 24))])))
def c18 : AC :=
 (.seq (.reg [oo 4 (.mov (nI 0))])
 (.seq (.seq (.reg [oo 7 (.mov (.s 0)),
 oo 8 (.call 15 [(.s 7)]),
 oo 9 (.un .not (.s 8)),
 oo 10 (.mov (.s 9)),
 og 11 10 false (.mov (.s 1)),
 og 12 10 false (.bin .lss (.s 11) (nI 0)),
 oo 13 (.pick (.s 10) (nB true) (.s 12)),
 oo 14 (.mov (.s 13)),
 og 15 14 false (.mov (.s 1)),
 og 16 14 false (.mov (.s 0)),
 og 17 14 false (.len (.s 16)),
 og 18 14 false (.bin .gtr (.s 15) (.s 17)),
 oo 19 (.pick (.s 14) (nB true) (.s 18))])
 (.cond (.s 19)
 (.seq (.reg [oo 4 (.mov (nI (-1)))])
 .ret)
 .skip))
 (.seq (.reg [oo 5 (.mov (nI 0))])
 (.seq (.seq (.reg [oo 6 (.mov (nI 0))])
 (.block 0
 (.loop c18_1)))
 c18_0))))
theorem k18 : OkF 18 Tryd.f18 c18 [.t 4] 34 := ⟨Tryd.func18, by kernel_rfl, by kernel_rfl, by kernel_rfl, Tryd.ntmps18⟩
/-! typecase/utf.Place -/
def c19_0 : AC :=
 (.seq (.seq (.reg [oo 31 (.mov (.s 1)),
 oo 32 (.bin .eql (.s 31) (nI 0))])
 (.cond (.s 32)
 (.seq (.reg [oo 33 (.mov (.s 0)),
 oo 34 (.len (.s 33)),
 oo 4 (.mov (.s 34))])
 .ret)
 .skip))
 (.seq (.reg [oo 4 (.mov (nI (-1)))])
 .ret))
def c19_1 : AC :=
 (.seq (.reg [oo 17 (.bin .lss (.s 16) (.s 15))])
 (.seq (.cond (.s 17)
 .skip
 (.exit 0))
 (.seq (.block 1
 (.seq (.reg [oo 18 (.mov (.s 16)),
 oo 19 (.idxA 1 (.s 14) (.s 16)),
 oo 20 (.load false 1 (.s 19)),
 oo 5 (.mov (.s 18)),
 oo 6 (.mov (.s 20))])
 (.seq (.seq (.reg [oo 21 (.mov (.s 1)),
 oo 22 (.mov (.s 6)),
 oo 23 (.call 32 [(.s 22)]),
 oo 24 (.bin .lss (.s 21) (.s 23))])
 (.cond (.s 24)
 (.seq (.reg [oo 25 (.mov (.s 5)),
 oo 4 (.mov (.s 25))])
 .ret)
 .skip))
 (.reg [oo 26 (.mov (.s 1)),
 oo 27 (.mov (.s 6)),
 oo 28 (.call 32 [(.s 27)]),
 oo 29 (.bin .sub (.s 26) (.s 28)),
 oo 1 (.mov (.s 29))]))))
 (.reg [oo 30 (.bin .add (.s 16) (nI 1)),
 oo 16 (.mov (.s 30))]))))
def c19 : AC :=
 (.seq (.reg [oo 4 (.mov (nI 0))])
 (.seq (.seq (.reg [oo 7 (.mov (.s 0)),
 oo 8 (.call 14 [(.s 7)]),
 oo 9 (.un .not (.s 8)),
 oo 10 (.mov (.s 9)),
 og 11 10 false (.mov (.s 1)),
 og 12 10 false (.bin .lss (.s 11) (nI 0)),
 oo 13 (.pick (.s 10) (nB true) (.s 12))])
 (.cond (.s 13)
 (.seq (.reg [oo 4 (.mov (nI (-1)))])
 .ret)
 .skip))
 (.seq (.seq (.reg [oo 14 (.mov (.s 0)),
 oo 15 (.len (.s 14)),
 oo 16 (.mov (nI 0))])
 (.block 0
 (.loop c19_1)))
 c19_0)))
theorem k19 : OkF 19 Tryd.f19 c19 [.t 4] 35 := ⟨Tryd.func19, by kernel_rfl, by kernel_rfl, by kernel_rfl, Tryd.ntmps19⟩
/-! typecase/typecaseref02.Place -/
def c20_0 : AC :=
 (.seq (.seq (.reg [oo 32 (.mov (.s 1)),
 oo 33 (.mov (.s 5)),
 oo 34 (.bin .eql (.s 32) (.s 33))])
 (.cond (.s 34)
 (.seq (.reg [oo 35 (.mov (.s 0)),
 oo 36 (.len (.s 35)),
 oo 4 (.mov (.s 36))])
 .ret)
 .skip))
 (.seq (.reg [oo 4 (.mov (nI (-1)))])
 .ret))
def c20_1 : AC :=
 (.seq (.seq (.reg [oo 14 (.mov (.s 6)),
 oo 15 (.mov (.s 0)),
 oo 16 (.len (.s 15)),
 oo 17 (.bin .lss (.s 14) (.s 16))])
 (.cond (.s 17)
 .skip
 (.exit 0)))
 (.seq (.block 1
 (.seq (.reg [oo 20 (.mov (.s 5)),
 oo 21 (.mov (.s 0)),
 oo 22 (.mov (.s 6)),
 oo 23 (.idxA 1 (.s 21) (.s 22)),
 oo 24 (.load false 1 (.s 23)),
 oo 25 (.call 29 [(.s 24)]),
 oo 26 (.len (.s 25)),
 oo 27 (.bin .add (.s 20) (.s 26)),
 oo 5 (.mov (.s 27))])
 (.seq (.reg [oo 28 (.mov (.s 1)),
 oo 29 (.mov (.s 5)),
 oo 30 (.bin .lss (.s 28) (.s 29))])
 (.cond (.s 30)
 (.seq (.reg [oo 31 (.mov (.s 6)),
 oo 4 (.mov (.s 31))])
 .ret)
 .skip))))
 (.reg [oo 18 (.mov (.s 6)),
 oo 19 (.bin .add (.s 18) (nI 1)),
 oo 6 (.mov (.s 19))])))
def c20 : AC :=
 (.seq (.reg [oo 4 (.mov (nI 0))])
 (.seq (.seq (.reg [oo 7 (.mov (.s 0)),
 oo 8 (.call 15 [(.s 7)]),
 oo 9 (.un .not (.s 8)),
 oo 10 (.mov (.s 9)),
 og 11 10 false (.mov (.s 1)),
 og 12 10 false (.bin .lss (.s 11) (nI 0)),
 oo 13 (.pick (.s 10) (nB true) (.s 12))])
 (.cond (.s 13)
 (.seq (.reg [oo 4 (.mov (nI (-1)))])
 .ret)
 .skip))
 (.seq (.reg [oo 5 (.mov (nI 0))])
 (.seq (.seq (.reg [oo 6 (.mov (nI 0))])
 (.block 0
 (.loop c20_1)))
 c20_0))))
theorem plcF_at {t : List Int} {k : Nat} {i b : Int} (h : k < t.length) : plcF (t.drop k) i b = if b < szF t[k] then i else plcF (t.drop (k + 1)) (i + 1) (b - szF t[k]) := by
 rw [List.drop_eq_getElem_cons h]
 rfl
theorem plcF_end {t : List Int} {k : Nat} {i b : Int} (h : t.length ≤ k) : plcF (t.drop k) i b = if b = 0 then i else -1 := by
 rw [List.drop_eq_nil_of_le h]
 rfl
theorem placeF_bad {t : List Int} {a : Int} (h : ¬ (t.all rightF = true ∧ 0 ≤ a)) : placeF t a = -1 := by rw [placeF, if_neg h]
theorem placeF_ok {t : List Int} {a : Int} (h : t.all rightF = true) (h0 : 0 ≤ a) : placeF t a = plcF t 0 a := by rw [placeF, if_pos ⟨h, h0⟩]
theorem place_q (t : List Int) (a : Int) (_ht : t.length ≤ 1000) (ha9 : a ≤ 9223372036854775807) : FnQ Tryd.prog 19 [.sl (t.map R), I a] [I (placeF t a)] := by
 refine k19.q (by simp) ?_
 unfold c19
 simp only [vmp,↓vmd,seval]
 refine onC_q (rights_q t) rfl ?_
 cases ha : t.all rightF
 ·have e := placeF_bad (t := t) (a := a) (by rw [ha]; simp)
  (first | apply envO | apply envQ); simp only [vmp,↓vmd,seval]; rfl
  simp only [e, vmp,↓vmd,seval]
  exact gives_pure
 (first | apply envO | apply envQ); simp only [vmp,↓vmd,seval]; rfl
 simp only [vmp,↓vmd,seval]
 by_cases c1 : a < 0
 ·have e := placeF_bad (t := t) (a := a) (by omega)
  refine onB_pos c1 ?_
  simp only [c1, e, vmp,↓vmd,seval]
  exact gives_pure
 have e := placeF_ok ha (by omega : 0 ≤ a)
 refine onB_neg c1 ?_
 simp only [c1, vmp,↓vmd,seval]
 refine onIf_intro fun hlen => ?_
 simp only [vmp,↓vmd,seval]
 refine loop_at (T := Nat × Int) (fun s => [(16, .pure (I s.1)), (15, .pure (I t.length)), (14, .pure (.sl (t.map R))), (1, .pure (I s.2)), (0, .pure (.sl (t.map R)))]) (fun _ => []) (fun s => s.1 ≤ t.length ∧ 0 ≤ s.2 ∧ s.2 ≤ a ∧ plcF (t.drop s.1) s.1 s.2 = plcF t 0 a) (fun s => t.length - s.1)
  (0, a) [] (by simp) rfl ⟨by simp, by simp only; omega, by simp, rfl⟩ (by simp only [kpp,seval]) (by simp only [kpp,seval]) ?_
 rintro ⟨k, b⟩ ⟨hk, b0, b1, hp⟩
 simp only at hk b0 b1 hp
 unfold c19_1
 simp only [vmp,↓vmd,seval]
 by_cases h1 : (k : Int) < (t.length : Int)
 ·have hlt : k < t.length := by omega
  have hz := szF_pos (r := t[k])
  have mk := map_at (f := R) hlt
  have hr := right_at ha hlt
  rw [plcF_at hlt] at hp
  generalize t[k] = r at *
  refine onB_pos h1 ?_
  simp only [h1, mk, Int.natCast_nonneg, vmp,↓vmd,seval]
  refine onC_q (rlen_q r hr) rfl ?_
  (first | apply envO | apply envQ); simp only [vmp,↓vmd,seval]; rfl
  simp only [vmp,↓vmd,seval]
  by_cases c2 : b < szF r
  ·rw [if_pos c2] at hp
   refine onB_pos c2 ?_
   rw [e, ← hp]
   simp only [c2, vmp,↓vmd,seval]
   exact gives_pure
  rw [if_neg c2] at hp
  have w : IntKind.wrap .i64 (b - szF r) = b - szF r := wrap_id (by omega) (by omega)
  refine onB_neg c2 ?_
  simp only [c2, vmp,↓vmd,seval]
  refine onC_q (rlen_q r hr) rfl ?_
  (first | apply envO | apply envQ); simp only [vmp,↓vmd,seval]; rfl
  simp only [w, vmp,↓vmd,seval]
  refine onBk_to (k + 1, b - szF r) [] (by simp) rfl (by simp only; omega) ⟨hlt, by simp only; omega, by simp only; omega, by rw [← hp]; rfl⟩ (by simp only [next_at hlt hlen, kpp,seval]) (by simp only [kpp,seval])
 ·rw [plcF_end (by omega)] at hp
  obtain rfl : k = t.length := by omega
  refine onB_neg h1 ?_
  simp only [h1, vmp,↓vmd,seval]
  unfold c19_0
  rw [e, ← hp]
  simp only [vmp,↓vmd,seval]
  by_cases c3 : b = 0
  ·refine onB_pos c3 ?_
   rw [if_pos c3]
   simp only [vmp,↓vmd,seval]
   refine onIf_intro fun _ => ?_
   simp only [vmp,↓vmd,seval]
   exact gives_pure
  ·refine onB_neg c3 ?_
   rw [if_neg c3]
   simp only [c3, vmp,↓vmd,seval]
   exact gives_pure
end Go.Proofs.YtcngcapbikfbnaaDoor.W
