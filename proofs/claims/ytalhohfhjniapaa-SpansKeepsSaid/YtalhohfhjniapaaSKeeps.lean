/-
  The law SpansKeeps: what its function does, for every input. No condition.
-/
import Derived.Test.YtalhohfhjniapaaNorm1
import Derived.Test.YtalhohfhjniapaaParts
import Derived.Test.YtalhohfhjniapaaSpPlain
namespace Go.Proofs.Ytalhohfhjniapaa.W
open Go Go.Vm Go.Proofs
set_option maxRecDepth 100000
set_option linter.unusedSimpArgs false
/-! typecase/typecaselaw05.SpansKeeps -/
def c5 : AC :=
 (.seq (.reg [oo 3 (.box (.s 1)),
 oo 4 (.mov (nB false))])
 (.seq (.seq (.reg [oo 8 (.mov (.s 0)),
 oo 9 (.call 6 [(.s 8)]),
 oo 10 (.mov (.s 9)),
 og 11 10 false (.fldA 0 (.s 3)),
 og 12 10 false (.load false 1 (.s 11)),
 og 13 10 false (.bin .gtr (.s 12) (nI 60)),
 oo 14 (.pick (.s 10) (nB true) (.s 13)),
 oo 15 (.mov (.s 14)),
 og 16 15 false (.fldA 0 (.s 3)),
 og 17 15 false (.load false 1 (.s 16)),
 og 18 15 false (.bin .lss (.s 17) (nI 1)),
 oo 19 (.pick (.s 15) (nB true) (.s 18))])
 (.cond (.s 19)
 (.seq (.reg [oo 4 (.mov (nB true))])
 .ret)
 .skip))
 (.seq (.reg [oo 20 (.mov (.s 0)),
 oo 21 (.fldA 0 (.s 3)),
 oo 22 (.load false 1 (.s 21)),
 oo 23 (.call 8 [(.s 20), (.s 22)]),
 oo 5 (.mov (.s 23))])
 (.seq (.seq (.reg [oo 24 (.mov (.s 5)),
 oo 25 (.fldA 0 (.s 3)),
 oo 26 (.load false 1 (.s 25)),
 oo 27 (.call 10 [(.s 24), (.s 26)]),
 oo 28 (.un .not (.s 27)),
 oo 29 (.mov (.s 28)),
 og 30 29 false (.mov (.s 5)),
 og 31 29 false (.fldA 0 (.s 3)),
 og 32 29 false (.load false 1 (.s 31)),
 og 33 29 false (.call 8 [(.s 30), (.s 32)]),
 og 34 29 false (.mov (.s 5)),
 og 35 29 false (.call 7 [(.s 33), (.s 34)]),
 og 36 29 false (.un .not (.s 35)),
 oo 37 (.pick (.s 29) (nB true) (.s 36)),
 oo 38 (.mov (.s 37)),
 og 39 38 false (.mov (.s 5)),
 og 40 38 false (.fldA 0 (.s 3)),
 og 41 38 false (.load false 1 (.s 40)),
 og 42 38 false (.call 13 [(.s 39), (nI 0), (.s 41)]),
 og 43 38 false (.mov (.s 5)),
 og 44 38 false (.call 7 [(.s 42), (.s 43)]),
 og 45 38 false (.un .not (.s 44)),
 oo 46 (.pick (.s 38) (nB true) (.s 45))])
 (.cond (.s 46)
 (.seq (.reg [oo 4 (.mov (nB false))])
 .ret)
 .skip))
 (.seq (.reg [oo 47 (.mov (.s 5)),
 oo 48 (.fldA 1 (.s 3)),
 oo 49 (.load false 1 (.s 48)),
 oo 50 (.fldA 2 (.s 3)),
 oo 51 (.load false 1 (.s 50)),
 oo 52 (.fldA 3 (.s 3)),
 oo 53 (.load false 1 (.s 52)),
 oo 54 (.call 12 [(.s 47), (.s 49), (.s 51), (.s 53)]),
 oo 6 (.mov (.s 54))])
 (.seq (.reg [oo 55 (.fldA 1 (.s 3)),
 oo 56 (.load false 1 (.s 55)),
 oo 57 (.fldA 0 (.s 3)),
 oo 58 (.load false 1 (.s 57)),
 oo 59 (.bin .sub (.s 58) (nI 1)),
 oo 60 (.mn (.s 56) (.s 59)),
 oo 61 (.mx (nI 0) (.s 60)),
 oo 7 (.mov (.s 61))])
 (.seq (.regq [oo 62 (.mov (.s 6)),
 oo 63 (.fldA 0 (.s 3)),
 oo 64 (.load false 1 (.s 63)),
 oo 65 (.call 10 [(.s 62), (.s 64)]),
 oo 66 (.mov (.s 65)),
 og 67 66 true (.mov (.s 5)),
 og 68 66 true (.fldA 1 (.s 3)),
 og 69 66 true (.load false 1 (.s 68)),
 og 70 66 true (.fldA 2 (.s 3)),
 og 71 66 true (.load false 1 (.s 70)),
 og 72 66 true (.fldA 3 (.s 3)),
 og 73 66 true (.load false 1 (.s 72)),
 og 74 66 true (.bin .rem (.s 73) (nI 2)),
 og 75 66 true (.call 12 [(.s 67), (.s 69), (.s 71), (.s 74)]),
 og 76 66 true (.fldA 1 (.s 3)),
 og 77 66 true (.load false 1 (.s 76)),
 og 78 66 true (.fldA 2 (.s 3)),
 og 79 66 true (.load false 1 (.s 78)),
 og 80 66 true (.fldA 3 (.s 3)),
 og 81 66 true (.load false 1 (.s 80)),
 og 82 66 true (.call 12 [(.s 75), (.s 77), (.s 79), (.s 81)]),
 og 83 66 true (.mov (.s 6)),
 og 84 66 true (.call 7 [(.s 82), (.s 83)]),
 oo 85 (.pick (.s 66) (.s 84) (nB false)),
 oo 86 (.mov (.s 85)),
 og 87 86 true (.mov (.s 5)),
 og 88 86 true (.mov (.s 7)),
 og 89 86 true (.mov (.s 7)),
 og 90 86 true (.bin .add (.s 89) (nI 1)),
 og 91 86 true (.mov (.s 5)),
 og 92 86 true (.mov (.s 7)),
 og 93 86 true (.call 14 [(.s 91), (.s 92)]),
 og 94 86 true (.call 12 [(.s 87), (.s 88), (.s 90), (.s 93)]),
 og 95 86 true (.mov (.s 5))]
[og 96 86 true (.call 7 [(.s 94), (.s 95)]),
 oo 97 (.pick (.s 86) (.s 96) (nB false)),
 oo 4 (.mov (.s 97))])
 .ret)))))))
theorem k5 : OkF 5 Try.f5 c5 [.t 4] 98 := ⟨Try.func5, by kernel_rfl, by kernel_rfl, by kernel_rfl, Try.ntmps5⟩
theorem keeps_law (l : List Sp) (n lo hi x : Int) : FnQ Try.prog 5 [.sl (l.map sp), .agg [I n, I lo, I hi, I x]] [.bool true] := by
 refine k5.q (by simp) ?_
 unfold c5
 simp only [vmp,↓vmd,seval]
 refine onC_q (many_q l) rfl ?_
 (first | apply envO | apply envQ); simp only [vmp,↓vmd,seval]; rfl
 simp only [vmp,↓vmd,seval]
 by_cases h0 : 20 < l.length
 ·refine onB_pos h0 ?_
  simp only [h0, vmp,↓vmd,seval]
  exact gives_pure
 refine onB_neg h0 ?_
 simp only [h0, vmp,↓vmd,seval]
 refine onB_dec (fun h1 => ?_) (fun h1 => ?_)
 ·simp only [h1, vmp,↓vmd,seval]
  exact gives_pure
 simp only [h1, vmp,↓vmd,seval]
 refine onB_dec (fun h2 => ?_) (fun h2 => ?_)
 ·simp only [h2, vmp,↓vmd,seval]
  exact gives_pure
 (first | apply envO | apply envQ); simp only [h0, h1, h2, vmp,↓vmd,seval]; rfl
 simp only [h0, h1, h2, vmp,↓vmd,seval]
 refine onC_q (norms_q l n (by omega) (by omega)) rfl ?_
 obtain ⟨v, hv⟩ : ∃ v, valsF l n = v := ⟨_, rfl⟩
 have hvl : (v.length : Int) = n := by rw [← hv, vals_len]; omega
 have hal : (ofF v).length ≤ 60 := by have := ofF_len v; omega
 have hvn : valsF (ofF v) n = v := by rw [← hvl]; exact vals_of v
 rw [hv]
 (first | apply envO | apply envQ); simp only [vmp,↓vmd,seval]; rfl
 simp only [vmp,↓vmd,seval]
 refine onC_q (whole_q _ _) rfl ?_
 rw [whole_of v hvl.symm]
 (first | apply envO | apply envQ); simp only [vmp,↓vmd,seval]; rfl
 simp only [vmp,↓vmd,seval]
 refine onC_q (norms_q (ofF v) n hal (by omega)) rfl ?_
 rw [hvn]
 (first | apply envO | apply envQ); simp only [vmp,↓vmd,seval]; rfl
 simp only [vmp,↓vmd,seval]
 refine onC_q (sames_q _ _) rfl ?_
 rw [decide_eq_true rfl]
 (first | apply envO | apply envQ); simp only [vmp,↓vmd,seval]; rfl
 simp only [vmp,↓vmd,seval]
 have hp := part_q v 0 n (by omega)
 rw [take_of, clip_all (by omega) (by omega)] at hp
 refine onC_q hp rfl ?_
 (first | apply envO | apply envQ); simp only [vmp,↓vmd,seval]; rfl
 simp only [vmp,↓vmd,seval]
 refine onC_q (sames_q _ _) rfl ?_
 rw [decide_eq_true rfl]
 (first | apply envO | apply envQ); simp only [vmp,↓vmd,seval]; rfl
 simp only [vmp,↓vmd,seval]
 refine onC_q (set_q v lo hi x (by omega)) rfl ?_
 have hw : IntKind.wrap .i64 (n - 1) = n - 1 := wrap_id (by omega) (by omega)
 (first | apply envO | apply envQ); simp only [vmp,↓vmd,seval]; rfl
 simp only [hw, vmp,↓vmd,seval]
 refine onQ_q (whole_q _ _) rfl ?_
 rw [whole_of _ (by rw [setR_len]; exact hvl.symm)]
 obtain ⟨i, hi0⟩ : ∃ i, max 0 (min lo (n - 1)) = i := ⟨_, rfl⟩
 have hw2 : IntKind.wrap .i64 (i + 1) = i + 1 := wrap_id (by omega) (by omega)
 (first | apply envO | apply envQ); simp only [hi0, vmp,↓vmd,seval]; rfl
 simp only [vmp,↓vmd,seval]
 refine onQ_q (set_q v lo hi _ (by omega)) rfl ?_
 (first | apply envO | apply envQ); simp only [vmp,↓vmd,seval]; rfl
 simp only [vmp,↓vmd,seval]
 refine onQ_q (set_q _ lo hi x (by rw [setR_len]; omega)) rfl ?_
 rw [setR_twice]
 (first | apply envO | apply envQ); simp only [vmp,↓vmd,seval]; rfl
 simp only [vmp,↓vmd,seval]
 refine onQ_q (sames_q _ _) rfl ?_
 rw [decide_eq_true rfl]
 (first | apply envO | apply envQ); simp only [vmp,↓vmd,seval]; rfl
 simp only [hw2, vmp,↓vmd,seval]
 refine onQ_q (at_q _ _) rfl ?_
 (first | apply envO | apply envQ); simp only [vmp,↓vmd,seval]; rfl
 simp only [vmp,↓vmd,seval]
 refine onQ_q (set_q v i (i + 1) _ (by omega)) rfl ?_
 rw [setR_at (by omega) (by omega)]
 (first | apply envO | apply envQ); simp only [vmp,↓vmd,seval]; rfl
 simp only [vmp,↓vmd,seval]
 refine onC_q (sames_q _ _) rfl ?_
 rw [decide_eq_true rfl]
 (first | apply envO | apply envQ); simp only [vmp,↓vmd,seval]; rfl
 simp only [vmp,↓vmd,seval]
 exact gives_pure
theorem four_of {v : V} (h : OkE true [.int .i64, .int .i64, .int .i64, .int .i64] v) : ∃ a b c d, v = .agg [I a, I b, I c, I d] := by
 obtain ⟨cs, rfl, hc⟩ := agg_of h
 clear h
 match cs, hc with
 | [a, b, c, d], ⟨h1, h2, h3, h4, _⟩ =>
  obtain ⟨x, rfl, _⟩ := okN_of h1
  obtain ⟨y, rfl, _⟩ := okN_of h2
  obtain ⟨z, rfl, _⟩ := okN_of h3
  obtain ⟨w, rfl, _⟩ := okN_of h4
  exact ⟨x, y, z, w, rfl⟩
theorem ty_spans : tyC Try.prog 20 22 = some (false, [.sl true [.int .i64, .int .i64, .int .i64]]) := by kernel_rfl
theorem ty_stretch : tyC Try.prog 20 28 = some (true, [.int .i64, .int .i64, .int .i64, .int .i64]) := by kernel_rfl
theorem keeps_all (vs : List V) (h : OkTs Try.prog Try.f5.params.toList vs) : FnQ Try.prog 5 vs [.bool true] := by
 rw [Try.params5] at h
 match vs, h with
 | [a, b], h =>
  obtain ⟨h1, h2, _⟩ := h
  obtain ⟨l, rfl, _⟩ := spans_of (cell_of (h1 _ _ _ ty_spans))
  obtain ⟨n, lo, hi, x, rfl⟩ := four_of (h2 _ _ _ ty_stretch)
  exact keeps_law l n lo hi x
end Go.Proofs.Ytalhohfhjniapaa.W
