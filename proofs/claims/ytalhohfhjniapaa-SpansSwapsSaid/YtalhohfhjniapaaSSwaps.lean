/-
  The law SpansSwaps: what its function does, for every input. No condition.
-/
import Derived.Test.YtalhohfhjniapaaNorm1
import Derived.Test.YtalhohfhjniapaaSpPlain
namespace Go.Proofs.Ytalhohfhjniapaa.W
open Go Go.Vm Go.Proofs
set_option maxRecDepth 100000
set_option linter.unusedSimpArgs false
/-! typecase/typecaselaw05.SpansSwaps -/
def c4 : AC :=
 (.seq (.reg [oo 3 (.box (.s 1)),
 oo 4 (.mov (nB false))])
 (.seq (.seq (.reg [oo 7 (.mov (.s 0)),
 oo 8 (.call 6 [(.s 7)]),
 oo 9 (.mov (.s 8)),
 og 10 9 false (.fldA 0 (.s 3)),
 og 11 9 false (.load false 1 (.s 10)),
 og 12 9 false (.bin .gtr (.s 11) (nI 60)),
 oo 13 (.pick (.s 9) (nB true) (.s 12)),
 oo 14 (.mov (.s 13)),
 og 15 14 false (.fldA 0 (.s 3)),
 og 16 14 false (.load false 1 (.s 15)),
 og 17 14 false (.bin .lss (.s 16) (nI 1)),
 oo 18 (.pick (.s 14) (nB true) (.s 17)),
 oo 19 (.mov (.s 18)),
 og 20 19 false (.fldA 1 (.s 3)),
 og 21 19 false (.load false 1 (.s 20)),
 og 22 19 false (.bin .lss (.s 21) (nI 0)),
 oo 23 (.pick (.s 19) (nB true) (.s 22)),
 oo 24 (.mov (.s 23)),
 og 25 24 false (.fldA 2 (.s 3)),
 og 26 24 false (.load false 1 (.s 25)),
 og 27 24 false (.fldA 1 (.s 3)),
 og 28 24 false (.load false 1 (.s 27)),
 og 29 24 false (.bin .lss (.s 26) (.s 28)),
 oo 30 (.pick (.s 24) (nB true) (.s 29)),
 oo 31 (.mov (.s 30)),
 og 32 31 false (.fldA 2 (.s 3)),
 og 33 31 false (.load false 1 (.s 32)),
 og 34 31 false (.fldA 0 (.s 3)),
 og 35 31 false (.load false 1 (.s 34)),
 og 36 31 false (.bin .gtr (.s 33) (.s 35)),
 oo 37 (.pick (.s 31) (nB true) (.s 36))])
 (.cond (.s 37)
 (.seq (.reg [oo 4 (.mov (nB true))])
 .ret)
 .skip))
 (.seq (.reg [oo 38 (.mov (.s 0)),
 oo 39 (.fldA 0 (.s 3)),
 oo 40 (.load false 1 (.s 39)),
 oo 41 (.call 8 [(.s 38), (.s 40)]),
 oo 5 (.mov (.s 41))])
 (.seq (.reg [oo 42 (.fldA 2 (.s 3)),
 oo 43 (.load false 1 (.s 42)),
 oo 44 (.fldA 1 (.s 3)),
 oo 45 (.load false 1 (.s 44)),
 oo 46 (.bin .sub (.s 43) (.s 45)),
 oo 6 (.mov (.s 46))])
 (.seq (.regq [oo 47 (.mov (.s 5)),
 oo 48 (.fldA 0 (.s 3)),
 oo 49 (.load false 1 (.s 48)),
 oo 50 (.call 10 [(.s 47), (.s 49)]),
 oo 51 (.mov (.s 50)),
 og 52 51 true (.mov (.s 5)),
 og 53 51 true (.fldA 1 (.s 3)),
 og 54 51 true (.load false 1 (.s 53)),
 og 55 51 true (.mov (.s 6)),
 og 56 51 true (.mov (.s 6)),
 og 57 51 true (.fldA 3 (.s 3)),
 og 58 51 true (.load false 1 (.s 57)),
 og 59 51 true (.call 11 [(.s 52), (.s 54), (.s 55), (.s 56), (.s 58)]),
 og 60 51 true (.mov (.s 5)),
 og 61 51 true (.fldA 1 (.s 3)),
 og 62 51 true (.load false 1 (.s 61)),
 og 63 51 true (.fldA 2 (.s 3)),
 og 64 51 true (.load false 1 (.s 63)),
 og 65 51 true (.fldA 3 (.s 3)),
 og 66 51 true (.load false 1 (.s 65)),
 og 67 51 true (.call 12 [(.s 60), (.s 62), (.s 64), (.s 66)]),
 og 68 51 true (.call 7 [(.s 59), (.s 67)]),
 oo 69 (.pick (.s 51) (.s 68) (nB false)),
 oo 70 (.mov (.s 69)),
 og 71 70 true (.mov (.s 5)),
 og 72 70 true (.fldA 1 (.s 3)),
 og 73 70 true (.load false 1 (.s 72)),
 og 74 70 true (.fldA 3 (.s 3)),
 og 75 70 true (.load false 1 (.s 74)),
 og 76 70 true (.call 11 [(.s 71), (.s 73), (nI 0), (nI 0), (.s 75)]),
 og 77 70 true (.mov (.s 5))]
[og 78 70 true (.call 7 [(.s 76), (.s 77)]),
 oo 79 (.pick (.s 70) (.s 78) (nB false)),
 oo 4 (.mov (.s 79))])
 .ret)))))
theorem k4 : OkF 4 Try.f4 c4 [.t 4] 80 := ⟨Try.func4, by kernel_rfl, by kernel_rfl, by kernel_rfl, Try.ntmps4⟩
theorem swaps_law (l : List Sp) (n lo hi x : Int) : FnQ Try.prog 4 [.sl (l.map sp), .agg [I n, I lo, I hi, I x]] [.bool true] := by
 refine k4.q (by simp) ?_
 unfold c4
 simp only [vmp,↓vmd,seval]
 refine onC_q (many_q l) rfl ?_
 (first | apply envO | apply envQ); simp only [vmp,↓vmd,seval]; rfl
 simp only [vmp,↓vmd,seval]
 by_cases h0 : 20 < l.length
 ·refine onB_pos h0 ?_
  simp only [h0, vmp,↓vmd,seval]
  exact gives_pure
 refine onB_neg h0 ?_
 simp only [h0, vmp,↓vmd,seval]
 refine onB_dec (fun h1 => ?_) (fun h1 => ?_)
 ·simp only [h1, vmp,↓vmd,seval]
  exact gives_pure
 simp only [h1, vmp,↓vmd,seval]
 refine onB_dec (fun h2 => ?_) (fun h2 => ?_)
 ·simp only [h2, vmp,↓vmd,seval]
  exact gives_pure
 simp only [h2, vmp,↓vmd,seval]
 refine onB_dec (fun h3 => ?_) (fun h3 => ?_)
 ·simp only [h3, vmp,↓vmd,seval]
  exact gives_pure
 simp only [h3, vmp,↓vmd,seval]
 refine onB_dec (fun h4 => ?_) (fun h4 => ?_)
 ·simp only [h4, vmp,↓vmd,seval]
  exact gives_pure
 simp only [h4, vmp,↓vmd,seval]
 refine onB_dec (fun h5 => ?_) (fun h5 => ?_)
 ·simp only [h5, vmp,↓vmd,seval]
  exact gives_pure
 (first | apply envO | apply envQ); simp only [h0, h1, h2, h3, h4, h5, vmp,↓vmd,seval]; rfl
 simp only [h0, h1, h2, h3, h4, h5, vmp,↓vmd,seval]
 obtain ⟨a, rfl⟩ := Int.eq_ofNat_of_zero_le (show 0 ≤ lo by omega)
 obtain ⟨b, rfl⟩ := Int.eq_ofNat_of_zero_le (show 0 ≤ hi by omega)
 have hw : IntKind.wrap .i64 ((b : Int) - (a : Int)) = ((b - a : Nat) : Int) := by rw [wrap_id (by omega) (by omega)]; omega
 refine onC_q (norms_q l n (by omega) (by omega)) rfl ?_
 obtain ⟨v, hv⟩ : ∃ v, valsF l n = v := ⟨_, rfl⟩
 have hvl : (v.length : Int) = n := by rw [← hv, vals_len]; omega
 rw [hv]
 (first | apply envO | apply envQ); simp only [hw, vmp,↓vmd,seval]; rfl
 simp only [hw, vmp,↓vmd,seval]
 refine onQ_q (whole_q _ _) rfl ?_
 rw [whole_of v hvl.symm]
 (first | apply envO | apply envQ); simp only [vmp,↓vmd,seval]; rfl
 simp only [vmp,↓vmd,seval]
 refine onQ_q (edit_q v a ((b - a : Nat) : Int) ((b - a : Nat) : Int) x a (b - a) (by omega) (by omega) (by omega) (by omega)) rfl ?_
 rw [Int.toNat_natCast, edit_set (by omega) (by omega)]
 (first | apply envO | apply envQ); simp only [vmp,↓vmd,seval]; rfl
 simp only [vmp,↓vmd,seval]
 refine onQ_q (set_q v a b x (by omega)) rfl ?_
 (first | apply envO | apply envQ); simp only [vmp,↓vmd,seval]; rfl
 simp only [vmp,↓vmd,seval]
 refine onQ_q (sames_q _ _) rfl ?_
 rw [decide_eq_true rfl]
 (first | apply envO | apply envQ); simp only [vmp,↓vmd,seval]; rfl
 simp only [vmp,↓vmd,seval]
 refine onQ_q (edit_q v a 0 0 x a 0 (by omega) (by omega) (by omega) (by omega)) rfl ?_
 rw [show (0 : Int).toNat = 0 from rfl, edit_none]
 (first | apply envO | apply envQ); simp only [vmp,↓vmd,seval]; rfl
 simp only [vmp,↓vmd,seval]
 refine onC_q (sames_q _ _) rfl ?_
 rw [decide_eq_true rfl]
 (first | apply envO | apply envQ); simp only [vmp,↓vmd,seval]; rfl
 simp only [vmp,↓vmd,seval]
 exact gives_pure
theorem four_of {v : V} (h : OkE true [.int .i64, .int .i64, .int .i64, .int .i64] v) : ∃ a b c d, v = .agg [I a, I b, I c, I d] := by
 obtain ⟨cs, rfl, hc⟩ := agg_of h
 clear h
 match cs, hc with
 | [a, b, c, d], ⟨h1, h2, h3, h4, _⟩ =>
  obtain ⟨x, rfl, _⟩ := okN_of h1
  obtain ⟨y, rfl, _⟩ := okN_of h2
  obtain ⟨z, rfl, _⟩ := okN_of h3
  obtain ⟨w, rfl, _⟩ := okN_of h4
  exact ⟨x, y, z, w, rfl⟩
theorem ty_spans : tyC Try.prog 20 22 = some (false, [.sl true [.int .i64, .int .i64, .int .i64]]) := by kernel_rfl
theorem ty_stretch : tyC Try.prog 20 28 = some (true, [.int .i64, .int .i64, .int .i64, .int .i64]) := by kernel_rfl
theorem swaps_all (vs : List V) (h : OkTs Try.prog Try.f4.params.toList vs) : FnQ Try.prog 4 vs [.bool true] := by
 rw [Try.params4] at h
 match vs, h with
 | [a, b], h =>
  obtain ⟨h1, h2, _⟩ := h
  obtain ⟨l, rfl, _⟩ := spans_of (cell_of (h1 _ _ _ ty_spans))
  obtain ⟨n, lo, hi, x, rfl⟩ := four_of (h2 _ _ _ ty_stretch)
  exact swaps_law l n lo hi x
end Go.Proofs.Ytalhohfhjniapaa.W
