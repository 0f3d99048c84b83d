/-
  The law SpansNorms: what its function does, for every input. No condition.
-/
import Derived.Test.YtalhohfhjniapaaNorm1
namespace Go.Proofs.Ytalhohfhjniapaa.W
open Go Go.Vm Go.Proofs
set_option maxRecDepth 100000
set_option linter.unusedSimpArgs false
/-! typecase/typecaselaw05.SpansNorms -/
def c3 : AC :=
 (.seq (.reg [oo 4 (.mov (nB false))])
 (.seq (.seq (.reg [oo 5 (.mov (.s 0)),
 oo 6 (.call 6 [(.s 5)]),
 oo 7 (.mov (.s 6)),
 og 8 7 false (.mov (.s 1)),
 og 9 7 false (.bin .gtr (.s 8) (nI 60)),
 oo 10 (.pick (.s 7) (nB true) (.s 9))])
 (.cond (.s 10)
 (.seq (.reg [oo 4 (.mov (nB true))])
 .ret)
 .skip))
 (.seq (.reg [oo 11 (.mov (.s 0)),
 oo 12 (.mov (.s 1)),
 oo 13 (.call 8 [(.s 11), (.s 12)]),
 oo 14 (.mov (.s 0)),
 oo 15 (.mov (.s 1)),
 oo 16 (.call 9 [(.s 14), (.s 15)]),
 oo 17 (.call 7 [(.s 13), (.s 16)]),
 oo 4 (.mov (.s 17))])
 .ret)))
theorem k3 : OkF 3 Try.f3 c3 [.t 4] 18 := ⟨Try.func3, by kernel_rfl, by kernel_rfl, by kernel_rfl, Try.ntmps3⟩
theorem norms_law (l : List Sp) (n : Int) : FnQ Try.prog 3 [.sl (l.map sp), I n] [.bool true] := by
 refine k3.q (by simp) ?_
 unfold c3
 simp only [vmp,↓vmd,seval]
 refine onC_q (many_q l) rfl ?_
 (first | apply envO | apply envQ); simp only [vmp,↓vmd,seval]; rfl
 simp only [vmp,↓vmd,seval]
 by_cases h0 : 20 < l.length
 ·refine onB_pos h0 ?_
  simp only [h0, vmp,↓vmd,seval]
  exact gives_pure
 refine onB_neg h0 ?_
 simp only [h0, vmp,↓vmd,seval]
 refine onB_dec (fun h1 => ?_) (fun h1 => ?_)
 ·simp only [h1, vmp,↓vmd,seval]
  exact gives_pure
 (first | apply envO | apply envQ); simp only [h0, h1, vmp,↓vmd,seval]; rfl
 simp only [h0, h1, vmp,↓vmd,seval]
 refine onC_q (norms_q l n (by omega) (by omega)) rfl ?_
 (first | apply envO | apply envQ); simp only [vmp,↓vmd,seval]; rfl
 simp only [vmp,↓vmd,seval]
 refine onC_q (norm_q l n (by omega)) rfl ?_
 (first | apply envO | apply envQ); simp only [vmp,↓vmd,seval]; rfl
 simp only [vmp,↓vmd,seval]
 refine onC_q (sames_q _ _) rfl ?_
 rw [decide_eq_true rfl]
 (first | apply envO | apply envQ); simp only [vmp,↓vmd,seval]; rfl
 simp only [vmp,↓vmd,seval]
 exact gives_pure
theorem ty_spans : tyC Try.prog 20 22 = some (false, [.sl true [.int .i64, .int .i64, .int .i64]]) := by kernel_rfl
theorem ty_int : tyC Try.prog 20 3 = some (false, [.int .i64]) := by kernel_rfl
theorem norms_all (vs : List V) (h : OkTs Try.prog Try.f3.params.toList vs) : FnQ Try.prog 3 vs [.bool true] := by
 rw [Try.params3] at h
 match vs, h with
 | [a, b], h =>
  obtain ⟨h1, h2, _⟩ := h
  obtain ⟨l, rfl, _⟩ := spans_of (cell_of (h1 _ _ _ ty_spans))
  obtain ⟨n, rfl, _⟩ := okN_of (cell_of (h2 _ _ _ ty_int))
  exact norms_law l n
end Go.Proofs.Ytalhohfhjniapaa.W
