/-
  The laws of lookups at a place, and of steps.
-/
import Derived.Test.YtcjmkpkhjhjepaaGreatPos4
import Derived.Test.YtcjmkpkhjhjepaaGreatPos5
import Derived.Test.YtcjmkpkhjhjepaaGreatRPos3
import Derived.Test.YtcjmkpkhjhjepaaGreatSame29
namespace Go.Proofs.YtcjmkpkhjhjepaaGreat.W
open Go Go.Vm Go.Proofs
set_option maxRecDepth 100000
set_option linter.unusedSimpArgs false
set_option maxHeartbeats 4000000
/-! typecase/typecaselaw35.PosAll -/
def c5 : AC :=
 (.seq (.reg [oo 3 (.box (.s 0)),
 oo 6 (.mov (nB false))])
 (.seq (.seq (.reg [oo 7 (.load true 6 (.s 3)),
 oo 8 (.mov (.s 1)),
 oo 9 (.call 7 [(.s 7), (.s 8)]),
 oo 10 (.un .not (.s 9)),
 oo 11 (.mov (.s 10)),
 og 12 11 false (.mov (.s 2)),
 og 13 11 false (.len (.s 12)),
 og 14 11 false (.bin .gtr (.s 13) (nI 8)),
 oo 15 (.pick (.s 11) (nB true) (.s 14))])
 (.cond (.s 15)
 (.seq (.reg [oo 6 (.mov (nB true))])
 .ret)
 .skip))
 (.seq (.regq [oo 16 (.load true 6 (.s 3)),
 oo 17 (.mov (.s 2)),
 oo 18 (.call 14 [(.s 17)]),
 oo 19 (.mov (.s 1)),
 oo 20 (.call 13 [(.s 16), (.s 18), (.s 19)]),
 oo 21 (.load true 6 (.s 3)),
 oo 22 (.mov (.s 2)),
 oo 23 (.mov (.s 1))]
[oo 24 (.call 12 [(.s 21), (.s 22), (.s 23)]),
 oo 25 (.call 10 [(.s 20), (.s 24)]),
 oo 6 (.mov (.s 25))])
 .ret)))
theorem k5 : OkF 5 Tryz.f5 c5 [.t 6] 26 := ⟨Tryz.func5, by kernel_rfl, by kernel_rfl, by kernel_rfl, Tryz.ntmps5⟩
theorem pa_law (F : Ff) (ls : List Gl) (ts : List Stp) : FnQ Tryz.prog 5 [ffV F, .sl (ls.map gl), .sl (ts.map stp)] [.bool true] := by
 refine k5.q (by simp) ?_
 unfold c5
 have hmay := @may_of F ls
 simp only [vmp,↓vmd,seval]
 refine onC_q (may_q F ls) rfl ?_
 generalize mayF F ls = b at *
 cases b with
 | false =>
  (first | apply envO | apply envQ); simp only [vmp,↓vmd,seval]; rfl
  simp only [vmp,↓vmd,seval]
  exact gives_pure
 | true =>
  obtain ⟨hl, _, hF⟩ := hmay rfl
  (first | apply envO | apply envQ); simp only [vmp,↓vmd,seval]; rfl
  simp only [vmp,↓vmd,seval]
  refine onIf_intro fun _ => ?_
  (first | apply envO | apply envQ); simp only [vmp,↓vmd,seval]; rfl
  simp only [vmp,↓vmd,seval]
  refine onB_dec (fun h1 => ?_) (fun h1 => ?_)
  ·(first | apply envO | apply envQ); simp only [h1, vmp,↓vmd,seval]; rfl
   simp only [h1, vmp,↓vmd,seval]
   exact gives_pure
  ·have ha := pall_q F hF ts ls (by omega)
   have hr := rall_q F hF ts ls (by omega)
   generalize (allP F ts ls 65536).1 = X at *
   (first | apply envO | apply envQ); simp only [h1, vmp,↓vmd,seval]; rfl
   simp only [h1, vmp,↓vmd,seval]
   first | refine onQ_q (steps_q ts (by omega)) rfl ?_ | refine onC_q (steps_q ts (by omega)) rfl ?_
   (first | apply envO | apply envQ); simp only [vmp,↓vmd,seval]; rfl
   simp only [vmp,↓vmd,seval]
   first | refine onQ_q ha rfl ?_ | refine onC_q ha rfl ?_
   (first | apply envO | apply envQ); simp only [vmp,↓vmd,seval]; rfl
   simp only [vmp,↓vmd,seval]
   first | refine onC_q hr rfl ?_ | refine onQ_q hr rfl ?_
   (first | apply envO | apply envQ); simp only [vmp,↓vmd,seval]; rfl
   simp only [vmp,↓vmd,seval]
   refine onC_q (same29_q X X) rfl ?_
   rw [decide_eq_true rfl]
   (first | apply envO | apply envQ); simp only [vmp,↓vmd,seval]; rfl
   simp only [vmp,↓vmd,seval]
   exact gives_pure
theorem ty_steps : tyC Tryz.prog 20 42 = some (false, [.sl true [.int .i64, .int .i64]]) := by kernel_rfl
theorem stp_of {v : V} (h : OkE true [.int .i64, .int .i64] v) : ∃ s, v = stp s ∧ True := by
 obtain ⟨l, hl, rfl⟩ := ints_of (k := 2) h
 match l, hl with
 | [a, b], _ => exact ⟨⟨a, b⟩, rfl, trivial⟩
theorem steps_of {v : V} (h : OkT Tryz.prog 42 v) : ∃ l : List Stp, v = .sl (l.map stp) := by
 obtain ⟨l, h1, _⟩ := lists_of (f := stp) (fun _ h => stp_of h) (cell_of (h _ _ _ ty_steps))
 exact ⟨l, h1⟩
theorem pa_all (vs : List V) (h : OkTs Tryz.prog Tryz.f5.params.toList vs) : FnQ Tryz.prog 5 vs [.bool true] := by
 rw [Tryz.params5] at h
 match vs, h with
 | [x, y, z], h =>
  obtain ⟨h1, h2, h3, _⟩ := h
  obtain ⟨f, rfl⟩ := font_of' h1
  obtain ⟨l, rfl, _⟩ := gls_of (cell_of (h2 _ _ _ ty_glyphs))
  obtain ⟨t, rfl⟩ := steps_of h3
  exact pa_law f l t
end Go.Proofs.YtcjmkpkhjhjepaaGreat.W
