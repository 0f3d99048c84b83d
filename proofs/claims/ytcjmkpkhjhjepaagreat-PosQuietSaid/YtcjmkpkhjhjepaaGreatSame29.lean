/-
  Whether two rows of glyphs are the same. No condition.
-/
import Derived.Test.YtcjmkpkhjhjepaaGreatGls
namespace Go.Proofs.YtcjmkpkhjhjepaaGreat.W
open Go Go.Vm Go.Proofs
set_option maxRecDepth 100000
set_option linter.unusedSimpArgs false
set_option maxHeartbeats 1000000
/-! typecase/typecaseref29.Same -/
def c10_0 : AC :=
 (.seq (.reg [oo 4 (.mov (nB true))])
 .ret)
def c10_1 : AC :=
 (.seq (.seq (.reg [oo 11 (.mov (.s 5)),
 oo 12 (.mov (.s 0)),
 oo 13 (.len (.s 12)),
 oo 14 (.bin .lss (.s 11) (.s 13))])
 (.cond (.s 14)
 .skip
 (.exit 0)))
 (.seq (.block 1
 (.seq (.regq [oo 17 (.mov (.s 0)),
 oo 18 (.mov (.s 5)),
 oo 19 (.idxA 10 (.s 17) (.s 18)),
 oo 20 (.load true 10 (.s 19)),
 oo 21 (.mov (.s 1)),
 oo 22 (.mov (.s 5)),
 oo 23 (.idxA 10 (.s 21) (.s 22)),
 oo 24 (.load true 10 (.s 23))]
[oo 25 (.eqv true [.i, .i, .i, .i, .i, .i, .i, .i, .i, .i] (.s 20) (.s 24))])
 (.cond (.s 25)
 (.seq (.reg [oo 4 (.mov (nB false))])
 .ret)
 .skip)))
 (.reg [oo 15 (.mov (.s 5)),
 oo 16 (.bin .add (.s 15) (nI 1)),
 oo 5 (.mov (.s 16))])))
def c10 : AC :=
 (.seq (.reg [oo 4 (.mov (nB false))])
 (.seq (.seq (.reg [oo 6 (.mov (.s 0)),
 oo 7 (.len (.s 6)),
 oo 8 (.mov (.s 1)),
 oo 9 (.len (.s 8)),
 oo 10 (.bin .neq (.s 7) (.s 9))])
 (.cond (.s 10)
 (.seq (.reg [oo 4 (.mov (nB false))])
 .ret)
 .skip))
 (.seq (.seq (.reg [oo 5 (.mov (nI 0))])
 (.block 0
 (.loop c10_1)))
 c10_0)))
theorem k10 : OkF 10 Tryz.f10 c10 [.t 4] 26 := ⟨Tryz.func10, by kernel_rfl, by kernel_rfl, by kernel_rfl, Tryz.ntmps10⟩
theorem same29_q (a b : List Gl) : FnQ Tryz.prog 10 [.sl (a.map gl), .sl (b.map gl)] [.bool (decide (a = b))] := by
 refine k10.q (by simp) ?_
 unfold c10
 simp only [*, vmp,↓vmd,seval]
 refine onIf_intro fun hl1 => ?_
 simp only [*, vmp,↓vmd,seval]
 refine onIf_intro fun hl2 => ?_
 simp only [*, vmp,↓vmd,seval]
 by_cases hn : a.length = b.length
 ·simp only [hn, vmp,↓vmd,seval]
  refine loop_at (T := Nat) (fun i => [(5, .pure (I i)), (0, .pure (.sl (a.map gl))), (1, .pure (.sl (b.map gl)))]) (fun _ => []) (fun i => i ≤ a.length ∧ decide (a.drop i = b.drop i) = decide (a = b)) (fun i => a.length - i)
   0 [] (by simp) rfl ⟨by simp, by simp⟩ (by simp only [kpp,seval]) (by simp only [kpp,seval]) ?_
  rintro i ⟨hi, hr⟩
  unfold c10_1
  simp only [vmp,↓vmd,seval]
  refine onIf_intro fun _ => ?_
  simp only [vmp,↓vmd,seval]
  refine onB_dec (fun h1 => ?_) (fun h1 => ?_)
  ·have hlt : i < a.length := by omega
   have hlt2 : i < b.length := by omega
   rw [drop_at hlt, drop_at hlt2] at hr
   simp only [h1, map_at hlt, map_at hlt2, Int.natCast_nonneg, vmp,↓vmd,seval]
   rw [gl_b]
   by_cases he : a[i] = b[i]
   ·simp only [he, vmp,↓vmd,seval]
    refine onBk_to (i + 1) [] (by simp) rfl (by omega) ⟨hlt, by rw [← hr, he]; simp only [List.cons.injEq, true_and]⟩ (by simp only [next_at hlt (by omega), kpp,seval]) (by simp only [kpp,seval])
   ·simp only [he, vmp,↓vmd,seval]
    rw [show decide (a = b) = false by rw [← hr]; simp only [List.cons.injEq, he, false_and, decide_false]]
    exact gives_pure
  ·simp only [h1, vmp,↓vmd,seval]
   unfold c10_0
   simp only [vmp,↓vmd,seval]
   rw [List.drop_of_length_le (by omega), List.drop_of_length_le (by omega)] at hr
   rw [← hr]
   exact gives_pure
 ·have hn' : ¬ ((a.length : Int) = (b.length : Int)) := by omega
  simp only [hn', vmp,↓vmd,seval]
  rw [show decide (a = b) = false by simp; rintro rfl; exact hn rfl]
  exact gives_pure
end Go.Proofs.YtcjmkpkhjhjepaaGreat.W
