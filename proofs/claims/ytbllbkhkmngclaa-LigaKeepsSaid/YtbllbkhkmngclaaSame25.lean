/-
  Whether two rows of glyphs are the same. No condition.
-/
import Derived.Test.YtbllbkhkmngclaaGls
namespace Go.Proofs.Ytbllbkhkmngclaa.W
open Go Go.Vm Go.Proofs
set_option maxRecDepth 100000
set_option linter.unusedSimpArgs false
set_option maxHeartbeats 1000000
/-! typecase/typecaseref25.Same -/
def c22_0 : AC :=
  (.seq (.reg [⟨some 4, none, .mov (.c (.pure (.bool true)))⟩])
  .ret)
def c22_1 : AC :=
  (.seq (.seq (.reg [⟨some 11, none, .mov (.s 5)⟩,
    ⟨some 12, none, .mov (.s 0)⟩,
    ⟨some 13, none, .len (.s 12)⟩,
    ⟨some 14, none, .bin .lss (.s 11) (.s 13)⟩])
  (.cond (.s 14)
  .skip
  (.exit 0)))
  (.seq (.block 1
  (.seq (.regq [⟨some 17, none, .mov (.s 0)⟩,
    ⟨some 18, none, .mov (.s 5)⟩,
    ⟨some 19, none, .idxA 10 (.s 17) (.s 18)⟩,
    ⟨some 20, none, .load true 10 (.s 19)⟩,
    ⟨some 21, none, .mov (.s 1)⟩,
    ⟨some 22, none, .mov (.s 5)⟩,
    ⟨some 23, none, .idxA 10 (.s 21) (.s 22)⟩,
    ⟨some 24, none, .load true 10 (.s 23)⟩]
    [⟨some 25, none, .eqv true [.i, .i, .i, .i, .i, .i, .i, .i, .i, .i] (.s 20) (.s 24)⟩])
  (.cond (.s 25)
  (.seq (.reg [⟨some 4, none, .mov (.c (.pure (.bool false)))⟩])
  .ret)
  .skip)))
  (.reg [⟨some 15, none, .mov (.s 5)⟩,
    ⟨some 16, none, .bin .add (.s 15) (.c (.pure (.int .i64 1)))⟩,
    ⟨some 5, none, .mov (.s 16)⟩])))
def c22 : AC :=
  (.seq (.reg [⟨some 4, none, .mov (.c (.pure (.bool false)))⟩])
  (.seq (.seq (.reg [⟨some 6, none, .mov (.s 0)⟩,
    ⟨some 7, none, .len (.s 6)⟩,
    ⟨some 8, none, .mov (.s 1)⟩,
    ⟨some 9, none, .len (.s 8)⟩,
    ⟨some 10, none, .bin .neq (.s 7) (.s 9)⟩])
  (.cond (.s 10)
  (.seq (.reg [⟨some 4, none, .mov (.c (.pure (.bool false)))⟩])
  .ret)
  .skip))
  (.seq (.seq (.reg [⟨some 5, none, .mov (.c (.pure (.int .i64 0)))⟩])
  (.block 0
  (.loop c22_1)))
  c22_0)))
theorem k22 : (Try.f22.body.bind fun c => cCode Try.prog Try.f22.ntmps RCs c) = some c22 := by kernel_rfl
theorem h22 : (Try.f22.name == "runtime.NumGoroutine") = false := by kernel_rfl
theorem r22 : resC Try.prog Try.f22.results.toList = some [.t 4] := by kernel_rfl
theorem a22 {args : List S} {H : Heap} {K : S → Heap → Prop} (hn : args.length ≤ 26) (h : aWx Try.prog H.length c22 (PostX [.t 4] K) (argEnv 0 args) H) : CallA Try.prog 22 args H K :=
  callA_of_x mixed Try.func22 h22 k22 r22 (by rw [Try.ntmps22]; exact hn) h
theorem q22 {vs ds : List V} (hn : vs.length ≤ 26) (h : aWx Try.prog 0 c22 (PostX [.t 4] (Gives ds)) (argEnv 0 (vs.map .pure)) []) : FnQ Try.prog 22 vs ds :=
  fnQ_of_call (a22 (by simpa using hn) h)

theorem same25_q (a b : List Gl) : FnQ Try.prog 22 [.sl (a.map gl), .sl (b.map gl)] [.bool (decide (a = b))] := by
  refine q22 (by simp) ?_
  unfold c22
  simp -implicitDefEqProofs only [*, vmp,↓vmd,seval]
  refine onIf_intro fun hl1 => ?_
  simp -implicitDefEqProofs only [*, vmp,↓vmd,seval]
  refine onIf_intro fun hl2 => ?_
  simp -implicitDefEqProofs only [*, vmp,↓vmd,seval]
  by_cases hn : a.length = b.length
  · simp -implicitDefEqProofs only [hn, vmp,↓vmd,seval]
    refine loop_at (T := Nat) (fun i => [(5, .pure (I i)), (0, .pure (.sl (a.map gl))), (1, .pure (.sl (b.map gl)))]) (fun _ => []) (fun i => i ≤ a.length ∧ decide (a.drop i = b.drop i) = decide (a = b)) (fun i => a.length - i)
      0 [] (by simp) rfl ⟨by simp, by simp⟩ (by simp -implicitDefEqProofs only [kpp,seval]) (by simp -implicitDefEqProofs only [kpp,seval]) ?_
    rintro i ⟨hi, hr⟩
    unfold c22_1
    simp -implicitDefEqProofs only [vmp,↓vmd,seval]
    refine onIf_intro fun _ => ?_
    simp -implicitDefEqProofs only [vmp,↓vmd,seval]
    refine onB_dec (fun h1 => ?_) (fun h1 => ?_)
    · have hlt : i < a.length := by omega
      have hlt2 : i < b.length := by omega
      rw [drop_at hlt, drop_at hlt2] at hr
      simp -implicitDefEqProofs only [h1, map_at hlt, map_at hlt2, Int.natCast_nonneg, vmp,↓vmd,seval]
      rw [gl_b]
      by_cases he : a[i] = b[i]
      · simp -implicitDefEqProofs only [he, vmp,↓vmd,seval]
        refine onBk_to (i + 1) [] (by simp) rfl (by omega) ⟨hlt, by rw [← hr, he]; simp only [List.cons.injEq, true_and]⟩ (by simp -implicitDefEqProofs only [next_at hlt (by omega), kpp,seval]) (by simp -implicitDefEqProofs only [kpp,seval])
      · simp -implicitDefEqProofs only [he, vmp,↓vmd,seval]
        rw [show decide (a = b) = false by rw [← hr]; simp only [List.cons.injEq, he, false_and, decide_false]]
        exact gives_pure
    · simp -implicitDefEqProofs only [h1, vmp,↓vmd,seval]
      unfold c22_0
      simp -implicitDefEqProofs only [vmp,↓vmd,seval]
      rw [List.drop_of_length_le (by omega), List.drop_of_length_le (by omega)] at hr
      rw [← hr]
      exact gives_pure
  · have hn' : ¬ ((a.length : Int) = (b.length : Int)) := by omega
    simp -implicitDefEqProofs only [hn', vmp,↓vmd,seval]
    rw [show decide (a = b) = false by simp; rintro rfl; exact hn rfl]
    exact gives_pure
end Go.Proofs.Ytbllbkhkmngclaa.W
