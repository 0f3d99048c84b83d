/-
  The comparison of two lists of numbers (typecaseref01.Same): what it does. No condition.
-/
import Derived.Test.YtbllbkhkmngclaaData
namespace Go.Proofs.Ytbllbkhkmngclaa.W
open Go Go.Vm Go.Proofs
set_option maxRecDepth 100000
set_option linter.unusedSimpArgs false
/-! typecase/typecaseref01.Same -/
def c70_0 : AC :=
  (.seq (.reg [⟨some 4, none, .mov (.c (.pure (.bool true)))⟩])
  .ret)
def c70_1 : AC :=
  (.seq (.seq (.reg [⟨some 11, none, .mov (.s 5)⟩,
    ⟨some 12, none, .mov (.s 0)⟩,
    ⟨some 13, none, .len (.s 12)⟩,
    ⟨some 14, none, .bin .lss (.s 11) (.s 13)⟩])
  (.cond (.s 14)
  .skip
  (.exit 0)))
  (.seq (.block 1
  (.seq (.regq [⟨some 17, none, .mov (.s 0)⟩,
    ⟨some 18, none, .mov (.s 5)⟩,
    ⟨some 19, none, .idxA 1 (.s 17) (.s 18)⟩,
    ⟨some 20, none, .load false 1 (.s 19)⟩,
    ⟨some 21, none, .mov (.s 1)⟩,
    ⟨some 22, none, .mov (.s 5)⟩,
    ⟨some 23, none, .idxA 1 (.s 21) (.s 22)⟩,
    ⟨some 24, none, .load false 1 (.s 23)⟩]
    [⟨some 25, none, .bin .neq (.s 20) (.s 24)⟩])
  (.cond (.s 25)
  (.seq (.reg [⟨some 4, none, .mov (.c (.pure (.bool false)))⟩])
  .ret)
  .skip)))
  (.reg [⟨some 15, none, .mov (.s 5)⟩,
    ⟨some 16, none, .bin .add (.s 15) (.c (.pure (.int .i64 1)))⟩,
    ⟨some 5, none, .mov (.s 16)⟩])))
def c70 : AC :=
  (.seq (.reg [⟨some 4, none, .mov (.c (.pure (.bool false)))⟩])
  (.seq (.seq (.reg [⟨some 6, none, .mov (.s 0)⟩,
    ⟨some 7, none, .len (.s 6)⟩,
    ⟨some 8, none, .mov (.s 1)⟩,
    ⟨some 9, none, .len (.s 8)⟩,
    ⟨some 10, none, .bin .neq (.s 7) (.s 9)⟩])
  (.cond (.s 10)
  (.seq (.reg [⟨some 4, none, .mov (.c (.pure (.bool false)))⟩])
  .ret)
  .skip))
  (.seq (.seq (.reg [⟨some 5, none, .mov (.c (.pure (.int .i64 0)))⟩])
  (.block 0
  (.loop c70_1)))
  c70_0)))
theorem k70 : (Try.f70.body.bind fun c => cCode Try.prog Try.f70.ntmps RCs c) = some c70 := by kernel_rfl
theorem h70 : (Try.f70.name == "runtime.NumGoroutine") = false := by kernel_rfl
theorem r70 : resC Try.prog Try.f70.results.toList = some [.t 4] := by kernel_rfl
theorem a70 {args : List S} {H : Heap} {K : S → Heap → Prop} (hn : args.length ≤ 26) (h : aWx Try.prog H.length c70 (PostX [.t 4] K) (argEnv 0 args) H) : CallA Try.prog 70 args H K :=
  callA_of_x mixed Try.func70 h70 k70 r70 (by rw [Try.ntmps70]; exact hn) h
theorem q70 {vs ds : List V} (hn : vs.length ≤ 26) (h : aWx Try.prog 0 c70 (PostX [.t 4] (Gives ds)) (argEnv 0 (vs.map .pure)) []) : FnQ Try.prog 70 vs ds :=
  fnQ_of_call (a70 (by simpa using hn) h)

theorem same_q (a b : List Int) : FnQ Try.prog 70 [LI a, LI b] [.bool (decide (a = b))] := by
  refine q70 (by simp) ?_
  unfold c70
  simp -implicitDefEqProofs only [*, vmp,↓vmd,seval]
  refine onIf_intro fun ha => ?_
  simp -implicitDefEqProofs only [*, vmp,↓vmd,seval]
  refine onIf_intro fun hb => ?_
  simp -implicitDefEqProofs only [*, vmp,↓vmd,seval]
  refine onB_dec (fun h0 => ?_) (fun h0 => ?_)
  · simp -implicitDefEqProofs only [*, vmp,↓vmd,seval]
    rw [show decide (a = b) = false by simp; rintro rfl; simp at h0]
    exact gives_pure
  simp -implicitDefEqProofs only [*, vmp,↓vmd,seval]
  have hab : a.length = b.length := by simp at h0; omega
  refine loop_at (T := Nat) (fun k => [(5, .pure (I k)), (0, .pure (LI a)), (1, .pure (LI b))]) (fun _ => []) (fun k => k ≤ a.length ∧ (a.drop k = b.drop k ↔ a = b)) (fun k => a.length - k)
    0 [] (by simp) rfl ⟨by simp, by simp⟩ (by simp -implicitDefEqProofs only [kpp,seval]) (by simp -implicitDefEqProofs only [kpp,seval]) ?_
  rintro k ⟨hk, hr⟩
  unfold c70_1
  simp -implicitDefEqProofs only [vmp,↓vmd,seval]
  refine onIf_intro fun hlen => ?_
  simp -implicitDefEqProofs only [vmp,↓vmd,seval]
  refine onB_dec (fun h1 => ?_) (fun h1 => ?_)
  · have hlt : k < a.length := by simpa using h1
    have hlt' : k < b.length := by omega
    have hlen' : a.length ≤ 9223372036854775807 := by simpa using hlen
    rw [drop_at hlt, drop_at hlt'] at hr
    simp -implicitDefEqProofs only [map_at hlt, map_at hlt', Int.natCast_nonneg, *, vmp,↓vmd,seval]
    refine onB_dec (fun h2 => ?_) (fun h2 => ?_)
    · simp -implicitDefEqProofs only [*, vmp,↓vmd,seval]
      rw [show decide (a = b) = false by rw [decide_eq_false_iff_not]; intro e; subst e; exact h2 rfl]
      exact gives_pure
    · simp -implicitDefEqProofs only [*, vmp,↓vmd,seval]
      refine onBk_to (k + 1) [] (by simp) rfl (by omega) ⟨hlt, by rw [← hr, List.cons.injEq]; exact ⟨fun h => ⟨Classical.not_not.1 h2, h⟩, fun h => h.2⟩⟩ (by simp -implicitDefEqProofs only [next_at hlt hlen', kpp,seval]) (by simp -implicitDefEqProofs only [kpp,seval])
  · simp -implicitDefEqProofs only [*, vmp,↓vmd,seval]
    unfold c70_0
    simp -implicitDefEqProofs only [*, vmp,↓vmd,seval]
    have hk' : a.length ≤ k := by simp at h1; omega
    rw [List.drop_of_length_le hk', List.drop_of_length_le (by omega)] at hr
    rw [show decide (a = b) = true by simp [← hr]]
    exact gives_pure
end Go.Proofs.Ytbllbkhkmngclaa.W
