/-
  A glyph that is laid anew. No condition.
-/
import Derived.Test.YtbllbkhkmngclaaGls
namespace Go.Proofs.Ytbllbkhkmngclaa.W
open Go Go.Vm Go.Proofs
set_option maxRecDepth 100000
set_option linter.unusedSimpArgs false
set_option maxHeartbeats 4000000
/-! typecase/typecaseref25.Fresh -/
def c45 : AC :=
  (.seq (.reg [⟨some 4, none, .box (.c (.pure (.agg [(.int .i64 0), (.int .i64 0), (.int .i64 0), (.int .i64 0), (.int .i64 0), (.int .i64 0), (.int .i64 0), (.int .i64 0), (.int .i64 0), (.int .i64 0)])))⟩])
  (.seq (.reg [⟨some 5, none, .mov (.s 0)⟩,
    ⟨some 6, none, .mov (.s 1)⟩,
    ⟨some 7, none, .build [(.pure (.int .i64 0)), (.pure (.int .i64 0)), (.pure (.int .i64 0)), (.pure (.int .i64 0)), (.pure (.int .i64 0)), (.pure (.int .i64 0)), (.pure (.int .i64 0)), (.pure (.int .i64 0)), (.pure (.int .i64 0)), (.pure (.int .i64 0))] [(0, 1, (.s 5)), (1, 1, (.s 6)), (5, 1, (.c (.pure (.int .i64 (-1))))), (6, 1, (.c (.pure (.int .i64 (-1)))))]⟩,
    ⟨none, none, .store 10 (.s 4) (.s 7)⟩])
  .ret))
theorem k45 : (Try.f45.body.bind fun c => cCode Try.prog Try.f45.ntmps RCs c) = some c45 := by kernel_rfl
theorem h45 : (Try.f45.name == "runtime.NumGoroutine") = false := by kernel_rfl
theorem r45 : resC Try.prog Try.f45.results.toList = some [.c 4 true 10] := by kernel_rfl
theorem a45 {args : List S} {H : Heap} {K : S → Heap → Prop} (hn : args.length ≤ 8) (h : aWx Try.prog H.length c45 (PostX [.c 4 true 10] K) (argEnv 0 args) H) : CallA Try.prog 45 args H K :=
  callA_of_x mixed Try.func45 h45 k45 r45 (by rw [Try.ntmps45]; exact hn) h
theorem q45 {vs ds : List V} (hn : vs.length ≤ 8) (h : aWx Try.prog 0 c45 (PostX [.c 4 true 10] (Gives ds)) (argEnv 0 (vs.map .pure)) []) : FnQ Try.prog 45 vs ds :=
  fnQ_of_call (a45 (by simpa using hn) h)

def freshG (g c : Int) : Gl := ⟨g, c, 0, 0, 0, -1, -1, 0, 0, 0⟩
theorem fresh_q (g c : Int) : FnQ Try.prog 45 [I g, I c] [gl (freshG g c)] := by
  refine q45 (by simp) ?_
  unfold c45
  simp -implicitDefEqProofs only [*, vmp,↓vmd,seval]
  exact gives_pure
end Go.Proofs.Ytbllbkhkmngclaa.W
