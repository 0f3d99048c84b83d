/-
  Where a glyph is in a cover. No condition.
-/
import Derived.Test.YtcjmkpkhjhjepaaSkip
namespace Go.Proofs.Ytcjmkpkhjhjepaa.W
open Go Go.Vm Go.Proofs
set_option maxRecDepth 100000
set_option linter.unusedSimpArgs false
set_option maxHeartbeats 1000000
/-! typecase/cover.Index -/
def c43 : AC :=
  (.seq (.reg [⟨some 4, none, .mov (.c (.pure (.int .i64 0)))⟩,
    ⟨some 5, none, .mov (.c (.pure (.bool false)))⟩])
  (.seq (.reg [⟨some 7, none, .mov (.s 0)⟩,
    ⟨some 8, none, .mov (.s 1)⟩,
    ⟨some 9, none, .call 61 [(.s 7), (.s 8)]⟩,
    ⟨some 6, none, .mov (.s 9)⟩])
  (.seq (.reg [⟨some 10, none, .mov (.s 6)⟩,
    ⟨some 11, none, .mx (.s 10) (.c (.pure (.int .i64 0)))⟩,
    ⟨some 12, none, .mov (.s 6)⟩,
    ⟨some 13, none, .bin .geq (.s 12) (.c (.pure (.int .i64 0)))⟩,
    ⟨some 4, none, .mov (.s 11)⟩,
    ⟨some 5, none, .mov (.s 13)⟩])
  .ret)))
theorem k43 : (Try.f43.body.bind fun c => cCode Try.prog Try.f43.ntmps RCs c) = some c43 := by kernel_rfl
theorem h43 : (Try.f43.name == "runtime.NumGoroutine") = false := by kernel_rfl
theorem r43 : resC Try.prog Try.f43.results.toList = some [.t 4, .t 5] := by kernel_rfl
theorem a43 {args : List S} {H : Heap} {K : S → Heap → Prop} (hn : args.length ≤ 14) (h : aWx Try.prog H.length c43 (PostX [.t 4, .t 5] K) (argEnv 0 args) H) : CallA Try.prog 43 args H K :=
  callA_of_x mixed Try.func43 h43 k43 r43 (by rw [Try.ntmps43]; exact hn) h
theorem q43 {vs ds : List V} (hn : vs.length ≤ 14) (h : aWx Try.prog 0 c43 (PostX [.t 4, .t 5] (Gives ds)) (argEnv 0 (vs.map .pure)) []) : FnQ Try.prog 43 vs ds :=
  fnQ_of_call (a43 (by simpa using hn) h)

theorem cindex_q (l : List Int) (x : Int) : FnQ Try.prog 43 [LI l, I x] [I (max (idxF x 0 l) 0), .bool (decide (0 ≤ idxF x 0 l))] := by
  refine q43 (by simp) ?_
  unfold c43
  simp -implicitDefEqProofs only [*, vmp,↓vmd,seval]
  refine onC_q (index_q _ _) rfl ?_
  simp -implicitDefEqProofs only [*, vmp,↓vmd,seval]
  exact gives_tup rfl (by simp)
theorem idxF_lt {x : Int} : ∀ {l : List Int} {k : Int}, 0 ≤ k → 0 ≤ idxF x k l → k ≤ idxF x k l ∧ idxF x k l < k + l.length
  | [], k, _, h => by simp [idxF] at h
  | y :: r, k, hk, h => by
    rw [idxF] at h ⊢
    by_cases hc : x = y
    · rw [if_pos hc]; simp; omega
    · rw [if_neg hc] at h ⊢
      have := idxF_lt (l := r) (k := k + 1) (by omega) h
      simp only [List.length_cons]
      omega
end Go.Proofs.Ytcjmkpkhjhjepaa.W
