/-
  That the law can fail at all: one font, one lookup, two rows.
-/
import Derived.Test.YtcjmkpkhjhjepaaRev9
namespace Go.Proofs.Ytcjmkpkhjhjepaa.W
open Go Go.Vm Go.Proofs
set_option maxRecDepth 100000
set_option linter.unusedSimpArgs false
set_option maxHeartbeats 4000000
/-! typecase/typecaselaw30.alive -/
def c21 : AC :=
  (.seq (.reg [⟨some 0, none, .mov (.c (.pure (.bool false)))⟩])
  (.seq (.reg [⟨some 5, none, .bslice 1 [(.c (.pure (.int .i64 1)))]⟩,
    ⟨some 6, none, .bslice 1 [(.c (.pure (.int .i64 2)))]⟩,
    ⟨some 7, none, .bslice 1 [(.s 6)]⟩,
    ⟨some 8, none, .bslice 1 [(.c (.pure (.int .i64 2)))]⟩,
    ⟨some 9, none, .bslice 1 [(.s 8)]⟩,
    ⟨some 10, none, .build [.empty, .empty, .empty, .empty, .empty, .empty, .empty, .empty, .empty, .empty, .empty, .empty] [(0, 1, (.s 5)), (1, 1, (.s 7)), (5, 1, (.s 9))]⟩,
    ⟨some 11, none, .bslice 12 [(.s 10)]⟩,
    ⟨some 12, none, .build [(.pure (.int .i64 0)), (.pure (.int .i64 0)), (.pure (.int .i64 0)), .empty] [(0, 1, (.c (.pure (.int .i64 5)))), (3, 1, (.s 11))]⟩,
    ⟨some 1, none, .box (.c (.agg [(.pure (.int .i64 0)), (.pure (.int .i64 0)), (.pure (.int .i64 0)), .empty]))⟩,
    ⟨none, none, .store 4 (.s 1) (.s 12)⟩])
  (.seq (.regq [⟨some 13, none, .mksl 4 48 (.agg [(.pure (.int .i64 0)), (.pure (.int .i64 0)), (.pure (.int .i64 0)), .empty]) (.c (.pure (.int .i64 3))) (.c (.pure (.int .i64 3)))⟩,
    ⟨some 14, none, .load true 4 (.s 1)⟩,
    ⟨some 15, none, .bslice 4 [(.s 14)]⟩,
    ⟨some 16, none, .build [(.pure (.int .i64 0)), .empty, .empty, .empty, .empty, .empty] [(0, 1, (.c (.pure (.int .i64 1)))), (1, 1, (.s 13)), (3, 1, (.s 15))]⟩,
    ⟨some 2, none, .box (.c (.agg [(.pure (.int .i64 0)), .empty, .empty, .empty, .empty, .empty]))⟩]
    [⟨none, none, .store 6 (.s 2) (.s 16)⟩])
  (.seq (.regq [⟨some 17, none, .load true 6 (.s 2)⟩,
    ⟨some 18, none, .load true 4 (.s 1)⟩,
    ⟨some 19, none, .bslice 1 [(.c (.pure (.int .i64 1))), (.c (.pure (.int .i64 1))), (.c (.pure (.int .i64 2)))]⟩,
    ⟨some 20, none, .call 42 [(.s 19)]⟩]
    [⟨some 21, none, .call 26 [(.s 17), (.s 18), (.s 20), (.c (.pure (.int .i64 1)))]⟩,
    ⟨some 3, none, .mov (.s 21)⟩])
  (.seq (.regq [⟨some 22, none, .load true 6 (.s 2)⟩,
    ⟨some 23, none, .load true 4 (.s 1)⟩,
    ⟨some 24, none, .bslice 1 [(.c (.pure (.int .i64 1))), (.c (.pure (.int .i64 2))), (.c (.pure (.int .i64 1)))]⟩,
    ⟨some 25, none, .call 42 [(.s 24)]⟩]
    [⟨some 26, none, .call 26 [(.s 22), (.s 23), (.s 25), (.c (.pure (.int .i64 1)))]⟩,
    ⟨some 4, none, .mov (.s 26)⟩])
  (.seq (.reg [⟨some 27, none, .mov (.s 3)⟩,
    ⟨some 28, none, .len (.s 27)⟩,
    ⟨some 29, none, .bin .eql (.s 28) (.c (.pure (.int .i64 3)))⟩,
    ⟨some 30, none, .mov (.s 29)⟩,
    ⟨some 31, some (30, true), .mov (.s 4)⟩,
    ⟨some 32, some (30, true), .len (.s 31)⟩,
    ⟨some 33, some (30, true), .bin .eql (.s 32) (.c (.pure (.int .i64 3)))⟩,
    ⟨some 34, none, .pick (.s 30) (.s 33) (.c (.pure (.bool false)))⟩,
    ⟨some 35, none, .mov (.s 34)⟩,
    ⟨some 36, some (35, true), .mov (.s 3)⟩,
    ⟨some 37, some (35, true), .idxA 10 (.s 36) (.c (.pure (.int .i64 0)))⟩,
    ⟨some 38, some (35, true), .fldA 0 (.s 37)⟩,
    ⟨some 39, some (35, true), .load false 1 (.s 38)⟩,
    ⟨some 40, some (35, true), .bin .eql (.s 39) (.c (.pure (.int .i64 2)))⟩,
    ⟨some 41, none, .pick (.s 35) (.s 40) (.c (.pure (.bool false)))⟩,
    ⟨some 42, none, .mov (.s 41)⟩,
    ⟨some 43, some (42, true), .mov (.s 3)⟩,
    ⟨some 44, some (42, true), .idxA 10 (.s 43) (.c (.pure (.int .i64 1)))⟩,
    ⟨some 45, some (42, true), .fldA 0 (.s 44)⟩,
    ⟨some 46, some (42, true), .load false 1 (.s 45)⟩,
    ⟨some 47, some (42, true), .bin .eql (.s 46) (.c (.pure (.int .i64 2)))⟩,
    ⟨some 48, none, .pick (.s 42) (.s 47) (.c (.pure (.bool false)))⟩,
    ⟨some 49, none, .mov (.s 48)⟩,
    ⟨some 50, some (49, true), .mov (.s 4)⟩,
    ⟨some 51, some (49, true), .idxA 10 (.s 50) (.c (.pure (.int .i64 0)))⟩,
    ⟨some 52, some (49, true), .fldA 0 (.s 51)⟩,
    ⟨some 53, some (49, true), .load false 1 (.s 52)⟩,
    ⟨some 54, some (49, true), .bin .eql (.s 53) (.c (.pure (.int .i64 2)))⟩,
    ⟨some 55, none, .pick (.s 49) (.s 54) (.c (.pure (.bool false)))⟩,
    ⟨some 56, none, .mov (.s 55)⟩,
    ⟨some 57, some (56, true), .mov (.s 4)⟩,
    ⟨some 58, some (56, true), .idxA 10 (.s 57) (.c (.pure (.int .i64 2)))⟩,
    ⟨some 59, some (56, true), .fldA 0 (.s 58)⟩,
    ⟨some 60, some (56, true), .load false 1 (.s 59)⟩,
    ⟨some 61, some (56, true), .bin .eql (.s 60) (.c (.pure (.int .i64 1)))⟩,
    ⟨some 62, none, .pick (.s 56) (.s 61) (.c (.pure (.bool false)))⟩,
    ⟨some 0, none, .mov (.s 62)⟩])
  .ret))))))
theorem k21 : (Try.f21.body.bind fun c => cCode Try.prog Try.f21.ntmps RCs c) = some c21 := by kernel_rfl
theorem h21 : (Try.f21.name == "runtime.NumGoroutine") = false := by kernel_rfl
theorem r21 : resC Try.prog Try.f21.results.toList = some [.t 0] := by kernel_rfl
theorem a21 {args : List S} {H : Heap} {K : S → Heap → Prop} (hn : args.length ≤ 63) (h : aWx Try.prog H.length c21 (PostX [.t 0] K) (argEnv 0 args) H) : CallA Try.prog 21 args H K :=
  callA_of_x mixed Try.func21 h21 k21 r21 (by rw [Try.ntmps21]; exact hn) h
theorem q21 {vs ds : List V} (hn : vs.length ≤ 63) (h : aWx Try.prog 0 c21 (PostX [.t 0] (Gives ds)) (argEnv 0 (vs.map .pure)) []) : FnQ Try.prog 21 vs ds :=
  fnQ_of_call (a21 (by simpa using hn) h)

def aF30 : Fo := ⟨I 1, [⟨0, 0, 0, .sl []⟩, ⟨0, 0, 0, .sl []⟩, ⟨0, 0, 0, .sl []⟩], .sl [], .sl [lk ⟨5, 0, 0, [⟨[1], [[2]], [], [], [], [[2]], [], [], [], [], [], []⟩]⟩], .sl [], []⟩
def aK30 : Lk := ⟨5, 0, 0, [⟨[1], [[2]], [], [], [], [[2]], [], [], [], [], [], []⟩]⟩
theorem a30_k : aK30.kind = 5 → RevK aK30 := fun _ => ⟨by decide, by decide⟩
theorem a30_1 : goA aF30 aK30 1 3 (rowG 0 [1, 1, 2]) = [⟨2, 0, 0, 0, 0, -1, -1, 0, 0, 1⟩, ⟨2, 1, 0, 0, 0, -1, -1, 0, 0, 1⟩, ⟨2, 2, 0, 0, 0, -1, -1, 0, 0, 1⟩] := by decide
theorem a30_2 : goA aF30 aK30 1 3 (rowG 0 [1, 2, 1]) = [⟨2, 0, 0, 0, 0, -1, -1, 0, 0, 1⟩, ⟨2, 1, 0, 0, 0, -1, -1, 0, 0, 1⟩, ⟨1, 2, 0, 0, 0, -1, -1, 0, 0, 1⟩] := by decide
theorem c30_1 : FnQ Try.prog 26 [fo aF30, lk aK30, .sl ((rowG 0 [1, 1, 2]).map gl), I 1] [.sl [gl ⟨2, 0, 0, 0, 0, -1, -1, 0, 0, 1⟩, gl ⟨2, 1, 0, 0, 0, -1, -1, 0, 0, 1⟩, gl ⟨2, 2, 0, 0, 0, -1, -1, 0, 0, 1⟩]] := by
  have h := all30_q aF30 aK30 a30_k (rowG 0 [1, 1, 2]) (by decide) 1
  rw [show (rowG 0 [1, 1, 2]).length = 3 from rfl, a30_1] at h
  exact h
theorem c30_2 : FnQ Try.prog 26 [fo aF30, lk aK30, .sl ((rowG 0 [1, 2, 1]).map gl), I 1] [.sl [gl ⟨2, 0, 0, 0, 0, -1, -1, 0, 0, 1⟩, gl ⟨2, 1, 0, 0, 0, -1, -1, 0, 0, 1⟩, gl ⟨1, 2, 0, 0, 0, -1, -1, 0, 0, 1⟩]] := by
  have h := all30_q aF30 aK30 a30_k (rowG 0 [1, 2, 1]) (by decide) 1
  rw [show (rowG 0 [1, 2, 1]).length = 3 from rfl, a30_2] at h
  exact h
theorem alive30_q : FnQ Try.prog 21 [] [.bool true] := by
  refine q21 (by simp) ?_
  unfold c21
  simp -implicitDefEqProofs only [*, vmp,↓vmd,seval]
  refine onIf'_intro (by simp [maxLen]) ?_
  simp -implicitDefEqProofs only [*, vmp,↓vmd,seval]
  refine onQ_f (row30_f [1, 1, 2] (by decide)) rfl ?_
  first | refine envO (by simp -implicitDefEqProofs only [vmp,↓vmd,seval]; rfl) ?_ | refine envQ (by simp -implicitDefEqProofs only [vmp,↓vmd,seval]; rfl) ?_
  simp -implicitDefEqProofs only [vmp,↓vmd,seval]
  refine onC_frz 0 (onC_frz 1 (onC_frz 2 (onC_frz 3 (onC_frz 4 (onC_frz 5 (onC_frz 6 (onC_frz 7 (onC_frz 8 ?_))))))))
  simp -implicitDefEqProofs only [vmp,↓vmd,seval]
  refine onC_q c30_1 rfl ?_
  first | refine envO (by simp -implicitDefEqProofs only [vmp,↓vmd,seval]; rfl) ?_ | refine envQ (by simp -implicitDefEqProofs only [vmp,↓vmd,seval]; rfl) ?_
  simp -implicitDefEqProofs only [vmp,↓vmd,seval]
  refine onQ_f (row30_f [1, 2, 1] (by decide)) rfl ?_
  first | refine envO (by simp -implicitDefEqProofs only [vmp,↓vmd,seval]; rfl) ?_ | refine envQ (by simp -implicitDefEqProofs only [vmp,↓vmd,seval]; rfl) ?_
  simp -implicitDefEqProofs only [vmp,↓vmd,seval]
  refine onC_q c30_2 rfl ?_
  first | refine envO (by simp -implicitDefEqProofs only [vmp,↓vmd,seval]; rfl) ?_ | refine envQ (by simp -implicitDefEqProofs only [vmp,↓vmd,seval]; rfl) ?_
  simp -implicitDefEqProofs only [vmp,↓vmd,seval]
  exact gives_pure
end Go.Proofs.Ytcjmkpkhjhjepaa.W
