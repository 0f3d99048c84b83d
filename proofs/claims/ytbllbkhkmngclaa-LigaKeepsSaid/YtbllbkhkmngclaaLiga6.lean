/-
  The laws LigaFinds, LigaApplies, LigaParts: what their functions do, for every input. No condition.
-/
import Derived.Test.YtbllbkhkmngclaaLiga5
import Derived.Test.YtbllbkhkmngclaaIds
import Derived.Test.YtbllbkhkmngclaaSame25
import Derived.Test.YtbllbkhkmngclaaTypes
namespace Go.Proofs.Ytbllbkhkmngclaa.W
open Go Go.Vm Go.Proofs
set_option maxRecDepth 100000
set_option linter.unusedSimpArgs false
set_option maxHeartbeats 4000000
/-! typecase/typecaselaw28.alive -/
def c33 : AC :=
  (.seq (.reg [⟨some 0, none, .mov (.c (.pure (.bool false)))⟩])
  (.seq (.reg [⟨some 10, none, .mksl 4 48 (.agg [(.pure (.int .i64 0)), (.pure (.int .i64 0)), (.pure (.int .i64 0)), .empty]) (.c (.pure (.int .i64 10))) (.c (.pure (.int .i64 10)))⟩,
    ⟨some 11, none, .build [(.pure (.int .i64 0)), .empty, .empty, .empty, .empty, .empty] [(0, 1, (.c (.pure (.int .i64 10)))), (1, 1, (.s 10))]⟩,
    ⟨some 1, none, .box (.c (.agg [(.pure (.int .i64 0)), .empty, .empty, .empty, .empty, .empty]))⟩,
    ⟨none, none, .store 6 (.s 1) (.s 11)⟩])
  (.seq (.reg [⟨some 12, none, .fldA 1 (.s 1)⟩,
    ⟨some 13, none, .load false 1 (.s 12)⟩,
    ⟨some 14, none, .idxA 4 (.s 13) (.c (.pure (.int .i64 7)))⟩,
    ⟨some 15, none, .fldA 1 (.s 14)⟩,
    ⟨none, none, .store 1 (.s 15) (.c (.pure (.int .i64 3)))⟩])
  (.seq (.reg [⟨some 16, none, .bslice 1 [(.c (.pure (.int .i64 1)))]⟩,
    ⟨some 17, none, .bslice 1 [(.c (.pure (.int .i64 2)))]⟩,
    ⟨some 18, none, .build [.empty, (.pure (.int .i64 0))] [(0, 1, (.s 17)), (1, 1, (.c (.pure (.int .i64 9))))]⟩,
    ⟨some 19, none, .bslice 2 [(.s 18)]⟩,
    ⟨some 20, none, .bslice 1 [(.s 19)]⟩,
    ⟨some 21, none, .build [.empty, .empty, .empty, .empty, .empty, .empty, .empty, .empty, .empty, .empty, .empty, .empty] [(0, 1, (.s 16)), (2, 1, (.s 20))]⟩,
    ⟨some 22, none, .bslice 12 [(.s 21)]⟩,
    ⟨some 23, none, .build [(.pure (.int .i64 0)), (.pure (.int .i64 0)), (.pure (.int .i64 0)), .empty] [(0, 1, (.c (.pure (.int .i64 3)))), (1, 1, (.c (.pure (.int .i64 8)))), (3, 1, (.s 22))]⟩,
    ⟨some 2, none, .box (.c (.agg [(.pure (.int .i64 0)), (.pure (.int .i64 0)), (.pure (.int .i64 0)), .empty]))⟩,
    ⟨none, none, .store 4 (.s 2) (.s 23)⟩])
  (.seq (.reg [⟨some 24, none, .call 45 [(.c (.pure (.int .i64 1))), (.c (.pure (.int .i64 0)))]⟩,
    ⟨some 25, none, .call 45 [(.c (.pure (.int .i64 7))), (.c (.pure (.int .i64 1)))]⟩,
    ⟨some 26, none, .call 45 [(.c (.pure (.int .i64 2))), (.c (.pure (.int .i64 2)))]⟩,
    ⟨some 27, none, .call 45 [(.c (.pure (.int .i64 7))), (.c (.pure (.int .i64 3)))]⟩,
    ⟨some 28, none, .bslice 10 [(.s 24), (.s 25), (.s 26), (.s 27)]⟩,
    ⟨some 3, none, .mov (.s 28)⟩])
  (.seq (.reg [⟨some 30, none, .load true 6 (.s 1)⟩,
    ⟨some 31, none, .load true 4 (.s 2)⟩,
    ⟨some 32, none, .mov (.s 3)⟩,
    ⟨some 33, none, .call 34 [(.s 30), (.s 31), (.s 32), (.c (.pure (.int .i64 0)))]⟩,
    ⟨some 29, none, .mov (.s 33)⟩,
    ⟨some 34, none, .ext 0 (.s 29)⟩,
    ⟨some 35, none, .ext 1 (.s 29)⟩,
    ⟨some 36, none, .ext 2 (.s 29)⟩,
    ⟨some 4, none, .box (.c (.agg [.empty, (.pure (.int .i64 0))]))⟩,
    ⟨none, none, .store 2 (.s 4) (.s 34)⟩,
    ⟨some 5, none, .mov (.s 35)⟩,
    ⟨some 6, none, .mov (.s 36)⟩])
  (.seq (.reg [⟨some 38, none, .load true 6 (.s 1)⟩,
    ⟨some 39, none, .load true 4 (.s 2)⟩,
    ⟨some 40, none, .mov (.s 3)⟩,
    ⟨some 41, none, .call 38 [(.s 38), (.s 39), (.s 40), (.c (.pure (.int .i64 0)))]⟩,
    ⟨some 37, none, .mov (.s 41)⟩,
    ⟨some 42, none, .ext 0 (.s 37)⟩,
    ⟨some 43, none, .ext 1 (.s 37)⟩,
    ⟨some 44, none, .ext 2 (.s 37)⟩,
    ⟨some 7, none, .mov (.s 42)⟩,
    ⟨some 8, none, .mov (.s 43)⟩,
    ⟨some 9, none, .mov (.s 44)⟩])
  (.seq (.reg [⟨some 45, none, .mov (.s 6)⟩,
    ⟨some 46, none, .mov (.s 45)⟩,
    ⟨some 47, some (46, true), .mov (.s 9)⟩,
    ⟨some 48, none, .pick (.s 46) (.s 47) (.c (.pure (.bool false)))⟩,
    ⟨some 49, none, .mov (.s 48)⟩,
    ⟨some 50, some (49, true), .fldA 1 (.s 4)⟩,
    ⟨some 51, some (49, true), .load false 1 (.s 50)⟩,
    ⟨some 52, some (49, true), .bin .eql (.s 51) (.c (.pure (.int .i64 9)))⟩,
    ⟨some 53, none, .pick (.s 49) (.s 52) (.c (.pure (.bool false)))⟩,
    ⟨some 54, none, .mov (.s 53)⟩,
    ⟨some 55, some (54, true), .mov (.s 5)⟩,
    ⟨some 56, some (54, true), .bslice 1 [(.c (.pure (.int .i64 0))), (.c (.pure (.int .i64 2)))]⟩,
    ⟨some 57, some (54, true), .call 37 [(.s 55), (.s 56)]⟩,
    ⟨some 58, none, .pick (.s 54) (.s 57) (.c (.pure (.bool false)))⟩,
    ⟨some 59, none, .mov (.s 58)⟩,
    ⟨some 60, some (59, true), .mov (.s 8)⟩,
    ⟨some 61, some (59, true), .bin .eql (.s 60) (.c (.pure (.int .i64 2)))⟩,
    ⟨some 62, none, .pick (.s 59) (.s 61) (.c (.pure (.bool false)))⟩,
    ⟨some 63, none, .mov (.s 62)⟩,
    ⟨some 64, some (63, true), .mov (.s 7)⟩,
    ⟨some 65, some (63, true), .call 71 [(.s 64)]⟩,
    ⟨some 66, some (63, true), .bslice 1 [(.c (.pure (.int .i64 9))), (.c (.pure (.int .i64 7))), (.c (.pure (.int .i64 7)))]⟩,
    ⟨some 67, some (63, true), .call 37 [(.s 65), (.s 66)]⟩,
    ⟨some 68, none, .pick (.s 63) (.s 67) (.c (.pure (.bool false)))⟩,
    ⟨some 69, none, .mov (.s 68)⟩,
    ⟨some 70, some (69, true), .mov (.s 7)⟩,
    ⟨some 71, some (69, true), .idxA 10 (.s 70) (.c (.pure (.int .i64 1)))⟩,
    ⟨some 72, some (69, true), .fldA 7 (.s 71)⟩,
    ⟨some 73, some (69, true), .load false 1 (.s 72)⟩,
    ⟨some 74, some (69, true), .bin .eql (.s 73) (.c (.pure (.int .i64 1)))⟩,
    ⟨some 75, none, .pick (.s 69) (.s 74) (.c (.pure (.bool false)))⟩,
    ⟨some 76, none, .mov (.s 75)⟩,
    ⟨some 77, some (76, true), .mov (.s 7)⟩,
    ⟨some 78, some (76, true), .idxA 10 (.s 77) (.c (.pure (.int .i64 1)))⟩,
    ⟨some 79, some (76, true), .fldA 8 (.s 78)⟩,
    ⟨some 80, some (76, true), .load false 1 (.s 79)⟩,
    ⟨some 81, some (76, true), .bin .eql (.s 80) (.c (.pure (.int .i64 0)))⟩,
    ⟨some 82, none, .pick (.s 76) (.s 81) (.c (.pure (.bool false)))⟩,
    ⟨some 83, none, .mov (.s 82)⟩,
    ⟨some 84, some (83, true), .mov (.s 7)⟩,
    ⟨some 85, some (83, true), .idxA 10 (.s 84) (.c (.pure (.int .i64 2)))⟩,
    ⟨some 86, some (83, true), .fldA 7 (.s 85)⟩,
    ⟨some 87, some (83, true), .load false 1 (.s 86)⟩,
    ⟨some 88, some (83, true), .bin .eql (.s 87) (.c (.pure (.int .i64 0)))⟩,
    ⟨some 89, none, .pick (.s 83) (.s 88) (.c (.pure (.bool false)))⟩,
    ⟨some 90, none, .mov (.s 89)⟩,
    ⟨some 91, some (90, true), .mov (.s 7)⟩,
    ⟨some 92, some (90, true), .idxA 10 (.s 91) (.c (.pure (.int .i64 1)))⟩,
    ⟨some 93, some (90, true), .fldA 1 (.s 92)⟩,
    ⟨some 94, some (90, true), .load false 1 (.s 93)⟩,
    ⟨some 95, some (90, true), .bin .eql (.s 94) (.c (.pure (.int .i64 0)))⟩,
    ⟨some 96, none, .pick (.s 90) (.s 95) (.c (.pure (.bool false)))⟩,
    ⟨some 0, none, .mov (.s 96)⟩])
  .ret))))))))
theorem k33 : (Try.f33.body.bind fun c => cCode Try.prog Try.f33.ntmps RCs c) = some c33 := by kernel_rfl
theorem h33 : (Try.f33.name == "runtime.NumGoroutine") = false := by kernel_rfl
theorem r33 : resC Try.prog Try.f33.results.toList = some [.t 0] := by kernel_rfl
theorem a33 {args : List S} {H : Heap} {K : S → Heap → Prop} (hn : args.length ≤ 97) (h : aWx Try.prog H.length c33 (PostX [.t 0] K) (argEnv 0 args) H) : CallA Try.prog 33 args H K :=
  callA_of_x mixed Try.func33 h33 k33 r33 (by rw [Try.ntmps33]; exact hn) h
theorem q33 {vs ds : List V} (hn : vs.length ≤ 97) (h : aWx Try.prog 0 c33 (PostX [.t 0] (Gives ds)) (argEnv 0 (vs.map .pure)) []) : FnQ Try.prog 33 vs ds :=
  fnQ_of_call (a33 (by simpa using hn) h)
/-! typecase/typecaselaw28.LigaFinds -/
def c9 : AC :=
  (.seq (.reg [⟨some 4, none, .box (.s 0)⟩,
    ⟨some 5, none, .box (.s 1)⟩,
    ⟨some 8, none, .mov (.c (.pure (.bool false)))⟩])
  (.seq (.seq (.reg [⟨some 15, none, .load true 4 (.s 5)⟩,
    ⟨some 16, none, .mov (.s 2)⟩,
    ⟨some 17, none, .call 32 [(.s 15), (.s 16)]⟩,
    ⟨some 18, none, .un .not (.s 17)⟩])
  (.cond (.s 18)
  (.seq (.reg [⟨some 19, none, .call 33 []⟩,
    ⟨some 8, none, .mov (.s 19)⟩])
  .ret)
  .skip))
  (.seq (.reg [⟨some 21, none, .load true 6 (.s 4)⟩,
    ⟨some 22, none, .load true 4 (.s 5)⟩,
    ⟨some 23, none, .mov (.s 2)⟩,
    ⟨some 24, none, .mov (.s 3)⟩,
    ⟨some 25, none, .call 34 [(.s 21), (.s 22), (.s 23), (.s 24)]⟩,
    ⟨some 20, none, .mov (.s 25)⟩,
    ⟨some 26, none, .ext 0 (.s 20)⟩,
    ⟨some 27, none, .ext 1 (.s 20)⟩,
    ⟨some 28, none, .ext 2 (.s 20)⟩,
    ⟨some 9, none, .box (.c (.agg [.empty, (.pure (.int .i64 0))]))⟩,
    ⟨none, none, .store 2 (.s 9) (.s 26)⟩,
    ⟨some 10, none, .mov (.s 27)⟩,
    ⟨some 11, none, .mov (.s 28)⟩])
  (.seq (.reg [⟨some 30, none, .load true 6 (.s 4)⟩,
    ⟨some 31, none, .load true 4 (.s 5)⟩,
    ⟨some 32, none, .mov (.s 2)⟩,
    ⟨some 33, none, .mov (.s 3)⟩,
    ⟨some 34, none, .call 35 [(.s 30), (.s 31), (.s 32), (.s 33)]⟩,
    ⟨some 29, none, .mov (.s 34)⟩,
    ⟨some 35, none, .ext 0 (.s 29)⟩,
    ⟨some 36, none, .ext 1 (.s 29)⟩,
    ⟨some 37, none, .ext 2 (.s 29)⟩,
    ⟨some 12, none, .box (.c (.agg [.empty, (.pure (.int .i64 0))]))⟩,
    ⟨none, none, .store 2 (.s 12) (.s 35)⟩,
    ⟨some 13, none, .mov (.s 36)⟩,
    ⟨some 14, none, .mov (.s 37)⟩])
  (.seq (.reg [⟨some 38, none, .load true 2 (.s 9)⟩,
    ⟨some 39, none, .load true 2 (.s 12)⟩,
    ⟨some 40, none, .call 36 [(.s 38), (.s 39)]⟩,
    ⟨some 41, none, .mov (.s 40)⟩,
    ⟨some 42, some (41, true), .mov (.s 10)⟩,
    ⟨some 43, some (41, true), .mov (.s 13)⟩,
    ⟨some 44, some (41, true), .call 37 [(.s 42), (.s 43)]⟩,
    ⟨some 45, none, .pick (.s 41) (.s 44) (.c (.pure (.bool false)))⟩,
    ⟨some 46, none, .mov (.s 45)⟩,
    ⟨some 47, some (46, true), .mov (.s 11)⟩,
    ⟨some 48, some (46, true), .mov (.s 14)⟩,
    ⟨some 49, some (46, true), .eqb false (.s 47) (.s 48)⟩,
    ⟨some 50, none, .pick (.s 46) (.s 49) (.c (.pure (.bool false)))⟩,
    ⟨some 51, none, .mov (.s 50)⟩,
    ⟨some 52, some (51, true), .call 33 []⟩,
    ⟨some 53, none, .pick (.s 51) (.s 52) (.c (.pure (.bool false)))⟩,
    ⟨some 8, none, .mov (.s 53)⟩])
  .ret)))))
theorem k9 : (Try.f9.body.bind fun c => cCode Try.prog Try.f9.ntmps RCs c) = some c9 := by kernel_rfl
theorem h9 : (Try.f9.name == "runtime.NumGoroutine") = false := by kernel_rfl
theorem r9 : resC Try.prog Try.f9.results.toList = some [.t 8] := by kernel_rfl
theorem a9 {args : List S} {H : Heap} {K : S → Heap → Prop} (hn : args.length ≤ 54) (h : aWx Try.prog H.length c9 (PostX [.t 8] K) (argEnv 0 args) H) : CallA Try.prog 9 args H K :=
  callA_of_x mixed Try.func9 h9 k9 r9 (by rw [Try.ntmps9]; exact hn) h
theorem q9 {vs ds : List V} (hn : vs.length ≤ 54) (h : aWx Try.prog 0 c9 (PostX [.t 8] (Gives ds)) (argEnv 0 (vs.map .pure)) []) : FnQ Try.prog 9 vs ds :=
  fnQ_of_call (a9 (by simpa using hn) h)
/-! typecase/typecaselaw28.LigaApplies -/
def c10 : AC :=
  (.seq (.reg [⟨some 4, none, .box (.s 0)⟩,
    ⟨some 5, none, .box (.s 1)⟩,
    ⟨some 8, none, .mov (.c (.pure (.bool false)))⟩])
  (.seq (.seq (.reg [⟨some 15, none, .load true 4 (.s 5)⟩,
    ⟨some 16, none, .mov (.s 2)⟩,
    ⟨some 17, none, .call 32 [(.s 15), (.s 16)]⟩,
    ⟨some 18, none, .un .not (.s 17)⟩])
  (.cond (.s 18)
  (.seq (.reg [⟨some 19, none, .call 33 []⟩,
    ⟨some 8, none, .mov (.s 19)⟩])
  .ret)
  .skip))
  (.seq (.reg [⟨some 21, none, .load true 6 (.s 4)⟩,
    ⟨some 22, none, .load true 4 (.s 5)⟩,
    ⟨some 23, none, .mov (.s 2)⟩,
    ⟨some 24, none, .mov (.s 3)⟩,
    ⟨some 25, none, .call 38 [(.s 21), (.s 22), (.s 23), (.s 24)]⟩,
    ⟨some 20, none, .mov (.s 25)⟩,
    ⟨some 26, none, .ext 0 (.s 20)⟩,
    ⟨some 27, none, .ext 1 (.s 20)⟩,
    ⟨some 28, none, .ext 2 (.s 20)⟩,
    ⟨some 9, none, .mov (.s 26)⟩,
    ⟨some 10, none, .mov (.s 27)⟩,
    ⟨some 11, none, .mov (.s 28)⟩])
  (.seq (.reg [⟨some 30, none, .load true 6 (.s 4)⟩,
    ⟨some 31, none, .load true 4 (.s 5)⟩,
    ⟨some 32, none, .mov (.s 2)⟩,
    ⟨some 33, none, .mov (.s 3)⟩,
    ⟨some 34, none, .call 39 [(.s 30), (.s 31), (.s 32), (.s 33)]⟩,
    ⟨some 29, none, .mov (.s 34)⟩,
    ⟨some 35, none, .ext 0 (.s 29)⟩,
    ⟨some 36, none, .ext 1 (.s 29)⟩,
    ⟨some 37, none, .ext 2 (.s 29)⟩,
    ⟨some 12, none, .mov (.s 35)⟩,
    ⟨some 13, none, .mov (.s 36)⟩,
    ⟨some 14, none, .mov (.s 37)⟩])
  (.seq (.reg [⟨some 38, none, .mov (.s 9)⟩,
    ⟨some 39, none, .mov (.s 12)⟩,
    ⟨some 40, none, .call 22 [(.s 38), (.s 39)]⟩,
    ⟨some 41, none, .mov (.s 40)⟩,
    ⟨some 42, some (41, true), .mov (.s 10)⟩,
    ⟨some 43, some (41, true), .mov (.s 13)⟩,
    ⟨some 44, some (41, true), .bin .eql (.s 42) (.s 43)⟩,
    ⟨some 45, none, .pick (.s 41) (.s 44) (.c (.pure (.bool false)))⟩,
    ⟨some 46, none, .mov (.s 45)⟩,
    ⟨some 47, some (46, true), .mov (.s 11)⟩,
    ⟨some 48, some (46, true), .mov (.s 14)⟩,
    ⟨some 49, some (46, true), .eqb false (.s 47) (.s 48)⟩,
    ⟨some 50, none, .pick (.s 46) (.s 49) (.c (.pure (.bool false)))⟩,
    ⟨some 51, none, .mov (.s 50)⟩,
    ⟨some 52, some (51, true), .call 33 []⟩,
    ⟨some 53, none, .pick (.s 51) (.s 52) (.c (.pure (.bool false)))⟩,
    ⟨some 8, none, .mov (.s 53)⟩])
  .ret)))))
theorem k10 : (Try.f10.body.bind fun c => cCode Try.prog Try.f10.ntmps RCs c) = some c10 := by kernel_rfl
theorem h10 : (Try.f10.name == "runtime.NumGoroutine") = false := by kernel_rfl
theorem r10 : resC Try.prog Try.f10.results.toList = some [.t 8] := by kernel_rfl
theorem a10 {args : List S} {H : Heap} {K : S → Heap → Prop} (hn : args.length ≤ 54) (h : aWx Try.prog H.length c10 (PostX [.t 8] K) (argEnv 0 args) H) : CallA Try.prog 10 args H K :=
  callA_of_x mixed Try.func10 h10 k10 r10 (by rw [Try.ntmps10]; exact hn) h
theorem q10 {vs ds : List V} (hn : vs.length ≤ 54) (h : aWx Try.prog 0 c10 (PostX [.t 8] (Gives ds)) (argEnv 0 (vs.map .pure)) []) : FnQ Try.prog 10 vs ds :=
  fnQ_of_call (a10 (by simpa using hn) h)
/-! typecase/typecaselaw28.LigaParts -/
def c12_0 : AC :=
  (.seq (.reg [⟨some 57, none, .call 33 []⟩,
    ⟨some 4, none, .mov (.s 57)⟩])
  .ret)
def c12_1 : AC :=
  (.seq (.reg [⟨some 33, none, .bin .lss (.s 32) (.s 31)⟩])
  (.seq (.cond (.s 33)
  .skip
  (.exit 0))
  (.seq (.block 1
  (.seq (.reg [⟨some 34, none, .mov (.s 32)⟩,
    ⟨some 7, none, .mov (.s 34)⟩])
  (.seq (.regq [⟨some 35, none, .mov (.s 5)⟩,
    ⟨some 36, none, .mov (.s 7)⟩,
    ⟨some 37, none, .idxA 2 (.s 35) (.s 36)⟩,
    ⟨some 38, none, .load true 2 (.s 37)⟩,
    ⟨some 39, none, .mov (.s 6)⟩,
    ⟨some 40, none, .mov (.s 7)⟩,
    ⟨some 41, none, .idxA 2 (.s 39) (.s 40)⟩,
    ⟨some 42, none, .load true 2 (.s 41)⟩,
    ⟨some 43, none, .call 36 [(.s 38), (.s 42)]⟩,
    ⟨some 44, none, .un .not (.s 43)⟩,
    ⟨some 45, none, .mov (.s 44)⟩,
    ⟨some 46, some (45, false), .mov (.s 5)⟩,
    ⟨some 47, some (45, false), .mov (.s 7)⟩,
    ⟨some 48, some (45, false), .idxA 2 (.s 46) (.s 47)⟩,
    ⟨some 49, some (45, false), .fldA 0 (.s 48)⟩,
    ⟨some 50, some (45, false), .load false 1 (.s 49)⟩,
    ⟨some 51, some (45, false), .len (.s 50)⟩,
    ⟨some 52, some (45, false), .load true 4 (.s 2)⟩,
    ⟨some 53, some (45, false), .call 43 [(.s 52)]⟩]
    [⟨some 54, some (45, false), .bin .geq (.s 51) (.s 53)⟩,
    ⟨some 55, none, .pick (.s 45) (.c (.pure (.bool true))) (.s 54)⟩])
  (.cond (.s 55)
  (.seq (.reg [⟨some 4, none, .mov (.c (.pure (.bool false)))⟩])
  .ret)
  .skip))))
  (.reg [⟨some 56, none, .bin .add (.s 32) (.c (.pure (.int .i64 1)))⟩,
    ⟨some 32, none, .mov (.s 56)⟩]))))
def c12 : AC :=
  (.seq (.reg [⟨some 2, none, .box (.s 0)⟩,
    ⟨some 4, none, .mov (.c (.pure (.bool false)))⟩])
  (.seq (.seq (.reg [⟨some 8, none, .load true 4 (.s 2)⟩,
    ⟨some 9, none, .call 32 [(.s 8), (.c .empty)]⟩,
    ⟨some 10, none, .un .not (.s 9)⟩])
  (.cond (.s 10)
  (.seq (.reg [⟨some 11, none, .call 33 []⟩,
    ⟨some 4, none, .mov (.s 11)⟩])
  .ret)
  .skip))
  (.seq (.regq [⟨some 12, none, .load true 4 (.s 2)⟩,
    ⟨some 13, none, .mov (.s 1)⟩,
    ⟨some 14, none, .call 41 [(.s 12), (.s 13)]⟩,
    ⟨some 15, none, .load true 4 (.s 2)⟩,
    ⟨some 16, none, .mov (.s 1)⟩]
    [⟨some 17, none, .call 42 [(.s 15), (.s 16)]⟩,
    ⟨some 5, none, .mov (.s 14)⟩,
    ⟨some 6, none, .mov (.s 17)⟩])
  (.seq (.seq (.regq [⟨some 18, none, .mov (.s 5)⟩,
    ⟨some 19, none, .len (.s 18)⟩,
    ⟨some 20, none, .mov (.s 6)⟩,
    ⟨some 21, none, .len (.s 20)⟩,
    ⟨some 22, none, .bin .neq (.s 19) (.s 21)⟩,
    ⟨some 23, none, .mov (.s 22)⟩,
    ⟨some 24, some (23, false), .load true 4 (.s 2)⟩,
    ⟨some 25, some (23, false), .call 43 [(.s 24)]⟩,
    ⟨some 26, some (23, false), .load true 4 (.s 2)⟩]
    [⟨some 27, some (23, false), .call 44 [(.s 26)]⟩,
    ⟨some 28, some (23, false), .bin .neq (.s 25) (.s 27)⟩,
    ⟨some 29, none, .pick (.s 23) (.c (.pure (.bool true))) (.s 28)⟩])
  (.cond (.s 29)
  (.seq (.reg [⟨some 4, none, .mov (.c (.pure (.bool false)))⟩])
  .ret)
  .skip))
  (.seq (.seq (.reg [⟨some 30, none, .mov (.s 5)⟩,
    ⟨some 31, none, .len (.s 30)⟩,
    ⟨some 32, none, .mov (.c (.pure (.int .i64 0)))⟩])
  (.block 0
  (.loop c12_1)))
  c12_0)))))
theorem k12 : (Try.f12.body.bind fun c => cCode Try.prog Try.f12.ntmps RCs c) = some c12 := by kernel_rfl
theorem h12 : (Try.f12.name == "runtime.NumGoroutine") = false := by kernel_rfl
theorem r12 : resC Try.prog Try.f12.results.toList = some [.t 4] := by kernel_rfl
theorem a12 {args : List S} {H : Heap} {K : S → Heap → Prop} (hn : args.length ≤ 58) (h : aWx Try.prog H.length c12 (PostX [.t 4] K) (argEnv 0 args) H) : CallA Try.prog 12 args H K :=
  callA_of_x mixed Try.func12 h12 k12 r12 (by rw [Try.ntmps12]; exact hn) h
theorem q12 {vs ds : List V} (hn : vs.length ≤ 58) (h : aWx Try.prog 0 c12 (PostX [.t 4] (Gives ds)) (argEnv 0 (vs.map .pure)) []) : FnQ Try.prog 12 vs ds :=
  fnQ_of_call (a12 (by simpa using hn) h)

def aF28 : Fo := ⟨I 10, [⟨0, 0, 0, .sl []⟩, ⟨0, 0, 0, .sl []⟩, ⟨0, 0, 0, .sl []⟩, ⟨0, 0, 0, .sl []⟩, ⟨0, 0, 0, .sl []⟩, ⟨0, 0, 0, .sl []⟩, ⟨0, 0, 0, .sl []⟩, ⟨0, 3, 0, .sl []⟩, ⟨0, 0, 0, .sl []⟩, ⟨0, 0, 0, .sl []⟩], .sl [], .sl [], .sl [], []⟩
def aK28 : Lk := ⟨3, 8, 0, [⟨[1], [], [[⟨[2], 9⟩]], [], [], [], [], [], [], [], [], []⟩]⟩
def aL28 : List Gl := [freshG 1 0, freshG 7 1, freshG 2 2, freshG 7 3]
theorem a28_1 : findF aF28 aK28 aL28 0 = some (⟨[2], 9⟩, [0, 2]) := by decide
theorem a28_2 : applyL aF28 aK28 aL28 0 = some ([⟨9, 0, 0, 0, 0, -1, -1, 1, 0, 0⟩, ⟨7, 0, 0, 0, 0, -1, -1, 1, 0, 0⟩, ⟨7, 3, 0, 0, 0, -1, -1, 0, 0, 0⟩], 2) := by decide
theorem a28_s : SmallL aK28 := ⟨by decide, by decide⟩
theorem c28_1 : FnQ Try.prog 34 [fo aF28, lk aK28, .sl (aL28.map gl), I 0] [lg ⟨[2], 9⟩, LI [0, 2], .bool true] := by
  have h := find_q aF28 aK28 a28_s aL28 (by decide) 0
  rw [a28_1] at h
  exact h
theorem c28_2 : FnQ Try.prog 38 [fo aF28, lk aK28, .sl (aL28.map gl), I 0] [.sl [gl ⟨9, 0, 0, 0, 0, -1, -1, 1, 0, 0⟩, gl ⟨7, 0, 0, 0, 0, -1, -1, 1, 0, 0⟩, gl ⟨7, 3, 0, 0, 0, -1, -1, 0, 0, 0⟩], I 2, .bool true] := by
  have h := apply28_q aF28 aK28 a28_s aL28 (by decide) (by decide) 0
  rw [a28_2] at h
  exact h
theorem c28_3 : FnQ Try.prog 71 [.sl [gl ⟨9, 0, 0, 0, 0, -1, -1, 1, 0, 0⟩, gl ⟨7, 0, 0, 0, 0, -1, -1, 1, 0, 0⟩, gl ⟨7, 3, 0, 0, 0, -1, -1, 0, 0, 0⟩]] [LI [9, 7, 7]] :=
  ids_q [⟨9, 0, 0, 0, 0, -1, -1, 1, 0, 0⟩, ⟨7, 0, 0, 0, 0, -1, -1, 1, 0, 0⟩, ⟨7, 3, 0, 0, 0, -1, -1, 0, 0, 0⟩] (by decide)
theorem c28_4 : FnQ Try.prog 37 [LI [0, 2], LI [0, 2]] [.bool true] := numbers_q [0, 2] [0, 2]
theorem c28_5 : FnQ Try.prog 37 [LI [9, 7, 7], LI [9, 7, 7]] [.bool true] := numbers_q [9, 7, 7] [9, 7, 7]
theorem alive28l_q : FnQ Try.prog 33 [] [.bool true] := by
  refine q33 (by simp) ?_
  unfold c33
  simp -implicitDefEqProofs only [*, vmp,↓vmd,seval]
  refine onIf'_intro (by simp [maxLen]) ?_
  simp -implicitDefEqProofs only [*, vmp,↓vmd,seval]
  refine onC_q (fresh_q 1 0) rfl ?_
  first | refine envO (by simp -implicitDefEqProofs only [vmp,↓vmd,seval]; rfl) ?_ | refine envQ (by simp -implicitDefEqProofs only [vmp,↓vmd,seval]; rfl) ?_
  simp -implicitDefEqProofs only [vmp,↓vmd,seval]
  refine onC_q (fresh_q 7 1) rfl ?_
  first | refine envO (by simp -implicitDefEqProofs only [vmp,↓vmd,seval]; rfl) ?_ | refine envQ (by simp -implicitDefEqProofs only [vmp,↓vmd,seval]; rfl) ?_
  simp -implicitDefEqProofs only [vmp,↓vmd,seval]
  refine onC_q (fresh_q 2 2) rfl ?_
  first | refine envO (by simp -implicitDefEqProofs only [vmp,↓vmd,seval]; rfl) ?_ | refine envQ (by simp -implicitDefEqProofs only [vmp,↓vmd,seval]; rfl) ?_
  simp -implicitDefEqProofs only [vmp,↓vmd,seval]
  refine onC_q (fresh_q 7 3) rfl ?_
  first | refine envO (by simp -implicitDefEqProofs only [vmp,↓vmd,seval]; rfl) ?_ | refine envQ (by simp -implicitDefEqProofs only [vmp,↓vmd,seval]; rfl) ?_
  simp -implicitDefEqProofs only [freshG, vmp,↓vmd,seval]
  refine onC_frz 0 (onC_frz 1 (onC_frz 2 (onC_frz 3 (onC_frz 4 (onC_frz 5 (onC_frz 6 (onC_frz 7 (onC_frz 8 (onC_frz 9 ?_)))))))))
  simp -implicitDefEqProofs only [vmp,↓vmd,seval]
  refine onC_q c28_1 rfl ?_
  first | refine envO (by simp -implicitDefEqProofs only [vmp,↓vmd,seval]; rfl) ?_ | refine envQ (by simp -implicitDefEqProofs only [vmp,↓vmd,seval]; rfl) ?_
  simp -implicitDefEqProofs only [vmp,↓vmd,seval]
  refine onC_q c28_2 rfl ?_
  first | refine envO (by simp -implicitDefEqProofs only [vmp,↓vmd,seval]; rfl) ?_ | refine envQ (by simp -implicitDefEqProofs only [vmp,↓vmd,seval]; rfl) ?_
  simp -implicitDefEqProofs only [vmp,↓vmd,seval]
  refine onC_r c28_4 rfl (by simp [V.flat, V.flat.V.flats]) ?_
  first | refine envO (by simp -implicitDefEqProofs only [vmp,↓vmd,seval]; rfl) ?_ | refine envQ (by simp -implicitDefEqProofs only [vmp,↓vmd,seval]; rfl) ?_
  simp -implicitDefEqProofs only [vmp,↓vmd,seval]
  refine onC_q c28_3 rfl ?_
  first | refine envO (by simp -implicitDefEqProofs only [vmp,↓vmd,seval]; rfl) ?_ | refine envQ (by simp -implicitDefEqProofs only [vmp,↓vmd,seval]; rfl) ?_
  simp -implicitDefEqProofs only [vmp,↓vmd,seval]
  refine onC_r c28_5 rfl (by simp [V.flat, V.flat.V.flats]) ?_
  first | refine envO (by simp -implicitDefEqProofs only [vmp,↓vmd,seval]; rfl) ?_ | refine envQ (by simp -implicitDefEqProofs only [vmp,↓vmd,seval]; rfl) ?_
  simp -implicitDefEqProofs only [vmp,↓vmd,seval]
  exact gives_pure
theorem LightL.small {k : Lk} {ls : List Gl} (h : LightL k ls) : SmallL k := ⟨h.row, h.parts⟩
theorem lf_law (f : Fo) (k : Lk) (ls : List Gl) (x : Int) : FnQ Try.prog 9 [fo f, lk k, .sl (ls.map gl), I x] [.bool true] := by
  refine q9 (by simp) ?_
  unfold c9
  have hlt := @lightL_of k ls
  simp -implicitDefEqProofs only [vmp,↓vmd,seval]
  refine onC_q (light28_q k ls) rfl ?_
  generalize lightL k ls = b at hlt
  first | refine envO (by simp -implicitDefEqProofs only [vmp,↓vmd,seval]; rfl) ?_ | refine envQ (by simp -implicitDefEqProofs only [vmp,↓vmd,seval]; rfl) ?_
  simp -implicitDefEqProofs only [vmp,↓vmd,seval]
  cases b with
  | false =>
    simp -implicitDefEqProofs only [vmp,↓vmd,seval]
    refine onC_q alive28l_q rfl ?_
    first | refine envO (by simp -implicitDefEqProofs only [vmp,↓vmd,seval]; rfl) ?_ | refine envQ (by simp -implicitDefEqProofs only [vmp,↓vmd,seval]; rfl) ?_
    simp -implicitDefEqProofs only [vmp,↓vmd,seval]
    exact gives_pure
  | true =>
    have hL := hlt rfl
    have hlen := hL.len
    simp -implicitDefEqProofs only [vmp,↓vmd,seval]
    refine onC_q (find_q f k hL.small ls (by omega) x) rfl ?_
    have h2 := rfind_q f k hL.small ls (by omega) x
    generalize findF f k ls x = o at *
    first | refine envO (by simp -implicitDefEqProofs only [vmp,↓vmd,seval]; rfl) ?_ | refine envQ (by simp -implicitDefEqProofs only [vmp,↓vmd,seval]; rfl) ?_
    simp -implicitDefEqProofs only [findR, vmp,↓vmd,seval]
    refine onC_q h2 rfl ?_
    first | refine envO (by simp -implicitDefEqProofs only [vmp,↓vmd,seval]; rfl) ?_ | refine envQ (by simp -implicitDefEqProofs only [vmp,↓vmd,seval]; rfl) ?_
    simp -implicitDefEqProofs only [findR, vmp,↓vmd,seval]
    refine onC_q (lgsame_q _ _) rfl ?_
    rw [decide_eq_true rfl]
    first | refine envO (by simp -implicitDefEqProofs only [vmp,↓vmd,seval]; rfl) ?_ | refine envQ (by simp -implicitDefEqProofs only [vmp,↓vmd,seval]; rfl) ?_
    simp -implicitDefEqProofs only [vmp,↓vmd,seval]
    refine onC_q (numbers_q _ _) rfl ?_
    rw [decide_eq_true rfl]
    first | refine envO (by simp -implicitDefEqProofs only [vmp,↓vmd,seval]; rfl) ?_ | refine envQ (by simp -implicitDefEqProofs only [vmp,↓vmd,seval]; rfl) ?_
    simp -implicitDefEqProofs only [vmp,↓vmd,seval]
    refine onC_q alive28l_q rfl ?_
    first | refine envO (by simp -implicitDefEqProofs only [vmp,↓vmd,seval]; rfl) ?_ | refine envQ (by simp -implicitDefEqProofs only [vmp,↓vmd,seval]; rfl) ?_
    simp -implicitDefEqProofs only [vmp,↓vmd,seval]
    exact gives_pure
theorem la_law (f : Fo) (k : Lk) (ls : List Gl) (x : Int) : FnQ Try.prog 10 [fo f, lk k, .sl (ls.map gl), I x] [.bool true] := by
  refine q10 (by simp) ?_
  unfold c10
  have hlt := @lightL_of k ls
  simp -implicitDefEqProofs only [vmp,↓vmd,seval]
  refine onC_q (light28_q k ls) rfl ?_
  generalize lightL k ls = b at hlt
  first | refine envO (by simp -implicitDefEqProofs only [vmp,↓vmd,seval]; rfl) ?_ | refine envQ (by simp -implicitDefEqProofs only [vmp,↓vmd,seval]; rfl) ?_
  simp -implicitDefEqProofs only [vmp,↓vmd,seval]
  cases b with
  | false =>
    simp -implicitDefEqProofs only [vmp,↓vmd,seval]
    refine onC_q alive28l_q rfl ?_
    first | refine envO (by simp -implicitDefEqProofs only [vmp,↓vmd,seval]; rfl) ?_ | refine envQ (by simp -implicitDefEqProofs only [vmp,↓vmd,seval]; rfl) ?_
    simp -implicitDefEqProofs only [vmp,↓vmd,seval]
    exact gives_pure
  | true =>
    have hL := hlt rfl
    simp -implicitDefEqProofs only [vmp,↓vmd,seval]
    refine onC_q (apply28_q f k hL.small ls hL.len hL.lig x) rfl ?_
    have h2 := rapply28_q f k hL.small ls hL.len hL.lig x
    generalize applyL f k ls x = o at *
    first | refine envO (by simp -implicitDefEqProofs only [vmp,↓vmd,seval]; rfl) ?_ | refine envQ (by simp -implicitDefEqProofs only [vmp,↓vmd,seval]; rfl) ?_
    simp -implicitDefEqProofs only [apR, vmp,↓vmd,seval]
    refine onC_q h2 rfl ?_
    first | refine envO (by simp -implicitDefEqProofs only [vmp,↓vmd,seval]; rfl) ?_ | refine envQ (by simp -implicitDefEqProofs only [vmp,↓vmd,seval]; rfl) ?_
    simp -implicitDefEqProofs only [apR, vmp,↓vmd,seval]
    refine onC_q (same25_q _ _) rfl ?_
    rw [decide_eq_true rfl]
    first | refine envO (by simp -implicitDefEqProofs only [vmp,↓vmd,seval]; rfl) ?_ | refine envQ (by simp -implicitDefEqProofs only [vmp,↓vmd,seval]; rfl) ?_
    simp -implicitDefEqProofs only [vmp,↓vmd,seval]
    refine onC_q alive28l_q rfl ?_
    first | refine envO (by simp -implicitDefEqProofs only [vmp,↓vmd,seval]; rfl) ?_ | refine envQ (by simp -implicitDefEqProofs only [vmp,↓vmd,seval]; rfl) ?_
    simp -implicitDefEqProofs only [vmp,↓vmd,seval]
    exact gives_pure
theorem lp_law (k : Lk) (g : Int) : FnQ Try.prog 12 [lk k, I g] [.bool true] := by
  refine q12 (by simp) ?_
  unfold c12
  have hlt := @lightL_of k []
  have h0 := light28_q k []
  simp -implicitDefEqProofs only [vmp,↓vmd,seval]
  refine onC_q h0 rfl ?_
  generalize lightL k [] = b at hlt
  first | refine envO (by simp -implicitDefEqProofs only [vmp,↓vmd,seval]; rfl) ?_ | refine envQ (by simp -implicitDefEqProofs only [vmp,↓vmd,seval]; rfl) ?_
  simp -implicitDefEqProofs only [vmp,↓vmd,seval]
  cases b with
  | false =>
    simp -implicitDefEqProofs only [vmp,↓vmd,seval]
    refine onC_q alive28l_q rfl ?_
    first | refine envO (by simp -implicitDefEqProofs only [vmp,↓vmd,seval]; rfl) ?_ | refine envQ (by simp -implicitDefEqProofs only [vmp,↓vmd,seval]; rfl) ?_
    simp -implicitDefEqProofs only [vmp,↓vmd,seval]
    exact gives_pure
  | true =>
    have hS := (hlt rfl).small
    simp -implicitDefEqProofs only [vmp,↓vmd,seval]
    refine onQ_q (parts_q k hS g) rfl ?_
    have h2 := rparts_q k hS g
    have hlen : (partsL k.subs g).length ≤ 60 := partsL_len hS.row
    have hlong : ∀ y ∈ partsL k.subs g, (y.parts.length : Int) < longF k := fun y hy => by
      obtain ⟨s, h3, z, h4, h5⟩ := partsL_in hy
      exact (@longF_ge' k.subs 0).2 s h3 z h4 y h5
    have h3 := longest_q k hS
    have h4 := rlongest_q k hS
    generalize partsL k.subs g = L at *
    generalize longF k = n at *
    first | refine envO (by simp -implicitDefEqProofs only [vmp,↓vmd,seval]; rfl) ?_ | refine envQ (by simp -implicitDefEqProofs only [vmp,↓vmd,seval]; rfl) ?_
    simp -implicitDefEqProofs only [vmp,↓vmd,seval]
    refine onC_q h2 rfl ?_
    first | refine envO (by simp -implicitDefEqProofs only [vmp,↓vmd,seval]; rfl) ?_ | refine envQ (by simp -implicitDefEqProofs only [vmp,↓vmd,seval]; rfl) ?_
    simp -implicitDefEqProofs only [vmp,↓vmd,seval]
    refine onQ_q h3 rfl ?_
    first | refine envO (by simp -implicitDefEqProofs only [vmp,↓vmd,seval]; rfl) ?_ | refine envQ (by simp -implicitDefEqProofs only [vmp,↓vmd,seval]; rfl) ?_
    simp -implicitDefEqProofs only [vmp,↓vmd,seval]
    refine onC_q h4 rfl ?_
    first | refine envO (by simp -implicitDefEqProofs only [vmp,↓vmd,seval]; rfl) ?_ | refine envQ (by simp -implicitDefEqProofs only [vmp,↓vmd,seval]; rfl) ?_
    simp -implicitDefEqProofs only [vmp,↓vmd,seval]
    refine onIf_intro fun _ => ?_
    first | refine envO (by simp -implicitDefEqProofs only [vmp,↓vmd,seval]; rfl) ?_ | refine envQ (by simp -implicitDefEqProofs only [vmp,↓vmd,seval]; rfl) ?_
    simp -implicitDefEqProofs only [vmp,↓vmd,seval]
    refine loop_at (T := Nat) (fun i => [(32, .pure (I i)), (31, .pure (I L.length)), (5, .pure (.sl (L.map lg))), (6, .pure (.sl (L.map lg))), (2, .ptr 0 0 0)]) (fun _ => [⟨[.pure (lk k)], 4, .live⟩]) (fun i => i ≤ L.length) (fun i => L.length - i)
      0 [0] (by simp) rfl (by simp) (by simp -implicitDefEqProofs only [kpp,seval]) (by simp -implicitDefEqProofs only [kpp,seval]) ?_
    intro i hi
    unfold c12_1
    simp -implicitDefEqProofs only [vmp,↓vmd,seval]
    refine onB_dec (fun h5 => ?_) (fun h5 => ?_)
    · have hli : i < L.length := by omega
      have hgi : (L.map lg)[i]? = some (lg L[i]) := map_at hli
      have hyi := hlong L[i] (List.getElem_mem _)
      generalize L[i] = y at hgi hyi
      simp -implicitDefEqProofs only [h5, hgi, Int.natCast_nonneg, vmp,↓vmd,seval]
      refine onQ_q (lgsame_q y y) rfl ?_
      rw [decide_eq_true rfl]
      first | refine envO (by simp -implicitDefEqProofs only [vmp,↓vmd,seval]; rfl) ?_ | refine envQ (by simp -implicitDefEqProofs only [vmp,↓vmd,seval]; rfl) ?_
      simp -implicitDefEqProofs only [hgi, Int.natCast_nonneg, vmp,↓vmd,seval]
      refine onQ_q h3 rfl ?_
      first | refine envO (by simp -implicitDefEqProofs only [vmp,↓vmd,seval]; rfl) ?_ | refine envQ (by simp -implicitDefEqProofs only [vmp,↓vmd,seval]; rfl) ?_
      simp -implicitDefEqProofs only [vmp,↓vmd,seval]
      refine onB_neg (by omega) ?_
      simp -implicitDefEqProofs only [vmp,↓vmd,seval]
      refine onBk_to (i + 1) [0] (by simp) rfl (by omega) hli (by simp -implicitDefEqProofs only [next_at hli (by omega), kpp,seval]) (by simp -implicitDefEqProofs only [kpp,seval])
    · simp -implicitDefEqProofs only [h5, vmp,↓vmd,seval]
      unfold c12_0
      simp -implicitDefEqProofs only [vmp,↓vmd,seval]
      refine onC_q alive28l_q rfl ?_
      first | refine envO (by simp -implicitDefEqProofs only [vmp,↓vmd,seval]; rfl) ?_ | refine envQ (by simp -implicitDefEqProofs only [vmp,↓vmd,seval]; rfl) ?_
      simp -implicitDefEqProofs only [vmp,↓vmd,seval]
      exact gives_pure
theorem lf_all (vs : List V) (h : OkTs Try.prog Try.f9.params.toList vs) : FnQ Try.prog 9 vs [.bool true] := by
  rw [Try.params9] at h
  match vs, h with
  | [x, y, z, u], h =>
    obtain ⟨h1, h2, h3, h4, _⟩ := h
    obtain ⟨f, rfl⟩ := font_of h1
    obtain ⟨k, rfl⟩ := lookup_of' h2
    obtain ⟨l, rfl, _⟩ := gls_of (cell_of (h3 _ _ _ ty_glyphs))
    obtain ⟨n, rfl, _⟩ := int_of' h4
    exact lf_law f k l n
theorem la_all (vs : List V) (h : OkTs Try.prog Try.f10.params.toList vs) : FnQ Try.prog 10 vs [.bool true] := by
  rw [Try.params10] at h
  match vs, h with
  | [x, y, z, u], h =>
    obtain ⟨h1, h2, h3, h4, _⟩ := h
    obtain ⟨f, rfl⟩ := font_of h1
    obtain ⟨k, rfl⟩ := lookup_of' h2
    obtain ⟨l, rfl, _⟩ := gls_of (cell_of (h3 _ _ _ ty_glyphs))
    obtain ⟨n, rfl, _⟩ := int_of' h4
    exact la_law f k l n
theorem lp_all (vs : List V) (h : OkTs Try.prog Try.f12.params.toList vs) : FnQ Try.prog 12 vs [.bool true] := by
  rw [Try.params12] at h
  match vs, h with
  | [x, y], h =>
    obtain ⟨h1, h2, _⟩ := h
    obtain ⟨k, rfl⟩ := lookup_of' h1
    obtain ⟨n, rfl, _⟩ := int_of' h2
    exact lp_law k n
end Go.Proofs.Ytbllbkhkmngclaa.W
