/-
  Where glyphs settle: the two functions, one answer. No condition but on sizes.
-/
import Derived.Test.YtjgodncjlffhjaaSums
namespace Go.Proofs.Ytjgodncjlffhjaa.W
open Go Go.Vm Go.Proofs
set_option maxRecDepth 100000
set_option linter.unusedSimpArgs false
set_option maxHeartbeats 1000000
/-! typecase/typecaseref35.Far -/
def c85 : AC :=
  (.seq (.reg [⟨some 2, none, .mov (.c (.pure (.bool false)))⟩])
  (.seq (.reg [⟨some 3, none, .mov (.s 0)⟩,
    ⟨some 4, none, .bin .lss (.s 3) (.c (.pure (.int .i64 (-1073741824))))⟩,
    ⟨some 5, none, .mov (.s 4)⟩,
    ⟨some 6, some (5, false), .mov (.s 0)⟩,
    ⟨some 7, some (5, false), .bin .gtr (.s 6) (.c (.pure (.int .i64 1073741824)))⟩,
    ⟨some 8, none, .pick (.s 5) (.c (.pure (.bool true))) (.s 7)⟩,
    ⟨some 2, none, .mov (.s 8)⟩])
  .ret))
theorem k85 : (Try.f85.body.bind fun c => cCode Try.prog Try.f85.ntmps RCs c) = some c85 := by kernel_rfl
theorem h85 : (Try.f85.name == "runtime.NumGoroutine") = false := by kernel_rfl
theorem r85 : resC Try.prog Try.f85.results.toList = some [.t 2] := by kernel_rfl
theorem a85 {args : List S} {H : Heap} {K : S → Heap → Prop} (hn : args.length ≤ 9) (h : aWx Try.prog H.length c85 (PostX [.t 2] K) (argEnv 0 args) H) : CallA Try.prog 85 args H K :=
  callA_of_x mixed Try.func85 h85 k85 r85 (by rw [Try.ntmps85]; exact hn) h
theorem q85 {vs ds : List V} (hn : vs.length ≤ 9) (h : aWx Try.prog 0 c85 (PostX [.t 2] (Gives ds)) (argEnv 0 (vs.map .pure)) []) : FnQ Try.prog 85 vs ds :=
  fnQ_of_call (a85 (by simpa using hn) h)
/-! typecase/typecaselaw35.near -/
def c51_0 : AC :=
  (.seq (.reg [⟨some 2, none, .mov (.c (.pure (.bool true)))⟩])
  .ret)
def c51_1 : AC :=
  (.seq (.seq (.reg [⟨some 7, none, .mov (.s 3)⟩,
    ⟨some 8, none, .mov (.s 0)⟩,
    ⟨some 9, none, .len (.s 8)⟩,
    ⟨some 10, none, .bin .lss (.s 7) (.s 9)⟩])
  (.cond (.s 10)
  .skip
  (.exit 0)))
  (.seq (.block 1
  (.seq (.reg [⟨some 13, none, .mov (.s 0)⟩,
    ⟨some 14, none, .mov (.s 3)⟩,
    ⟨some 15, none, .idxA 10 (.s 13) (.s 14)⟩,
    ⟨some 16, none, .fldA 2 (.s 15)⟩,
    ⟨some 17, none, .load false 1 (.s 16)⟩,
    ⟨some 18, none, .call 85 [(.s 17)]⟩,
    ⟨some 19, none, .mov (.s 18)⟩,
    ⟨some 20, some (19, false), .mov (.s 0)⟩,
    ⟨some 21, some (19, false), .mov (.s 3)⟩,
    ⟨some 22, some (19, false), .idxA 10 (.s 20) (.s 21)⟩,
    ⟨some 23, some (19, false), .fldA 3 (.s 22)⟩,
    ⟨some 24, some (19, false), .load false 1 (.s 23)⟩,
    ⟨some 25, some (19, false), .call 85 [(.s 24)]⟩,
    ⟨some 26, none, .pick (.s 19) (.c (.pure (.bool true))) (.s 25)⟩,
    ⟨some 27, none, .mov (.s 26)⟩,
    ⟨some 28, some (27, false), .mov (.s 0)⟩,
    ⟨some 29, some (27, false), .mov (.s 3)⟩,
    ⟨some 30, some (27, false), .idxA 10 (.s 28) (.s 29)⟩,
    ⟨some 31, some (27, false), .fldA 4 (.s 30)⟩,
    ⟨some 32, some (27, false), .load false 1 (.s 31)⟩,
    ⟨some 33, some (27, false), .call 85 [(.s 32)]⟩,
    ⟨some 34, none, .pick (.s 27) (.c (.pure (.bool true))) (.s 33)⟩])
  (.cond (.s 34)
  (.seq (.reg [⟨some 2, none, .mov (.c (.pure (.bool false)))⟩])
  .ret)
  .skip)))
  (.reg [⟨some 11, none, .mov (.s 3)⟩,
    ⟨some 12, none, .bin .add (.s 11) (.c (.pure (.int .i64 1)))⟩,
    ⟨some 3, none, .mov (.s 12)⟩])))
def c51 : AC :=
  (.seq (.reg [⟨some 2, none, .mov (.c (.pure (.bool false)))⟩])
  (.seq (.seq (.reg [⟨some 4, none, .mov (.s 0)⟩,
    ⟨some 5, none, .len (.s 4)⟩,
    ⟨some 6, none, .bin .gtr (.s 5) (.c (.pure (.int .i64 20)))⟩])
  (.cond (.s 6)
  (.seq (.reg [⟨some 2, none, .mov (.c (.pure (.bool false)))⟩])
  .ret)
  .skip))
  (.seq (.seq (.reg [⟨some 3, none, .mov (.c (.pure (.int .i64 0)))⟩])
  (.block 0
  (.loop c51_1)))
  c51_0)))
theorem k51 : (Try.f51.body.bind fun c => cCode Try.prog Try.f51.ntmps RCs c) = some c51 := by kernel_rfl
theorem h51 : (Try.f51.name == "runtime.NumGoroutine") = false := by kernel_rfl
theorem r51 : resC Try.prog Try.f51.results.toList = some [.t 2] := by kernel_rfl
theorem a51 {args : List S} {H : Heap} {K : S → Heap → Prop} (hn : args.length ≤ 35) (h : aWx Try.prog H.length c51 (PostX [.t 2] K) (argEnv 0 args) H) : CallA Try.prog 51 args H K :=
  callA_of_x mixed Try.func51 h51 k51 r51 (by rw [Try.ntmps51]; exact hn) h
theorem q51 {vs ds : List V} (hn : vs.length ≤ 35) (h : aWx Try.prog 0 c51 (PostX [.t 2] (Gives ds)) (argEnv 0 (vs.map .pure)) []) : FnQ Try.prog 51 vs ds :=
  fnQ_of_call (a51 (by simpa using hn) h)
/-! typecase/pos.Settle$1 -/
def c87 : AC :=
  (.seq (.reg [⟨some 4, none, .mov (.c (.pure (.bool false)))⟩])
  (.seq (.reg [⟨some 5, none, .mov (.s 0)⟩,
    ⟨some 6, none, .bin .geq (.s 5) (.c (.pure (.int .i64 0)))⟩,
    ⟨some 7, none, .mov (.s 6)⟩,
    ⟨some 8, some (7, true), .mov (.s 0)⟩,
    ⟨some 9, some (7, true), .mov (.s 1)⟩,
    ⟨some 10, some (7, true), .bin .lss (.s 8) (.s 9)⟩,
    ⟨some 11, none, .pick (.s 7) (.s 10) (.c (.pure (.bool false)))⟩,
    ⟨some 4, none, .mov (.s 11)⟩])
  .ret))
theorem k87 : (Try.f87.body.bind fun c => cCode Try.prog Try.f87.ntmps RCs c) = some c87 := by kernel_rfl
theorem h87 : (Try.f87.name == "runtime.NumGoroutine") = false := by kernel_rfl
theorem r87 : resC Try.prog Try.f87.results.toList = some [.t 4] := by kernel_rfl
theorem a87 {args : List S} {H : Heap} {K : S → Heap → Prop} (hn : args.length ≤ 12) (h : aWx Try.prog H.length c87 (PostX [.t 4] K) (argEnv 0 args) H) : CallA Try.prog 87 args H K :=
  callA_of_x mixed Try.func87 h87 k87 r87 (by rw [Try.ntmps87]; exact hn) h
theorem q87 {vs ds : List V} (hn : vs.length ≤ 12) (h : aWx Try.prog 0 c87 (PostX [.t 4] (Gives ds)) (argEnv 0 (vs.map .pure)) []) : FnQ Try.prog 87 vs ds :=
  fnQ_of_call (a87 (by simpa using hn) h)
/-! typecase/pos.Settle -/
def c53_0 : AC :=
  (.seq (.reg [⟨some 93, none, .mov (.s 3)⟩,
    ⟨some 2, none, .mov (.s 93)⟩])
  .ret)
def c53_1 : AC :=
  (.seq (.reg [⟨some 12, none, .bin .lss (.s 11) (.s 10)⟩])
  (.seq (.cond (.s 12)
  .skip
  (.exit 0))
  (.seq (.block 1
  (.seq (.reg [⟨some 13, none, .mov (.s 11)⟩,
    ⟨some 5, none, .mov (.s 13)⟩])
  (.seq (.reg [⟨some 14, none, .mov (.s 3)⟩,
    ⟨some 15, none, .mov (.s 5)⟩,
    ⟨some 16, none, .idxA 10 (.s 14) (.s 15)⟩,
    ⟨some 6, none, .mov (.s 16)⟩])
  (.seq (.block 2
  (.seq (.reg [⟨some 18, none, .mov (.s 4)⟩,
    ⟨some 19, none, .mov (.s 6)⟩,
    ⟨some 20, none, .nilck (.s 19)⟩,
    ⟨some 21, none, .fldA 5 (.s 20)⟩,
    ⟨some 22, none, .load false 1 (.s 21)⟩,
    ⟨some 23, none, .mov (.s 5)⟩,
    ⟨some 24, none, .callv (.s 18) [(.s 22), (.s 23)]⟩,
    ⟨some 17, none, .mov (.s 24)⟩])
  (.cond (.s 17)
  (.seq (.regq [⟨some 25, none, .mov (.s 6)⟩,
    ⟨some 26, none, .nilck (.s 25)⟩,
    ⟨some 27, none, .fldA 3 (.s 26)⟩,
    ⟨some 28, none, .load false 1 (.s 27)⟩,
    ⟨some 29, none, .mov (.s 3)⟩,
    ⟨some 30, none, .mov (.s 6)⟩,
    ⟨some 31, none, .nilck (.s 30)⟩,
    ⟨some 32, none, .fldA 5 (.s 31)⟩,
    ⟨some 33, none, .load false 1 (.s 32)⟩,
    ⟨some 34, none, .idxA 10 (.s 29) (.s 33)⟩,
    ⟨some 35, none, .fldA 3 (.s 34)⟩,
    ⟨some 36, none, .load false 1 (.s 35)⟩]
    [⟨some 37, none, .bin .add (.s 28) (.s 36)⟩,
    ⟨some 38, none, .nilck (.s 25)⟩,
    ⟨some 39, none, .fldA 3 (.s 38)⟩,
    ⟨none, none, .store 1 (.s 39) (.s 37)⟩])
  (.regq [⟨some 40, none, .mov (.s 6)⟩,
    ⟨some 41, none, .nilck (.s 40)⟩,
    ⟨some 42, none, .fldA 4 (.s 41)⟩,
    ⟨some 43, none, .load false 1 (.s 42)⟩,
    ⟨some 44, none, .mov (.s 3)⟩,
    ⟨some 45, none, .mov (.s 6)⟩,
    ⟨some 46, none, .nilck (.s 45)⟩,
    ⟨some 47, none, .fldA 5 (.s 46)⟩,
    ⟨some 48, none, .load false 1 (.s 47)⟩,
    ⟨some 49, none, .idxA 10 (.s 44) (.s 48)⟩,
    ⟨some 50, none, .fldA 4 (.s 49)⟩,
    ⟨some 51, none, .load false 1 (.s 50)⟩]
    [⟨some 52, none, .bin .add (.s 43) (.s 51)⟩,
    ⟨some 53, none, .nilck (.s 40)⟩,
    ⟨some 54, none, .fldA 4 (.s 53)⟩,
    ⟨none, none, .store 1 (.s 54) (.s 52)⟩]))
  (.seq (.reg [⟨some 56, none, .mov (.s 4)⟩,
    ⟨some 57, none, .mov (.s 6)⟩,
    ⟨some 58, none, .nilck (.s 57)⟩,
    ⟨some 59, none, .fldA 6 (.s 58)⟩,
    ⟨some 60, none, .load false 1 (.s 59)⟩,
    ⟨some 61, none, .mov (.s 5)⟩,
    ⟨some 62, none, .callv (.s 56) [(.s 60), (.s 61)]⟩,
    ⟨some 55, none, .mov (.s 62)⟩])
  (.cond (.s 55)
  (.regq [⟨some 63, none, .mov (.s 6)⟩,
    ⟨some 64, none, .nilck (.s 63)⟩,
    ⟨some 65, none, .fldA 4 (.s 64)⟩,
    ⟨some 66, none, .load false 1 (.s 65)⟩,
    ⟨some 67, none, .mov (.s 3)⟩,
    ⟨some 68, none, .mov (.s 6)⟩,
    ⟨some 69, none, .nilck (.s 68)⟩,
    ⟨some 70, none, .fldA 6 (.s 69)⟩,
    ⟨some 71, none, .load false 1 (.s 70)⟩,
    ⟨some 72, none, .idxA 10 (.s 67) (.s 71)⟩,
    ⟨some 73, none, .fldA 4 (.s 72)⟩,
    ⟨some 74, none, .load false 1 (.s 73)⟩]
    [⟨some 75, none, .bin .add (.s 66) (.s 74)⟩,
    ⟨some 76, none, .nilck (.s 63)⟩,
    ⟨some 77, none, .fldA 4 (.s 76)⟩,
    ⟨none, none, .store 1 (.s 77) (.s 75)⟩])
  .skip)))))
  (.seq (.seq (.reg [⟨some 78, none, .mov (.s 4)⟩,
    ⟨some 79, none, .mov (.s 6)⟩,
    ⟨some 80, none, .nilck (.s 79)⟩,
    ⟨some 81, none, .fldA 5 (.s 80)⟩,
    ⟨some 82, none, .load false 1 (.s 81)⟩,
    ⟨some 83, none, .mov (.s 5)⟩,
    ⟨some 84, none, .callv (.s 78) [(.s 82), (.s 83)]⟩,
    ⟨some 85, none, .un .not (.s 84)⟩])
  (.cond (.s 85)
  (.reg [⟨some 86, none, .mov (.s 6)⟩,
    ⟨some 87, none, .nilck (.s 86)⟩,
    ⟨some 88, none, .fldA 5 (.s 87)⟩,
    ⟨none, none, .store 1 (.s 88) (.c (.pure (.int .i64 (-1))))⟩])
  .skip))
  (.reg [⟨some 89, none, .mov (.s 6)⟩,
    ⟨some 90, none, .nilck (.s 89)⟩,
    ⟨some 91, none, .fldA 6 (.s 90)⟩,
    ⟨none, none, .store 1 (.s 91) (.c (.pure (.int .i64 (-1))))⟩]))))))
  (.reg [⟨some 92, none, .bin .add (.s 11) (.c (.pure (.int .i64 1)))⟩,
    ⟨some 11, none, .mov (.s 92)⟩]))))
def c53 : AC :=
  (.seq (.reg [⟨some 2, none, .mov (.c .empty)⟩])
  (.seq (.reg [⟨some 7, none, .mov (.s 0)⟩,
    ⟨some 8, none, .call 86 [(.s 7)]⟩,
    ⟨some 3, none, .mov (.s 8)⟩])
  (.seq (.reg [⟨some 4, none, .mov (.c (.pure (.func (.func 87) [] [])))⟩])
  (.seq (.seq (.reg [⟨some 9, none, .mov (.s 3)⟩,
    ⟨some 10, none, .len (.s 9)⟩,
    ⟨some 11, none, .mov (.c (.pure (.int .i64 0)))⟩])
  (.block 0
  (.loop c53_1)))
  c53_0))))
theorem k53 : (Try.f53.body.bind fun c => cCode Try.prog Try.f53.ntmps RCs c) = some c53 := by kernel_rfl
theorem h53 : (Try.f53.name == "runtime.NumGoroutine") = false := by kernel_rfl
theorem r53 : resC Try.prog Try.f53.results.toList = some [.t 2] := by kernel_rfl
theorem a53 {args : List S} {H : Heap} {K : S → Heap → Prop} (hn : args.length ≤ 94) (h : aWx Try.prog H.length c53 (PostX [.t 2] K) (argEnv 0 args) H) : CallA Try.prog 53 args H K :=
  callA_of_x mixed Try.func53 h53 k53 r53 (by rw [Try.ntmps53]; exact hn) h
theorem q53 {vs ds : List V} (hn : vs.length ≤ 94) (h : aWx Try.prog 0 c53 (PostX [.t 2] (Gives ds)) (argEnv 0 (vs.map .pure)) []) : FnQ Try.prog 53 vs ds :=
  fnQ_of_call (a53 (by simpa using hn) h)
/-! typecase/typecaseref35.Settle -/
def c54_0 : AC :=
  (.seq (.reg [⟨some 70, none, .mov (.s 3)⟩,
    ⟨some 2, none, .mov (.s 70)⟩])
  .ret)
def c54_1 : AC :=
  (.seq (.seq (.reg [⟨some 6, none, .mov (.s 4)⟩,
    ⟨some 7, none, .mov (.s 0)⟩,
    ⟨some 8, none, .len (.s 7)⟩,
    ⟨some 9, none, .bin .lss (.s 6) (.s 8)⟩])
  (.cond (.s 9)
  .skip
  (.exit 0)))
  (.seq (.block 1
  (.seq (.reg [⟨some 12, none, .mov (.s 0)⟩,
    ⟨some 13, none, .mov (.s 4)⟩,
    ⟨some 14, none, .idxA 10 (.s 12) (.s 13)⟩,
    ⟨some 15, none, .load true 10 (.s 14)⟩,
    ⟨some 5, none, .box (.c (.pure (.agg [(.int .i64 0), (.int .i64 0), (.int .i64 0), (.int .i64 0), (.int .i64 0), (.int .i64 0), (.int .i64 0), (.int .i64 0), (.int .i64 0), (.int .i64 0)])))⟩,
    ⟨none, none, .store 10 (.s 5) (.s 15)⟩])
  (.seq (.seq (.reg [⟨some 16, none, .fldA 5 (.s 5)⟩,
    ⟨some 17, none, .load false 1 (.s 16)⟩,
    ⟨some 18, none, .bin .geq (.s 17) (.c (.pure (.int .i64 0)))⟩,
    ⟨some 19, none, .mov (.s 18)⟩,
    ⟨some 20, some (19, true), .fldA 5 (.s 5)⟩,
    ⟨some 21, some (19, true), .load false 1 (.s 20)⟩,
    ⟨some 22, some (19, true), .mov (.s 4)⟩,
    ⟨some 23, some (19, true), .bin .lss (.s 21) (.s 22)⟩,
    ⟨some 24, none, .pick (.s 19) (.s 23) (.c (.pure (.bool false)))⟩])
  (.cond (.s 24)
  (.seq (.regq [⟨some 25, none, .fldA 3 (.s 5)⟩,
    ⟨some 26, none, .load false 1 (.s 25)⟩,
    ⟨some 27, none, .mov (.s 3)⟩,
    ⟨some 28, none, .fldA 5 (.s 5)⟩,
    ⟨some 29, none, .load false 1 (.s 28)⟩,
    ⟨some 30, none, .idxA 10 (.s 27) (.s 29)⟩,
    ⟨some 31, none, .fldA 3 (.s 30)⟩,
    ⟨some 32, none, .load false 1 (.s 31)⟩]
    [⟨some 33, none, .bin .add (.s 26) (.s 32)⟩,
    ⟨some 34, none, .fldA 3 (.s 5)⟩,
    ⟨none, none, .store 1 (.s 34) (.s 33)⟩])
  (.regq [⟨some 35, none, .fldA 4 (.s 5)⟩,
    ⟨some 36, none, .load false 1 (.s 35)⟩,
    ⟨some 37, none, .mov (.s 3)⟩,
    ⟨some 38, none, .fldA 5 (.s 5)⟩,
    ⟨some 39, none, .load false 1 (.s 38)⟩,
    ⟨some 40, none, .idxA 10 (.s 37) (.s 39)⟩,
    ⟨some 41, none, .fldA 4 (.s 40)⟩,
    ⟨some 42, none, .load false 1 (.s 41)⟩]
    [⟨some 43, none, .bin .add (.s 36) (.s 42)⟩,
    ⟨some 44, none, .fldA 4 (.s 5)⟩,
    ⟨none, none, .store 1 (.s 44) (.s 43)⟩]))
  (.seq (.reg [⟨some 45, none, .fldA 5 (.s 5)⟩,
    ⟨none, none, .store 1 (.s 45) (.c (.pure (.int .i64 (-1))))⟩])
  (.seq (.reg [⟨some 46, none, .fldA 6 (.s 5)⟩,
    ⟨some 47, none, .load false 1 (.s 46)⟩,
    ⟨some 48, none, .bin .geq (.s 47) (.c (.pure (.int .i64 0)))⟩,
    ⟨some 49, none, .mov (.s 48)⟩,
    ⟨some 50, some (49, true), .fldA 6 (.s 5)⟩,
    ⟨some 51, some (49, true), .load false 1 (.s 50)⟩,
    ⟨some 52, some (49, true), .mov (.s 4)⟩,
    ⟨some 53, some (49, true), .bin .lss (.s 51) (.s 52)⟩,
    ⟨some 54, none, .pick (.s 49) (.s 53) (.c (.pure (.bool false)))⟩])
  (.cond (.s 54)
  (.regq [⟨some 55, none, .fldA 4 (.s 5)⟩,
    ⟨some 56, none, .load false 1 (.s 55)⟩,
    ⟨some 57, none, .mov (.s 3)⟩,
    ⟨some 58, none, .fldA 6 (.s 5)⟩,
    ⟨some 59, none, .load false 1 (.s 58)⟩,
    ⟨some 60, none, .idxA 10 (.s 57) (.s 59)⟩,
    ⟨some 61, none, .fldA 4 (.s 60)⟩,
    ⟨some 62, none, .load false 1 (.s 61)⟩]
    [⟨some 63, none, .bin .add (.s 56) (.s 62)⟩,
    ⟨some 64, none, .fldA 4 (.s 5)⟩,
    ⟨none, none, .store 1 (.s 64) (.s 63)⟩])
  .skip)))))
  (.seq (.reg [⟨some 65, none, .fldA 6 (.s 5)⟩,
    ⟨none, none, .store 1 (.s 65) (.c (.pure (.int .i64 (-1))))⟩])
  (.reg [⟨some 66, none, .mov (.s 3)⟩,
    ⟨some 67, none, .load true 10 (.s 5)⟩,
    ⟨some 68, none, .bslice 10 [(.s 67)]⟩,
    ⟨some 69, none, .app 10 80 (.s 66) (.s 68)⟩,
    ⟨some 3, none, .mov (.s 69)⟩])))))
  (.reg [⟨some 10, none, .mov (.s 4)⟩,
    ⟨some 11, none, .bin .add (.s 10) (.c (.pure (.int .i64 1)))⟩,
    ⟨some 4, none, .mov (.s 11)⟩])))
def c54 : AC :=
  (.seq (.reg [⟨some 2, none, .mov (.c .empty)⟩])
  (.seq (.reg [⟨some 3, none, .mov (.c .empty)⟩])
  (.seq (.seq (.reg [⟨some 4, none, .mov (.c (.pure (.int .i64 0)))⟩])
  (.block 0
  (.loop c54_1)))
  c54_0)))
theorem k54 : (Try.f54.body.bind fun c => cCode Try.prog Try.f54.ntmps RCs c) = some c54 := by kernel_rfl
theorem h54 : (Try.f54.name == "runtime.NumGoroutine") = false := by kernel_rfl
theorem r54 : resC Try.prog Try.f54.results.toList = some [.t 2] := by kernel_rfl
theorem a54 {args : List S} {H : Heap} {K : S → Heap → Prop} (hn : args.length ≤ 71) (h : aWx Try.prog H.length c54 (PostX [.t 2] K) (argEnv 0 args) H) : CallA Try.prog 54 args H K :=
  callA_of_x mixed Try.func54 h54 k54 r54 (by rw [Try.ntmps54]; exact hn) h
theorem q54 {vs ds : List V} (hn : vs.length ≤ 71) (h : aWx Try.prog 0 c54 (PostX [.t 2] (Gives ds)) (argEnv 0 (vs.map .pure)) []) : FnQ Try.prog 54 vs ds :=
  fnQ_of_call (a54 (by simpa using hn) h)

abbrev wr (n : Int) : Int := IntKind.wrap .i64 n
def farR (n : Int) : Bool := decide (n < -1073741824) || decide (1073741824 < n)
theorem farR_q (n : Int) : FnQ Try.prog 85 [I n] [.bool (farR n)] := by
  refine q85 (by simp) ?_
  unfold c85
  simp -implicitDefEqProofs only [*, vmp,↓vmd,Env.get,putD,argEnv,List.map,x00,x01,x02,x03,x04,x05,x06,x07,List.take,List.drop,x08,x09,x0a,x0b,List.isEmpty,↓reduceIte,reduceCtorEq,Nat.reduceEqDiff,Nat.reduceAdd,Nat.reduceLeDiff,x0c,Int.reduceNeg,Nat.reduceMul,Nat.reduceSub,x0d,x0e,x0f,x0g,x0h,x0i,x0j,x0k,Int.reduceEq,Int.reduceLT,Int.reduceLE,Int.reduceToNat,Int.cast_ofNat_Int,List.reduceReplicate]
  refine onB_dec (fun h => ?_) (fun h => ?_)
  · simp -implicitDefEqProofs only [h, vmp,↓vmd,Env.get,putD,argEnv,List.map,x00,x01,x02,x03,x04,x05,x06,x07,List.take,List.drop,x08,x09,x0a,x0b,List.isEmpty,↓reduceIte,reduceCtorEq,Nat.reduceEqDiff,Nat.reduceAdd,Nat.reduceLeDiff,x0c,Int.reduceNeg,Nat.reduceMul,Nat.reduceSub,x0d,x0e,x0f,x0g,x0h,x0i,x0j,x0k,Int.reduceEq,Int.reduceLT,Int.reduceLE,Int.reduceToNat,Int.cast_ofNat_Int,List.reduceReplicate]
    rw [show farR n = true by simp [farR, h]]
    exact gives_pure
  · simp -implicitDefEqProofs only [h, vmp,↓vmd,Env.get,putD,argEnv,List.map,x00,x01,x02,x03,x04,x05,x06,x07,List.take,List.drop,x08,x09,x0a,x0b,List.isEmpty,↓reduceIte,reduceCtorEq,Nat.reduceEqDiff,Nat.reduceAdd,Nat.reduceLeDiff,x0c,Int.reduceNeg,Nat.reduceMul,Nat.reduceSub,x0d,x0e,x0f,x0g,x0h,x0i,x0j,x0k,Int.reduceEq,Int.reduceLT,Int.reduceLE,Int.reduceToNat,Int.cast_ofNat_Int,List.reduceReplicate]
    rw [show farR n = decide (1073741824 < n) by simp [farR, h]]
    exact gives_pure
def farRG (g : Gl) : Bool := farR g.adv || farR g.dx || farR g.dy
def nearF (ls : List Gl) : Bool := !(decide (20 < ls.length) || ls.any farRG)
theorem near_q (ls : List Gl) : FnQ Try.prog 51 [.sl (ls.map gl)] [.bool (nearF ls)] := by
  refine q51 (by simp) ?_
  unfold c51
  simp -implicitDefEqProofs only [*, vmp,↓vmd,Env.get,putD,argEnv,List.map,x00,x01,x02,x03,x04,x05,x06,x07,List.take,List.drop,x08,x09,x0a,x0b,List.isEmpty,↓reduceIte,reduceCtorEq,Nat.reduceEqDiff,Nat.reduceAdd,Nat.reduceLeDiff,x0c,Int.reduceNeg,Nat.reduceMul,Nat.reduceSub,x0d,x0e,x0f,x0g,x0h,x0i,x0j,x0k,Int.reduceEq,Int.reduceLT,Int.reduceLE,Int.reduceToNat,Int.cast_ofNat_Int,List.reduceReplicate]
  refine onIf_intro fun hlen => ?_
  simp -implicitDefEqProofs only [*, vmp,↓vmd,Env.get,putD,argEnv,List.map,x00,x01,x02,x03,x04,x05,x06,x07,List.take,List.drop,x08,x09,x0a,x0b,List.isEmpty,↓reduceIte,reduceCtorEq,Nat.reduceEqDiff,Nat.reduceAdd,Nat.reduceLeDiff,x0c,Int.reduceNeg,Nat.reduceMul,Nat.reduceSub,x0d,x0e,x0f,x0g,x0h,x0i,x0j,x0k,Int.reduceEq,Int.reduceLT,Int.reduceLE,Int.reduceToNat,Int.cast_ofNat_Int,List.reduceReplicate]
  refine onB_dec (fun h0 => ?_) (fun h0 => ?_)
  · simp -implicitDefEqProofs only [h0, vmp,↓vmd,Env.get,putD,argEnv,List.map,x00,x01,x02,x03,x04,x05,x06,x07,List.take,List.drop,x08,x09,x0a,x0b,List.isEmpty,↓reduceIte,reduceCtorEq,Nat.reduceEqDiff,Nat.reduceAdd,Nat.reduceLeDiff,x0c,Int.reduceNeg,Nat.reduceMul,Nat.reduceSub,x0d,x0e,x0f,x0g,x0h,x0i,x0j,x0k,Int.reduceEq,Int.reduceLT,Int.reduceLE,Int.reduceToNat,Int.cast_ofNat_Int,List.reduceReplicate]
    rw [show nearF ls = false by simp [nearF, show 20 < ls.length by omega]]
    exact gives_pure
  simp -implicitDefEqProofs only [h0, vmp,↓vmd,Env.get,putD,argEnv,List.map,x00,x01,x02,x03,x04,x05,x06,x07,List.take,List.drop,x08,x09,x0a,x0b,List.isEmpty,↓reduceIte,reduceCtorEq,Nat.reduceEqDiff,Nat.reduceAdd,Nat.reduceLeDiff,x0c,Int.reduceNeg,Nat.reduceMul,Nat.reduceSub,x0d,x0e,x0f,x0g,x0h,x0i,x0j,x0k,Int.reduceEq,Int.reduceLT,Int.reduceLE,Int.reduceToNat,Int.cast_ofNat_Int,List.reduceReplicate]
  refine loop_at (T := Nat) (fun i => [(3, .pure (I i)), (0, .pure (.sl (ls.map gl)))]) (fun _ => []) (fun i => i ≤ ls.length ∧ (ls.drop i).any farRG = ls.any farRG) (fun i => ls.length - i)
    0 [] (by simp) rfl ⟨by simp, by simp⟩ (by simp -implicitDefEqProofs only [kpp,Env.get,x01,x00,x02,x03,List.map,x08,x09,↓reduceIte,reduceCtorEq,Nat.reduceEqDiff,Nat.reduceLeDiff,Nat.reduceLT,Nat.reduceAdd,x0j,x0l,x0m,x0n,x0o,Int.cast_ofNat_Int,x0p,x0i,x07,x06,x0q,x0r,x0s,x0t,x0d,x0u]) (by simp -implicitDefEqProofs only [kpp,Env.get,x01,x00,x02,x03,List.map,x08,x09,↓reduceIte,reduceCtorEq,Nat.reduceEqDiff,Nat.reduceLeDiff,Nat.reduceLT,Nat.reduceAdd,x0j,x0l,x0m,x0n,x0o,Int.cast_ofNat_Int,x0p,x0i,x07,x06,x0q,x0r,x0s,x0t,x0d,x0u]) ?_
  rintro i ⟨hi, hr⟩
  unfold c51_1
  simp -implicitDefEqProofs only [vmp,↓vmd,Env.get,putD,argEnv,List.map,x00,x01,x02,x03,x04,x05,x06,x07,List.take,List.drop,x08,x09,x0a,x0b,List.isEmpty,↓reduceIte,reduceCtorEq,Nat.reduceEqDiff,Nat.reduceAdd,Nat.reduceLeDiff,x0c,Int.reduceNeg,Nat.reduceMul,Nat.reduceSub,x0d,x0e,x0f,x0g,x0h,x0i,x0j,x0k,Int.reduceEq,Int.reduceLT,Int.reduceLE,Int.reduceToNat,Int.cast_ofNat_Int,List.reduceReplicate]
  refine onIf_intro fun hlen => ?_
  simp -implicitDefEqProofs only [vmp,↓vmd,Env.get,putD,argEnv,List.map,x00,x01,x02,x03,x04,x05,x06,x07,List.take,List.drop,x08,x09,x0a,x0b,List.isEmpty,↓reduceIte,reduceCtorEq,Nat.reduceEqDiff,Nat.reduceAdd,Nat.reduceLeDiff,x0c,Int.reduceNeg,Nat.reduceMul,Nat.reduceSub,x0d,x0e,x0f,x0g,x0h,x0i,x0j,x0k,Int.reduceEq,Int.reduceLT,Int.reduceLE,Int.reduceToNat,Int.cast_ofNat_Int,List.reduceReplicate]
  refine onB_dec (fun h1 => ?_) (fun h1 => ?_)
  · have hlt : i < ls.length := by omega
    rw [drop_at hlt, List.any_cons] at hr
    have yes : farRG ls[i] = true → nearF ls = false := fun e => by rw [nearF, ← hr, e]; simp
    simp -implicitDefEqProofs only [h1, map_at hlt, Int.natCast_nonneg, vmp,↓vmd,Env.get,putD,argEnv,List.map,x00,x01,x02,x03,x04,x05,x06,x07,List.take,List.drop,x08,x09,x0a,x0b,List.isEmpty,↓reduceIte,reduceCtorEq,Nat.reduceEqDiff,Nat.reduceAdd,Nat.reduceLeDiff,x0c,Int.reduceNeg,Nat.reduceMul,Nat.reduceSub,x0d,x0e,x0f,x0g,x0h,x0i,x0j,x0k,Int.reduceEq,Int.reduceLT,Int.reduceLE,Int.reduceToNat,Int.cast_ofNat_Int,List.reduceReplicate]
    refine onC_q (farR_q _) rfl ?_
    first | refine envO (by simp -implicitDefEqProofs only [vmp,↓vmd,Env.get,putD,argEnv,List.map,x00,x01,x02,x03,x04,x05,x06,x07,List.take,List.drop,x08,x09,x0a,x0b,List.isEmpty,↓reduceIte,reduceCtorEq,Nat.reduceEqDiff,Nat.reduceAdd,Nat.reduceLeDiff,x0c,Int.reduceNeg,Nat.reduceMul,Nat.reduceSub,x0d,x0e,x0f,x0g,x0h,x0i,x0j,x0k,Int.reduceEq,Int.reduceLT,Int.reduceLE,Int.reduceToNat,Int.cast_ofNat_Int,List.reduceReplicate]; rfl) ?_ | refine envQ (by simp -implicitDefEqProofs only [vmp,↓vmd,Env.get,putD,argEnv,List.map,x00,x01,x02,x03,x04,x05,x06,x07,List.take,List.drop,x08,x09,x0a,x0b,List.isEmpty,↓reduceIte,reduceCtorEq,Nat.reduceEqDiff,Nat.reduceAdd,Nat.reduceLeDiff,x0c,Int.reduceNeg,Nat.reduceMul,Nat.reduceSub,x0d,x0e,x0f,x0g,x0h,x0i,x0j,x0k,Int.reduceEq,Int.reduceLT,Int.reduceLE,Int.reduceToNat,Int.cast_ofNat_Int,List.reduceReplicate]; rfl) ?_
    simp -implicitDefEqProofs only [vmp,↓vmd,Env.get,putD,argEnv,List.map,x00,x01,x02,x03,x04,x05,x06,x07,List.take,List.drop,x08,x09,x0a,x0b,List.isEmpty,↓reduceIte,reduceCtorEq,Nat.reduceEqDiff,Nat.reduceAdd,Nat.reduceLeDiff,x0c,Int.reduceNeg,Nat.reduceMul,Nat.reduceSub,x0d,x0e,x0f,x0g,x0h,x0i,x0j,x0k,Int.reduceEq,Int.reduceLT,Int.reduceLE,Int.reduceToNat,Int.cast_ofNat_Int,List.reduceReplicate]
    refine onB_intro (fun w1 => ?_) (fun w1 => ?_)
    · simp -implicitDefEqProofs only [w1, vmp,↓vmd,Env.get,putD,argEnv,List.map,x00,x01,x02,x03,x04,x05,x06,x07,List.take,List.drop,x08,x09,x0a,x0b,List.isEmpty,↓reduceIte,reduceCtorEq,Nat.reduceEqDiff,Nat.reduceAdd,Nat.reduceLeDiff,x0c,Int.reduceNeg,Nat.reduceMul,Nat.reduceSub,x0d,x0e,x0f,x0g,x0h,x0i,x0j,x0k,Int.reduceEq,Int.reduceLT,Int.reduceLE,Int.reduceToNat,Int.cast_ofNat_Int,List.reduceReplicate]
      rw [yes (by simp [farRG, w1])]
      exact gives_pure
    simp -implicitDefEqProofs only [w1, map_at hlt, Int.natCast_nonneg, vmp,↓vmd,Env.get,putD,argEnv,List.map,x00,x01,x02,x03,x04,x05,x06,x07,List.take,List.drop,x08,x09,x0a,x0b,List.isEmpty,↓reduceIte,reduceCtorEq,Nat.reduceEqDiff,Nat.reduceAdd,Nat.reduceLeDiff,x0c,Int.reduceNeg,Nat.reduceMul,Nat.reduceSub,x0d,x0e,x0f,x0g,x0h,x0i,x0j,x0k,Int.reduceEq,Int.reduceLT,Int.reduceLE,Int.reduceToNat,Int.cast_ofNat_Int,List.reduceReplicate]
    refine onC_q (farR_q _) rfl ?_
    first | refine envO (by simp -implicitDefEqProofs only [vmp,↓vmd,Env.get,putD,argEnv,List.map,x00,x01,x02,x03,x04,x05,x06,x07,List.take,List.drop,x08,x09,x0a,x0b,List.isEmpty,↓reduceIte,reduceCtorEq,Nat.reduceEqDiff,Nat.reduceAdd,Nat.reduceLeDiff,x0c,Int.reduceNeg,Nat.reduceMul,Nat.reduceSub,x0d,x0e,x0f,x0g,x0h,x0i,x0j,x0k,Int.reduceEq,Int.reduceLT,Int.reduceLE,Int.reduceToNat,Int.cast_ofNat_Int,List.reduceReplicate]; rfl) ?_ | refine envQ (by simp -implicitDefEqProofs only [vmp,↓vmd,Env.get,putD,argEnv,List.map,x00,x01,x02,x03,x04,x05,x06,x07,List.take,List.drop,x08,x09,x0a,x0b,List.isEmpty,↓reduceIte,reduceCtorEq,Nat.reduceEqDiff,Nat.reduceAdd,Nat.reduceLeDiff,x0c,Int.reduceNeg,Nat.reduceMul,Nat.reduceSub,x0d,x0e,x0f,x0g,x0h,x0i,x0j,x0k,Int.reduceEq,Int.reduceLT,Int.reduceLE,Int.reduceToNat,Int.cast_ofNat_Int,List.reduceReplicate]; rfl) ?_
    simp -implicitDefEqProofs only [w1, vmp,↓vmd,Env.get,putD,argEnv,List.map,x00,x01,x02,x03,x04,x05,x06,x07,List.take,List.drop,x08,x09,x0a,x0b,List.isEmpty,↓reduceIte,reduceCtorEq,Nat.reduceEqDiff,Nat.reduceAdd,Nat.reduceLeDiff,x0c,Int.reduceNeg,Nat.reduceMul,Nat.reduceSub,x0d,x0e,x0f,x0g,x0h,x0i,x0j,x0k,Int.reduceEq,Int.reduceLT,Int.reduceLE,Int.reduceToNat,Int.cast_ofNat_Int,List.reduceReplicate]
    refine onB_intro (fun w2 => ?_) (fun w2 => ?_)
    · simp -implicitDefEqProofs only [w2, vmp,↓vmd,Env.get,putD,argEnv,List.map,x00,x01,x02,x03,x04,x05,x06,x07,List.take,List.drop,x08,x09,x0a,x0b,List.isEmpty,↓reduceIte,reduceCtorEq,Nat.reduceEqDiff,Nat.reduceAdd,Nat.reduceLeDiff,x0c,Int.reduceNeg,Nat.reduceMul,Nat.reduceSub,x0d,x0e,x0f,x0g,x0h,x0i,x0j,x0k,Int.reduceEq,Int.reduceLT,Int.reduceLE,Int.reduceToNat,Int.cast_ofNat_Int,List.reduceReplicate]
      rw [yes (by simp [farRG, w2])]
      exact gives_pure
    simp -implicitDefEqProofs only [w2, map_at hlt, Int.natCast_nonneg, vmp,↓vmd,Env.get,putD,argEnv,List.map,x00,x01,x02,x03,x04,x05,x06,x07,List.take,List.drop,x08,x09,x0a,x0b,List.isEmpty,↓reduceIte,reduceCtorEq,Nat.reduceEqDiff,Nat.reduceAdd,Nat.reduceLeDiff,x0c,Int.reduceNeg,Nat.reduceMul,Nat.reduceSub,x0d,x0e,x0f,x0g,x0h,x0i,x0j,x0k,Int.reduceEq,Int.reduceLT,Int.reduceLE,Int.reduceToNat,Int.cast_ofNat_Int,List.reduceReplicate]
    refine onC_q (farR_q _) rfl ?_
    first | refine envO (by simp -implicitDefEqProofs only [vmp,↓vmd,Env.get,putD,argEnv,List.map,x00,x01,x02,x03,x04,x05,x06,x07,List.take,List.drop,x08,x09,x0a,x0b,List.isEmpty,↓reduceIte,reduceCtorEq,Nat.reduceEqDiff,Nat.reduceAdd,Nat.reduceLeDiff,x0c,Int.reduceNeg,Nat.reduceMul,Nat.reduceSub,x0d,x0e,x0f,x0g,x0h,x0i,x0j,x0k,Int.reduceEq,Int.reduceLT,Int.reduceLE,Int.reduceToNat,Int.cast_ofNat_Int,List.reduceReplicate]; rfl) ?_ | refine envQ (by simp -implicitDefEqProofs only [vmp,↓vmd,Env.get,putD,argEnv,List.map,x00,x01,x02,x03,x04,x05,x06,x07,List.take,List.drop,x08,x09,x0a,x0b,List.isEmpty,↓reduceIte,reduceCtorEq,Nat.reduceEqDiff,Nat.reduceAdd,Nat.reduceLeDiff,x0c,Int.reduceNeg,Nat.reduceMul,Nat.reduceSub,x0d,x0e,x0f,x0g,x0h,x0i,x0j,x0k,Int.reduceEq,Int.reduceLT,Int.reduceLE,Int.reduceToNat,Int.cast_ofNat_Int,List.reduceReplicate]; rfl) ?_
    simp -implicitDefEqProofs only [w2, vmp,↓vmd,Env.get,putD,argEnv,List.map,x00,x01,x02,x03,x04,x05,x06,x07,List.take,List.drop,x08,x09,x0a,x0b,List.isEmpty,↓reduceIte,reduceCtorEq,Nat.reduceEqDiff,Nat.reduceAdd,Nat.reduceLeDiff,x0c,Int.reduceNeg,Nat.reduceMul,Nat.reduceSub,x0d,x0e,x0f,x0g,x0h,x0i,x0j,x0k,Int.reduceEq,Int.reduceLT,Int.reduceLE,Int.reduceToNat,Int.cast_ofNat_Int,List.reduceReplicate]
    refine onB_intro (fun w3 => ?_) (fun w3 => ?_)
    · simp -implicitDefEqProofs only [w3, vmp,↓vmd,Env.get,putD,argEnv,List.map,x00,x01,x02,x03,x04,x05,x06,x07,List.take,List.drop,x08,x09,x0a,x0b,List.isEmpty,↓reduceIte,reduceCtorEq,Nat.reduceEqDiff,Nat.reduceAdd,Nat.reduceLeDiff,x0c,Int.reduceNeg,Nat.reduceMul,Nat.reduceSub,x0d,x0e,x0f,x0g,x0h,x0i,x0j,x0k,Int.reduceEq,Int.reduceLT,Int.reduceLE,Int.reduceToNat,Int.cast_ofNat_Int,List.reduceReplicate]
      rw [yes (by simp [farRG, w3])]
      exact gives_pure
    · simp -implicitDefEqProofs only [w3, vmp,↓vmd,Env.get,putD,argEnv,List.map,x00,x01,x02,x03,x04,x05,x06,x07,List.take,List.drop,x08,x09,x0a,x0b,List.isEmpty,↓reduceIte,reduceCtorEq,Nat.reduceEqDiff,Nat.reduceAdd,Nat.reduceLeDiff,x0c,Int.reduceNeg,Nat.reduceMul,Nat.reduceSub,x0d,x0e,x0f,x0g,x0h,x0i,x0j,x0k,Int.reduceEq,Int.reduceLT,Int.reduceLE,Int.reduceToNat,Int.cast_ofNat_Int,List.reduceReplicate]
      refine onBk_to (i + 1) [] (by simp) rfl (by omega) ⟨hlt, by rw [← hr, show farRG ls[i] = false by simp [farRG, w1, w2, w3], Bool.false_or]⟩ (by simp -implicitDefEqProofs only [next_at hlt (by omega), kpp,Env.get,x01,x00,x02,x03,List.map,x08,x09,↓reduceIte,reduceCtorEq,Nat.reduceEqDiff,Nat.reduceLeDiff,Nat.reduceLT,Nat.reduceAdd,x0j,x0l,x0m,x0n,x0o,Int.cast_ofNat_Int,x0p,x0i,x07,x06,x0q,x0r,x0s,x0t,x0d,x0u]) (by simp -implicitDefEqProofs only [kpp,Env.get,x01,x00,x02,x03,List.map,x08,x09,↓reduceIte,reduceCtorEq,Nat.reduceEqDiff,Nat.reduceLeDiff,Nat.reduceLT,Nat.reduceAdd,x0j,x0l,x0m,x0n,x0o,Int.cast_ofNat_Int,x0p,x0i,x07,x06,x0q,x0r,x0s,x0t,x0d,x0u])
  · simp -implicitDefEqProofs only [h1, vmp,↓vmd,Env.get,putD,argEnv,List.map,x00,x01,x02,x03,x04,x05,x06,x07,List.take,List.drop,x08,x09,x0a,x0b,List.isEmpty,↓reduceIte,reduceCtorEq,Nat.reduceEqDiff,Nat.reduceAdd,Nat.reduceLeDiff,x0c,Int.reduceNeg,Nat.reduceMul,Nat.reduceSub,x0d,x0e,x0f,x0g,x0h,x0i,x0j,x0k,Int.reduceEq,Int.reduceLT,Int.reduceLE,Int.reduceToNat,Int.cast_ofNat_Int,List.reduceReplicate]
    unfold c51_0
    simp -implicitDefEqProofs only [vmp,↓vmd,Env.get,putD,argEnv,List.map,x00,x01,x02,x03,x04,x05,x06,x07,List.take,List.drop,x08,x09,x0a,x0b,List.isEmpty,↓reduceIte,reduceCtorEq,Nat.reduceEqDiff,Nat.reduceAdd,Nat.reduceLeDiff,x0c,Int.reduceNeg,Nat.reduceMul,Nat.reduceSub,x0d,x0e,x0f,x0g,x0h,x0i,x0j,x0k,Int.reduceEq,Int.reduceLT,Int.reduceLE,Int.reduceToNat,Int.cast_ofNat_Int,List.reduceReplicate]
    rw [List.drop_of_length_le (by omega)] at hr
    rw [show nearF ls = true by rw [nearF, ← hr]; simp; omega]
    exact gives_pure
def aheadF (n i : Int) : Bool := decide (0 ≤ n) && decide (n < i)
theorem ahead_q (n i : Int) : FnQ Try.prog 87 [I n, I i] [.bool (aheadF n i)] := by
  refine q87 (by simp) ?_
  unfold c87
  simp -implicitDefEqProofs only [*, vmp,↓vmd,Env.get,putD,argEnv,List.map,x00,x01,x02,x03,x04,x05,x06,x07,List.take,List.drop,x08,x09,x0a,x0b,List.isEmpty,↓reduceIte,reduceCtorEq,Nat.reduceEqDiff,Nat.reduceAdd,Nat.reduceLeDiff,x0c,Int.reduceNeg,Nat.reduceMul,Nat.reduceSub,x0d,x0e,x0f,x0g,x0h,x0i,x0j,x0k,Int.reduceEq,Int.reduceLT,Int.reduceLE,Int.reduceToNat,Int.cast_ofNat_Int,List.reduceReplicate]
  refine onB_dec (fun h => ?_) (fun h => ?_)
  · simp -implicitDefEqProofs only [h, vmp,↓vmd,Env.get,putD,argEnv,List.map,x00,x01,x02,x03,x04,x05,x06,x07,List.take,List.drop,x08,x09,x0a,x0b,List.isEmpty,↓reduceIte,reduceCtorEq,Nat.reduceEqDiff,Nat.reduceAdd,Nat.reduceLeDiff,x0c,Int.reduceNeg,Nat.reduceMul,Nat.reduceSub,x0d,x0e,x0f,x0g,x0h,x0i,x0j,x0k,Int.reduceEq,Int.reduceLT,Int.reduceLE,Int.reduceToNat,Int.cast_ofNat_Int,List.reduceReplicate]
    rw [show aheadF n i = decide (n < i) by simp [aheadF, h]]
    exact gives_pure
  · simp -implicitDefEqProofs only [h, vmp,↓vmd,Env.get,putD,argEnv,List.map,x00,x01,x02,x03,x04,x05,x06,x07,List.take,List.drop,x08,x09,x0a,x0b,List.isEmpty,↓reduceIte,reduceCtorEq,Nat.reduceEqDiff,Nat.reduceAdd,Nat.reduceLeDiff,x0c,Int.reduceNeg,Nat.reduceMul,Nat.reduceSub,x0d,x0e,x0f,x0g,x0h,x0i,x0j,x0k,Int.reduceEq,Int.reduceLT,Int.reduceLE,Int.reduceToNat,Int.cast_ofNat_Int,List.reduceReplicate]
    rw [show aheadF n i = false by simp [aheadF, h]]
    exact gives_pure
def setlG (X : List Gl) (i : Nat) (g : Gl) : Gl :=
  if aheadF g.to i = true then ⟨g.id, g.cl, g.adv, wr (g.dx + (glAt X g.to).dx), wr (g.dy + (glAt X g.to).dy), g.to, -1, g.lig, g.comp, g.mask⟩
  else if aheadF g.hang i = true then ⟨g.id, g.cl, g.adv, g.dx, wr (g.dy + (glAt X g.hang).dy), -1, -1, g.lig, g.comp, g.mask⟩
  else ⟨g.id, g.cl, g.adv, g.dx, g.dy, -1, -1, g.lig, g.comp, g.mask⟩
def stepF (ls : List Gl) : Nat → List Gl
  | 0 => ls
  | i + 1 => (stepF ls i).set i (setlG (stepF ls i) i (glAt ls i))
theorem stepF_len {ls : List Gl} : ∀ i, (stepF ls i).length = ls.length
  | 0 => rfl
  | i + 1 => by rw [stepF, List.length_set, stepF_len i]
theorem stepF_ge {ls : List Gl} {j : Nat} : ∀ i, i ≤ j → (stepF ls i)[j]? = ls[j]?
  | 0, _ => rfl
  | i + 1, h => by rw [stepF, List.getElem?_set_ne (by omega), stepF_ge i (by omega)]
theorem glAt_nat {ls : List Gl} {i : Nat} (h : i < ls.length) : ls[i]? = some (glAt ls i) := by
  have := glAt_eq (ls := ls) (y := i) (by omega) (by omega)
  simpa using this
theorem row_i {X : List Gl} {i : Nat} {g : Gl} (h : X[i]? = some g) : ((X.map gl).map S.pure)[i]? = some (.pure (gl g)) := by
  rw [List.getElem?_map, List.getElem?_map, h]; rfl
theorem set_i {X : List Gl} {i : Nat} {g : Gl} (h : i < X.length) : (X.set i g)[i]? = some g := by
  rw [List.getElem?_set_self h]
theorem set_ne {X : List Gl} {i t : Nat} {g : Gl} (h : t ≠ i) : (X.set i g)[t]? = X[t]? := List.getElem?_set_ne h.symm
theorem ahead_in {n : Int} {i : Nat} (h : aheadF n i = true) : 0 ≤ n ∧ n < i := by simpa [aheadF] using h
theorem settle_q (ls : List Gl) (hl : ls.length ≤ 1000) : FnQ Try.prog 53 [.sl (ls.map gl)] [.sl ((stepF ls ls.length).map gl)] := by
  refine q53 (by simp) ?_
  unfold c53
  simp -implicitDefEqProofs only [*, vmp,↓vmd,Env.get,putD,argEnv,List.map,x00,x01,x02,x03,x04,x05,x06,x07,List.take,List.drop,x08,x09,x0a,x0b,List.isEmpty,↓reduceIte,reduceCtorEq,Nat.reduceEqDiff,Nat.reduceAdd,Nat.reduceLeDiff,x0c,Int.reduceNeg,Nat.reduceMul,Nat.reduceSub,x0d,x0e,x0f,x0g,x0h,x0i,x0j,x0k,Int.reduceEq,Int.reduceLT,Int.reduceLE,Int.reduceToNat,Int.cast_ofNat_Int,List.reduceReplicate]
  refine onC_fr (cloneG_c ls hl) [] (by simp) trivial rfl rfl (by simp) ?_
  first | refine envO (by simp -implicitDefEqProofs only [vmp,↓vmd,Env.get,putD,argEnv,List.map,x00,x01,x02,x03,x04,x05,x06,x07,List.take,List.drop,x08,x09,x0a,x0b,List.isEmpty,↓reduceIte,reduceCtorEq,Nat.reduceEqDiff,Nat.reduceAdd,Nat.reduceLeDiff,x0c,Int.reduceNeg,Nat.reduceMul,Nat.reduceSub,x0d,x0e,x0f,x0g,x0h,x0i,x0j,x0k,Int.reduceEq,Int.reduceLT,Int.reduceLE,Int.reduceToNat,Int.cast_ofNat_Int,List.reduceReplicate]; rfl) ?_ | refine envQ (by simp -implicitDefEqProofs only [vmp,↓vmd,Env.get,putD,argEnv,List.map,x00,x01,x02,x03,x04,x05,x06,x07,List.take,List.drop,x08,x09,x0a,x0b,List.isEmpty,↓reduceIte,reduceCtorEq,Nat.reduceEqDiff,Nat.reduceAdd,Nat.reduceLeDiff,x0c,Int.reduceNeg,Nat.reduceMul,Nat.reduceSub,x0d,x0e,x0f,x0g,x0h,x0i,x0j,x0k,Int.reduceEq,Int.reduceLT,Int.reduceLE,Int.reduceToNat,Int.cast_ofNat_Int,List.reduceReplicate]; rfl) ?_
  simp -implicitDefEqProofs only [vmp,↓vmd,Env.get,putD,argEnv,List.map,x00,x01,x02,x03,x04,x05,x06,x07,List.take,List.drop,x08,x09,x0a,x0b,List.isEmpty,↓reduceIte,reduceCtorEq,Nat.reduceEqDiff,Nat.reduceAdd,Nat.reduceLeDiff,x0c,Int.reduceNeg,Nat.reduceMul,Nat.reduceSub,x0d,x0e,x0f,x0g,x0h,x0i,x0j,x0k,Int.reduceEq,Int.reduceLT,Int.reduceLE,Int.reduceToNat,Int.cast_ofNat_Int,List.reduceReplicate]
  refine onIf_intro fun _ => ?_
  simp -implicitDefEqProofs only [vmp,↓vmd,Env.get,putD,argEnv,List.map,x00,x01,x02,x03,x04,x05,x06,x07,List.take,List.drop,x08,x09,x0a,x0b,List.isEmpty,↓reduceIte,reduceCtorEq,Nat.reduceEqDiff,Nat.reduceAdd,Nat.reduceLeDiff,x0c,Int.reduceNeg,Nat.reduceMul,Nat.reduceSub,x0d,x0e,x0f,x0g,x0h,x0i,x0j,x0k,Int.reduceEq,Int.reduceLT,Int.reduceLE,Int.reduceToNat,Int.cast_ofNat_Int,List.reduceReplicate]
  refine loop_at (T := Nat) (fun i => [(11, .pure (I i)), (10, .pure (I ls.length)), (3, .rsl 0 0 ls.length), (4, .pure (.func (.func 87) [] []))]) (fun i => [⟨((stepF ls i).map gl).map S.pure, 10, .live⟩]) (fun i => i ≤ ls.length) (fun i => ls.length - i)
    0 [0] (by simp) rfl (by simp) (by simp -implicitDefEqProofs only [kpp,Env.get,x01,x00,x02,x03,List.map,x08,x09,↓reduceIte,reduceCtorEq,Nat.reduceEqDiff,Nat.reduceLeDiff,Nat.reduceLT,Nat.reduceAdd,x0j,x0l,x0m,x0n,x0o,Int.cast_ofNat_Int,x0p,x0i,x07,x06,x0q,x0r,x0s,x0t,x0d,x0u]) (by simp -implicitDefEqProofs only [stepF, kpp,Env.get,x01,x00,x02,x03,List.map,x08,x09,↓reduceIte,reduceCtorEq,Nat.reduceEqDiff,Nat.reduceLeDiff,Nat.reduceLT,Nat.reduceAdd,x0j,x0l,x0m,x0n,x0o,Int.cast_ofNat_Int,x0p,x0i,x07,x06,x0q,x0r,x0s,x0t,x0d,x0u]) ?_
  intro i hi
  unfold c53_1
  simp -implicitDefEqProofs only [vmp,↓vmd,Env.get,putD,argEnv,List.map,x00,x01,x02,x03,x04,x05,x06,x07,List.take,List.drop,x08,x09,x0a,x0b,List.isEmpty,↓reduceIte,reduceCtorEq,Nat.reduceEqDiff,Nat.reduceAdd,Nat.reduceLeDiff,x0c,Int.reduceNeg,Nat.reduceMul,Nat.reduceSub,x0d,x0e,x0f,x0g,x0h,x0i,x0j,x0k,Int.reduceEq,Int.reduceLT,Int.reduceLE,Int.reduceToNat,Int.cast_ofNat_Int,List.reduceReplicate]
  refine onB_dec (fun h1 => ?_) (fun h1 => ?_)
  · have hlt : i < ls.length := by omega
    have hX := stepF_len (ls := ls) i
    have hXi : (stepF ls i)[i]? = some (glAt ls i) := by rw [stepF_ge i (Nat.le_refl _), glAt_nat hlt]
    have hst : stepF ls (i + 1) = (stepF ls i).set i (setlG (stepF ls i) i (glAt ls i)) := rfl
    generalize stepF ls i = X at *
    generalize glAt ls i = g at *
    have hr := row_i hXi
    simp -implicitDefEqProofs only [h1, hr, Int.natCast_nonneg, vmp,↓vmd,Env.get,putD,argEnv,List.map,x00,x01,x02,x03,x04,x05,x06,x07,List.take,List.drop,x08,x09,x0a,x0b,List.isEmpty,↓reduceIte,reduceCtorEq,Nat.reduceEqDiff,Nat.reduceAdd,Nat.reduceLeDiff,x0c,Int.reduceNeg,Nat.reduceMul,Nat.reduceSub,x0d,x0e,x0f,x0g,x0h,x0i,x0j,x0k,Int.reduceEq,Int.reduceLT,Int.reduceLE,Int.reduceToNat,Int.cast_ofNat_Int,List.reduceReplicate]
    refine onC_q (ahead_q _ _) rfl ?_
    first | refine envO (by simp -implicitDefEqProofs only [vmp,↓vmd,Env.get,putD,argEnv,List.map,x00,x01,x02,x03,x04,x05,x06,x07,List.take,List.drop,x08,x09,x0a,x0b,List.isEmpty,↓reduceIte,reduceCtorEq,Nat.reduceEqDiff,Nat.reduceAdd,Nat.reduceLeDiff,x0c,Int.reduceNeg,Nat.reduceMul,Nat.reduceSub,x0d,x0e,x0f,x0g,x0h,x0i,x0j,x0k,Int.reduceEq,Int.reduceLT,Int.reduceLE,Int.reduceToNat,Int.cast_ofNat_Int,List.reduceReplicate]; rfl) ?_ | refine envQ (by simp -implicitDefEqProofs only [vmp,↓vmd,Env.get,putD,argEnv,List.map,x00,x01,x02,x03,x04,x05,x06,x07,List.take,List.drop,x08,x09,x0a,x0b,List.isEmpty,↓reduceIte,reduceCtorEq,Nat.reduceEqDiff,Nat.reduceAdd,Nat.reduceLeDiff,x0c,Int.reduceNeg,Nat.reduceMul,Nat.reduceSub,x0d,x0e,x0f,x0g,x0h,x0i,x0j,x0k,Int.reduceEq,Int.reduceLT,Int.reduceLE,Int.reduceToNat,Int.cast_ofNat_Int,List.reduceReplicate]; rfl) ?_
    simp -implicitDefEqProofs only [hr, vmp,↓vmd,Env.get,putD,argEnv,List.map,x00,x01,x02,x03,x04,x05,x06,x07,List.take,List.drop,x08,x09,x0a,x0b,List.isEmpty,↓reduceIte,reduceCtorEq,Nat.reduceEqDiff,Nat.reduceAdd,Nat.reduceLeDiff,x0c,Int.reduceNeg,Nat.reduceMul,Nat.reduceSub,x0d,x0e,x0f,x0g,x0h,x0i,x0j,x0k,Int.reduceEq,Int.reduceLT,Int.reduceLE,Int.reduceToNat,Int.cast_ofNat_Int,List.reduceReplicate]
    by_cases ha : aheadF g.to i = true
    · simp -implicitDefEqProofs only [ha, hr, vmp,↓vmd,Env.get,putD,argEnv,List.map,x00,x01,x02,x03,x04,x05,x06,x07,List.take,List.drop,x08,x09,x0a,x0b,List.isEmpty,↓reduceIte,reduceCtorEq,Nat.reduceEqDiff,Nat.reduceAdd,Nat.reduceLeDiff,x0c,Int.reduceNeg,Nat.reduceMul,Nat.reduceSub,x0d,x0e,x0f,x0g,x0h,x0i,x0j,x0k,Int.reduceEq,Int.reduceLT,Int.reduceLE,Int.reduceToNat,Int.cast_ofNat_Int,List.reduceReplicate]
      obtain ⟨a1, a2⟩ := ahead_in ha
      have a3 : g.to < (ls.length : Int) := by omega
      have hrt := row_i (glAt_eq (ls := X) a1 (by omega))
      simp -implicitDefEqProofs only [a1, a3, hr, hrt, vmp,↓vmd,Env.get,putD,argEnv,List.map,x00,x01,x02,x03,x04,x05,x06,x07,List.take,List.drop,x08,x09,x0a,x0b,List.isEmpty,↓reduceIte,reduceCtorEq,Nat.reduceEqDiff,Nat.reduceAdd,Nat.reduceLeDiff,x0c,Int.reduceNeg,Nat.reduceMul,Nat.reduceSub,x0d,x0e,x0f,x0g,x0h,x0i,x0j,x0k,Int.reduceEq,Int.reduceLT,Int.reduceLE,Int.reduceToNat,Int.cast_ofNat_Int,List.reduceReplicate]
      rw [row_set (f := gl) (a := ⟨g.id, g.cl, g.adv, wr (g.dx + (glAt X g.to).dx), g.dy, g.to, g.hang, g.lig, g.comp, g.mask⟩)]
      have hr2 := row_i (set_i (X := X) (i := i) (g := ⟨g.id, g.cl, g.adv, wr (g.dx + (glAt X g.to).dx), g.dy, g.to, g.hang, g.lig, g.comp, g.mask⟩) (by omega))
      have hrt2 := row_i ((set_ne (X := X) (i := i) (t := g.to.toNat) (g := ⟨g.id, g.cl, g.adv, wr (g.dx + (glAt X g.to).dx), g.dy, g.to, g.hang, g.lig, g.comp, g.mask⟩) (by omega)).trans (glAt_eq (ls := X) a1 (by omega)))
      simp -implicitDefEqProofs only [a1, a3, hr2, hrt2, vmp,↓vmd,Env.get,putD,argEnv,List.map,x00,x01,x02,x03,x04,x05,x06,x07,List.take,List.drop,x08,x09,x0a,x0b,List.isEmpty,↓reduceIte,reduceCtorEq,Nat.reduceEqDiff,Nat.reduceAdd,Nat.reduceLeDiff,x0c,Int.reduceNeg,Nat.reduceMul,Nat.reduceSub,x0d,x0e,x0f,x0g,x0h,x0i,x0j,x0k,Int.reduceEq,Int.reduceLT,Int.reduceLE,Int.reduceToNat,Int.cast_ofNat_Int,List.reduceReplicate]
      rw [row_set (f := gl) (a := ⟨g.id, g.cl, g.adv, wr (g.dx + (glAt X g.to).dx), wr (g.dy + (glAt X g.to).dy), g.to, g.hang, g.lig, g.comp, g.mask⟩), List.set_set]
      have hr3 := row_i (set_i (X := X) (i := i) (g := ⟨g.id, g.cl, g.adv, wr (g.dx + (glAt X g.to).dx), wr (g.dy + (glAt X g.to).dy), g.to, g.hang, g.lig, g.comp, g.mask⟩) (by omega))
      simp -implicitDefEqProofs only [hr3, vmp,↓vmd,Env.get,putD,argEnv,List.map,x00,x01,x02,x03,x04,x05,x06,x07,List.take,List.drop,x08,x09,x0a,x0b,List.isEmpty,↓reduceIte,reduceCtorEq,Nat.reduceEqDiff,Nat.reduceAdd,Nat.reduceLeDiff,x0c,Int.reduceNeg,Nat.reduceMul,Nat.reduceSub,x0d,x0e,x0f,x0g,x0h,x0i,x0j,x0k,Int.reduceEq,Int.reduceLT,Int.reduceLE,Int.reduceToNat,Int.cast_ofNat_Int,List.reduceReplicate]
      refine onC_q (ahead_q _ _) rfl ?_
      first | refine envO (by simp -implicitDefEqProofs only [vmp,↓vmd,Env.get,putD,argEnv,List.map,x00,x01,x02,x03,x04,x05,x06,x07,List.take,List.drop,x08,x09,x0a,x0b,List.isEmpty,↓reduceIte,reduceCtorEq,Nat.reduceEqDiff,Nat.reduceAdd,Nat.reduceLeDiff,x0c,Int.reduceNeg,Nat.reduceMul,Nat.reduceSub,x0d,x0e,x0f,x0g,x0h,x0i,x0j,x0k,Int.reduceEq,Int.reduceLT,Int.reduceLE,Int.reduceToNat,Int.cast_ofNat_Int,List.reduceReplicate]; rfl) ?_ | refine envQ (by simp -implicitDefEqProofs only [vmp,↓vmd,Env.get,putD,argEnv,List.map,x00,x01,x02,x03,x04,x05,x06,x07,List.take,List.drop,x08,x09,x0a,x0b,List.isEmpty,↓reduceIte,reduceCtorEq,Nat.reduceEqDiff,Nat.reduceAdd,Nat.reduceLeDiff,x0c,Int.reduceNeg,Nat.reduceMul,Nat.reduceSub,x0d,x0e,x0f,x0g,x0h,x0i,x0j,x0k,Int.reduceEq,Int.reduceLT,Int.reduceLE,Int.reduceToNat,Int.cast_ofNat_Int,List.reduceReplicate]; rfl) ?_
      simp -implicitDefEqProofs only [hr3, ha, vmp,↓vmd,Env.get,putD,argEnv,List.map,x00,x01,x02,x03,x04,x05,x06,x07,List.take,List.drop,x08,x09,x0a,x0b,List.isEmpty,↓reduceIte,reduceCtorEq,Nat.reduceEqDiff,Nat.reduceAdd,Nat.reduceLeDiff,x0c,Int.reduceNeg,Nat.reduceMul,Nat.reduceSub,x0d,x0e,x0f,x0g,x0h,x0i,x0j,x0k,Int.reduceEq,Int.reduceLT,Int.reduceLE,Int.reduceToNat,Int.cast_ofNat_Int,List.reduceReplicate]
      have hs : setlG X i g = ⟨g.id, g.cl, g.adv, wr (g.dx + (glAt X g.to).dx), wr (g.dy + (glAt X g.to).dy), g.to, -1, g.lig, g.comp, g.mask⟩ := by rw [setlG, if_pos ha]
      rw [hs] at hst
      rw [row_set (f := gl) (a := ⟨g.id, g.cl, g.adv, wr (g.dx + (glAt X g.to).dx), wr (g.dy + (glAt X g.to).dy), g.to, -1, g.lig, g.comp, g.mask⟩), List.set_set]
      refine onBk_to (i + 1) [0] (by simp) rfl (by omega) hlt (by simp -implicitDefEqProofs only [next_at hlt (by omega), kpp,Env.get,x01,x00,x02,x03,List.map,x08,x09,↓reduceIte,reduceCtorEq,Nat.reduceEqDiff,Nat.reduceLeDiff,Nat.reduceLT,Nat.reduceAdd,x0j,x0l,x0m,x0n,x0o,Int.cast_ofNat_Int,x0p,x0i,x07,x06,x0q,x0r,x0s,x0t,x0d,x0u]) (by simp -implicitDefEqProofs only [hst, kpp,Env.get,x01,x00,x02,x03,List.map,x08,x09,↓reduceIte,reduceCtorEq,Nat.reduceEqDiff,Nat.reduceLeDiff,Nat.reduceLT,Nat.reduceAdd,x0j,x0l,x0m,x0n,x0o,Int.cast_ofNat_Int,x0p,x0i,x07,x06,x0q,x0r,x0s,x0t,x0d,x0u])
    · have ha' : aheadF g.to i = false := by simpa using ha
      simp -implicitDefEqProofs only [ha', hr, vmp,↓vmd,Env.get,putD,argEnv,List.map,x00,x01,x02,x03,x04,x05,x06,x07,List.take,List.drop,x08,x09,x0a,x0b,List.isEmpty,↓reduceIte,reduceCtorEq,Nat.reduceEqDiff,Nat.reduceAdd,Nat.reduceLeDiff,x0c,Int.reduceNeg,Nat.reduceMul,Nat.reduceSub,x0d,x0e,x0f,x0g,x0h,x0i,x0j,x0k,Int.reduceEq,Int.reduceLT,Int.reduceLE,Int.reduceToNat,Int.cast_ofNat_Int,List.reduceReplicate]
      refine onC_q (ahead_q _ _) rfl ?_
      first | refine envO (by simp -implicitDefEqProofs only [vmp,↓vmd,Env.get,putD,argEnv,List.map,x00,x01,x02,x03,x04,x05,x06,x07,List.take,List.drop,x08,x09,x0a,x0b,List.isEmpty,↓reduceIte,reduceCtorEq,Nat.reduceEqDiff,Nat.reduceAdd,Nat.reduceLeDiff,x0c,Int.reduceNeg,Nat.reduceMul,Nat.reduceSub,x0d,x0e,x0f,x0g,x0h,x0i,x0j,x0k,Int.reduceEq,Int.reduceLT,Int.reduceLE,Int.reduceToNat,Int.cast_ofNat_Int,List.reduceReplicate]; rfl) ?_ | refine envQ (by simp -implicitDefEqProofs only [vmp,↓vmd,Env.get,putD,argEnv,List.map,x00,x01,x02,x03,x04,x05,x06,x07,List.take,List.drop,x08,x09,x0a,x0b,List.isEmpty,↓reduceIte,reduceCtorEq,Nat.reduceEqDiff,Nat.reduceAdd,Nat.reduceLeDiff,x0c,Int.reduceNeg,Nat.reduceMul,Nat.reduceSub,x0d,x0e,x0f,x0g,x0h,x0i,x0j,x0k,Int.reduceEq,Int.reduceLT,Int.reduceLE,Int.reduceToNat,Int.cast_ofNat_Int,List.reduceReplicate]; rfl) ?_
      simp -implicitDefEqProofs only [hr, vmp,↓vmd,Env.get,putD,argEnv,List.map,x00,x01,x02,x03,x04,x05,x06,x07,List.take,List.drop,x08,x09,x0a,x0b,List.isEmpty,↓reduceIte,reduceCtorEq,Nat.reduceEqDiff,Nat.reduceAdd,Nat.reduceLeDiff,x0c,Int.reduceNeg,Nat.reduceMul,Nat.reduceSub,x0d,x0e,x0f,x0g,x0h,x0i,x0j,x0k,Int.reduceEq,Int.reduceLT,Int.reduceLE,Int.reduceToNat,Int.cast_ofNat_Int,List.reduceReplicate]
      by_cases hb : aheadF g.hang i = true
      · have hs : setlG X i g = ⟨g.id, g.cl, g.adv, g.dx, wr (g.dy + (glAt X g.hang).dy), -1, -1, g.lig, g.comp, g.mask⟩ := by rw [setlG, if_neg ha, if_pos hb]
        rw [hs] at hst
        simp -implicitDefEqProofs only [hb, hr, vmp,↓vmd,Env.get,putD,argEnv,List.map,x00,x01,x02,x03,x04,x05,x06,x07,List.take,List.drop,x08,x09,x0a,x0b,List.isEmpty,↓reduceIte,reduceCtorEq,Nat.reduceEqDiff,Nat.reduceAdd,Nat.reduceLeDiff,x0c,Int.reduceNeg,Nat.reduceMul,Nat.reduceSub,x0d,x0e,x0f,x0g,x0h,x0i,x0j,x0k,Int.reduceEq,Int.reduceLT,Int.reduceLE,Int.reduceToNat,Int.cast_ofNat_Int,List.reduceReplicate]
        obtain ⟨a1, a2⟩ := ahead_in hb
        have a3 : g.hang < (ls.length : Int) := by omega
        have hrt := row_i (glAt_eq (ls := X) a1 (by omega))
        simp -implicitDefEqProofs only [a1, a3, hr, hrt, vmp,↓vmd,Env.get,putD,argEnv,List.map,x00,x01,x02,x03,x04,x05,x06,x07,List.take,List.drop,x08,x09,x0a,x0b,List.isEmpty,↓reduceIte,reduceCtorEq,Nat.reduceEqDiff,Nat.reduceAdd,Nat.reduceLeDiff,x0c,Int.reduceNeg,Nat.reduceMul,Nat.reduceSub,x0d,x0e,x0f,x0g,x0h,x0i,x0j,x0k,Int.reduceEq,Int.reduceLT,Int.reduceLE,Int.reduceToNat,Int.cast_ofNat_Int,List.reduceReplicate]
        rw [row_set (f := gl) (a := ⟨g.id, g.cl, g.adv, g.dx, wr (g.dy + (glAt X g.hang).dy), g.to, g.hang, g.lig, g.comp, g.mask⟩)]
        have hr3 := row_i (set_i (X := X) (i := i) (g := ⟨g.id, g.cl, g.adv, g.dx, wr (g.dy + (glAt X g.hang).dy), g.to, g.hang, g.lig, g.comp, g.mask⟩) (by omega))
        simp -implicitDefEqProofs only [hr3, vmp,↓vmd,Env.get,putD,argEnv,List.map,x00,x01,x02,x03,x04,x05,x06,x07,List.take,List.drop,x08,x09,x0a,x0b,List.isEmpty,↓reduceIte,reduceCtorEq,Nat.reduceEqDiff,Nat.reduceAdd,Nat.reduceLeDiff,x0c,Int.reduceNeg,Nat.reduceMul,Nat.reduceSub,x0d,x0e,x0f,x0g,x0h,x0i,x0j,x0k,Int.reduceEq,Int.reduceLT,Int.reduceLE,Int.reduceToNat,Int.cast_ofNat_Int,List.reduceReplicate]
        refine onC_q (ahead_q _ _) rfl ?_
        first | refine envO (by simp -implicitDefEqProofs only [vmp,↓vmd,Env.get,putD,argEnv,List.map,x00,x01,x02,x03,x04,x05,x06,x07,List.take,List.drop,x08,x09,x0a,x0b,List.isEmpty,↓reduceIte,reduceCtorEq,Nat.reduceEqDiff,Nat.reduceAdd,Nat.reduceLeDiff,x0c,Int.reduceNeg,Nat.reduceMul,Nat.reduceSub,x0d,x0e,x0f,x0g,x0h,x0i,x0j,x0k,Int.reduceEq,Int.reduceLT,Int.reduceLE,Int.reduceToNat,Int.cast_ofNat_Int,List.reduceReplicate]; rfl) ?_ | refine envQ (by simp -implicitDefEqProofs only [vmp,↓vmd,Env.get,putD,argEnv,List.map,x00,x01,x02,x03,x04,x05,x06,x07,List.take,List.drop,x08,x09,x0a,x0b,List.isEmpty,↓reduceIte,reduceCtorEq,Nat.reduceEqDiff,Nat.reduceAdd,Nat.reduceLeDiff,x0c,Int.reduceNeg,Nat.reduceMul,Nat.reduceSub,x0d,x0e,x0f,x0g,x0h,x0i,x0j,x0k,Int.reduceEq,Int.reduceLT,Int.reduceLE,Int.reduceToNat,Int.cast_ofNat_Int,List.reduceReplicate]; rfl) ?_
        simp -implicitDefEqProofs only [hr3, ha', vmp,↓vmd,Env.get,putD,argEnv,List.map,x00,x01,x02,x03,x04,x05,x06,x07,List.take,List.drop,x08,x09,x0a,x0b,List.isEmpty,↓reduceIte,reduceCtorEq,Nat.reduceEqDiff,Nat.reduceAdd,Nat.reduceLeDiff,x0c,Int.reduceNeg,Nat.reduceMul,Nat.reduceSub,x0d,x0e,x0f,x0g,x0h,x0i,x0j,x0k,Int.reduceEq,Int.reduceLT,Int.reduceLE,Int.reduceToNat,Int.cast_ofNat_Int,List.reduceReplicate]
        rw [row_set (f := gl) (a := ⟨g.id, g.cl, g.adv, g.dx, wr (g.dy + (glAt X g.hang).dy), -1, g.hang, g.lig, g.comp, g.mask⟩), List.set_set]
        have hr4 := row_i (set_i (X := X) (i := i) (g := ⟨g.id, g.cl, g.adv, g.dx, wr (g.dy + (glAt X g.hang).dy), -1, g.hang, g.lig, g.comp, g.mask⟩) (by omega))
        simp -implicitDefEqProofs only [hr4, vmp,↓vmd,Env.get,putD,argEnv,List.map,x00,x01,x02,x03,x04,x05,x06,x07,List.take,List.drop,x08,x09,x0a,x0b,List.isEmpty,↓reduceIte,reduceCtorEq,Nat.reduceEqDiff,Nat.reduceAdd,Nat.reduceLeDiff,x0c,Int.reduceNeg,Nat.reduceMul,Nat.reduceSub,x0d,x0e,x0f,x0g,x0h,x0i,x0j,x0k,Int.reduceEq,Int.reduceLT,Int.reduceLE,Int.reduceToNat,Int.cast_ofNat_Int,List.reduceReplicate]
        rw [row_set (f := gl) (a := ⟨g.id, g.cl, g.adv, g.dx, wr (g.dy + (glAt X g.hang).dy), -1, -1, g.lig, g.comp, g.mask⟩), List.set_set]
        refine onBk_to (i + 1) [0] (by simp) rfl (by omega) hlt (by simp -implicitDefEqProofs only [next_at hlt (by omega), kpp,Env.get,x01,x00,x02,x03,List.map,x08,x09,↓reduceIte,reduceCtorEq,Nat.reduceEqDiff,Nat.reduceLeDiff,Nat.reduceLT,Nat.reduceAdd,x0j,x0l,x0m,x0n,x0o,Int.cast_ofNat_Int,x0p,x0i,x07,x06,x0q,x0r,x0s,x0t,x0d,x0u]) (by simp -implicitDefEqProofs only [hst, kpp,Env.get,x01,x00,x02,x03,List.map,x08,x09,↓reduceIte,reduceCtorEq,Nat.reduceEqDiff,Nat.reduceLeDiff,Nat.reduceLT,Nat.reduceAdd,x0j,x0l,x0m,x0n,x0o,Int.cast_ofNat_Int,x0p,x0i,x07,x06,x0q,x0r,x0s,x0t,x0d,x0u])
      · have hb' : aheadF g.hang i = false := by simpa using hb
        have hs : setlG X i g = ⟨g.id, g.cl, g.adv, g.dx, g.dy, -1, -1, g.lig, g.comp, g.mask⟩ := by rw [setlG, if_neg ha, if_neg hb]
        rw [hs] at hst
        simp -implicitDefEqProofs only [hb', hr, vmp,↓vmd,Env.get,putD,argEnv,List.map,x00,x01,x02,x03,x04,x05,x06,x07,List.take,List.drop,x08,x09,x0a,x0b,List.isEmpty,↓reduceIte,reduceCtorEq,Nat.reduceEqDiff,Nat.reduceAdd,Nat.reduceLeDiff,x0c,Int.reduceNeg,Nat.reduceMul,Nat.reduceSub,x0d,x0e,x0f,x0g,x0h,x0i,x0j,x0k,Int.reduceEq,Int.reduceLT,Int.reduceLE,Int.reduceToNat,Int.cast_ofNat_Int,List.reduceReplicate]
        refine onC_q (ahead_q _ _) rfl ?_
        first | refine envO (by simp -implicitDefEqProofs only [vmp,↓vmd,Env.get,putD,argEnv,List.map,x00,x01,x02,x03,x04,x05,x06,x07,List.take,List.drop,x08,x09,x0a,x0b,List.isEmpty,↓reduceIte,reduceCtorEq,Nat.reduceEqDiff,Nat.reduceAdd,Nat.reduceLeDiff,x0c,Int.reduceNeg,Nat.reduceMul,Nat.reduceSub,x0d,x0e,x0f,x0g,x0h,x0i,x0j,x0k,Int.reduceEq,Int.reduceLT,Int.reduceLE,Int.reduceToNat,Int.cast_ofNat_Int,List.reduceReplicate]; rfl) ?_ | refine envQ (by simp -implicitDefEqProofs only [vmp,↓vmd,Env.get,putD,argEnv,List.map,x00,x01,x02,x03,x04,x05,x06,x07,List.take,List.drop,x08,x09,x0a,x0b,List.isEmpty,↓reduceIte,reduceCtorEq,Nat.reduceEqDiff,Nat.reduceAdd,Nat.reduceLeDiff,x0c,Int.reduceNeg,Nat.reduceMul,Nat.reduceSub,x0d,x0e,x0f,x0g,x0h,x0i,x0j,x0k,Int.reduceEq,Int.reduceLT,Int.reduceLE,Int.reduceToNat,Int.cast_ofNat_Int,List.reduceReplicate]; rfl) ?_
        simp -implicitDefEqProofs only [hr, ha', vmp,↓vmd,Env.get,putD,argEnv,List.map,x00,x01,x02,x03,x04,x05,x06,x07,List.take,List.drop,x08,x09,x0a,x0b,List.isEmpty,↓reduceIte,reduceCtorEq,Nat.reduceEqDiff,Nat.reduceAdd,Nat.reduceLeDiff,x0c,Int.reduceNeg,Nat.reduceMul,Nat.reduceSub,x0d,x0e,x0f,x0g,x0h,x0i,x0j,x0k,Int.reduceEq,Int.reduceLT,Int.reduceLE,Int.reduceToNat,Int.cast_ofNat_Int,List.reduceReplicate]
        rw [row_set (f := gl) (a := ⟨g.id, g.cl, g.adv, g.dx, g.dy, -1, g.hang, g.lig, g.comp, g.mask⟩)]
        have hr4 := row_i (set_i (X := X) (i := i) (g := ⟨g.id, g.cl, g.adv, g.dx, g.dy, -1, g.hang, g.lig, g.comp, g.mask⟩) (by omega))
        simp -implicitDefEqProofs only [hr4, vmp,↓vmd,Env.get,putD,argEnv,List.map,x00,x01,x02,x03,x04,x05,x06,x07,List.take,List.drop,x08,x09,x0a,x0b,List.isEmpty,↓reduceIte,reduceCtorEq,Nat.reduceEqDiff,Nat.reduceAdd,Nat.reduceLeDiff,x0c,Int.reduceNeg,Nat.reduceMul,Nat.reduceSub,x0d,x0e,x0f,x0g,x0h,x0i,x0j,x0k,Int.reduceEq,Int.reduceLT,Int.reduceLE,Int.reduceToNat,Int.cast_ofNat_Int,List.reduceReplicate]
        rw [row_set (f := gl) (a := ⟨g.id, g.cl, g.adv, g.dx, g.dy, -1, -1, g.lig, g.comp, g.mask⟩), List.set_set]
        refine onBk_to (i + 1) [0] (by simp) rfl (by omega) hlt (by simp -implicitDefEqProofs only [next_at hlt (by omega), kpp,Env.get,x01,x00,x02,x03,List.map,x08,x09,↓reduceIte,reduceCtorEq,Nat.reduceEqDiff,Nat.reduceLeDiff,Nat.reduceLT,Nat.reduceAdd,x0j,x0l,x0m,x0n,x0o,Int.cast_ofNat_Int,x0p,x0i,x07,x06,x0q,x0r,x0s,x0t,x0d,x0u]) (by simp -implicitDefEqProofs only [hst, kpp,Env.get,x01,x00,x02,x03,List.map,x08,x09,↓reduceIte,reduceCtorEq,Nat.reduceEqDiff,Nat.reduceLeDiff,Nat.reduceLT,Nat.reduceAdd,x0j,x0l,x0m,x0n,x0o,Int.cast_ofNat_Int,x0p,x0i,x07,x06,x0q,x0r,x0s,x0t,x0d,x0u])
  · simp -implicitDefEqProofs only [h1, vmp,↓vmd,Env.get,putD,argEnv,List.map,x00,x01,x02,x03,x04,x05,x06,x07,List.take,List.drop,x08,x09,x0a,x0b,List.isEmpty,↓reduceIte,reduceCtorEq,Nat.reduceEqDiff,Nat.reduceAdd,Nat.reduceLeDiff,x0c,Int.reduceNeg,Nat.reduceMul,Nat.reduceSub,x0d,x0e,x0f,x0g,x0h,x0i,x0j,x0k,Int.reduceEq,Int.reduceLT,Int.reduceLE,Int.reduceToNat,Int.cast_ofNat_Int,List.reduceReplicate]
    unfold c53_0
    simp -implicitDefEqProofs only [vmp,↓vmd,Env.get,putD,argEnv,List.map,x00,x01,x02,x03,x04,x05,x06,x07,List.take,List.drop,x08,x09,x0a,x0b,List.isEmpty,↓reduceIte,reduceCtorEq,Nat.reduceEqDiff,Nat.reduceAdd,Nat.reduceLeDiff,x0c,Int.reduceNeg,Nat.reduceMul,Nat.reduceSub,x0d,x0e,x0f,x0g,x0h,x0i,x0j,x0k,Int.reduceEq,Int.reduceLT,Int.reduceLE,Int.reduceToNat,Int.cast_ofNat_Int,List.reduceReplicate]
    obtain rfl : i = ls.length := by omega
    exact gives_row' rfl (by simp) (stepF_len _).symm
/-- what stands ahead of a place, settled -/
def outF (ls : List Gl) (i : Nat) : List Gl := (stepF ls i).take i
theorem outF_len {ls : List Gl} {i : Nat} (h : i ≤ ls.length) : (outF ls i).length = i := by
  rw [outF, List.length_take, stepF_len]; omega
theorem outF_succ {ls : List Gl} {i : Nat} (h : i < ls.length) : outF ls (i + 1) = outF ls i ++ [setlG (stepF ls i) i (glAt ls i)] := by
  have hx : i < (stepF ls i).length := by rw [stepF_len]; exact h
  rw [outF, List.take_add_one, stepF, set_i hx, outF, List.take_set_of_le (Nat.le_refl _)]
  rfl
theorem outF_at {ls : List Gl} {i : Nat} {y : Int} (h0 : 0 ≤ y) (h1 : y < i) (h : i ≤ ls.length) : (outF ls i)[y.toNat]? = some (glAt (stepF ls i) y) := by
  rw [outF, List.getElem?_take_of_lt (by omega)]
  exact glAt_eq h0 (by rw [stepF_len]; omega)
theorem rsettle_q (ls : List Gl) (hl : ls.length ≤ 1000) : FnQ Try.prog 54 [.sl (ls.map gl)] [.sl ((stepF ls ls.length).map gl)] := by
  refine q54 (by simp) ?_
  unfold c54
  simp -implicitDefEqProofs only [*, vmp,↓vmd,Env.get,putD,argEnv,List.map,x00,x01,x02,x03,x04,x05,x06,x07,List.take,List.drop,x08,x09,x0a,x0b,List.isEmpty,↓reduceIte,reduceCtorEq,Nat.reduceEqDiff,Nat.reduceAdd,Nat.reduceLeDiff,x0c,Int.reduceNeg,Nat.reduceMul,Nat.reduceSub,x0d,x0e,x0f,x0g,x0h,x0i,x0j,x0k,Int.reduceEq,Int.reduceLT,Int.reduceLE,Int.reduceToNat,Int.cast_ofNat_Int,List.reduceReplicate]
  refine loop_virt 3 10 rfl (by simp) ?_
  refine loop_at (T := Nat) (fun i => [(4, .pure (I i)), (0, .pure (.sl (ls.map gl))), (3, .rsl 0 0 (outF ls i).length)]) (fun i => [⟨((outF ls i).map gl).map S.pure, 10, .live⟩]) (fun i => i ≤ ls.length) (fun i => ls.length - i)
    0 [0] (by simp) rfl (by simp) (by simp -implicitDefEqProofs only [show outF ls 0 = [] from rfl, kpp,Env.get,x01,x00,x02,x03,List.map,x08,x09,↓reduceIte,reduceCtorEq,Nat.reduceEqDiff,Nat.reduceLeDiff,Nat.reduceLT,Nat.reduceAdd,x0j,x0l,x0m,x0n,x0o,Int.cast_ofNat_Int,x0p,x0i,x07,x06,x0q,x0r,x0s,x0t,x0d,x0u]) (by simp -implicitDefEqProofs only [show outF ls 0 = [] from rfl, kpp,Env.get,x01,x00,x02,x03,List.map,x08,x09,↓reduceIte,reduceCtorEq,Nat.reduceEqDiff,Nat.reduceLeDiff,Nat.reduceLT,Nat.reduceAdd,x0j,x0l,x0m,x0n,x0o,Int.cast_ofNat_Int,x0p,x0i,x07,x06,x0q,x0r,x0s,x0t,x0d,x0u]) ?_
  intro i hi
  unfold c54_1
  simp -implicitDefEqProofs only [vmp,↓vmd,Env.get,putD,argEnv,List.map,x00,x01,x02,x03,x04,x05,x06,x07,List.take,List.drop,x08,x09,x0a,x0b,List.isEmpty,↓reduceIte,reduceCtorEq,Nat.reduceEqDiff,Nat.reduceAdd,Nat.reduceLeDiff,x0c,Int.reduceNeg,Nat.reduceMul,Nat.reduceSub,x0d,x0e,x0f,x0g,x0h,x0i,x0j,x0k,Int.reduceEq,Int.reduceLT,Int.reduceLE,Int.reduceToNat,Int.cast_ofNat_Int,List.reduceReplicate]
  refine onIf_intro fun _ => ?_
  simp -implicitDefEqProofs only [vmp,↓vmd,Env.get,putD,argEnv,List.map,x00,x01,x02,x03,x04,x05,x06,x07,List.take,List.drop,x08,x09,x0a,x0b,List.isEmpty,↓reduceIte,reduceCtorEq,Nat.reduceEqDiff,Nat.reduceAdd,Nat.reduceLeDiff,x0c,Int.reduceNeg,Nat.reduceMul,Nat.reduceSub,x0d,x0e,x0f,x0g,x0h,x0i,x0j,x0k,Int.reduceEq,Int.reduceLT,Int.reduceLE,Int.reduceToNat,Int.cast_ofNat_Int,List.reduceReplicate]
  refine onB_dec (fun h1 => ?_) (fun h1 => ?_)
  · have hlt : i < ls.length := by omega
    have hX := stepF_len (ls := ls) i
    have hol := outF_len hi
    have hos := outF_succ hlt
    have hat := fun (y : Int) h0 h1 => outF_at (ls := ls) (i := i) (y := y) h0 h1 hi
    have hg := row_i (glAt_nat hlt)
    have hg' : (ls.map gl)[i]? = some (gl (glAt ls i)) := by rw [List.getElem?_map, glAt_nat hlt]; rfl
    generalize stepF ls i = X at *
    generalize glAt ls i = g at *
    generalize outF ls i = O at *
    simp -implicitDefEqProofs only [h1, hg', Int.natCast_nonneg, vmp,↓vmd,Env.get,putD,argEnv,List.map,x00,x01,x02,x03,x04,x05,x06,x07,List.take,List.drop,x08,x09,x0a,x0b,List.isEmpty,↓reduceIte,reduceCtorEq,Nat.reduceEqDiff,Nat.reduceAdd,Nat.reduceLeDiff,x0c,Int.reduceNeg,Nat.reduceMul,Nat.reduceSub,x0d,x0e,x0f,x0g,x0h,x0i,x0j,x0k,Int.reduceEq,Int.reduceLT,Int.reduceLE,Int.reduceToNat,Int.cast_ofNat_Int,List.reduceReplicate]
    by_cases a1 : 0 ≤ g.to
    · by_cases a2 : g.to < (i : Int)
      · have hs : setlG X i g = ⟨g.id, g.cl, g.adv, wr (g.dx + (glAt X g.to).dx), wr (g.dy + (glAt X g.to).dy), g.to, -1, g.lig, g.comp, g.mask⟩ := by rw [setlG, if_pos (by simp [aheadF, a1, a2])]
        have hrt := row_i (hat _ a1 a2)
        have a3 : g.to < (O.length : Int) := by omega
        simp -implicitDefEqProofs only [a1, a2, a3, hrt, vmp,↓vmd,Env.get,putD,argEnv,List.map,x00,x01,x02,x03,x04,x05,x06,x07,List.take,List.drop,x08,x09,x0a,x0b,List.isEmpty,↓reduceIte,reduceCtorEq,Nat.reduceEqDiff,Nat.reduceAdd,Nat.reduceLeDiff,x0c,Int.reduceNeg,Nat.reduceMul,Nat.reduceSub,x0d,x0e,x0f,x0g,x0h,x0i,x0j,x0k,Int.reduceEq,Int.reduceLT,Int.reduceLE,Int.reduceToNat,Int.cast_ofNat_Int,List.reduceReplicate]
        refine onIf'_intro (appOk_one rfl rfl (by simp) (by omega) (by simp [maxLen]; omega)) ?_
        simp -implicitDefEqProofs only [vmp,↓vmd,Env.get,putD,argEnv,List.map,x00,x01,x02,x03,x04,x05,x06,x07,List.take,List.drop,x08,x09,x0a,x0b,List.isEmpty,↓reduceIte,reduceCtorEq,Nat.reduceEqDiff,Nat.reduceAdd,Nat.reduceLeDiff,x0c,Int.reduceNeg,Nat.reduceMul,Nat.reduceSub,x0d,x0e,x0f,x0g,x0h,x0i,x0j,x0k,Int.reduceEq,Int.reduceLT,Int.reduceLE,Int.reduceToNat,Int.cast_ofNat_Int,List.reduceReplicate]
        refine onBk_to (i + 1) [3] (by simp) rfl (by omega) hlt (by simp -implicitDefEqProofs only [next_at hlt (by omega), hos, hs, kpp,Env.get,x01,x00,x02,x03,List.map,x08,x09,↓reduceIte,reduceCtorEq,Nat.reduceEqDiff,Nat.reduceLeDiff,Nat.reduceLT,Nat.reduceAdd,x0j,x0l,x0m,x0n,x0o,Int.cast_ofNat_Int,x0p,x0i,x07,x06,x0q,x0r,x0s,x0t,x0d,x0u]) (by simp -implicitDefEqProofs only [hos, hs, kpp,Env.get,x01,x00,x02,x03,List.map,x08,x09,↓reduceIte,reduceCtorEq,Nat.reduceEqDiff,Nat.reduceLeDiff,Nat.reduceLT,Nat.reduceAdd,x0j,x0l,x0m,x0n,x0o,Int.cast_ofNat_Int,x0p,x0i,x07,x06,x0q,x0r,x0s,x0t,x0d,x0u])
      · have hn : ¬ (0 ≤ g.to ∧ g.to < (i : Int)) := fun h => a2 h.2
        have ha : ¬ aheadF g.to i = true := fun h => hn (ahead_in h)
        by_cases hb : 0 ≤ g.hang
        · by_cases hc : g.hang < (i : Int)
          · have hs : setlG X i g = ⟨g.id, g.cl, g.adv, g.dx, wr (g.dy + (glAt X g.hang).dy), -1, -1, g.lig, g.comp, g.mask⟩ := by rw [setlG, if_neg ha, if_pos (by simp [aheadF, hb, hc])]
            have hrt := row_i (hat _ hb hc)
            have hd : g.hang < (O.length : Int) := by omega
            simp -implicitDefEqProofs only [a1, a2, hb, hc, hd, hrt, vmp,↓vmd,Env.get,putD,argEnv,List.map,x00,x01,x02,x03,x04,x05,x06,x07,List.take,List.drop,x08,x09,x0a,x0b,List.isEmpty,↓reduceIte,reduceCtorEq,Nat.reduceEqDiff,Nat.reduceAdd,Nat.reduceLeDiff,x0c,Int.reduceNeg,Nat.reduceMul,Nat.reduceSub,x0d,x0e,x0f,x0g,x0h,x0i,x0j,x0k,Int.reduceEq,Int.reduceLT,Int.reduceLE,Int.reduceToNat,Int.cast_ofNat_Int,List.reduceReplicate]
            refine onIf'_intro (appOk_one rfl rfl (by simp) (by omega) (by simp [maxLen]; omega)) ?_
            simp -implicitDefEqProofs only [vmp,↓vmd,Env.get,putD,argEnv,List.map,x00,x01,x02,x03,x04,x05,x06,x07,List.take,List.drop,x08,x09,x0a,x0b,List.isEmpty,↓reduceIte,reduceCtorEq,Nat.reduceEqDiff,Nat.reduceAdd,Nat.reduceLeDiff,x0c,Int.reduceNeg,Nat.reduceMul,Nat.reduceSub,x0d,x0e,x0f,x0g,x0h,x0i,x0j,x0k,Int.reduceEq,Int.reduceLT,Int.reduceLE,Int.reduceToNat,Int.cast_ofNat_Int,List.reduceReplicate]
            refine onBk_to (i + 1) [3] (by simp) rfl (by omega) hlt (by simp -implicitDefEqProofs only [next_at hlt (by omega), hos, hs, kpp,Env.get,x01,x00,x02,x03,List.map,x08,x09,↓reduceIte,reduceCtorEq,Nat.reduceEqDiff,Nat.reduceLeDiff,Nat.reduceLT,Nat.reduceAdd,x0j,x0l,x0m,x0n,x0o,Int.cast_ofNat_Int,x0p,x0i,x07,x06,x0q,x0r,x0s,x0t,x0d,x0u]) (by simp -implicitDefEqProofs only [hos, hs, kpp,Env.get,x01,x00,x02,x03,List.map,x08,x09,↓reduceIte,reduceCtorEq,Nat.reduceEqDiff,Nat.reduceLeDiff,Nat.reduceLT,Nat.reduceAdd,x0j,x0l,x0m,x0n,x0o,Int.cast_ofNat_Int,x0p,x0i,x07,x06,x0q,x0r,x0s,x0t,x0d,x0u])
          · have hs : setlG X i g = ⟨g.id, g.cl, g.adv, g.dx, g.dy, -1, -1, g.lig, g.comp, g.mask⟩ := by rw [setlG, if_neg ha, if_neg (by simp [aheadF, hb, hc])]
            simp -implicitDefEqProofs only [a1, a2, hb, hc, vmp,↓vmd,Env.get,putD,argEnv,List.map,x00,x01,x02,x03,x04,x05,x06,x07,List.take,List.drop,x08,x09,x0a,x0b,List.isEmpty,↓reduceIte,reduceCtorEq,Nat.reduceEqDiff,Nat.reduceAdd,Nat.reduceLeDiff,x0c,Int.reduceNeg,Nat.reduceMul,Nat.reduceSub,x0d,x0e,x0f,x0g,x0h,x0i,x0j,x0k,Int.reduceEq,Int.reduceLT,Int.reduceLE,Int.reduceToNat,Int.cast_ofNat_Int,List.reduceReplicate]
            refine onIf'_intro (appOk_one rfl rfl (by simp) (by omega) (by simp [maxLen]; omega)) ?_
            simp -implicitDefEqProofs only [vmp,↓vmd,Env.get,putD,argEnv,List.map,x00,x01,x02,x03,x04,x05,x06,x07,List.take,List.drop,x08,x09,x0a,x0b,List.isEmpty,↓reduceIte,reduceCtorEq,Nat.reduceEqDiff,Nat.reduceAdd,Nat.reduceLeDiff,x0c,Int.reduceNeg,Nat.reduceMul,Nat.reduceSub,x0d,x0e,x0f,x0g,x0h,x0i,x0j,x0k,Int.reduceEq,Int.reduceLT,Int.reduceLE,Int.reduceToNat,Int.cast_ofNat_Int,List.reduceReplicate]
            refine onBk_to (i + 1) [3] (by simp) rfl (by omega) hlt (by simp -implicitDefEqProofs only [next_at hlt (by omega), hos, hs, kpp,Env.get,x01,x00,x02,x03,List.map,x08,x09,↓reduceIte,reduceCtorEq,Nat.reduceEqDiff,Nat.reduceLeDiff,Nat.reduceLT,Nat.reduceAdd,x0j,x0l,x0m,x0n,x0o,Int.cast_ofNat_Int,x0p,x0i,x07,x06,x0q,x0r,x0s,x0t,x0d,x0u]) (by simp -implicitDefEqProofs only [hos, hs, kpp,Env.get,x01,x00,x02,x03,List.map,x08,x09,↓reduceIte,reduceCtorEq,Nat.reduceEqDiff,Nat.reduceLeDiff,Nat.reduceLT,Nat.reduceAdd,x0j,x0l,x0m,x0n,x0o,Int.cast_ofNat_Int,x0p,x0i,x07,x06,x0q,x0r,x0s,x0t,x0d,x0u])
        · have hs : setlG X i g = ⟨g.id, g.cl, g.adv, g.dx, g.dy, -1, -1, g.lig, g.comp, g.mask⟩ := by rw [setlG, if_neg ha, if_neg (by simp [aheadF, hb])]
          simp -implicitDefEqProofs only [a1, a2, hb, vmp,↓vmd,Env.get,putD,argEnv,List.map,x00,x01,x02,x03,x04,x05,x06,x07,List.take,List.drop,x08,x09,x0a,x0b,List.isEmpty,↓reduceIte,reduceCtorEq,Nat.reduceEqDiff,Nat.reduceAdd,Nat.reduceLeDiff,x0c,Int.reduceNeg,Nat.reduceMul,Nat.reduceSub,x0d,x0e,x0f,x0g,x0h,x0i,x0j,x0k,Int.reduceEq,Int.reduceLT,Int.reduceLE,Int.reduceToNat,Int.cast_ofNat_Int,List.reduceReplicate]
          refine onIf'_intro (appOk_one rfl rfl (by simp) (by omega) (by simp [maxLen]; omega)) ?_
          simp -implicitDefEqProofs only [vmp,↓vmd,Env.get,putD,argEnv,List.map,x00,x01,x02,x03,x04,x05,x06,x07,List.take,List.drop,x08,x09,x0a,x0b,List.isEmpty,↓reduceIte,reduceCtorEq,Nat.reduceEqDiff,Nat.reduceAdd,Nat.reduceLeDiff,x0c,Int.reduceNeg,Nat.reduceMul,Nat.reduceSub,x0d,x0e,x0f,x0g,x0h,x0i,x0j,x0k,Int.reduceEq,Int.reduceLT,Int.reduceLE,Int.reduceToNat,Int.cast_ofNat_Int,List.reduceReplicate]
          refine onBk_to (i + 1) [3] (by simp) rfl (by omega) hlt (by simp -implicitDefEqProofs only [next_at hlt (by omega), hos, hs, kpp,Env.get,x01,x00,x02,x03,List.map,x08,x09,↓reduceIte,reduceCtorEq,Nat.reduceEqDiff,Nat.reduceLeDiff,Nat.reduceLT,Nat.reduceAdd,x0j,x0l,x0m,x0n,x0o,Int.cast_ofNat_Int,x0p,x0i,x07,x06,x0q,x0r,x0s,x0t,x0d,x0u]) (by simp -implicitDefEqProofs only [hos, hs, kpp,Env.get,x01,x00,x02,x03,List.map,x08,x09,↓reduceIte,reduceCtorEq,Nat.reduceEqDiff,Nat.reduceLeDiff,Nat.reduceLT,Nat.reduceAdd,x0j,x0l,x0m,x0n,x0o,Int.cast_ofNat_Int,x0p,x0i,x07,x06,x0q,x0r,x0s,x0t,x0d,x0u])
    · have hn : ¬ (0 ≤ g.to ∧ g.to < (i : Int)) := fun h => a1 h.1
      have ha : ¬ aheadF g.to i = true := fun h => hn (ahead_in h)
      by_cases hb : 0 ≤ g.hang
      · by_cases hc : g.hang < (i : Int)
        · have hs : setlG X i g = ⟨g.id, g.cl, g.adv, g.dx, wr (g.dy + (glAt X g.hang).dy), -1, -1, g.lig, g.comp, g.mask⟩ := by rw [setlG, if_neg ha, if_pos (by simp [aheadF, hb, hc])]
          have hrt := row_i (hat _ hb hc)
          have hd : g.hang < (O.length : Int) := by omega
          simp -implicitDefEqProofs only [a1, hb, hc, hd, hrt, vmp,↓vmd,Env.get,putD,argEnv,List.map,x00,x01,x02,x03,x04,x05,x06,x07,List.take,List.drop,x08,x09,x0a,x0b,List.isEmpty,↓reduceIte,reduceCtorEq,Nat.reduceEqDiff,Nat.reduceAdd,Nat.reduceLeDiff,x0c,Int.reduceNeg,Nat.reduceMul,Nat.reduceSub,x0d,x0e,x0f,x0g,x0h,x0i,x0j,x0k,Int.reduceEq,Int.reduceLT,Int.reduceLE,Int.reduceToNat,Int.cast_ofNat_Int,List.reduceReplicate]
          refine onIf'_intro (appOk_one rfl rfl (by simp) (by omega) (by simp [maxLen]; omega)) ?_
          simp -implicitDefEqProofs only [vmp,↓vmd,Env.get,putD,argEnv,List.map,x00,x01,x02,x03,x04,x05,x06,x07,List.take,List.drop,x08,x09,x0a,x0b,List.isEmpty,↓reduceIte,reduceCtorEq,Nat.reduceEqDiff,Nat.reduceAdd,Nat.reduceLeDiff,x0c,Int.reduceNeg,Nat.reduceMul,Nat.reduceSub,x0d,x0e,x0f,x0g,x0h,x0i,x0j,x0k,Int.reduceEq,Int.reduceLT,Int.reduceLE,Int.reduceToNat,Int.cast_ofNat_Int,List.reduceReplicate]
          refine onBk_to (i + 1) [3] (by simp) rfl (by omega) hlt (by simp -implicitDefEqProofs only [next_at hlt (by omega), hos, hs, kpp,Env.get,x01,x00,x02,x03,List.map,x08,x09,↓reduceIte,reduceCtorEq,Nat.reduceEqDiff,Nat.reduceLeDiff,Nat.reduceLT,Nat.reduceAdd,x0j,x0l,x0m,x0n,x0o,Int.cast_ofNat_Int,x0p,x0i,x07,x06,x0q,x0r,x0s,x0t,x0d,x0u]) (by simp -implicitDefEqProofs only [hos, hs, kpp,Env.get,x01,x00,x02,x03,List.map,x08,x09,↓reduceIte,reduceCtorEq,Nat.reduceEqDiff,Nat.reduceLeDiff,Nat.reduceLT,Nat.reduceAdd,x0j,x0l,x0m,x0n,x0o,Int.cast_ofNat_Int,x0p,x0i,x07,x06,x0q,x0r,x0s,x0t,x0d,x0u])
        · have hs : setlG X i g = ⟨g.id, g.cl, g.adv, g.dx, g.dy, -1, -1, g.lig, g.comp, g.mask⟩ := by rw [setlG, if_neg ha, if_neg (by simp [aheadF, hb, hc])]
          simp -implicitDefEqProofs only [a1, hb, hc, vmp,↓vmd,Env.get,putD,argEnv,List.map,x00,x01,x02,x03,x04,x05,x06,x07,List.take,List.drop,x08,x09,x0a,x0b,List.isEmpty,↓reduceIte,reduceCtorEq,Nat.reduceEqDiff,Nat.reduceAdd,Nat.reduceLeDiff,x0c,Int.reduceNeg,Nat.reduceMul,Nat.reduceSub,x0d,x0e,x0f,x0g,x0h,x0i,x0j,x0k,Int.reduceEq,Int.reduceLT,Int.reduceLE,Int.reduceToNat,Int.cast_ofNat_Int,List.reduceReplicate]
          refine onIf'_intro (appOk_one rfl rfl (by simp) (by omega) (by simp [maxLen]; omega)) ?_
          simp -implicitDefEqProofs only [vmp,↓vmd,Env.get,putD,argEnv,List.map,x00,x01,x02,x03,x04,x05,x06,x07,List.take,List.drop,x08,x09,x0a,x0b,List.isEmpty,↓reduceIte,reduceCtorEq,Nat.reduceEqDiff,Nat.reduceAdd,Nat.reduceLeDiff,x0c,Int.reduceNeg,Nat.reduceMul,Nat.reduceSub,x0d,x0e,x0f,x0g,x0h,x0i,x0j,x0k,Int.reduceEq,Int.reduceLT,Int.reduceLE,Int.reduceToNat,Int.cast_ofNat_Int,List.reduceReplicate]
          refine onBk_to (i + 1) [3] (by simp) rfl (by omega) hlt (by simp -implicitDefEqProofs only [next_at hlt (by omega), hos, hs, kpp,Env.get,x01,x00,x02,x03,List.map,x08,x09,↓reduceIte,reduceCtorEq,Nat.reduceEqDiff,Nat.reduceLeDiff,Nat.reduceLT,Nat.reduceAdd,x0j,x0l,x0m,x0n,x0o,Int.cast_ofNat_Int,x0p,x0i,x07,x06,x0q,x0r,x0s,x0t,x0d,x0u]) (by simp -implicitDefEqProofs only [hos, hs, kpp,Env.get,x01,x00,x02,x03,List.map,x08,x09,↓reduceIte,reduceCtorEq,Nat.reduceEqDiff,Nat.reduceLeDiff,Nat.reduceLT,Nat.reduceAdd,x0j,x0l,x0m,x0n,x0o,Int.cast_ofNat_Int,x0p,x0i,x07,x06,x0q,x0r,x0s,x0t,x0d,x0u])
      · have hs : setlG X i g = ⟨g.id, g.cl, g.adv, g.dx, g.dy, -1, -1, g.lig, g.comp, g.mask⟩ := by rw [setlG, if_neg ha, if_neg (by simp [aheadF, hb])]
        simp -implicitDefEqProofs only [a1, hb, vmp,↓vmd,Env.get,putD,argEnv,List.map,x00,x01,x02,x03,x04,x05,x06,x07,List.take,List.drop,x08,x09,x0a,x0b,List.isEmpty,↓reduceIte,reduceCtorEq,Nat.reduceEqDiff,Nat.reduceAdd,Nat.reduceLeDiff,x0c,Int.reduceNeg,Nat.reduceMul,Nat.reduceSub,x0d,x0e,x0f,x0g,x0h,x0i,x0j,x0k,Int.reduceEq,Int.reduceLT,Int.reduceLE,Int.reduceToNat,Int.cast_ofNat_Int,List.reduceReplicate]
        refine onIf'_intro (appOk_one rfl rfl (by simp) (by omega) (by simp [maxLen]; omega)) ?_
        simp -implicitDefEqProofs only [vmp,↓vmd,Env.get,putD,argEnv,List.map,x00,x01,x02,x03,x04,x05,x06,x07,List.take,List.drop,x08,x09,x0a,x0b,List.isEmpty,↓reduceIte,reduceCtorEq,Nat.reduceEqDiff,Nat.reduceAdd,Nat.reduceLeDiff,x0c,Int.reduceNeg,Nat.reduceMul,Nat.reduceSub,x0d,x0e,x0f,x0g,x0h,x0i,x0j,x0k,Int.reduceEq,Int.reduceLT,Int.reduceLE,Int.reduceToNat,Int.cast_ofNat_Int,List.reduceReplicate]
        refine onBk_to (i + 1) [3] (by simp) rfl (by omega) hlt (by simp -implicitDefEqProofs only [next_at hlt (by omega), hos, hs, kpp,Env.get,x01,x00,x02,x03,List.map,x08,x09,↓reduceIte,reduceCtorEq,Nat.reduceEqDiff,Nat.reduceLeDiff,Nat.reduceLT,Nat.reduceAdd,x0j,x0l,x0m,x0n,x0o,Int.cast_ofNat_Int,x0p,x0i,x07,x06,x0q,x0r,x0s,x0t,x0d,x0u]) (by simp -implicitDefEqProofs only [hos, hs, kpp,Env.get,x01,x00,x02,x03,List.map,x08,x09,↓reduceIte,reduceCtorEq,Nat.reduceEqDiff,Nat.reduceLeDiff,Nat.reduceLT,Nat.reduceAdd,x0j,x0l,x0m,x0n,x0o,Int.cast_ofNat_Int,x0p,x0i,x07,x06,x0q,x0r,x0s,x0t,x0d,x0u])
  · simp -implicitDefEqProofs only [h1, vmp,↓vmd,Env.get,putD,argEnv,List.map,x00,x01,x02,x03,x04,x05,x06,x07,List.take,List.drop,x08,x09,x0a,x0b,List.isEmpty,↓reduceIte,reduceCtorEq,Nat.reduceEqDiff,Nat.reduceAdd,Nat.reduceLeDiff,x0c,Int.reduceNeg,Nat.reduceMul,Nat.reduceSub,x0d,x0e,x0f,x0g,x0h,x0i,x0j,x0k,Int.reduceEq,Int.reduceLT,Int.reduceLE,Int.reduceToNat,Int.cast_ofNat_Int,List.reduceReplicate]
    unfold c54_0
    simp -implicitDefEqProofs only [vmp,↓vmd,Env.get,putD,argEnv,List.map,x00,x01,x02,x03,x04,x05,x06,x07,List.take,List.drop,x08,x09,x0a,x0b,List.isEmpty,↓reduceIte,reduceCtorEq,Nat.reduceEqDiff,Nat.reduceAdd,Nat.reduceLeDiff,x0c,Int.reduceNeg,Nat.reduceMul,Nat.reduceSub,x0d,x0e,x0f,x0g,x0h,x0i,x0j,x0k,Int.reduceEq,Int.reduceLT,Int.reduceLE,Int.reduceToNat,Int.cast_ofNat_Int,List.reduceReplicate]
    obtain rfl : i = ls.length := by omega
    rw [outF, List.take_of_length_le (by rw [stepF_len]; exact Nat.le_refl _)]
    exact gives_row rfl (by simp)
end Go.Proofs.Ytjgodncjlffhjaa.W
