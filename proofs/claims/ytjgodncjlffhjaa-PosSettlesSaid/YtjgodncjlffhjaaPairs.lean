/-
  The law AdjustPairs: what its function does, and what all that it calls does, for every input. No condition.
-/
import Derived.Test.YtjgodncjlffhjaaTypes
namespace Go.Proofs.Ytjgodncjlffhjaa.W
open Go Go.Vm Go.Proofs
set_option maxRecDepth 100000
set_option linter.unusedSimpArgs false
/-! typecase/typecaselaw32.great -/
def c24_0 : AC :=
  (.seq (.reg [⟨some 6, none, .mov (.c (.pure (.bool false)))⟩])
  .ret)
def c24_1 : AC :=
  (.seq (.seq (.reg [⟨some 44, none, .mov (.s 8)⟩,
    ⟨some 45, none, .fldA 3 (.s 4)⟩,
    ⟨some 46, none, .load false 1 (.s 45)⟩,
    ⟨some 47, none, .len (.s 46)⟩,
    ⟨some 48, none, .bin .lss (.s 44) (.s 47)⟩])
  (.cond (.s 48)
  .skip
  (.exit 2)))
  (.seq (.block 3
  (.seq (.reg [⟨some 51, none, .fldA 3 (.s 4)⟩,
    ⟨some 52, none, .load false 1 (.s 51)⟩,
    ⟨some 53, none, .mov (.s 8)⟩,
    ⟨some 54, none, .idxA 12 (.s 52) (.s 53)⟩,
    ⟨some 55, none, .fldA 0 (.s 54)⟩,
    ⟨some 56, none, .load false 1 (.s 55)⟩,
    ⟨some 57, none, .len (.s 56)⟩,
    ⟨some 58, none, .bin .gtr (.s 57) (.c (.pure (.int .i64 30)))⟩,
    ⟨some 59, none, .mov (.s 58)⟩,
    ⟨some 60, some (59, false), .fldA 3 (.s 4)⟩,
    ⟨some 61, some (59, false), .load false 1 (.s 60)⟩,
    ⟨some 62, some (59, false), .mov (.s 8)⟩,
    ⟨some 63, some (59, false), .idxA 12 (.s 61) (.s 62)⟩,
    ⟨some 64, some (59, false), .fldA 8 (.s 63)⟩,
    ⟨some 65, some (59, false), .load false 1 (.s 64)⟩,
    ⟨some 66, some (59, false), .len (.s 65)⟩,
    ⟨some 67, some (59, false), .bin .gtr (.s 66) (.c (.pure (.int .i64 30)))⟩,
    ⟨some 68, none, .pick (.s 59) (.c (.pure (.bool true))) (.s 67)⟩,
    ⟨some 69, none, .mov (.s 68)⟩,
    ⟨some 70, some (69, false), .fldA 3 (.s 4)⟩,
    ⟨some 71, some (69, false), .load false 1 (.s 70)⟩,
    ⟨some 72, some (69, false), .mov (.s 8)⟩,
    ⟨some 73, some (69, false), .idxA 12 (.s 71) (.s 72)⟩,
    ⟨some 74, some (69, false), .fldA 7 (.s 73)⟩,
    ⟨some 75, some (69, false), .load false 1 (.s 74)⟩,
    ⟨some 76, some (69, false), .len (.s 75)⟩,
    ⟨some 77, some (69, false), .bin .gtr (.s 76) (.c (.pure (.int .i64 30)))⟩,
    ⟨some 78, none, .pick (.s 69) (.c (.pure (.bool true))) (.s 77)⟩])
  (.cond (.s 78)
  (.seq (.reg [⟨some 6, none, .mov (.c (.pure (.bool true)))⟩])
  .ret)
  .skip)))
  (.reg [⟨some 49, none, .mov (.s 8)⟩,
    ⟨some 50, none, .bin .add (.s 49) (.c (.pure (.int .i64 1)))⟩,
    ⟨some 8, none, .mov (.s 50)⟩])))
def c24_2 : AC :=
  (.seq (.seq (.reg [⟨some 8, none, .mov (.c (.pure (.int .i64 0)))⟩])
  (.block 2
  (.loop c24_1)))
  c24_0)
def c24_3 : AC :=
  (.seq (.seq (.reg [⟨some 30, none, .mov (.s 7)⟩,
    ⟨some 31, none, .fldA 5 (.s 3)⟩,
    ⟨some 32, none, .load false 1 (.s 31)⟩,
    ⟨some 33, none, .len (.s 32)⟩,
    ⟨some 34, none, .bin .lss (.s 30) (.s 33)⟩])
  (.cond (.s 34)
  .skip
  (.exit 0)))
  (.seq (.block 1
  (.seq (.reg [⟨some 37, none, .fldA 5 (.s 3)⟩,
    ⟨some 38, none, .load false 1 (.s 37)⟩,
    ⟨some 39, none, .mov (.s 7)⟩,
    ⟨some 40, none, .idxA 1 (.s 38) (.s 39)⟩,
    ⟨some 41, none, .load false 1 (.s 40)⟩,
    ⟨some 42, none, .len (.s 41)⟩,
    ⟨some 43, none, .bin .gtr (.s 42) (.c (.pure (.int .i64 60)))⟩])
  (.cond (.s 43)
  (.seq (.reg [⟨some 6, none, .mov (.c (.pure (.bool true)))⟩])
  .ret)
  .skip)))
  (.reg [⟨some 35, none, .mov (.s 7)⟩,
    ⟨some 36, none, .bin .add (.s 35) (.c (.pure (.int .i64 1)))⟩,
    ⟨some 7, none, .mov (.s 36)⟩])))
def c24 : AC :=
  (.seq (.reg [⟨some 3, none, .box (.s 0)⟩,
    ⟨some 4, none, .box (.s 1)⟩,
    ⟨some 6, none, .mov (.c (.pure (.bool false)))⟩])
  (.seq (.seq (.reg [⟨some 9, none, .fldA 1 (.s 3)⟩,
    ⟨some 10, none, .load false 1 (.s 9)⟩,
    ⟨some 11, none, .len (.s 10)⟩,
    ⟨some 12, none, .bin .gtr (.s 11) (.c (.pure (.int .i64 60)))⟩,
    ⟨some 13, none, .mov (.s 12)⟩,
    ⟨some 14, some (13, false), .fldA 5 (.s 3)⟩,
    ⟨some 15, some (13, false), .load false 1 (.s 14)⟩,
    ⟨some 16, some (13, false), .len (.s 15)⟩,
    ⟨some 17, some (13, false), .bin .gtr (.s 16) (.c (.pure (.int .i64 6)))⟩,
    ⟨some 18, none, .pick (.s 13) (.c (.pure (.bool true))) (.s 17)⟩,
    ⟨some 19, none, .mov (.s 18)⟩,
    ⟨some 20, some (19, false), .fldA 3 (.s 4)⟩,
    ⟨some 21, some (19, false), .load false 1 (.s 20)⟩,
    ⟨some 22, some (19, false), .len (.s 21)⟩,
    ⟨some 23, some (19, false), .bin .gtr (.s 22) (.c (.pure (.int .i64 6)))⟩,
    ⟨some 24, none, .pick (.s 19) (.c (.pure (.bool true))) (.s 23)⟩,
    ⟨some 25, none, .mov (.s 24)⟩,
    ⟨some 26, some (25, false), .mov (.s 2)⟩,
    ⟨some 27, some (25, false), .len (.s 26)⟩,
    ⟨some 28, some (25, false), .bin .gtr (.s 27) (.c (.pure (.int .i64 30)))⟩,
    ⟨some 29, none, .pick (.s 25) (.c (.pure (.bool true))) (.s 28)⟩])
  (.cond (.s 29)
  (.seq (.reg [⟨some 6, none, .mov (.c (.pure (.bool true)))⟩])
  .ret)
  .skip))
  (.seq (.seq (.reg [⟨some 7, none, .mov (.c (.pure (.int .i64 0)))⟩])
  (.block 0
  (.loop c24_3)))
  c24_2)))
theorem k24 : (Try.f24.body.bind fun c => cCode Try.prog Try.f24.ntmps RCs c) = some c24 := by kernel_rfl
theorem h24 : (Try.f24.name == "runtime.NumGoroutine") = false := by kernel_rfl
theorem r24 : resC Try.prog Try.f24.results.toList = some [.t 6] := by kernel_rfl
theorem a24 {args : List S} {H : Heap} {K : S → Heap → Prop} (hn : args.length ≤ 79) (h : aWx Try.prog H.length c24 (PostX [.t 6] K) (argEnv 0 args) H) : CallA Try.prog 24 args H K :=
  callA_of_x mixed Try.func24 h24 k24 r24 (by rw [Try.ntmps24]; exact hn) h
theorem q24 {vs ds : List V} (hn : vs.length ≤ 79) (h : aWx Try.prog 0 c24 (PostX [.t 6] (Gives ds)) (argEnv 0 (vs.map .pure)) []) : FnQ Try.prog 24 vs ds :=
  fnQ_of_call (a24 (by simpa using hn) h)
/-! typecase/adjust.Pair -/
def c25_0 : AC :=
  (.seq (.reg [⟨some 43, none, .build [(.pure (.int .i64 0)), (.pure (.int .i64 0)), (.pure (.int .i64 0))] []⟩,
    ⟨some 44, none, .build [(.pure (.int .i64 0)), (.pure (.int .i64 0)), (.pure (.int .i64 0))] []⟩,
    ⟨none, none, .store 3 (.s 6) (.s 43)⟩,
    ⟨none, none, .store 3 (.s 7) (.s 44)⟩,
    ⟨some 8, none, .mov (.c (.pure (.bool false)))⟩])
  .ret)
def c25_1 : AC :=
  (.reg [⟨some 42, none, .bin .add (.s 16) (.c (.pure (.int .i64 1)))⟩,
    ⟨some 16, none, .mov (.s 42)⟩])
def c25_2 : AC :=
  (.seq (.reg [⟨some 24, none, .bin .lss (.s 23) (.s 22)⟩])
  (.seq (.cond (.s 24)
  .skip
  (.exit 2))
  (.seq (.block 3
  (.seq (.reg [⟨some 25, none, .idxA 8 (.s 21) (.s 23)⟩,
    ⟨some 26, none, .load true 8 (.s 25)⟩,
    ⟨some 12, none, .box (.c (.pure (.agg [(.int .i64 0), (.int .i64 0), (.int .i64 0), (.int .i64 0), (.int .i64 0), (.int .i64 0), (.int .i64 0), (.int .i64 0)])))⟩,
    ⟨none, none, .store 8 (.s 12) (.s 26)⟩])
  (.seq (.reg [⟨some 27, none, .fldA 0 (.s 12)⟩,
    ⟨some 28, none, .load false 1 (.s 27)⟩,
    ⟨some 29, none, .mov (.s 1)⟩,
    ⟨some 30, none, .bin .eql (.s 28) (.s 29)⟩,
    ⟨some 31, none, .mov (.s 30)⟩,
    ⟨some 32, some (31, true), .fldA 1 (.s 12)⟩,
    ⟨some 33, some (31, true), .load false 1 (.s 32)⟩,
    ⟨some 34, some (31, true), .mov (.s 2)⟩,
    ⟨some 35, some (31, true), .bin .eql (.s 33) (.s 34)⟩,
    ⟨some 36, none, .pick (.s 31) (.s 35) (.c (.pure (.bool false)))⟩])
  (.cond (.s 36)
  (.seq (.regs [⟨some 37, none, .fldA 2 (.s 12)⟩,
    ⟨some 38, none, .load true 3 (.s 37)⟩,
    ⟨some 39, none, .fldA 5 (.s 12)⟩,
    ⟨some 40, none, .load true 3 (.s 39)⟩]
    ⟨none, none, .store 3 (.s 6) (.s 38)⟩
    [⟨some 40, none, .load true 3 (.s 39)⟩]
    [⟨none, none, .store 3 (.s 7) (.s 40)⟩,
    ⟨some 8, none, .mov (.c (.pure (.bool true)))⟩])
  .ret)
  .skip))))
  (.reg [⟨some 41, none, .bin .add (.s 23) (.c (.pure (.int .i64 1)))⟩,
    ⟨some 23, none, .mov (.s 41)⟩]))))
def c25_3 : AC :=
  (.seq (.reg [⟨some 17, none, .bin .lss (.s 16) (.s 15)⟩])
  (.seq (.cond (.s 17)
  .skip
  (.exit 0))
  (.seq (.block 1
  (.seq (.reg [⟨some 18, none, .idxA 12 (.s 14) (.s 16)⟩,
    ⟨some 19, none, .load true 12 (.s 18)⟩,
    ⟨some 10, none, .box (.c (.agg [.empty, .empty, .empty, .empty, .empty, .empty, .empty, .empty, .empty, .empty, .empty, .empty]))⟩,
    ⟨none, none, .store 12 (.s 10) (.s 19)⟩])
  (.seq (.reg [⟨some 20, none, .fldA 8 (.s 10)⟩,
    ⟨some 21, none, .load false 1 (.s 20)⟩,
    ⟨some 22, none, .len (.s 21)⟩,
    ⟨some 23, none, .mov (.c (.pure (.int .i64 0)))⟩])
  (.block 2
  (.loop c25_2)))))
  c25_1)))
def c25 : AC :=
  (.seq (.reg [⟨some 3, none, .box (.s 0)⟩,
    ⟨some 6, none, .box (.c (.pure (.agg [(.int .i64 0), (.int .i64 0), (.int .i64 0)])))⟩,
    ⟨some 7, none, .box (.c (.pure (.agg [(.int .i64 0), (.int .i64 0), (.int .i64 0)])))⟩,
    ⟨some 8, none, .mov (.c (.pure (.bool false)))⟩])
  (.seq (.seq (.reg [⟨some 13, none, .fldA 3 (.s 3)⟩,
    ⟨some 14, none, .load false 1 (.s 13)⟩,
    ⟨some 15, none, .len (.s 14)⟩,
    ⟨some 16, none, .mov (.c (.pure (.int .i64 0)))⟩])
  (.block 0
  (.loop c25_3)))
  c25_0))
theorem k25 : (Try.f25.body.bind fun c => cCode Try.prog Try.f25.ntmps RCs c) = some c25 := by kernel_rfl
theorem h25 : (Try.f25.name == "runtime.NumGoroutine") = false := by kernel_rfl
theorem r25 : resC Try.prog Try.f25.results.toList = some [.c 6 true 3, .c 7 true 3, .t 8] := by kernel_rfl
theorem a25 {args : List S} {H : Heap} {K : S → Heap → Prop} (hn : args.length ≤ 45) (h : aWx Try.prog H.length c25 (PostX [.c 6 true 3, .c 7 true 3, .t 8] K) (argEnv 0 args) H) : CallA Try.prog 25 args H K :=
  callA_of_x mixed Try.func25 h25 k25 r25 (by rw [Try.ntmps25]; exact hn) h
theorem q25 {vs ds : List V} (hn : vs.length ≤ 45) (h : aWx Try.prog 0 c25 (PostX [.c 6 true 3, .c 7 true 3, .t 8] (Gives ds)) (argEnv 0 (vs.map .pure)) []) : FnQ Try.prog 25 vs ds :=
  fnQ_of_call (a25 (by simpa using hn) h)
/-! typecase/typecaseref32.Pair -/
def c26_0 : AC :=
  (.seq (.reg [⟨some 57, none, .build [(.pure (.int .i64 0)), (.pure (.int .i64 0)), (.pure (.int .i64 0))] []⟩,
    ⟨some 58, none, .build [(.pure (.int .i64 0)), (.pure (.int .i64 0)), (.pure (.int .i64 0))] []⟩,
    ⟨none, none, .store 3 (.s 6) (.s 57)⟩,
    ⟨none, none, .store 3 (.s 7) (.s 58)⟩,
    ⟨some 8, none, .mov (.c (.pure (.bool false)))⟩])
  .ret)
def c26_1 : AC :=
  (.reg [⟨some 17, none, .mov (.s 9)⟩,
    ⟨some 18, none, .bin .add (.s 17) (.c (.pure (.int .i64 1)))⟩,
    ⟨some 9, none, .mov (.s 18)⟩])
def c26_2 : AC :=
  (.seq (.seq (.reg [⟨some 25, none, .mov (.s 11)⟩,
    ⟨some 26, none, .mov (.s 10)⟩,
    ⟨some 27, none, .len (.s 26)⟩,
    ⟨some 28, none, .bin .lss (.s 25) (.s 27)⟩])
  (.cond (.s 28)
  .skip
  (.exit 2)))
  (.seq (.block 3
  (.seq (.reg [⟨some 31, none, .mov (.s 10)⟩,
    ⟨some 32, none, .mov (.s 11)⟩,
    ⟨some 33, none, .idxA 8 (.s 31) (.s 32)⟩,
    ⟨some 34, none, .fldA 0 (.s 33)⟩,
    ⟨some 35, none, .load false 1 (.s 34)⟩,
    ⟨some 36, none, .mov (.s 1)⟩,
    ⟨some 37, none, .bin .eql (.s 35) (.s 36)⟩,
    ⟨some 38, none, .mov (.s 37)⟩,
    ⟨some 39, some (38, true), .mov (.s 10)⟩,
    ⟨some 40, some (38, true), .mov (.s 11)⟩,
    ⟨some 41, some (38, true), .idxA 8 (.s 39) (.s 40)⟩,
    ⟨some 42, some (38, true), .fldA 1 (.s 41)⟩,
    ⟨some 43, some (38, true), .load false 1 (.s 42)⟩,
    ⟨some 44, some (38, true), .mov (.s 2)⟩,
    ⟨some 45, some (38, true), .bin .eql (.s 43) (.s 44)⟩,
    ⟨some 46, none, .pick (.s 38) (.s 45) (.c (.pure (.bool false)))⟩])
  (.cond (.s 46)
  (.seq (.regs [⟨some 47, none, .mov (.s 10)⟩,
    ⟨some 48, none, .mov (.s 11)⟩,
    ⟨some 49, none, .idxA 8 (.s 47) (.s 48)⟩,
    ⟨some 50, none, .fldA 2 (.s 49)⟩,
    ⟨some 51, none, .load true 3 (.s 50)⟩,
    ⟨some 52, none, .mov (.s 10)⟩,
    ⟨some 53, none, .mov (.s 11)⟩,
    ⟨some 54, none, .idxA 8 (.s 52) (.s 53)⟩,
    ⟨some 55, none, .fldA 5 (.s 54)⟩,
    ⟨some 56, none, .load true 3 (.s 55)⟩]
    ⟨none, none, .store 3 (.s 6) (.s 51)⟩
    [⟨some 54, none, .idxA 8 (.s 52) (.s 53)⟩,
    ⟨some 56, none, .load true 3 (.s 55)⟩]
    [⟨none, none, .store 3 (.s 7) (.s 56)⟩,
    ⟨some 8, none, .mov (.c (.pure (.bool true)))⟩])
  .ret)
  .skip)))
  (.reg [⟨some 29, none, .mov (.s 11)⟩,
    ⟨some 30, none, .bin .add (.s 29) (.c (.pure (.int .i64 1)))⟩,
    ⟨some 11, none, .mov (.s 30)⟩])))
def c26_3 : AC :=
  (.seq (.seq (.reg [⟨some 12, none, .mov (.s 9)⟩,
    ⟨some 13, none, .fldA 3 (.s 3)⟩,
    ⟨some 14, none, .load false 1 (.s 13)⟩,
    ⟨some 15, none, .len (.s 14)⟩,
    ⟨some 16, none, .bin .lss (.s 12) (.s 15)⟩])
  (.cond (.s 16)
  .skip
  (.exit 0)))
  (.seq (.block 1
  (.seq (.reg [⟨some 19, none, .fldA 3 (.s 3)⟩,
    ⟨some 20, none, .load false 1 (.s 19)⟩,
    ⟨some 21, none, .mov (.s 9)⟩,
    ⟨some 22, none, .idxA 12 (.s 20) (.s 21)⟩,
    ⟨some 23, none, .fldA 8 (.s 22)⟩,
    ⟨some 24, none, .load false 1 (.s 23)⟩,
    ⟨some 10, none, .mov (.s 24)⟩])
  (.seq (.reg [⟨some 11, none, .mov (.c (.pure (.int .i64 0)))⟩])
  (.block 2
  (.loop c26_2)))))
  c26_1))
def c26 : AC :=
  (.seq (.reg [⟨some 3, none, .box (.s 0)⟩,
    ⟨some 6, none, .box (.c (.pure (.agg [(.int .i64 0), (.int .i64 0), (.int .i64 0)])))⟩,
    ⟨some 7, none, .box (.c (.pure (.agg [(.int .i64 0), (.int .i64 0), (.int .i64 0)])))⟩,
    ⟨some 8, none, .mov (.c (.pure (.bool false)))⟩])
  (.seq (.seq (.reg [⟨some 9, none, .mov (.c (.pure (.int .i64 0)))⟩])
  (.block 0
  (.loop c26_3)))
  c26_0))
theorem k26 : (Try.f26.body.bind fun c => cCode Try.prog Try.f26.ntmps RCs c) = some c26 := by kernel_rfl
theorem h26 : (Try.f26.name == "runtime.NumGoroutine") = false := by kernel_rfl
theorem r26 : resC Try.prog Try.f26.results.toList = some [.c 6 true 3, .c 7 true 3, .t 8] := by kernel_rfl
theorem a26 {args : List S} {H : Heap} {K : S → Heap → Prop} (hn : args.length ≤ 59) (h : aWx Try.prog H.length c26 (PostX [.c 6 true 3, .c 7 true 3, .t 8] K) (argEnv 0 args) H) : CallA Try.prog 26 args H K :=
  callA_of_x mixed Try.func26 h26 k26 r26 (by rw [Try.ntmps26]; exact hn) h
theorem q26 {vs ds : List V} (hn : vs.length ≤ 59) (h : aWx Try.prog 0 c26 (PostX [.c 6 true 3, .c 7 true 3, .t 8] (Gives ds)) (argEnv 0 (vs.map .pure)) []) : FnQ Try.prog 26 vs ds :=
  fnQ_of_call (a26 (by simpa using hn) h)
/-! typecase/typecaselaw32.AdjustPairs -/
def c4 : AC :=
  (.seq (.reg [⟨some 3, none, .box (.s 0)⟩,
    ⟨some 6, none, .mov (.c (.pure (.bool false)))⟩])
  (.seq (.seq (.reg [⟨some 13, none, .build [(.pure (.int .i64 0)), .empty, .empty, .empty, .empty, .empty] []⟩,
    ⟨some 14, none, .load true 4 (.s 3)⟩,
    ⟨some 15, none, .call 24 [(.s 13), (.s 14), (.c .empty)]⟩])
  (.cond (.s 15)
  (.seq (.reg [⟨some 6, none, .mov (.c (.pure (.bool true)))⟩])
  .ret)
  .skip))
  (.seq (.reg [⟨some 17, none, .load true 4 (.s 3)⟩,
    ⟨some 18, none, .mov (.s 1)⟩,
    ⟨some 19, none, .mov (.s 2)⟩,
    ⟨some 20, none, .call 25 [(.s 17), (.s 18), (.s 19)]⟩,
    ⟨some 16, none, .mov (.s 20)⟩,
    ⟨some 21, none, .ext 0 (.s 16)⟩,
    ⟨some 22, none, .ext 1 (.s 16)⟩,
    ⟨some 23, none, .ext 2 (.s 16)⟩,
    ⟨some 7, none, .box (.c (.pure (.agg [(.int .i64 0), (.int .i64 0), (.int .i64 0)])))⟩,
    ⟨some 8, none, .box (.c (.pure (.agg [(.int .i64 0), (.int .i64 0), (.int .i64 0)])))⟩,
    ⟨none, none, .store 3 (.s 7) (.s 21)⟩,
    ⟨none, none, .store 3 (.s 8) (.s 22)⟩,
    ⟨some 9, none, .mov (.s 23)⟩])
  (.seq (.reg [⟨some 25, none, .load true 4 (.s 3)⟩,
    ⟨some 26, none, .mov (.s 1)⟩,
    ⟨some 27, none, .mov (.s 2)⟩,
    ⟨some 28, none, .call 26 [(.s 25), (.s 26), (.s 27)]⟩,
    ⟨some 24, none, .mov (.s 28)⟩,
    ⟨some 29, none, .ext 0 (.s 24)⟩,
    ⟨some 30, none, .ext 1 (.s 24)⟩,
    ⟨some 31, none, .ext 2 (.s 24)⟩,
    ⟨some 10, none, .box (.c (.pure (.agg [(.int .i64 0), (.int .i64 0), (.int .i64 0)])))⟩,
    ⟨some 11, none, .box (.c (.pure (.agg [(.int .i64 0), (.int .i64 0), (.int .i64 0)])))⟩,
    ⟨none, none, .store 3 (.s 10) (.s 29)⟩,
    ⟨none, none, .store 3 (.s 11) (.s 30)⟩,
    ⟨some 12, none, .mov (.s 31)⟩])
  (.seq (.reg [⟨some 32, none, .load true 3 (.s 7)⟩,
    ⟨some 33, none, .load true 3 (.s 10)⟩,
    ⟨some 34, none, .eqv false [.i, .i, .i] (.s 32) (.s 33)⟩,
    ⟨some 35, none, .mov (.s 34)⟩,
    ⟨some 36, some (35, true), .load true 3 (.s 8)⟩,
    ⟨some 37, some (35, true), .load true 3 (.s 11)⟩,
    ⟨some 38, some (35, true), .eqv false [.i, .i, .i] (.s 36) (.s 37)⟩,
    ⟨some 39, none, .pick (.s 35) (.s 38) (.c (.pure (.bool false)))⟩,
    ⟨some 40, none, .mov (.s 39)⟩,
    ⟨some 41, some (40, true), .mov (.s 9)⟩,
    ⟨some 42, some (40, true), .mov (.s 12)⟩,
    ⟨some 43, some (40, true), .eqb false (.s 41) (.s 42)⟩,
    ⟨some 44, none, .pick (.s 40) (.s 43) (.c (.pure (.bool false)))⟩,
    ⟨some 6, none, .mov (.s 44)⟩])
  .ret)))))
theorem k4 : (Try.f4.body.bind fun c => cCode Try.prog Try.f4.ntmps RCs c) = some c4 := by kernel_rfl
theorem h4 : (Try.f4.name == "runtime.NumGoroutine") = false := by kernel_rfl
theorem r4 : resC Try.prog Try.f4.results.toList = some [.t 6] := by kernel_rfl
theorem a4 {args : List S} {H : Heap} {K : S → Heap → Prop} (hn : args.length ≤ 45) (h : aWx Try.prog H.length c4 (PostX [.t 6] K) (argEnv 0 args) H) : CallA Try.prog 4 args H K :=
  callA_of_x mixed Try.func4 h4 k4 r4 (by rw [Try.ntmps4]; exact hn) h
theorem q4 {vs ds : List V} (hn : vs.length ≤ 45) (h : aWx Try.prog 0 c4 (PostX [.t 6] (Gives ds)) (argEnv 0 (vs.map .pure)) []) : FnQ Try.prog 4 vs ds :=
  fnQ_of_call (a4 (by simpa using hn) h)

def findPr : List Pr → Int → Int → Option (Sp × Sp)
  | [], _, _ => none
  | p :: r, a, b => if p.a = a ∧ p.b = b then some (p.x, p.y) else findPr r a b
def findSub : List Sub → Int → Int → Option (Sp × Sp)
  | [], _, _ => none
  | s :: r, a, b => match findPr s.pairs a b with
    | some q => some q
    | none => findSub r a b
def zero3 : Sp := ⟨0, 0, 0⟩
def pairF (o : Option (Sp × Sp)) : List V := match o with
  | some q => [sp q.1, sp q.2, .bool true]
  | none => [sp zero3, sp zero3, .bool false]
theorem pair_q (k : Lk) (a b : Int) : FnQ Try.prog 25 [lk k, I a, I b] (pairF (findSub k.subs a b)) := by
  refine q25 (by simp) ?_
  unfold c25
  simp -implicitDefEqProofs only [*, vmp,↓vmd,Env.get,putD,argEnv,List.map,x00,x01,x02,x03,x04,x05,x06,x07,List.take,List.drop,x08,x09,x0a,x0b,List.isEmpty,↓reduceIte,reduceCtorEq,Nat.reduceEqDiff,Nat.reduceAdd,Nat.reduceLeDiff,x0c,Int.reduceNeg,Nat.reduceMul,Nat.reduceSub,x0d,x0e,x0f,x0g,x0h,x0i,x0j,x0k,Int.reduceEq,Int.reduceLT,Int.reduceLE,Int.reduceToNat,Int.cast_ofNat_Int,List.reduceReplicate]
  refine onIf_intro fun hlen => ?_
  simp -implicitDefEqProofs only [*, vmp,↓vmd,Env.get,putD,argEnv,List.map,x00,x01,x02,x03,x04,x05,x06,x07,List.take,List.drop,x08,x09,x0a,x0b,List.isEmpty,↓reduceIte,reduceCtorEq,Nat.reduceEqDiff,Nat.reduceAdd,Nat.reduceLeDiff,x0c,Int.reduceNeg,Nat.reduceMul,Nat.reduceSub,x0d,x0e,x0f,x0g,x0h,x0i,x0j,x0k,Int.reduceEq,Int.reduceLT,Int.reduceLE,Int.reduceToNat,Int.cast_ofNat_Int,List.reduceReplicate]
  refine loop_at (T := Nat) (fun i => [(16, .pure (I i)), (15, .pure (I k.subs.length)), (14, .pure (.sl (k.subs.map sub))), (1, .pure (I a)), (2, .pure (I b)), (6, .ptr 0 0 0), (7, .ptr 1 0 0)])
    (fun _ => [⟨[.pure (sp zero3)], 3, .live⟩, ⟨[.pure (sp zero3)], 3, .live⟩]) (fun i => i ≤ k.subs.length ∧ findSub (k.subs.drop i) a b = findSub k.subs a b) (fun i => k.subs.length - i)
    0 [1, 2] (by simp) rfl ⟨by simp, by simp⟩ (by simp -implicitDefEqProofs only [kpp,Env.get,x01,x00,x02,x03,List.map,x08,x09,↓reduceIte,reduceCtorEq,Nat.reduceEqDiff,Nat.reduceLeDiff,Nat.reduceLT,Nat.reduceAdd,x0j,x0l,x0m,x0n,x0o,Int.cast_ofNat_Int,x0p,x0i,x07,x06,x0q,x0r,x0s,x0t,x0d,x0u]) (by simp -implicitDefEqProofs only [zero3, kpp,Env.get,x01,x00,x02,x03,List.map,x08,x09,↓reduceIte,reduceCtorEq,Nat.reduceEqDiff,Nat.reduceLeDiff,Nat.reduceLT,Nat.reduceAdd,x0j,x0l,x0m,x0n,x0o,Int.cast_ofNat_Int,x0p,x0i,x07,x06,x0q,x0r,x0s,x0t,x0d,x0u]) ?_
  rintro i ⟨hi, hr⟩
  unfold c25_3
  simp -implicitDefEqProofs only [vmp,↓vmd,Env.get,putD,argEnv,List.map,x00,x01,x02,x03,x04,x05,x06,x07,List.take,List.drop,x08,x09,x0a,x0b,List.isEmpty,↓reduceIte,reduceCtorEq,Nat.reduceEqDiff,Nat.reduceAdd,Nat.reduceLeDiff,x0c,Int.reduceNeg,Nat.reduceMul,Nat.reduceSub,x0d,x0e,x0f,x0g,x0h,x0i,x0j,x0k,Int.reduceEq,Int.reduceLT,Int.reduceLE,Int.reduceToNat,Int.cast_ofNat_Int,List.reduceReplicate]
  refine onB_dec (fun h1 => ?_) (fun h1 => ?_)
  · have hlt : i < k.subs.length := by omega
    rw [drop_at hlt] at hr
    simp -implicitDefEqProofs only [map_at hlt, Int.natCast_nonneg, *, vmp,↓vmd,Env.get,putD,argEnv,List.map,x00,x01,x02,x03,x04,x05,x06,x07,List.take,List.drop,x08,x09,x0a,x0b,List.isEmpty,↓reduceIte,reduceCtorEq,Nat.reduceEqDiff,Nat.reduceAdd,Nat.reduceLeDiff,x0c,Int.reduceNeg,Nat.reduceMul,Nat.reduceSub,x0d,x0e,x0f,x0g,x0h,x0i,x0j,x0k,Int.reduceEq,Int.reduceLT,Int.reduceLE,Int.reduceToNat,Int.cast_ofNat_Int,List.reduceReplicate]
    refine onIf_intro fun hl2 => ?_
    simp -implicitDefEqProofs only [vmp,↓vmd,Env.get,putD,argEnv,List.map,x00,x01,x02,x03,x04,x05,x06,x07,List.take,List.drop,x08,x09,x0a,x0b,List.isEmpty,↓reduceIte,reduceCtorEq,Nat.reduceEqDiff,Nat.reduceAdd,Nat.reduceLeDiff,x0c,Int.reduceNeg,Nat.reduceMul,Nat.reduceSub,x0d,x0e,x0f,x0g,x0h,x0i,x0j,x0k,Int.reduceEq,Int.reduceLT,Int.reduceLE,Int.reduceToNat,Int.cast_ofNat_Int,List.reduceReplicate]
    refine loop_at (T := Nat) (fun j => [(23, .pure (I j)), (22, .pure (I k.subs[i].pairs.length)), (21, .pure (.sl (k.subs[i].pairs.map pr))), (16, .pure (I i)), (15, .pure (I k.subs.length)), (14, .pure (.sl (k.subs.map sub))), (1, .pure (I a)), (2, .pure (I b)), (6, .ptr 0 0 0), (7, .ptr 1 0 0)])
      (fun _ => [⟨[.pure (sp zero3)], 3, .live⟩, ⟨[.pure (sp zero3)], 3, .live⟩]) (fun j => j ≤ k.subs[i].pairs.length ∧ findPr (k.subs[i].pairs.drop j) a b = findPr k.subs[i].pairs a b) (fun j => k.subs[i].pairs.length - j)
      0 [0, 1] (by simp) rfl ⟨by simp, by simp⟩ (by simp -implicitDefEqProofs only [kpp,Env.get,x01,x00,x02,x03,List.map,x08,x09,↓reduceIte,reduceCtorEq,Nat.reduceEqDiff,Nat.reduceLeDiff,Nat.reduceLT,Nat.reduceAdd,x0j,x0l,x0m,x0n,x0o,Int.cast_ofNat_Int,x0p,x0i,x07,x06,x0q,x0r,x0s,x0t,x0d,x0u]) (by simp -implicitDefEqProofs only [kpp,Env.get,x01,x00,x02,x03,List.map,x08,x09,↓reduceIte,reduceCtorEq,Nat.reduceEqDiff,Nat.reduceLeDiff,Nat.reduceLT,Nat.reduceAdd,x0j,x0l,x0m,x0n,x0o,Int.cast_ofNat_Int,x0p,x0i,x07,x06,x0q,x0r,x0s,x0t,x0d,x0u]) ?_
    rintro j ⟨hj, hq⟩
    unfold c25_2
    simp -implicitDefEqProofs only [vmp,↓vmd,Env.get,putD,argEnv,List.map,x00,x01,x02,x03,x04,x05,x06,x07,List.take,List.drop,x08,x09,x0a,x0b,List.isEmpty,↓reduceIte,reduceCtorEq,Nat.reduceEqDiff,Nat.reduceAdd,Nat.reduceLeDiff,x0c,Int.reduceNeg,Nat.reduceMul,Nat.reduceSub,x0d,x0e,x0f,x0g,x0h,x0i,x0j,x0k,Int.reduceEq,Int.reduceLT,Int.reduceLE,Int.reduceToNat,Int.cast_ofNat_Int,List.reduceReplicate]
    refine onB_dec (fun h2 => ?_) (fun h2 => ?_)
    · have hlt2 : j < k.subs[i].pairs.length := by omega
      rw [drop_at hlt2] at hq
      simp -implicitDefEqProofs only [h2, map_at hlt2, Int.natCast_nonneg, vmp,↓vmd,Env.get,putD,argEnv,List.map,x00,x01,x02,x03,x04,x05,x06,x07,List.take,List.drop,x08,x09,x0a,x0b,List.isEmpty,↓reduceIte,reduceCtorEq,Nat.reduceEqDiff,Nat.reduceAdd,Nat.reduceLeDiff,x0c,Int.reduceNeg,Nat.reduceMul,Nat.reduceSub,x0d,x0e,x0f,x0g,x0h,x0i,x0j,x0k,Int.reduceEq,Int.reduceLT,Int.reduceLE,Int.reduceToNat,Int.cast_ofNat_Int,List.reduceReplicate]
      refine onB_dec (fun h3 => ?_) (fun h3 => ?_)
      · simp -implicitDefEqProofs only [h3, vmp,↓vmd,Env.get,putD,argEnv,List.map,x00,x01,x02,x03,x04,x05,x06,x07,List.take,List.drop,x08,x09,x0a,x0b,List.isEmpty,↓reduceIte,reduceCtorEq,Nat.reduceEqDiff,Nat.reduceAdd,Nat.reduceLeDiff,x0c,Int.reduceNeg,Nat.reduceMul,Nat.reduceSub,x0d,x0e,x0f,x0g,x0h,x0i,x0j,x0k,Int.reduceEq,Int.reduceLT,Int.reduceLE,Int.reduceToNat,Int.cast_ofNat_Int,List.reduceReplicate]
        refine onB_dec (fun h4 => ?_) (fun h4 => ?_)
        · simp -implicitDefEqProofs only [h4, vmp,↓vmd,Env.get,putD,argEnv,List.map,x00,x01,x02,x03,x04,x05,x06,x07,List.take,List.drop,x08,x09,x0a,x0b,List.isEmpty,↓reduceIte,reduceCtorEq,Nat.reduceEqDiff,Nat.reduceAdd,Nat.reduceLeDiff,x0c,Int.reduceNeg,Nat.reduceMul,Nat.reduceSub,x0d,x0e,x0f,x0g,x0h,x0i,x0j,x0k,Int.reduceEq,Int.reduceLT,Int.reduceLE,Int.reduceToNat,Int.cast_ofNat_Int,List.reduceReplicate]
          rw [← hr, findSub, ← hq, findPr, if_pos ⟨h3, h4⟩]
          exact gives_tup rfl (by simp)
        · simp -implicitDefEqProofs only [h4, vmp,↓vmd,Env.get,putD,argEnv,List.map,x00,x01,x02,x03,x04,x05,x06,x07,List.take,List.drop,x08,x09,x0a,x0b,List.isEmpty,↓reduceIte,reduceCtorEq,Nat.reduceEqDiff,Nat.reduceAdd,Nat.reduceLeDiff,x0c,Int.reduceNeg,Nat.reduceMul,Nat.reduceSub,x0d,x0e,x0f,x0g,x0h,x0i,x0j,x0k,Int.reduceEq,Int.reduceLT,Int.reduceLE,Int.reduceToNat,Int.cast_ofNat_Int,List.reduceReplicate]
          refine onBk_to (j + 1) [0, 1] (by simp) rfl (by omega) ⟨hlt2, by rw [← hq, findPr, if_neg (by simp [h4])]⟩ (by simp -implicitDefEqProofs only [next_at hlt2 hl2, kpp,Env.get,x01,x00,x02,x03,List.map,x08,x09,↓reduceIte,reduceCtorEq,Nat.reduceEqDiff,Nat.reduceLeDiff,Nat.reduceLT,Nat.reduceAdd,x0j,x0l,x0m,x0n,x0o,Int.cast_ofNat_Int,x0p,x0i,x07,x06,x0q,x0r,x0s,x0t,x0d,x0u]) (by simp -implicitDefEqProofs only [kpp,Env.get,x01,x00,x02,x03,List.map,x08,x09,↓reduceIte,reduceCtorEq,Nat.reduceEqDiff,Nat.reduceLeDiff,Nat.reduceLT,Nat.reduceAdd,x0j,x0l,x0m,x0n,x0o,Int.cast_ofNat_Int,x0p,x0i,x07,x06,x0q,x0r,x0s,x0t,x0d,x0u])
      · simp -implicitDefEqProofs only [h3, vmp,↓vmd,Env.get,putD,argEnv,List.map,x00,x01,x02,x03,x04,x05,x06,x07,List.take,List.drop,x08,x09,x0a,x0b,List.isEmpty,↓reduceIte,reduceCtorEq,Nat.reduceEqDiff,Nat.reduceAdd,Nat.reduceLeDiff,x0c,Int.reduceNeg,Nat.reduceMul,Nat.reduceSub,x0d,x0e,x0f,x0g,x0h,x0i,x0j,x0k,Int.reduceEq,Int.reduceLT,Int.reduceLE,Int.reduceToNat,Int.cast_ofNat_Int,List.reduceReplicate]
        refine onBk_to (j + 1) [0, 1] (by simp) rfl (by omega) ⟨hlt2, by rw [← hq, findPr, if_neg (by simp [h3])]⟩ (by simp -implicitDefEqProofs only [next_at hlt2 hl2, kpp,Env.get,x01,x00,x02,x03,List.map,x08,x09,↓reduceIte,reduceCtorEq,Nat.reduceEqDiff,Nat.reduceLeDiff,Nat.reduceLT,Nat.reduceAdd,x0j,x0l,x0m,x0n,x0o,Int.cast_ofNat_Int,x0p,x0i,x07,x06,x0q,x0r,x0s,x0t,x0d,x0u]) (by simp -implicitDefEqProofs only [kpp,Env.get,x01,x00,x02,x03,List.map,x08,x09,↓reduceIte,reduceCtorEq,Nat.reduceEqDiff,Nat.reduceLeDiff,Nat.reduceLT,Nat.reduceAdd,x0j,x0l,x0m,x0n,x0o,Int.cast_ofNat_Int,x0p,x0i,x07,x06,x0q,x0r,x0s,x0t,x0d,x0u])
    · simp -implicitDefEqProofs only [h2, vmp,↓vmd,Env.get,putD,argEnv,List.map,x00,x01,x02,x03,x04,x05,x06,x07,List.take,List.drop,x08,x09,x0a,x0b,List.isEmpty,↓reduceIte,reduceCtorEq,Nat.reduceEqDiff,Nat.reduceAdd,Nat.reduceLeDiff,x0c,Int.reduceNeg,Nat.reduceMul,Nat.reduceSub,x0d,x0e,x0f,x0g,x0h,x0i,x0j,x0k,Int.reduceEq,Int.reduceLT,Int.reduceLE,Int.reduceToNat,Int.cast_ofNat_Int,List.reduceReplicate]
      unfold c25_1
      simp -implicitDefEqProofs only [vmp,↓vmd,Env.get,putD,argEnv,List.map,x00,x01,x02,x03,x04,x05,x06,x07,List.take,List.drop,x08,x09,x0a,x0b,List.isEmpty,↓reduceIte,reduceCtorEq,Nat.reduceEqDiff,Nat.reduceAdd,Nat.reduceLeDiff,x0c,Int.reduceNeg,Nat.reduceMul,Nat.reduceSub,x0d,x0e,x0f,x0g,x0h,x0i,x0j,x0k,Int.reduceEq,Int.reduceLT,Int.reduceLE,Int.reduceToNat,Int.cast_ofNat_Int,List.reduceReplicate]
      rw [List.drop_of_length_le (by omega)] at hq
      refine onBk_to (i + 1) [0, 1] (by simp) rfl (by omega) ⟨hlt, by rw [← hr, findSub, ← hq]; rfl⟩ (by simp -implicitDefEqProofs only [next_at hlt hlen, kpp,Env.get,x01,x00,x02,x03,List.map,x08,x09,↓reduceIte,reduceCtorEq,Nat.reduceEqDiff,Nat.reduceLeDiff,Nat.reduceLT,Nat.reduceAdd,x0j,x0l,x0m,x0n,x0o,Int.cast_ofNat_Int,x0p,x0i,x07,x06,x0q,x0r,x0s,x0t,x0d,x0u]) (by simp -implicitDefEqProofs only [kpp,Env.get,x01,x00,x02,x03,List.map,x08,x09,↓reduceIte,reduceCtorEq,Nat.reduceEqDiff,Nat.reduceLeDiff,Nat.reduceLT,Nat.reduceAdd,x0j,x0l,x0m,x0n,x0o,Int.cast_ofNat_Int,x0p,x0i,x07,x06,x0q,x0r,x0s,x0t,x0d,x0u])
  · simp -implicitDefEqProofs only [*, vmp,↓vmd,Env.get,putD,argEnv,List.map,x00,x01,x02,x03,x04,x05,x06,x07,List.take,List.drop,x08,x09,x0a,x0b,List.isEmpty,↓reduceIte,reduceCtorEq,Nat.reduceEqDiff,Nat.reduceAdd,Nat.reduceLeDiff,x0c,Int.reduceNeg,Nat.reduceMul,Nat.reduceSub,x0d,x0e,x0f,x0g,x0h,x0i,x0j,x0k,Int.reduceEq,Int.reduceLT,Int.reduceLE,Int.reduceToNat,Int.cast_ofNat_Int,List.reduceReplicate]
    unfold c25_0
    simp -implicitDefEqProofs only [*, vmp,↓vmd,Env.get,putD,argEnv,List.map,x00,x01,x02,x03,x04,x05,x06,x07,List.take,List.drop,x08,x09,x0a,x0b,List.isEmpty,↓reduceIte,reduceCtorEq,Nat.reduceEqDiff,Nat.reduceAdd,Nat.reduceLeDiff,x0c,Int.reduceNeg,Nat.reduceMul,Nat.reduceSub,x0d,x0e,x0f,x0g,x0h,x0i,x0j,x0k,Int.reduceEq,Int.reduceLT,Int.reduceLE,Int.reduceToNat,Int.cast_ofNat_Int,List.reduceReplicate]
    rw [List.drop_of_length_le (by omega)] at hr
    rw [← hr]
    exact gives_tup rfl (by simp)
theorem rpair_q (k : Lk) (a b : Int) : FnQ Try.prog 26 [lk k, I a, I b] (pairF (findSub k.subs a b)) := by
  refine q26 (by simp) ?_
  unfold c26
  simp -implicitDefEqProofs only [*, vmp,↓vmd,Env.get,putD,argEnv,List.map,x00,x01,x02,x03,x04,x05,x06,x07,List.take,List.drop,x08,x09,x0a,x0b,List.isEmpty,↓reduceIte,reduceCtorEq,Nat.reduceEqDiff,Nat.reduceAdd,Nat.reduceLeDiff,x0c,Int.reduceNeg,Nat.reduceMul,Nat.reduceSub,x0d,x0e,x0f,x0g,x0h,x0i,x0j,x0k,Int.reduceEq,Int.reduceLT,Int.reduceLE,Int.reduceToNat,Int.cast_ofNat_Int,List.reduceReplicate]
  refine loop_at (T := Nat) (fun i => [(9, .pure (I i)), (3, .ptr 0 0 0), (1, .pure (I a)), (2, .pure (I b)), (6, .ptr 1 0 0), (7, .ptr 2 0 0)])
    (fun _ => [⟨[.pure (lk k)], 4, .live⟩, ⟨[.pure (sp zero3)], 3, .live⟩, ⟨[.pure (sp zero3)], 3, .live⟩]) (fun i => i ≤ k.subs.length ∧ findSub (k.subs.drop i) a b = findSub k.subs a b) (fun i => k.subs.length - i)
    0 [0, 1, 2] (by simp) rfl ⟨by simp, by simp⟩ (by simp -implicitDefEqProofs only [kpp,Env.get,x01,x00,x02,x03,List.map,x08,x09,↓reduceIte,reduceCtorEq,Nat.reduceEqDiff,Nat.reduceLeDiff,Nat.reduceLT,Nat.reduceAdd,x0j,x0l,x0m,x0n,x0o,Int.cast_ofNat_Int,x0p,x0i,x07,x06,x0q,x0r,x0s,x0t,x0d,x0u]) (by simp -implicitDefEqProofs only [zero3, kpp,Env.get,x01,x00,x02,x03,List.map,x08,x09,↓reduceIte,reduceCtorEq,Nat.reduceEqDiff,Nat.reduceLeDiff,Nat.reduceLT,Nat.reduceAdd,x0j,x0l,x0m,x0n,x0o,Int.cast_ofNat_Int,x0p,x0i,x07,x06,x0q,x0r,x0s,x0t,x0d,x0u]) ?_
  rintro i ⟨hi, hr⟩
  unfold c26_3
  simp -implicitDefEqProofs only [vmp,↓vmd,Env.get,putD,argEnv,List.map,x00,x01,x02,x03,x04,x05,x06,x07,List.take,List.drop,x08,x09,x0a,x0b,List.isEmpty,↓reduceIte,reduceCtorEq,Nat.reduceEqDiff,Nat.reduceAdd,Nat.reduceLeDiff,x0c,Int.reduceNeg,Nat.reduceMul,Nat.reduceSub,x0d,x0e,x0f,x0g,x0h,x0i,x0j,x0k,Int.reduceEq,Int.reduceLT,Int.reduceLE,Int.reduceToNat,Int.cast_ofNat_Int,List.reduceReplicate]
  refine onIf_intro fun hlen => ?_
  simp -implicitDefEqProofs only [vmp,↓vmd,Env.get,putD,argEnv,List.map,x00,x01,x02,x03,x04,x05,x06,x07,List.take,List.drop,x08,x09,x0a,x0b,List.isEmpty,↓reduceIte,reduceCtorEq,Nat.reduceEqDiff,Nat.reduceAdd,Nat.reduceLeDiff,x0c,Int.reduceNeg,Nat.reduceMul,Nat.reduceSub,x0d,x0e,x0f,x0g,x0h,x0i,x0j,x0k,Int.reduceEq,Int.reduceLT,Int.reduceLE,Int.reduceToNat,Int.cast_ofNat_Int,List.reduceReplicate]
  refine onB_dec (fun h1 => ?_) (fun h1 => ?_)
  · have hlt : i < k.subs.length := by omega
    have hlen' : k.subs.length ≤ 9223372036854775807 := by omega
    rw [drop_at hlt] at hr
    simp -implicitDefEqProofs only [h1, map_at hlt, Int.natCast_nonneg, vmp,↓vmd,Env.get,putD,argEnv,List.map,x00,x01,x02,x03,x04,x05,x06,x07,List.take,List.drop,x08,x09,x0a,x0b,List.isEmpty,↓reduceIte,reduceCtorEq,Nat.reduceEqDiff,Nat.reduceAdd,Nat.reduceLeDiff,x0c,Int.reduceNeg,Nat.reduceMul,Nat.reduceSub,x0d,x0e,x0f,x0g,x0h,x0i,x0j,x0k,Int.reduceEq,Int.reduceLT,Int.reduceLE,Int.reduceToNat,Int.cast_ofNat_Int,List.reduceReplicate]
    refine loop_at (T := Nat) (fun j => [(11, .pure (I j)), (10, .pure (.sl (k.subs[i].pairs.map pr))), (9, .pure (I i)), (3, .ptr 0 0 0), (1, .pure (I a)), (2, .pure (I b)), (6, .ptr 1 0 0), (7, .ptr 2 0 0)])
      (fun _ => [⟨[.pure (lk k)], 4, .live⟩, ⟨[.pure (sp zero3)], 3, .live⟩, ⟨[.pure (sp zero3)], 3, .live⟩]) (fun j => j ≤ k.subs[i].pairs.length ∧ findPr (k.subs[i].pairs.drop j) a b = findPr k.subs[i].pairs a b) (fun j => k.subs[i].pairs.length - j)
      0 [0, 1, 2] (by simp) rfl ⟨by simp, by simp⟩ (by simp -implicitDefEqProofs only [kpp,Env.get,x01,x00,x02,x03,List.map,x08,x09,↓reduceIte,reduceCtorEq,Nat.reduceEqDiff,Nat.reduceLeDiff,Nat.reduceLT,Nat.reduceAdd,x0j,x0l,x0m,x0n,x0o,Int.cast_ofNat_Int,x0p,x0i,x07,x06,x0q,x0r,x0s,x0t,x0d,x0u]) (by simp -implicitDefEqProofs only [kpp,Env.get,x01,x00,x02,x03,List.map,x08,x09,↓reduceIte,reduceCtorEq,Nat.reduceEqDiff,Nat.reduceLeDiff,Nat.reduceLT,Nat.reduceAdd,x0j,x0l,x0m,x0n,x0o,Int.cast_ofNat_Int,x0p,x0i,x07,x06,x0q,x0r,x0s,x0t,x0d,x0u]) ?_
    rintro j ⟨hj, hq⟩
    unfold c26_2
    simp -implicitDefEqProofs only [vmp,↓vmd,Env.get,putD,argEnv,List.map,x00,x01,x02,x03,x04,x05,x06,x07,List.take,List.drop,x08,x09,x0a,x0b,List.isEmpty,↓reduceIte,reduceCtorEq,Nat.reduceEqDiff,Nat.reduceAdd,Nat.reduceLeDiff,x0c,Int.reduceNeg,Nat.reduceMul,Nat.reduceSub,x0d,x0e,x0f,x0g,x0h,x0i,x0j,x0k,Int.reduceEq,Int.reduceLT,Int.reduceLE,Int.reduceToNat,Int.cast_ofNat_Int,List.reduceReplicate]
    refine onIf_intro fun hl2 => ?_
    simp -implicitDefEqProofs only [vmp,↓vmd,Env.get,putD,argEnv,List.map,x00,x01,x02,x03,x04,x05,x06,x07,List.take,List.drop,x08,x09,x0a,x0b,List.isEmpty,↓reduceIte,reduceCtorEq,Nat.reduceEqDiff,Nat.reduceAdd,Nat.reduceLeDiff,x0c,Int.reduceNeg,Nat.reduceMul,Nat.reduceSub,x0d,x0e,x0f,x0g,x0h,x0i,x0j,x0k,Int.reduceEq,Int.reduceLT,Int.reduceLE,Int.reduceToNat,Int.cast_ofNat_Int,List.reduceReplicate]
    refine onB_dec (fun h2 => ?_) (fun h2 => ?_)
    · have hlt2 : j < k.subs[i].pairs.length := by omega
      have hl2' : k.subs[i].pairs.length ≤ 9223372036854775807 := by omega
      rw [drop_at hlt2] at hq
      simp -implicitDefEqProofs only [h2, map_at hlt2, Int.natCast_nonneg, vmp,↓vmd,Env.get,putD,argEnv,List.map,x00,x01,x02,x03,x04,x05,x06,x07,List.take,List.drop,x08,x09,x0a,x0b,List.isEmpty,↓reduceIte,reduceCtorEq,Nat.reduceEqDiff,Nat.reduceAdd,Nat.reduceLeDiff,x0c,Int.reduceNeg,Nat.reduceMul,Nat.reduceSub,x0d,x0e,x0f,x0g,x0h,x0i,x0j,x0k,Int.reduceEq,Int.reduceLT,Int.reduceLE,Int.reduceToNat,Int.cast_ofNat_Int,List.reduceReplicate]
      refine onB_dec (fun h3 => ?_) (fun h3 => ?_)
      · simp -implicitDefEqProofs only [h3, map_at hlt2, Int.natCast_nonneg, vmp,↓vmd,Env.get,putD,argEnv,List.map,x00,x01,x02,x03,x04,x05,x06,x07,List.take,List.drop,x08,x09,x0a,x0b,List.isEmpty,↓reduceIte,reduceCtorEq,Nat.reduceEqDiff,Nat.reduceAdd,Nat.reduceLeDiff,x0c,Int.reduceNeg,Nat.reduceMul,Nat.reduceSub,x0d,x0e,x0f,x0g,x0h,x0i,x0j,x0k,Int.reduceEq,Int.reduceLT,Int.reduceLE,Int.reduceToNat,Int.cast_ofNat_Int,List.reduceReplicate]
        refine onB_dec (fun h4 => ?_) (fun h4 => ?_)
        · simp -implicitDefEqProofs only [h4, map_at hlt2, Int.natCast_nonneg, vmp,↓vmd,Env.get,putD,argEnv,List.map,x00,x01,x02,x03,x04,x05,x06,x07,List.take,List.drop,x08,x09,x0a,x0b,List.isEmpty,↓reduceIte,reduceCtorEq,Nat.reduceEqDiff,Nat.reduceAdd,Nat.reduceLeDiff,x0c,Int.reduceNeg,Nat.reduceMul,Nat.reduceSub,x0d,x0e,x0f,x0g,x0h,x0i,x0j,x0k,Int.reduceEq,Int.reduceLT,Int.reduceLE,Int.reduceToNat,Int.cast_ofNat_Int,List.reduceReplicate]
          rw [← hr, findSub, ← hq, findPr, if_pos ⟨h3, h4⟩]
          exact gives_tup rfl (by simp)
        · simp -implicitDefEqProofs only [h4, vmp,↓vmd,Env.get,putD,argEnv,List.map,x00,x01,x02,x03,x04,x05,x06,x07,List.take,List.drop,x08,x09,x0a,x0b,List.isEmpty,↓reduceIte,reduceCtorEq,Nat.reduceEqDiff,Nat.reduceAdd,Nat.reduceLeDiff,x0c,Int.reduceNeg,Nat.reduceMul,Nat.reduceSub,x0d,x0e,x0f,x0g,x0h,x0i,x0j,x0k,Int.reduceEq,Int.reduceLT,Int.reduceLE,Int.reduceToNat,Int.cast_ofNat_Int,List.reduceReplicate]
          refine onBk_to (j + 1) [0, 1, 2] (by simp) rfl (by omega) ⟨hlt2, by rw [← hq, findPr, if_neg (by simp [h4])]⟩ (by simp -implicitDefEqProofs only [next_at hlt2 hl2', kpp,Env.get,x01,x00,x02,x03,List.map,x08,x09,↓reduceIte,reduceCtorEq,Nat.reduceEqDiff,Nat.reduceLeDiff,Nat.reduceLT,Nat.reduceAdd,x0j,x0l,x0m,x0n,x0o,Int.cast_ofNat_Int,x0p,x0i,x07,x06,x0q,x0r,x0s,x0t,x0d,x0u]) (by simp -implicitDefEqProofs only [kpp,Env.get,x01,x00,x02,x03,List.map,x08,x09,↓reduceIte,reduceCtorEq,Nat.reduceEqDiff,Nat.reduceLeDiff,Nat.reduceLT,Nat.reduceAdd,x0j,x0l,x0m,x0n,x0o,Int.cast_ofNat_Int,x0p,x0i,x07,x06,x0q,x0r,x0s,x0t,x0d,x0u])
      · simp -implicitDefEqProofs only [h3, vmp,↓vmd,Env.get,putD,argEnv,List.map,x00,x01,x02,x03,x04,x05,x06,x07,List.take,List.drop,x08,x09,x0a,x0b,List.isEmpty,↓reduceIte,reduceCtorEq,Nat.reduceEqDiff,Nat.reduceAdd,Nat.reduceLeDiff,x0c,Int.reduceNeg,Nat.reduceMul,Nat.reduceSub,x0d,x0e,x0f,x0g,x0h,x0i,x0j,x0k,Int.reduceEq,Int.reduceLT,Int.reduceLE,Int.reduceToNat,Int.cast_ofNat_Int,List.reduceReplicate]
        refine onBk_to (j + 1) [0, 1, 2] (by simp) rfl (by omega) ⟨hlt2, by rw [← hq, findPr, if_neg (by simp [h3])]⟩ (by simp -implicitDefEqProofs only [next_at hlt2 hl2', kpp,Env.get,x01,x00,x02,x03,List.map,x08,x09,↓reduceIte,reduceCtorEq,Nat.reduceEqDiff,Nat.reduceLeDiff,Nat.reduceLT,Nat.reduceAdd,x0j,x0l,x0m,x0n,x0o,Int.cast_ofNat_Int,x0p,x0i,x07,x06,x0q,x0r,x0s,x0t,x0d,x0u]) (by simp -implicitDefEqProofs only [kpp,Env.get,x01,x00,x02,x03,List.map,x08,x09,↓reduceIte,reduceCtorEq,Nat.reduceEqDiff,Nat.reduceLeDiff,Nat.reduceLT,Nat.reduceAdd,x0j,x0l,x0m,x0n,x0o,Int.cast_ofNat_Int,x0p,x0i,x07,x06,x0q,x0r,x0s,x0t,x0d,x0u])
    · simp -implicitDefEqProofs only [h2, vmp,↓vmd,Env.get,putD,argEnv,List.map,x00,x01,x02,x03,x04,x05,x06,x07,List.take,List.drop,x08,x09,x0a,x0b,List.isEmpty,↓reduceIte,reduceCtorEq,Nat.reduceEqDiff,Nat.reduceAdd,Nat.reduceLeDiff,x0c,Int.reduceNeg,Nat.reduceMul,Nat.reduceSub,x0d,x0e,x0f,x0g,x0h,x0i,x0j,x0k,Int.reduceEq,Int.reduceLT,Int.reduceLE,Int.reduceToNat,Int.cast_ofNat_Int,List.reduceReplicate]
      unfold c26_1
      simp -implicitDefEqProofs only [vmp,↓vmd,Env.get,putD,argEnv,List.map,x00,x01,x02,x03,x04,x05,x06,x07,List.take,List.drop,x08,x09,x0a,x0b,List.isEmpty,↓reduceIte,reduceCtorEq,Nat.reduceEqDiff,Nat.reduceAdd,Nat.reduceLeDiff,x0c,Int.reduceNeg,Nat.reduceMul,Nat.reduceSub,x0d,x0e,x0f,x0g,x0h,x0i,x0j,x0k,Int.reduceEq,Int.reduceLT,Int.reduceLE,Int.reduceToNat,Int.cast_ofNat_Int,List.reduceReplicate]
      rw [List.drop_of_length_le (by omega)] at hq
      refine onBk_to (i + 1) [0, 1, 2] (by simp) rfl (by omega) ⟨hlt, by rw [← hr, findSub, ← hq]; rfl⟩ (by simp -implicitDefEqProofs only [next_at hlt hlen', kpp,Env.get,x01,x00,x02,x03,List.map,x08,x09,↓reduceIte,reduceCtorEq,Nat.reduceEqDiff,Nat.reduceLeDiff,Nat.reduceLT,Nat.reduceAdd,x0j,x0l,x0m,x0n,x0o,Int.cast_ofNat_Int,x0p,x0i,x07,x06,x0q,x0r,x0s,x0t,x0d,x0u]) (by simp -implicitDefEqProofs only [kpp,Env.get,x01,x00,x02,x03,List.map,x08,x09,↓reduceIte,reduceCtorEq,Nat.reduceEqDiff,Nat.reduceLeDiff,Nat.reduceLT,Nat.reduceAdd,x0j,x0l,x0m,x0n,x0o,Int.cast_ofNat_Int,x0p,x0i,x07,x06,x0q,x0r,x0s,x0t,x0d,x0u])
  · simp -implicitDefEqProofs only [h1, vmp,↓vmd,Env.get,putD,argEnv,List.map,x00,x01,x02,x03,x04,x05,x06,x07,List.take,List.drop,x08,x09,x0a,x0b,List.isEmpty,↓reduceIte,reduceCtorEq,Nat.reduceEqDiff,Nat.reduceAdd,Nat.reduceLeDiff,x0c,Int.reduceNeg,Nat.reduceMul,Nat.reduceSub,x0d,x0e,x0f,x0g,x0h,x0i,x0j,x0k,Int.reduceEq,Int.reduceLT,Int.reduceLE,Int.reduceToNat,Int.cast_ofNat_Int,List.reduceReplicate]
    unfold c26_0
    simp -implicitDefEqProofs only [vmp,↓vmd,Env.get,putD,argEnv,List.map,x00,x01,x02,x03,x04,x05,x06,x07,List.take,List.drop,x08,x09,x0a,x0b,List.isEmpty,↓reduceIte,reduceCtorEq,Nat.reduceEqDiff,Nat.reduceAdd,Nat.reduceLeDiff,x0c,Int.reduceNeg,Nat.reduceMul,Nat.reduceSub,x0d,x0e,x0f,x0g,x0h,x0i,x0j,x0k,Int.reduceEq,Int.reduceLT,Int.reduceLE,Int.reduceToNat,Int.cast_ofNat_Int,List.reduceReplicate]
    rw [List.drop_of_length_le (by omega)] at hr
    rw [← hr]
    exact gives_tup rfl (by simp)
def wideSub (s : Sub) : Bool := decide (30 < s.cover.length) || decide (30 < s.pairs.length) || decide (30 < s.values.length)
def wideSet (s : List Int) : Bool := decide (60 < s.length)
def greatA (f : Fo) (k : Lk) (n : Nat) : Bool :=
  decide (60 < f.gs.length) || decide (6 < f.sets.length) || decide (6 < k.subs.length) || decide (30 < n) || f.sets.any wideSet || k.subs.any wideSub
theorem greatA_not {f : Fo} {k : Lk} {n : Nat} (h : greatA f k n = false) : n ≤ 30 ∧ k.subs.length ≤ 6 ∧ ∀ s ∈ k.subs, s.cover.length ≤ 30 ∧ s.pairs.length ≤ 30 ∧ s.values.length ≤ 30 := by
  simp only [greatA, Bool.or_eq_false_iff, decide_eq_false_iff_not, List.any_eq_false] at h
  refine ⟨by omega, by omega, fun s hs => ?_⟩
  have := h.2 s hs
  simp only [wideSub, Bool.or_eq_true, not_or, decide_eq_true_eq] at this
  omega
theorem greatA_q (f : Fo) (k : Lk) (ls : List V) : FnQ Try.prog 24 [fo f, lk k, .sl ls] [.bool (greatA f k ls.length)] := by
  refine q24 (by simp) ?_
  unfold c24
  simp -implicitDefEqProofs only [*, vmp,↓vmd,Env.get,putD,argEnv,List.map,x00,x01,x02,x03,x04,x05,x06,x07,List.take,List.drop,x08,x09,x0a,x0b,List.isEmpty,↓reduceIte,reduceCtorEq,Nat.reduceEqDiff,Nat.reduceAdd,Nat.reduceLeDiff,x0c,Int.reduceNeg,Nat.reduceMul,Nat.reduceSub,x0d,x0e,x0f,x0g,x0h,x0i,x0j,x0k,Int.reduceEq,Int.reduceLT,Int.reduceLE,Int.reduceToNat,Int.cast_ofNat_Int,List.reduceReplicate]
  refine onIf_intro fun _ => ?_
  simp -implicitDefEqProofs only [*, vmp,↓vmd,Env.get,putD,argEnv,List.map,x00,x01,x02,x03,x04,x05,x06,x07,List.take,List.drop,x08,x09,x0a,x0b,List.isEmpty,↓reduceIte,reduceCtorEq,Nat.reduceEqDiff,Nat.reduceAdd,Nat.reduceLeDiff,x0c,Int.reduceNeg,Nat.reduceMul,Nat.reduceSub,x0d,x0e,x0f,x0g,x0h,x0i,x0j,x0k,Int.reduceEq,Int.reduceLT,Int.reduceLE,Int.reduceToNat,Int.cast_ofNat_Int,List.reduceReplicate]
  refine onB_dec (fun h1 => ?_) (fun h1 => ?_)
  · simp -implicitDefEqProofs only [h1, vmp,↓vmd,Env.get,putD,argEnv,List.map,x00,x01,x02,x03,x04,x05,x06,x07,List.take,List.drop,x08,x09,x0a,x0b,List.isEmpty,↓reduceIte,reduceCtorEq,Nat.reduceEqDiff,Nat.reduceAdd,Nat.reduceLeDiff,x0c,Int.reduceNeg,Nat.reduceMul,Nat.reduceSub,x0d,x0e,x0f,x0g,x0h,x0i,x0j,x0k,Int.reduceEq,Int.reduceLT,Int.reduceLE,Int.reduceToNat,Int.cast_ofNat_Int,List.reduceReplicate]
    rw [show greatA f k ls.length = true by simp [greatA, show 60 < f.gs.length by omega]]
    exact gives_pure
  simp -implicitDefEqProofs only [h1, vmp,↓vmd,Env.get,putD,argEnv,List.map,x00,x01,x02,x03,x04,x05,x06,x07,List.take,List.drop,x08,x09,x0a,x0b,List.isEmpty,↓reduceIte,reduceCtorEq,Nat.reduceEqDiff,Nat.reduceAdd,Nat.reduceLeDiff,x0c,Int.reduceNeg,Nat.reduceMul,Nat.reduceSub,x0d,x0e,x0f,x0g,x0h,x0i,x0j,x0k,Int.reduceEq,Int.reduceLT,Int.reduceLE,Int.reduceToNat,Int.cast_ofNat_Int,List.reduceReplicate]
  refine onIf_intro fun _ => ?_
  simp -implicitDefEqProofs only [h1, vmp,↓vmd,Env.get,putD,argEnv,List.map,x00,x01,x02,x03,x04,x05,x06,x07,List.take,List.drop,x08,x09,x0a,x0b,List.isEmpty,↓reduceIte,reduceCtorEq,Nat.reduceEqDiff,Nat.reduceAdd,Nat.reduceLeDiff,x0c,Int.reduceNeg,Nat.reduceMul,Nat.reduceSub,x0d,x0e,x0f,x0g,x0h,x0i,x0j,x0k,Int.reduceEq,Int.reduceLT,Int.reduceLE,Int.reduceToNat,Int.cast_ofNat_Int,List.reduceReplicate]
  refine onB_dec (fun h2 => ?_) (fun h2 => ?_)
  · simp -implicitDefEqProofs only [h2, vmp,↓vmd,Env.get,putD,argEnv,List.map,x00,x01,x02,x03,x04,x05,x06,x07,List.take,List.drop,x08,x09,x0a,x0b,List.isEmpty,↓reduceIte,reduceCtorEq,Nat.reduceEqDiff,Nat.reduceAdd,Nat.reduceLeDiff,x0c,Int.reduceNeg,Nat.reduceMul,Nat.reduceSub,x0d,x0e,x0f,x0g,x0h,x0i,x0j,x0k,Int.reduceEq,Int.reduceLT,Int.reduceLE,Int.reduceToNat,Int.cast_ofNat_Int,List.reduceReplicate]
    rw [show greatA f k ls.length = true by simp [greatA, show 6 < f.sets.length by omega]]
    exact gives_pure
  simp -implicitDefEqProofs only [h2, vmp,↓vmd,Env.get,putD,argEnv,List.map,x00,x01,x02,x03,x04,x05,x06,x07,List.take,List.drop,x08,x09,x0a,x0b,List.isEmpty,↓reduceIte,reduceCtorEq,Nat.reduceEqDiff,Nat.reduceAdd,Nat.reduceLeDiff,x0c,Int.reduceNeg,Nat.reduceMul,Nat.reduceSub,x0d,x0e,x0f,x0g,x0h,x0i,x0j,x0k,Int.reduceEq,Int.reduceLT,Int.reduceLE,Int.reduceToNat,Int.cast_ofNat_Int,List.reduceReplicate]
  refine onIf_intro fun _ => ?_
  simp -implicitDefEqProofs only [h2, vmp,↓vmd,Env.get,putD,argEnv,List.map,x00,x01,x02,x03,x04,x05,x06,x07,List.take,List.drop,x08,x09,x0a,x0b,List.isEmpty,↓reduceIte,reduceCtorEq,Nat.reduceEqDiff,Nat.reduceAdd,Nat.reduceLeDiff,x0c,Int.reduceNeg,Nat.reduceMul,Nat.reduceSub,x0d,x0e,x0f,x0g,x0h,x0i,x0j,x0k,Int.reduceEq,Int.reduceLT,Int.reduceLE,Int.reduceToNat,Int.cast_ofNat_Int,List.reduceReplicate]
  refine onB_dec (fun h3 => ?_) (fun h3 => ?_)
  · simp -implicitDefEqProofs only [h3, vmp,↓vmd,Env.get,putD,argEnv,List.map,x00,x01,x02,x03,x04,x05,x06,x07,List.take,List.drop,x08,x09,x0a,x0b,List.isEmpty,↓reduceIte,reduceCtorEq,Nat.reduceEqDiff,Nat.reduceAdd,Nat.reduceLeDiff,x0c,Int.reduceNeg,Nat.reduceMul,Nat.reduceSub,x0d,x0e,x0f,x0g,x0h,x0i,x0j,x0k,Int.reduceEq,Int.reduceLT,Int.reduceLE,Int.reduceToNat,Int.cast_ofNat_Int,List.reduceReplicate]
    rw [show greatA f k ls.length = true by simp [greatA, show 6 < k.subs.length by omega]]
    exact gives_pure
  simp -implicitDefEqProofs only [h3, vmp,↓vmd,Env.get,putD,argEnv,List.map,x00,x01,x02,x03,x04,x05,x06,x07,List.take,List.drop,x08,x09,x0a,x0b,List.isEmpty,↓reduceIte,reduceCtorEq,Nat.reduceEqDiff,Nat.reduceAdd,Nat.reduceLeDiff,x0c,Int.reduceNeg,Nat.reduceMul,Nat.reduceSub,x0d,x0e,x0f,x0g,x0h,x0i,x0j,x0k,Int.reduceEq,Int.reduceLT,Int.reduceLE,Int.reduceToNat,Int.cast_ofNat_Int,List.reduceReplicate]
  refine onIf_intro fun _ => ?_
  simp -implicitDefEqProofs only [h3, vmp,↓vmd,Env.get,putD,argEnv,List.map,x00,x01,x02,x03,x04,x05,x06,x07,List.take,List.drop,x08,x09,x0a,x0b,List.isEmpty,↓reduceIte,reduceCtorEq,Nat.reduceEqDiff,Nat.reduceAdd,Nat.reduceLeDiff,x0c,Int.reduceNeg,Nat.reduceMul,Nat.reduceSub,x0d,x0e,x0f,x0g,x0h,x0i,x0j,x0k,Int.reduceEq,Int.reduceLT,Int.reduceLE,Int.reduceToNat,Int.cast_ofNat_Int,List.reduceReplicate]
  refine onB_dec (fun h4 => ?_) (fun h4 => ?_)
  · simp -implicitDefEqProofs only [h4, vmp,↓vmd,Env.get,putD,argEnv,List.map,x00,x01,x02,x03,x04,x05,x06,x07,List.take,List.drop,x08,x09,x0a,x0b,List.isEmpty,↓reduceIte,reduceCtorEq,Nat.reduceEqDiff,Nat.reduceAdd,Nat.reduceLeDiff,x0c,Int.reduceNeg,Nat.reduceMul,Nat.reduceSub,x0d,x0e,x0f,x0g,x0h,x0i,x0j,x0k,Int.reduceEq,Int.reduceLT,Int.reduceLE,Int.reduceToNat,Int.cast_ofNat_Int,List.reduceReplicate]
    rw [show greatA f k ls.length = true by simp [greatA, show 30 < ls.length by omega]]
    exact gives_pure
  simp -implicitDefEqProofs only [h4, vmp,↓vmd,Env.get,putD,argEnv,List.map,x00,x01,x02,x03,x04,x05,x06,x07,List.take,List.drop,x08,x09,x0a,x0b,List.isEmpty,↓reduceIte,reduceCtorEq,Nat.reduceEqDiff,Nat.reduceAdd,Nat.reduceLeDiff,x0c,Int.reduceNeg,Nat.reduceMul,Nat.reduceSub,x0d,x0e,x0f,x0g,x0h,x0i,x0j,x0k,Int.reduceEq,Int.reduceLT,Int.reduceLE,Int.reduceToNat,Int.cast_ofNat_Int,List.reduceReplicate]
  refine loop_at (T := Nat) (fun i => [(7, .pure (I i)), (3, .ptr 0 0 0), (4, .ptr 1 0 0)]) (fun _ => [⟨[.pure (fo f)], 6, .live⟩, ⟨[.pure (lk k)], 4, .live⟩]) (fun i => i ≤ f.sets.length ∧ (f.sets.drop i).any wideSet = f.sets.any wideSet) (fun i => f.sets.length - i)
    0 [0, 1] (by simp) rfl ⟨by simp, by simp⟩ (by simp -implicitDefEqProofs only [kpp,Env.get,x01,x00,x02,x03,List.map,x08,x09,↓reduceIte,reduceCtorEq,Nat.reduceEqDiff,Nat.reduceLeDiff,Nat.reduceLT,Nat.reduceAdd,x0j,x0l,x0m,x0n,x0o,Int.cast_ofNat_Int,x0p,x0i,x07,x06,x0q,x0r,x0s,x0t,x0d,x0u]) (by simp -implicitDefEqProofs only [kpp,Env.get,x01,x00,x02,x03,List.map,x08,x09,↓reduceIte,reduceCtorEq,Nat.reduceEqDiff,Nat.reduceLeDiff,Nat.reduceLT,Nat.reduceAdd,x0j,x0l,x0m,x0n,x0o,Int.cast_ofNat_Int,x0p,x0i,x07,x06,x0q,x0r,x0s,x0t,x0d,x0u]) ?_
  rintro i ⟨hi, hr⟩
  unfold c24_3
  simp -implicitDefEqProofs only [vmp,↓vmd,Env.get,putD,argEnv,List.map,x00,x01,x02,x03,x04,x05,x06,x07,List.take,List.drop,x08,x09,x0a,x0b,List.isEmpty,↓reduceIte,reduceCtorEq,Nat.reduceEqDiff,Nat.reduceAdd,Nat.reduceLeDiff,x0c,Int.reduceNeg,Nat.reduceMul,Nat.reduceSub,x0d,x0e,x0f,x0g,x0h,x0i,x0j,x0k,Int.reduceEq,Int.reduceLT,Int.reduceLE,Int.reduceToNat,Int.cast_ofNat_Int,List.reduceReplicate]
  refine onIf_intro fun _ => ?_
  simp -implicitDefEqProofs only [vmp,↓vmd,Env.get,putD,argEnv,List.map,x00,x01,x02,x03,x04,x05,x06,x07,List.take,List.drop,x08,x09,x0a,x0b,List.isEmpty,↓reduceIte,reduceCtorEq,Nat.reduceEqDiff,Nat.reduceAdd,Nat.reduceLeDiff,x0c,Int.reduceNeg,Nat.reduceMul,Nat.reduceSub,x0d,x0e,x0f,x0g,x0h,x0i,x0j,x0k,Int.reduceEq,Int.reduceLT,Int.reduceLE,Int.reduceToNat,Int.cast_ofNat_Int,List.reduceReplicate]
  refine onB_dec (fun h5 => ?_) (fun h5 => ?_)
  · have hlt : i < f.sets.length := by omega
    rw [drop_at hlt, List.any_cons] at hr
    simp -implicitDefEqProofs only [h5, map_at hlt, Int.natCast_nonneg, vmp,↓vmd,Env.get,putD,argEnv,List.map,x00,x01,x02,x03,x04,x05,x06,x07,List.take,List.drop,x08,x09,x0a,x0b,List.isEmpty,↓reduceIte,reduceCtorEq,Nat.reduceEqDiff,Nat.reduceAdd,Nat.reduceLeDiff,x0c,Int.reduceNeg,Nat.reduceMul,Nat.reduceSub,x0d,x0e,x0f,x0g,x0h,x0i,x0j,x0k,Int.reduceEq,Int.reduceLT,Int.reduceLE,Int.reduceToNat,Int.cast_ofNat_Int,List.reduceReplicate]
    refine onIf_intro fun _ => ?_
    simp -implicitDefEqProofs only [h5, vmp,↓vmd,Env.get,putD,argEnv,List.map,x00,x01,x02,x03,x04,x05,x06,x07,List.take,List.drop,x08,x09,x0a,x0b,List.isEmpty,↓reduceIte,reduceCtorEq,Nat.reduceEqDiff,Nat.reduceAdd,Nat.reduceLeDiff,x0c,Int.reduceNeg,Nat.reduceMul,Nat.reduceSub,x0d,x0e,x0f,x0g,x0h,x0i,x0j,x0k,Int.reduceEq,Int.reduceLT,Int.reduceLE,Int.reduceToNat,Int.cast_ofNat_Int,List.reduceReplicate]
    refine onB_dec (fun h6 => ?_) (fun h6 => ?_)
    · simp -implicitDefEqProofs only [h6, vmp,↓vmd,Env.get,putD,argEnv,List.map,x00,x01,x02,x03,x04,x05,x06,x07,List.take,List.drop,x08,x09,x0a,x0b,List.isEmpty,↓reduceIte,reduceCtorEq,Nat.reduceEqDiff,Nat.reduceAdd,Nat.reduceLeDiff,x0c,Int.reduceNeg,Nat.reduceMul,Nat.reduceSub,x0d,x0e,x0f,x0g,x0h,x0i,x0j,x0k,Int.reduceEq,Int.reduceLT,Int.reduceLE,Int.reduceToNat,Int.cast_ofNat_Int,List.reduceReplicate]
      rw [show greatA f k ls.length = true by rw [greatA, ← hr, show wideSet f.sets[i] = true by simp [wideSet]; omega]; simp]
      exact gives_pure
    · simp -implicitDefEqProofs only [h6, vmp,↓vmd,Env.get,putD,argEnv,List.map,x00,x01,x02,x03,x04,x05,x06,x07,List.take,List.drop,x08,x09,x0a,x0b,List.isEmpty,↓reduceIte,reduceCtorEq,Nat.reduceEqDiff,Nat.reduceAdd,Nat.reduceLeDiff,x0c,Int.reduceNeg,Nat.reduceMul,Nat.reduceSub,x0d,x0e,x0f,x0g,x0h,x0i,x0j,x0k,Int.reduceEq,Int.reduceLT,Int.reduceLE,Int.reduceToNat,Int.cast_ofNat_Int,List.reduceReplicate]
      refine onBk_to (i + 1) [0, 1] (by simp) rfl (by omega) ⟨hlt, by rw [← hr, show wideSet f.sets[i] = false by simp [wideSet]; omega, Bool.false_or]⟩ (by simp -implicitDefEqProofs only [next_at hlt (by omega), kpp,Env.get,x01,x00,x02,x03,List.map,x08,x09,↓reduceIte,reduceCtorEq,Nat.reduceEqDiff,Nat.reduceLeDiff,Nat.reduceLT,Nat.reduceAdd,x0j,x0l,x0m,x0n,x0o,Int.cast_ofNat_Int,x0p,x0i,x07,x06,x0q,x0r,x0s,x0t,x0d,x0u]) (by simp -implicitDefEqProofs only [kpp,Env.get,x01,x00,x02,x03,List.map,x08,x09,↓reduceIte,reduceCtorEq,Nat.reduceEqDiff,Nat.reduceLeDiff,Nat.reduceLT,Nat.reduceAdd,x0j,x0l,x0m,x0n,x0o,Int.cast_ofNat_Int,x0p,x0i,x07,x06,x0q,x0r,x0s,x0t,x0d,x0u])
  · simp -implicitDefEqProofs only [h5, vmp,↓vmd,Env.get,putD,argEnv,List.map,x00,x01,x02,x03,x04,x05,x06,x07,List.take,List.drop,x08,x09,x0a,x0b,List.isEmpty,↓reduceIte,reduceCtorEq,Nat.reduceEqDiff,Nat.reduceAdd,Nat.reduceLeDiff,x0c,Int.reduceNeg,Nat.reduceMul,Nat.reduceSub,x0d,x0e,x0f,x0g,x0h,x0i,x0j,x0k,Int.reduceEq,Int.reduceLT,Int.reduceLE,Int.reduceToNat,Int.cast_ofNat_Int,List.reduceReplicate]
    rw [List.drop_of_length_le (by omega)] at hr
    unfold c24_2
    simp -implicitDefEqProofs only [vmp,↓vmd,Env.get,putD,argEnv,List.map,x00,x01,x02,x03,x04,x05,x06,x07,List.take,List.drop,x08,x09,x0a,x0b,List.isEmpty,↓reduceIte,reduceCtorEq,Nat.reduceEqDiff,Nat.reduceAdd,Nat.reduceLeDiff,x0c,Int.reduceNeg,Nat.reduceMul,Nat.reduceSub,x0d,x0e,x0f,x0g,x0h,x0i,x0j,x0k,Int.reduceEq,Int.reduceLT,Int.reduceLE,Int.reduceToNat,Int.cast_ofNat_Int,List.reduceReplicate]
    refine loop_at (T := Nat) (fun j => [(8, .pure (I j)), (4, .ptr 0 0 0)]) (fun _ => [⟨[.pure (lk k)], 4, .live⟩]) (fun j => j ≤ k.subs.length ∧ (k.subs.drop j).any wideSub = k.subs.any wideSub) (fun j => k.subs.length - j)
      0 [1] (by simp) rfl ⟨by simp, by simp⟩ (by simp -implicitDefEqProofs only [kpp,Env.get,x01,x00,x02,x03,List.map,x08,x09,↓reduceIte,reduceCtorEq,Nat.reduceEqDiff,Nat.reduceLeDiff,Nat.reduceLT,Nat.reduceAdd,x0j,x0l,x0m,x0n,x0o,Int.cast_ofNat_Int,x0p,x0i,x07,x06,x0q,x0r,x0s,x0t,x0d,x0u]) (by simp -implicitDefEqProofs only [kpp,Env.get,x01,x00,x02,x03,List.map,x08,x09,↓reduceIte,reduceCtorEq,Nat.reduceEqDiff,Nat.reduceLeDiff,Nat.reduceLT,Nat.reduceAdd,x0j,x0l,x0m,x0n,x0o,Int.cast_ofNat_Int,x0p,x0i,x07,x06,x0q,x0r,x0s,x0t,x0d,x0u]) ?_
    rintro j ⟨hj, hq⟩
    unfold c24_1
    simp -implicitDefEqProofs only [vmp,↓vmd,Env.get,putD,argEnv,List.map,x00,x01,x02,x03,x04,x05,x06,x07,List.take,List.drop,x08,x09,x0a,x0b,List.isEmpty,↓reduceIte,reduceCtorEq,Nat.reduceEqDiff,Nat.reduceAdd,Nat.reduceLeDiff,x0c,Int.reduceNeg,Nat.reduceMul,Nat.reduceSub,x0d,x0e,x0f,x0g,x0h,x0i,x0j,x0k,Int.reduceEq,Int.reduceLT,Int.reduceLE,Int.reduceToNat,Int.cast_ofNat_Int,List.reduceReplicate]
    refine onIf_intro fun _ => ?_
    simp -implicitDefEqProofs only [vmp,↓vmd,Env.get,putD,argEnv,List.map,x00,x01,x02,x03,x04,x05,x06,x07,List.take,List.drop,x08,x09,x0a,x0b,List.isEmpty,↓reduceIte,reduceCtorEq,Nat.reduceEqDiff,Nat.reduceAdd,Nat.reduceLeDiff,x0c,Int.reduceNeg,Nat.reduceMul,Nat.reduceSub,x0d,x0e,x0f,x0g,x0h,x0i,x0j,x0k,Int.reduceEq,Int.reduceLT,Int.reduceLE,Int.reduceToNat,Int.cast_ofNat_Int,List.reduceReplicate]
    refine onB_dec (fun h7 => ?_) (fun h7 => ?_)
    · have hlt : j < k.subs.length := by omega
      rw [drop_at hlt, List.any_cons] at hq
      have yes : wideSub k.subs[j] = true → greatA f k ls.length = true := fun e => by rw [greatA, ← hq, e]; simp
      simp -implicitDefEqProofs only [h7, map_at hlt, Int.natCast_nonneg, vmp,↓vmd,Env.get,putD,argEnv,List.map,x00,x01,x02,x03,x04,x05,x06,x07,List.take,List.drop,x08,x09,x0a,x0b,List.isEmpty,↓reduceIte,reduceCtorEq,Nat.reduceEqDiff,Nat.reduceAdd,Nat.reduceLeDiff,x0c,Int.reduceNeg,Nat.reduceMul,Nat.reduceSub,x0d,x0e,x0f,x0g,x0h,x0i,x0j,x0k,Int.reduceEq,Int.reduceLT,Int.reduceLE,Int.reduceToNat,Int.cast_ofNat_Int,List.reduceReplicate]
      refine onIf_intro fun _ => ?_
      simp -implicitDefEqProofs only [h7, vmp,↓vmd,Env.get,putD,argEnv,List.map,x00,x01,x02,x03,x04,x05,x06,x07,List.take,List.drop,x08,x09,x0a,x0b,List.isEmpty,↓reduceIte,reduceCtorEq,Nat.reduceEqDiff,Nat.reduceAdd,Nat.reduceLeDiff,x0c,Int.reduceNeg,Nat.reduceMul,Nat.reduceSub,x0d,x0e,x0f,x0g,x0h,x0i,x0j,x0k,Int.reduceEq,Int.reduceLT,Int.reduceLE,Int.reduceToNat,Int.cast_ofNat_Int,List.reduceReplicate]
      refine onB_dec (fun w1 => ?_) (fun w1 => ?_)
      · simp -implicitDefEqProofs only [w1, vmp,↓vmd,Env.get,putD,argEnv,List.map,x00,x01,x02,x03,x04,x05,x06,x07,List.take,List.drop,x08,x09,x0a,x0b,List.isEmpty,↓reduceIte,reduceCtorEq,Nat.reduceEqDiff,Nat.reduceAdd,Nat.reduceLeDiff,x0c,Int.reduceNeg,Nat.reduceMul,Nat.reduceSub,x0d,x0e,x0f,x0g,x0h,x0i,x0j,x0k,Int.reduceEq,Int.reduceLT,Int.reduceLE,Int.reduceToNat,Int.cast_ofNat_Int,List.reduceReplicate]
        rw [yes (by simp [wideSub, show 30 < k.subs[j].cover.length by omega])]
        exact gives_pure
      simp -implicitDefEqProofs only [w1, map_at hlt, Int.natCast_nonneg, vmp,↓vmd,Env.get,putD,argEnv,List.map,x00,x01,x02,x03,x04,x05,x06,x07,List.take,List.drop,x08,x09,x0a,x0b,List.isEmpty,↓reduceIte,reduceCtorEq,Nat.reduceEqDiff,Nat.reduceAdd,Nat.reduceLeDiff,x0c,Int.reduceNeg,Nat.reduceMul,Nat.reduceSub,x0d,x0e,x0f,x0g,x0h,x0i,x0j,x0k,Int.reduceEq,Int.reduceLT,Int.reduceLE,Int.reduceToNat,Int.cast_ofNat_Int,List.reduceReplicate]
      refine onIf_intro fun _ => ?_
      simp -implicitDefEqProofs only [w1, vmp,↓vmd,Env.get,putD,argEnv,List.map,x00,x01,x02,x03,x04,x05,x06,x07,List.take,List.drop,x08,x09,x0a,x0b,List.isEmpty,↓reduceIte,reduceCtorEq,Nat.reduceEqDiff,Nat.reduceAdd,Nat.reduceLeDiff,x0c,Int.reduceNeg,Nat.reduceMul,Nat.reduceSub,x0d,x0e,x0f,x0g,x0h,x0i,x0j,x0k,Int.reduceEq,Int.reduceLT,Int.reduceLE,Int.reduceToNat,Int.cast_ofNat_Int,List.reduceReplicate]
      refine onB_dec (fun w2 => ?_) (fun w2 => ?_)
      · simp -implicitDefEqProofs only [w2, vmp,↓vmd,Env.get,putD,argEnv,List.map,x00,x01,x02,x03,x04,x05,x06,x07,List.take,List.drop,x08,x09,x0a,x0b,List.isEmpty,↓reduceIte,reduceCtorEq,Nat.reduceEqDiff,Nat.reduceAdd,Nat.reduceLeDiff,x0c,Int.reduceNeg,Nat.reduceMul,Nat.reduceSub,x0d,x0e,x0f,x0g,x0h,x0i,x0j,x0k,Int.reduceEq,Int.reduceLT,Int.reduceLE,Int.reduceToNat,Int.cast_ofNat_Int,List.reduceReplicate]
        rw [yes (by simp [wideSub, show 30 < k.subs[j].pairs.length by omega])]
        exact gives_pure
      simp -implicitDefEqProofs only [w2, map_at hlt, Int.natCast_nonneg, vmp,↓vmd,Env.get,putD,argEnv,List.map,x00,x01,x02,x03,x04,x05,x06,x07,List.take,List.drop,x08,x09,x0a,x0b,List.isEmpty,↓reduceIte,reduceCtorEq,Nat.reduceEqDiff,Nat.reduceAdd,Nat.reduceLeDiff,x0c,Int.reduceNeg,Nat.reduceMul,Nat.reduceSub,x0d,x0e,x0f,x0g,x0h,x0i,x0j,x0k,Int.reduceEq,Int.reduceLT,Int.reduceLE,Int.reduceToNat,Int.cast_ofNat_Int,List.reduceReplicate]
      refine onIf_intro fun _ => ?_
      simp -implicitDefEqProofs only [w2, vmp,↓vmd,Env.get,putD,argEnv,List.map,x00,x01,x02,x03,x04,x05,x06,x07,List.take,List.drop,x08,x09,x0a,x0b,List.isEmpty,↓reduceIte,reduceCtorEq,Nat.reduceEqDiff,Nat.reduceAdd,Nat.reduceLeDiff,x0c,Int.reduceNeg,Nat.reduceMul,Nat.reduceSub,x0d,x0e,x0f,x0g,x0h,x0i,x0j,x0k,Int.reduceEq,Int.reduceLT,Int.reduceLE,Int.reduceToNat,Int.cast_ofNat_Int,List.reduceReplicate]
      refine onB_dec (fun w3 => ?_) (fun w3 => ?_)
      · simp -implicitDefEqProofs only [w3, vmp,↓vmd,Env.get,putD,argEnv,List.map,x00,x01,x02,x03,x04,x05,x06,x07,List.take,List.drop,x08,x09,x0a,x0b,List.isEmpty,↓reduceIte,reduceCtorEq,Nat.reduceEqDiff,Nat.reduceAdd,Nat.reduceLeDiff,x0c,Int.reduceNeg,Nat.reduceMul,Nat.reduceSub,x0d,x0e,x0f,x0g,x0h,x0i,x0j,x0k,Int.reduceEq,Int.reduceLT,Int.reduceLE,Int.reduceToNat,Int.cast_ofNat_Int,List.reduceReplicate]
        rw [yes (by simp [wideSub, show 30 < k.subs[j].values.length by omega])]
        exact gives_pure
      · simp -implicitDefEqProofs only [w3, vmp,↓vmd,Env.get,putD,argEnv,List.map,x00,x01,x02,x03,x04,x05,x06,x07,List.take,List.drop,x08,x09,x0a,x0b,List.isEmpty,↓reduceIte,reduceCtorEq,Nat.reduceEqDiff,Nat.reduceAdd,Nat.reduceLeDiff,x0c,Int.reduceNeg,Nat.reduceMul,Nat.reduceSub,x0d,x0e,x0f,x0g,x0h,x0i,x0j,x0k,Int.reduceEq,Int.reduceLT,Int.reduceLE,Int.reduceToNat,Int.cast_ofNat_Int,List.reduceReplicate]
        refine onBk_to (j + 1) [0] (by simp) rfl (by omega) ⟨hlt, by rw [← hq, show wideSub k.subs[j] = false by simp [wideSub]; omega, Bool.false_or]⟩ (by simp -implicitDefEqProofs only [next_at hlt (by omega), kpp,Env.get,x01,x00,x02,x03,List.map,x08,x09,↓reduceIte,reduceCtorEq,Nat.reduceEqDiff,Nat.reduceLeDiff,Nat.reduceLT,Nat.reduceAdd,x0j,x0l,x0m,x0n,x0o,Int.cast_ofNat_Int,x0p,x0i,x07,x06,x0q,x0r,x0s,x0t,x0d,x0u]) (by simp -implicitDefEqProofs only [kpp,Env.get,x01,x00,x02,x03,List.map,x08,x09,↓reduceIte,reduceCtorEq,Nat.reduceEqDiff,Nat.reduceLeDiff,Nat.reduceLT,Nat.reduceAdd,x0j,x0l,x0m,x0n,x0o,Int.cast_ofNat_Int,x0p,x0i,x07,x06,x0q,x0r,x0s,x0t,x0d,x0u])
    · simp -implicitDefEqProofs only [h7, vmp,↓vmd,Env.get,putD,argEnv,List.map,x00,x01,x02,x03,x04,x05,x06,x07,List.take,List.drop,x08,x09,x0a,x0b,List.isEmpty,↓reduceIte,reduceCtorEq,Nat.reduceEqDiff,Nat.reduceAdd,Nat.reduceLeDiff,x0c,Int.reduceNeg,Nat.reduceMul,Nat.reduceSub,x0d,x0e,x0f,x0g,x0h,x0i,x0j,x0k,Int.reduceEq,Int.reduceLT,Int.reduceLE,Int.reduceToNat,Int.cast_ofNat_Int,List.reduceReplicate]
      unfold c24_0
      simp -implicitDefEqProofs only [vmp,↓vmd,Env.get,putD,argEnv,List.map,x00,x01,x02,x03,x04,x05,x06,x07,List.take,List.drop,x08,x09,x0a,x0b,List.isEmpty,↓reduceIte,reduceCtorEq,Nat.reduceEqDiff,Nat.reduceAdd,Nat.reduceLeDiff,x0c,Int.reduceNeg,Nat.reduceMul,Nat.reduceSub,x0d,x0e,x0f,x0g,x0h,x0i,x0j,x0k,Int.reduceEq,Int.reduceLT,Int.reduceLE,Int.reduceToNat,Int.cast_ofNat_Int,List.reduceReplicate]
      rw [List.drop_of_length_le (by omega)] at hq
      rw [show greatA f k ls.length = false by rw [greatA, ← hr, ← hq]; simp; omega]
      exact gives_pure
theorem ap_law (k : Lk) (a b : Int) : FnQ Try.prog 4 [lk k, I a, I b] [.bool true] := by
  refine q4 (by simp) ?_
  unfold c4
  simp -implicitDefEqProofs only [*, vmp,↓vmd,Env.get,putD,argEnv,List.map,x00,x01,x02,x03,x04,x05,x06,x07,List.take,List.drop,x08,x09,x0a,x0b,List.isEmpty,↓reduceIte,reduceCtorEq,Nat.reduceEqDiff,Nat.reduceAdd,Nat.reduceLeDiff,x0c,Int.reduceNeg,Nat.reduceMul,Nat.reduceSub,x0d,x0e,x0f,x0g,x0h,x0i,x0j,x0k,Int.reduceEq,Int.reduceLT,Int.reduceLE,Int.reduceToNat,Int.cast_ofNat_Int,List.reduceReplicate]
  refine onC_q (greatA_q ⟨I 0, [], .sl [], .sl [], .sl [], []⟩ k []) rfl ?_
  simp -implicitDefEqProofs only [*, vmp,↓vmd,Env.get,putD,argEnv,List.map,x00,x01,x02,x03,x04,x05,x06,x07,List.take,List.drop,x08,x09,x0a,x0b,List.isEmpty,↓reduceIte,reduceCtorEq,Nat.reduceEqDiff,Nat.reduceAdd,Nat.reduceLeDiff,x0c,Int.reduceNeg,Nat.reduceMul,Nat.reduceSub,x0d,x0e,x0f,x0g,x0h,x0i,x0j,x0k,Int.reduceEq,Int.reduceLT,Int.reduceLE,Int.reduceToNat,Int.cast_ofNat_Int,List.reduceReplicate]
  refine onB_intro (fun h => ?_) (fun h => ?_)
  · simp -implicitDefEqProofs only [*, vmp,↓vmd,Env.get,putD,argEnv,List.map,x00,x01,x02,x03,x04,x05,x06,x07,List.take,List.drop,x08,x09,x0a,x0b,List.isEmpty,↓reduceIte,reduceCtorEq,Nat.reduceEqDiff,Nat.reduceAdd,Nat.reduceLeDiff,x0c,Int.reduceNeg,Nat.reduceMul,Nat.reduceSub,x0d,x0e,x0f,x0g,x0h,x0i,x0j,x0k,Int.reduceEq,Int.reduceLT,Int.reduceLE,Int.reduceToNat,Int.cast_ofNat_Int,List.reduceReplicate]
    exact gives_pure
  have h1 := pair_q k a b
  have h2 := rpair_q k a b
  simp -implicitDefEqProofs only [h, vmp,↓vmd,Env.get,putD,argEnv,List.map,x00,x01,x02,x03,x04,x05,x06,x07,List.take,List.drop,x08,x09,x0a,x0b,List.isEmpty,↓reduceIte,reduceCtorEq,Nat.reduceEqDiff,Nat.reduceAdd,Nat.reduceLeDiff,x0c,Int.reduceNeg,Nat.reduceMul,Nat.reduceSub,x0d,x0e,x0f,x0g,x0h,x0i,x0j,x0k,Int.reduceEq,Int.reduceLT,Int.reduceLE,Int.reduceToNat,Int.cast_ofNat_Int,List.reduceReplicate]
  cases hc : findSub k.subs a b with
  | none =>
    rw [hc] at h1 h2
    have h1' : FnQ Try.prog 25 [lk k, I a, I b] [sp zero3, sp zero3, .bool false] := h1
    have h2' : FnQ Try.prog 26 [lk k, I a, I b] [sp zero3, sp zero3, .bool false] := h2
    refine onC_q h1' rfl ?_
    first | refine envO (by simp -implicitDefEqProofs only [vmp,↓vmd,Env.get,putD,argEnv,List.map,x00,x01,x02,x03,x04,x05,x06,x07,List.take,List.drop,x08,x09,x0a,x0b,List.isEmpty,↓reduceIte,reduceCtorEq,Nat.reduceEqDiff,Nat.reduceAdd,Nat.reduceLeDiff,x0c,Int.reduceNeg,Nat.reduceMul,Nat.reduceSub,x0d,x0e,x0f,x0g,x0h,x0i,x0j,x0k,Int.reduceEq,Int.reduceLT,Int.reduceLE,Int.reduceToNat,Int.cast_ofNat_Int,List.reduceReplicate]; rfl) ?_ | refine envQ (by simp -implicitDefEqProofs only [vmp,↓vmd,Env.get,putD,argEnv,List.map,x00,x01,x02,x03,x04,x05,x06,x07,List.take,List.drop,x08,x09,x0a,x0b,List.isEmpty,↓reduceIte,reduceCtorEq,Nat.reduceEqDiff,Nat.reduceAdd,Nat.reduceLeDiff,x0c,Int.reduceNeg,Nat.reduceMul,Nat.reduceSub,x0d,x0e,x0f,x0g,x0h,x0i,x0j,x0k,Int.reduceEq,Int.reduceLT,Int.reduceLE,Int.reduceToNat,Int.cast_ofNat_Int,List.reduceReplicate]; rfl) ?_
    simp -implicitDefEqProofs only [vmp,↓vmd,Env.get,putD,argEnv,List.map,x00,x01,x02,x03,x04,x05,x06,x07,List.take,List.drop,x08,x09,x0a,x0b,List.isEmpty,↓reduceIte,reduceCtorEq,Nat.reduceEqDiff,Nat.reduceAdd,Nat.reduceLeDiff,x0c,Int.reduceNeg,Nat.reduceMul,Nat.reduceSub,x0d,x0e,x0f,x0g,x0h,x0i,x0j,x0k,Int.reduceEq,Int.reduceLT,Int.reduceLE,Int.reduceToNat,Int.cast_ofNat_Int,List.reduceReplicate]
    refine onC_q h2' rfl ?_
    first | refine envO (by simp -implicitDefEqProofs only [vmp,↓vmd,Env.get,putD,argEnv,List.map,x00,x01,x02,x03,x04,x05,x06,x07,List.take,List.drop,x08,x09,x0a,x0b,List.isEmpty,↓reduceIte,reduceCtorEq,Nat.reduceEqDiff,Nat.reduceAdd,Nat.reduceLeDiff,x0c,Int.reduceNeg,Nat.reduceMul,Nat.reduceSub,x0d,x0e,x0f,x0g,x0h,x0i,x0j,x0k,Int.reduceEq,Int.reduceLT,Int.reduceLE,Int.reduceToNat,Int.cast_ofNat_Int,List.reduceReplicate]; rfl) ?_ | refine envQ (by simp -implicitDefEqProofs only [vmp,↓vmd,Env.get,putD,argEnv,List.map,x00,x01,x02,x03,x04,x05,x06,x07,List.take,List.drop,x08,x09,x0a,x0b,List.isEmpty,↓reduceIte,reduceCtorEq,Nat.reduceEqDiff,Nat.reduceAdd,Nat.reduceLeDiff,x0c,Int.reduceNeg,Nat.reduceMul,Nat.reduceSub,x0d,x0e,x0f,x0g,x0h,x0i,x0j,x0k,Int.reduceEq,Int.reduceLT,Int.reduceLE,Int.reduceToNat,Int.cast_ofNat_Int,List.reduceReplicate]; rfl) ?_
    simp -implicitDefEqProofs only [vmp,↓vmd,Env.get,putD,argEnv,List.map,x00,x01,x02,x03,x04,x05,x06,x07,List.take,List.drop,x08,x09,x0a,x0b,List.isEmpty,↓reduceIte,reduceCtorEq,Nat.reduceEqDiff,Nat.reduceAdd,Nat.reduceLeDiff,x0c,Int.reduceNeg,Nat.reduceMul,Nat.reduceSub,x0d,x0e,x0f,x0g,x0h,x0i,x0j,x0k,Int.reduceEq,Int.reduceLT,Int.reduceLE,Int.reduceToNat,Int.cast_ofNat_Int,List.reduceReplicate]
    exact gives_pure
  | some q =>
    rw [hc] at h1 h2
    have h1' : FnQ Try.prog 25 [lk k, I a, I b] [sp q.1, sp q.2, .bool true] := h1
    have h2' : FnQ Try.prog 26 [lk k, I a, I b] [sp q.1, sp q.2, .bool true] := h2
    refine onC_q h1' rfl ?_
    first | refine envO (by simp -implicitDefEqProofs only [vmp,↓vmd,Env.get,putD,argEnv,List.map,x00,x01,x02,x03,x04,x05,x06,x07,List.take,List.drop,x08,x09,x0a,x0b,List.isEmpty,↓reduceIte,reduceCtorEq,Nat.reduceEqDiff,Nat.reduceAdd,Nat.reduceLeDiff,x0c,Int.reduceNeg,Nat.reduceMul,Nat.reduceSub,x0d,x0e,x0f,x0g,x0h,x0i,x0j,x0k,Int.reduceEq,Int.reduceLT,Int.reduceLE,Int.reduceToNat,Int.cast_ofNat_Int,List.reduceReplicate]; rfl) ?_ | refine envQ (by simp -implicitDefEqProofs only [vmp,↓vmd,Env.get,putD,argEnv,List.map,x00,x01,x02,x03,x04,x05,x06,x07,List.take,List.drop,x08,x09,x0a,x0b,List.isEmpty,↓reduceIte,reduceCtorEq,Nat.reduceEqDiff,Nat.reduceAdd,Nat.reduceLeDiff,x0c,Int.reduceNeg,Nat.reduceMul,Nat.reduceSub,x0d,x0e,x0f,x0g,x0h,x0i,x0j,x0k,Int.reduceEq,Int.reduceLT,Int.reduceLE,Int.reduceToNat,Int.cast_ofNat_Int,List.reduceReplicate]; rfl) ?_
    simp -implicitDefEqProofs only [vmp,↓vmd,Env.get,putD,argEnv,List.map,x00,x01,x02,x03,x04,x05,x06,x07,List.take,List.drop,x08,x09,x0a,x0b,List.isEmpty,↓reduceIte,reduceCtorEq,Nat.reduceEqDiff,Nat.reduceAdd,Nat.reduceLeDiff,x0c,Int.reduceNeg,Nat.reduceMul,Nat.reduceSub,x0d,x0e,x0f,x0g,x0h,x0i,x0j,x0k,Int.reduceEq,Int.reduceLT,Int.reduceLE,Int.reduceToNat,Int.cast_ofNat_Int,List.reduceReplicate]
    refine onC_q h2' rfl ?_
    first | refine envO (by simp -implicitDefEqProofs only [vmp,↓vmd,Env.get,putD,argEnv,List.map,x00,x01,x02,x03,x04,x05,x06,x07,List.take,List.drop,x08,x09,x0a,x0b,List.isEmpty,↓reduceIte,reduceCtorEq,Nat.reduceEqDiff,Nat.reduceAdd,Nat.reduceLeDiff,x0c,Int.reduceNeg,Nat.reduceMul,Nat.reduceSub,x0d,x0e,x0f,x0g,x0h,x0i,x0j,x0k,Int.reduceEq,Int.reduceLT,Int.reduceLE,Int.reduceToNat,Int.cast_ofNat_Int,List.reduceReplicate]; rfl) ?_ | refine envQ (by simp -implicitDefEqProofs only [vmp,↓vmd,Env.get,putD,argEnv,List.map,x00,x01,x02,x03,x04,x05,x06,x07,List.take,List.drop,x08,x09,x0a,x0b,List.isEmpty,↓reduceIte,reduceCtorEq,Nat.reduceEqDiff,Nat.reduceAdd,Nat.reduceLeDiff,x0c,Int.reduceNeg,Nat.reduceMul,Nat.reduceSub,x0d,x0e,x0f,x0g,x0h,x0i,x0j,x0k,Int.reduceEq,Int.reduceLT,Int.reduceLE,Int.reduceToNat,Int.cast_ofNat_Int,List.reduceReplicate]; rfl) ?_
    simp -implicitDefEqProofs only [vmp,↓vmd,Env.get,putD,argEnv,List.map,x00,x01,x02,x03,x04,x05,x06,x07,List.take,List.drop,x08,x09,x0a,x0b,List.isEmpty,↓reduceIte,reduceCtorEq,Nat.reduceEqDiff,Nat.reduceAdd,Nat.reduceLeDiff,x0c,Int.reduceNeg,Nat.reduceMul,Nat.reduceSub,x0d,x0e,x0f,x0g,x0h,x0i,x0j,x0k,Int.reduceEq,Int.reduceLT,Int.reduceLE,Int.reduceToNat,Int.cast_ofNat_Int,List.reduceReplicate]
    exact gives_pure
theorem ap_all (vs : List V) (h : OkTs Try.prog Try.f4.params.toList vs) : FnQ Try.prog 4 vs [.bool true] := by
  rw [Try.params4] at h
  match vs, h with
  | [x, y, z], h =>
    obtain ⟨h1, h2, h3, _⟩ := h
    obtain ⟨k, rfl⟩ := lookup_of' h1
    obtain ⟨a, rfl, _⟩ := int_of' h2
    obtain ⟨b, rfl, _⟩ := int_of' h3
    exact ap_law k a b
end Go.Proofs.Ytjgodncjlffhjaa.W
