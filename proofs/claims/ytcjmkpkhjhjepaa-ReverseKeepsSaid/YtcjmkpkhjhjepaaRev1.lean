/-
  Lookups that go from behind: whether they hold: two functions, one answer. No condition but on sizes.
-/
import Derived.Test.YtcjmkpkhjhjepaaRev0
import Derived.Test.YtcjmkpkhjhjepaaCIndex
import Derived.Test.YtcjmkpkhjhjepaaStops
namespace Go.Proofs.Ytcjmkpkhjhjepaa.W
open Go Go.Vm Go.Proofs
set_option maxRecDepth 100000
set_option linter.unusedSimpArgs false
set_option maxHeartbeats 4000000
/-! typecase/typecaseref30.place -/
def c48_0 : AC :=
  (.seq (.reg [⟨some 4, none, .mov (.c (.pure (.int .i64 (-1))))⟩])
  .ret)
def c48_1 : AC :=
  (.seq (.seq (.reg [⟨some 6, none, .mov (.s 5)⟩,
    ⟨some 7, none, .mov (.s 0)⟩,
    ⟨some 8, none, .len (.s 7)⟩,
    ⟨some 9, none, .bin .lss (.s 6) (.s 8)⟩])
  (.cond (.s 9)
  .skip
  (.exit 0)))
  (.seq (.block 1
  (.seq (.reg [⟨some 12, none, .mov (.s 0)⟩,
    ⟨some 13, none, .mov (.s 5)⟩,
    ⟨some 14, none, .idxA 1 (.s 12) (.s 13)⟩,
    ⟨some 15, none, .load false 1 (.s 14)⟩,
    ⟨some 16, none, .mov (.s 1)⟩,
    ⟨some 17, none, .bin .eql (.s 15) (.s 16)⟩])
  (.cond (.s 17)
  (.seq (.reg [⟨some 18, none, .mov (.s 5)⟩,
    ⟨some 4, none, .mov (.s 18)⟩])
  .ret)
  .skip)))
  (.reg [⟨some 10, none, .mov (.s 5)⟩,
    ⟨some 11, none, .bin .add (.s 10) (.c (.pure (.int .i64 1)))⟩,
    ⟨some 5, none, .mov (.s 11)⟩])))
def c48 : AC :=
  (.seq (.reg [⟨some 4, none, .mov (.c (.pure (.int .i64 0)))⟩])
  (.seq (.seq (.reg [⟨some 5, none, .mov (.c (.pure (.int .i64 0)))⟩])
  (.block 0
  (.loop c48_1)))
  c48_0))
theorem k48 : (Try.f48.body.bind fun c => cCode Try.prog Try.f48.ntmps RCs c) = some c48 := by kernel_rfl
theorem h48 : (Try.f48.name == "runtime.NumGoroutine") = false := by kernel_rfl
theorem r48 : resC Try.prog Try.f48.results.toList = some [.t 4] := by kernel_rfl
theorem a48 {args : List S} {H : Heap} {K : S → Heap → Prop} (hn : args.length ≤ 19) (h : aWx Try.prog H.length c48 (PostX [.t 4] K) (argEnv 0 args) H) : CallA Try.prog 48 args H K :=
  callA_of_x mixed Try.func48 h48 k48 r48 (by rw [Try.ntmps48]; exact hn) h
theorem q48 {vs ds : List V} (hn : vs.length ≤ 19) (h : aWx Try.prog 0 c48 (PostX [.t 4] (Gives ds)) (argEnv 0 (vs.map .pure)) []) : FnQ Try.prog 48 vs ds :=
  fnQ_of_call (a48 (by simpa using hn) h)
/-! typecase/reverse.Holds -/
def c22_0 : AC :=
  (.seq (.reg [⟨some 8, none, .mov (.c (.pure (.int .i64 0)))⟩,
    ⟨some 9, none, .mov (.c (.pure (.bool false)))⟩])
  .ret)
def c22_1 : AC :=
  (.seq (.reg [⟨some 35, none, .bin .lss (.s 34) (.s 33)⟩])
  (.seq (.cond (.s 35)
  .skip
  (.exit 0))
  (.seq (.block 1
  (.seq (.reg [⟨some 36, none, .mov (.s 34)⟩,
    ⟨some 37, none, .idxA 12 (.s 32) (.s 34)⟩,
    ⟨some 38, none, .load true 12 (.s 37)⟩,
    ⟨some 11, none, .box (.c (.agg [.empty, .empty, .empty, .empty, .empty, .empty, .empty, .empty, .empty, .empty, .empty, .empty]))⟩,
    ⟨some 10, none, .mov (.s 36)⟩,
    ⟨none, none, .store 12 (.s 11) (.s 38)⟩])
  (.seq (.seq (.regq [⟨some 40, none, .fldA 0 (.s 11)⟩,
    ⟨some 41, none, .load false 1 (.s 40)⟩,
    ⟨some 42, none, .mov (.s 2)⟩,
    ⟨some 43, none, .mov (.s 3)⟩,
    ⟨some 44, none, .idxA 10 (.s 42) (.s 43)⟩,
    ⟨some 45, none, .fldA 0 (.s 44)⟩,
    ⟨some 46, none, .load false 1 (.s 45)⟩,
    ⟨some 47, none, .call 43 [(.s 41), (.s 46)]⟩,
    ⟨some 39, none, .mov (.s 47)⟩,
    ⟨some 48, none, .ext 0 (.s 39)⟩,
    ⟨some 49, none, .ext 1 (.s 39)⟩,
    ⟨some 12, none, .mov (.s 48)⟩]
    [⟨some 13, none, .mov (.s 49)⟩])
  (.seq (.reg [⟨some 50, none, .mov (.s 13)⟩,
    ⟨some 51, none, .un .not (.s 50)⟩])
  (.cond (.s 51)
  (.exit 1)
  .skip)))
  (.seq (.seq (.reg [⟨some 53, none, .load true 6 (.s 4)⟩,
    ⟨some 54, none, .load true 4 (.s 5)⟩,
    ⟨some 55, none, .mov (.s 2)⟩,
    ⟨some 56, none, .mov (.s 3)⟩,
    ⟨some 57, none, .fldA 3 (.s 11)⟩,
    ⟨some 58, none, .load false 1 (.s 57)⟩,
    ⟨some 59, none, .call 44 [(.s 53), (.s 54), (.s 55), (.s 56), (.s 58)]⟩,
    ⟨some 52, none, .mov (.s 59)⟩,
    ⟨some 60, none, .ext 0 (.s 52)⟩,
    ⟨some 61, none, .ext 1 (.s 52)⟩,
    ⟨some 14, none, .mov (.s 60)⟩,
    ⟨some 15, none, .mov (.s 61)⟩])
  (.seq (.reg [⟨some 62, none, .mov (.s 15)⟩,
    ⟨some 63, none, .un .not (.s 62)⟩])
  (.cond (.s 63)
  (.exit 1)
  .skip)))
  (.seq (.reg [⟨some 65, none, .load true 6 (.s 4)⟩,
    ⟨some 66, none, .load true 4 (.s 5)⟩,
    ⟨some 67, none, .mov (.s 2)⟩,
    ⟨some 68, none, .mov (.s 3)⟩,
    ⟨some 69, none, .fldA 5 (.s 11)⟩,
    ⟨some 70, none, .load false 1 (.s 69)⟩,
    ⟨some 71, none, .call 45 [(.s 65), (.s 66), (.s 67), (.s 68), (.s 70)]⟩,
    ⟨some 64, none, .mov (.s 71)⟩,
    ⟨some 72, none, .ext 0 (.s 64)⟩,
    ⟨some 73, none, .ext 1 (.s 64)⟩,
    ⟨some 16, none, .mov (.s 72)⟩,
    ⟨some 17, none, .mov (.s 73)⟩])
  (.seq (.reg [⟨some 74, none, .mov (.s 17)⟩])
  (.cond (.s 74)
  (.seq (.reg [⟨some 75, none, .mov (.s 10)⟩,
    ⟨some 8, none, .mov (.s 75)⟩,
    ⟨some 9, none, .mov (.c (.pure (.bool true)))⟩])
  .ret)
  .skip)))))))
  (.reg [⟨some 76, none, .bin .add (.s 34) (.c (.pure (.int .i64 1)))⟩,
    ⟨some 34, none, .mov (.s 76)⟩]))))
def c22 : AC :=
  (.seq (.reg [⟨some 4, none, .box (.s 0)⟩,
    ⟨some 5, none, .box (.s 1)⟩,
    ⟨some 8, none, .mov (.c (.pure (.int .i64 0)))⟩,
    ⟨some 9, none, .mov (.c (.pure (.bool false)))⟩])
  (.seq (.seq (.reg [⟨some 18, none, .fldA 0 (.s 5)⟩,
    ⟨some 19, none, .load false 1 (.s 18)⟩,
    ⟨some 20, none, .bin .neq (.s 19) (.c (.pure (.int .i64 5)))⟩,
    ⟨some 21, none, .mov (.s 20)⟩,
    ⟨some 22, some (21, false), .mov (.s 3)⟩,
    ⟨some 23, some (21, false), .bin .lss (.s 22) (.c (.pure (.int .i64 0)))⟩,
    ⟨some 24, none, .pick (.s 21) (.c (.pure (.bool true))) (.s 23)⟩,
    ⟨some 25, none, .mov (.s 24)⟩,
    ⟨some 26, some (25, false), .mov (.s 3)⟩,
    ⟨some 27, some (25, false), .mov (.s 2)⟩,
    ⟨some 28, some (25, false), .len (.s 27)⟩,
    ⟨some 29, some (25, false), .bin .geq (.s 26) (.s 28)⟩,
    ⟨some 30, none, .pick (.s 25) (.c (.pure (.bool true))) (.s 29)⟩])
  (.cond (.s 30)
  (.seq (.reg [⟨some 8, none, .mov (.c (.pure (.int .i64 0)))⟩,
    ⟨some 9, none, .mov (.c (.pure (.bool false)))⟩])
  .ret)
  .skip))
  (.seq (.seq (.reg [⟨some 31, none, .fldA 3 (.s 5)⟩,
    ⟨some 32, none, .load false 1 (.s 31)⟩,
    ⟨some 33, none, .len (.s 32)⟩,
    ⟨some 34, none, .mov (.c (.pure (.int .i64 0)))⟩])
  (.block 0
  (.loop c22_1)))
  c22_0)))
theorem k22 : (Try.f22.body.bind fun c => cCode Try.prog Try.f22.ntmps RCs c) = some c22 := by kernel_rfl
theorem h22 : (Try.f22.name == "runtime.NumGoroutine") = false := by kernel_rfl
theorem r22 : resC Try.prog Try.f22.results.toList = some [.t 8, .t 9] := by kernel_rfl
theorem a22 {args : List S} {H : Heap} {K : S → Heap → Prop} (hn : args.length ≤ 77) (h : aWx Try.prog H.length c22 (PostX [.t 8, .t 9] K) (argEnv 0 args) H) : CallA Try.prog 22 args H K :=
  callA_of_x mixed Try.func22 h22 k22 r22 (by rw [Try.ntmps22]; exact hn) h
theorem q22 {vs ds : List V} (hn : vs.length ≤ 77) (h : aWx Try.prog 0 c22 (PostX [.t 8, .t 9] (Gives ds)) (argEnv 0 (vs.map .pure)) []) : FnQ Try.prog 22 vs ds :=
  fnQ_of_call (a22 (by simpa using hn) h)
/-! typecase/typecaseref30.Holds -/
def c23_0 : AC :=
  (.seq (.reg [⟨some 8, none, .mov (.c (.pure (.int .i64 0)))⟩,
    ⟨some 9, none, .mov (.c (.pure (.bool false)))⟩])
  .ret)
def c23_1 : AC :=
  (.seq (.seq (.reg [⟨some 29, none, .mov (.s 10)⟩,
    ⟨some 30, none, .fldA 3 (.s 5)⟩,
    ⟨some 31, none, .load false 1 (.s 30)⟩,
    ⟨some 32, none, .len (.s 31)⟩,
    ⟨some 33, none, .bin .lss (.s 29) (.s 32)⟩])
  (.cond (.s 33)
  .skip
  (.exit 0)))
  (.seq (.block 1
  (.seq (.reg [⟨some 36, none, .fldA 3 (.s 5)⟩,
    ⟨some 37, none, .load false 1 (.s 36)⟩,
    ⟨some 38, none, .mov (.s 10)⟩,
    ⟨some 39, none, .idxA 12 (.s 37) (.s 38)⟩,
    ⟨some 40, none, .load true 12 (.s 39)⟩,
    ⟨some 11, none, .box (.c (.agg [.empty, .empty, .empty, .empty, .empty, .empty, .empty, .empty, .empty, .empty, .empty, .empty]))⟩,
    ⟨none, none, .store 12 (.s 11) (.s 40)⟩])
  (.seq (.reg [⟨some 42, none, .load true 6 (.s 4)⟩,
    ⟨some 43, none, .load true 4 (.s 5)⟩,
    ⟨some 44, none, .mov (.s 2)⟩,
    ⟨some 45, none, .mov (.s 3)⟩,
    ⟨some 46, none, .fldA 3 (.s 11)⟩,
    ⟨some 47, none, .load false 1 (.s 46)⟩,
    ⟨some 48, none, .call 46 [(.s 42), (.s 43), (.s 44), (.s 45), (.s 47)]⟩,
    ⟨some 41, none, .mov (.s 48)⟩,
    ⟨some 49, none, .ext 0 (.s 41)⟩,
    ⟨some 50, none, .ext 1 (.s 41)⟩,
    ⟨some 12, none, .mov (.s 49)⟩,
    ⟨some 13, none, .mov (.s 50)⟩])
  (.seq (.reg [⟨some 52, none, .load true 6 (.s 4)⟩,
    ⟨some 53, none, .load true 4 (.s 5)⟩,
    ⟨some 54, none, .mov (.s 2)⟩,
    ⟨some 55, none, .mov (.s 3)⟩,
    ⟨some 56, none, .fldA 5 (.s 11)⟩,
    ⟨some 57, none, .load false 1 (.s 56)⟩,
    ⟨some 58, none, .call 47 [(.s 52), (.s 53), (.s 54), (.s 55), (.s 57)]⟩,
    ⟨some 51, none, .mov (.s 58)⟩,
    ⟨some 59, none, .ext 0 (.s 51)⟩,
    ⟨some 60, none, .ext 1 (.s 51)⟩,
    ⟨some 14, none, .mov (.s 59)⟩,
    ⟨some 15, none, .mov (.s 60)⟩])
  (.seq (.regq [⟨some 61, none, .fldA 0 (.s 11)⟩,
    ⟨some 62, none, .load false 1 (.s 61)⟩,
    ⟨some 63, none, .mov (.s 2)⟩,
    ⟨some 64, none, .mov (.s 3)⟩,
    ⟨some 65, none, .idxA 10 (.s 63) (.s 64)⟩,
    ⟨some 66, none, .fldA 0 (.s 65)⟩,
    ⟨some 67, none, .load false 1 (.s 66)⟩]
    [⟨some 68, none, .call 48 [(.s 62), (.s 67)]⟩,
    ⟨some 69, none, .bin .geq (.s 68) (.c (.pure (.int .i64 0)))⟩,
    ⟨some 70, none, .mov (.s 69)⟩,
    ⟨some 71, some (70, true), .mov (.s 13)⟩,
    ⟨some 72, none, .pick (.s 70) (.s 71) (.c (.pure (.bool false)))⟩,
    ⟨some 73, none, .mov (.s 72)⟩,
    ⟨some 74, some (73, true), .mov (.s 15)⟩,
    ⟨some 75, none, .pick (.s 73) (.s 74) (.c (.pure (.bool false)))⟩])
  (.cond (.s 75)
  (.seq (.reg [⟨some 76, none, .mov (.s 10)⟩,
    ⟨some 8, none, .mov (.s 76)⟩,
    ⟨some 9, none, .mov (.c (.pure (.bool true)))⟩])
  .ret)
  .skip))))))
  (.reg [⟨some 34, none, .mov (.s 10)⟩,
    ⟨some 35, none, .bin .add (.s 34) (.c (.pure (.int .i64 1)))⟩,
    ⟨some 10, none, .mov (.s 35)⟩])))
def c23 : AC :=
  (.seq (.reg [⟨some 4, none, .box (.s 0)⟩,
    ⟨some 5, none, .box (.s 1)⟩,
    ⟨some 8, none, .mov (.c (.pure (.int .i64 0)))⟩,
    ⟨some 9, none, .mov (.c (.pure (.bool false)))⟩])
  (.seq (.seq (.reg [⟨some 16, none, .fldA 0 (.s 5)⟩,
    ⟨some 17, none, .load false 1 (.s 16)⟩,
    ⟨some 18, none, .bin .neq (.s 17) (.c (.pure (.int .i64 5)))⟩,
    ⟨some 19, none, .mov (.s 18)⟩,
    ⟨some 20, some (19, false), .mov (.s 3)⟩,
    ⟨some 21, some (19, false), .bin .lss (.s 20) (.c (.pure (.int .i64 0)))⟩,
    ⟨some 22, none, .pick (.s 19) (.c (.pure (.bool true))) (.s 21)⟩,
    ⟨some 23, none, .mov (.s 22)⟩,
    ⟨some 24, some (23, false), .mov (.s 3)⟩,
    ⟨some 25, some (23, false), .mov (.s 2)⟩,
    ⟨some 26, some (23, false), .len (.s 25)⟩,
    ⟨some 27, some (23, false), .bin .geq (.s 24) (.s 26)⟩,
    ⟨some 28, none, .pick (.s 23) (.c (.pure (.bool true))) (.s 27)⟩])
  (.cond (.s 28)
  (.seq (.reg [⟨some 8, none, .mov (.c (.pure (.int .i64 0)))⟩,
    ⟨some 9, none, .mov (.c (.pure (.bool false)))⟩])
  .ret)
  .skip))
  (.seq (.seq (.reg [⟨some 10, none, .mov (.c (.pure (.int .i64 0)))⟩])
  (.block 0
  (.loop c23_1)))
  c23_0)))
theorem k23 : (Try.f23.body.bind fun c => cCode Try.prog Try.f23.ntmps RCs c) = some c23 := by kernel_rfl
theorem h23 : (Try.f23.name == "runtime.NumGoroutine") = false := by kernel_rfl
theorem r23 : resC Try.prog Try.f23.results.toList = some [.t 8, .t 9] := by kernel_rfl
theorem a23 {args : List S} {H : Heap} {K : S → Heap → Prop} (hn : args.length ≤ 77) (h : aWx Try.prog H.length c23 (PostX [.t 8, .t 9] K) (argEnv 0 args) H) : CallA Try.prog 23 args H K :=
  callA_of_x mixed Try.func23 h23 k23 r23 (by rw [Try.ntmps23]; exact hn) h
theorem q23 {vs ds : List V} (hn : vs.length ≤ 77) (h : aWx Try.prog 0 c23 (PostX [.t 8, .t 9] (Gives ds)) (argEnv 0 (vs.map .pure)) []) : FnQ Try.prog 23 vs ds :=
  fnQ_of_call (a23 (by simpa using hn) h)
/-! typecase/typecaseref27.Copy -/
def c38_0 : AC :=
  (.seq (.reg [⟨some 18, none, .mov (.s 3)⟩,
    ⟨some 2, none, .mov (.s 18)⟩])
  .ret)
def c38_1 : AC :=
  (.seq (.seq (.reg [⟨some 5, none, .mov (.s 4)⟩,
    ⟨some 6, none, .mov (.s 0)⟩,
    ⟨some 7, none, .len (.s 6)⟩,
    ⟨some 8, none, .bin .lss (.s 5) (.s 7)⟩])
  (.cond (.s 8)
  .skip
  (.exit 0)))
  (.seq (.block 1
  (.reg [⟨some 11, none, .mov (.s 3)⟩,
    ⟨some 12, none, .mov (.s 0)⟩,
    ⟨some 13, none, .mov (.s 4)⟩,
    ⟨some 14, none, .idxA 10 (.s 12) (.s 13)⟩,
    ⟨some 15, none, .load true 10 (.s 14)⟩,
    ⟨some 16, none, .bslice 10 [(.s 15)]⟩,
    ⟨some 17, none, .app 10 80 (.s 11) (.s 16)⟩,
    ⟨some 3, none, .mov (.s 17)⟩]))
  (.reg [⟨some 9, none, .mov (.s 4)⟩,
    ⟨some 10, none, .bin .add (.s 9) (.c (.pure (.int .i64 1)))⟩,
    ⟨some 4, none, .mov (.s 10)⟩])))
def c38 : AC :=
  (.seq (.reg [⟨some 2, none, .mov (.c .empty)⟩])
  (.seq (.reg [⟨some 3, none, .mov (.c .empty)⟩])
  (.seq (.seq (.reg [⟨some 4, none, .mov (.c (.pure (.int .i64 0)))⟩])
  (.block 0
  (.loop c38_1)))
  c38_0)))
theorem k38 : (Try.f38.body.bind fun c => cCode Try.prog Try.f38.ntmps RCs c) = some c38 := by kernel_rfl
theorem h38 : (Try.f38.name == "runtime.NumGoroutine") = false := by kernel_rfl
theorem r38 : resC Try.prog Try.f38.results.toList = some [.t 2] := by kernel_rfl
theorem a38 {args : List S} {H : Heap} {K : S → Heap → Prop} (hn : args.length ≤ 19) (h : aWx Try.prog H.length c38 (PostX [.t 2] K) (argEnv 0 args) H) : CallA Try.prog 38 args H K :=
  callA_of_x mixed Try.func38 h38 k38 r38 (by rw [Try.ntmps38]; exact hn) h
theorem q38 {vs ds : List V} (hn : vs.length ≤ 19) (h : aWx Try.prog 0 c38 (PostX [.t 2] (Gives ds)) (argEnv 0 (vs.map .pure)) []) : FnQ Try.prog 38 vs ds :=
  fnQ_of_call (a38 (by simpa using hn) h)
/-! typecase/typecaseref27.Glyphs2 -/
def c20_0 : AC :=
  (.seq (.reg [⟨some 4, none, .mov (.c (.pure (.bool true)))⟩])
  .ret)
def c20_1 : AC :=
  (.seq (.seq (.reg [⟨some 11, none, .mov (.s 5)⟩,
    ⟨some 12, none, .mov (.s 0)⟩,
    ⟨some 13, none, .len (.s 12)⟩,
    ⟨some 14, none, .bin .lss (.s 11) (.s 13)⟩])
  (.cond (.s 14)
  .skip
  (.exit 0)))
  (.seq (.block 1
  (.seq (.regq [⟨some 17, none, .mov (.s 0)⟩,
    ⟨some 18, none, .mov (.s 5)⟩,
    ⟨some 19, none, .idxA 10 (.s 17) (.s 18)⟩,
    ⟨some 20, none, .load true 10 (.s 19)⟩,
    ⟨some 21, none, .mov (.s 1)⟩,
    ⟨some 22, none, .mov (.s 5)⟩,
    ⟨some 23, none, .idxA 10 (.s 21) (.s 22)⟩,
    ⟨some 24, none, .load true 10 (.s 23)⟩]
    [⟨some 25, none, .eqv true [.i, .i, .i, .i, .i, .i, .i, .i, .i, .i] (.s 20) (.s 24)⟩])
  (.cond (.s 25)
  (.seq (.reg [⟨some 4, none, .mov (.c (.pure (.bool false)))⟩])
  .ret)
  .skip)))
  (.reg [⟨some 15, none, .mov (.s 5)⟩,
    ⟨some 16, none, .bin .add (.s 15) (.c (.pure (.int .i64 1)))⟩,
    ⟨some 5, none, .mov (.s 16)⟩])))
def c20 : AC :=
  (.seq (.reg [⟨some 4, none, .mov (.c (.pure (.bool false)))⟩])
  (.seq (.seq (.reg [⟨some 6, none, .mov (.s 0)⟩,
    ⟨some 7, none, .len (.s 6)⟩,
    ⟨some 8, none, .mov (.s 1)⟩,
    ⟨some 9, none, .len (.s 8)⟩,
    ⟨some 10, none, .bin .neq (.s 7) (.s 9)⟩])
  (.cond (.s 10)
  (.seq (.reg [⟨some 4, none, .mov (.c (.pure (.bool false)))⟩])
  .ret)
  .skip))
  (.seq (.seq (.reg [⟨some 5, none, .mov (.c (.pure (.int .i64 0)))⟩])
  (.block 0
  (.loop c20_1)))
  c20_0)))
theorem k20 : (Try.f20.body.bind fun c => cCode Try.prog Try.f20.ntmps RCs c) = some c20 := by kernel_rfl
theorem h20 : (Try.f20.name == "runtime.NumGoroutine") = false := by kernel_rfl
theorem r20 : resC Try.prog Try.f20.results.toList = some [.t 4] := by kernel_rfl
theorem a20 {args : List S} {H : Heap} {K : S → Heap → Prop} (hn : args.length ≤ 26) (h : aWx Try.prog H.length c20 (PostX [.t 4] K) (argEnv 0 args) H) : CallA Try.prog 20 args H K :=
  callA_of_x mixed Try.func20 h20 k20 r20 (by rw [Try.ntmps20]; exact hn) h
theorem q20 {vs ds : List V} (hn : vs.length ≤ 26) (h : aWx Try.prog 0 c20 (PostX [.t 4] (Gives ds)) (argEnv 0 (vs.map .pure)) []) : FnQ Try.prog 20 vs ds :=
  fnQ_of_call (a20 (by simpa using hn) h)

theorem place30_q (l : List Int) (x : Int) : FnQ Try.prog 48 [LI l, I x] [I (idxF x 0 l)] := by
  refine q48 (by simp) ?_
  unfold c48
  simp -implicitDefEqProofs only [*, vmp,↓vmd,seval]
  refine loop_at (T := Nat) (fun k => [(5, .pure (I k)), (0, .pure (LI l)), (1, .pure (I x))]) (fun _ => []) (fun k => k ≤ l.length ∧ idxF x k (l.drop k) = idxF x 0 l) (fun k => l.length - k)
    0 [] (by simp) rfl ⟨by simp, by simp⟩ (by simp -implicitDefEqProofs only [kpp,seval]) (by simp -implicitDefEqProofs only [kpp,seval]) ?_
  rintro k ⟨hk, hr⟩
  unfold c48_1
  simp -implicitDefEqProofs only [vmp,↓vmd,seval]
  refine onIf_intro fun _ => ?_
  simp -implicitDefEqProofs only [vmp,↓vmd,seval]
  refine onB_dec (fun h1 => ?_) (fun h1 => ?_)
  · have hlt : k < l.length := by omega
    rw [drop_at hlt, idxF] at hr
    simp -implicitDefEqProofs only [h1, map_at hlt, Int.natCast_nonneg, vmp,↓vmd,seval]
    refine onB_dec (fun h2 => ?_) (fun h2 => ?_)
    · rw [if_pos h2.symm] at hr
      simp -implicitDefEqProofs only [h2, vmp,↓vmd,seval]
      rw [← hr]
      exact gives_pure
    · simp -implicitDefEqProofs only [h2, vmp,↓vmd,seval]
      refine onBk_to (k + 1) [] (by simp) rfl (by omega) ⟨hlt, by rw [← hr, if_neg (fun e => h2 e.symm)]; rfl⟩ (by simp -implicitDefEqProofs only [next_at hlt (by omega), kpp,seval]) (by simp -implicitDefEqProofs only [kpp,seval])
  · simp -implicitDefEqProofs only [h1, vmp,↓vmd,seval]
    unfold c48_0
    simp -implicitDefEqProofs only [vmp,↓vmd,seval]
    rw [← hr, List.drop_of_length_le (by omega)]
    exact gives_pure
theorem copy27_c (l : List Gl) (hl : l.length ≤ 1000) : CallA Try.prog 38 [.pure (.sl (l.map gl))] [] fun s H' => s = .rsl 0 0 l.length ∧ H' = [⟨(l.map gl).map .pure, 10, .live⟩] := by
  refine a38 (by simp) ?_
  unfold c38
  simp -implicitDefEqProofs only [*, vmp,↓vmd,seval]
  refine loop_virt 3 10 rfl (by simp) ?_
  refine loop_at (T := Nat) (fun i => [(4, .pure (I (i : Int))), (0, .pure (.sl (l.map gl))), (3, .rsl 0 0 (l.take i).length)]) (fun i => [⟨((l.take i).map gl).map .pure, 10, .live⟩]) (fun i => i ≤ l.length) (fun i => l.length - i)
    0 [0] (by simp) rfl (by simp) (by simp -implicitDefEqProofs only [List.take_zero, kpp,seval]) (by simp -implicitDefEqProofs only [List.take_zero, kpp,seval]) ?_
  intro i hi
  have hi' : (l.take i).length = i := by simp; omega
  unfold c38_1
  simp -implicitDefEqProofs only [vmp,↓vmd,seval]
  refine onIf_intro fun _ => ?_
  first | refine envO (by simp -implicitDefEqProofs only [vmp,↓vmd,seval]; rfl) ?_ | refine envQ (by simp -implicitDefEqProofs only [vmp,↓vmd,seval]; rfl) ?_
  simp -implicitDefEqProofs only [vmp,↓vmd,seval]
  refine onB_dec (fun h1 => ?_) (fun h1 => ?_)
  · have hlt : i < l.length := by omega
    have hgi : (l.map gl)[i]? = some (gl l[i]) := map_at hlt
    have hs' := List.take_succ_eq_append_getElem hlt
    generalize l[i] = g at hgi hs'
    simp -implicitDefEqProofs only [h1, hgi, Int.natCast_nonneg, vmp,↓vmd,seval]
    refine onIf'_intro (appOk_one rfl rfl (by simp) (by omega) (by simp [maxLen]; omega)) ?_
    first | refine envO (by simp -implicitDefEqProofs only [vmp,↓vmd,seval]; rfl) ?_ | refine envQ (by simp -implicitDefEqProofs only [vmp,↓vmd,seval]; rfl) ?_
    simp -implicitDefEqProofs only [vmp,↓vmd,seval]
    refine onBk_to (i + 1) [2] (by simp) rfl (by omega) hlt (by simp -implicitDefEqProofs only [next_at hlt (by omega), hs', kpp,seval]) (by simp -implicitDefEqProofs only [hs', kpp,seval])
  · rw [List.take_of_length_le (by omega)]
    simp -implicitDefEqProofs only [h1, vmp,↓vmd,seval]
    unfold c38_0
    simp -implicitDefEqProofs only [vmp,↓vmd,seval]
theorem glyphs2_q (a b : List Gl) : FnQ Try.prog 20 [.sl (a.map gl), .sl (b.map gl)] [.bool (decide (a = b))] := by
  refine q20 (by simp) ?_
  unfold c20
  simp -implicitDefEqProofs only [*, vmp,↓vmd,seval]
  refine onIf_intro fun hl1 => ?_
  simp -implicitDefEqProofs only [*, vmp,↓vmd,seval]
  refine onIf_intro fun hl2 => ?_
  simp -implicitDefEqProofs only [*, vmp,↓vmd,seval]
  by_cases hn : a.length = b.length
  · simp -implicitDefEqProofs only [hn, vmp,↓vmd,seval]
    refine loop_at (T := Nat) (fun i => [(5, .pure (I i)), (0, .pure (.sl (a.map gl))), (1, .pure (.sl (b.map gl)))]) (fun _ => []) (fun i => i ≤ a.length ∧ decide (a.drop i = b.drop i) = decide (a = b)) (fun i => a.length - i)
      0 [] (by simp) rfl ⟨by simp, by simp⟩ (by simp -implicitDefEqProofs only [kpp,seval]) (by simp -implicitDefEqProofs only [kpp,seval]) ?_
    rintro i ⟨hi, hr⟩
    unfold c20_1
    simp -implicitDefEqProofs only [vmp,↓vmd,seval]
    refine onIf_intro fun _ => ?_
    simp -implicitDefEqProofs only [vmp,↓vmd,seval]
    refine onB_dec (fun h1 => ?_) (fun h1 => ?_)
    · have hlt : i < a.length := by omega
      have hlt2 : i < b.length := by omega
      rw [drop_at hlt, drop_at hlt2] at hr
      simp -implicitDefEqProofs only [h1, map_at hlt, map_at hlt2, Int.natCast_nonneg, vmp,↓vmd,seval]
      rw [gl_b]
      by_cases he : a[i] = b[i]
      · simp -implicitDefEqProofs only [he, vmp,↓vmd,seval]
        refine onBk_to (i + 1) [] (by simp) rfl (by omega) ⟨hlt, by rw [← hr, he]; simp only [List.cons.injEq, true_and]⟩ (by simp -implicitDefEqProofs only [next_at hlt (by omega), kpp,seval]) (by simp -implicitDefEqProofs only [kpp,seval])
      · simp -implicitDefEqProofs only [he, vmp,↓vmd,seval]
        rw [show decide (a = b) = false by rw [← hr]; simp only [List.cons.injEq, he, false_and, decide_false]]
        exact gives_pure
    · simp -implicitDefEqProofs only [h1, vmp,↓vmd,seval]
      unfold c20_0
      simp -implicitDefEqProofs only [vmp,↓vmd,seval]
      rw [List.drop_of_length_le (by omega), List.drop_of_length_le (by omega)] at hr
      rw [← hr]
      exact gives_pure
  · have hn' : ¬ ((a.length : Int) = (b.length : Int)) := by omega
    simp -implicitDefEqProofs only [hn', vmp,↓vmd,seval]
    rw [show decide (a = b) = false by simp; rintro rfl; exact hn rfl]
    exact gives_pure
def hoR (o : Option Nat) : List V := [I ((o.getD 0 : Nat) : Int), .bool o.isSome]
theorem bk_q (f : Fo) (k : Lk) (ls : List Gl) (hl : ls.length ≤ 1000) (x : Int) (sets : List (List Int)) (hs : sets.length ≤ 1000) : FnQ Try.prog 44 [fo f, lk k, .sl (ls.map gl), I x, LL sets] (rowR (rowF (prevF (seesF f k.flags k.set ls) ls.length) ls sets x)) := back_q f k.kind k.flags k.set (.sl (k.subs.map sub)) ls hl x sets hs
theorem rw_q (f : Fo) (k : Lk) (ls : List Gl) (hl : ls.length ≤ 1000) (x : Int) (sets : List (List Int)) (hs : sets.length ≤ 1000) : FnQ Try.prog 45 [fo f, lk k, .sl (ls.map gl), I x, LL sets] (rowR (rowF (nextF (seesF f k.flags k.set ls) ls.length) ls sets x)) := row_q f k.kind k.flags k.set (.sl (k.subs.map sub)) ls hl x sets hs
theorem rbk_q (f : Fo) (k : Lk) (ls : List Gl) (hl : ls.length ≤ 1000) (x : Int) (sets : List (List Int)) (hs : sets.length ≤ 1000) : FnQ Try.prog 46 [fo f, lk k, .sl (ls.map gl), I x, LL sets] (rowR (rowF (prevF (seesF f k.flags k.set ls) ls.length) ls sets x)) := rrowb_q f k.kind k.flags k.set (.sl (k.subs.map sub)) ls hl x sets hs
theorem rrw_q (f : Fo) (k : Lk) (ls : List Gl) (hl : ls.length ≤ 1000) (x : Int) (sets : List (List Int)) (hs : sets.length ≤ 1000) : FnQ Try.prog 47 [fo f, lk k, .sl (ls.map gl), I x, LL sets] (rowR (rowF (nextF (seesF f k.flags k.set ls) ls.length) ls sets x)) := rrowf_q f k.kind k.flags k.set (.sl (k.subs.map sub)) ls hl x sets hs
structure RevS (k : Lk) : Prop where
  sets : ∀ s ∈ k.subs, s.back.length ≤ 1000 ∧ s.ahead.length ≤ 1000
theorem holds_q (f : Fo) (k : Lk) (hs : k.kind = 5 → RevS k) (ls : List Gl) (hl : ls.length ≤ 1000) (x : Int) : FnQ Try.prog 22 [fo f, lk k, .sl (ls.map gl), I x] (hoR (holdR f k ls x)) := by
  refine q22 (by simp) ?_
  unfold c22
  have ho : holdR f k ls x = if k.kind = 5 ∧ 0 ≤ x ∧ x < ls.length then goR (stR f k ls x) 0 k.subs else none := rfl
  generalize holdR f k ls x = out at *
  simp -implicitDefEqProofs only [vmp,↓vmd,seval]
  refine onB_dec (fun h1 => ?_) (fun h1 => ?_)
  · rw [if_neg (fun e => h1 e.1)] at ho
    subst ho
    first | refine envO (by simp -implicitDefEqProofs only [h1, vmp,↓vmd,seval]; rfl) ?_ | refine envQ (by simp -implicitDefEqProofs only [h1, vmp,↓vmd,seval]; rfl) ?_
    simp -implicitDefEqProofs only [h1, vmp,↓vmd,seval]
    exact gives_tup rfl (by simp)
  have h1' := Classical.not_not.1 h1
  have hd1 : decide (¬ k.kind = 5) = false := decide_eq_false h1
  first | refine envO (by simp -implicitDefEqProofs only [hd1, vmp,↓vmd,seval]; rfl) ?_ | refine envQ (by simp -implicitDefEqProofs only [hd1, vmp,↓vmd,seval]; rfl) ?_
  simp -implicitDefEqProofs only [vmp,↓vmd,seval]
  refine onB_dec (fun h2 => ?_) (fun h2 => ?_)
  · rw [if_neg (fun e => by omega)] at ho
    subst ho
    first | refine envO (by simp -implicitDefEqProofs only [h2, vmp,↓vmd,seval]; rfl) ?_ | refine envQ (by simp -implicitDefEqProofs only [h2, vmp,↓vmd,seval]; rfl) ?_
    simp -implicitDefEqProofs only [h2, vmp,↓vmd,seval]
    exact gives_tup rfl (by simp)
  first | refine envO (by simp -implicitDefEqProofs only [h2, vmp,↓vmd,seval]; rfl) ?_ | refine envQ (by simp -implicitDefEqProofs only [h2, vmp,↓vmd,seval]; rfl) ?_
  simp -implicitDefEqProofs only [vmp,↓vmd,seval]
  refine onIf_intro fun _ => ?_
  first | refine envO (by simp -implicitDefEqProofs only [vmp,↓vmd,seval]; rfl) ?_ | refine envQ (by simp -implicitDefEqProofs only [vmp,↓vmd,seval]; rfl) ?_
  simp -implicitDefEqProofs only [vmp,↓vmd,seval]
  refine onB_dec (fun h3 => ?_) (fun h3 => ?_)
  · rw [if_neg (fun e => by omega)] at ho
    subst ho
    first | refine envO (by simp -implicitDefEqProofs only [h3, vmp,↓vmd,seval]; rfl) ?_ | refine envQ (by simp -implicitDefEqProofs only [h3, vmp,↓vmd,seval]; rfl) ?_
    simp -implicitDefEqProofs only [h3, vmp,↓vmd,seval]
    exact gives_tup rfl (by simp)
  have x0 : 0 ≤ x := by omega
  have x1 : x < ls.length := by omega
  rw [if_pos ⟨h1', x0, x1⟩] at ho
  have hgx := glAt_map x0 x1
  have hss := (hs h1').sets
  simp -implicitDefEqProofs only [h3, vmp,↓vmd,seval]
  refine onIf_intro fun _ => ?_
  first | refine envO (by simp -implicitDefEqProofs only [vmp,↓vmd,seval]; rfl) ?_ | refine envQ (by simp -implicitDefEqProofs only [vmp,↓vmd,seval]; rfl) ?_
  simp -implicitDefEqProofs only [vmp,↓vmd,seval]
  refine loop_at (T := Nat) (fun i => [(34, .pure (I (i : Int))), (33, .pure (I k.subs.length)), (32, .pure (.sl (k.subs.map sub))), (2, .pure (.sl (ls.map gl))), (3, .pure (I x)), (4, .ptr 0 0 0), (5, .ptr 1 0 0)])
    (fun _ => [⟨[.pure (fo f)], 6, .live⟩, ⟨[.pure (lk k)], 4, .live⟩]) (fun i => i ≤ k.subs.length ∧ goR (stR f k ls x) i (k.subs.drop i) = out) (fun i => k.subs.length - i)
    0 [0, 1] (by simp) rfl ⟨by simp, ho.symm⟩ (by simp -implicitDefEqProofs only [kpp,seval]) (by simp -implicitDefEqProofs only [kpp,seval]) ?_
  rintro i ⟨hi, hr⟩
  unfold c22_1
  simp -implicitDefEqProofs only [vmp,↓vmd,seval]
  refine onB_dec (fun h4 => ?_) (fun h4 => ?_)
  · have hlt : i < k.subs.length := by omega
    rw [drop_at hlt, goR] at hr
    have hgi : (k.subs.map sub)[i]? = some (sub k.subs[i]) := map_at hlt
    obtain ⟨s1, s2⟩ := hss k.subs[i] (List.getElem_mem _)
    generalize k.subs[i] = s at hr hgi s1 s2
    have miss : stR f k ls x s = false → goR (stR f k ls x) (i + 1) (k.subs.drop (i + 1)) = out := fun e => by rw [e] at hr; exact hr
    have hit : stR f k ls x s = true → some i = out := fun e => by rw [e] at hr; exact hr
    have hst : stR f k ls x s = (decide (0 ≤ idxF (glAt ls x).id 0 s.cover) && (rowF (prevF (seesF f k.flags k.set ls) ls.length) ls s.back x).isSome && (rowF (nextF (seesF f k.flags k.set ls) ls.length) ls s.ahead x).isSome) := rfl
    simp -implicitDefEqProofs only [h4, hgi, Int.natCast_nonneg, x0, hgx, vmp,↓vmd,seval]
    refine onQ_q (cindex_q s.cover (glAt ls x).id) rfl ?_
    generalize max (idxF (glAt ls x).id 0 s.cover) 0 = pl
    generalize decide (0 ≤ idxF (glAt ls x).id 0 s.cover) = b1 at hst ⊢
    cases b1 with
    | false =>
      have miss := miss (by rw [hst]; rfl)
      first | refine envO (by simp -implicitDefEqProofs only [vmp,↓vmd,seval]; rfl) ?_ | refine envQ (by simp -implicitDefEqProofs only [vmp,↓vmd,seval]; rfl) ?_
      simp -implicitDefEqProofs only [vmp,↓vmd,seval]
      refine onBk_to (i + 1) [0, 1] (by simp) rfl (by omega) ⟨hlt, miss⟩ (by simp -implicitDefEqProofs only [next_at hlt (by omega), kpp,seval]) (by simp -implicitDefEqProofs only [kpp,seval])
    | true =>
      first | refine envO (by simp -implicitDefEqProofs only [vmp,↓vmd,seval]; rfl) ?_ | refine envQ (by simp -implicitDefEqProofs only [vmp,↓vmd,seval]; rfl) ?_
      simp -implicitDefEqProofs only [vmp,↓vmd,seval]
      refine onC_q (bk_q f k ls hl x s.back s1) rfl ?_
      generalize rowF (prevF (seesF f k.flags k.set ls) ls.length) ls s.back x = o1 at hst ⊢
      cases o1 with
      | none =>
        have miss := miss (by rw [hst]; rfl)
        first | refine envO (by simp -implicitDefEqProofs only [vmp,↓vmd,seval]; rfl) ?_ | refine envQ (by simp -implicitDefEqProofs only [vmp,↓vmd,seval]; rfl) ?_
        simp -implicitDefEqProofs only [rowR, Option.getD_none, Option.isSome_none, vmp,↓vmd,seval]
        refine onBk_to (i + 1) [0, 1] (by simp) rfl (by omega) ⟨hlt, miss⟩ (by simp -implicitDefEqProofs only [next_at hlt (by omega), kpp,seval]) (by simp -implicitDefEqProofs only [kpp,seval])
      | some q1 =>
        first | refine envO (by simp -implicitDefEqProofs only [vmp,↓vmd,seval]; rfl) ?_ | refine envQ (by simp -implicitDefEqProofs only [vmp,↓vmd,seval]; rfl) ?_
        simp -implicitDefEqProofs only [rowR, Option.getD_some, Option.isSome_some, vmp,↓vmd,seval]
        refine onC_q (rw_q f k ls hl x s.ahead s2) rfl ?_
        generalize rowF (nextF (seesF f k.flags k.set ls) ls.length) ls s.ahead x = o2 at hst ⊢
        cases o2 with
        | none =>
          have miss := miss (by rw [hst]; rfl)
          first | refine envO (by simp -implicitDefEqProofs only [vmp,↓vmd,seval]; rfl) ?_ | refine envQ (by simp -implicitDefEqProofs only [vmp,↓vmd,seval]; rfl) ?_
          simp -implicitDefEqProofs only [rowR, Option.getD_none, Option.isSome_none, vmp,↓vmd,seval]
          refine onBk_to (i + 1) [0, 1] (by simp) rfl (by omega) ⟨hlt, miss⟩ (by simp -implicitDefEqProofs only [next_at hlt (by omega), kpp,seval]) (by simp -implicitDefEqProofs only [kpp,seval])
        | some q2 =>
          have hit := hit (by rw [hst]; rfl)
          subst hit
          first | refine envO (by simp -implicitDefEqProofs only [vmp,↓vmd,seval]; rfl) ?_ | refine envQ (by simp -implicitDefEqProofs only [vmp,↓vmd,seval]; rfl) ?_
          simp -implicitDefEqProofs only [rowR, Option.getD_some, Option.isSome_some, vmp,↓vmd,seval]
          exact gives_tup rfl (by simp)
  · rw [List.drop_of_length_le (by omega), goR] at hr
    subst hr
    simp -implicitDefEqProofs only [h4, vmp,↓vmd,seval]
    unfold c22_0
    simp -implicitDefEqProofs only [vmp,↓vmd,seval]
    exact gives_tup rfl (by simp)
end Go.Proofs.Ytcjmkpkhjhjepaa.W
