/-
  Marks on their hosts: the two functions, one answer. No condition but on sizes.
-/
import Derived.Test.YtbllbkhkmngclaaMarks4
import Derived.Test.YtbllbkhkmngclaaCloneG
namespace Go.Proofs.Ytbllbkhkmngclaa.W
open Go Go.Vm Go.Proofs
set_option maxRecDepth 100000
set_option linter.unusedSimpArgs false
set_option maxHeartbeats 4000000
/-! typecase/marks.Apply -/
def c20_0 : AC :=
  (.seq (.reg [⟨some 8, none, .mov (.c .empty)⟩,
    ⟨some 9, none, .mov (.c (.pure (.bool false)))⟩])
  .ret)
def c20_1 : AC :=
  (.seq (.reg [⟨some 55, none, .bin .lss (.s 54) (.s 53)⟩])
  (.seq (.cond (.s 55)
  .skip
  (.exit 0))
  (.seq (.block 1
  (.seq (.reg [⟨some 56, none, .mov (.s 54)⟩,
    ⟨some 57, none, .idxA 12 (.s 52) (.s 54)⟩,
    ⟨some 58, none, .load true 12 (.s 57)⟩,
    ⟨some 15, none, .box (.c (.agg [.empty, .empty, .empty, .empty, .empty, .empty, .empty, .empty, .empty, .empty, .empty, .empty]))⟩,
    ⟨some 14, none, .mov (.s 56)⟩,
    ⟨none, none, .store 12 (.s 15) (.s 58)⟩])
  (.seq (.reg [⟨some 59, none, .fldA 10 (.s 15)⟩,
    ⟨some 60, none, .load false 1 (.s 59)⟩,
    ⟨some 61, none, .mkfn (.func 60) [] [(.s 12)]⟩,
    ⟨some 62, none, .call 59 [(.s 60), (.s 61)]⟩,
    ⟨some 16, none, .mov (.s 62)⟩])
  (.seq (.seq (.reg [⟨some 63, none, .mov (.s 16)⟩,
    ⟨some 64, none, .bin .lss (.s 63) (.c (.pure (.int .i64 0)))⟩])
  (.cond (.s 64)
  (.exit 1)
  .skip))
  (.seq (.reg [⟨some 65, none, .fldA 10 (.s 15)⟩,
    ⟨some 66, none, .load false 1 (.s 65)⟩,
    ⟨some 67, none, .mov (.s 16)⟩,
    ⟨some 68, none, .idxA 4 (.s 66) (.s 67)⟩,
    ⟨some 69, none, .load true 4 (.s 68)⟩,
    ⟨some 17, none, .box (.c (.pure (.agg [(.int .i64 0), (.int .i64 0), (.int .i64 0), (.int .i64 0)])))⟩,
    ⟨none, none, .store 4 (.s 17) (.s 69)⟩])
  (.seq (.regq [⟨some 71, none, .load true 4 (.s 5)⟩,
    ⟨some 72, none, .mov (.s 14)⟩,
    ⟨some 73, none, .mov (.s 2)⟩,
    ⟨some 74, none, .mov (.s 10)⟩,
    ⟨some 75, none, .idxA 10 (.s 73) (.s 74)⟩,
    ⟨some 76, none, .fldA 0 (.s 75)⟩,
    ⟨some 77, none, .load false 1 (.s 76)⟩,
    ⟨some 78, none, .fldA 1 (.s 17)⟩,
    ⟨some 79, none, .load false 1 (.s 78)⟩,
    ⟨some 80, none, .mov (.s 13)⟩,
    ⟨some 81, none, .call 17 [(.s 71), (.s 72), (.s 77), (.s 79), (.s 80)]⟩,
    ⟨some 70, none, .mov (.s 81)⟩,
    ⟨some 82, none, .ext 0 (.s 70)⟩,
    ⟨some 83, none, .ext 1 (.s 70)⟩,
    ⟨some 18, none, .box (.c (.pure (.agg [(.int .i64 0), (.int .i64 0)])))⟩]
    [⟨none, none, .store 2 (.s 18) (.s 82)⟩,
    ⟨some 19, none, .mov (.s 83)⟩])
  (.seq (.seq (.reg [⟨some 84, none, .mov (.s 19)⟩,
    ⟨some 85, none, .un .not (.s 84)⟩])
  (.cond (.s 85)
  (.exit 1)
  .skip))
  (.seq (.reg [⟨some 86, none, .mov (.s 2)⟩,
    ⟨some 87, none, .call 61 [(.s 86)]⟩,
    ⟨some 20, none, .mov (.s 87)⟩])
  (.seq (.reg [⟨some 88, none, .mov (.s 20)⟩,
    ⟨some 89, none, .mov (.s 3)⟩,
    ⟨some 90, none, .idxA 10 (.s 88) (.s 89)⟩,
    ⟨some 21, none, .mov (.s 90)⟩])
  (.seq (.regm [⟨some 91, none, .mov (.s 21)⟩,
    ⟨some 92, none, .mov (.s 21)⟩,
    ⟨some 93, none, .mov (.s 21)⟩,
    ⟨some 94, none, .mov (.s 21)⟩,
    ⟨some 95, none, .mov (.s 21)⟩,
    ⟨some 96, none, .fldA 0 (.s 18)⟩,
    ⟨some 97, none, .load false 1 (.s 96)⟩,
    ⟨some 98, none, .fldA 2 (.s 17)⟩,
    ⟨some 99, none, .fldA 0 (.s 98)⟩,
    ⟨some 100, none, .load false 1 (.s 99)⟩,
    ⟨some 101, none, .bin .sub (.s 97) (.s 100)⟩,
    ⟨some 102, none, .fldA 1 (.s 18)⟩,
    ⟨some 103, none, .load false 1 (.s 102)⟩,
    ⟨some 104, none, .fldA 2 (.s 17)⟩,
    ⟨some 105, none, .fldA 1 (.s 104)⟩,
    ⟨some 106, none, .load false 1 (.s 105)⟩,
    ⟨some 107, none, .bin .sub (.s 103) (.s 106)⟩,
    ⟨some 108, none, .mov (.s 10)⟩,
    ⟨some 109, none, .nilck (.s 91)⟩,
    ⟨some 110, none, .fldA 2 (.s 109)⟩,
    ⟨some 111, none, .nilck (.s 92)⟩,
    ⟨some 112, none, .fldA 3 (.s 111)⟩,
    ⟨some 113, none, .nilck (.s 93)⟩,
    ⟨some 114, none, .fldA 4 (.s 113)⟩,
    ⟨some 115, none, .nilck (.s 94)⟩,
    ⟨some 116, none, .fldA 5 (.s 115)⟩,
    ⟨some 117, none, .nilck (.s 95)⟩,
    ⟨some 118, none, .fldA 6 (.s 117)⟩]
    [⟨none, none, .store 1 (.s 110) (.c (.pure (.int .i64 0)))⟩,
    ⟨none, none, .store 1 (.s 112) (.s 101)⟩,
    ⟨none, none, .store 1 (.s 114) (.s 107)⟩,
    ⟨none, none, .store 1 (.s 116) (.s 108)⟩,
    ⟨none, none, .store 1 (.s 118) (.c (.pure (.int .i64 (-1))))⟩]
    [⟨some 97, none, .load false 1 (.s 96)⟩,
    ⟨some 100, none, .load false 1 (.s 99)⟩,
    ⟨some 103, none, .load false 1 (.s 102)⟩,
    ⟨some 106, none, .load false 1 (.s 105)⟩])
  (.seq (.reg [⟨some 119, none, .mov (.s 20)⟩,
    ⟨some 8, none, .mov (.s 119)⟩,
    ⟨some 9, none, .mov (.c (.pure (.bool true)))⟩])
  .ret)))))))))))
  (.reg [⟨some 120, none, .bin .add (.s 54) (.c (.pure (.int .i64 1)))⟩,
    ⟨some 54, none, .mov (.s 120)⟩]))))
def c20 : AC :=
  (.seq (.reg [⟨some 4, none, .box (.s 0)⟩,
    ⟨some 5, none, .box (.s 1)⟩,
    ⟨some 8, none, .mov (.c .empty)⟩,
    ⟨some 9, none, .mov (.c (.pure (.bool false)))⟩])
  (.seq (.reg [⟨some 23, none, .load true 6 (.s 4)⟩,
    ⟨some 24, none, .load true 4 (.s 5)⟩,
    ⟨some 25, none, .mov (.s 2)⟩,
    ⟨some 26, none, .mov (.s 3)⟩,
    ⟨some 27, none, .call 15 [(.s 23), (.s 24), (.s 25), (.s 26)]⟩,
    ⟨some 22, none, .mov (.s 27)⟩,
    ⟨some 28, none, .ext 0 (.s 22)⟩,
    ⟨some 29, none, .ext 1 (.s 22)⟩,
    ⟨some 10, none, .mov (.s 28)⟩,
    ⟨some 11, none, .mov (.s 29)⟩])
  (.seq (.seq (.reg [⟨some 30, none, .mov (.s 11)⟩,
    ⟨some 31, none, .un .not (.s 30)⟩])
  (.cond (.s 31)
  (.seq (.reg [⟨some 8, none, .mov (.c .empty)⟩,
    ⟨some 9, none, .mov (.c (.pure (.bool false)))⟩])
  .ret)
  .skip))
  (.seq (.reg [⟨some 32, none, .mov (.s 2)⟩,
    ⟨some 33, none, .mov (.s 3)⟩,
    ⟨some 34, none, .idxA 10 (.s 32) (.s 33)⟩,
    ⟨some 35, none, .load true 10 (.s 34)⟩,
    ⟨some 12, none, .box (.c (.pure (.agg [(.int .i64 0), (.int .i64 0), (.int .i64 0), (.int .i64 0), (.int .i64 0), (.int .i64 0), (.int .i64 0), (.int .i64 0), (.int .i64 0), (.int .i64 0)])))⟩,
    ⟨none, none, .store 10 (.s 12) (.s 35)⟩,
    ⟨some 13, none, .mov (.c (.pure (.int .i64 (-1))))⟩])
  (.seq (.seq (.regq [⟨some 36, none, .fldA 7 (.s 12)⟩,
    ⟨some 37, none, .load false 1 (.s 36)⟩,
    ⟨some 38, none, .bin .neq (.s 37) (.c (.pure (.int .i64 0)))⟩,
    ⟨some 39, none, .mov (.s 38)⟩,
    ⟨some 40, some (39, true), .fldA 7 (.s 12)⟩,
    ⟨some 41, some (39, true), .load false 1 (.s 40)⟩,
    ⟨some 42, some (39, true), .mov (.s 2)⟩,
    ⟨some 43, some (39, true), .mov (.s 10)⟩,
    ⟨some 44, some (39, true), .idxA 10 (.s 42) (.s 43)⟩,
    ⟨some 45, some (39, true), .fldA 7 (.s 44)⟩,
    ⟨some 46, some (39, true), .load false 1 (.s 45)⟩]
    [⟨some 47, some (39, true), .bin .eql (.s 41) (.s 46)⟩,
    ⟨some 48, none, .pick (.s 39) (.s 47) (.c (.pure (.bool false)))⟩])
  (.cond (.s 48)
  (.reg [⟨some 49, none, .fldA 8 (.s 12)⟩,
    ⟨some 50, none, .load false 1 (.s 49)⟩,
    ⟨some 13, none, .mov (.s 50)⟩])
  .skip))
  (.seq (.seq (.reg [⟨some 51, none, .fldA 3 (.s 5)⟩,
    ⟨some 52, none, .load false 1 (.s 51)⟩,
    ⟨some 53, none, .len (.s 52)⟩,
    ⟨some 54, none, .mov (.c (.pure (.int .i64 0)))⟩])
  (.block 0
  (.loop c20_1)))
  c20_0))))))
theorem k20 : (Try.f20.body.bind fun c => cCode Try.prog Try.f20.ntmps RCs c) = some c20 := by kernel_rfl
theorem h20 : (Try.f20.name == "runtime.NumGoroutine") = false := by kernel_rfl
theorem r20 : resC Try.prog Try.f20.results.toList = some [.t 8, .t 9] := by kernel_rfl
theorem a20 {args : List S} {H : Heap} {K : S → Heap → Prop} (hn : args.length ≤ 121) (h : aWx Try.prog H.length c20 (PostX [.t 8, .t 9] K) (argEnv 0 args) H) : CallA Try.prog 20 args H K :=
  callA_of_x mixed Try.func20 h20 k20 r20 (by rw [Try.ntmps20]; exact hn) h
theorem q20 {vs ds : List V} (hn : vs.length ≤ 121) (h : aWx Try.prog 0 c20 (PostX [.t 8, .t 9] (Gives ds)) (argEnv 0 (vs.map .pure)) []) : FnQ Try.prog 20 vs ds :=
  fnQ_of_call (a20 (by simpa using hn) h)
/-! typecase/typecaseref34.mark -/
def c62_0 : AC :=
  (.seq (.reg [⟨some 27, none, .build [(.pure (.int .i64 0)), (.pure (.int .i64 0)), (.pure (.int .i64 0)), (.pure (.int .i64 0))] []⟩,
    ⟨none, none, .store 4 (.s 4) (.s 27)⟩,
    ⟨some 5, none, .mov (.c (.pure (.bool false)))⟩])
  .ret)
def c62_1 : AC :=
  (.seq (.seq (.reg [⟨some 7, none, .mov (.s 6)⟩,
    ⟨some 8, none, .fldA 10 (.s 2)⟩,
    ⟨some 9, none, .load false 1 (.s 8)⟩,
    ⟨some 10, none, .len (.s 9)⟩,
    ⟨some 11, none, .bin .lss (.s 7) (.s 10)⟩])
  (.cond (.s 11)
  .skip
  (.exit 0)))
  (.seq (.block 1
  (.seq (.reg [⟨some 14, none, .fldA 10 (.s 2)⟩,
    ⟨some 15, none, .load false 1 (.s 14)⟩,
    ⟨some 16, none, .mov (.s 6)⟩,
    ⟨some 17, none, .idxA 4 (.s 15) (.s 16)⟩,
    ⟨some 18, none, .fldA 0 (.s 17)⟩,
    ⟨some 19, none, .load false 1 (.s 18)⟩,
    ⟨some 20, none, .mov (.s 1)⟩,
    ⟨some 21, none, .bin .eql (.s 19) (.s 20)⟩])
  (.cond (.s 21)
  (.seq (.reg [⟨some 22, none, .fldA 10 (.s 2)⟩,
    ⟨some 23, none, .load false 1 (.s 22)⟩,
    ⟨some 24, none, .mov (.s 6)⟩,
    ⟨some 25, none, .idxA 4 (.s 23) (.s 24)⟩,
    ⟨some 26, none, .load true 4 (.s 25)⟩,
    ⟨none, none, .store 4 (.s 4) (.s 26)⟩,
    ⟨some 5, none, .mov (.c (.pure (.bool true)))⟩])
  .ret)
  .skip)))
  (.reg [⟨some 12, none, .mov (.s 6)⟩,
    ⟨some 13, none, .bin .add (.s 12) (.c (.pure (.int .i64 1)))⟩,
    ⟨some 6, none, .mov (.s 13)⟩])))
def c62 : AC :=
  (.seq (.reg [⟨some 2, none, .box (.s 0)⟩,
    ⟨some 4, none, .box (.c (.pure (.agg [(.int .i64 0), (.int .i64 0), (.int .i64 0), (.int .i64 0)])))⟩,
    ⟨some 5, none, .mov (.c (.pure (.bool false)))⟩])
  (.seq (.seq (.reg [⟨some 6, none, .mov (.c (.pure (.int .i64 0)))⟩])
  (.block 0
  (.loop c62_1)))
  c62_0))
theorem k62 : (Try.f62.body.bind fun c => cCode Try.prog Try.f62.ntmps RCs c) = some c62 := by kernel_rfl
theorem h62 : (Try.f62.name == "runtime.NumGoroutine") = false := by kernel_rfl
theorem r62 : resC Try.prog Try.f62.results.toList = some [.c 4 true 4, .t 5] := by kernel_rfl
theorem a62 {args : List S} {H : Heap} {K : S → Heap → Prop} (hn : args.length ≤ 28) (h : aWx Try.prog H.length c62 (PostX [.c 4 true 4, .t 5] K) (argEnv 0 args) H) : CallA Try.prog 62 args H K :=
  callA_of_x mixed Try.func62 h62 k62 r62 (by rw [Try.ntmps62]; exact hn) h
theorem q62 {vs ds : List V} (hn : vs.length ≤ 28) (h : aWx Try.prog 0 c62 (PostX [.c 4 true 4, .t 5] (Gives ds)) (argEnv 0 (vs.map .pure)) []) : FnQ Try.prog 62 vs ds :=
  fnQ_of_call (a62 (by simpa using hn) h)
/-! typecase/typecaseref34.Apply -/
def c21_0 : AC :=
  (.seq (.reg [⟨some 8, none, .mov (.c .empty)⟩,
    ⟨some 9, none, .mov (.c (.pure (.bool false)))⟩])
  .ret)
def c21_1 : AC :=
  (.seq (.seq (.reg [⟨some 53, none, .mov (.s 13)⟩,
    ⟨some 54, none, .fldA 3 (.s 5)⟩,
    ⟨some 55, none, .load false 1 (.s 54)⟩,
    ⟨some 56, none, .len (.s 55)⟩,
    ⟨some 57, none, .bin .lss (.s 53) (.s 56)⟩])
  (.cond (.s 57)
  .skip
  (.exit 0)))
  (.seq (.block 1
  (.seq (.regq [⟨some 61, none, .fldA 3 (.s 5)⟩,
    ⟨some 62, none, .load false 1 (.s 61)⟩,
    ⟨some 63, none, .mov (.s 13)⟩,
    ⟨some 64, none, .idxA 12 (.s 62) (.s 63)⟩,
    ⟨some 65, none, .load true 12 (.s 64)⟩,
    ⟨some 66, none, .mov (.s 2)⟩,
    ⟨some 67, none, .mov (.s 3)⟩,
    ⟨some 68, none, .idxA 10 (.s 66) (.s 67)⟩,
    ⟨some 69, none, .fldA 0 (.s 68)⟩,
    ⟨some 70, none, .load false 1 (.s 69)⟩,
    ⟨some 71, none, .call 62 [(.s 65), (.s 70)]⟩,
    ⟨some 60, none, .mov (.s 71)⟩,
    ⟨some 72, none, .ext 0 (.s 60)⟩,
    ⟨some 73, none, .ext 1 (.s 60)⟩,
    ⟨some 14, none, .box (.c (.pure (.agg [(.int .i64 0), (.int .i64 0), (.int .i64 0), (.int .i64 0)])))⟩]
    [⟨none, none, .store 4 (.s 14) (.s 72)⟩,
    ⟨some 15, none, .mov (.s 73)⟩])
  (.seq (.seq (.reg [⟨some 74, none, .mov (.s 15)⟩,
    ⟨some 75, none, .un .not (.s 74)⟩])
  (.cond (.s 75)
  (.exit 1)
  .skip))
  (.seq (.regq [⟨some 77, none, .load true 4 (.s 5)⟩,
    ⟨some 78, none, .mov (.s 13)⟩,
    ⟨some 79, none, .mov (.s 2)⟩,
    ⟨some 80, none, .mov (.s 10)⟩,
    ⟨some 81, none, .idxA 10 (.s 79) (.s 80)⟩,
    ⟨some 82, none, .fldA 0 (.s 81)⟩,
    ⟨some 83, none, .load false 1 (.s 82)⟩,
    ⟨some 84, none, .fldA 1 (.s 14)⟩,
    ⟨some 85, none, .load false 1 (.s 84)⟩,
    ⟨some 86, none, .mov (.s 12)⟩,
    ⟨some 87, none, .call 18 [(.s 77), (.s 78), (.s 83), (.s 85), (.s 86)]⟩,
    ⟨some 76, none, .mov (.s 87)⟩,
    ⟨some 88, none, .ext 0 (.s 76)⟩,
    ⟨some 89, none, .ext 1 (.s 76)⟩,
    ⟨some 16, none, .box (.c (.pure (.agg [(.int .i64 0), (.int .i64 0)])))⟩]
    [⟨none, none, .store 2 (.s 16) (.s 88)⟩,
    ⟨some 17, none, .mov (.s 89)⟩])
  (.seq (.seq (.reg [⟨some 90, none, .mov (.s 17)⟩,
    ⟨some 91, none, .un .not (.s 90)⟩])
  (.cond (.s 91)
  (.exit 1)
  .skip))
  (.seq (.reg [⟨some 18, none, .mov (.c .empty)⟩])
  (.seq (.reg [⟨some 92, none, .mov (.s 18)⟩,
    ⟨some 93, none, .mov (.s 2)⟩,
    ⟨some 94, none, .app 10 80 (.s 92) (.s 93)⟩,
    ⟨some 18, none, .mov (.s 94)⟩])
  (.seq (.reg [⟨some 95, none, .mov (.s 18)⟩,
    ⟨some 96, none, .mov (.s 3)⟩,
    ⟨some 97, none, .idxA 10 (.s 95) (.s 96)⟩,
    ⟨some 98, none, .fldA 2 (.s 97)⟩,
    ⟨none, none, .store 1 (.s 98) (.c (.pure (.int .i64 0)))⟩])
  (.seq (.reg [⟨some 99, none, .mov (.s 18)⟩,
    ⟨some 100, none, .mov (.s 3)⟩,
    ⟨some 101, none, .fldA 0 (.s 16)⟩,
    ⟨some 102, none, .load false 1 (.s 101)⟩,
    ⟨some 103, none, .fldA 2 (.s 14)⟩,
    ⟨some 104, none, .fldA 0 (.s 103)⟩,
    ⟨some 105, none, .load false 1 (.s 104)⟩,
    ⟨some 106, none, .bin .sub (.s 102) (.s 105)⟩,
    ⟨some 107, none, .idxA 10 (.s 99) (.s 100)⟩,
    ⟨some 108, none, .fldA 3 (.s 107)⟩,
    ⟨none, none, .store 1 (.s 108) (.s 106)⟩])
  (.seq (.reg [⟨some 109, none, .mov (.s 18)⟩,
    ⟨some 110, none, .mov (.s 3)⟩,
    ⟨some 111, none, .fldA 1 (.s 16)⟩,
    ⟨some 112, none, .load false 1 (.s 111)⟩,
    ⟨some 113, none, .fldA 2 (.s 14)⟩,
    ⟨some 114, none, .fldA 1 (.s 113)⟩,
    ⟨some 115, none, .load false 1 (.s 114)⟩,
    ⟨some 116, none, .bin .sub (.s 112) (.s 115)⟩,
    ⟨some 117, none, .idxA 10 (.s 109) (.s 110)⟩,
    ⟨some 118, none, .fldA 4 (.s 117)⟩,
    ⟨none, none, .store 1 (.s 118) (.s 116)⟩])
  (.seq (.reg [⟨some 119, none, .mov (.s 18)⟩,
    ⟨some 120, none, .mov (.s 3)⟩,
    ⟨some 121, none, .mov (.s 10)⟩,
    ⟨some 122, none, .idxA 10 (.s 119) (.s 120)⟩,
    ⟨some 123, none, .fldA 5 (.s 122)⟩,
    ⟨none, none, .store 1 (.s 123) (.s 121)⟩])
  (.seq (.reg [⟨some 124, none, .mov (.s 18)⟩,
    ⟨some 125, none, .mov (.s 3)⟩,
    ⟨some 126, none, .idxA 10 (.s 124) (.s 125)⟩,
    ⟨some 127, none, .fldA 6 (.s 126)⟩,
    ⟨none, none, .store 1 (.s 127) (.c (.pure (.int .i64 (-1))))⟩])
  (.seq (.reg [⟨some 128, none, .mov (.s 18)⟩,
    ⟨some 8, none, .mov (.s 128)⟩,
    ⟨some 9, none, .mov (.c (.pure (.bool true)))⟩])
  .ret)))))))))))))
  (.reg [⟨some 58, none, .mov (.s 13)⟩,
    ⟨some 59, none, .bin .add (.s 58) (.c (.pure (.int .i64 1)))⟩,
    ⟨some 13, none, .mov (.s 59)⟩])))
def c21 : AC :=
  (.seq (.reg [⟨some 4, none, .box (.s 0)⟩,
    ⟨some 5, none, .box (.s 1)⟩,
    ⟨some 8, none, .mov (.c .empty)⟩,
    ⟨some 9, none, .mov (.c (.pure (.bool false)))⟩])
  (.seq (.reg [⟨some 20, none, .load true 6 (.s 4)⟩,
    ⟨some 21, none, .load true 4 (.s 5)⟩,
    ⟨some 22, none, .mov (.s 2)⟩,
    ⟨some 23, none, .mov (.s 3)⟩,
    ⟨some 24, none, .call 16 [(.s 20), (.s 21), (.s 22), (.s 23)]⟩,
    ⟨some 19, none, .mov (.s 24)⟩,
    ⟨some 25, none, .ext 0 (.s 19)⟩,
    ⟨some 26, none, .ext 1 (.s 19)⟩,
    ⟨some 10, none, .mov (.s 25)⟩,
    ⟨some 11, none, .mov (.s 26)⟩])
  (.seq (.seq (.reg [⟨some 27, none, .mov (.s 11)⟩,
    ⟨some 28, none, .un .not (.s 27)⟩])
  (.cond (.s 28)
  (.seq (.reg [⟨some 8, none, .mov (.c .empty)⟩,
    ⟨some 9, none, .mov (.c (.pure (.bool false)))⟩])
  .ret)
  .skip))
  (.seq (.reg [⟨some 12, none, .mov (.c (.pure (.int .i64 (-1))))⟩])
  (.seq (.seq (.regq [⟨some 29, none, .mov (.s 2)⟩,
    ⟨some 30, none, .mov (.s 3)⟩,
    ⟨some 31, none, .idxA 10 (.s 29) (.s 30)⟩,
    ⟨some 32, none, .fldA 7 (.s 31)⟩,
    ⟨some 33, none, .load false 1 (.s 32)⟩,
    ⟨some 34, none, .bin .neq (.s 33) (.c (.pure (.int .i64 0)))⟩,
    ⟨some 35, none, .mov (.s 34)⟩,
    ⟨some 36, some (35, true), .mov (.s 2)⟩,
    ⟨some 37, some (35, true), .mov (.s 3)⟩,
    ⟨some 38, some (35, true), .idxA 10 (.s 36) (.s 37)⟩,
    ⟨some 39, some (35, true), .fldA 7 (.s 38)⟩,
    ⟨some 40, some (35, true), .load false 1 (.s 39)⟩,
    ⟨some 41, some (35, true), .mov (.s 2)⟩,
    ⟨some 42, some (35, true), .mov (.s 10)⟩,
    ⟨some 43, some (35, true), .idxA 10 (.s 41) (.s 42)⟩,
    ⟨some 44, some (35, true), .fldA 7 (.s 43)⟩,
    ⟨some 45, some (35, true), .load false 1 (.s 44)⟩]
    [⟨some 46, some (35, true), .bin .eql (.s 40) (.s 45)⟩,
    ⟨some 47, none, .pick (.s 35) (.s 46) (.c (.pure (.bool false)))⟩])
  (.cond (.s 47)
  (.reg [⟨some 48, none, .mov (.s 2)⟩,
    ⟨some 49, none, .mov (.s 3)⟩,
    ⟨some 50, none, .idxA 10 (.s 48) (.s 49)⟩,
    ⟨some 51, none, .fldA 8 (.s 50)⟩,
    ⟨some 52, none, .load false 1 (.s 51)⟩,
    ⟨some 12, none, .mov (.s 52)⟩])
  .skip))
  (.seq (.seq (.reg [⟨some 13, none, .mov (.c (.pure (.int .i64 0)))⟩])
  (.block 0
  (.loop c21_1)))
  c21_0))))))
theorem k21 : (Try.f21.body.bind fun c => cCode Try.prog Try.f21.ntmps RCs c) = some c21 := by kernel_rfl
theorem h21 : (Try.f21.name == "runtime.NumGoroutine") = false := by kernel_rfl
theorem r21 : resC Try.prog Try.f21.results.toList = some [.t 8, .t 9] := by kernel_rfl
theorem a21 {args : List S} {H : Heap} {K : S → Heap → Prop} (hn : args.length ≤ 129) (h : aWx Try.prog H.length c21 (PostX [.t 8, .t 9] K) (argEnv 0 args) H) : CallA Try.prog 21 args H K :=
  callA_of_x mixed Try.func21 h21 k21 r21 (by rw [Try.ntmps21]; exact hn) h
theorem q21 {vs ds : List V} (hn : vs.length ≤ 129) (h : aWx Try.prog 0 c21 (PostX [.t 8, .t 9] (Gives ds)) (argEnv 0 (vs.map .pure)) []) : FnQ Try.prog 21 vs ds :=
  fnQ_of_call (a21 (by simpa using hn) h)

def mR (o : Option (List Gl)) : List V := [.sl ((o.getD []).map gl), .bool o.isSome]
theorem goM_step {k : Lk} {g host comp : Int} {i : Nat} {s : Sub} {r : List Sub} : goM k g host comp i (s :: r) = match findMk s.marks g with
    | some m => (match anchorF k i host m.cls comp with
      | some a => some (m, a)
      | none => goM k g host comp (i + 1) r)
    | none => goM k g host comp (i + 1) r := rfl
def hangM (ls : List Gl) (y p : Int) : Option (Mk × (Int × Int)) → Option (List Gl)
  | none => none
  | some q => some (ls.set y.toNat (hangG (glAt ls y) q.1 q.2 p))
def envM (k : Lk) (ls : List Gl) (y p c : Int) (i : Nat) : Env := [(54, .pure (I i)), (53, .pure (I k.subs.length)), (52, .pure (.sl (k.subs.map sub))), (2, .pure (.sl (ls.map gl))), (3, .pure (I y)), (5, .ptr 0 0 0), (10, .pure (I p)), (12, .ptr 1 0 0), (13, .pure (I c))]
def rowM (k : Lk) (g : Gl) : Heap := [⟨[.pure (lk k)], 4, .live⟩, ⟨[.pure (gl g)], 10, .live⟩]
theorem envM_eq {k : Lk} {ls : List Gl} {y p c : Int} {i : Nat} : envM k ls y p c i = [(54, .pure (I i)), (53, .pure (I k.subs.length)), (52, .pure (.sl (k.subs.map sub))), (2, .pure (.sl (ls.map gl))), (3, .pure (I y)), (5, .ptr 0 0 0), (10, .pure (I p)), (12, .ptr 1 0 0), (13, .pure (I c))] := rfl
theorem rowM_eq {k : Lk} {g : Gl} : rowM k g = [⟨[.pure (lk k)], 4, .live⟩, ⟨[.pure (gl g)], 10, .live⟩] := rfl
theorem apply34_loop (k : Lk) (ls : List Gl) (hl : ls.length ≤ 1000) (hs : ∀ s ∈ k.subs, s.marks.length ≤ 1000 ∧ s.hosts.length ≤ 1000) (hk : k.subs.length ≤ 9223372036854775807) (y p c : Int) (y0 : 0 ≤ y) (y1 : y < ls.length) (p0 : 0 ≤ p) (p2 : p < ls.length) (out : Option (List Gl))
    (hv : out = hangM ls y p (goM k (glAt ls y).id (glAt ls p).id c 0 k.subs)) (l : List Nat) (hln : l.Nodup) {env : Env} {H : Heap} (hE : keepE env l.length (pick l) (envM k ls y p c 0)) (hH : keepH H l.length (pick l) l (rowM k (glAt ls y))) :
    aWx Try.prog 0 (.loop c20_1) (blockA 0 (thenA (aWx Try.prog 0 c20_0 (PostX [.t 8, .t 9] (GivesF (mR out)))) (PostX [.t 8, .t 9] (GivesF (mR out))))) env H := by
  have hgy := glAt_map y0 y1
  have hgp := glAt_map p0 p2
  refine loop_at (T := Nat) (envM k ls y p c) (fun _ => rowM k (glAt ls y)) (fun i => i ≤ k.subs.length ∧ goM k (glAt ls y).id (glAt ls p).id c i (k.subs.drop i) = goM k (glAt ls y).id (glAt ls p).id c 0 k.subs) (fun i => k.subs.length - i)
    0 l hln rfl ⟨by simp, by simp⟩ hE hH ?_
  rintro i ⟨hi, hr⟩
  rw [envM_eq, rowM_eq]
  unfold c20_1
  simp -implicitDefEqProofs only [vmp,↓vmd,Env.get,putD,argEnv,List.map,x00,x01,x02,x03,x04,x05,x06,x07,List.take,List.drop,x08,x09,x0a,x0b,List.isEmpty,↓reduceIte,reduceCtorEq,Nat.reduceEqDiff,Nat.reduceAdd,Nat.reduceLeDiff,x0c,Int.reduceNeg,Nat.reduceMul,Nat.reduceSub,x0d,x0e,x0f,x0g,x0h,x0i,x0j,x0k,Int.reduceEq,Int.reduceLT,Int.reduceLE,Int.reduceToNat,Int.cast_ofNat_Int,List.reduceReplicate]
  refine onB_dec (fun h1 => ?_) (fun h1 => ?_)
  · have hlt : i < k.subs.length := by omega
    rw [drop_at hlt, goM_step] at hr
    have hsi := hs k.subs[i] (List.getElem_mem _)
    have hgi : (k.subs.map sub)[i]? = some (sub k.subs[i]) := map_at hlt
    generalize k.subs[i] = s at hr hsi hgi
    simp -implicitDefEqProofs only [h1, hgi, Int.natCast_nonneg, vmp,↓vmd,Env.get,putD,argEnv,List.map,x00,x01,x02,x03,x04,x05,x06,x07,List.take,List.drop,x08,x09,x0a,x0b,List.isEmpty,↓reduceIte,reduceCtorEq,Nat.reduceEqDiff,Nat.reduceAdd,Nat.reduceLeDiff,x0c,Int.reduceNeg,Nat.reduceMul,Nat.reduceSub,x0d,x0e,x0f,x0g,x0h,x0i,x0j,x0k,Int.reduceEq,Int.reduceLT,Int.reduceLE,Int.reduceToNat,Int.cast_ofNat_Int,List.reduceReplicate]
    refine onC_fr (ixmk_c (glAt ls y) s.marks hsi.1) [1] (by simp) (by simp -implicitDefEqProofs only [kpp,Env.get,x01,x00,x02,x03,List.map,x08,x09,↓reduceIte,reduceCtorEq,Nat.reduceEqDiff,Nat.reduceLeDiff,Nat.reduceLT,Nat.reduceAdd,x0j,x0l,x0m,x0n,x0o,Int.cast_ofNat_Int,x0p,x0i,x07,x06,x0q,x0r,x0s,x0t,x0d,x0u]) rfl rfl (by simp) ?_
    first | refine envO (by simp -implicitDefEqProofs only [vmp,↓vmd,Env.get,putD,argEnv,List.map,x00,x01,x02,x03,x04,x05,x06,x07,List.take,List.drop,x08,x09,x0a,x0b,List.isEmpty,↓reduceIte,reduceCtorEq,Nat.reduceEqDiff,Nat.reduceAdd,Nat.reduceLeDiff,x0c,Int.reduceNeg,Nat.reduceMul,Nat.reduceSub,x0d,x0e,x0f,x0g,x0h,x0i,x0j,x0k,Int.reduceEq,Int.reduceLT,Int.reduceLE,Int.reduceToNat,Int.cast_ofNat_Int,List.reduceReplicate]; rfl) ?_ | refine envQ (by simp -implicitDefEqProofs only [vmp,↓vmd,Env.get,putD,argEnv,List.map,x00,x01,x02,x03,x04,x05,x06,x07,List.take,List.drop,x08,x09,x0a,x0b,List.isEmpty,↓reduceIte,reduceCtorEq,Nat.reduceEqDiff,Nat.reduceAdd,Nat.reduceLeDiff,x0c,Int.reduceNeg,Nat.reduceMul,Nat.reduceSub,x0d,x0e,x0f,x0g,x0h,x0i,x0j,x0k,Int.reduceEq,Int.reduceLT,Int.reduceLE,Int.reduceToNat,Int.cast_ofNat_Int,List.reduceReplicate]; rfl) ?_
    simp -implicitDefEqProofs only [vmp,↓vmd,Env.get,putD,argEnv,List.map,x00,x01,x02,x03,x04,x05,x06,x07,List.take,List.drop,x08,x09,x0a,x0b,List.isEmpty,↓reduceIte,reduceCtorEq,Nat.reduceEqDiff,Nat.reduceAdd,Nat.reduceLeDiff,x0c,Int.reduceNeg,Nat.reduceMul,Nat.reduceSub,x0d,x0e,x0f,x0g,x0h,x0i,x0j,x0k,Int.reduceEq,Int.reduceLT,Int.reduceLE,Int.reduceToNat,Int.cast_ofNat_Int,List.reduceReplicate]
    rcases ix_mk (glAt ls y).id s.marks 0 with ⟨h2, h3⟩ | ⟨n, hn, h2, h3⟩
    · rw [h3] at hr
      simp -implicitDefEqProofs only [h2, vmp,↓vmd,Env.get,putD,argEnv,List.map,x00,x01,x02,x03,x04,x05,x06,x07,List.take,List.drop,x08,x09,x0a,x0b,List.isEmpty,↓reduceIte,reduceCtorEq,Nat.reduceEqDiff,Nat.reduceAdd,Nat.reduceLeDiff,x0c,Int.reduceNeg,Nat.reduceMul,Nat.reduceSub,x0d,x0e,x0f,x0g,x0h,x0i,x0j,x0k,Int.reduceEq,Int.reduceLT,Int.reduceLE,Int.reduceToNat,Int.cast_ofNat_Int,List.reduceReplicate]
      refine onBk_to (i + 1) [0, 1] (by simp) rfl (by omega) ⟨hlt, hr⟩ (by simp -implicitDefEqProofs only [envM_eq, next_at hlt (by omega), kpp,Env.get,x01,x00,x02,x03,List.map,x08,x09,↓reduceIte,reduceCtorEq,Nat.reduceEqDiff,Nat.reduceLeDiff,Nat.reduceLT,Nat.reduceAdd,x0j,x0l,x0m,x0n,x0o,Int.cast_ofNat_Int,x0p,x0i,x07,x06,x0q,x0r,x0s,x0t,x0d,x0u]) (by simp -implicitDefEqProofs only [rowM_eq, kpp,Env.get,x01,x00,x02,x03,List.map,x08,x09,↓reduceIte,reduceCtorEq,Nat.reduceEqDiff,Nat.reduceLeDiff,Nat.reduceLT,Nat.reduceAdd,x0j,x0l,x0m,x0n,x0o,Int.cast_ofNat_Int,x0p,x0i,x07,x06,x0q,x0r,x0s,x0t,x0d,x0u])
    rw [h3] at hr
    rw [Nat.zero_add] at h2
    have hgm : (s.marks.map mk)[n]? = some (mk s.marks[n]) := map_at hn
    generalize s.marks[n] = m at hr hgm
    simp only at hr
    have n0 : ¬ (n : Int) < 0 := by omega
    simp -implicitDefEqProofs only [h2, n0, hgm, Int.natCast_nonneg, p0, p2, hgp, vmp,↓vmd,Env.get,putD,argEnv,List.map,x00,x01,x02,x03,x04,x05,x06,x07,List.take,List.drop,x08,x09,x0a,x0b,List.isEmpty,↓reduceIte,reduceCtorEq,Nat.reduceEqDiff,Nat.reduceAdd,Nat.reduceLeDiff,x0c,Int.reduceNeg,Nat.reduceMul,Nat.reduceSub,x0d,x0e,x0f,x0g,x0h,x0i,x0j,x0k,Int.reduceEq,Int.reduceLT,Int.reduceLE,Int.reduceToNat,Int.cast_ofNat_Int,List.reduceReplicate]
    refine onQ_q (anchor_q k (fun s h => (hs s h).2) (i : Int) (glAt ls p).id m.cls c) rfl ?_
    generalize anchorF k (i : Int) (glAt ls p).id m.cls c = a at hr
    cases a with
    | none =>
      simp only at hr
      first | refine envO (by simp -implicitDefEqProofs only [vmp,↓vmd,Env.get,putD,argEnv,List.map,x00,x01,x02,x03,x04,x05,x06,x07,List.take,List.drop,x08,x09,x0a,x0b,List.isEmpty,↓reduceIte,reduceCtorEq,Nat.reduceEqDiff,Nat.reduceAdd,Nat.reduceLeDiff,x0c,Int.reduceNeg,Nat.reduceMul,Nat.reduceSub,x0d,x0e,x0f,x0g,x0h,x0i,x0j,x0k,Int.reduceEq,Int.reduceLT,Int.reduceLE,Int.reduceToNat,Int.cast_ofNat_Int,List.reduceReplicate]; rfl) ?_ | refine envQ (by simp -implicitDefEqProofs only [vmp,↓vmd,Env.get,putD,argEnv,List.map,x00,x01,x02,x03,x04,x05,x06,x07,List.take,List.drop,x08,x09,x0a,x0b,List.isEmpty,↓reduceIte,reduceCtorEq,Nat.reduceEqDiff,Nat.reduceAdd,Nat.reduceLeDiff,x0c,Int.reduceNeg,Nat.reduceMul,Nat.reduceSub,x0d,x0e,x0f,x0g,x0h,x0i,x0j,x0k,Int.reduceEq,Int.reduceLT,Int.reduceLE,Int.reduceToNat,Int.cast_ofNat_Int,List.reduceReplicate]; rfl) ?_
      simp -implicitDefEqProofs only [ancR, Option.getD_none, Option.isSome_none, vmp,↓vmd,Env.get,putD,argEnv,List.map,x00,x01,x02,x03,x04,x05,x06,x07,List.take,List.drop,x08,x09,x0a,x0b,List.isEmpty,↓reduceIte,reduceCtorEq,Nat.reduceEqDiff,Nat.reduceAdd,Nat.reduceLeDiff,x0c,Int.reduceNeg,Nat.reduceMul,Nat.reduceSub,x0d,x0e,x0f,x0g,x0h,x0i,x0j,x0k,Int.reduceEq,Int.reduceLT,Int.reduceLE,Int.reduceToNat,Int.cast_ofNat_Int,List.reduceReplicate]
      refine onBk_to (i + 1) [0, 1] (by simp) rfl (by omega) ⟨hlt, hr⟩ (by simp -implicitDefEqProofs only [envM_eq, next_at hlt (by omega), kpp,Env.get,x01,x00,x02,x03,List.map,x08,x09,↓reduceIte,reduceCtorEq,Nat.reduceEqDiff,Nat.reduceLeDiff,Nat.reduceLT,Nat.reduceAdd,x0j,x0l,x0m,x0n,x0o,Int.cast_ofNat_Int,x0p,x0i,x07,x06,x0q,x0r,x0s,x0t,x0d,x0u]) (by simp -implicitDefEqProofs only [rowM_eq, kpp,Env.get,x01,x00,x02,x03,List.map,x08,x09,↓reduceIte,reduceCtorEq,Nat.reduceEqDiff,Nat.reduceLeDiff,Nat.reduceLT,Nat.reduceAdd,x0j,x0l,x0m,x0n,x0o,Int.cast_ofNat_Int,x0p,x0i,x07,x06,x0q,x0r,x0s,x0t,x0d,x0u])
    | some a =>
      simp only at hr
      rw [← hr] at hv
      rw [hangM] at hv
      simp only at hv
      have w0 : (0 : Int) = (0 : Int) := rfl
      subst hv
      first | refine envO (by simp -implicitDefEqProofs only [vmp,↓vmd,Env.get,putD,argEnv,List.map,x00,x01,x02,x03,x04,x05,x06,x07,List.take,List.drop,x08,x09,x0a,x0b,List.isEmpty,↓reduceIte,reduceCtorEq,Nat.reduceEqDiff,Nat.reduceAdd,Nat.reduceLeDiff,x0c,Int.reduceNeg,Nat.reduceMul,Nat.reduceSub,x0d,x0e,x0f,x0g,x0h,x0i,x0j,x0k,Int.reduceEq,Int.reduceLT,Int.reduceLE,Int.reduceToNat,Int.cast_ofNat_Int,List.reduceReplicate]; rfl) ?_ | refine envQ (by simp -implicitDefEqProofs only [vmp,↓vmd,Env.get,putD,argEnv,List.map,x00,x01,x02,x03,x04,x05,x06,x07,List.take,List.drop,x08,x09,x0a,x0b,List.isEmpty,↓reduceIte,reduceCtorEq,Nat.reduceEqDiff,Nat.reduceAdd,Nat.reduceLeDiff,x0c,Int.reduceNeg,Nat.reduceMul,Nat.reduceSub,x0d,x0e,x0f,x0g,x0h,x0i,x0j,x0k,Int.reduceEq,Int.reduceLT,Int.reduceLE,Int.reduceToNat,Int.cast_ofNat_Int,List.reduceReplicate]; rfl) ?_
      simp -implicitDefEqProofs only [ancR, Option.getD_some, Option.isSome_some, vmp,↓vmd,Env.get,putD,argEnv,List.map,x00,x01,x02,x03,x04,x05,x06,x07,List.take,List.drop,x08,x09,x0a,x0b,List.isEmpty,↓reduceIte,reduceCtorEq,Nat.reduceEqDiff,Nat.reduceAdd,Nat.reduceLeDiff,x0c,Int.reduceNeg,Nat.reduceMul,Nat.reduceSub,x0d,x0e,x0f,x0g,x0h,x0i,x0j,x0k,Int.reduceEq,Int.reduceLT,Int.reduceLE,Int.reduceToNat,Int.cast_ofNat_Int,List.reduceReplicate]
      refine onC_fr (cloneG_c ls hl) [] (by simp) trivial rfl rfl (by simp) ?_
      first | refine envO (by simp -implicitDefEqProofs only [vmp,↓vmd,Env.get,putD,argEnv,List.map,x00,x01,x02,x03,x04,x05,x06,x07,List.take,List.drop,x08,x09,x0a,x0b,List.isEmpty,↓reduceIte,reduceCtorEq,Nat.reduceEqDiff,Nat.reduceAdd,Nat.reduceLeDiff,x0c,Int.reduceNeg,Nat.reduceMul,Nat.reduceSub,x0d,x0e,x0f,x0g,x0h,x0i,x0j,x0k,Int.reduceEq,Int.reduceLT,Int.reduceLE,Int.reduceToNat,Int.cast_ofNat_Int,List.reduceReplicate]; rfl) ?_ | refine envQ (by simp -implicitDefEqProofs only [vmp,↓vmd,Env.get,putD,argEnv,List.map,x00,x01,x02,x03,x04,x05,x06,x07,List.take,List.drop,x08,x09,x0a,x0b,List.isEmpty,↓reduceIte,reduceCtorEq,Nat.reduceEqDiff,Nat.reduceAdd,Nat.reduceLeDiff,x0c,Int.reduceNeg,Nat.reduceMul,Nat.reduceSub,x0d,x0e,x0f,x0g,x0h,x0i,x0j,x0k,Int.reduceEq,Int.reduceLT,Int.reduceLE,Int.reduceToNat,Int.cast_ofNat_Int,List.reduceReplicate]; rfl) ?_
      have hgr := glAt_row y0 y1
      have hset : ∀ (L : List Gl) (c0 c1 c2 c3 c4 c5 c6 c7 c8 c9 : Int), ((L.map gl).map S.pure).set y.toNat (.pure (.agg [I c0, I c1, I c2, I c3, I c4, I c5, I c6, I c7, I c8, I c9])) = ((L.set y.toNat ⟨c0, c1, c2, c3, c4, c5, c6, c7, c8, c9⟩).map gl).map S.pure := fun L c0 c1 c2 c3 c4 c5 c6 c7 c8 c9 => row_set (f := gl) (a := ⟨c0, c1, c2, c3, c4, c5, c6, c7, c8, c9⟩)
      have hat : ∀ g, (((ls.set y.toNat g).map gl).map S.pure)[y.toNat]? = some (.pure (gl g)) := fun g => by
        have := glAt_row (ls := ls.set y.toNat g) y0 (by rw [List.length_set]; exact y1)
        rw [this, glAt_set, if_pos ⟨rfl, by omega⟩]
      simp -implicitDefEqProofs only [y0, y1, hgr, hset, hat, List.set_set, vmp,↓vmd,Env.get,putD,argEnv,List.map,x00,x01,x02,x03,x04,x05,x06,x07,List.take,List.drop,x08,x09,x0a,x0b,List.isEmpty,↓reduceIte,reduceCtorEq,Nat.reduceEqDiff,Nat.reduceAdd,Nat.reduceLeDiff,x0c,Int.reduceNeg,Nat.reduceMul,Nat.reduceSub,x0d,x0e,x0f,x0g,x0h,x0i,x0j,x0k,Int.reduceEq,Int.reduceLT,Int.reduceLE,Int.reduceToNat,Int.cast_ofNat_Int,List.reduceReplicate]
      exact givesF_tup (toVs_of (toV_rowN rfl (.inr ⟨rfl, rfl⟩) (by simp)) rfl) (by simp) (.cons (fresh_row rfl (fun _ => rfl) (by simp)) (.cons (.pure _ rfl) .nil))
  · rw [List.drop_of_length_le (by omega), goM] at hr
    rw [← hr, hangM] at hv
    subst hv
    simp -implicitDefEqProofs only [h1, vmp,↓vmd,Env.get,putD,argEnv,List.map,x00,x01,x02,x03,x04,x05,x06,x07,List.take,List.drop,x08,x09,x0a,x0b,List.isEmpty,↓reduceIte,reduceCtorEq,Nat.reduceEqDiff,Nat.reduceAdd,Nat.reduceLeDiff,x0c,Int.reduceNeg,Nat.reduceMul,Nat.reduceSub,x0d,x0e,x0f,x0g,x0h,x0i,x0j,x0k,Int.reduceEq,Int.reduceLT,Int.reduceLE,Int.reduceToNat,Int.cast_ofNat_Int,List.reduceReplicate]
    unfold c20_0
    simp -implicitDefEqProofs only [vmp,↓vmd,Env.get,putD,argEnv,List.map,x00,x01,x02,x03,x04,x05,x06,x07,List.take,List.drop,x08,x09,x0a,x0b,List.isEmpty,↓reduceIte,reduceCtorEq,Nat.reduceEqDiff,Nat.reduceAdd,Nat.reduceLeDiff,x0c,Int.reduceNeg,Nat.reduceMul,Nat.reduceSub,x0d,x0e,x0f,x0g,x0h,x0i,x0j,x0k,Int.reduceEq,Int.reduceLT,Int.reduceLE,Int.reduceToNat,Int.cast_ofNat_Int,List.reduceReplicate]
    exact givesF_tup rfl (by simp) (.cons .empty (.cons (.pure _ rfl) .nil))
theorem apply34_f (f : Fo) (k : Lk) (ls : List Gl) (hl : ls.length ≤ 1000) (hs : ∀ s ∈ k.subs, s.marks.length ≤ 1000 ∧ s.hosts.length ≤ 1000) (y : Int) : FnF Try.prog 20 [fo f, lk k, .sl (ls.map gl), I y] (mR (markF f k ls y)) := by
  have key : aWx Try.prog 0 c20 (PostX [.t 8, .t 9] (GivesF (mR (markF f k ls y)))) (argEnv 0 ([fo f, lk k, .sl (ls.map gl), I y].map .pure)) [] := ?_
  · exact fnF_of_call (a20 (by simp) key)
  unfold c20
  have hq := host_q f k ls hl y
  have hin := @hostF_in f k ls y
  have hv : markF f k ls y = match hostF f k ls y with
    | none => none
    | some p => hangM ls y p (goM k (glAt ls y).id (glAt ls p).id (compF (glAt ls y) (glAt ls p)) 0 k.subs) := by
    rw [markF]
    cases hostF f k ls y with
    | none => rfl
    | some p =>
      simp only
      cases goM k (glAt ls y).id (glAt ls p).id (compF (glAt ls y) (glAt ls p)) 0 k.subs <;> rfl
  generalize markF f k ls y = out at *
  generalize hostF f k ls y = o at *
  simp -implicitDefEqProofs only [*, vmp,↓vmd,Env.get,putD,argEnv,List.map,x00,x01,x02,x03,x04,x05,x06,x07,List.take,List.drop,x08,x09,x0a,x0b,List.isEmpty,↓reduceIte,reduceCtorEq,Nat.reduceEqDiff,Nat.reduceAdd,Nat.reduceLeDiff,x0c,Int.reduceNeg,Nat.reduceMul,Nat.reduceSub,x0d,x0e,x0f,x0g,x0h,x0i,x0j,x0k,Int.reduceEq,Int.reduceLT,Int.reduceLE,Int.reduceToNat,Int.cast_ofNat_Int,List.reduceReplicate]
  refine onC_q hq rfl ?_
  cases o with
  | none =>
    subst hv
    simp -implicitDefEqProofs only [hostR, Option.getD_none, Option.isSome_none, vmp,↓vmd,Env.get,putD,argEnv,List.map,x00,x01,x02,x03,x04,x05,x06,x07,List.take,List.drop,x08,x09,x0a,x0b,List.isEmpty,↓reduceIte,reduceCtorEq,Nat.reduceEqDiff,Nat.reduceAdd,Nat.reduceLeDiff,x0c,Int.reduceNeg,Nat.reduceMul,Nat.reduceSub,x0d,x0e,x0f,x0g,x0h,x0i,x0j,x0k,Int.reduceEq,Int.reduceLT,Int.reduceLE,Int.reduceToNat,Int.cast_ofNat_Int,List.reduceReplicate]
    exact givesF_tup rfl (by simp) (.cons .empty (.cons (.pure _ rfl) .nil))
  | some p =>
    obtain ⟨y0, y1, h3, p0, p1⟩ := hin rfl
    have p2 : p < ls.length := by omega
    have hgy := glAt_map y0 y1
    have hgp := glAt_map p0 p2
    simp only at hv
    simp -implicitDefEqProofs only [hostR, Option.getD_some, Option.isSome_some, y0, y1, hgy, vmp,↓vmd,Env.get,putD,argEnv,List.map,x00,x01,x02,x03,x04,x05,x06,x07,List.take,List.drop,x08,x09,x0a,x0b,List.isEmpty,↓reduceIte,reduceCtorEq,Nat.reduceEqDiff,Nat.reduceAdd,Nat.reduceLeDiff,x0c,Int.reduceNeg,Nat.reduceMul,Nat.reduceSub,x0d,x0e,x0f,x0g,x0h,x0i,x0j,x0k,Int.reduceEq,Int.reduceLT,Int.reduceLE,Int.reduceToNat,Int.cast_ofNat_Int,List.reduceReplicate]
    by_cases hlig : (glAt ls y).lig = 0
    · rw [compF, if_neg (fun e => e.1 hlig)] at hv
      simp -implicitDefEqProofs only [hlig, vmp,↓vmd,Env.get,putD,argEnv,List.map,x00,x01,x02,x03,x04,x05,x06,x07,List.take,List.drop,x08,x09,x0a,x0b,List.isEmpty,↓reduceIte,reduceCtorEq,Nat.reduceEqDiff,Nat.reduceAdd,Nat.reduceLeDiff,x0c,Int.reduceNeg,Nat.reduceMul,Nat.reduceSub,x0d,x0e,x0f,x0g,x0h,x0i,x0j,x0k,Int.reduceEq,Int.reduceLT,Int.reduceLE,Int.reduceToNat,Int.cast_ofNat_Int,List.reduceReplicate]
      refine onIf_intro fun hk => ?_
      first | refine envO (by simp -implicitDefEqProofs only [vmp,↓vmd,Env.get,putD,argEnv,List.map,x00,x01,x02,x03,x04,x05,x06,x07,List.take,List.drop,x08,x09,x0a,x0b,List.isEmpty,↓reduceIte,reduceCtorEq,Nat.reduceEqDiff,Nat.reduceAdd,Nat.reduceLeDiff,x0c,Int.reduceNeg,Nat.reduceMul,Nat.reduceSub,x0d,x0e,x0f,x0g,x0h,x0i,x0j,x0k,Int.reduceEq,Int.reduceLT,Int.reduceLE,Int.reduceToNat,Int.cast_ofNat_Int,List.reduceReplicate]; rfl) ?_ | refine envQ (by simp -implicitDefEqProofs only [vmp,↓vmd,Env.get,putD,argEnv,List.map,x00,x01,x02,x03,x04,x05,x06,x07,List.take,List.drop,x08,x09,x0a,x0b,List.isEmpty,↓reduceIte,reduceCtorEq,Nat.reduceEqDiff,Nat.reduceAdd,Nat.reduceLeDiff,x0c,Int.reduceNeg,Nat.reduceMul,Nat.reduceSub,x0d,x0e,x0f,x0g,x0h,x0i,x0j,x0k,Int.reduceEq,Int.reduceLT,Int.reduceLE,Int.reduceToNat,Int.cast_ofNat_Int,List.reduceReplicate]; rfl) ?_
      simp -implicitDefEqProofs only [hlig, vmp,↓vmd,Env.get,putD,argEnv,List.map,x00,x01,x02,x03,x04,x05,x06,x07,List.take,List.drop,x08,x09,x0a,x0b,List.isEmpty,↓reduceIte,reduceCtorEq,Nat.reduceEqDiff,Nat.reduceAdd,Nat.reduceLeDiff,x0c,Int.reduceNeg,Nat.reduceMul,Nat.reduceSub,x0d,x0e,x0f,x0g,x0h,x0i,x0j,x0k,Int.reduceEq,Int.reduceLT,Int.reduceLE,Int.reduceToNat,Int.cast_ofNat_Int,List.reduceReplicate]
      exact apply34_loop k ls hl hs hk y p (-1) y0 y1 p0 p2 out hv [1, 2] (by simp) (by simp -implicitDefEqProofs only [envM_eq, kpp,Env.get,x01,x00,x02,x03,List.map,x08,x09,↓reduceIte,reduceCtorEq,Nat.reduceEqDiff,Nat.reduceLeDiff,Nat.reduceLT,Nat.reduceAdd,x0j,x0l,x0m,x0n,x0o,Int.cast_ofNat_Int,x0p,x0i,x07,x06,x0q,x0r,x0s,x0t,x0d,x0u]) (by simp -implicitDefEqProofs only [rowM_eq, kpp,Env.get,x01,x00,x02,x03,List.map,x08,x09,↓reduceIte,reduceCtorEq,Nat.reduceEqDiff,Nat.reduceLeDiff,Nat.reduceLT,Nat.reduceAdd,x0j,x0l,x0m,x0n,x0o,Int.cast_ofNat_Int,x0p,x0i,x07,x06,x0q,x0r,x0s,x0t,x0d,x0u])
    simp -implicitDefEqProofs only [hlig, p0, p2, hgp, vmp,↓vmd,Env.get,putD,argEnv,List.map,x00,x01,x02,x03,x04,x05,x06,x07,List.take,List.drop,x08,x09,x0a,x0b,List.isEmpty,↓reduceIte,reduceCtorEq,Nat.reduceEqDiff,Nat.reduceAdd,Nat.reduceLeDiff,x0c,Int.reduceNeg,Nat.reduceMul,Nat.reduceSub,x0d,x0e,x0f,x0g,x0h,x0i,x0j,x0k,Int.reduceEq,Int.reduceLT,Int.reduceLE,Int.reduceToNat,Int.cast_ofNat_Int,List.reduceReplicate]
    by_cases hl2 : (glAt ls y).lig = (glAt ls p).lig
    · rw [compF, if_pos ⟨hlig, hl2⟩] at hv
      simp -implicitDefEqProofs only [hlig, hl2, vmp,↓vmd,Env.get,putD,argEnv,List.map,x00,x01,x02,x03,x04,x05,x06,x07,List.take,List.drop,x08,x09,x0a,x0b,List.isEmpty,↓reduceIte,reduceCtorEq,Nat.reduceEqDiff,Nat.reduceAdd,Nat.reduceLeDiff,x0c,Int.reduceNeg,Nat.reduceMul,Nat.reduceSub,x0d,x0e,x0f,x0g,x0h,x0i,x0j,x0k,Int.reduceEq,Int.reduceLT,Int.reduceLE,Int.reduceToNat,Int.cast_ofNat_Int,List.reduceReplicate]
      refine onIf_intro fun hk => ?_
      first | refine envO (by simp -implicitDefEqProofs only [vmp,↓vmd,Env.get,putD,argEnv,List.map,x00,x01,x02,x03,x04,x05,x06,x07,List.take,List.drop,x08,x09,x0a,x0b,List.isEmpty,↓reduceIte,reduceCtorEq,Nat.reduceEqDiff,Nat.reduceAdd,Nat.reduceLeDiff,x0c,Int.reduceNeg,Nat.reduceMul,Nat.reduceSub,x0d,x0e,x0f,x0g,x0h,x0i,x0j,x0k,Int.reduceEq,Int.reduceLT,Int.reduceLE,Int.reduceToNat,Int.cast_ofNat_Int,List.reduceReplicate]; rfl) ?_ | refine envQ (by simp -implicitDefEqProofs only [vmp,↓vmd,Env.get,putD,argEnv,List.map,x00,x01,x02,x03,x04,x05,x06,x07,List.take,List.drop,x08,x09,x0a,x0b,List.isEmpty,↓reduceIte,reduceCtorEq,Nat.reduceEqDiff,Nat.reduceAdd,Nat.reduceLeDiff,x0c,Int.reduceNeg,Nat.reduceMul,Nat.reduceSub,x0d,x0e,x0f,x0g,x0h,x0i,x0j,x0k,Int.reduceEq,Int.reduceLT,Int.reduceLE,Int.reduceToNat,Int.cast_ofNat_Int,List.reduceReplicate]; rfl) ?_
      simp -implicitDefEqProofs only [hlig, vmp,↓vmd,Env.get,putD,argEnv,List.map,x00,x01,x02,x03,x04,x05,x06,x07,List.take,List.drop,x08,x09,x0a,x0b,List.isEmpty,↓reduceIte,reduceCtorEq,Nat.reduceEqDiff,Nat.reduceAdd,Nat.reduceLeDiff,x0c,Int.reduceNeg,Nat.reduceMul,Nat.reduceSub,x0d,x0e,x0f,x0g,x0h,x0i,x0j,x0k,Int.reduceEq,Int.reduceLT,Int.reduceLE,Int.reduceToNat,Int.cast_ofNat_Int,List.reduceReplicate]
      exact apply34_loop k ls hl hs hk y p (glAt ls y).comp y0 y1 p0 p2 out hv [1, 2] (by simp) (by simp -implicitDefEqProofs only [envM_eq, kpp,Env.get,x01,x00,x02,x03,List.map,x08,x09,↓reduceIte,reduceCtorEq,Nat.reduceEqDiff,Nat.reduceLeDiff,Nat.reduceLT,Nat.reduceAdd,x0j,x0l,x0m,x0n,x0o,Int.cast_ofNat_Int,x0p,x0i,x07,x06,x0q,x0r,x0s,x0t,x0d,x0u]) (by simp -implicitDefEqProofs only [rowM_eq, kpp,Env.get,x01,x00,x02,x03,List.map,x08,x09,↓reduceIte,reduceCtorEq,Nat.reduceEqDiff,Nat.reduceLeDiff,Nat.reduceLT,Nat.reduceAdd,x0j,x0l,x0m,x0n,x0o,Int.cast_ofNat_Int,x0p,x0i,x07,x06,x0q,x0r,x0s,x0t,x0d,x0u])
    · rw [compF, if_neg (fun e => hl2 e.2)] at hv
      simp -implicitDefEqProofs only [hlig, hl2, vmp,↓vmd,Env.get,putD,argEnv,List.map,x00,x01,x02,x03,x04,x05,x06,x07,List.take,List.drop,x08,x09,x0a,x0b,List.isEmpty,↓reduceIte,reduceCtorEq,Nat.reduceEqDiff,Nat.reduceAdd,Nat.reduceLeDiff,x0c,Int.reduceNeg,Nat.reduceMul,Nat.reduceSub,x0d,x0e,x0f,x0g,x0h,x0i,x0j,x0k,Int.reduceEq,Int.reduceLT,Int.reduceLE,Int.reduceToNat,Int.cast_ofNat_Int,List.reduceReplicate]
      refine onIf_intro fun hk => ?_
      first | refine envO (by simp -implicitDefEqProofs only [vmp,↓vmd,Env.get,putD,argEnv,List.map,x00,x01,x02,x03,x04,x05,x06,x07,List.take,List.drop,x08,x09,x0a,x0b,List.isEmpty,↓reduceIte,reduceCtorEq,Nat.reduceEqDiff,Nat.reduceAdd,Nat.reduceLeDiff,x0c,Int.reduceNeg,Nat.reduceMul,Nat.reduceSub,x0d,x0e,x0f,x0g,x0h,x0i,x0j,x0k,Int.reduceEq,Int.reduceLT,Int.reduceLE,Int.reduceToNat,Int.cast_ofNat_Int,List.reduceReplicate]; rfl) ?_ | refine envQ (by simp -implicitDefEqProofs only [vmp,↓vmd,Env.get,putD,argEnv,List.map,x00,x01,x02,x03,x04,x05,x06,x07,List.take,List.drop,x08,x09,x0a,x0b,List.isEmpty,↓reduceIte,reduceCtorEq,Nat.reduceEqDiff,Nat.reduceAdd,Nat.reduceLeDiff,x0c,Int.reduceNeg,Nat.reduceMul,Nat.reduceSub,x0d,x0e,x0f,x0g,x0h,x0i,x0j,x0k,Int.reduceEq,Int.reduceLT,Int.reduceLE,Int.reduceToNat,Int.cast_ofNat_Int,List.reduceReplicate]; rfl) ?_
      simp -implicitDefEqProofs only [hlig, vmp,↓vmd,Env.get,putD,argEnv,List.map,x00,x01,x02,x03,x04,x05,x06,x07,List.take,List.drop,x08,x09,x0a,x0b,List.isEmpty,↓reduceIte,reduceCtorEq,Nat.reduceEqDiff,Nat.reduceAdd,Nat.reduceLeDiff,x0c,Int.reduceNeg,Nat.reduceMul,Nat.reduceSub,x0d,x0e,x0f,x0g,x0h,x0i,x0j,x0k,Int.reduceEq,Int.reduceLT,Int.reduceLE,Int.reduceToNat,Int.cast_ofNat_Int,List.reduceReplicate]
      exact apply34_loop k ls hl hs hk y p (-1) y0 y1 p0 p2 out hv [1, 2] (by simp) (by simp -implicitDefEqProofs only [envM_eq, kpp,Env.get,x01,x00,x02,x03,List.map,x08,x09,↓reduceIte,reduceCtorEq,Nat.reduceEqDiff,Nat.reduceLeDiff,Nat.reduceLT,Nat.reduceAdd,x0j,x0l,x0m,x0n,x0o,Int.cast_ofNat_Int,x0p,x0i,x07,x06,x0q,x0r,x0s,x0t,x0d,x0u]) (by simp -implicitDefEqProofs only [rowM_eq, kpp,Env.get,x01,x00,x02,x03,List.map,x08,x09,↓reduceIte,reduceCtorEq,Nat.reduceEqDiff,Nat.reduceLeDiff,Nat.reduceLT,Nat.reduceAdd,x0j,x0l,x0m,x0n,x0o,Int.cast_ofNat_Int,x0p,x0i,x07,x06,x0q,x0r,x0s,x0t,x0d,x0u])
theorem apply34_q (f : Fo) (k : Lk) (ls : List Gl) (hl : ls.length ≤ 1000) (hs : ∀ s ∈ k.subs, s.marks.length ≤ 1000 ∧ s.hosts.length ≤ 1000) (y : Int) : FnQ Try.prog 20 [fo f, lk k, .sl (ls.map gl), I y] (mR (markF f k ls y)) := (apply34_f f k ls hl hs y).fnQ
def markR (o : Option Mk) : List V := [mk (o.getD ⟨0, 0, 0, 0⟩), .bool o.isSome]
theorem mark_q (s : Sub) (g : Int) : FnQ Try.prog 62 [sub s, I g] (markR (findMk s.marks g)) := by
  refine q62 (by simp) ?_
  unfold c62
  simp -implicitDefEqProofs only [*, vmp,↓vmd,Env.get,putD,argEnv,List.map,x00,x01,x02,x03,x04,x05,x06,x07,List.take,List.drop,x08,x09,x0a,x0b,List.isEmpty,↓reduceIte,reduceCtorEq,Nat.reduceEqDiff,Nat.reduceAdd,Nat.reduceLeDiff,x0c,Int.reduceNeg,Nat.reduceMul,Nat.reduceSub,x0d,x0e,x0f,x0g,x0h,x0i,x0j,x0k,Int.reduceEq,Int.reduceLT,Int.reduceLE,Int.reduceToNat,Int.cast_ofNat_Int,List.reduceReplicate]
  refine loop_at (T := Nat) (fun j => [(6, .pure (I j)), (1, .pure (I g)), (2, .ptr 0 0 0), (4, .ptr 1 0 0)])
    (fun _ => [⟨[.pure (sub s)], 12, .live⟩, ⟨[.pure (.agg [I 0, I 0, I 0, I 0])], 4, .live⟩]) (fun j => j ≤ s.marks.length ∧ findMk (s.marks.drop j) g = findMk s.marks g) (fun j => s.marks.length - j)
    0 [0, 1] (by simp) rfl ⟨by simp, by simp⟩ (by simp -implicitDefEqProofs only [kpp,Env.get,x01,x00,x02,x03,List.map,x08,x09,↓reduceIte,reduceCtorEq,Nat.reduceEqDiff,Nat.reduceLeDiff,Nat.reduceLT,Nat.reduceAdd,x0j,x0l,x0m,x0n,x0o,Int.cast_ofNat_Int,x0p,x0i,x07,x06,x0q,x0r,x0s,x0t,x0d,x0u]) (by simp -implicitDefEqProofs only [kpp,Env.get,x01,x00,x02,x03,List.map,x08,x09,↓reduceIte,reduceCtorEq,Nat.reduceEqDiff,Nat.reduceLeDiff,Nat.reduceLT,Nat.reduceAdd,x0j,x0l,x0m,x0n,x0o,Int.cast_ofNat_Int,x0p,x0i,x07,x06,x0q,x0r,x0s,x0t,x0d,x0u]) ?_
  rintro j ⟨hj, hr⟩
  unfold c62_1
  generalize findMk s.marks g = out at *
  simp -implicitDefEqProofs only [vmp,↓vmd,Env.get,putD,argEnv,List.map,x00,x01,x02,x03,x04,x05,x06,x07,List.take,List.drop,x08,x09,x0a,x0b,List.isEmpty,↓reduceIte,reduceCtorEq,Nat.reduceEqDiff,Nat.reduceAdd,Nat.reduceLeDiff,x0c,Int.reduceNeg,Nat.reduceMul,Nat.reduceSub,x0d,x0e,x0f,x0g,x0h,x0i,x0j,x0k,Int.reduceEq,Int.reduceLT,Int.reduceLE,Int.reduceToNat,Int.cast_ofNat_Int,List.reduceReplicate]
  refine onIf_intro fun _ => ?_
  first | refine envO (by simp -implicitDefEqProofs only [vmp,↓vmd,Env.get,putD,argEnv,List.map,x00,x01,x02,x03,x04,x05,x06,x07,List.take,List.drop,x08,x09,x0a,x0b,List.isEmpty,↓reduceIte,reduceCtorEq,Nat.reduceEqDiff,Nat.reduceAdd,Nat.reduceLeDiff,x0c,Int.reduceNeg,Nat.reduceMul,Nat.reduceSub,x0d,x0e,x0f,x0g,x0h,x0i,x0j,x0k,Int.reduceEq,Int.reduceLT,Int.reduceLE,Int.reduceToNat,Int.cast_ofNat_Int,List.reduceReplicate]; rfl) ?_ | refine envQ (by simp -implicitDefEqProofs only [vmp,↓vmd,Env.get,putD,argEnv,List.map,x00,x01,x02,x03,x04,x05,x06,x07,List.take,List.drop,x08,x09,x0a,x0b,List.isEmpty,↓reduceIte,reduceCtorEq,Nat.reduceEqDiff,Nat.reduceAdd,Nat.reduceLeDiff,x0c,Int.reduceNeg,Nat.reduceMul,Nat.reduceSub,x0d,x0e,x0f,x0g,x0h,x0i,x0j,x0k,Int.reduceEq,Int.reduceLT,Int.reduceLE,Int.reduceToNat,Int.cast_ofNat_Int,List.reduceReplicate]; rfl) ?_
  simp -implicitDefEqProofs only [vmp,↓vmd,Env.get,putD,argEnv,List.map,x00,x01,x02,x03,x04,x05,x06,x07,List.take,List.drop,x08,x09,x0a,x0b,List.isEmpty,↓reduceIte,reduceCtorEq,Nat.reduceEqDiff,Nat.reduceAdd,Nat.reduceLeDiff,x0c,Int.reduceNeg,Nat.reduceMul,Nat.reduceSub,x0d,x0e,x0f,x0g,x0h,x0i,x0j,x0k,Int.reduceEq,Int.reduceLT,Int.reduceLE,Int.reduceToNat,Int.cast_ofNat_Int,List.reduceReplicate]
  refine onB_dec (fun h2 => ?_) (fun h2 => ?_)
  · have hlt : j < s.marks.length := by omega
    rw [drop_at hlt, findMk] at hr
    have hgj : (s.marks.map mk)[j]? = some (mk s.marks[j]) := map_at hlt
    generalize s.marks[j] = m at hr hgj
    simp -implicitDefEqProofs only [h2, hgj, Int.natCast_nonneg, vmp,↓vmd,Env.get,putD,argEnv,List.map,x00,x01,x02,x03,x04,x05,x06,x07,List.take,List.drop,x08,x09,x0a,x0b,List.isEmpty,↓reduceIte,reduceCtorEq,Nat.reduceEqDiff,Nat.reduceAdd,Nat.reduceLeDiff,x0c,Int.reduceNeg,Nat.reduceMul,Nat.reduceSub,x0d,x0e,x0f,x0g,x0h,x0i,x0j,x0k,Int.reduceEq,Int.reduceLT,Int.reduceLE,Int.reduceToNat,Int.cast_ofNat_Int,List.reduceReplicate]
    by_cases h3 : m.glyph = g
    · rw [if_pos h3] at hr
      subst hr
      simp -implicitDefEqProofs only [h2, h3, hgj, Int.natCast_nonneg, vmp,↓vmd,Env.get,putD,argEnv,List.map,x00,x01,x02,x03,x04,x05,x06,x07,List.take,List.drop,x08,x09,x0a,x0b,List.isEmpty,↓reduceIte,reduceCtorEq,Nat.reduceEqDiff,Nat.reduceAdd,Nat.reduceLeDiff,x0c,Int.reduceNeg,Nat.reduceMul,Nat.reduceSub,x0d,x0e,x0f,x0g,x0h,x0i,x0j,x0k,Int.reduceEq,Int.reduceLT,Int.reduceLE,Int.reduceToNat,Int.cast_ofNat_Int,List.reduceReplicate]
      exact gives_tup rfl (by simp)
    · rw [if_neg h3] at hr
      simp -implicitDefEqProofs only [h3, vmp,↓vmd,Env.get,putD,argEnv,List.map,x00,x01,x02,x03,x04,x05,x06,x07,List.take,List.drop,x08,x09,x0a,x0b,List.isEmpty,↓reduceIte,reduceCtorEq,Nat.reduceEqDiff,Nat.reduceAdd,Nat.reduceLeDiff,x0c,Int.reduceNeg,Nat.reduceMul,Nat.reduceSub,x0d,x0e,x0f,x0g,x0h,x0i,x0j,x0k,Int.reduceEq,Int.reduceLT,Int.reduceLE,Int.reduceToNat,Int.cast_ofNat_Int,List.reduceReplicate]
      refine onBk_to (j + 1) [0, 1] (by simp) rfl (by omega) ⟨hlt, hr⟩ (by simp -implicitDefEqProofs only [next_at hlt (by omega), kpp,Env.get,x01,x00,x02,x03,List.map,x08,x09,↓reduceIte,reduceCtorEq,Nat.reduceEqDiff,Nat.reduceLeDiff,Nat.reduceLT,Nat.reduceAdd,x0j,x0l,x0m,x0n,x0o,Int.cast_ofNat_Int,x0p,x0i,x07,x06,x0q,x0r,x0s,x0t,x0d,x0u]) (by simp -implicitDefEqProofs only [kpp,Env.get,x01,x00,x02,x03,List.map,x08,x09,↓reduceIte,reduceCtorEq,Nat.reduceEqDiff,Nat.reduceLeDiff,Nat.reduceLT,Nat.reduceAdd,x0j,x0l,x0m,x0n,x0o,Int.cast_ofNat_Int,x0p,x0i,x07,x06,x0q,x0r,x0s,x0t,x0d,x0u])
  · rw [List.drop_of_length_le (by omega), findMk] at hr
    subst hr
    simp -implicitDefEqProofs only [h2, vmp,↓vmd,Env.get,putD,argEnv,List.map,x00,x01,x02,x03,x04,x05,x06,x07,List.take,List.drop,x08,x09,x0a,x0b,List.isEmpty,↓reduceIte,reduceCtorEq,Nat.reduceEqDiff,Nat.reduceAdd,Nat.reduceLeDiff,x0c,Int.reduceNeg,Nat.reduceMul,Nat.reduceSub,x0d,x0e,x0f,x0g,x0h,x0i,x0j,x0k,Int.reduceEq,Int.reduceLT,Int.reduceLE,Int.reduceToNat,Int.cast_ofNat_Int,List.reduceReplicate]
    unfold c62_0
    simp -implicitDefEqProofs only [vmp,↓vmd,Env.get,putD,argEnv,List.map,x00,x01,x02,x03,x04,x05,x06,x07,List.take,List.drop,x08,x09,x0a,x0b,List.isEmpty,↓reduceIte,reduceCtorEq,Nat.reduceEqDiff,Nat.reduceAdd,Nat.reduceLeDiff,x0c,Int.reduceNeg,Nat.reduceMul,Nat.reduceSub,x0d,x0e,x0f,x0g,x0h,x0i,x0j,x0k,Int.reduceEq,Int.reduceLT,Int.reduceLE,Int.reduceToNat,Int.cast_ofNat_Int,List.reduceReplicate]
    exact gives_tup rfl (by simp)
def envR (ls : List Gl) (y p c : Int) (i : Nat) : Env := [(13, .pure (I i)), (2, .pure (.sl (ls.map gl))), (3, .pure (I y)), (5, .ptr 0 0 0), (10, .pure (I p)), (12, .pure (I c))]
theorem envR_eq {ls : List Gl} {y p c : Int} {i : Nat} : envR ls y p c i = [(13, .pure (I i)), (2, .pure (.sl (ls.map gl))), (3, .pure (I y)), (5, .ptr 0 0 0), (10, .pure (I p)), (12, .pure (I c))] := rfl
theorem rapply34_loop (k : Lk) (ls : List Gl) (hl : ls.length ≤ 1000) (hs : ∀ s ∈ k.subs, s.marks.length ≤ 1000 ∧ s.hosts.length ≤ 1000) (y p c : Int) (y0 : 0 ≤ y) (y1 : y < ls.length) (p0 : 0 ≤ p) (p2 : p < ls.length) (out : Option (List Gl))
    (hv : out = hangM ls y p (goM k (glAt ls y).id (glAt ls p).id c 0 k.subs)) (l : List Nat) (hln : l.Nodup) {env : Env} {H : Heap} (hE : keepE env l.length (pick l) (envR ls y p c 0)) (hH : keepH H l.length (pick l) l [⟨[.pure (lk k)], 4, .live⟩]) :
    aWx Try.prog 0 (.loop c21_1) (blockA 0 (thenA (aWx Try.prog 0 c21_0 (PostX [.t 8, .t 9] (Gives (mR out)))) (PostX [.t 8, .t 9] (Gives (mR out))))) env H := by
  have hgy := glAt_map y0 y1
  have hgp := glAt_map p0 p2
  refine loop_at (T := Nat) (envR ls y p c) (fun _ => [⟨[.pure (lk k)], 4, .live⟩]) (fun i => i ≤ k.subs.length ∧ goM k (glAt ls y).id (glAt ls p).id c i (k.subs.drop i) = goM k (glAt ls y).id (glAt ls p).id c 0 k.subs) (fun i => k.subs.length - i)
    0 l hln rfl ⟨by simp, by simp⟩ hE hH ?_
  rintro i ⟨hi, hr⟩
  rw [envR_eq]
  unfold c21_1
  simp -implicitDefEqProofs only [vmp,↓vmd,Env.get,putD,argEnv,List.map,x00,x01,x02,x03,x04,x05,x06,x07,List.take,List.drop,x08,x09,x0a,x0b,List.isEmpty,↓reduceIte,reduceCtorEq,Nat.reduceEqDiff,Nat.reduceAdd,Nat.reduceLeDiff,x0c,Int.reduceNeg,Nat.reduceMul,Nat.reduceSub,x0d,x0e,x0f,x0g,x0h,x0i,x0j,x0k,Int.reduceEq,Int.reduceLT,Int.reduceLE,Int.reduceToNat,Int.cast_ofNat_Int,List.reduceReplicate]
  refine onIf_intro fun hk => ?_
  first | refine envO (by simp -implicitDefEqProofs only [vmp,↓vmd,Env.get,putD,argEnv,List.map,x00,x01,x02,x03,x04,x05,x06,x07,List.take,List.drop,x08,x09,x0a,x0b,List.isEmpty,↓reduceIte,reduceCtorEq,Nat.reduceEqDiff,Nat.reduceAdd,Nat.reduceLeDiff,x0c,Int.reduceNeg,Nat.reduceMul,Nat.reduceSub,x0d,x0e,x0f,x0g,x0h,x0i,x0j,x0k,Int.reduceEq,Int.reduceLT,Int.reduceLE,Int.reduceToNat,Int.cast_ofNat_Int,List.reduceReplicate]; rfl) ?_ | refine envQ (by simp -implicitDefEqProofs only [vmp,↓vmd,Env.get,putD,argEnv,List.map,x00,x01,x02,x03,x04,x05,x06,x07,List.take,List.drop,x08,x09,x0a,x0b,List.isEmpty,↓reduceIte,reduceCtorEq,Nat.reduceEqDiff,Nat.reduceAdd,Nat.reduceLeDiff,x0c,Int.reduceNeg,Nat.reduceMul,Nat.reduceSub,x0d,x0e,x0f,x0g,x0h,x0i,x0j,x0k,Int.reduceEq,Int.reduceLT,Int.reduceLE,Int.reduceToNat,Int.cast_ofNat_Int,List.reduceReplicate]; rfl) ?_
  simp -implicitDefEqProofs only [vmp,↓vmd,Env.get,putD,argEnv,List.map,x00,x01,x02,x03,x04,x05,x06,x07,List.take,List.drop,x08,x09,x0a,x0b,List.isEmpty,↓reduceIte,reduceCtorEq,Nat.reduceEqDiff,Nat.reduceAdd,Nat.reduceLeDiff,x0c,Int.reduceNeg,Nat.reduceMul,Nat.reduceSub,x0d,x0e,x0f,x0g,x0h,x0i,x0j,x0k,Int.reduceEq,Int.reduceLT,Int.reduceLE,Int.reduceToNat,Int.cast_ofNat_Int,List.reduceReplicate]
  refine onB_dec (fun h1 => ?_) (fun h1 => ?_)
  · have hlt : i < k.subs.length := by omega
    rw [drop_at hlt, goM_step] at hr
    have hgi : (k.subs.map sub)[i]? = some (sub k.subs[i]) := map_at hlt
    generalize k.subs[i] = s at hr hgi
    simp -implicitDefEqProofs only [h1, hgi, Int.natCast_nonneg, y0, y1, hgy, vmp,↓vmd,Env.get,putD,argEnv,List.map,x00,x01,x02,x03,x04,x05,x06,x07,List.take,List.drop,x08,x09,x0a,x0b,List.isEmpty,↓reduceIte,reduceCtorEq,Nat.reduceEqDiff,Nat.reduceAdd,Nat.reduceLeDiff,x0c,Int.reduceNeg,Nat.reduceMul,Nat.reduceSub,x0d,x0e,x0f,x0g,x0h,x0i,x0j,x0k,Int.reduceEq,Int.reduceLT,Int.reduceLE,Int.reduceToNat,Int.cast_ofNat_Int,List.reduceReplicate]
    refine onQ_q (mark_q s (glAt ls y).id) rfl ?_
    generalize findMk s.marks (glAt ls y).id = m at hr
    cases m with
    | none =>
      simp only at hr
      first | refine envO (by simp -implicitDefEqProofs only [vmp,↓vmd,Env.get,putD,argEnv,List.map,x00,x01,x02,x03,x04,x05,x06,x07,List.take,List.drop,x08,x09,x0a,x0b,List.isEmpty,↓reduceIte,reduceCtorEq,Nat.reduceEqDiff,Nat.reduceAdd,Nat.reduceLeDiff,x0c,Int.reduceNeg,Nat.reduceMul,Nat.reduceSub,x0d,x0e,x0f,x0g,x0h,x0i,x0j,x0k,Int.reduceEq,Int.reduceLT,Int.reduceLE,Int.reduceToNat,Int.cast_ofNat_Int,List.reduceReplicate]; rfl) ?_ | refine envQ (by simp -implicitDefEqProofs only [vmp,↓vmd,Env.get,putD,argEnv,List.map,x00,x01,x02,x03,x04,x05,x06,x07,List.take,List.drop,x08,x09,x0a,x0b,List.isEmpty,↓reduceIte,reduceCtorEq,Nat.reduceEqDiff,Nat.reduceAdd,Nat.reduceLeDiff,x0c,Int.reduceNeg,Nat.reduceMul,Nat.reduceSub,x0d,x0e,x0f,x0g,x0h,x0i,x0j,x0k,Int.reduceEq,Int.reduceLT,Int.reduceLE,Int.reduceToNat,Int.cast_ofNat_Int,List.reduceReplicate]; rfl) ?_
      simp -implicitDefEqProofs only [markR, Option.getD_none, Option.isSome_none, vmp,↓vmd,Env.get,putD,argEnv,List.map,x00,x01,x02,x03,x04,x05,x06,x07,List.take,List.drop,x08,x09,x0a,x0b,List.isEmpty,↓reduceIte,reduceCtorEq,Nat.reduceEqDiff,Nat.reduceAdd,Nat.reduceLeDiff,x0c,Int.reduceNeg,Nat.reduceMul,Nat.reduceSub,x0d,x0e,x0f,x0g,x0h,x0i,x0j,x0k,Int.reduceEq,Int.reduceLT,Int.reduceLE,Int.reduceToNat,Int.cast_ofNat_Int,List.reduceReplicate]
      refine onBk_to (i + 1) [0] (by simp) rfl (by omega) ⟨hlt, hr⟩ (by simp -implicitDefEqProofs only [envR_eq, next_at hlt (by omega), kpp,Env.get,x01,x00,x02,x03,List.map,x08,x09,↓reduceIte,reduceCtorEq,Nat.reduceEqDiff,Nat.reduceLeDiff,Nat.reduceLT,Nat.reduceAdd,x0j,x0l,x0m,x0n,x0o,Int.cast_ofNat_Int,x0p,x0i,x07,x06,x0q,x0r,x0s,x0t,x0d,x0u]) (by simp -implicitDefEqProofs only [kpp,Env.get,x01,x00,x02,x03,List.map,x08,x09,↓reduceIte,reduceCtorEq,Nat.reduceEqDiff,Nat.reduceLeDiff,Nat.reduceLT,Nat.reduceAdd,x0j,x0l,x0m,x0n,x0o,Int.cast_ofNat_Int,x0p,x0i,x07,x06,x0q,x0r,x0s,x0t,x0d,x0u])
    | some m =>
      simp only at hr
      first | refine envO (by simp -implicitDefEqProofs only [vmp,↓vmd,Env.get,putD,argEnv,List.map,x00,x01,x02,x03,x04,x05,x06,x07,List.take,List.drop,x08,x09,x0a,x0b,List.isEmpty,↓reduceIte,reduceCtorEq,Nat.reduceEqDiff,Nat.reduceAdd,Nat.reduceLeDiff,x0c,Int.reduceNeg,Nat.reduceMul,Nat.reduceSub,x0d,x0e,x0f,x0g,x0h,x0i,x0j,x0k,Int.reduceEq,Int.reduceLT,Int.reduceLE,Int.reduceToNat,Int.cast_ofNat_Int,List.reduceReplicate]; rfl) ?_ | refine envQ (by simp -implicitDefEqProofs only [vmp,↓vmd,Env.get,putD,argEnv,List.map,x00,x01,x02,x03,x04,x05,x06,x07,List.take,List.drop,x08,x09,x0a,x0b,List.isEmpty,↓reduceIte,reduceCtorEq,Nat.reduceEqDiff,Nat.reduceAdd,Nat.reduceLeDiff,x0c,Int.reduceNeg,Nat.reduceMul,Nat.reduceSub,x0d,x0e,x0f,x0g,x0h,x0i,x0j,x0k,Int.reduceEq,Int.reduceLT,Int.reduceLE,Int.reduceToNat,Int.cast_ofNat_Int,List.reduceReplicate]; rfl) ?_
      simp -implicitDefEqProofs only [markR, Option.getD_some, Option.isSome_some, p0, p2, hgp, vmp,↓vmd,Env.get,putD,argEnv,List.map,x00,x01,x02,x03,x04,x05,x06,x07,List.take,List.drop,x08,x09,x0a,x0b,List.isEmpty,↓reduceIte,reduceCtorEq,Nat.reduceEqDiff,Nat.reduceAdd,Nat.reduceLeDiff,x0c,Int.reduceNeg,Nat.reduceMul,Nat.reduceSub,x0d,x0e,x0f,x0g,x0h,x0i,x0j,x0k,Int.reduceEq,Int.reduceLT,Int.reduceLE,Int.reduceToNat,Int.cast_ofNat_Int,List.reduceReplicate]
      refine onQ_q (ranchor_q k (fun s h => (hs s h).2) (i : Int) (glAt ls p).id m.cls c) rfl ?_
      generalize anchorF k (i : Int) (glAt ls p).id m.cls c = a at hr
      cases a with
      | none =>
        simp only at hr
        first | refine envO (by simp -implicitDefEqProofs only [vmp,↓vmd,Env.get,putD,argEnv,List.map,x00,x01,x02,x03,x04,x05,x06,x07,List.take,List.drop,x08,x09,x0a,x0b,List.isEmpty,↓reduceIte,reduceCtorEq,Nat.reduceEqDiff,Nat.reduceAdd,Nat.reduceLeDiff,x0c,Int.reduceNeg,Nat.reduceMul,Nat.reduceSub,x0d,x0e,x0f,x0g,x0h,x0i,x0j,x0k,Int.reduceEq,Int.reduceLT,Int.reduceLE,Int.reduceToNat,Int.cast_ofNat_Int,List.reduceReplicate]; rfl) ?_ | refine envQ (by simp -implicitDefEqProofs only [vmp,↓vmd,Env.get,putD,argEnv,List.map,x00,x01,x02,x03,x04,x05,x06,x07,List.take,List.drop,x08,x09,x0a,x0b,List.isEmpty,↓reduceIte,reduceCtorEq,Nat.reduceEqDiff,Nat.reduceAdd,Nat.reduceLeDiff,x0c,Int.reduceNeg,Nat.reduceMul,Nat.reduceSub,x0d,x0e,x0f,x0g,x0h,x0i,x0j,x0k,Int.reduceEq,Int.reduceLT,Int.reduceLE,Int.reduceToNat,Int.cast_ofNat_Int,List.reduceReplicate]; rfl) ?_
        simp -implicitDefEqProofs only [ancR, Option.getD_none, Option.isSome_none, vmp,↓vmd,Env.get,putD,argEnv,List.map,x00,x01,x02,x03,x04,x05,x06,x07,List.take,List.drop,x08,x09,x0a,x0b,List.isEmpty,↓reduceIte,reduceCtorEq,Nat.reduceEqDiff,Nat.reduceAdd,Nat.reduceLeDiff,x0c,Int.reduceNeg,Nat.reduceMul,Nat.reduceSub,x0d,x0e,x0f,x0g,x0h,x0i,x0j,x0k,Int.reduceEq,Int.reduceLT,Int.reduceLE,Int.reduceToNat,Int.cast_ofNat_Int,List.reduceReplicate]
        refine onBk_to (i + 1) [0] (by simp) rfl (by omega) ⟨hlt, hr⟩ (by simp -implicitDefEqProofs only [envR_eq, next_at hlt (by omega), kpp,Env.get,x01,x00,x02,x03,List.map,x08,x09,↓reduceIte,reduceCtorEq,Nat.reduceEqDiff,Nat.reduceLeDiff,Nat.reduceLT,Nat.reduceAdd,x0j,x0l,x0m,x0n,x0o,Int.cast_ofNat_Int,x0p,x0i,x07,x06,x0q,x0r,x0s,x0t,x0d,x0u]) (by simp -implicitDefEqProofs only [kpp,Env.get,x01,x00,x02,x03,List.map,x08,x09,↓reduceIte,reduceCtorEq,Nat.reduceEqDiff,Nat.reduceLeDiff,Nat.reduceLT,Nat.reduceAdd,x0j,x0l,x0m,x0n,x0o,Int.cast_ofNat_Int,x0p,x0i,x07,x06,x0q,x0r,x0s,x0t,x0d,x0u])
      | some a =>
        simp only at hr
        rw [← hr] at hv
        rw [hangM] at hv
        simp only at hv
        subst hv
        first | refine envO (by simp -implicitDefEqProofs only [vmp,↓vmd,Env.get,putD,argEnv,List.map,x00,x01,x02,x03,x04,x05,x06,x07,List.take,List.drop,x08,x09,x0a,x0b,List.isEmpty,↓reduceIte,reduceCtorEq,Nat.reduceEqDiff,Nat.reduceAdd,Nat.reduceLeDiff,x0c,Int.reduceNeg,Nat.reduceMul,Nat.reduceSub,x0d,x0e,x0f,x0g,x0h,x0i,x0j,x0k,Int.reduceEq,Int.reduceLT,Int.reduceLE,Int.reduceToNat,Int.cast_ofNat_Int,List.reduceReplicate]; rfl) ?_ | refine envQ (by simp -implicitDefEqProofs only [vmp,↓vmd,Env.get,putD,argEnv,List.map,x00,x01,x02,x03,x04,x05,x06,x07,List.take,List.drop,x08,x09,x0a,x0b,List.isEmpty,↓reduceIte,reduceCtorEq,Nat.reduceEqDiff,Nat.reduceAdd,Nat.reduceLeDiff,x0c,Int.reduceNeg,Nat.reduceMul,Nat.reduceSub,x0d,x0e,x0f,x0g,x0h,x0i,x0j,x0k,Int.reduceEq,Int.reduceLT,Int.reduceLE,Int.reduceToNat,Int.cast_ofNat_Int,List.reduceReplicate]; rfl) ?_
        simp -implicitDefEqProofs only [ancR, Option.getD_some, Option.isSome_some, vmp,↓vmd,Env.get,putD,argEnv,List.map,x00,x01,x02,x03,x04,x05,x06,x07,List.take,List.drop,x08,x09,x0a,x0b,List.isEmpty,↓reduceIte,reduceCtorEq,Nat.reduceEqDiff,Nat.reduceAdd,Nat.reduceLeDiff,x0c,Int.reduceNeg,Nat.reduceMul,Nat.reduceSub,x0d,x0e,x0f,x0g,x0h,x0i,x0j,x0k,Int.reduceEq,Int.reduceLT,Int.reduceLE,Int.reduceToNat,Int.cast_ofNat_Int,List.reduceReplicate]
        refine onIf'_intro (appOk0_map (fun _ => rfl) (by omega) (by simp [maxLen]; omega)) ?_
        first | refine envO (by simp -implicitDefEqProofs only [vmp,↓vmd,Env.get,putD,argEnv,List.map,x00,x01,x02,x03,x04,x05,x06,x07,List.take,List.drop,x08,x09,x0a,x0b,List.isEmpty,↓reduceIte,reduceCtorEq,Nat.reduceEqDiff,Nat.reduceAdd,Nat.reduceLeDiff,x0c,Int.reduceNeg,Nat.reduceMul,Nat.reduceSub,x0d,x0e,x0f,x0g,x0h,x0i,x0j,x0k,Int.reduceEq,Int.reduceLT,Int.reduceLE,Int.reduceToNat,Int.cast_ofNat_Int,List.reduceReplicate]; rfl) ?_ | refine envQ (by simp -implicitDefEqProofs only [vmp,↓vmd,Env.get,putD,argEnv,List.map,x00,x01,x02,x03,x04,x05,x06,x07,List.take,List.drop,x08,x09,x0a,x0b,List.isEmpty,↓reduceIte,reduceCtorEq,Nat.reduceEqDiff,Nat.reduceAdd,Nat.reduceLeDiff,x0c,Int.reduceNeg,Nat.reduceMul,Nat.reduceSub,x0d,x0e,x0f,x0g,x0h,x0i,x0j,x0k,Int.reduceEq,Int.reduceLT,Int.reduceLE,Int.reduceToNat,Int.cast_ofNat_Int,List.reduceReplicate]; rfl) ?_
        have hgr := glAt_row y0 y1
        have hset : ∀ (L : List Gl) (c0 c1 c2 c3 c4 c5 c6 c7 c8 c9 : Int), ((L.map gl).map S.pure).set y.toNat (.pure (.agg [I c0, I c1, I c2, I c3, I c4, I c5, I c6, I c7, I c8, I c9])) = ((L.set y.toNat ⟨c0, c1, c2, c3, c4, c5, c6, c7, c8, c9⟩).map gl).map S.pure := fun L c0 c1 c2 c3 c4 c5 c6 c7 c8 c9 => row_set (f := gl) (a := ⟨c0, c1, c2, c3, c4, c5, c6, c7, c8, c9⟩)
        have hat : ∀ g, (((ls.set y.toNat g).map gl).map S.pure)[y.toNat]? = some (.pure (gl g)) := fun g => by
          have := glAt_row (ls := ls.set y.toNat g) y0 (by rw [List.length_set]; exact y1)
          rw [this, glAt_set, if_pos ⟨rfl, by omega⟩]
        simp -implicitDefEqProofs only [y0, y1, hgr, hset, hat, List.set_set, vmp,↓vmd,Env.get,putD,argEnv,List.map,x00,x01,x02,x03,x04,x05,x06,x07,List.take,List.drop,x08,x09,x0a,x0b,List.isEmpty,↓reduceIte,reduceCtorEq,Nat.reduceEqDiff,Nat.reduceAdd,Nat.reduceLeDiff,x0c,Int.reduceNeg,Nat.reduceMul,Nat.reduceSub,x0d,x0e,x0f,x0g,x0h,x0i,x0j,x0k,Int.reduceEq,Int.reduceLT,Int.reduceLE,Int.reduceToNat,Int.cast_ofNat_Int,List.reduceReplicate]
        exact gives_tup (toVs_of (toV_rowN rfl (.inr ⟨rfl, rfl⟩) (by simp)) rfl) (by simp)
  · rw [List.drop_of_length_le (by omega), goM] at hr
    rw [← hr, hangM] at hv
    subst hv
    simp -implicitDefEqProofs only [h1, vmp,↓vmd,Env.get,putD,argEnv,List.map,x00,x01,x02,x03,x04,x05,x06,x07,List.take,List.drop,x08,x09,x0a,x0b,List.isEmpty,↓reduceIte,reduceCtorEq,Nat.reduceEqDiff,Nat.reduceAdd,Nat.reduceLeDiff,x0c,Int.reduceNeg,Nat.reduceMul,Nat.reduceSub,x0d,x0e,x0f,x0g,x0h,x0i,x0j,x0k,Int.reduceEq,Int.reduceLT,Int.reduceLE,Int.reduceToNat,Int.cast_ofNat_Int,List.reduceReplicate]
    unfold c21_0
    simp -implicitDefEqProofs only [vmp,↓vmd,Env.get,putD,argEnv,List.map,x00,x01,x02,x03,x04,x05,x06,x07,List.take,List.drop,x08,x09,x0a,x0b,List.isEmpty,↓reduceIte,reduceCtorEq,Nat.reduceEqDiff,Nat.reduceAdd,Nat.reduceLeDiff,x0c,Int.reduceNeg,Nat.reduceMul,Nat.reduceSub,x0d,x0e,x0f,x0g,x0h,x0i,x0j,x0k,Int.reduceEq,Int.reduceLT,Int.reduceLE,Int.reduceToNat,Int.cast_ofNat_Int,List.reduceReplicate]
    exact gives_tup rfl (by simp)
theorem rapply34_q (f : Fo) (k : Lk) (ls : List Gl) (hl : ls.length ≤ 1000) (hs : ∀ s ∈ k.subs, s.marks.length ≤ 1000 ∧ s.hosts.length ≤ 1000) (y : Int) : FnQ Try.prog 21 [fo f, lk k, .sl (ls.map gl), I y] (mR (markF f k ls y)) := by
  refine q21 (by simp) ?_
  unfold c21
  have hq := rhost_q f k ls hl y
  have hin := @hostF_in f k ls y
  have hv : markF f k ls y = match hostF f k ls y with
    | none => none
    | some p => hangM ls y p (goM k (glAt ls y).id (glAt ls p).id (compF (glAt ls y) (glAt ls p)) 0 k.subs) := by
    rw [markF]
    cases hostF f k ls y with
    | none => rfl
    | some p =>
      simp only
      cases goM k (glAt ls y).id (glAt ls p).id (compF (glAt ls y) (glAt ls p)) 0 k.subs <;> rfl
  generalize markF f k ls y = out at *
  generalize hostF f k ls y = o at *
  simp -implicitDefEqProofs only [*, vmp,↓vmd,Env.get,putD,argEnv,List.map,x00,x01,x02,x03,x04,x05,x06,x07,List.take,List.drop,x08,x09,x0a,x0b,List.isEmpty,↓reduceIte,reduceCtorEq,Nat.reduceEqDiff,Nat.reduceAdd,Nat.reduceLeDiff,x0c,Int.reduceNeg,Nat.reduceMul,Nat.reduceSub,x0d,x0e,x0f,x0g,x0h,x0i,x0j,x0k,Int.reduceEq,Int.reduceLT,Int.reduceLE,Int.reduceToNat,Int.cast_ofNat_Int,List.reduceReplicate]
  refine onC_q hq rfl ?_
  cases o with
  | none =>
    subst hv
    simp -implicitDefEqProofs only [hostR, Option.getD_none, Option.isSome_none, vmp,↓vmd,Env.get,putD,argEnv,List.map,x00,x01,x02,x03,x04,x05,x06,x07,List.take,List.drop,x08,x09,x0a,x0b,List.isEmpty,↓reduceIte,reduceCtorEq,Nat.reduceEqDiff,Nat.reduceAdd,Nat.reduceLeDiff,x0c,Int.reduceNeg,Nat.reduceMul,Nat.reduceSub,x0d,x0e,x0f,x0g,x0h,x0i,x0j,x0k,Int.reduceEq,Int.reduceLT,Int.reduceLE,Int.reduceToNat,Int.cast_ofNat_Int,List.reduceReplicate]
    exact gives_tup rfl (by simp)
  | some p =>
    obtain ⟨y0, y1, h3, p0, p1⟩ := hin rfl
    have p2 : p < ls.length := by omega
    have hgy := glAt_map y0 y1
    have hgp := glAt_map p0 p2
    simp only at hv
    simp -implicitDefEqProofs only [hostR, Option.getD_some, Option.isSome_some, y0, y1, hgy, vmp,↓vmd,Env.get,putD,argEnv,List.map,x00,x01,x02,x03,x04,x05,x06,x07,List.take,List.drop,x08,x09,x0a,x0b,List.isEmpty,↓reduceIte,reduceCtorEq,Nat.reduceEqDiff,Nat.reduceAdd,Nat.reduceLeDiff,x0c,Int.reduceNeg,Nat.reduceMul,Nat.reduceSub,x0d,x0e,x0f,x0g,x0h,x0i,x0j,x0k,Int.reduceEq,Int.reduceLT,Int.reduceLE,Int.reduceToNat,Int.cast_ofNat_Int,List.reduceReplicate]
    by_cases hlig : (glAt ls y).lig = 0
    · rw [compF, if_neg (fun e => e.1 hlig)] at hv
      simp -implicitDefEqProofs only [hlig, vmp,↓vmd,Env.get,putD,argEnv,List.map,x00,x01,x02,x03,x04,x05,x06,x07,List.take,List.drop,x08,x09,x0a,x0b,List.isEmpty,↓reduceIte,reduceCtorEq,Nat.reduceEqDiff,Nat.reduceAdd,Nat.reduceLeDiff,x0c,Int.reduceNeg,Nat.reduceMul,Nat.reduceSub,x0d,x0e,x0f,x0g,x0h,x0i,x0j,x0k,Int.reduceEq,Int.reduceLT,Int.reduceLE,Int.reduceToNat,Int.cast_ofNat_Int,List.reduceReplicate]
      exact rapply34_loop k ls hl hs y p (-1) y0 y1 p0 p2 out hv [1] (by simp) (by simp -implicitDefEqProofs only [envR_eq, kpp,Env.get,x01,x00,x02,x03,List.map,x08,x09,↓reduceIte,reduceCtorEq,Nat.reduceEqDiff,Nat.reduceLeDiff,Nat.reduceLT,Nat.reduceAdd,x0j,x0l,x0m,x0n,x0o,Int.cast_ofNat_Int,x0p,x0i,x07,x06,x0q,x0r,x0s,x0t,x0d,x0u]) (by simp -implicitDefEqProofs only [kpp,Env.get,x01,x00,x02,x03,List.map,x08,x09,↓reduceIte,reduceCtorEq,Nat.reduceEqDiff,Nat.reduceLeDiff,Nat.reduceLT,Nat.reduceAdd,x0j,x0l,x0m,x0n,x0o,Int.cast_ofNat_Int,x0p,x0i,x07,x06,x0q,x0r,x0s,x0t,x0d,x0u])
    simp -implicitDefEqProofs only [hlig, p0, p2, hgp, y0, y1, hgy, vmp,↓vmd,Env.get,putD,argEnv,List.map,x00,x01,x02,x03,x04,x05,x06,x07,List.take,List.drop,x08,x09,x0a,x0b,List.isEmpty,↓reduceIte,reduceCtorEq,Nat.reduceEqDiff,Nat.reduceAdd,Nat.reduceLeDiff,x0c,Int.reduceNeg,Nat.reduceMul,Nat.reduceSub,x0d,x0e,x0f,x0g,x0h,x0i,x0j,x0k,Int.reduceEq,Int.reduceLT,Int.reduceLE,Int.reduceToNat,Int.cast_ofNat_Int,List.reduceReplicate]
    by_cases hl2 : (glAt ls y).lig = (glAt ls p).lig
    · rw [compF, if_pos ⟨hlig, hl2⟩] at hv
      simp -implicitDefEqProofs only [hlig, eq_true hl2, y0, y1, hgy, vmp,↓vmd,Env.get,putD,argEnv,List.map,x00,x01,x02,x03,x04,x05,x06,x07,List.take,List.drop,x08,x09,x0a,x0b,List.isEmpty,↓reduceIte,reduceCtorEq,Nat.reduceEqDiff,Nat.reduceAdd,Nat.reduceLeDiff,x0c,Int.reduceNeg,Nat.reduceMul,Nat.reduceSub,x0d,x0e,x0f,x0g,x0h,x0i,x0j,x0k,Int.reduceEq,Int.reduceLT,Int.reduceLE,Int.reduceToNat,Int.cast_ofNat_Int,List.reduceReplicate]
      exact rapply34_loop k ls hl hs y p (glAt ls y).comp y0 y1 p0 p2 out hv [1] (by simp) (by simp -implicitDefEqProofs only [envR_eq, kpp,Env.get,x01,x00,x02,x03,List.map,x08,x09,↓reduceIte,reduceCtorEq,Nat.reduceEqDiff,Nat.reduceLeDiff,Nat.reduceLT,Nat.reduceAdd,x0j,x0l,x0m,x0n,x0o,Int.cast_ofNat_Int,x0p,x0i,x07,x06,x0q,x0r,x0s,x0t,x0d,x0u]) (by simp -implicitDefEqProofs only [kpp,Env.get,x01,x00,x02,x03,List.map,x08,x09,↓reduceIte,reduceCtorEq,Nat.reduceEqDiff,Nat.reduceLeDiff,Nat.reduceLT,Nat.reduceAdd,x0j,x0l,x0m,x0n,x0o,Int.cast_ofNat_Int,x0p,x0i,x07,x06,x0q,x0r,x0s,x0t,x0d,x0u])
    · rw [compF, if_neg (fun e => hl2 e.2)] at hv
      simp -implicitDefEqProofs only [hlig, hl2, vmp,↓vmd,Env.get,putD,argEnv,List.map,x00,x01,x02,x03,x04,x05,x06,x07,List.take,List.drop,x08,x09,x0a,x0b,List.isEmpty,↓reduceIte,reduceCtorEq,Nat.reduceEqDiff,Nat.reduceAdd,Nat.reduceLeDiff,x0c,Int.reduceNeg,Nat.reduceMul,Nat.reduceSub,x0d,x0e,x0f,x0g,x0h,x0i,x0j,x0k,Int.reduceEq,Int.reduceLT,Int.reduceLE,Int.reduceToNat,Int.cast_ofNat_Int,List.reduceReplicate]
      exact rapply34_loop k ls hl hs y p (-1) y0 y1 p0 p2 out hv [1] (by simp) (by simp -implicitDefEqProofs only [envR_eq, kpp,Env.get,x01,x00,x02,x03,List.map,x08,x09,↓reduceIte,reduceCtorEq,Nat.reduceEqDiff,Nat.reduceLeDiff,Nat.reduceLT,Nat.reduceAdd,x0j,x0l,x0m,x0n,x0o,Int.cast_ofNat_Int,x0p,x0i,x07,x06,x0q,x0r,x0s,x0t,x0d,x0u]) (by simp -implicitDefEqProofs only [kpp,Env.get,x01,x00,x02,x03,List.map,x08,x09,↓reduceIte,reduceCtorEq,Nat.reduceEqDiff,Nat.reduceLeDiff,Nat.reduceLT,Nat.reduceAdd,x0j,x0l,x0m,x0n,x0o,Int.cast_ofNat_Int,x0p,x0i,x07,x06,x0q,x0r,x0s,x0t,x0d,x0u])
end Go.Proofs.Ytbllbkhkmngclaa.W
