/-
  The hosts of marks: the two functions, one answer. No condition but on sizes.
-/
import Derived.Test.YtbllbkhkmngclaaMarksP
namespace Go.Proofs.Ytbllbkhkmngclaa.W
open Go Go.Vm Go.Proofs
set_option maxRecDepth 100000
set_option linter.unusedSimpArgs false
set_option maxHeartbeats 4000000
/-! typecase/marks.hung -/
def c46 : AC :=
  (.seq (.reg [⟨some 2, none, .mov (.c (.pure (.bool false)))⟩])
  (.seq (.reg [⟨some 3, none, .mov (.s 0)⟩,
    ⟨some 4, none, .bin .eql (.s 3) (.c (.pure (.int .i64 9)))⟩,
    ⟨some 5, none, .mov (.s 4)⟩,
    ⟨some 6, some (5, false), .mov (.s 0)⟩,
    ⟨some 7, some (5, false), .bin .eql (.s 6) (.c (.pure (.int .i64 10)))⟩,
    ⟨some 8, none, .pick (.s 5) (.c (.pure (.bool true))) (.s 7)⟩,
    ⟨some 9, none, .mov (.s 8)⟩,
    ⟨some 10, some (9, false), .mov (.s 0)⟩,
    ⟨some 11, some (9, false), .bin .eql (.s 10) (.c (.pure (.int .i64 11)))⟩,
    ⟨some 12, none, .pick (.s 9) (.c (.pure (.bool true))) (.s 11)⟩,
    ⟨some 2, none, .mov (.s 12)⟩])
  .ret))
theorem k46 : (Try.f46.body.bind fun c => cCode Try.prog Try.f46.ntmps RCs c) = some c46 := by kernel_rfl
theorem h46 : (Try.f46.name == "runtime.NumGoroutine") = false := by kernel_rfl
theorem r46 : resC Try.prog Try.f46.results.toList = some [.t 2] := by kernel_rfl
theorem a46 {args : List S} {H : Heap} {K : S → Heap → Prop} (hn : args.length ≤ 13) (h : aWx Try.prog H.length c46 (PostX [.t 2] K) (argEnv 0 args) H) : CallA Try.prog 46 args H K :=
  callA_of_x mixed Try.func46 h46 k46 r46 (by rw [Try.ntmps46]; exact hn) h
theorem q46 {vs ds : List V} (hn : vs.length ≤ 13) (h : aWx Try.prog 0 c46 (PostX [.t 2] (Gives ds)) (argEnv 0 (vs.map .pure)) []) : FnQ Try.prog 46 vs ds :=
  fnQ_of_call (a46 (by simpa using hn) h)
/-! typecase/marks.one -/
def c50 : AC :=
  (.seq (.reg [⟨some 2, none, .mov (.c (.pure (.int .i64 0)))⟩])
  (.seq (.seq (.reg [⟨some 3, none, .mov (.s 0)⟩])
  (.cond (.s 3)
  (.seq (.reg [⟨some 2, none, .mov (.c (.pure (.int .i64 1)))⟩])
  .ret)
  .skip))
  (.seq (.reg [⟨some 2, none, .mov (.c (.pure (.int .i64 0)))⟩])
  .ret)))
theorem k50 : (Try.f50.body.bind fun c => cCode Try.prog Try.f50.ntmps RCs c) = some c50 := by kernel_rfl
theorem h50 : (Try.f50.name == "runtime.NumGoroutine") = false := by kernel_rfl
theorem r50 : resC Try.prog Try.f50.results.toList = some [.t 2] := by kernel_rfl
theorem a50 {args : List S} {H : Heap} {K : S → Heap → Prop} (hn : args.length ≤ 4) (h : aWx Try.prog H.length c50 (PostX [.t 2] K) (argEnv 0 args) H) : CallA Try.prog 50 args H K :=
  callA_of_x mixed Try.func50 h50 k50 r50 (by rw [Try.ntmps50]; exact hn) h
theorem q50 {vs ds : List V} (hn : vs.length ≤ 4) (h : aWx Try.prog 0 c50 (PostX [.t 2] (Gives ds)) (argEnv 0 (vs.map .pure)) []) : FnQ Try.prog 50 vs ds :=
  fnQ_of_call (a50 (by simpa using hn) h)
/-! typecase/marks.Host -/
def c15_0 : AC :=
  (.seq (.seq (.regq [⟨some 115, none, .mov (.s 10)⟩,
    ⟨some 116, none, .bin .eql (.s 115) (.c (.pure (.int .i64 (-1))))⟩,
    ⟨some 117, none, .mov (.s 116)⟩,
    ⟨some 118, some (117, false), .load true 6 (.s 4)⟩,
    ⟨some 119, some (117, false), .mov (.s 2)⟩,
    ⟨some 120, some (117, false), .mov (.s 10)⟩,
    ⟨some 121, some (117, false), .idxA 10 (.s 119) (.s 120)⟩,
    ⟨some 122, some (117, false), .fldA 0 (.s 121)⟩,
    ⟨some 123, some (117, false), .load false 1 (.s 122)⟩,
    ⟨some 124, some (117, false), .call 47 [(.s 118), (.s 123)]⟩,
    ⟨some 125, some (117, false), .bin .eql (.s 124) (.c (.pure (.int .i64 2)))⟩,
    ⟨some 126, some (117, false), .fldA 0 (.s 5)⟩,
    ⟨some 127, some (117, false), .load false 1 (.s 126)⟩,
    ⟨some 128, some (117, false), .bin .eql (.s 127) (.c (.pure (.int .i64 10)))⟩]
    [⟨some 129, some (117, false), .eqb true (.s 125) (.s 128)⟩,
    ⟨some 130, none, .pick (.s 117) (.c (.pure (.bool true))) (.s 129)⟩])
  (.cond (.s 130)
  (.seq (.reg [⟨some 8, none, .mov (.c (.pure (.int .i64 0)))⟩,
    ⟨some 9, none, .mov (.c (.pure (.bool false)))⟩])
  .ret)
  .skip))
  (.seq (.reg [⟨some 131, none, .mov (.s 10)⟩,
    ⟨some 8, none, .mov (.s 131)⟩,
    ⟨some 9, none, .mov (.c (.pure (.bool true)))⟩])
  .ret))
def c15_1 : AC :=
  (.seq (.seq (.regq [⟨some 98, none, .mov (.s 10)⟩,
    ⟨some 99, none, .bin .neq (.s 98) (.c (.pure (.int .i64 (-1))))⟩,
    ⟨some 100, none, .mov (.s 99)⟩,
    ⟨some 101, some (100, true), .load true 6 (.s 4)⟩,
    ⟨some 102, some (100, true), .mov (.s 2)⟩,
    ⟨some 103, some (100, true), .mov (.s 10)⟩,
    ⟨some 104, some (100, true), .idxA 10 (.s 102) (.s 103)⟩,
    ⟨some 105, some (100, true), .fldA 0 (.s 104)⟩,
    ⟨some 106, some (100, true), .load false 1 (.s 105)⟩]
    [⟨some 107, some (100, true), .call 47 [(.s 101), (.s 106)]⟩,
    ⟨some 108, some (100, true), .bin .eql (.s 107) (.c (.pure (.int .i64 3)))⟩,
    ⟨some 109, none, .pick (.s 100) (.s 108) (.c (.pure (.bool false)))⟩])
  (.cond (.s 109)
  .skip
  (.exit 0)))
  (.block 1
  (.reg [⟨some 110, none, .load true 6 (.s 4)⟩,
    ⟨some 111, none, .load true 4 (.s 5)⟩,
    ⟨some 112, none, .mov (.s 2)⟩,
    ⟨some 113, none, .mov (.s 10)⟩,
    ⟨some 114, none, .call 49 [(.s 110), (.s 111), (.s 112), (.s 113)]⟩,
    ⟨some 10, none, .mov (.s 114)⟩])))
def c15 : AC :=
  (.seq (.reg [⟨some 4, none, .box (.s 0)⟩,
    ⟨some 5, none, .box (.s 1)⟩,
    ⟨some 8, none, .mov (.c (.pure (.int .i64 0)))⟩,
    ⟨some 9, none, .mov (.c (.pure (.bool false)))⟩])
  (.seq (.seq (.regq [⟨some 12, none, .fldA 0 (.s 5)⟩,
    ⟨some 13, none, .load false 1 (.s 12)⟩,
    ⟨some 14, none, .call 46 [(.s 13)]⟩,
    ⟨some 15, none, .un .not (.s 14)⟩,
    ⟨some 16, none, .mov (.s 15)⟩,
    ⟨some 17, some (16, false), .mov (.s 3)⟩,
    ⟨some 18, some (16, false), .bin .lss (.s 17) (.c (.pure (.int .i64 0)))⟩,
    ⟨some 19, none, .pick (.s 16) (.c (.pure (.bool true))) (.s 18)⟩,
    ⟨some 20, none, .mov (.s 19)⟩,
    ⟨some 21, some (20, false), .mov (.s 3)⟩,
    ⟨some 22, some (20, false), .mov (.s 2)⟩,
    ⟨some 23, some (20, false), .len (.s 22)⟩,
    ⟨some 24, some (20, false), .bin .geq (.s 21) (.s 23)⟩,
    ⟨some 25, none, .pick (.s 20) (.c (.pure (.bool true))) (.s 24)⟩,
    ⟨some 26, none, .mov (.s 25)⟩,
    ⟨some 27, some (26, false), .load true 6 (.s 4)⟩,
    ⟨some 28, some (26, false), .mov (.s 2)⟩,
    ⟨some 29, some (26, false), .mov (.s 3)⟩,
    ⟨some 30, some (26, false), .idxA 10 (.s 28) (.s 29)⟩,
    ⟨some 31, some (26, false), .fldA 0 (.s 30)⟩,
    ⟨some 32, some (26, false), .load false 1 (.s 31)⟩,
    ⟨some 33, some (26, false), .call 47 [(.s 27), (.s 32)]⟩,
    ⟨some 34, some (26, false), .bin .neq (.s 33) (.c (.pure (.int .i64 3)))⟩,
    ⟨some 35, none, .pick (.s 26) (.c (.pure (.bool true))) (.s 34)⟩,
    ⟨some 36, none, .mov (.s 35)⟩,
    ⟨some 37, some (36, false), .load true 6 (.s 4)⟩,
    ⟨some 38, some (36, false), .load true 4 (.s 5)⟩,
    ⟨some 39, some (36, false), .mov (.s 2)⟩,
    ⟨some 40, some (36, false), .mov (.s 3)⟩,
    ⟨some 41, some (36, false), .idxA 10 (.s 39) (.s 40)⟩,
    ⟨some 42, some (36, false), .fldA 0 (.s 41)⟩,
    ⟨some 43, some (36, false), .load false 1 (.s 42)⟩]
    [⟨some 44, some (36, false), .call 48 [(.s 37), (.s 38), (.s 43)]⟩,
    ⟨some 45, none, .pick (.s 36) (.c (.pure (.bool true))) (.s 44)⟩])
  (.cond (.s 45)
  (.seq (.reg [⟨some 8, none, .mov (.c (.pure (.int .i64 0)))⟩,
    ⟨some 9, none, .mov (.c (.pure (.bool false)))⟩])
  .ret)
  .skip))
  (.seq (.reg [⟨some 46, none, .load true 6 (.s 4)⟩,
    ⟨some 47, none, .load true 4 (.s 5)⟩,
    ⟨some 48, none, .mov (.s 2)⟩,
    ⟨some 49, none, .mov (.s 3)⟩,
    ⟨some 50, none, .call 49 [(.s 46), (.s 47), (.s 48), (.s 49)]⟩,
    ⟨some 10, none, .mov (.s 50)⟩])
  (.seq (.seq (.reg [⟨some 51, none, .fldA 0 (.s 5)⟩,
    ⟨some 52, none, .load false 1 (.s 51)⟩,
    ⟨some 53, none, .bin .eql (.s 52) (.c (.pure (.int .i64 11)))⟩])
  (.cond (.s 53)
  (.seq (.regq [⟨some 54, none, .mov (.s 10)⟩,
    ⟨some 55, none, .bin .neq (.s 54) (.c (.pure (.int .i64 (-1))))⟩,
    ⟨some 56, none, .mov (.s 55)⟩,
    ⟨some 57, some (56, true), .load true 6 (.s 4)⟩,
    ⟨some 58, some (56, true), .mov (.s 2)⟩,
    ⟨some 59, some (56, true), .mov (.s 10)⟩,
    ⟨some 60, some (56, true), .idxA 10 (.s 58) (.s 59)⟩,
    ⟨some 61, some (56, true), .fldA 0 (.s 60)⟩,
    ⟨some 62, some (56, true), .load false 1 (.s 61)⟩,
    ⟨some 63, some (56, true), .call 47 [(.s 57), (.s 62)]⟩,
    ⟨some 64, some (56, true), .bin .eql (.s 63) (.c (.pure (.int .i64 3)))⟩,
    ⟨some 65, none, .pick (.s 56) (.s 64) (.c (.pure (.bool false)))⟩,
    ⟨some 66, none, .mov (.s 65)⟩,
    ⟨some 67, some (66, true), .mov (.s 2)⟩,
    ⟨some 68, some (66, true), .mov (.s 10)⟩,
    ⟨some 69, some (66, true), .idxA 10 (.s 67) (.s 68)⟩,
    ⟨some 70, some (66, true), .fldA 7 (.s 69)⟩,
    ⟨some 71, some (66, true), .load false 1 (.s 70)⟩,
    ⟨some 72, some (66, true), .mov (.s 2)⟩,
    ⟨some 73, some (66, true), .mov (.s 3)⟩,
    ⟨some 74, some (66, true), .idxA 10 (.s 72) (.s 73)⟩,
    ⟨some 75, some (66, true), .fldA 7 (.s 74)⟩,
    ⟨some 76, some (66, true), .load false 1 (.s 75)⟩,
    ⟨some 77, some (66, true), .bin .eql (.s 71) (.s 76)⟩,
    ⟨some 78, none, .pick (.s 66) (.s 77) (.c (.pure (.bool false)))⟩,
    ⟨some 79, none, .mov (.s 78)⟩,
    ⟨some 80, some (79, true), .mov (.s 2)⟩,
    ⟨some 81, some (79, true), .mov (.s 10)⟩,
    ⟨some 82, some (79, true), .idxA 10 (.s 80) (.s 81)⟩,
    ⟨some 83, some (79, true), .fldA 8 (.s 82)⟩,
    ⟨some 84, some (79, true), .load false 1 (.s 83)⟩,
    ⟨some 85, some (79, true), .mov (.s 2)⟩,
    ⟨some 86, some (79, true), .mov (.s 3)⟩,
    ⟨some 87, some (79, true), .idxA 10 (.s 85) (.s 86)⟩,
    ⟨some 88, some (79, true), .fldA 8 (.s 87)⟩,
    ⟨some 89, some (79, true), .load false 1 (.s 88)⟩]
    [⟨some 90, some (79, true), .bin .eql (.s 84) (.s 89)⟩,
    ⟨some 91, none, .pick (.s 79) (.s 90) (.c (.pure (.bool false)))⟩,
    ⟨some 11, none, .mov (.s 91)⟩])
  (.seq (.reg [⟨some 92, none, .mov (.s 10)⟩,
    ⟨some 93, none, .mx (.s 92) (.c (.pure (.int .i64 0)))⟩,
    ⟨some 94, none, .mov (.s 11)⟩,
    ⟨some 95, none, .call 50 [(.s 94)]⟩,
    ⟨some 96, none, .bin .mul (.s 93) (.s 95)⟩,
    ⟨some 97, none, .mov (.s 11)⟩,
    ⟨some 8, none, .mov (.s 96)⟩,
    ⟨some 9, none, .mov (.s 97)⟩])
  .ret))
  .skip))
  (.seq (.block 0
  (.loop c15_1))
  c15_0)))))
theorem k15 : (Try.f15.body.bind fun c => cCode Try.prog Try.f15.ntmps RCs c) = some c15 := by kernel_rfl
theorem h15 : (Try.f15.name == "runtime.NumGoroutine") = false := by kernel_rfl
theorem r15 : resC Try.prog Try.f15.results.toList = some [.t 8, .t 9] := by kernel_rfl
theorem a15 {args : List S} {H : Heap} {K : S → Heap → Prop} (hn : args.length ≤ 132) (h : aWx Try.prog H.length c15 (PostX [.t 8, .t 9] K) (argEnv 0 args) H) : CallA Try.prog 15 args H K :=
  callA_of_x mixed Try.func15 h15 k15 r15 (by rw [Try.ntmps15]; exact hn) h
theorem q15 {vs ds : List V} (hn : vs.length ≤ 132) (h : aWx Try.prog 0 c15 (PostX [.t 8, .t 9] (Gives ds)) (argEnv 0 (vs.map .pure)) []) : FnQ Try.prog 15 vs ds :=
  fnQ_of_call (a15 (by simpa using hn) h)
/-! typecase/typecaseref34.base -/
def c53_0 : AC :=
  (.seq (.reg [⟨some 31, none, .mov (.s 3)⟩,
    ⟨some 8, none, .mov (.s 31)⟩])
  .ret)
def c53_1 : AC :=
  (.seq (.seq (.regq [⟨some 14, none, .mov (.s 3)⟩,
    ⟨some 15, none, .bin .geq (.s 14) (.c (.pure (.int .i64 0)))⟩,
    ⟨some 16, none, .mov (.s 15)⟩,
    ⟨some 17, some (16, true), .load true 6 (.s 4)⟩,
    ⟨some 18, some (16, true), .mov (.s 2)⟩,
    ⟨some 19, some (16, true), .mov (.s 3)⟩,
    ⟨some 20, some (16, true), .idxA 10 (.s 18) (.s 19)⟩,
    ⟨some 21, some (16, true), .fldA 0 (.s 20)⟩,
    ⟨some 22, some (16, true), .load false 1 (.s 21)⟩]
    [⟨some 23, some (16, true), .call 51 [(.s 17), (.s 22)]⟩,
    ⟨some 24, some (16, true), .bin .eql (.s 23) (.c (.pure (.int .i64 3)))⟩,
    ⟨some 25, none, .pick (.s 16) (.s 24) (.c (.pure (.bool false)))⟩])
  (.cond (.s 25)
  .skip
  (.exit 0)))
  (.block 1
  (.reg [⟨some 26, none, .load true 6 (.s 4)⟩,
    ⟨some 27, none, .load true 4 (.s 5)⟩,
    ⟨some 28, none, .mov (.s 2)⟩,
    ⟨some 29, none, .mov (.s 3)⟩,
    ⟨some 30, none, .call 54 [(.s 26), (.s 27), (.s 28), (.s 29)]⟩,
    ⟨some 3, none, .mov (.s 30)⟩])))
def c53 : AC :=
  (.seq (.reg [⟨some 4, none, .box (.s 0)⟩,
    ⟨some 5, none, .box (.s 1)⟩,
    ⟨some 8, none, .mov (.c (.pure (.int .i64 0)))⟩])
  (.seq (.reg [⟨some 9, none, .load true 6 (.s 4)⟩,
    ⟨some 10, none, .load true 4 (.s 5)⟩,
    ⟨some 11, none, .mov (.s 2)⟩,
    ⟨some 12, none, .mov (.s 3)⟩,
    ⟨some 13, none, .call 54 [(.s 9), (.s 10), (.s 11), (.s 12)]⟩,
    ⟨some 3, none, .mov (.s 13)⟩])
  (.seq (.block 0
  (.loop c53_1))
  c53_0)))
theorem k53 : (Try.f53.body.bind fun c => cCode Try.prog Try.f53.ntmps RCs c) = some c53 := by kernel_rfl
theorem h53 : (Try.f53.name == "runtime.NumGoroutine") = false := by kernel_rfl
theorem r53 : resC Try.prog Try.f53.results.toList = some [.t 8] := by kernel_rfl
theorem a53 {args : List S} {H : Heap} {K : S → Heap → Prop} (hn : args.length ≤ 32) (h : aWx Try.prog H.length c53 (PostX [.t 8] K) (argEnv 0 args) H) : CallA Try.prog 53 args H K :=
  callA_of_x mixed Try.func53 h53 k53 r53 (by rw [Try.ntmps53]; exact hn) h
theorem q53 {vs ds : List V} (hn : vs.length ≤ 32) (h : aWx Try.prog 0 c53 (PostX [.t 8] (Gives ds)) (argEnv 0 (vs.map .pure)) []) : FnQ Try.prog 53 vs ds :=
  fnQ_of_call (a53 (by simpa using hn) h)
/-! typecase/typecaseref34.Host -/
def c16 : AC :=
  (.seq (.reg [⟨some 4, none, .box (.s 0)⟩,
    ⟨some 5, none, .box (.s 1)⟩,
    ⟨some 8, none, .mov (.c (.pure (.int .i64 0)))⟩,
    ⟨some 9, none, .mov (.c (.pure (.bool false)))⟩])
  (.seq (.seq (.regq [⟨some 11, none, .mov (.s 3)⟩,
    ⟨some 12, none, .bin .lss (.s 11) (.c (.pure (.int .i64 0)))⟩,
    ⟨some 13, none, .mov (.s 12)⟩,
    ⟨some 14, some (13, false), .mov (.s 3)⟩,
    ⟨some 15, some (13, false), .mov (.s 2)⟩,
    ⟨some 16, some (13, false), .len (.s 15)⟩,
    ⟨some 17, some (13, false), .bin .geq (.s 14) (.s 16)⟩,
    ⟨some 18, none, .pick (.s 13) (.c (.pure (.bool true))) (.s 17)⟩,
    ⟨some 19, none, .mov (.s 18)⟩,
    ⟨some 20, some (19, false), .load true 6 (.s 4)⟩,
    ⟨some 21, some (19, false), .mov (.s 2)⟩,
    ⟨some 22, some (19, false), .mov (.s 3)⟩,
    ⟨some 23, some (19, false), .idxA 10 (.s 21) (.s 22)⟩,
    ⟨some 24, some (19, false), .fldA 0 (.s 23)⟩,
    ⟨some 25, some (19, false), .load false 1 (.s 24)⟩,
    ⟨some 26, some (19, false), .call 51 [(.s 20), (.s 25)]⟩,
    ⟨some 27, some (19, false), .bin .neq (.s 26) (.c (.pure (.int .i64 3)))⟩,
    ⟨some 28, none, .pick (.s 19) (.c (.pure (.bool true))) (.s 27)⟩,
    ⟨some 29, none, .mov (.s 28)⟩,
    ⟨some 30, some (29, false), .load true 6 (.s 4)⟩,
    ⟨some 31, some (29, false), .load true 4 (.s 5)⟩,
    ⟨some 32, some (29, false), .mov (.s 2)⟩,
    ⟨some 33, some (29, false), .mov (.s 3)⟩,
    ⟨some 34, some (29, false), .idxA 10 (.s 32) (.s 33)⟩,
    ⟨some 35, some (29, false), .fldA 0 (.s 34)⟩,
    ⟨some 36, some (29, false), .load false 1 (.s 35)⟩]
    [⟨some 37, some (29, false), .call 52 [(.s 30), (.s 31), (.s 36)]⟩,
    ⟨some 38, none, .pick (.s 29) (.c (.pure (.bool true))) (.s 37)⟩])
  (.cond (.s 38)
  (.seq (.reg [⟨some 8, none, .mov (.c (.pure (.int .i64 0)))⟩,
    ⟨some 9, none, .mov (.c (.pure (.bool false)))⟩])
  .ret)
  .skip))
  (.seq (.reg [⟨some 10, none, .mov (.c (.pure (.int .i64 (-1))))⟩])
  (.seq (.seq (.reg [⟨some 39, none, .fldA 0 (.s 5)⟩,
    ⟨some 40, none, .load false 1 (.s 39)⟩])
  (.block 0
  (.seq (.seq (.reg [⟨some 42, none, .bin .eql (.s 40) (.c (.pure (.int .i64 9)))⟩,
    ⟨some 41, none, .mov (.s 42)⟩])
  (.cond (.s 41)
  .skip
  (.reg [⟨some 43, none, .bin .eql (.s 40) (.c (.pure (.int .i64 10)))⟩,
    ⟨some 41, none, .mov (.s 43)⟩])))
  (.cond (.s 41)
  (.seq (.reg [⟨some 44, none, .load true 6 (.s 4)⟩,
    ⟨some 45, none, .load true 4 (.s 5)⟩,
    ⟨some 46, none, .mov (.s 2)⟩,
    ⟨some 47, none, .mov (.s 3)⟩,
    ⟨some 48, none, .call 53 [(.s 44), (.s 45), (.s 46), (.s 47)]⟩,
    ⟨some 10, none, .mov (.s 48)⟩])
  (.seq (.regq [⟨some 49, none, .mov (.s 10)⟩,
    ⟨some 50, none, .bin .geq (.s 49) (.c (.pure (.int .i64 0)))⟩,
    ⟨some 51, none, .mov (.s 50)⟩,
    ⟨some 52, some (51, true), .load true 6 (.s 4)⟩,
    ⟨some 53, some (51, true), .mov (.s 2)⟩,
    ⟨some 54, some (51, true), .mov (.s 10)⟩,
    ⟨some 55, some (51, true), .idxA 10 (.s 53) (.s 54)⟩,
    ⟨some 56, some (51, true), .fldA 0 (.s 55)⟩,
    ⟨some 57, some (51, true), .load false 1 (.s 56)⟩,
    ⟨some 58, some (51, true), .call 51 [(.s 52), (.s 57)]⟩,
    ⟨some 59, some (51, true), .bin .eql (.s 58) (.c (.pure (.int .i64 2)))⟩,
    ⟨some 60, some (51, true), .fldA 0 (.s 5)⟩,
    ⟨some 61, some (51, true), .load false 1 (.s 60)⟩,
    ⟨some 62, some (51, true), .bin .eql (.s 61) (.c (.pure (.int .i64 10)))⟩]
    [⟨some 63, some (51, true), .eqb true (.s 59) (.s 62)⟩,
    ⟨some 64, none, .pick (.s 51) (.s 63) (.c (.pure (.bool false)))⟩])
  (.cond (.s 64)
  (.reg [⟨some 10, none, .mov (.c (.pure (.int .i64 (-1))))⟩])
  .skip)))
  (.seq (.reg [⟨some 66, none, .bin .eql (.s 40) (.c (.pure (.int .i64 11)))⟩,
    ⟨some 65, none, .mov (.s 66)⟩])
  (.cond (.s 65)
  (.seq (.reg [⟨some 67, none, .load true 6 (.s 4)⟩,
    ⟨some 68, none, .load true 4 (.s 5)⟩,
    ⟨some 69, none, .mov (.s 2)⟩,
    ⟨some 70, none, .mov (.s 3)⟩,
    ⟨some 71, none, .call 54 [(.s 67), (.s 68), (.s 69), (.s 70)]⟩,
    ⟨some 10, none, .mov (.s 71)⟩])
  (.seq (.regq [⟨some 72, none, .mov (.s 10)⟩,
    ⟨some 73, none, .bin .geq (.s 72) (.c (.pure (.int .i64 0)))⟩,
    ⟨some 74, none, .mov (.s 73)⟩,
    ⟨some 75, some (74, true), .load true 6 (.s 4)⟩,
    ⟨some 76, some (74, true), .mov (.s 2)⟩,
    ⟨some 77, some (74, true), .mov (.s 10)⟩,
    ⟨some 78, some (74, true), .idxA 10 (.s 76) (.s 77)⟩,
    ⟨some 79, some (74, true), .fldA 0 (.s 78)⟩,
    ⟨some 80, some (74, true), .load false 1 (.s 79)⟩,
    ⟨some 81, some (74, true), .call 51 [(.s 75), (.s 80)]⟩,
    ⟨some 82, some (74, true), .bin .neq (.s 81) (.c (.pure (.int .i64 3)))⟩,
    ⟨some 83, some (74, true), .mov (.s 82)⟩,
    ⟨some 84, some (83, false), .mov (.s 2)⟩,
    ⟨some 85, some (83, false), .mov (.s 10)⟩,
    ⟨some 86, some (83, false), .idxA 10 (.s 84) (.s 85)⟩,
    ⟨some 87, some (83, false), .fldA 7 (.s 86)⟩,
    ⟨some 88, some (83, false), .load false 1 (.s 87)⟩,
    ⟨some 89, some (83, false), .mov (.s 2)⟩,
    ⟨some 90, some (83, false), .mov (.s 3)⟩,
    ⟨some 91, some (83, false), .idxA 10 (.s 89) (.s 90)⟩,
    ⟨some 92, some (83, false), .fldA 7 (.s 91)⟩,
    ⟨some 93, some (83, false), .load false 1 (.s 92)⟩,
    ⟨some 94, some (83, false), .bin .neq (.s 88) (.s 93)⟩,
    ⟨some 95, some (74, true), .pick (.s 83) (.c (.pure (.bool true))) (.s 94)⟩,
    ⟨some 96, some (74, true), .mov (.s 95)⟩,
    ⟨some 97, some (96, false), .mov (.s 2)⟩,
    ⟨some 98, some (96, false), .mov (.s 10)⟩,
    ⟨some 99, some (96, false), .idxA 10 (.s 97) (.s 98)⟩,
    ⟨some 100, some (96, false), .fldA 8 (.s 99)⟩,
    ⟨some 101, some (96, false), .load false 1 (.s 100)⟩,
    ⟨some 102, some (96, false), .mov (.s 2)⟩,
    ⟨some 103, some (96, false), .mov (.s 3)⟩,
    ⟨some 104, some (96, false), .idxA 10 (.s 102) (.s 103)⟩,
    ⟨some 105, some (96, false), .fldA 8 (.s 104)⟩,
    ⟨some 106, some (96, false), .load false 1 (.s 105)⟩]
    [⟨some 107, some (96, false), .bin .neq (.s 101) (.s 106)⟩,
    ⟨some 108, some (74, true), .pick (.s 96) (.c (.pure (.bool true))) (.s 107)⟩,
    ⟨some 109, none, .pick (.s 74) (.s 108) (.c (.pure (.bool false)))⟩])
  (.cond (.s 109)
  (.reg [⟨some 10, none, .mov (.c (.pure (.int .i64 (-1))))⟩])
  .skip)))
  .skip))))))
  (.seq (.seq (.reg [⟨some 110, none, .mov (.s 10)⟩,
    ⟨some 111, none, .bin .lss (.s 110) (.c (.pure (.int .i64 0)))⟩])
  (.cond (.s 111)
  (.seq (.reg [⟨some 8, none, .mov (.c (.pure (.int .i64 0)))⟩,
    ⟨some 9, none, .mov (.c (.pure (.bool false)))⟩])
  .ret)
  .skip))
  (.seq (.reg [⟨some 112, none, .mov (.s 10)⟩,
    ⟨some 8, none, .mov (.s 112)⟩,
    ⟨some 9, none, .mov (.c (.pure (.bool true)))⟩])
  .ret))))))
theorem k16 : (Try.f16.body.bind fun c => cCode Try.prog Try.f16.ntmps RCs c) = some c16 := by kernel_rfl
theorem h16 : (Try.f16.name == "runtime.NumGoroutine") = false := by kernel_rfl
theorem r16 : resC Try.prog Try.f16.results.toList = some [.t 8, .t 9] := by kernel_rfl
theorem a16 {args : List S} {H : Heap} {K : S → Heap → Prop} (hn : args.length ≤ 113) (h : aWx Try.prog H.length c16 (PostX [.t 8, .t 9] K) (argEnv 0 args) H) : CallA Try.prog 16 args H K :=
  callA_of_x mixed Try.func16 h16 k16 r16 (by rw [Try.ntmps16]; exact hn) h
theorem q16 {vs ds : List V} (hn : vs.length ≤ 113) (h : aWx Try.prog 0 c16 (PostX [.t 8, .t 9] (Gives ds)) (argEnv 0 (vs.map .pure)) []) : FnQ Try.prog 16 vs ds :=
  fnQ_of_call (a16 (by simpa using hn) h)

theorem hung_q (n : Int) : FnQ Try.prog 46 [I n] [.bool (hungF n)] := by
  refine q46 (by simp) ?_
  unfold c46
  simp -implicitDefEqProofs only [*, vmp,↓vmd,Env.get,putD,argEnv,List.map,x00,x01,x02,x03,x04,x05,x06,x07,List.take,List.drop,x08,x09,x0a,x0b,List.isEmpty,↓reduceIte,reduceCtorEq,Nat.reduceEqDiff,Nat.reduceAdd,Nat.reduceLeDiff,x0c,Int.reduceNeg,Nat.reduceMul,Nat.reduceSub,x0d,x0e,x0f,x0g,x0h,x0i,x0j,x0k,Int.reduceEq,Int.reduceLT,Int.reduceLE,Int.reduceToNat,Int.cast_ofNat_Int,List.reduceReplicate]
  by_cases h1 : n = 9
  · simp -implicitDefEqProofs only [h1, vmp,↓vmd,Env.get,putD,argEnv,List.map,x00,x01,x02,x03,x04,x05,x06,x07,List.take,List.drop,x08,x09,x0a,x0b,List.isEmpty,↓reduceIte,reduceCtorEq,Nat.reduceEqDiff,Nat.reduceAdd,Nat.reduceLeDiff,x0c,Int.reduceNeg,Nat.reduceMul,Nat.reduceSub,x0d,x0e,x0f,x0g,x0h,x0i,x0j,x0k,Int.reduceEq,Int.reduceLT,Int.reduceLE,Int.reduceToNat,Int.cast_ofNat_Int,List.reduceReplicate]
    exact gives_pure
  by_cases h2 : n = 10
  · simp -implicitDefEqProofs only [h1, h2, vmp,↓vmd,Env.get,putD,argEnv,List.map,x00,x01,x02,x03,x04,x05,x06,x07,List.take,List.drop,x08,x09,x0a,x0b,List.isEmpty,↓reduceIte,reduceCtorEq,Nat.reduceEqDiff,Nat.reduceAdd,Nat.reduceLeDiff,x0c,Int.reduceNeg,Nat.reduceMul,Nat.reduceSub,x0d,x0e,x0f,x0g,x0h,x0i,x0j,x0k,Int.reduceEq,Int.reduceLT,Int.reduceLE,Int.reduceToNat,Int.cast_ofNat_Int,List.reduceReplicate]
    exact gives_pure
  · simp -implicitDefEqProofs only [h1, h2, vmp,↓vmd,Env.get,putD,argEnv,List.map,x00,x01,x02,x03,x04,x05,x06,x07,List.take,List.drop,x08,x09,x0a,x0b,List.isEmpty,↓reduceIte,reduceCtorEq,Nat.reduceEqDiff,Nat.reduceAdd,Nat.reduceLeDiff,x0c,Int.reduceNeg,Nat.reduceMul,Nat.reduceSub,x0d,x0e,x0f,x0g,x0h,x0i,x0j,x0k,Int.reduceEq,Int.reduceLT,Int.reduceLE,Int.reduceToNat,Int.cast_ofNat_Int,List.reduceReplicate]
    rw [show hungF n = decide (n = 11) by simp [hungF, h1, h2]]
    exact gives_pure
theorem one_q (b : Bool) : FnQ Try.prog 50 [.bool b] [I (if b = true then 1 else 0)] := by
  refine q50 (by simp) ?_
  unfold c50
  cases b
  · simp -implicitDefEqProofs only [*, vmp,↓vmd,Env.get,putD,argEnv,List.map,x00,x01,x02,x03,x04,x05,x06,x07,List.take,List.drop,x08,x09,x0a,x0b,List.isEmpty,↓reduceIte,reduceCtorEq,Nat.reduceEqDiff,Nat.reduceAdd,Nat.reduceLeDiff,x0c,Int.reduceNeg,Nat.reduceMul,Nat.reduceSub,x0d,x0e,x0f,x0g,x0h,x0i,x0j,x0k,Int.reduceEq,Int.reduceLT,Int.reduceLE,Int.reduceToNat,Int.cast_ofNat_Int,List.reduceReplicate]
    exact gives_pure
  · simp -implicitDefEqProofs only [*, vmp,↓vmd,Env.get,putD,argEnv,List.map,x00,x01,x02,x03,x04,x05,x06,x07,List.take,List.drop,x08,x09,x0a,x0b,List.isEmpty,↓reduceIte,reduceCtorEq,Nat.reduceEqDiff,Nat.reduceAdd,Nat.reduceLeDiff,x0c,Int.reduceNeg,Nat.reduceMul,Nat.reduceSub,x0d,x0e,x0f,x0g,x0h,x0i,x0j,x0k,Int.reduceEq,Int.reduceLT,Int.reduceLE,Int.reduceToNat,Int.cast_ofNat_Int,List.reduceReplicate]
    exact gives_pure
theorem prv_q (f : Fo) (k : Lk) (ls : List Gl) (hl : ls.length ≤ 1000) (y : Int) : FnQ Try.prog 49 [fo f, lk k, .sl (ls.map gl), I y] [I (prvF f k ls y)] := prev_q f k.kind k.flags k.set (.sl (k.subs.map sub)) ls y hl
theorem rprv_q (f : Fo) (k : Lk) (ls : List Gl) (hl : ls.length ≤ 1000) (y : Int) : FnQ Try.prog 54 [fo f, lk k, .sl (ls.map gl), I y] [I (prvF f k ls y)] := rprev_q f k.kind k.flags k.set (.sl (k.subs.map sub)) ls y hl
theorem kat_q (f : Fo) (ls : List Gl) (y : Int) : FnQ Try.prog 47 [fo f, I (glAt ls y).id] [I (kAt f ls y)] := kind_q f _
theorem rkat_q (f : Fo) (ls : List Gl) (y : Int) : FnQ Try.prog 51 [fo f, I (glAt ls y).id] [I (kAt f ls y)] := rkind_q f _
theorem skp_q (f : Fo) (k : Lk) (g : Int) : FnQ Try.prog 48 [fo f, lk k, I g] [.bool (skipsF f k.flags k.set g)] := skips_q f k.kind k.flags k.set g _
theorem rskp_q (f : Fo) (k : Lk) (g : Int) : FnQ Try.prog 52 [fo f, lk k, I g] [.bool (skipsF f k.flags k.set g)] := rskips_q f k.kind k.flags k.set g _
theorem base_q (f : Fo) (k : Lk) (ls : List Gl) (hl : ls.length ≤ 1000) (y : Int) : FnQ Try.prog 53 [fo f, lk k, .sl (ls.map gl), I y] [I (baseM f k ls (ls.length + 1) (prvF f k ls y))] := by
  refine q53 (by simp) ?_
  unfold c53
  simp -implicitDefEqProofs only [*, vmp,↓vmd,Env.get,putD,argEnv,List.map,x00,x01,x02,x03,x04,x05,x06,x07,List.take,List.drop,x08,x09,x0a,x0b,List.isEmpty,↓reduceIte,reduceCtorEq,Nat.reduceEqDiff,Nat.reduceAdd,Nat.reduceLeDiff,x0c,Int.reduceNeg,Nat.reduceMul,Nat.reduceSub,x0d,x0e,x0f,x0g,x0h,x0i,x0j,x0k,Int.reduceEq,Int.reduceLT,Int.reduceLE,Int.reduceToNat,Int.cast_ofNat_Int,List.reduceReplicate]
  refine onC_q (rprv_q f k ls hl y) rfl ?_
  first | refine envO (by simp -implicitDefEqProofs only [vmp,↓vmd,Env.get,putD,argEnv,List.map,x00,x01,x02,x03,x04,x05,x06,x07,List.take,List.drop,x08,x09,x0a,x0b,List.isEmpty,↓reduceIte,reduceCtorEq,Nat.reduceEqDiff,Nat.reduceAdd,Nat.reduceLeDiff,x0c,Int.reduceNeg,Nat.reduceMul,Nat.reduceSub,x0d,x0e,x0f,x0g,x0h,x0i,x0j,x0k,Int.reduceEq,Int.reduceLT,Int.reduceLE,Int.reduceToNat,Int.cast_ofNat_Int,List.reduceReplicate]; rfl) ?_ | refine envQ (by simp -implicitDefEqProofs only [vmp,↓vmd,Env.get,putD,argEnv,List.map,x00,x01,x02,x03,x04,x05,x06,x07,List.take,List.drop,x08,x09,x0a,x0b,List.isEmpty,↓reduceIte,reduceCtorEq,Nat.reduceEqDiff,Nat.reduceAdd,Nat.reduceLeDiff,x0c,Int.reduceNeg,Nat.reduceMul,Nat.reduceSub,x0d,x0e,x0f,x0g,x0h,x0i,x0j,x0k,Int.reduceEq,Int.reduceLT,Int.reduceLE,Int.reduceToNat,Int.cast_ofNat_Int,List.reduceReplicate]; rfl) ?_
  simp -implicitDefEqProofs only [vmp,↓vmd,Env.get,putD,argEnv,List.map,x00,x01,x02,x03,x04,x05,x06,x07,List.take,List.drop,x08,x09,x0a,x0b,List.isEmpty,↓reduceIte,reduceCtorEq,Nat.reduceEqDiff,Nat.reduceAdd,Nat.reduceLeDiff,x0c,Int.reduceNeg,Nat.reduceMul,Nat.reduceSub,x0d,x0e,x0f,x0g,x0h,x0i,x0j,x0k,Int.reduceEq,Int.reduceLT,Int.reduceLE,Int.reduceToNat,Int.cast_ofNat_Int,List.reduceReplicate]
  have hin := prvF_lt f k ls y
  generalize prvF f k ls y = z at *
  refine loop_at (T := Int) (fun i => [(3, .pure (I i)), (2, .pure (.sl (ls.map gl))), (4, .ptr 0 0 0), (5, .ptr 1 0 0)]) (fun _ => [⟨[.pure (fo f)], 6, .live⟩, ⟨[.pure (lk k)], 4, .live⟩])
    (fun i => -1 ≤ i ∧ i < ls.length ∧ baseM f k ls (ls.length + 1) i = baseM f k ls (ls.length + 1) z) (fun i => (i + 1).toNat)
    z [0, 1] (by simp) rfl ⟨by omega, by omega, rfl⟩ (by simp -implicitDefEqProofs only [kpp,Env.get,x01,x00,x02,x03,List.map,x08,x09,↓reduceIte,reduceCtorEq,Nat.reduceEqDiff,Nat.reduceLeDiff,Nat.reduceLT,Nat.reduceAdd,x0j,x0l,x0m,x0n,x0o,Int.cast_ofNat_Int,x0p,x0i,x07,x06,x0q,x0r,x0s,x0t,x0d,x0u]) (by simp -implicitDefEqProofs only [kpp,Env.get,x01,x00,x02,x03,List.map,x08,x09,↓reduceIte,reduceCtorEq,Nat.reduceEqDiff,Nat.reduceLeDiff,Nat.reduceLT,Nat.reduceAdd,x0j,x0l,x0m,x0n,x0o,Int.cast_ofNat_Int,x0p,x0i,x07,x06,x0q,x0r,x0s,x0t,x0d,x0u]) ?_
  rintro i ⟨hi0, hi1, hr⟩
  unfold c53_1
  simp -implicitDefEqProofs only [vmp,↓vmd,Env.get,putD,argEnv,List.map,x00,x01,x02,x03,x04,x05,x06,x07,List.take,List.drop,x08,x09,x0a,x0b,List.isEmpty,↓reduceIte,reduceCtorEq,Nat.reduceEqDiff,Nat.reduceAdd,Nat.reduceLeDiff,x0c,Int.reduceNeg,Nat.reduceMul,Nat.reduceSub,x0d,x0e,x0f,x0g,x0h,x0i,x0j,x0k,Int.reduceEq,Int.reduceLT,Int.reduceLE,Int.reduceToNat,Int.cast_ofNat_Int,List.reduceReplicate]
  by_cases h0 : 0 ≤ i
  · have hg := glAt_map h0 hi1
    simp -implicitDefEqProofs only [h0, hi1, hg, vmp,↓vmd,Env.get,putD,argEnv,List.map,x00,x01,x02,x03,x04,x05,x06,x07,List.take,List.drop,x08,x09,x0a,x0b,List.isEmpty,↓reduceIte,reduceCtorEq,Nat.reduceEqDiff,Nat.reduceAdd,Nat.reduceLeDiff,x0c,Int.reduceNeg,Nat.reduceMul,Nat.reduceSub,x0d,x0e,x0f,x0g,x0h,x0i,x0j,x0k,Int.reduceEq,Int.reduceLT,Int.reduceLE,Int.reduceToNat,Int.cast_ofNat_Int,List.reduceReplicate]
    refine onC_q (rkat_q f ls i) rfl ?_
    first | refine envO (by simp -implicitDefEqProofs only [vmp,↓vmd,Env.get,putD,argEnv,List.map,x00,x01,x02,x03,x04,x05,x06,x07,List.take,List.drop,x08,x09,x0a,x0b,List.isEmpty,↓reduceIte,reduceCtorEq,Nat.reduceEqDiff,Nat.reduceAdd,Nat.reduceLeDiff,x0c,Int.reduceNeg,Nat.reduceMul,Nat.reduceSub,x0d,x0e,x0f,x0g,x0h,x0i,x0j,x0k,Int.reduceEq,Int.reduceLT,Int.reduceLE,Int.reduceToNat,Int.cast_ofNat_Int,List.reduceReplicate]; rfl) ?_ | refine envQ (by simp -implicitDefEqProofs only [vmp,↓vmd,Env.get,putD,argEnv,List.map,x00,x01,x02,x03,x04,x05,x06,x07,List.take,List.drop,x08,x09,x0a,x0b,List.isEmpty,↓reduceIte,reduceCtorEq,Nat.reduceEqDiff,Nat.reduceAdd,Nat.reduceLeDiff,x0c,Int.reduceNeg,Nat.reduceMul,Nat.reduceSub,x0d,x0e,x0f,x0g,x0h,x0i,x0j,x0k,Int.reduceEq,Int.reduceLT,Int.reduceLE,Int.reduceToNat,Int.cast_ofNat_Int,List.reduceReplicate]; rfl) ?_
    by_cases h3 : kAt f ls i = 3
    · have hn := baseM_next (k := k) h0 hi1 h3
      have hp := prvF_lt f k ls i
      simp -implicitDefEqProofs only [h0, h3, vmp,↓vmd,Env.get,putD,argEnv,List.map,x00,x01,x02,x03,x04,x05,x06,x07,List.take,List.drop,x08,x09,x0a,x0b,List.isEmpty,↓reduceIte,reduceCtorEq,Nat.reduceEqDiff,Nat.reduceAdd,Nat.reduceLeDiff,x0c,Int.reduceNeg,Nat.reduceMul,Nat.reduceSub,x0d,x0e,x0f,x0g,x0h,x0i,x0j,x0k,Int.reduceEq,Int.reduceLT,Int.reduceLE,Int.reduceToNat,Int.cast_ofNat_Int,List.reduceReplicate]
      refine onC_q (rprv_q f k ls hl i) rfl ?_
      first | refine envO (by simp -implicitDefEqProofs only [vmp,↓vmd,Env.get,putD,argEnv,List.map,x00,x01,x02,x03,x04,x05,x06,x07,List.take,List.drop,x08,x09,x0a,x0b,List.isEmpty,↓reduceIte,reduceCtorEq,Nat.reduceEqDiff,Nat.reduceAdd,Nat.reduceLeDiff,x0c,Int.reduceNeg,Nat.reduceMul,Nat.reduceSub,x0d,x0e,x0f,x0g,x0h,x0i,x0j,x0k,Int.reduceEq,Int.reduceLT,Int.reduceLE,Int.reduceToNat,Int.cast_ofNat_Int,List.reduceReplicate]; rfl) ?_ | refine envQ (by simp -implicitDefEqProofs only [vmp,↓vmd,Env.get,putD,argEnv,List.map,x00,x01,x02,x03,x04,x05,x06,x07,List.take,List.drop,x08,x09,x0a,x0b,List.isEmpty,↓reduceIte,reduceCtorEq,Nat.reduceEqDiff,Nat.reduceAdd,Nat.reduceLeDiff,x0c,Int.reduceNeg,Nat.reduceMul,Nat.reduceSub,x0d,x0e,x0f,x0g,x0h,x0i,x0j,x0k,Int.reduceEq,Int.reduceLT,Int.reduceLE,Int.reduceToNat,Int.cast_ofNat_Int,List.reduceReplicate]; rfl) ?_
      simp -implicitDefEqProofs only [vmp,↓vmd,Env.get,putD,argEnv,List.map,x00,x01,x02,x03,x04,x05,x06,x07,List.take,List.drop,x08,x09,x0a,x0b,List.isEmpty,↓reduceIte,reduceCtorEq,Nat.reduceEqDiff,Nat.reduceAdd,Nat.reduceLeDiff,x0c,Int.reduceNeg,Nat.reduceMul,Nat.reduceSub,x0d,x0e,x0f,x0g,x0h,x0i,x0j,x0k,Int.reduceEq,Int.reduceLT,Int.reduceLE,Int.reduceToNat,Int.cast_ofNat_Int,List.reduceReplicate]
      generalize prvF f k ls i = w at *
      refine onBk_to w [0, 1] (by simp) rfl (by omega) ⟨by omega, by omega, by rw [← hn, hr]⟩ (by simp -implicitDefEqProofs only [kpp,Env.get,x01,x00,x02,x03,List.map,x08,x09,↓reduceIte,reduceCtorEq,Nat.reduceEqDiff,Nat.reduceLeDiff,Nat.reduceLT,Nat.reduceAdd,x0j,x0l,x0m,x0n,x0o,Int.cast_ofNat_Int,x0p,x0i,x07,x06,x0q,x0r,x0s,x0t,x0d,x0u]) (by simp -implicitDefEqProofs only [kpp,Env.get,x01,x00,x02,x03,List.map,x08,x09,↓reduceIte,reduceCtorEq,Nat.reduceEqDiff,Nat.reduceLeDiff,Nat.reduceLT,Nat.reduceAdd,x0j,x0l,x0m,x0n,x0o,Int.cast_ofNat_Int,x0p,x0i,x07,x06,x0q,x0r,x0s,x0t,x0d,x0u])
    · rw [baseM_at (.inr h3)] at hr
      simp -implicitDefEqProofs only [h0, h3, vmp,↓vmd,Env.get,putD,argEnv,List.map,x00,x01,x02,x03,x04,x05,x06,x07,List.take,List.drop,x08,x09,x0a,x0b,List.isEmpty,↓reduceIte,reduceCtorEq,Nat.reduceEqDiff,Nat.reduceAdd,Nat.reduceLeDiff,x0c,Int.reduceNeg,Nat.reduceMul,Nat.reduceSub,x0d,x0e,x0f,x0g,x0h,x0i,x0j,x0k,Int.reduceEq,Int.reduceLT,Int.reduceLE,Int.reduceToNat,Int.cast_ofNat_Int,List.reduceReplicate]
      unfold c53_0
      simp -implicitDefEqProofs only [vmp,↓vmd,Env.get,putD,argEnv,List.map,x00,x01,x02,x03,x04,x05,x06,x07,List.take,List.drop,x08,x09,x0a,x0b,List.isEmpty,↓reduceIte,reduceCtorEq,Nat.reduceEqDiff,Nat.reduceAdd,Nat.reduceLeDiff,x0c,Int.reduceNeg,Nat.reduceMul,Nat.reduceSub,x0d,x0e,x0f,x0g,x0h,x0i,x0j,x0k,Int.reduceEq,Int.reduceLT,Int.reduceLE,Int.reduceToNat,Int.cast_ofNat_Int,List.reduceReplicate]
      rw [← hr]
      exact gives_pure
  · rw [baseM_at (.inl (by omega))] at hr
    simp -implicitDefEqProofs only [h0, vmp,↓vmd,Env.get,putD,argEnv,List.map,x00,x01,x02,x03,x04,x05,x06,x07,List.take,List.drop,x08,x09,x0a,x0b,List.isEmpty,↓reduceIte,reduceCtorEq,Nat.reduceEqDiff,Nat.reduceAdd,Nat.reduceLeDiff,x0c,Int.reduceNeg,Nat.reduceMul,Nat.reduceSub,x0d,x0e,x0f,x0g,x0h,x0i,x0j,x0k,Int.reduceEq,Int.reduceLT,Int.reduceLE,Int.reduceToNat,Int.cast_ofNat_Int,List.reduceReplicate]
    unfold c53_0
    simp -implicitDefEqProofs only [vmp,↓vmd,Env.get,putD,argEnv,List.map,x00,x01,x02,x03,x04,x05,x06,x07,List.take,List.drop,x08,x09,x0a,x0b,List.isEmpty,↓reduceIte,reduceCtorEq,Nat.reduceEqDiff,Nat.reduceAdd,Nat.reduceLeDiff,x0c,Int.reduceNeg,Nat.reduceMul,Nat.reduceSub,x0d,x0e,x0f,x0g,x0h,x0i,x0j,x0k,Int.reduceEq,Int.reduceLT,Int.reduceLE,Int.reduceToNat,Int.cast_ofNat_Int,List.reduceReplicate]
    rw [← hr]
    exact gives_pure
def hostR (o : Option Int) : List V := [I (o.getD 0), .bool o.isSome]
theorem host_q (f : Fo) (k : Lk) (ls : List Gl) (hl : ls.length ≤ 1000) (y : Int) : FnQ Try.prog 15 [fo f, lk k, .sl (ls.map gl), I y] (hostR (hostF f k ls y)) := by
  refine q15 (by simp) ?_
  unfold c15
  simp -implicitDefEqProofs only [*, vmp,↓vmd,Env.get,putD,argEnv,List.map,x00,x01,x02,x03,x04,x05,x06,x07,List.take,List.drop,x08,x09,x0a,x0b,List.isEmpty,↓reduceIte,reduceCtorEq,Nat.reduceEqDiff,Nat.reduceAdd,Nat.reduceLeDiff,x0c,Int.reduceNeg,Nat.reduceMul,Nat.reduceSub,x0d,x0e,x0f,x0g,x0h,x0i,x0j,x0k,Int.reduceEq,Int.reduceLT,Int.reduceLE,Int.reduceToNat,Int.cast_ofNat_Int,List.reduceReplicate]
  refine onQ_q (hung_q _) rfl ?_
  first | refine envO (by simp -implicitDefEqProofs only [vmp,↓vmd,Env.get,putD,argEnv,List.map,x00,x01,x02,x03,x04,x05,x06,x07,List.take,List.drop,x08,x09,x0a,x0b,List.isEmpty,↓reduceIte,reduceCtorEq,Nat.reduceEqDiff,Nat.reduceAdd,Nat.reduceLeDiff,x0c,Int.reduceNeg,Nat.reduceMul,Nat.reduceSub,x0d,x0e,x0f,x0g,x0h,x0i,x0j,x0k,Int.reduceEq,Int.reduceLT,Int.reduceLE,Int.reduceToNat,Int.cast_ofNat_Int,List.reduceReplicate]; rfl) ?_ | refine envQ (by simp -implicitDefEqProofs only [vmp,↓vmd,Env.get,putD,argEnv,List.map,x00,x01,x02,x03,x04,x05,x06,x07,List.take,List.drop,x08,x09,x0a,x0b,List.isEmpty,↓reduceIte,reduceCtorEq,Nat.reduceEqDiff,Nat.reduceAdd,Nat.reduceLeDiff,x0c,Int.reduceNeg,Nat.reduceMul,Nat.reduceSub,x0d,x0e,x0f,x0g,x0h,x0i,x0j,x0k,Int.reduceEq,Int.reduceLT,Int.reduceLE,Int.reduceToNat,Int.cast_ofNat_Int,List.reduceReplicate]; rfl) ?_
  simp -implicitDefEqProofs only [vmp,↓vmd,Env.get,putD,argEnv,List.map,x00,x01,x02,x03,x04,x05,x06,x07,List.take,List.drop,x08,x09,x0a,x0b,List.isEmpty,↓reduceIte,reduceCtorEq,Nat.reduceEqDiff,Nat.reduceAdd,Nat.reduceLeDiff,x0c,Int.reduceNeg,Nat.reduceMul,Nat.reduceSub,x0d,x0e,x0f,x0g,x0h,x0i,x0j,x0k,Int.reduceEq,Int.reduceLT,Int.reduceLE,Int.reduceToNat,Int.cast_ofNat_Int,List.reduceReplicate]
  by_cases hh : hungF k.kind = true
  · simp -implicitDefEqProofs only [hh, vmp,↓vmd,Env.get,putD,argEnv,List.map,x00,x01,x02,x03,x04,x05,x06,x07,List.take,List.drop,x08,x09,x0a,x0b,List.isEmpty,↓reduceIte,reduceCtorEq,Nat.reduceEqDiff,Nat.reduceAdd,Nat.reduceLeDiff,x0c,Int.reduceNeg,Nat.reduceMul,Nat.reduceSub,x0d,x0e,x0f,x0g,x0h,x0i,x0j,x0k,Int.reduceEq,Int.reduceLT,Int.reduceLE,Int.reduceToNat,Int.cast_ofNat_Int,List.reduceReplicate]
    by_cases h0 : y < 0
    · simp -implicitDefEqProofs only [h0, vmp,↓vmd,Env.get,putD,argEnv,List.map,x00,x01,x02,x03,x04,x05,x06,x07,List.take,List.drop,x08,x09,x0a,x0b,List.isEmpty,↓reduceIte,reduceCtorEq,Nat.reduceEqDiff,Nat.reduceAdd,Nat.reduceLeDiff,x0c,Int.reduceNeg,Nat.reduceMul,Nat.reduceSub,x0d,x0e,x0f,x0g,x0h,x0i,x0j,x0k,Int.reduceEq,Int.reduceLT,Int.reduceLE,Int.reduceToNat,Int.cast_ofNat_Int,List.reduceReplicate]
      rw [hostF, if_pos (.inr (.inl h0))]
      exact gives_tup rfl (by simp)
    simp -implicitDefEqProofs only [h0, vmp,↓vmd,Env.get,putD,argEnv,List.map,x00,x01,x02,x03,x04,x05,x06,x07,List.take,List.drop,x08,x09,x0a,x0b,List.isEmpty,↓reduceIte,reduceCtorEq,Nat.reduceEqDiff,Nat.reduceAdd,Nat.reduceLeDiff,x0c,Int.reduceNeg,Nat.reduceMul,Nat.reduceSub,x0d,x0e,x0f,x0g,x0h,x0i,x0j,x0k,Int.reduceEq,Int.reduceLT,Int.reduceLE,Int.reduceToNat,Int.cast_ofNat_Int,List.reduceReplicate]
    by_cases h1 : (ls.length : Int) ≤ y
    · simp -implicitDefEqProofs only [h0, h1, vmp,↓vmd,Env.get,putD,argEnv,List.map,x00,x01,x02,x03,x04,x05,x06,x07,List.take,List.drop,x08,x09,x0a,x0b,List.isEmpty,↓reduceIte,reduceCtorEq,Nat.reduceEqDiff,Nat.reduceAdd,Nat.reduceLeDiff,x0c,Int.reduceNeg,Nat.reduceMul,Nat.reduceSub,x0d,x0e,x0f,x0g,x0h,x0i,x0j,x0k,Int.reduceEq,Int.reduceLT,Int.reduceLE,Int.reduceToNat,Int.cast_ofNat_Int,List.reduceReplicate]
      rw [hostF, if_pos (.inr (.inr (.inl h1)))]
      exact gives_tup rfl (by simp)
    have y0 : 0 ≤ y := by omega
    have y1 : y < ls.length := by omega
    have hg := glAt_map y0 y1
    simp -implicitDefEqProofs only [h0, h1, y0, y1, hg, vmp,↓vmd,Env.get,putD,argEnv,List.map,x00,x01,x02,x03,x04,x05,x06,x07,List.take,List.drop,x08,x09,x0a,x0b,List.isEmpty,↓reduceIte,reduceCtorEq,Nat.reduceEqDiff,Nat.reduceAdd,Nat.reduceLeDiff,x0c,Int.reduceNeg,Nat.reduceMul,Nat.reduceSub,x0d,x0e,x0f,x0g,x0h,x0i,x0j,x0k,Int.reduceEq,Int.reduceLT,Int.reduceLE,Int.reduceToNat,Int.cast_ofNat_Int,List.reduceReplicate]
    refine onQ_q (kat_q f ls y) rfl ?_
    first | refine envO (by simp -implicitDefEqProofs only [vmp,↓vmd,Env.get,putD,argEnv,List.map,x00,x01,x02,x03,x04,x05,x06,x07,List.take,List.drop,x08,x09,x0a,x0b,List.isEmpty,↓reduceIte,reduceCtorEq,Nat.reduceEqDiff,Nat.reduceAdd,Nat.reduceLeDiff,x0c,Int.reduceNeg,Nat.reduceMul,Nat.reduceSub,x0d,x0e,x0f,x0g,x0h,x0i,x0j,x0k,Int.reduceEq,Int.reduceLT,Int.reduceLE,Int.reduceToNat,Int.cast_ofNat_Int,List.reduceReplicate]; rfl) ?_ | refine envQ (by simp -implicitDefEqProofs only [vmp,↓vmd,Env.get,putD,argEnv,List.map,x00,x01,x02,x03,x04,x05,x06,x07,List.take,List.drop,x08,x09,x0a,x0b,List.isEmpty,↓reduceIte,reduceCtorEq,Nat.reduceEqDiff,Nat.reduceAdd,Nat.reduceLeDiff,x0c,Int.reduceNeg,Nat.reduceMul,Nat.reduceSub,x0d,x0e,x0f,x0g,x0h,x0i,x0j,x0k,Int.reduceEq,Int.reduceLT,Int.reduceLE,Int.reduceToNat,Int.cast_ofNat_Int,List.reduceReplicate]; rfl) ?_
    by_cases h3 : kAt f ls y = 3
    · simp -implicitDefEqProofs only [hh, h0, h1, h3, y0, y1, hg, vmp,↓vmd,Env.get,putD,argEnv,List.map,x00,x01,x02,x03,x04,x05,x06,x07,List.take,List.drop,x08,x09,x0a,x0b,List.isEmpty,↓reduceIte,reduceCtorEq,Nat.reduceEqDiff,Nat.reduceAdd,Nat.reduceLeDiff,x0c,Int.reduceNeg,Nat.reduceMul,Nat.reduceSub,x0d,x0e,x0f,x0g,x0h,x0i,x0j,x0k,Int.reduceEq,Int.reduceLT,Int.reduceLE,Int.reduceToNat,Int.cast_ofNat_Int,List.reduceReplicate]
      refine onC_q (skp_q f k _) rfl ?_
      first | refine envO (by simp -implicitDefEqProofs only [vmp,↓vmd,Env.get,putD,argEnv,List.map,x00,x01,x02,x03,x04,x05,x06,x07,List.take,List.drop,x08,x09,x0a,x0b,List.isEmpty,↓reduceIte,reduceCtorEq,Nat.reduceEqDiff,Nat.reduceAdd,Nat.reduceLeDiff,x0c,Int.reduceNeg,Nat.reduceMul,Nat.reduceSub,x0d,x0e,x0f,x0g,x0h,x0i,x0j,x0k,Int.reduceEq,Int.reduceLT,Int.reduceLE,Int.reduceToNat,Int.cast_ofNat_Int,List.reduceReplicate]; rfl) ?_ | refine envQ (by simp -implicitDefEqProofs only [vmp,↓vmd,Env.get,putD,argEnv,List.map,x00,x01,x02,x03,x04,x05,x06,x07,List.take,List.drop,x08,x09,x0a,x0b,List.isEmpty,↓reduceIte,reduceCtorEq,Nat.reduceEqDiff,Nat.reduceAdd,Nat.reduceLeDiff,x0c,Int.reduceNeg,Nat.reduceMul,Nat.reduceSub,x0d,x0e,x0f,x0g,x0h,x0i,x0j,x0k,Int.reduceEq,Int.reduceLT,Int.reduceLE,Int.reduceToNat,Int.cast_ofNat_Int,List.reduceReplicate]; rfl) ?_
      by_cases hs : skipsF f k.flags k.set (glAt ls y).id = true
      · simp -implicitDefEqProofs only [hh, h0, h1, h3, hs, vmp,↓vmd,Env.get,putD,argEnv,List.map,x00,x01,x02,x03,x04,x05,x06,x07,List.take,List.drop,x08,x09,x0a,x0b,List.isEmpty,↓reduceIte,reduceCtorEq,Nat.reduceEqDiff,Nat.reduceAdd,Nat.reduceLeDiff,x0c,Int.reduceNeg,Nat.reduceMul,Nat.reduceSub,x0d,x0e,x0f,x0g,x0h,x0i,x0j,x0k,Int.reduceEq,Int.reduceLT,Int.reduceLE,Int.reduceToNat,Int.cast_ofNat_Int,List.reduceReplicate]
        rw [hostF, if_pos (.inr (.inr (.inr (.inr hs))))]
        exact gives_tup rfl (by simp)
      have hs' : skipsF f k.flags k.set (glAt ls y).id = false := by simpa using hs
      have hv := hostF_eq hh h0 h1 h3 hs'
      simp -implicitDefEqProofs only [hh, h0, h1, h3, hs', vmp,↓vmd,Env.get,putD,argEnv,List.map,x00,x01,x02,x03,x04,x05,x06,x07,List.take,List.drop,x08,x09,x0a,x0b,List.isEmpty,↓reduceIte,reduceCtorEq,Nat.reduceEqDiff,Nat.reduceAdd,Nat.reduceLeDiff,x0c,Int.reduceNeg,Nat.reduceMul,Nat.reduceSub,x0d,x0e,x0f,x0g,x0h,x0i,x0j,x0k,Int.reduceEq,Int.reduceLT,Int.reduceLE,Int.reduceToNat,Int.cast_ofNat_Int,List.reduceReplicate]
      refine onC_q (prv_q f k ls hl y) rfl ?_
      first | refine envO (by simp -implicitDefEqProofs only [vmp,↓vmd,Env.get,putD,argEnv,List.map,x00,x01,x02,x03,x04,x05,x06,x07,List.take,List.drop,x08,x09,x0a,x0b,List.isEmpty,↓reduceIte,reduceCtorEq,Nat.reduceEqDiff,Nat.reduceAdd,Nat.reduceLeDiff,x0c,Int.reduceNeg,Nat.reduceMul,Nat.reduceSub,x0d,x0e,x0f,x0g,x0h,x0i,x0j,x0k,Int.reduceEq,Int.reduceLT,Int.reduceLE,Int.reduceToNat,Int.cast_ofNat_Int,List.reduceReplicate]; rfl) ?_ | refine envQ (by simp -implicitDefEqProofs only [vmp,↓vmd,Env.get,putD,argEnv,List.map,x00,x01,x02,x03,x04,x05,x06,x07,List.take,List.drop,x08,x09,x0a,x0b,List.isEmpty,↓reduceIte,reduceCtorEq,Nat.reduceEqDiff,Nat.reduceAdd,Nat.reduceLeDiff,x0c,Int.reduceNeg,Nat.reduceMul,Nat.reduceSub,x0d,x0e,x0f,x0g,x0h,x0i,x0j,x0k,Int.reduceEq,Int.reduceLT,Int.reduceLE,Int.reduceToNat,Int.cast_ofNat_Int,List.reduceReplicate]; rfl) ?_
      simp -implicitDefEqProofs only [vmp,↓vmd,Env.get,putD,argEnv,List.map,x00,x01,x02,x03,x04,x05,x06,x07,List.take,List.drop,x08,x09,x0a,x0b,List.isEmpty,↓reduceIte,reduceCtorEq,Nat.reduceEqDiff,Nat.reduceAdd,Nat.reduceLeDiff,x0c,Int.reduceNeg,Nat.reduceMul,Nat.reduceSub,x0d,x0e,x0f,x0g,x0h,x0i,x0j,x0k,Int.reduceEq,Int.reduceLT,Int.reduceLE,Int.reduceToNat,Int.cast_ofNat_Int,List.reduceReplicate]
      have hin := prvF_lt f k ls y
      by_cases h11 : k.kind = 11
      · generalize baseM f k ls (ls.length + 1) (prvF f k ls y) = bb at *
        generalize prvF f k ls y = z at *
        have w0 : ∀ n : Int, IntKind.wrap .i64 (n * 0) = 0 := fun n => by rw [Int.mul_zero]; decide
        by_cases hz : z = -1
        · rw [hostB_11n h11 (fun e => e.1 hz)] at hv
          simp -implicitDefEqProofs only [h11, hz, vmp,↓vmd,Env.get,putD,argEnv,List.map,x00,x01,x02,x03,x04,x05,x06,x07,List.take,List.drop,x08,x09,x0a,x0b,List.isEmpty,↓reduceIte,reduceCtorEq,Nat.reduceEqDiff,Nat.reduceAdd,Nat.reduceLeDiff,x0c,Int.reduceNeg,Nat.reduceMul,Nat.reduceSub,x0d,x0e,x0f,x0g,x0h,x0i,x0j,x0k,Int.reduceEq,Int.reduceLT,Int.reduceLE,Int.reduceToNat,Int.cast_ofNat_Int,List.reduceReplicate]
          refine onC_q (one_q false) rfl ?_
          simp -implicitDefEqProofs only [w0, vmp,↓vmd,Env.get,putD,argEnv,List.map,x00,x01,x02,x03,x04,x05,x06,x07,List.take,List.drop,x08,x09,x0a,x0b,List.isEmpty,↓reduceIte,reduceCtorEq,Nat.reduceEqDiff,Nat.reduceAdd,Nat.reduceLeDiff,x0c,Int.reduceNeg,Nat.reduceMul,Nat.reduceSub,x0d,x0e,x0f,x0g,x0h,x0i,x0j,x0k,Int.reduceEq,Int.reduceLT,Int.reduceLE,Int.reduceToNat,Int.cast_ofNat_Int,List.reduceReplicate]
          rw [hv]
          exact gives_tup rfl (by simp)
        have z0 : 0 ≤ z := by omega
        have z1 : z < ls.length := by omega
        have hgz := glAt_map z0 z1
        have m1 : max z 0 = z := by omega
        have w1 : IntKind.wrap .i64 (z * 1) = z := by rw [Int.mul_one, wrap_id (by omega) (by omega)]
        simp -implicitDefEqProofs only [h11, hz, z0, z1, hgz, vmp,↓vmd,Env.get,putD,argEnv,List.map,x00,x01,x02,x03,x04,x05,x06,x07,List.take,List.drop,x08,x09,x0a,x0b,List.isEmpty,↓reduceIte,reduceCtorEq,Nat.reduceEqDiff,Nat.reduceAdd,Nat.reduceLeDiff,x0c,Int.reduceNeg,Nat.reduceMul,Nat.reduceSub,x0d,x0e,x0f,x0g,x0h,x0i,x0j,x0k,Int.reduceEq,Int.reduceLT,Int.reduceLE,Int.reduceToNat,Int.cast_ofNat_Int,List.reduceReplicate]
        refine onQ_q (kat_q f ls z) rfl ?_
        first | refine envO (by simp -implicitDefEqProofs only [vmp,↓vmd,Env.get,putD,argEnv,List.map,x00,x01,x02,x03,x04,x05,x06,x07,List.take,List.drop,x08,x09,x0a,x0b,List.isEmpty,↓reduceIte,reduceCtorEq,Nat.reduceEqDiff,Nat.reduceAdd,Nat.reduceLeDiff,x0c,Int.reduceNeg,Nat.reduceMul,Nat.reduceSub,x0d,x0e,x0f,x0g,x0h,x0i,x0j,x0k,Int.reduceEq,Int.reduceLT,Int.reduceLE,Int.reduceToNat,Int.cast_ofNat_Int,List.reduceReplicate]; rfl) ?_ | refine envQ (by simp -implicitDefEqProofs only [vmp,↓vmd,Env.get,putD,argEnv,List.map,x00,x01,x02,x03,x04,x05,x06,x07,List.take,List.drop,x08,x09,x0a,x0b,List.isEmpty,↓reduceIte,reduceCtorEq,Nat.reduceEqDiff,Nat.reduceAdd,Nat.reduceLeDiff,x0c,Int.reduceNeg,Nat.reduceMul,Nat.reduceSub,x0d,x0e,x0f,x0g,x0h,x0i,x0j,x0k,Int.reduceEq,Int.reduceLT,Int.reduceLE,Int.reduceToNat,Int.cast_ofNat_Int,List.reduceReplicate]; rfl) ?_
        by_cases k3 : kAt f ls z = 3
        · simp -implicitDefEqProofs only [hz, k3, z0, z1, hgz, y0, y1, hg, vmp,↓vmd,Env.get,putD,argEnv,List.map,x00,x01,x02,x03,x04,x05,x06,x07,List.take,List.drop,x08,x09,x0a,x0b,List.isEmpty,↓reduceIte,reduceCtorEq,Nat.reduceEqDiff,Nat.reduceAdd,Nat.reduceLeDiff,x0c,Int.reduceNeg,Nat.reduceMul,Nat.reduceSub,x0d,x0e,x0f,x0g,x0h,x0i,x0j,x0k,Int.reduceEq,Int.reduceLT,Int.reduceLE,Int.reduceToNat,Int.cast_ofNat_Int,List.reduceReplicate]
          by_cases kl : (glAt ls z).lig = (glAt ls y).lig
          · simp -implicitDefEqProofs only [hz, k3, kl, z0, z1, hgz, y0, y1, hg, vmp,↓vmd,Env.get,putD,argEnv,List.map,x00,x01,x02,x03,x04,x05,x06,x07,List.take,List.drop,x08,x09,x0a,x0b,List.isEmpty,↓reduceIte,reduceCtorEq,Nat.reduceEqDiff,Nat.reduceAdd,Nat.reduceLeDiff,x0c,Int.reduceNeg,Nat.reduceMul,Nat.reduceSub,x0d,x0e,x0f,x0g,x0h,x0i,x0j,x0k,Int.reduceEq,Int.reduceLT,Int.reduceLE,Int.reduceToNat,Int.cast_ofNat_Int,List.reduceReplicate]
            by_cases kc : (glAt ls z).comp = (glAt ls y).comp
            · rw [hostB_11 h11 hz k3 kl kc] at hv
              simp -implicitDefEqProofs only [hz, k3, kl, kc, vmp,↓vmd,Env.get,putD,argEnv,List.map,x00,x01,x02,x03,x04,x05,x06,x07,List.take,List.drop,x08,x09,x0a,x0b,List.isEmpty,↓reduceIte,reduceCtorEq,Nat.reduceEqDiff,Nat.reduceAdd,Nat.reduceLeDiff,x0c,Int.reduceNeg,Nat.reduceMul,Nat.reduceSub,x0d,x0e,x0f,x0g,x0h,x0i,x0j,x0k,Int.reduceEq,Int.reduceLT,Int.reduceLE,Int.reduceToNat,Int.cast_ofNat_Int,List.reduceReplicate]
              refine onC_q (one_q true) rfl ?_
              simp -implicitDefEqProofs only [m1, w1, kc, vmp,↓vmd,Env.get,putD,argEnv,List.map,x00,x01,x02,x03,x04,x05,x06,x07,List.take,List.drop,x08,x09,x0a,x0b,List.isEmpty,↓reduceIte,reduceCtorEq,Nat.reduceEqDiff,Nat.reduceAdd,Nat.reduceLeDiff,x0c,Int.reduceNeg,Nat.reduceMul,Nat.reduceSub,x0d,x0e,x0f,x0g,x0h,x0i,x0j,x0k,Int.reduceEq,Int.reduceLT,Int.reduceLE,Int.reduceToNat,Int.cast_ofNat_Int,List.reduceReplicate]
              rw [hv]
              exact gives_tup rfl (by simp)
            · rw [hostB_11n h11 (fun e => kc e.2.2.2)] at hv
              simp -implicitDefEqProofs only [hz, k3, kl, kc, vmp,↓vmd,Env.get,putD,argEnv,List.map,x00,x01,x02,x03,x04,x05,x06,x07,List.take,List.drop,x08,x09,x0a,x0b,List.isEmpty,↓reduceIte,reduceCtorEq,Nat.reduceEqDiff,Nat.reduceAdd,Nat.reduceLeDiff,x0c,Int.reduceNeg,Nat.reduceMul,Nat.reduceSub,x0d,x0e,x0f,x0g,x0h,x0i,x0j,x0k,Int.reduceEq,Int.reduceLT,Int.reduceLE,Int.reduceToNat,Int.cast_ofNat_Int,List.reduceReplicate]
              refine onC_q (one_q false) rfl ?_
              simp -implicitDefEqProofs only [w0, kc, vmp,↓vmd,Env.get,putD,argEnv,List.map,x00,x01,x02,x03,x04,x05,x06,x07,List.take,List.drop,x08,x09,x0a,x0b,List.isEmpty,↓reduceIte,reduceCtorEq,Nat.reduceEqDiff,Nat.reduceAdd,Nat.reduceLeDiff,x0c,Int.reduceNeg,Nat.reduceMul,Nat.reduceSub,x0d,x0e,x0f,x0g,x0h,x0i,x0j,x0k,Int.reduceEq,Int.reduceLT,Int.reduceLE,Int.reduceToNat,Int.cast_ofNat_Int,List.reduceReplicate]
              rw [hv]
              exact gives_tup rfl (by simp)
          · rw [hostB_11n h11 (fun e => kl e.2.2.1)] at hv
            simp -implicitDefEqProofs only [hz, k3, kl, vmp,↓vmd,Env.get,putD,argEnv,List.map,x00,x01,x02,x03,x04,x05,x06,x07,List.take,List.drop,x08,x09,x0a,x0b,List.isEmpty,↓reduceIte,reduceCtorEq,Nat.reduceEqDiff,Nat.reduceAdd,Nat.reduceLeDiff,x0c,Int.reduceNeg,Nat.reduceMul,Nat.reduceSub,x0d,x0e,x0f,x0g,x0h,x0i,x0j,x0k,Int.reduceEq,Int.reduceLT,Int.reduceLE,Int.reduceToNat,Int.cast_ofNat_Int,List.reduceReplicate]
            refine onC_q (one_q false) rfl ?_
            simp -implicitDefEqProofs only [w0, vmp,↓vmd,Env.get,putD,argEnv,List.map,x00,x01,x02,x03,x04,x05,x06,x07,List.take,List.drop,x08,x09,x0a,x0b,List.isEmpty,↓reduceIte,reduceCtorEq,Nat.reduceEqDiff,Nat.reduceAdd,Nat.reduceLeDiff,x0c,Int.reduceNeg,Nat.reduceMul,Nat.reduceSub,x0d,x0e,x0f,x0g,x0h,x0i,x0j,x0k,Int.reduceEq,Int.reduceLT,Int.reduceLE,Int.reduceToNat,Int.cast_ofNat_Int,List.reduceReplicate]
            rw [hv]
            exact gives_tup rfl (by simp)
        · rw [hostB_11n h11 (fun e => k3 e.2.1)] at hv
          simp -implicitDefEqProofs only [hz, k3, vmp,↓vmd,Env.get,putD,argEnv,List.map,x00,x01,x02,x03,x04,x05,x06,x07,List.take,List.drop,x08,x09,x0a,x0b,List.isEmpty,↓reduceIte,reduceCtorEq,Nat.reduceEqDiff,Nat.reduceAdd,Nat.reduceLeDiff,x0c,Int.reduceNeg,Nat.reduceMul,Nat.reduceSub,x0d,x0e,x0f,x0g,x0h,x0i,x0j,x0k,Int.reduceEq,Int.reduceLT,Int.reduceLE,Int.reduceToNat,Int.cast_ofNat_Int,List.reduceReplicate]
          refine onC_q (one_q false) rfl ?_
          simp -implicitDefEqProofs only [w0, vmp,↓vmd,Env.get,putD,argEnv,List.map,x00,x01,x02,x03,x04,x05,x06,x07,List.take,List.drop,x08,x09,x0a,x0b,List.isEmpty,↓reduceIte,reduceCtorEq,Nat.reduceEqDiff,Nat.reduceAdd,Nat.reduceLeDiff,x0c,Int.reduceNeg,Nat.reduceMul,Nat.reduceSub,x0d,x0e,x0f,x0g,x0h,x0i,x0j,x0k,Int.reduceEq,Int.reduceLT,Int.reduceLE,Int.reduceToNat,Int.cast_ofNat_Int,List.reduceReplicate]
          rw [hv]
          exact gives_tup rfl (by simp)
      · skip
        simp -implicitDefEqProofs only [h11, vmp,↓vmd,Env.get,putD,argEnv,List.map,x00,x01,x02,x03,x04,x05,x06,x07,List.take,List.drop,x08,x09,x0a,x0b,List.isEmpty,↓reduceIte,reduceCtorEq,Nat.reduceEqDiff,Nat.reduceAdd,Nat.reduceLeDiff,x0c,Int.reduceNeg,Nat.reduceMul,Nat.reduceSub,x0d,x0e,x0f,x0g,x0h,x0i,x0j,x0k,Int.reduceEq,Int.reduceLT,Int.reduceLE,Int.reduceToNat,Int.cast_ofNat_Int,List.reduceReplicate]
        generalize prvF f k ls y = z at *
        refine loop_at (T := Int) (fun i => [(10, .pure (I i)), (2, .pure (.sl (ls.map gl))), (4, .ptr 0 0 0), (5, .ptr 1 0 0)]) (fun _ => [⟨[.pure (fo f)], 6, .live⟩, ⟨[.pure (lk k)], 4, .live⟩])
          (fun i => -1 ≤ i ∧ i < ls.length ∧ baseM f k ls (ls.length + 1) i = baseM f k ls (ls.length + 1) z) (fun i => (i + 1).toNat)
          z [0, 1] (by simp) rfl ⟨by omega, by omega, rfl⟩ (by simp -implicitDefEqProofs only [kpp,Env.get,x01,x00,x02,x03,List.map,x08,x09,↓reduceIte,reduceCtorEq,Nat.reduceEqDiff,Nat.reduceLeDiff,Nat.reduceLT,Nat.reduceAdd,x0j,x0l,x0m,x0n,x0o,Int.cast_ofNat_Int,x0p,x0i,x07,x06,x0q,x0r,x0s,x0t,x0d,x0u]) (by simp -implicitDefEqProofs only [kpp,Env.get,x01,x00,x02,x03,List.map,x08,x09,↓reduceIte,reduceCtorEq,Nat.reduceEqDiff,Nat.reduceLeDiff,Nat.reduceLT,Nat.reduceAdd,x0j,x0l,x0m,x0n,x0o,Int.cast_ofNat_Int,x0p,x0i,x07,x06,x0q,x0r,x0s,x0t,x0d,x0u]) ?_
        rintro i ⟨hi0, hi1, hr⟩
        unfold c15_1
        simp -implicitDefEqProofs only [vmp,↓vmd,Env.get,putD,argEnv,List.map,x00,x01,x02,x03,x04,x05,x06,x07,List.take,List.drop,x08,x09,x0a,x0b,List.isEmpty,↓reduceIte,reduceCtorEq,Nat.reduceEqDiff,Nat.reduceAdd,Nat.reduceLeDiff,x0c,Int.reduceNeg,Nat.reduceMul,Nat.reduceSub,x0d,x0e,x0f,x0g,x0h,x0i,x0j,x0k,Int.reduceEq,Int.reduceLT,Int.reduceLE,Int.reduceToNat,Int.cast_ofNat_Int,List.reduceReplicate]
        by_cases hi : i = -1
        · rw [baseM_at (.inl hi)] at hr
          simp -implicitDefEqProofs only [hi, vmp,↓vmd,Env.get,putD,argEnv,List.map,x00,x01,x02,x03,x04,x05,x06,x07,List.take,List.drop,x08,x09,x0a,x0b,List.isEmpty,↓reduceIte,reduceCtorEq,Nat.reduceEqDiff,Nat.reduceAdd,Nat.reduceLeDiff,x0c,Int.reduceNeg,Nat.reduceMul,Nat.reduceSub,x0d,x0e,x0f,x0g,x0h,x0i,x0j,x0k,Int.reduceEq,Int.reduceLT,Int.reduceLE,Int.reduceToNat,Int.cast_ofNat_Int,List.reduceReplicate]
          unfold c15_0
          simp -implicitDefEqProofs only [hi, vmp,↓vmd,Env.get,putD,argEnv,List.map,x00,x01,x02,x03,x04,x05,x06,x07,List.take,List.drop,x08,x09,x0a,x0b,List.isEmpty,↓reduceIte,reduceCtorEq,Nat.reduceEqDiff,Nat.reduceAdd,Nat.reduceLeDiff,x0c,Int.reduceNeg,Nat.reduceMul,Nat.reduceSub,x0d,x0e,x0f,x0g,x0h,x0i,x0j,x0k,Int.reduceEq,Int.reduceLT,Int.reduceLE,Int.reduceToNat,Int.cast_ofNat_Int,List.reduceReplicate]
          rw [hv, hostB_n h11 (.inl (by rw [← hr]; exact hi))]
          exact gives_tup rfl (by simp)
        have i0 : 0 ≤ i := by omega
        have hgi := glAt_map i0 hi1
        simp -implicitDefEqProofs only [hi, i0, hi1, hgi, vmp,↓vmd,Env.get,putD,argEnv,List.map,x00,x01,x02,x03,x04,x05,x06,x07,List.take,List.drop,x08,x09,x0a,x0b,List.isEmpty,↓reduceIte,reduceCtorEq,Nat.reduceEqDiff,Nat.reduceAdd,Nat.reduceLeDiff,x0c,Int.reduceNeg,Nat.reduceMul,Nat.reduceSub,x0d,x0e,x0f,x0g,x0h,x0i,x0j,x0k,Int.reduceEq,Int.reduceLT,Int.reduceLE,Int.reduceToNat,Int.cast_ofNat_Int,List.reduceReplicate]
        refine onC_q (kat_q f ls i) rfl ?_
        first | refine envO (by simp -implicitDefEqProofs only [vmp,↓vmd,Env.get,putD,argEnv,List.map,x00,x01,x02,x03,x04,x05,x06,x07,List.take,List.drop,x08,x09,x0a,x0b,List.isEmpty,↓reduceIte,reduceCtorEq,Nat.reduceEqDiff,Nat.reduceAdd,Nat.reduceLeDiff,x0c,Int.reduceNeg,Nat.reduceMul,Nat.reduceSub,x0d,x0e,x0f,x0g,x0h,x0i,x0j,x0k,Int.reduceEq,Int.reduceLT,Int.reduceLE,Int.reduceToNat,Int.cast_ofNat_Int,List.reduceReplicate]; rfl) ?_ | refine envQ (by simp -implicitDefEqProofs only [vmp,↓vmd,Env.get,putD,argEnv,List.map,x00,x01,x02,x03,x04,x05,x06,x07,List.take,List.drop,x08,x09,x0a,x0b,List.isEmpty,↓reduceIte,reduceCtorEq,Nat.reduceEqDiff,Nat.reduceAdd,Nat.reduceLeDiff,x0c,Int.reduceNeg,Nat.reduceMul,Nat.reduceSub,x0d,x0e,x0f,x0g,x0h,x0i,x0j,x0k,Int.reduceEq,Int.reduceLT,Int.reduceLE,Int.reduceToNat,Int.cast_ofNat_Int,List.reduceReplicate]; rfl) ?_
        by_cases k3 : kAt f ls i = 3
        · have hn := baseM_next (k := k) i0 hi1 k3
          have hp := prvF_lt f k ls i
          simp -implicitDefEqProofs only [hi, k3, vmp,↓vmd,Env.get,putD,argEnv,List.map,x00,x01,x02,x03,x04,x05,x06,x07,List.take,List.drop,x08,x09,x0a,x0b,List.isEmpty,↓reduceIte,reduceCtorEq,Nat.reduceEqDiff,Nat.reduceAdd,Nat.reduceLeDiff,x0c,Int.reduceNeg,Nat.reduceMul,Nat.reduceSub,x0d,x0e,x0f,x0g,x0h,x0i,x0j,x0k,Int.reduceEq,Int.reduceLT,Int.reduceLE,Int.reduceToNat,Int.cast_ofNat_Int,List.reduceReplicate]
          refine onC_q (prv_q f k ls hl i) rfl ?_
          first | refine envO (by simp -implicitDefEqProofs only [vmp,↓vmd,Env.get,putD,argEnv,List.map,x00,x01,x02,x03,x04,x05,x06,x07,List.take,List.drop,x08,x09,x0a,x0b,List.isEmpty,↓reduceIte,reduceCtorEq,Nat.reduceEqDiff,Nat.reduceAdd,Nat.reduceLeDiff,x0c,Int.reduceNeg,Nat.reduceMul,Nat.reduceSub,x0d,x0e,x0f,x0g,x0h,x0i,x0j,x0k,Int.reduceEq,Int.reduceLT,Int.reduceLE,Int.reduceToNat,Int.cast_ofNat_Int,List.reduceReplicate]; rfl) ?_ | refine envQ (by simp -implicitDefEqProofs only [vmp,↓vmd,Env.get,putD,argEnv,List.map,x00,x01,x02,x03,x04,x05,x06,x07,List.take,List.drop,x08,x09,x0a,x0b,List.isEmpty,↓reduceIte,reduceCtorEq,Nat.reduceEqDiff,Nat.reduceAdd,Nat.reduceLeDiff,x0c,Int.reduceNeg,Nat.reduceMul,Nat.reduceSub,x0d,x0e,x0f,x0g,x0h,x0i,x0j,x0k,Int.reduceEq,Int.reduceLT,Int.reduceLE,Int.reduceToNat,Int.cast_ofNat_Int,List.reduceReplicate]; rfl) ?_
          simp -implicitDefEqProofs only [vmp,↓vmd,Env.get,putD,argEnv,List.map,x00,x01,x02,x03,x04,x05,x06,x07,List.take,List.drop,x08,x09,x0a,x0b,List.isEmpty,↓reduceIte,reduceCtorEq,Nat.reduceEqDiff,Nat.reduceAdd,Nat.reduceLeDiff,x0c,Int.reduceNeg,Nat.reduceMul,Nat.reduceSub,x0d,x0e,x0f,x0g,x0h,x0i,x0j,x0k,Int.reduceEq,Int.reduceLT,Int.reduceLE,Int.reduceToNat,Int.cast_ofNat_Int,List.reduceReplicate]
          generalize prvF f k ls i = w at *
          refine onBk_to w [0, 1] (by simp) rfl (by omega) ⟨by omega, by omega, by rw [← hn, hr]⟩ (by simp -implicitDefEqProofs only [kpp,Env.get,x01,x00,x02,x03,List.map,x08,x09,↓reduceIte,reduceCtorEq,Nat.reduceEqDiff,Nat.reduceLeDiff,Nat.reduceLT,Nat.reduceAdd,x0j,x0l,x0m,x0n,x0o,Int.cast_ofNat_Int,x0p,x0i,x07,x06,x0q,x0r,x0s,x0t,x0d,x0u]) (by simp -implicitDefEqProofs only [kpp,Env.get,x01,x00,x02,x03,List.map,x08,x09,↓reduceIte,reduceCtorEq,Nat.reduceEqDiff,Nat.reduceLeDiff,Nat.reduceLT,Nat.reduceAdd,x0j,x0l,x0m,x0n,x0o,Int.cast_ofNat_Int,x0p,x0i,x07,x06,x0q,x0r,x0s,x0t,x0d,x0u])
        · rw [baseM_at (.inr k3)] at hr
          rw [← hr] at hv
          simp -implicitDefEqProofs only [hi, k3, vmp,↓vmd,Env.get,putD,argEnv,List.map,x00,x01,x02,x03,x04,x05,x06,x07,List.take,List.drop,x08,x09,x0a,x0b,List.isEmpty,↓reduceIte,reduceCtorEq,Nat.reduceEqDiff,Nat.reduceAdd,Nat.reduceLeDiff,x0c,Int.reduceNeg,Nat.reduceMul,Nat.reduceSub,x0d,x0e,x0f,x0g,x0h,x0i,x0j,x0k,Int.reduceEq,Int.reduceLT,Int.reduceLE,Int.reduceToNat,Int.cast_ofNat_Int,List.reduceReplicate]
          unfold c15_0
          simp -implicitDefEqProofs only [hi, i0, hi1, hgi, vmp,↓vmd,Env.get,putD,argEnv,List.map,x00,x01,x02,x03,x04,x05,x06,x07,List.take,List.drop,x08,x09,x0a,x0b,List.isEmpty,↓reduceIte,reduceCtorEq,Nat.reduceEqDiff,Nat.reduceAdd,Nat.reduceLeDiff,x0c,Int.reduceNeg,Nat.reduceMul,Nat.reduceSub,x0d,x0e,x0f,x0g,x0h,x0i,x0j,x0k,Int.reduceEq,Int.reduceLT,Int.reduceLE,Int.reduceToNat,Int.cast_ofNat_Int,List.reduceReplicate]
          refine onQ_q (kat_q f ls i) rfl ?_
          first | refine envO (by simp -implicitDefEqProofs only [vmp,↓vmd,Env.get,putD,argEnv,List.map,x00,x01,x02,x03,x04,x05,x06,x07,List.take,List.drop,x08,x09,x0a,x0b,List.isEmpty,↓reduceIte,reduceCtorEq,Nat.reduceEqDiff,Nat.reduceAdd,Nat.reduceLeDiff,x0c,Int.reduceNeg,Nat.reduceMul,Nat.reduceSub,x0d,x0e,x0f,x0g,x0h,x0i,x0j,x0k,Int.reduceEq,Int.reduceLT,Int.reduceLE,Int.reduceToNat,Int.cast_ofNat_Int,List.reduceReplicate]; rfl) ?_ | refine envQ (by simp -implicitDefEqProofs only [vmp,↓vmd,Env.get,putD,argEnv,List.map,x00,x01,x02,x03,x04,x05,x06,x07,List.take,List.drop,x08,x09,x0a,x0b,List.isEmpty,↓reduceIte,reduceCtorEq,Nat.reduceEqDiff,Nat.reduceAdd,Nat.reduceLeDiff,x0c,Int.reduceNeg,Nat.reduceMul,Nat.reduceSub,x0d,x0e,x0f,x0g,x0h,x0i,x0j,x0k,Int.reduceEq,Int.reduceLT,Int.reduceLE,Int.reduceToNat,Int.cast_ofNat_Int,List.reduceReplicate]; rfl) ?_
          have bt : (true != false) = true := rfl
          have bf : (false != true) = true := rfl
          by_cases k2 : kAt f ls i = 2
          · by_cases k10 : k.kind = 10
            · rw [hostB_b h11 hi (by simp [k2, k10])] at hv
              simp -implicitDefEqProofs only [hi, k2, k10, vmp,↓vmd,Env.get,putD,argEnv,List.map,x00,x01,x02,x03,x04,x05,x06,x07,List.take,List.drop,x08,x09,x0a,x0b,List.isEmpty,↓reduceIte,reduceCtorEq,Nat.reduceEqDiff,Nat.reduceAdd,Nat.reduceLeDiff,x0c,Int.reduceNeg,Nat.reduceMul,Nat.reduceSub,x0d,x0e,x0f,x0g,x0h,x0i,x0j,x0k,Int.reduceEq,Int.reduceLT,Int.reduceLE,Int.reduceToNat,Int.cast_ofNat_Int,List.reduceReplicate]
              rw [hv]
              exact gives_tup rfl (by simp)
            · rw [hostB_n h11 (.inr (by simp [k2, k10]))] at hv
              simp -implicitDefEqProofs only [hi, k2, k10, bt, vmp,↓vmd,Env.get,putD,argEnv,List.map,x00,x01,x02,x03,x04,x05,x06,x07,List.take,List.drop,x08,x09,x0a,x0b,List.isEmpty,↓reduceIte,reduceCtorEq,Nat.reduceEqDiff,Nat.reduceAdd,Nat.reduceLeDiff,x0c,Int.reduceNeg,Nat.reduceMul,Nat.reduceSub,x0d,x0e,x0f,x0g,x0h,x0i,x0j,x0k,Int.reduceEq,Int.reduceLT,Int.reduceLE,Int.reduceToNat,Int.cast_ofNat_Int,List.reduceReplicate]
              rw [hv]
              exact gives_tup rfl (by simp)
          · by_cases k10 : k.kind = 10
            · rw [hostB_n h11 (.inr (by simp [k2, k10]))] at hv
              simp -implicitDefEqProofs only [hi, k2, k10, bf, vmp,↓vmd,Env.get,putD,argEnv,List.map,x00,x01,x02,x03,x04,x05,x06,x07,List.take,List.drop,x08,x09,x0a,x0b,List.isEmpty,↓reduceIte,reduceCtorEq,Nat.reduceEqDiff,Nat.reduceAdd,Nat.reduceLeDiff,x0c,Int.reduceNeg,Nat.reduceMul,Nat.reduceSub,x0d,x0e,x0f,x0g,x0h,x0i,x0j,x0k,Int.reduceEq,Int.reduceLT,Int.reduceLE,Int.reduceToNat,Int.cast_ofNat_Int,List.reduceReplicate]
              rw [hv]
              exact gives_tup rfl (by simp)
            · rw [hostB_b h11 hi (by simp [k2, k10])] at hv
              simp -implicitDefEqProofs only [hi, k2, k10, vmp,↓vmd,Env.get,putD,argEnv,List.map,x00,x01,x02,x03,x04,x05,x06,x07,List.take,List.drop,x08,x09,x0a,x0b,List.isEmpty,↓reduceIte,reduceCtorEq,Nat.reduceEqDiff,Nat.reduceAdd,Nat.reduceLeDiff,x0c,Int.reduceNeg,Nat.reduceMul,Nat.reduceSub,x0d,x0e,x0f,x0g,x0h,x0i,x0j,x0k,Int.reduceEq,Int.reduceLT,Int.reduceLE,Int.reduceToNat,Int.cast_ofNat_Int,List.reduceReplicate]
              rw [hv]
              exact gives_tup rfl (by simp)
    · simp -implicitDefEqProofs only [hh, h0, h1, h3, vmp,↓vmd,Env.get,putD,argEnv,List.map,x00,x01,x02,x03,x04,x05,x06,x07,List.take,List.drop,x08,x09,x0a,x0b,List.isEmpty,↓reduceIte,reduceCtorEq,Nat.reduceEqDiff,Nat.reduceAdd,Nat.reduceLeDiff,x0c,Int.reduceNeg,Nat.reduceMul,Nat.reduceSub,x0d,x0e,x0f,x0g,x0h,x0i,x0j,x0k,Int.reduceEq,Int.reduceLT,Int.reduceLE,Int.reduceToNat,Int.cast_ofNat_Int,List.reduceReplicate]
      rw [hostF, if_pos (.inr (.inr (.inr (.inl h3))))]
      exact gives_tup rfl (by simp)
  · have hh' : hungF k.kind = false := by simpa using hh
    simp -implicitDefEqProofs only [hh', vmp,↓vmd,Env.get,putD,argEnv,List.map,x00,x01,x02,x03,x04,x05,x06,x07,List.take,List.drop,x08,x09,x0a,x0b,List.isEmpty,↓reduceIte,reduceCtorEq,Nat.reduceEqDiff,Nat.reduceAdd,Nat.reduceLeDiff,x0c,Int.reduceNeg,Nat.reduceMul,Nat.reduceSub,x0d,x0e,x0f,x0g,x0h,x0i,x0j,x0k,Int.reduceEq,Int.reduceLT,Int.reduceLE,Int.reduceToNat,Int.cast_ofNat_Int,List.reduceReplicate]
    rw [hostF, if_pos (.inl hh')]
    exact gives_tup rfl (by simp)
theorem rhost_q (f : Fo) (k : Lk) (ls : List Gl) (hl : ls.length ≤ 1000) (y : Int) : FnQ Try.prog 16 [fo f, lk k, .sl (ls.map gl), I y] (hostR (hostF f k ls y)) := by
  refine q16 (by simp) ?_
  unfold c16
  simp -implicitDefEqProofs only [*, vmp,↓vmd,Env.get,putD,argEnv,List.map,x00,x01,x02,x03,x04,x05,x06,x07,List.take,List.drop,x08,x09,x0a,x0b,List.isEmpty,↓reduceIte,reduceCtorEq,Nat.reduceEqDiff,Nat.reduceAdd,Nat.reduceLeDiff,x0c,Int.reduceNeg,Nat.reduceMul,Nat.reduceSub,x0d,x0e,x0f,x0g,x0h,x0i,x0j,x0k,Int.reduceEq,Int.reduceLT,Int.reduceLE,Int.reduceToNat,Int.cast_ofNat_Int,List.reduceReplicate]
  by_cases h0 : y < 0
  · simp -implicitDefEqProofs only [h0, vmp,↓vmd,Env.get,putD,argEnv,List.map,x00,x01,x02,x03,x04,x05,x06,x07,List.take,List.drop,x08,x09,x0a,x0b,List.isEmpty,↓reduceIte,reduceCtorEq,Nat.reduceEqDiff,Nat.reduceAdd,Nat.reduceLeDiff,x0c,Int.reduceNeg,Nat.reduceMul,Nat.reduceSub,x0d,x0e,x0f,x0g,x0h,x0i,x0j,x0k,Int.reduceEq,Int.reduceLT,Int.reduceLE,Int.reduceToNat,Int.cast_ofNat_Int,List.reduceReplicate]
    rw [hostF, if_pos (.inr (.inl h0))]
    exact gives_tup rfl (by simp)
  simp -implicitDefEqProofs only [h0, vmp,↓vmd,Env.get,putD,argEnv,List.map,x00,x01,x02,x03,x04,x05,x06,x07,List.take,List.drop,x08,x09,x0a,x0b,List.isEmpty,↓reduceIte,reduceCtorEq,Nat.reduceEqDiff,Nat.reduceAdd,Nat.reduceLeDiff,x0c,Int.reduceNeg,Nat.reduceMul,Nat.reduceSub,x0d,x0e,x0f,x0g,x0h,x0i,x0j,x0k,Int.reduceEq,Int.reduceLT,Int.reduceLE,Int.reduceToNat,Int.cast_ofNat_Int,List.reduceReplicate]
  by_cases h1 : (ls.length : Int) ≤ y
  · simp -implicitDefEqProofs only [h0, h1, vmp,↓vmd,Env.get,putD,argEnv,List.map,x00,x01,x02,x03,x04,x05,x06,x07,List.take,List.drop,x08,x09,x0a,x0b,List.isEmpty,↓reduceIte,reduceCtorEq,Nat.reduceEqDiff,Nat.reduceAdd,Nat.reduceLeDiff,x0c,Int.reduceNeg,Nat.reduceMul,Nat.reduceSub,x0d,x0e,x0f,x0g,x0h,x0i,x0j,x0k,Int.reduceEq,Int.reduceLT,Int.reduceLE,Int.reduceToNat,Int.cast_ofNat_Int,List.reduceReplicate]
    rw [hostF, if_pos (.inr (.inr (.inl h1)))]
    exact gives_tup rfl (by simp)
  have y0 : 0 ≤ y := by omega
  have y1 : y < ls.length := by omega
  have hg := glAt_map y0 y1
  simp -implicitDefEqProofs only [h0, h1, y0, y1, hg, vmp,↓vmd,Env.get,putD,argEnv,List.map,x00,x01,x02,x03,x04,x05,x06,x07,List.take,List.drop,x08,x09,x0a,x0b,List.isEmpty,↓reduceIte,reduceCtorEq,Nat.reduceEqDiff,Nat.reduceAdd,Nat.reduceLeDiff,x0c,Int.reduceNeg,Nat.reduceMul,Nat.reduceSub,x0d,x0e,x0f,x0g,x0h,x0i,x0j,x0k,Int.reduceEq,Int.reduceLT,Int.reduceLE,Int.reduceToNat,Int.cast_ofNat_Int,List.reduceReplicate]
  refine onQ_q (rkat_q f ls y) rfl ?_
  first | refine envO (by simp -implicitDefEqProofs only [vmp,↓vmd,Env.get,putD,argEnv,List.map,x00,x01,x02,x03,x04,x05,x06,x07,List.take,List.drop,x08,x09,x0a,x0b,List.isEmpty,↓reduceIte,reduceCtorEq,Nat.reduceEqDiff,Nat.reduceAdd,Nat.reduceLeDiff,x0c,Int.reduceNeg,Nat.reduceMul,Nat.reduceSub,x0d,x0e,x0f,x0g,x0h,x0i,x0j,x0k,Int.reduceEq,Int.reduceLT,Int.reduceLE,Int.reduceToNat,Int.cast_ofNat_Int,List.reduceReplicate]; rfl) ?_ | refine envQ (by simp -implicitDefEqProofs only [vmp,↓vmd,Env.get,putD,argEnv,List.map,x00,x01,x02,x03,x04,x05,x06,x07,List.take,List.drop,x08,x09,x0a,x0b,List.isEmpty,↓reduceIte,reduceCtorEq,Nat.reduceEqDiff,Nat.reduceAdd,Nat.reduceLeDiff,x0c,Int.reduceNeg,Nat.reduceMul,Nat.reduceSub,x0d,x0e,x0f,x0g,x0h,x0i,x0j,x0k,Int.reduceEq,Int.reduceLT,Int.reduceLE,Int.reduceToNat,Int.cast_ofNat_Int,List.reduceReplicate]; rfl) ?_
  by_cases h3 : kAt f ls y = 3
  · simp -implicitDefEqProofs only [h0, h1, h3, y0, y1, hg, vmp,↓vmd,Env.get,putD,argEnv,List.map,x00,x01,x02,x03,x04,x05,x06,x07,List.take,List.drop,x08,x09,x0a,x0b,List.isEmpty,↓reduceIte,reduceCtorEq,Nat.reduceEqDiff,Nat.reduceAdd,Nat.reduceLeDiff,x0c,Int.reduceNeg,Nat.reduceMul,Nat.reduceSub,x0d,x0e,x0f,x0g,x0h,x0i,x0j,x0k,Int.reduceEq,Int.reduceLT,Int.reduceLE,Int.reduceToNat,Int.cast_ofNat_Int,List.reduceReplicate]
    refine onC_q (rskp_q f k _) rfl ?_
    first | refine envO (by simp -implicitDefEqProofs only [vmp,↓vmd,Env.get,putD,argEnv,List.map,x00,x01,x02,x03,x04,x05,x06,x07,List.take,List.drop,x08,x09,x0a,x0b,List.isEmpty,↓reduceIte,reduceCtorEq,Nat.reduceEqDiff,Nat.reduceAdd,Nat.reduceLeDiff,x0c,Int.reduceNeg,Nat.reduceMul,Nat.reduceSub,x0d,x0e,x0f,x0g,x0h,x0i,x0j,x0k,Int.reduceEq,Int.reduceLT,Int.reduceLE,Int.reduceToNat,Int.cast_ofNat_Int,List.reduceReplicate]; rfl) ?_ | refine envQ (by simp -implicitDefEqProofs only [vmp,↓vmd,Env.get,putD,argEnv,List.map,x00,x01,x02,x03,x04,x05,x06,x07,List.take,List.drop,x08,x09,x0a,x0b,List.isEmpty,↓reduceIte,reduceCtorEq,Nat.reduceEqDiff,Nat.reduceAdd,Nat.reduceLeDiff,x0c,Int.reduceNeg,Nat.reduceMul,Nat.reduceSub,x0d,x0e,x0f,x0g,x0h,x0i,x0j,x0k,Int.reduceEq,Int.reduceLT,Int.reduceLE,Int.reduceToNat,Int.cast_ofNat_Int,List.reduceReplicate]; rfl) ?_
    by_cases hs : skipsF f k.flags k.set (glAt ls y).id = true
    · simp -implicitDefEqProofs only [h0, h1, h3, hs, vmp,↓vmd,Env.get,putD,argEnv,List.map,x00,x01,x02,x03,x04,x05,x06,x07,List.take,List.drop,x08,x09,x0a,x0b,List.isEmpty,↓reduceIte,reduceCtorEq,Nat.reduceEqDiff,Nat.reduceAdd,Nat.reduceLeDiff,x0c,Int.reduceNeg,Nat.reduceMul,Nat.reduceSub,x0d,x0e,x0f,x0g,x0h,x0i,x0j,x0k,Int.reduceEq,Int.reduceLT,Int.reduceLE,Int.reduceToNat,Int.cast_ofNat_Int,List.reduceReplicate]
      rw [hostF, if_pos (.inr (.inr (.inr (.inr hs))))]
      exact gives_tup rfl (by simp)
    have hs' : skipsF f k.flags k.set (glAt ls y).id = false := by simpa using hs
    simp -implicitDefEqProofs only [h0, h1, h3, hs', vmp,↓vmd,Env.get,putD,argEnv,List.map,x00,x01,x02,x03,x04,x05,x06,x07,List.take,List.drop,x08,x09,x0a,x0b,List.isEmpty,↓reduceIte,reduceCtorEq,Nat.reduceEqDiff,Nat.reduceAdd,Nat.reduceLeDiff,x0c,Int.reduceNeg,Nat.reduceMul,Nat.reduceSub,x0d,x0e,x0f,x0g,x0h,x0i,x0j,x0k,Int.reduceEq,Int.reduceLT,Int.reduceLE,Int.reduceToNat,Int.cast_ofNat_Int,List.reduceReplicate]
    have hv := fun hh => hostF_eq hh h0 h1 h3 hs'
    by_cases h9 : k.kind = 9
    · replace hv := hv (by simp [hungF, h9])
      have h11 : k.kind ≠ 11 := by omega
      simp -implicitDefEqProofs only [h9, vmp,↓vmd,Env.get,putD,argEnv,List.map,x00,x01,x02,x03,x04,x05,x06,x07,List.take,List.drop,x08,x09,x0a,x0b,List.isEmpty,↓reduceIte,reduceCtorEq,Nat.reduceEqDiff,Nat.reduceAdd,Nat.reduceLeDiff,x0c,Int.reduceNeg,Nat.reduceMul,Nat.reduceSub,x0d,x0e,x0f,x0g,x0h,x0i,x0j,x0k,Int.reduceEq,Int.reduceLT,Int.reduceLE,Int.reduceToNat,Int.cast_ofNat_Int,List.reduceReplicate]
      refine onC_q (base_q f k ls hl y) rfl ?_
      first | refine envO (by simp -implicitDefEqProofs only [vmp,↓vmd,Env.get,putD,argEnv,List.map,x00,x01,x02,x03,x04,x05,x06,x07,List.take,List.drop,x08,x09,x0a,x0b,List.isEmpty,↓reduceIte,reduceCtorEq,Nat.reduceEqDiff,Nat.reduceAdd,Nat.reduceLeDiff,x0c,Int.reduceNeg,Nat.reduceMul,Nat.reduceSub,x0d,x0e,x0f,x0g,x0h,x0i,x0j,x0k,Int.reduceEq,Int.reduceLT,Int.reduceLE,Int.reduceToNat,Int.cast_ofNat_Int,List.reduceReplicate]; rfl) ?_ | refine envQ (by simp -implicitDefEqProofs only [vmp,↓vmd,Env.get,putD,argEnv,List.map,x00,x01,x02,x03,x04,x05,x06,x07,List.take,List.drop,x08,x09,x0a,x0b,List.isEmpty,↓reduceIte,reduceCtorEq,Nat.reduceEqDiff,Nat.reduceAdd,Nat.reduceLeDiff,x0c,Int.reduceNeg,Nat.reduceMul,Nat.reduceSub,x0d,x0e,x0f,x0g,x0h,x0i,x0j,x0k,Int.reduceEq,Int.reduceLT,Int.reduceLE,Int.reduceToNat,Int.cast_ofNat_Int,List.reduceReplicate]; rfl) ?_
      simp -implicitDefEqProofs only [h9, vmp,↓vmd,Env.get,putD,argEnv,List.map,x00,x01,x02,x03,x04,x05,x06,x07,List.take,List.drop,x08,x09,x0a,x0b,List.isEmpty,↓reduceIte,reduceCtorEq,Nat.reduceEqDiff,Nat.reduceAdd,Nat.reduceLeDiff,x0c,Int.reduceNeg,Nat.reduceMul,Nat.reduceSub,x0d,x0e,x0f,x0g,x0h,x0i,x0j,x0k,Int.reduceEq,Int.reduceLT,Int.reduceLE,Int.reduceToNat,Int.cast_ofNat_Int,List.reduceReplicate]
      have hp := prvF_lt f k ls y
      have hin := baseM_in (f := f) (k := k) (ls := ls) (ls.length + 1) (i := prvF f k ls y) (by omega) (by omega)
      generalize baseM f k ls (ls.length + 1) (prvF f k ls y) = z at *
      generalize prvF f k ls y = w at *
      by_cases hz : z = -1
      · rw [hostB_n h11 (.inl hz)] at hv
        simp -implicitDefEqProofs only [h9, hz, vmp,↓vmd,Env.get,putD,argEnv,List.map,x00,x01,x02,x03,x04,x05,x06,x07,List.take,List.drop,x08,x09,x0a,x0b,List.isEmpty,↓reduceIte,reduceCtorEq,Nat.reduceEqDiff,Nat.reduceAdd,Nat.reduceLeDiff,x0c,Int.reduceNeg,Nat.reduceMul,Nat.reduceSub,x0d,x0e,x0f,x0g,x0h,x0i,x0j,x0k,Int.reduceEq,Int.reduceLT,Int.reduceLE,Int.reduceToNat,Int.cast_ofNat_Int,List.reduceReplicate]
        rw [hv]
        exact gives_tup rfl (by simp)
      have z0 : 0 ≤ z := by omega
      have z1 : z < ls.length := by omega
      have zn : ¬ z < 0 := by omega
      have hgz := glAt_map z0 z1
      simp -implicitDefEqProofs only [h9, z0, z1, hgz, vmp,↓vmd,Env.get,putD,argEnv,List.map,x00,x01,x02,x03,x04,x05,x06,x07,List.take,List.drop,x08,x09,x0a,x0b,List.isEmpty,↓reduceIte,reduceCtorEq,Nat.reduceEqDiff,Nat.reduceAdd,Nat.reduceLeDiff,x0c,Int.reduceNeg,Nat.reduceMul,Nat.reduceSub,x0d,x0e,x0f,x0g,x0h,x0i,x0j,x0k,Int.reduceEq,Int.reduceLT,Int.reduceLE,Int.reduceToNat,Int.cast_ofNat_Int,List.reduceReplicate]
      refine onQ_q (rkat_q f ls z) rfl ?_
      first | refine envO (by simp -implicitDefEqProofs only [vmp,↓vmd,Env.get,putD,argEnv,List.map,x00,x01,x02,x03,x04,x05,x06,x07,List.take,List.drop,x08,x09,x0a,x0b,List.isEmpty,↓reduceIte,reduceCtorEq,Nat.reduceEqDiff,Nat.reduceAdd,Nat.reduceLeDiff,x0c,Int.reduceNeg,Nat.reduceMul,Nat.reduceSub,x0d,x0e,x0f,x0g,x0h,x0i,x0j,x0k,Int.reduceEq,Int.reduceLT,Int.reduceLE,Int.reduceToNat,Int.cast_ofNat_Int,List.reduceReplicate]; rfl) ?_ | refine envQ (by simp -implicitDefEqProofs only [vmp,↓vmd,Env.get,putD,argEnv,List.map,x00,x01,x02,x03,x04,x05,x06,x07,List.take,List.drop,x08,x09,x0a,x0b,List.isEmpty,↓reduceIte,reduceCtorEq,Nat.reduceEqDiff,Nat.reduceAdd,Nat.reduceLeDiff,x0c,Int.reduceNeg,Nat.reduceMul,Nat.reduceSub,x0d,x0e,x0f,x0g,x0h,x0i,x0j,x0k,Int.reduceEq,Int.reduceLT,Int.reduceLE,Int.reduceToNat,Int.cast_ofNat_Int,List.reduceReplicate]; rfl) ?_
      by_cases k2 : kAt f ls z = 2
      · rw [hostB_n h11 (.inr (by simp [k2, h9]))] at hv
        simp -implicitDefEqProofs only [h9, k2, z0, zn, show (true != false) = true from rfl, show (false != true) = true from rfl, vmp,↓vmd,Env.get,putD,argEnv,List.map,x00,x01,x02,x03,x04,x05,x06,x07,List.take,List.drop,x08,x09,x0a,x0b,List.isEmpty,↓reduceIte,reduceCtorEq,Nat.reduceEqDiff,Nat.reduceAdd,Nat.reduceLeDiff,x0c,Int.reduceNeg,Nat.reduceMul,Nat.reduceSub,x0d,x0e,x0f,x0g,x0h,x0i,x0j,x0k,Int.reduceEq,Int.reduceLT,Int.reduceLE,Int.reduceToNat,Int.cast_ofNat_Int,List.reduceReplicate]
        rw [hv]
        exact gives_tup rfl (by simp)
      · rw [hostB_b h11 hz (by simp [k2, h9])] at hv
        simp -implicitDefEqProofs only [h9, k2, z0, zn, vmp,↓vmd,Env.get,putD,argEnv,List.map,x00,x01,x02,x03,x04,x05,x06,x07,List.take,List.drop,x08,x09,x0a,x0b,List.isEmpty,↓reduceIte,reduceCtorEq,Nat.reduceEqDiff,Nat.reduceAdd,Nat.reduceLeDiff,x0c,Int.reduceNeg,Nat.reduceMul,Nat.reduceSub,x0d,x0e,x0f,x0g,x0h,x0i,x0j,x0k,Int.reduceEq,Int.reduceLT,Int.reduceLE,Int.reduceToNat,Int.cast_ofNat_Int,List.reduceReplicate]
        rw [hv]
        exact gives_tup rfl (by simp)
    by_cases h10 : k.kind = 10
    · replace hv := hv (by simp [hungF, h10])
      have h11 : k.kind ≠ 11 := by omega
      simp -implicitDefEqProofs only [h9, h10, vmp,↓vmd,Env.get,putD,argEnv,List.map,x00,x01,x02,x03,x04,x05,x06,x07,List.take,List.drop,x08,x09,x0a,x0b,List.isEmpty,↓reduceIte,reduceCtorEq,Nat.reduceEqDiff,Nat.reduceAdd,Nat.reduceLeDiff,x0c,Int.reduceNeg,Nat.reduceMul,Nat.reduceSub,x0d,x0e,x0f,x0g,x0h,x0i,x0j,x0k,Int.reduceEq,Int.reduceLT,Int.reduceLE,Int.reduceToNat,Int.cast_ofNat_Int,List.reduceReplicate]
      refine onC_q (base_q f k ls hl y) rfl ?_
      first | refine envO (by simp -implicitDefEqProofs only [vmp,↓vmd,Env.get,putD,argEnv,List.map,x00,x01,x02,x03,x04,x05,x06,x07,List.take,List.drop,x08,x09,x0a,x0b,List.isEmpty,↓reduceIte,reduceCtorEq,Nat.reduceEqDiff,Nat.reduceAdd,Nat.reduceLeDiff,x0c,Int.reduceNeg,Nat.reduceMul,Nat.reduceSub,x0d,x0e,x0f,x0g,x0h,x0i,x0j,x0k,Int.reduceEq,Int.reduceLT,Int.reduceLE,Int.reduceToNat,Int.cast_ofNat_Int,List.reduceReplicate]; rfl) ?_ | refine envQ (by simp -implicitDefEqProofs only [vmp,↓vmd,Env.get,putD,argEnv,List.map,x00,x01,x02,x03,x04,x05,x06,x07,List.take,List.drop,x08,x09,x0a,x0b,List.isEmpty,↓reduceIte,reduceCtorEq,Nat.reduceEqDiff,Nat.reduceAdd,Nat.reduceLeDiff,x0c,Int.reduceNeg,Nat.reduceMul,Nat.reduceSub,x0d,x0e,x0f,x0g,x0h,x0i,x0j,x0k,Int.reduceEq,Int.reduceLT,Int.reduceLE,Int.reduceToNat,Int.cast_ofNat_Int,List.reduceReplicate]; rfl) ?_
      simp -implicitDefEqProofs only [h9, h10, vmp,↓vmd,Env.get,putD,argEnv,List.map,x00,x01,x02,x03,x04,x05,x06,x07,List.take,List.drop,x08,x09,x0a,x0b,List.isEmpty,↓reduceIte,reduceCtorEq,Nat.reduceEqDiff,Nat.reduceAdd,Nat.reduceLeDiff,x0c,Int.reduceNeg,Nat.reduceMul,Nat.reduceSub,x0d,x0e,x0f,x0g,x0h,x0i,x0j,x0k,Int.reduceEq,Int.reduceLT,Int.reduceLE,Int.reduceToNat,Int.cast_ofNat_Int,List.reduceReplicate]
      have hp := prvF_lt f k ls y
      have hin := baseM_in (f := f) (k := k) (ls := ls) (ls.length + 1) (i := prvF f k ls y) (by omega) (by omega)
      generalize baseM f k ls (ls.length + 1) (prvF f k ls y) = z at *
      generalize prvF f k ls y = w at *
      by_cases hz : z = -1
      · rw [hostB_n h11 (.inl hz)] at hv
        simp -implicitDefEqProofs only [h9, h10, hz, vmp,↓vmd,Env.get,putD,argEnv,List.map,x00,x01,x02,x03,x04,x05,x06,x07,List.take,List.drop,x08,x09,x0a,x0b,List.isEmpty,↓reduceIte,reduceCtorEq,Nat.reduceEqDiff,Nat.reduceAdd,Nat.reduceLeDiff,x0c,Int.reduceNeg,Nat.reduceMul,Nat.reduceSub,x0d,x0e,x0f,x0g,x0h,x0i,x0j,x0k,Int.reduceEq,Int.reduceLT,Int.reduceLE,Int.reduceToNat,Int.cast_ofNat_Int,List.reduceReplicate]
        rw [hv]
        exact gives_tup rfl (by simp)
      have z0 : 0 ≤ z := by omega
      have z1 : z < ls.length := by omega
      have zn : ¬ z < 0 := by omega
      have hgz := glAt_map z0 z1
      simp -implicitDefEqProofs only [h9, h10, z0, z1, hgz, vmp,↓vmd,Env.get,putD,argEnv,List.map,x00,x01,x02,x03,x04,x05,x06,x07,List.take,List.drop,x08,x09,x0a,x0b,List.isEmpty,↓reduceIte,reduceCtorEq,Nat.reduceEqDiff,Nat.reduceAdd,Nat.reduceLeDiff,x0c,Int.reduceNeg,Nat.reduceMul,Nat.reduceSub,x0d,x0e,x0f,x0g,x0h,x0i,x0j,x0k,Int.reduceEq,Int.reduceLT,Int.reduceLE,Int.reduceToNat,Int.cast_ofNat_Int,List.reduceReplicate]
      refine onQ_q (rkat_q f ls z) rfl ?_
      first | refine envO (by simp -implicitDefEqProofs only [vmp,↓vmd,Env.get,putD,argEnv,List.map,x00,x01,x02,x03,x04,x05,x06,x07,List.take,List.drop,x08,x09,x0a,x0b,List.isEmpty,↓reduceIte,reduceCtorEq,Nat.reduceEqDiff,Nat.reduceAdd,Nat.reduceLeDiff,x0c,Int.reduceNeg,Nat.reduceMul,Nat.reduceSub,x0d,x0e,x0f,x0g,x0h,x0i,x0j,x0k,Int.reduceEq,Int.reduceLT,Int.reduceLE,Int.reduceToNat,Int.cast_ofNat_Int,List.reduceReplicate]; rfl) ?_ | refine envQ (by simp -implicitDefEqProofs only [vmp,↓vmd,Env.get,putD,argEnv,List.map,x00,x01,x02,x03,x04,x05,x06,x07,List.take,List.drop,x08,x09,x0a,x0b,List.isEmpty,↓reduceIte,reduceCtorEq,Nat.reduceEqDiff,Nat.reduceAdd,Nat.reduceLeDiff,x0c,Int.reduceNeg,Nat.reduceMul,Nat.reduceSub,x0d,x0e,x0f,x0g,x0h,x0i,x0j,x0k,Int.reduceEq,Int.reduceLT,Int.reduceLE,Int.reduceToNat,Int.cast_ofNat_Int,List.reduceReplicate]; rfl) ?_
      by_cases k2 : kAt f ls z = 2
      · rw [hostB_b h11 hz (by simp [k2, h10])] at hv
        simp -implicitDefEqProofs only [h9, h10, k2, z0, zn, vmp,↓vmd,Env.get,putD,argEnv,List.map,x00,x01,x02,x03,x04,x05,x06,x07,List.take,List.drop,x08,x09,x0a,x0b,List.isEmpty,↓reduceIte,reduceCtorEq,Nat.reduceEqDiff,Nat.reduceAdd,Nat.reduceLeDiff,x0c,Int.reduceNeg,Nat.reduceMul,Nat.reduceSub,x0d,x0e,x0f,x0g,x0h,x0i,x0j,x0k,Int.reduceEq,Int.reduceLT,Int.reduceLE,Int.reduceToNat,Int.cast_ofNat_Int,List.reduceReplicate]
        rw [hv]
        exact gives_tup rfl (by simp)
      · rw [hostB_n h11 (.inr (by simp [k2, h10]))] at hv
        simp -implicitDefEqProofs only [h9, h10, k2, z0, zn, show (true != false) = true from rfl, show (false != true) = true from rfl, vmp,↓vmd,Env.get,putD,argEnv,List.map,x00,x01,x02,x03,x04,x05,x06,x07,List.take,List.drop,x08,x09,x0a,x0b,List.isEmpty,↓reduceIte,reduceCtorEq,Nat.reduceEqDiff,Nat.reduceAdd,Nat.reduceLeDiff,x0c,Int.reduceNeg,Nat.reduceMul,Nat.reduceSub,x0d,x0e,x0f,x0g,x0h,x0i,x0j,x0k,Int.reduceEq,Int.reduceLT,Int.reduceLE,Int.reduceToNat,Int.cast_ofNat_Int,List.reduceReplicate]
        rw [hv]
        exact gives_tup rfl (by simp)
    by_cases h11 : k.kind = 11
    · replace hv := hv (by simp [hungF, h11])
      simp -implicitDefEqProofs only [h9, h10, h11, vmp,↓vmd,Env.get,putD,argEnv,List.map,x00,x01,x02,x03,x04,x05,x06,x07,List.take,List.drop,x08,x09,x0a,x0b,List.isEmpty,↓reduceIte,reduceCtorEq,Nat.reduceEqDiff,Nat.reduceAdd,Nat.reduceLeDiff,x0c,Int.reduceNeg,Nat.reduceMul,Nat.reduceSub,x0d,x0e,x0f,x0g,x0h,x0i,x0j,x0k,Int.reduceEq,Int.reduceLT,Int.reduceLE,Int.reduceToNat,Int.cast_ofNat_Int,List.reduceReplicate]
      refine onC_q (rprv_q f k ls hl y) rfl ?_
      first | refine envO (by simp -implicitDefEqProofs only [vmp,↓vmd,Env.get,putD,argEnv,List.map,x00,x01,x02,x03,x04,x05,x06,x07,List.take,List.drop,x08,x09,x0a,x0b,List.isEmpty,↓reduceIte,reduceCtorEq,Nat.reduceEqDiff,Nat.reduceAdd,Nat.reduceLeDiff,x0c,Int.reduceNeg,Nat.reduceMul,Nat.reduceSub,x0d,x0e,x0f,x0g,x0h,x0i,x0j,x0k,Int.reduceEq,Int.reduceLT,Int.reduceLE,Int.reduceToNat,Int.cast_ofNat_Int,List.reduceReplicate]; rfl) ?_ | refine envQ (by simp -implicitDefEqProofs only [vmp,↓vmd,Env.get,putD,argEnv,List.map,x00,x01,x02,x03,x04,x05,x06,x07,List.take,List.drop,x08,x09,x0a,x0b,List.isEmpty,↓reduceIte,reduceCtorEq,Nat.reduceEqDiff,Nat.reduceAdd,Nat.reduceLeDiff,x0c,Int.reduceNeg,Nat.reduceMul,Nat.reduceSub,x0d,x0e,x0f,x0g,x0h,x0i,x0j,x0k,Int.reduceEq,Int.reduceLT,Int.reduceLE,Int.reduceToNat,Int.cast_ofNat_Int,List.reduceReplicate]; rfl) ?_
      simp -implicitDefEqProofs only [h9, h10, h11, vmp,↓vmd,Env.get,putD,argEnv,List.map,x00,x01,x02,x03,x04,x05,x06,x07,List.take,List.drop,x08,x09,x0a,x0b,List.isEmpty,↓reduceIte,reduceCtorEq,Nat.reduceEqDiff,Nat.reduceAdd,Nat.reduceLeDiff,x0c,Int.reduceNeg,Nat.reduceMul,Nat.reduceSub,x0d,x0e,x0f,x0g,x0h,x0i,x0j,x0k,Int.reduceEq,Int.reduceLT,Int.reduceLE,Int.reduceToNat,Int.cast_ofNat_Int,List.reduceReplicate]
      have hp := prvF_lt f k ls y
      generalize baseM f k ls (ls.length + 1) (prvF f k ls y) = bb at *
      generalize prvF f k ls y = z at *
      by_cases hz : z = -1
      · rw [hostB_11n h11 (fun e => e.1 hz)] at hv
        simp -implicitDefEqProofs only [h9, h10, h11, hz, vmp,↓vmd,Env.get,putD,argEnv,List.map,x00,x01,x02,x03,x04,x05,x06,x07,List.take,List.drop,x08,x09,x0a,x0b,List.isEmpty,↓reduceIte,reduceCtorEq,Nat.reduceEqDiff,Nat.reduceAdd,Nat.reduceLeDiff,x0c,Int.reduceNeg,Nat.reduceMul,Nat.reduceSub,x0d,x0e,x0f,x0g,x0h,x0i,x0j,x0k,Int.reduceEq,Int.reduceLT,Int.reduceLE,Int.reduceToNat,Int.cast_ofNat_Int,List.reduceReplicate]
        rw [hv]
        exact gives_tup rfl (by simp)
      have z0 : 0 ≤ z := by omega
      have z1 : z < ls.length := by omega
      have zn : ¬ z < 0 := by omega
      have hgz := glAt_map z0 z1
      simp -implicitDefEqProofs only [h9, h10, h11, z0, z1, hgz, vmp,↓vmd,Env.get,putD,argEnv,List.map,x00,x01,x02,x03,x04,x05,x06,x07,List.take,List.drop,x08,x09,x0a,x0b,List.isEmpty,↓reduceIte,reduceCtorEq,Nat.reduceEqDiff,Nat.reduceAdd,Nat.reduceLeDiff,x0c,Int.reduceNeg,Nat.reduceMul,Nat.reduceSub,x0d,x0e,x0f,x0g,x0h,x0i,x0j,x0k,Int.reduceEq,Int.reduceLT,Int.reduceLE,Int.reduceToNat,Int.cast_ofNat_Int,List.reduceReplicate]
      refine onQ_q (rkat_q f ls z) rfl ?_
      first | refine envO (by simp -implicitDefEqProofs only [vmp,↓vmd,Env.get,putD,argEnv,List.map,x00,x01,x02,x03,x04,x05,x06,x07,List.take,List.drop,x08,x09,x0a,x0b,List.isEmpty,↓reduceIte,reduceCtorEq,Nat.reduceEqDiff,Nat.reduceAdd,Nat.reduceLeDiff,x0c,Int.reduceNeg,Nat.reduceMul,Nat.reduceSub,x0d,x0e,x0f,x0g,x0h,x0i,x0j,x0k,Int.reduceEq,Int.reduceLT,Int.reduceLE,Int.reduceToNat,Int.cast_ofNat_Int,List.reduceReplicate]; rfl) ?_ | refine envQ (by simp -implicitDefEqProofs only [vmp,↓vmd,Env.get,putD,argEnv,List.map,x00,x01,x02,x03,x04,x05,x06,x07,List.take,List.drop,x08,x09,x0a,x0b,List.isEmpty,↓reduceIte,reduceCtorEq,Nat.reduceEqDiff,Nat.reduceAdd,Nat.reduceLeDiff,x0c,Int.reduceNeg,Nat.reduceMul,Nat.reduceSub,x0d,x0e,x0f,x0g,x0h,x0i,x0j,x0k,Int.reduceEq,Int.reduceLT,Int.reduceLE,Int.reduceToNat,Int.cast_ofNat_Int,List.reduceReplicate]; rfl) ?_
      by_cases k3 : kAt f ls z = 3
      · simp -implicitDefEqProofs only [h9, h10, h11, k3, z0, z1, hgz, y0, y1, hg, vmp,↓vmd,Env.get,putD,argEnv,List.map,x00,x01,x02,x03,x04,x05,x06,x07,List.take,List.drop,x08,x09,x0a,x0b,List.isEmpty,↓reduceIte,reduceCtorEq,Nat.reduceEqDiff,Nat.reduceAdd,Nat.reduceLeDiff,x0c,Int.reduceNeg,Nat.reduceMul,Nat.reduceSub,x0d,x0e,x0f,x0g,x0h,x0i,x0j,x0k,Int.reduceEq,Int.reduceLT,Int.reduceLE,Int.reduceToNat,Int.cast_ofNat_Int,List.reduceReplicate]
        by_cases kl : (glAt ls z).lig = (glAt ls y).lig
        · simp -implicitDefEqProofs only [h9, h10, h11, k3, kl, z0, z1, hgz, y0, y1, hg, vmp,↓vmd,Env.get,putD,argEnv,List.map,x00,x01,x02,x03,x04,x05,x06,x07,List.take,List.drop,x08,x09,x0a,x0b,List.isEmpty,↓reduceIte,reduceCtorEq,Nat.reduceEqDiff,Nat.reduceAdd,Nat.reduceLeDiff,x0c,Int.reduceNeg,Nat.reduceMul,Nat.reduceSub,x0d,x0e,x0f,x0g,x0h,x0i,x0j,x0k,Int.reduceEq,Int.reduceLT,Int.reduceLE,Int.reduceToNat,Int.cast_ofNat_Int,List.reduceReplicate]
          by_cases kc : (glAt ls z).comp = (glAt ls y).comp
          · rw [hostB_11 h11 hz k3 kl kc] at hv
            simp -implicitDefEqProofs only [h9, h10, h11, k3, kl, kc, z0, zn, vmp,↓vmd,Env.get,putD,argEnv,List.map,x00,x01,x02,x03,x04,x05,x06,x07,List.take,List.drop,x08,x09,x0a,x0b,List.isEmpty,↓reduceIte,reduceCtorEq,Nat.reduceEqDiff,Nat.reduceAdd,Nat.reduceLeDiff,x0c,Int.reduceNeg,Nat.reduceMul,Nat.reduceSub,x0d,x0e,x0f,x0g,x0h,x0i,x0j,x0k,Int.reduceEq,Int.reduceLT,Int.reduceLE,Int.reduceToNat,Int.cast_ofNat_Int,List.reduceReplicate]
            rw [hv]
            exact gives_tup rfl (by simp)
          · rw [hostB_11n h11 (fun e => kc e.2.2.2)] at hv
            simp -implicitDefEqProofs only [h9, h10, h11, k3, kl, kc, z0, vmp,↓vmd,Env.get,putD,argEnv,List.map,x00,x01,x02,x03,x04,x05,x06,x07,List.take,List.drop,x08,x09,x0a,x0b,List.isEmpty,↓reduceIte,reduceCtorEq,Nat.reduceEqDiff,Nat.reduceAdd,Nat.reduceLeDiff,x0c,Int.reduceNeg,Nat.reduceMul,Nat.reduceSub,x0d,x0e,x0f,x0g,x0h,x0i,x0j,x0k,Int.reduceEq,Int.reduceLT,Int.reduceLE,Int.reduceToNat,Int.cast_ofNat_Int,List.reduceReplicate]
            rw [hv]
            exact gives_tup rfl (by simp)
        · rw [hostB_11n h11 (fun e => kl e.2.2.1)] at hv
          simp -implicitDefEqProofs only [h9, h10, h11, k3, kl, z0, vmp,↓vmd,Env.get,putD,argEnv,List.map,x00,x01,x02,x03,x04,x05,x06,x07,List.take,List.drop,x08,x09,x0a,x0b,List.isEmpty,↓reduceIte,reduceCtorEq,Nat.reduceEqDiff,Nat.reduceAdd,Nat.reduceLeDiff,x0c,Int.reduceNeg,Nat.reduceMul,Nat.reduceSub,x0d,x0e,x0f,x0g,x0h,x0i,x0j,x0k,Int.reduceEq,Int.reduceLT,Int.reduceLE,Int.reduceToNat,Int.cast_ofNat_Int,List.reduceReplicate]
          rw [hv]
          exact gives_tup rfl (by simp)
      · rw [hostB_11n h11 (fun e => k3 e.2.1)] at hv
        simp -implicitDefEqProofs only [h9, h10, h11, k3, z0, vmp,↓vmd,Env.get,putD,argEnv,List.map,x00,x01,x02,x03,x04,x05,x06,x07,List.take,List.drop,x08,x09,x0a,x0b,List.isEmpty,↓reduceIte,reduceCtorEq,Nat.reduceEqDiff,Nat.reduceAdd,Nat.reduceLeDiff,x0c,Int.reduceNeg,Nat.reduceMul,Nat.reduceSub,x0d,x0e,x0f,x0g,x0h,x0i,x0j,x0k,Int.reduceEq,Int.reduceLT,Int.reduceLE,Int.reduceToNat,Int.cast_ofNat_Int,List.reduceReplicate]
        rw [hv]
        exact gives_tup rfl (by simp)
    · simp -implicitDefEqProofs only [h9, h10, h11, vmp,↓vmd,Env.get,putD,argEnv,List.map,x00,x01,x02,x03,x04,x05,x06,x07,List.take,List.drop,x08,x09,x0a,x0b,List.isEmpty,↓reduceIte,reduceCtorEq,Nat.reduceEqDiff,Nat.reduceAdd,Nat.reduceLeDiff,x0c,Int.reduceNeg,Nat.reduceMul,Nat.reduceSub,x0d,x0e,x0f,x0g,x0h,x0i,x0j,x0k,Int.reduceEq,Int.reduceLT,Int.reduceLE,Int.reduceToNat,Int.cast_ofNat_Int,List.reduceReplicate]
      rw [hostF, if_pos (.inl (by simp [hungF, h9, h10, h11]))]
      exact gives_tup rfl (by simp)
  · simp -implicitDefEqProofs only [h0, h1, h3, vmp,↓vmd,Env.get,putD,argEnv,List.map,x00,x01,x02,x03,x04,x05,x06,x07,List.take,List.drop,x08,x09,x0a,x0b,List.isEmpty,↓reduceIte,reduceCtorEq,Nat.reduceEqDiff,Nat.reduceAdd,Nat.reduceLeDiff,x0c,Int.reduceNeg,Nat.reduceMul,Nat.reduceSub,x0d,x0e,x0f,x0g,x0h,x0i,x0j,x0k,Int.reduceEq,Int.reduceLT,Int.reduceLE,Int.reduceToNat,Int.cast_ofNat_Int,List.reduceReplicate]
    rw [hostF, if_pos (.inr (.inr (.inr (.inl h3))))]
    exact gives_tup rfl (by simp)
end Go.Proofs.Ytbllbkhkmngclaa.W
