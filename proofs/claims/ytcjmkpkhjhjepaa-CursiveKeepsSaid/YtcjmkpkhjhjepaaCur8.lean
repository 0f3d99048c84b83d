/-
  The law of what glyphs that hang on one another leave alone.
-/
import Derived.Test.YtcjmkpkhjhjepaaCur7
namespace Go.Proofs.Ytcjmkpkhjhjepaa.W
open Go Go.Vm Go.Proofs
set_option maxRecDepth 100000
set_option linter.unusedSimpArgs false
set_option maxHeartbeats 4000000
/-! typecase/typecaselaw33.CursiveKeeps -/
def c5_0 : AC :=
  (.seq (.regq [⟨some 171, none, .mov (.s 9)⟩,
    ⟨some 172, none, .mov (.s 10)⟩,
    ⟨some 173, none, .idxA 10 (.s 171) (.s 172)⟩,
    ⟨some 174, none, .fldA 6 (.s 173)⟩,
    ⟨some 175, none, .load false 1 (.s 174)⟩,
    ⟨some 176, none, .idxAA 2 1 (.s 5) (.c (.pure (.int .i64 1)))⟩,
    ⟨some 177, none, .load false 1 (.s 176)⟩,
    ⟨some 178, none, .bin .eql (.s 175) (.s 177)⟩,
    ⟨some 179, none, .mov (.s 178)⟩,
    ⟨some 180, some (179, true), .mov (.s 9)⟩,
    ⟨some 181, some (179, true), .idxAA 2 1 (.s 5) (.c (.pure (.int .i64 1)))⟩,
    ⟨some 182, some (179, true), .load false 1 (.s 181)⟩,
    ⟨some 183, some (179, true), .idxA 10 (.s 180) (.s 182)⟩,
    ⟨some 184, some (179, true), .fldA 2 (.s 183)⟩,
    ⟨some 185, some (179, true), .load false 1 (.s 184)⟩,
    ⟨some 186, some (179, true), .fldA 5 (.s 12)⟩,
    ⟨some 187, some (179, true), .fldA 0 (.s 186)⟩,
    ⟨some 188, some (179, true), .load false 1 (.s 187)⟩,
    ⟨some 189, some (179, true), .mov (.s 1)⟩,
    ⟨some 190, some (179, true), .idxAA 2 1 (.s 5) (.c (.pure (.int .i64 1)))⟩,
    ⟨some 191, some (179, true), .load false 1 (.s 190)⟩,
    ⟨some 192, some (179, true), .idxA 10 (.s 189) (.s 191)⟩,
    ⟨some 193, some (179, true), .fldA 3 (.s 192)⟩,
    ⟨some 194, some (179, true), .load false 1 (.s 193)⟩,
    ⟨some 195, some (179, true), .bin .add (.s 188) (.s 194)⟩,
    ⟨some 196, some (179, true), .bin .eql (.s 185) (.s 195)⟩,
    ⟨some 197, none, .pick (.s 179) (.s 196) (.c (.pure (.bool false)))⟩,
    ⟨some 198, none, .mov (.s 197)⟩,
    ⟨some 199, some (198, true), .mov (.s 9)⟩,
    ⟨some 200, some (198, true), .mov (.s 10)⟩,
    ⟨some 201, some (198, true), .idxA 10 (.s 199) (.s 200)⟩,
    ⟨some 202, some (198, true), .fldA 4 (.s 201)⟩,
    ⟨some 203, some (198, true), .load false 1 (.s 202)⟩,
    ⟨some 204, some (198, true), .fldA 5 (.s 12)⟩,
    ⟨some 205, some (198, true), .fldA 1 (.s 204)⟩,
    ⟨some 206, some (198, true), .load false 1 (.s 205)⟩,
    ⟨some 207, some (198, true), .fldA 3 (.s 14)⟩,
    ⟨some 208, some (198, true), .fldA 1 (.s 207)⟩,
    ⟨some 209, some (198, true), .load false 1 (.s 208)⟩,
    ⟨some 210, some (198, true), .bin .sub (.s 206) (.s 209)⟩,
    ⟨some 211, some (198, true), .bin .eql (.s 203) (.s 210)⟩,
    ⟨some 212, none, .pick (.s 198) (.s 211) (.c (.pure (.bool false)))⟩,
    ⟨some 213, none, .mov (.s 212)⟩,
    ⟨some 214, some (213, true), .mov (.s 9)⟩,
    ⟨some 215, some (213, true), .mov (.s 10)⟩,
    ⟨some 216, some (213, true), .idxA 10 (.s 214) (.s 215)⟩,
    ⟨some 217, some (213, true), .fldA 2 (.s 216)⟩,
    ⟨some 218, some (213, true), .load false 1 (.s 217)⟩,
    ⟨some 219, some (213, true), .mov (.s 9)⟩,
    ⟨some 220, some (213, true), .mov (.s 10)⟩,
    ⟨some 221, some (213, true), .idxA 10 (.s 219) (.s 220)⟩,
    ⟨some 222, some (213, true), .fldA 3 (.s 221)⟩,
    ⟨some 223, some (213, true), .load false 1 (.s 222)⟩,
    ⟨some 224, some (213, true), .bin .sub (.s 218) (.s 223)⟩,
    ⟨some 225, some (213, true), .mov (.s 1)⟩,
    ⟨some 226, some (213, true), .mov (.s 10)⟩,
    ⟨some 227, some (213, true), .idxA 10 (.s 225) (.s 226)⟩,
    ⟨some 228, some (213, true), .fldA 2 (.s 227)⟩,
    ⟨some 229, some (213, true), .load false 1 (.s 228)⟩,
    ⟨some 230, some (213, true), .mov (.s 1)⟩,
    ⟨some 231, some (213, true), .mov (.s 10)⟩,
    ⟨some 232, some (213, true), .idxA 10 (.s 230) (.s 231)⟩,
    ⟨some 233, some (213, true), .fldA 3 (.s 232)⟩,
    ⟨some 234, some (213, true), .load false 1 (.s 233)⟩,
    ⟨some 235, some (213, true), .bin .sub (.s 229) (.s 234)⟩]
    [⟨some 236, some (213, true), .bin .eql (.s 224) (.s 235)⟩,
    ⟨some 237, none, .pick (.s 213) (.s 236) (.c (.pure (.bool false)))⟩,
    ⟨some 238, none, .mov (.s 237)⟩,
    ⟨some 239, some (238, true), .call 12 []⟩,
    ⟨some 240, none, .pick (.s 238) (.s 239) (.c (.pure (.bool false)))⟩,
    ⟨some 6, none, .mov (.s 240)⟩])
  .ret)
def c5_1 : AC :=
  (.seq (.seq (.reg [⟨some 106, none, .mov (.s 16)⟩,
    ⟨some 107, none, .mov (.s 9)⟩,
    ⟨some 108, none, .len (.s 107)⟩,
    ⟨some 109, none, .bin .lss (.s 106) (.s 108)⟩])
  (.cond (.s 109)
  .skip
  (.exit 0)))
  (.seq (.block 1
  (.seq (.regq [⟨some 112, none, .mov (.s 16)⟩,
    ⟨some 113, none, .idxAA 2 1 (.s 5) (.c (.pure (.int .i64 1)))⟩,
    ⟨some 114, none, .load false 1 (.s 113)⟩,
    ⟨some 115, none, .bin .neq (.s 112) (.s 114)⟩,
    ⟨some 116, none, .mov (.s 115)⟩,
    ⟨some 117, some (116, true), .mov (.s 16)⟩,
    ⟨some 118, some (116, true), .mov (.s 10)⟩,
    ⟨some 119, some (116, true), .bin .neq (.s 117) (.s 118)⟩,
    ⟨some 120, none, .pick (.s 116) (.s 119) (.c (.pure (.bool false)))⟩,
    ⟨some 121, none, .mov (.s 120)⟩,
    ⟨some 122, some (121, true), .mov (.s 9)⟩,
    ⟨some 123, some (121, true), .mov (.s 16)⟩,
    ⟨some 124, some (121, true), .idxA 10 (.s 122) (.s 123)⟩,
    ⟨some 125, some (121, true), .load true 10 (.s 124)⟩,
    ⟨some 126, some (121, true), .mov (.s 1)⟩,
    ⟨some 127, some (121, true), .mov (.s 16)⟩,
    ⟨some 128, some (121, true), .idxA 10 (.s 126) (.s 127)⟩,
    ⟨some 129, some (121, true), .load true 10 (.s 128)⟩,
    ⟨some 130, some (121, true), .eqv true [.i, .i, .i, .i, .i, .i, .i, .i, .i, .i] (.s 125) (.s 129)⟩,
    ⟨some 131, none, .pick (.s 121) (.s 130) (.c (.pure (.bool false)))⟩,
    ⟨some 132, none, .mov (.s 131)⟩,
    ⟨some 133, some (132, false), .mov (.s 9)⟩,
    ⟨some 134, some (132, false), .mov (.s 16)⟩,
    ⟨some 135, some (132, false), .idxA 10 (.s 133) (.s 134)⟩,
    ⟨some 136, some (132, false), .fldA 0 (.s 135)⟩,
    ⟨some 137, some (132, false), .load false 1 (.s 136)⟩,
    ⟨some 138, some (132, false), .mov (.s 1)⟩,
    ⟨some 139, some (132, false), .mov (.s 16)⟩,
    ⟨some 140, some (132, false), .idxA 10 (.s 138) (.s 139)⟩,
    ⟨some 141, some (132, false), .fldA 0 (.s 140)⟩,
    ⟨some 142, some (132, false), .load false 1 (.s 141)⟩,
    ⟨some 143, some (132, false), .bin .neq (.s 137) (.s 142)⟩,
    ⟨some 144, none, .pick (.s 132) (.c (.pure (.bool true))) (.s 143)⟩,
    ⟨some 145, none, .mov (.s 144)⟩,
    ⟨some 146, some (145, false), .mov (.s 9)⟩,
    ⟨some 147, some (145, false), .mov (.s 16)⟩,
    ⟨some 148, some (145, false), .idxA 10 (.s 146) (.s 147)⟩,
    ⟨some 149, some (145, false), .fldA 1 (.s 148)⟩,
    ⟨some 150, some (145, false), .load false 1 (.s 149)⟩,
    ⟨some 151, some (145, false), .mov (.s 1)⟩,
    ⟨some 152, some (145, false), .mov (.s 16)⟩,
    ⟨some 153, some (145, false), .idxA 10 (.s 151) (.s 152)⟩,
    ⟨some 154, some (145, false), .fldA 1 (.s 153)⟩,
    ⟨some 155, some (145, false), .load false 1 (.s 154)⟩,
    ⟨some 156, some (145, false), .bin .neq (.s 150) (.s 155)⟩,
    ⟨some 157, none, .pick (.s 145) (.c (.pure (.bool true))) (.s 156)⟩,
    ⟨some 158, none, .mov (.s 157)⟩,
    ⟨some 159, some (158, false), .mov (.s 9)⟩,
    ⟨some 160, some (158, false), .mov (.s 16)⟩,
    ⟨some 161, some (158, false), .idxA 10 (.s 159) (.s 160)⟩,
    ⟨some 162, some (158, false), .fldA 9 (.s 161)⟩,
    ⟨some 163, some (158, false), .load false 1 (.s 162)⟩,
    ⟨some 164, some (158, false), .mov (.s 1)⟩,
    ⟨some 165, some (158, false), .mov (.s 16)⟩,
    ⟨some 166, some (158, false), .idxA 10 (.s 164) (.s 165)⟩,
    ⟨some 167, some (158, false), .fldA 9 (.s 166)⟩,
    ⟨some 168, some (158, false), .load false 1 (.s 167)⟩]
    [⟨some 169, some (158, false), .bin .neq (.s 163) (.s 168)⟩,
    ⟨some 170, none, .pick (.s 158) (.c (.pure (.bool true))) (.s 169)⟩])
  (.cond (.s 170)
  (.seq (.reg [⟨some 6, none, .mov (.c (.pure (.bool false)))⟩])
  .ret)
  .skip)))
  (.reg [⟨some 110, none, .mov (.s 16)⟩,
    ⟨some 111, none, .bin .add (.s 110) (.c (.pure (.int .i64 1)))⟩,
    ⟨some 16, none, .mov (.s 111)⟩])))
def c5 : AC :=
  (.seq (.reg [⟨some 3, none, .box (.s 0)⟩,
    ⟨some 5, none, .box (.s 2)⟩,
    ⟨some 6, none, .mov (.c (.pure (.bool false)))⟩])
  (.seq (.reg [⟨some 18, none, .load true 6 (.s 3)⟩,
    ⟨some 19, none, .idxAA 2 1 (.s 5) (.c (.pure (.int .i64 0)))⟩,
    ⟨some 20, none, .load false 1 (.s 19)⟩,
    ⟨some 21, none, .conv .u8 (.s 20)⟩,
    ⟨some 22, none, .call 10 [(.s 18), (.s 21)]⟩,
    ⟨some 17, none, .mov (.s 22)⟩,
    ⟨some 23, none, .ext 0 (.s 17)⟩,
    ⟨some 24, none, .ext 1 (.s 17)⟩,
    ⟨some 7, none, .box (.c (.agg [(.pure (.int .i64 0)), (.pure (.int .i64 0)), (.pure (.int .i64 0)), .empty]))⟩,
    ⟨none, none, .store 4 (.s 7) (.s 23)⟩,
    ⟨some 8, none, .mov (.s 24)⟩])
  (.seq (.seq (.reg [⟨some 25, none, .mov (.s 8)⟩,
    ⟨some 26, none, .un .not (.s 25)⟩,
    ⟨some 27, none, .mov (.s 26)⟩,
    ⟨some 28, some (27, false), .load true 6 (.s 3)⟩,
    ⟨some 29, some (27, false), .mov (.s 1)⟩,
    ⟨some 30, some (27, false), .call 11 [(.s 28), (.s 29)]⟩,
    ⟨some 31, some (27, false), .un .not (.s 30)⟩,
    ⟨some 32, none, .pick (.s 27) (.c (.pure (.bool true))) (.s 31)⟩,
    ⟨some 33, none, .mov (.s 32)⟩,
    ⟨some 34, some (33, false), .mov (.s 1)⟩,
    ⟨some 35, some (33, false), .call 15 [(.s 34)]⟩,
    ⟨some 36, some (33, false), .un .not (.s 35)⟩,
    ⟨some 37, none, .pick (.s 33) (.c (.pure (.bool true))) (.s 36)⟩])
  (.cond (.s 37)
  (.seq (.reg [⟨some 38, none, .call 12 []⟩,
    ⟨some 6, none, .mov (.s 38)⟩])
  .ret)
  .skip))
  (.seq (.reg [⟨some 40, none, .load true 6 (.s 3)⟩,
    ⟨some 41, none, .load true 4 (.s 7)⟩,
    ⟨some 42, none, .mov (.s 1)⟩,
    ⟨some 43, none, .idxAA 2 1 (.s 5) (.c (.pure (.int .i64 1)))⟩,
    ⟨some 44, none, .load false 1 (.s 43)⟩,
    ⟨some 45, none, .call 16 [(.s 40), (.s 41), (.s 42), (.s 44)]⟩,
    ⟨some 39, none, .mov (.s 45)⟩,
    ⟨some 46, none, .ext 0 (.s 39)⟩,
    ⟨some 47, none, .ext 1 (.s 39)⟩,
    ⟨some 48, none, .ext 2 (.s 39)⟩,
    ⟨some 9, none, .mov (.s 46)⟩,
    ⟨some 10, none, .mov (.s 47)⟩,
    ⟨some 11, none, .mov (.s 48)⟩])
  (.seq (.seq (.reg [⟨some 49, none, .mov (.s 11)⟩,
    ⟨some 50, none, .un .not (.s 49)⟩])
  (.cond (.s 50)
  (.seq (.reg [⟨some 51, none, .mov (.s 9)⟩,
    ⟨some 52, none, .mov (.s 1)⟩,
    ⟨some 53, none, .call 20 [(.s 51), (.s 52)]⟩,
    ⟨some 54, none, .mov (.s 53)⟩,
    ⟨some 55, some (54, true), .mov (.s 10)⟩,
    ⟨some 56, some (54, true), .idxAA 2 1 (.s 5) (.c (.pure (.int .i64 1)))⟩,
    ⟨some 57, some (54, true), .load false 1 (.s 56)⟩,
    ⟨some 58, some (54, true), .bin .eql (.s 55) (.s 57)⟩,
    ⟨some 59, none, .pick (.s 54) (.s 58) (.c (.pure (.bool false)))⟩,
    ⟨some 60, none, .mov (.s 59)⟩,
    ⟨some 61, some (60, true), .call 12 []⟩,
    ⟨some 62, none, .pick (.s 60) (.s 61) (.c (.pure (.bool false)))⟩,
    ⟨some 6, none, .mov (.s 62)⟩])
  .ret)
  .skip))
  (.seq (.seq (.reg [⟨some 63, none, .idxAA 2 1 (.s 5) (.c (.pure (.int .i64 1)))⟩,
    ⟨some 64, none, .load false 1 (.s 63)⟩,
    ⟨some 65, none, .bin .lss (.s 64) (.c (.pure (.int .i64 0)))⟩,
    ⟨some 66, none, .mov (.s 65)⟩,
    ⟨some 67, some (66, false), .mov (.s 10)⟩,
    ⟨some 68, some (66, false), .idxAA 2 1 (.s 5) (.c (.pure (.int .i64 1)))⟩,
    ⟨some 69, some (66, false), .load false 1 (.s 68)⟩,
    ⟨some 70, some (66, false), .bin .leq (.s 67) (.s 69)⟩,
    ⟨some 71, none, .pick (.s 66) (.c (.pure (.bool true))) (.s 70)⟩,
    ⟨some 72, none, .mov (.s 71)⟩,
    ⟨some 73, some (72, false), .mov (.s 10)⟩,
    ⟨some 74, some (72, false), .mov (.s 1)⟩,
    ⟨some 75, some (72, false), .len (.s 74)⟩,
    ⟨some 76, some (72, false), .bin .geq (.s 73) (.s 75)⟩,
    ⟨some 77, none, .pick (.s 72) (.c (.pure (.bool true))) (.s 76)⟩,
    ⟨some 78, none, .mov (.s 77)⟩,
    ⟨some 79, some (78, false), .mov (.s 9)⟩,
    ⟨some 80, some (78, false), .len (.s 79)⟩,
    ⟨some 81, some (78, false), .mov (.s 1)⟩,
    ⟨some 82, some (78, false), .len (.s 81)⟩,
    ⟨some 83, some (78, false), .bin .neq (.s 80) (.s 82)⟩,
    ⟨some 84, none, .pick (.s 78) (.c (.pure (.bool true))) (.s 83)⟩])
  (.cond (.s 84)
  (.seq (.reg [⟨some 6, none, .mov (.c (.pure (.bool false)))⟩])
  .ret)
  .skip))
  (.seq (.regq [⟨some 86, none, .load true 4 (.s 7)⟩,
    ⟨some 87, none, .mov (.s 1)⟩,
    ⟨some 88, none, .idxAA 2 1 (.s 5) (.c (.pure (.int .i64 1)))⟩,
    ⟨some 89, none, .load false 1 (.s 88)⟩,
    ⟨some 90, none, .idxA 10 (.s 87) (.s 89)⟩,
    ⟨some 91, none, .fldA 0 (.s 90)⟩,
    ⟨some 92, none, .load false 1 (.s 91)⟩,
    ⟨some 93, none, .call 13 [(.s 86), (.s 92)]⟩,
    ⟨some 85, none, .mov (.s 93)⟩,
    ⟨some 94, none, .ext 0 (.s 85)⟩,
    ⟨some 95, none, .ext 1 (.s 85)⟩,
    ⟨some 12, none, .box (.c (.pure (.agg [(.int .i64 0), (.bool false), (.bool false), (.int .i64 0), (.int .i64 0), (.int .i64 0), (.int .i64 0)])))⟩]
    [⟨none, none, .store 7 (.s 12) (.s 94)⟩,
    ⟨some 13, none, .mov (.s 95)⟩])
  (.seq (.regq [⟨some 97, none, .load true 4 (.s 7)⟩,
    ⟨some 98, none, .mov (.s 1)⟩,
    ⟨some 99, none, .mov (.s 10)⟩,
    ⟨some 100, none, .idxA 10 (.s 98) (.s 99)⟩,
    ⟨some 101, none, .fldA 0 (.s 100)⟩,
    ⟨some 102, none, .load false 1 (.s 101)⟩,
    ⟨some 103, none, .call 13 [(.s 97), (.s 102)]⟩,
    ⟨some 96, none, .mov (.s 103)⟩,
    ⟨some 104, none, .ext 0 (.s 96)⟩,
    ⟨some 105, none, .ext 1 (.s 96)⟩,
    ⟨some 14, none, .box (.c (.pure (.agg [(.int .i64 0), (.bool false), (.bool false), (.int .i64 0), (.int .i64 0), (.int .i64 0), (.int .i64 0)])))⟩]
    [⟨none, none, .store 7 (.s 14) (.s 104)⟩,
    ⟨some 15, none, .mov (.s 105)⟩])
  (.seq (.seq (.reg [⟨some 16, none, .mov (.c (.pure (.int .i64 0)))⟩])
  (.block 0
  (.loop c5_1)))
  c5_0)))))))))
theorem k5 : (Try.f5.body.bind fun c => cCode Try.prog Try.f5.ntmps RCs c) = some c5 := by kernel_rfl
theorem h5 : (Try.f5.name == "runtime.NumGoroutine") = false := by kernel_rfl
theorem r5 : resC Try.prog Try.f5.results.toList = some [.t 6] := by kernel_rfl
theorem a5 {args : List S} {H : Heap} {K : S → Heap → Prop} (hn : args.length ≤ 241) (h : aWx Try.prog H.length c5 (PostX [.t 6] K) (argEnv 0 args) H) : CallA Try.prog 5 args H K :=
  callA_of_x mixed Try.func5 h5 k5 r5 (by rw [Try.ntmps5]; exact hn) h
theorem q5 {vs ds : List V} (hn : vs.length ≤ 241) (h : aWx Try.prog 0 c5 (PostX [.t 6] (Gives ds)) (argEnv 0 (vs.map .pure)) []) : FnQ Try.prog 5 vs ds :=
  fnQ_of_call (a5 (by simpa using hn) h)

theorem wrap_two (p q e : Int) : IntKind.wrap .i64 (IntKind.wrap .i64 (p - e) - IntKind.wrap .i64 (q - e)) = IntKind.wrap .i64 (p - q) := by
  simp only [IntKind.wrap, IntKind.bits, IntKind.signed]
  simp
  omega
theorem glAt_doC {ls : List Gl} {x n : Int} {a b : Cu} (x0 : 0 ≤ x) (x1 : x < ls.length) (xn : x < n) (n1 : n < ls.length) :
    glAt (doC ls x n a b) x = advG (glAt ls x) (IntKind.wrap .i64 (a.xx + (glAt ls x).dx)) ∧ glAt (doC ls x n a b) n = onG (glAt ls n) x b.ex (IntKind.wrap .i64 (a.xy - b.ey)) ∧
    ∀ j : Nat, (j : Int) ≠ x → (j : Int) ≠ n → glAt (doC ls x n a b) (j : Int) = glAt ls (j : Int) := by
  refine ⟨?_, ?_, fun j h1 h2 => ?_⟩
  · rw [doC, glAt, List.getElem?_set_ne (by omega), List.getElem?_set_self (by omega)]; rfl
  · rw [doC, glAt, List.getElem?_set_self (by rw [List.length_set]; omega)]; rfl
  · rw [doC, glAt, List.getElem?_set_ne (by omega), List.getElem?_set_ne (by omega), glAt]
theorem ck_law (F : Ff) (ls : List Gl) (a b : Int) : FnQ Try.prog 5 [ffV F, .sl (ls.map gl), .agg [I a, I b]] [.bool true] := by
  refine q5 (by simp) ?_
  unfold c5
  have hu := u8_inc a
  simp -implicitDefEqProofs only [vmp,↓vmd,seval]
  refine onC_q (pick_q F _ hu.1 hu.2) rfl ?_
  rw [pickR]
  generalize ho : pickF F (IntKind.wrap .u8 a) = o at *
  (first | apply envO | apply envQ); simp -implicitDefEqProofs only [vmp,↓vmd,seval]; rfl
  simp -implicitDefEqProofs only [vmp,↓vmd,seval]
  cases o with
  | none =>
    simp -implicitDefEqProofs only [Option.isSome_none, vmp,↓vmd,seval]
    refine onC_q alive33_q rfl ?_
    (first | apply envO | apply envQ); simp -implicitDefEqProofs only [vmp,↓vmd,seval]; rfl
    simp -implicitDefEqProofs only [vmp,↓vmd,seval]
    exact gives_pure
  | some k =>
    simp -implicitDefEqProofs only [Option.isSome_some, Option.getD_some, vmp,↓vmd,seval]
    refine onC_q (fine_q F ls) rfl ?_
    have hfl := @fineF_lenc F ls
    generalize fineF F ls = b1 at *
    cases b1 with
    | false =>
      (first | apply envO | apply envQ); simp -implicitDefEqProofs only [vmp,↓vmd,seval]; rfl
      simp -implicitDefEqProofs only [vmp,↓vmd,seval]
      refine onC_q alive33_q rfl ?_
      (first | apply envO | apply envQ); simp -implicitDefEqProofs only [vmp,↓vmd,seval]; rfl
      simp -implicitDefEqProofs only [vmp,↓vmd,seval]
      exact gives_pure
    | true =>
      have hl := hfl rfl
      (first | apply envO | apply envQ); simp -implicitDefEqProofs only [vmp,↓vmd,seval]; rfl
      simp -implicitDefEqProofs only [vmp,↓vmd,seval]
      refine onC_q (near33_q ls) rfl ?_
      generalize nearL ls = b2 at *
      cases b2 with
      | false =>
        (first | apply envO | apply envQ); simp -implicitDefEqProofs only [vmp,↓vmd,seval]; rfl
        simp -implicitDefEqProofs only [vmp,↓vmd,seval]
        refine onC_q alive33_q rfl ?_
        (first | apply envO | apply envQ); simp -implicitDefEqProofs only [vmp,↓vmd,seval]; rfl
        simp -implicitDefEqProofs only [vmp,↓vmd,seval]
        exact gives_pure
      | true =>
        have g1 := capply_q F.fo k ls (by omega) b
        have hin := @hangF_some F.fo k ls b
        have ho : curA F.fo k ls b = [.sl ((((hangF F.fo k ls b).map fun z => (z.1, doC ls b z.1 z.2.1 z.2.2)).getD (b, ls)).2.map gl), I ((((hangF F.fo k ls b).map fun z => (z.1, doC ls b z.1 z.2.1 z.2.2)).getD (b, ls)).1), .bool ((hangF F.fo k ls b).map fun z => (z.1, doC ls b z.1 z.2.1 z.2.2)).isSome] := rfl
        rw [ffV_fo] at g1
        rw [ho] at g1
        clear ho
        generalize hangF F.fo k ls b = o at *
        (first | apply envO | apply envQ); simp -implicitDefEqProofs only [vmp,↓vmd,seval]; rfl
        simp -implicitDefEqProofs only [vmp,↓vmd,seval]
        first | refine onQ_q g1 rfl ?_ | refine onC_q g1 rfl ?_
        cases o with
        | none =>
          (first | apply envO | apply envQ); simp -implicitDefEqProofs only [vmp,↓vmd,seval]; rfl
          simp -implicitDefEqProofs only [Option.map_none, Option.getD_none, Option.isSome_none, vmp,↓vmd,seval]
          refine onC_q (glyphs2_q ls ls) rfl ?_
          rw [decide_eq_true rfl]
          (first | apply envO | apply envQ); simp -implicitDefEqProofs only [vmp,↓vmd,seval]; rfl
          simp -implicitDefEqProofs only [vmp,↓vmd,seval]
          refine onC_q alive33_q rfl ?_
          (first | apply envO | apply envQ); simp -implicitDefEqProofs only [vmp,↓vmd,seval]; rfl
          simp -implicitDefEqProofs only [vmp,↓vmd,seval]
          exact gives_pure
        | some z =>
          obtain ⟨n, ca, cb⟩ := z
          obtain ⟨x0, x1, _, xn, n1, hfa, hfb, _⟩ := hin rfl
          have n0 : 0 ≤ n := by omega
          obtain ⟨d1, d2, d3⟩ := glAt_doC (a := ca) (b := cb) x0 x1 xn n1
          have hX : (doC ls b n ca cb).length = ls.length := doC_len
          have fa := find_q k (glAt ls b).id
          have fb := find_q k (glAt ls n).id
          rw [hfa] at fa
          rw [hfb] at fb
          have hgb := glAt_map x0 x1
          have hgn := glAt_map n0 n1
          have hXb : ((doC ls b n ca cb).map gl)[b.toNat]? = some (gl (advG (glAt ls b) (IntKind.wrap .i64 (ca.xx + (glAt ls b).dx)))) := by rw [← d1]; exact glAt_map x0 (by rw [hX]; exact x1)
          have hXn : ((doC ls b n ca cb).map gl)[n.toNat]? = some (gl (onG (glAt ls n) b cb.ex (IntKind.wrap .i64 (ca.xy - cb.ey)))) := by rw [← d2]; exact glAt_map n0 (by rw [hX]; exact n1)
          have hww := wrap_two (glAt ls n).adv (glAt ls n).dx cb.ex
          have hd3 : ∀ j : Nat, j < ls.length → (j : Int) ≠ b → (j : Int) ≠ n → ((doC ls b n ca cb).map gl)[j]? = some (gl (glAt ls (j : Int))) := by
            intro j hj h1 h2
            rw [← d3 j h1 h2]
            have := glAt_map (ls := doC ls b n ca cb) (y := (j : Int)) (by omega) (by rw [hX]; omega)
            simpa using this
          have hj : ∀ j : Nat, j < ls.length → (ls.map gl)[j]? = some (gl (glAt ls (j : Int))) := by
            intro j hj
            have := glAt_map (ls := ls) (y := (j : Int)) (by omega) (by omega)
            simpa using this
          have e1 : ¬ b < 0 := by omega
          have e2 : ¬ n ≤ b := by omega
          have e3 : ¬ (ls.length : Int) ≤ n := by omega
          clear d1 d2 d3
          simp only [Option.map_some, Option.getD_some, Option.isSome_some]
          generalize doC ls b n ca cb = X at *
          have hX' : (X.length : Int) = (ls.length : Int) := by omega
          (first | apply envO | apply envQ); simp -implicitDefEqProofs only [vmp,↓vmd,seval]; rfl
          simp -implicitDefEqProofs only [vmp,↓vmd,seval]
          refine onB_neg e1 ?_
          (first | apply envO | apply envQ); simp -implicitDefEqProofs only [e1, vmp,↓vmd,seval]; rfl
          simp -implicitDefEqProofs only [e1, vmp,↓vmd,seval]
          refine onB_neg e2 ?_
          (first | apply envO | apply envQ); simp -implicitDefEqProofs only [e2, vmp,↓vmd,seval]; rfl
          simp -implicitDefEqProofs only [e2, vmp,↓vmd,seval]
          refine onIf_intro fun _ => ?_
          (first | apply envO | apply envQ); simp -implicitDefEqProofs only [e3, vmp,↓vmd,seval]; rfl
          simp -implicitDefEqProofs only [e3, vmp,↓vmd,seval]
          refine onIf_intro fun _ => ?_
          (first | apply envO | apply envQ); simp -implicitDefEqProofs only [hX', vmp,↓vmd,seval]; rfl
          simp -implicitDefEqProofs only [hX', not_true, vmp,↓vmd,seval]
          refine onIf_intro fun _ => ?_
          (first | apply envO | apply envQ); simp -implicitDefEqProofs only [hX', vmp,↓vmd,seval]; rfl
          simp -implicitDefEqProofs only [hX', not_true, hgb, x0, vmp,↓vmd,seval]
          first | refine onQ_q fa rfl ?_ | refine onC_q fa rfl ?_
          (first | apply envO | apply envQ); simp -implicitDefEqProofs only [vmp,↓vmd,seval]; rfl
          simp -implicitDefEqProofs only [curR, Option.getD_some, Option.isSome_some, hgn, n0, vmp,↓vmd,seval]
          first | refine onQ_q fb rfl ?_ | refine onC_q fb rfl ?_
          (first | apply envO | apply envQ); simp -implicitDefEqProofs only [vmp,↓vmd,seval]; rfl
          simp -implicitDefEqProofs only [curR, Option.getD_some, Option.isSome_some, vmp,↓vmd,seval]
          refine loop_at (T := Nat) (fun i => [(16, .pure (I (i : Int))), (9, .pure (.sl (X.map gl))), (1, .pure (.sl (ls.map gl))), (10, .pure (I n)), (5, .ptr 0 0 0), (12, .ptr 1 0 0), (14, .ptr 2 0 0)])
            (fun _ => [⟨[.pure (.agg [I a, I b])], 2, .live⟩, ⟨[.pure (cu ca)], 7, .live⟩, ⟨[.pure (cu cb)], 7, .live⟩]) (fun i => i ≤ ls.length) (fun i => ls.length - i)
            0 [1, 3, 4] (by simp) rfl (by simp) (by simp -implicitDefEqProofs only [kpp,seval]) (by simp -implicitDefEqProofs only [kpp,seval]) ?_
          intro i hi
          unfold c5_1
          simp -implicitDefEqProofs only [vmp,↓vmd,seval]
          refine onIf_intro fun _ => ?_
          (first | apply envO | apply envQ); simp -implicitDefEqProofs only [vmp,↓vmd,seval]; rfl
          simp -implicitDefEqProofs only [hX', vmp,↓vmd,seval]
          refine onB_dec (fun h1 => ?_) (fun h1 => ?_)
          · have hlt : i < ls.length := by omega
            have hli := hj i hlt
            by_cases hib : (i : Int) = b
            · have hxi : (X.map gl)[i]? = some (gl (advG (glAt ls (i : Int)) (IntKind.wrap .i64 (ca.xx + (glAt ls (i : Int)).dx)))) := by
                rw [hib, ← hXb]; congr 1; omega
              generalize glAt ls (i : Int) = g at *
              simp -implicitDefEqProofs only [h1, vmp,↓vmd,seval]
              have hjn : decide (¬ (i : Int) = b) = false := by simp [hib]
              refine onB_neg (fun h => h hib) ?_
              (first | apply envO | apply envQ); simp -implicitDefEqProofs only [hjn, vmp,↓vmd,seval]; rfl
              simp -implicitDefEqProofs only [hli, hxi, Int.natCast_nonneg, advG, vmp,↓vmd,seval]
              refine onBk_to (i + 1) [0, 1, 2] (by simp) rfl (by omega) hlt (by simp -implicitDefEqProofs only [next_at hlt (by omega), kpp,seval]) (by simp -implicitDefEqProofs only [kpp,seval])
            · by_cases hin : (i : Int) = n
              · have hxi : (X.map gl)[i]? = some (gl (onG (glAt ls (i : Int)) b cb.ex (IntKind.wrap .i64 (ca.xy - cb.ey)))) := by
                  rw [hin, ← hXn]; congr 1; omega
                generalize glAt ls (i : Int) = g at *
                simp -implicitDefEqProofs only [h1, vmp,↓vmd,seval]
                refine onB_pos hib ?_
                (first | apply envO | apply envQ); simp -implicitDefEqProofs only [hib, vmp,↓vmd,seval]; rfl
                simp -implicitDefEqProofs only [hib, vmp,↓vmd,seval]
                have hjn : decide (¬ (i : Int) = n) = false := by simp [hin]
                refine onB_neg (fun h => h hin) ?_
                (first | apply envO | apply envQ); simp -implicitDefEqProofs only [hjn, vmp,↓vmd,seval]; rfl
                simp -implicitDefEqProofs only [hli, hxi, Int.natCast_nonneg, onG, vmp,↓vmd,seval]
                refine onBk_to (i + 1) [0, 1, 2] (by simp) rfl (by omega) hlt (by simp -implicitDefEqProofs only [next_at hlt (by omega), kpp,seval]) (by simp -implicitDefEqProofs only [kpp,seval])
              · have hxi := hd3 i hlt hib hin
                generalize glAt ls (i : Int) = g at *
                simp -implicitDefEqProofs only [h1, vmp,↓vmd,seval]
                refine onB_pos hib ?_
                (first | apply envO | apply envQ); simp -implicitDefEqProofs only [hib, vmp,↓vmd,seval]; rfl
                simp -implicitDefEqProofs only [hib, vmp,↓vmd,seval]
                refine onB_pos hin ?_
                (first | apply envO | apply envQ); simp -implicitDefEqProofs only [hin, vmp,↓vmd,seval]; rfl
                simp -implicitDefEqProofs only [hin, hli, hxi, Int.natCast_nonneg, decide_true, Bool.and_self, Bool.not_true, vmp,↓vmd,seval]
                refine onBk_to (i + 1) [0, 1, 2] (by simp) rfl (by omega) hlt (by simp -implicitDefEqProofs only [next_at hlt (by omega), kpp,seval]) (by simp -implicitDefEqProofs only [kpp,seval])
          · simp -implicitDefEqProofs only [h1, vmp,↓vmd,seval]
            unfold c5_0
            simp -implicitDefEqProofs only [hXn, hXb, hgb, hgn, x0, n0, hww, advG, onG, vmp,↓vmd,seval]
            refine onC_q alive33_q rfl ?_
            (first | apply envO | apply envQ); simp -implicitDefEqProofs only [vmp,↓vmd,seval]; rfl
            simp -implicitDefEqProofs only [vmp,↓vmd,seval]
            exact gives_pure
theorem ck_all (vs : List V) (h : OkTs Try.prog Try.f5.params.toList vs) : FnQ Try.prog 5 vs [.bool true] := by
  rw [Try.params5] at h
  match vs, h with
  | [x, y, z], h =>
    obtain ⟨h1, h2, h3, _⟩ := h
    obtain ⟨f, rfl⟩ := font_of' h1
    obtain ⟨l, rfl, _⟩ := gls_of (cell_of (h2 _ _ _ ty_glyphs))
    obtain ⟨a, b, rfl⟩ := two_ofc h3
    exact ck_law f l a b
end Go.Proofs.Ytcjmkpkhjhjepaa.W
