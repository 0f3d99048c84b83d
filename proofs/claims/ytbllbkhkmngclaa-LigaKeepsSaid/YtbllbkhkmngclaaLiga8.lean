/-
  The law LigaKeeps: what its function does, for every input. No condition.
-/
import Derived.Test.YtbllbkhkmngclaaLiga7
import Derived.Test.YtbllbkhkmngclaaLiga6
namespace Go.Proofs.Ytbllbkhkmngclaa.W
open Go Go.Vm Go.Proofs
set_option maxRecDepth 100000
set_option linter.unusedSimpArgs false
set_option maxHeartbeats 4000000
/-! typecase/typecaselaw28.LigaKeeps -/
def c11_0 : AC :=
  (.seq (.reg [⟨some 225, none, .mov (.s 2)⟩,
    ⟨some 226, none, .call 40 [(.s 225)]⟩,
    ⟨some 227, none, .un .not (.s 226)⟩,
    ⟨some 228, none, .mov (.s 227)⟩,
    ⟨some 229, some (228, false), .mov (.s 12)⟩,
    ⟨some 230, some (228, false), .call 40 [(.s 229)]⟩,
    ⟨some 231, none, .pick (.s 228) (.c (.pure (.bool true))) (.s 230)⟩,
    ⟨some 232, none, .mov (.s 231)⟩,
    ⟨some 233, some (232, true), .call 33 []⟩,
    ⟨some 234, none, .pick (.s 232) (.s 233) (.c (.pure (.bool false)))⟩,
    ⟨some 8, none, .mov (.s 234)⟩])
  .ret)
def c11_1 : AC :=
  (.seq (.reg [⟨some 212, none, .bin .lss (.s 211) (.s 210)⟩])
  (.seq (.cond (.s 212)
  .skip
  (.exit 6))
  (.seq (.block 7
  (.seq (.reg [⟨some 213, none, .idxA 10 (.s 209) (.s 211)⟩,
    ⟨some 214, none, .load true 10 (.s 213)⟩,
    ⟨some 21, none, .box (.c (.pure (.agg [(.int .i64 0), (.int .i64 0), (.int .i64 0), (.int .i64 0), (.int .i64 0), (.int .i64 0), (.int .i64 0), (.int .i64 0), (.int .i64 0), (.int .i64 0)])))⟩,
    ⟨none, none, .store 10 (.s 21) (.s 214)⟩])
  (.seq (.reg [⟨some 215, none, .fldA 5 (.s 21)⟩,
    ⟨some 216, none, .load false 1 (.s 215)⟩,
    ⟨some 217, none, .bin .neq (.s 216) (.c (.pure (.int .i64 (-1))))⟩,
    ⟨some 218, none, .mov (.s 217)⟩,
    ⟨some 219, some (218, false), .fldA 6 (.s 21)⟩,
    ⟨some 220, some (218, false), .load false 1 (.s 219)⟩,
    ⟨some 221, some (218, false), .bin .neq (.s 220) (.c (.pure (.int .i64 (-1))))⟩,
    ⟨some 222, none, .pick (.s 218) (.c (.pure (.bool true))) (.s 221)⟩])
  (.cond (.s 222)
  (.seq (.reg [⟨some 223, none, .call 33 []⟩,
    ⟨some 8, none, .mov (.s 223)⟩])
  .ret)
  .skip))))
  (.reg [⟨some 224, none, .bin .add (.s 211) (.c (.pure (.int .i64 1)))⟩,
    ⟨some 211, none, .mov (.s 224)⟩]))))
def c11_2 : AC :=
  (.seq (.seq (.reg [⟨some 209, none, .mov (.s 2)⟩,
    ⟨some 210, none, .len (.s 209)⟩,
    ⟨some 211, none, .mov (.c (.pure (.int .i64 0)))⟩])
  (.block 6
  (.loop c11_1)))
  c11_0)
def c11_3 : AC :=
  (.seq (.seq (.reg [⟨some 188, none, .mov (.s 19)⟩,
    ⟨some 189, none, .mov (.s 2)⟩,
    ⟨some 190, none, .len (.s 189)⟩,
    ⟨some 191, none, .bin .lss (.s 188) (.s 190)⟩])
  (.cond (.s 191)
  .skip
  (.exit 4)))
  (.seq (.block 5
  (.seq (.regq [⟨some 194, none, .mov (.s 12)⟩,
    ⟨some 195, none, .mov (.s 19)⟩,
    ⟨some 196, none, .fldA 0 (.s 9)⟩,
    ⟨some 197, none, .load false 1 (.s 196)⟩,
    ⟨some 198, none, .len (.s 197)⟩,
    ⟨some 199, none, .bin .sub (.s 195) (.s 198)⟩,
    ⟨some 200, none, .idxA 10 (.s 194) (.s 199)⟩,
    ⟨some 201, none, .fldA 0 (.s 200)⟩,
    ⟨some 202, none, .load false 1 (.s 201)⟩,
    ⟨some 203, none, .mov (.s 2)⟩,
    ⟨some 204, none, .mov (.s 19)⟩,
    ⟨some 205, none, .idxA 10 (.s 203) (.s 204)⟩,
    ⟨some 206, none, .fldA 0 (.s 205)⟩,
    ⟨some 207, none, .load false 1 (.s 206)⟩]
    [⟨some 208, none, .bin .neq (.s 202) (.s 207)⟩])
  (.cond (.s 208)
  (.seq (.reg [⟨some 8, none, .mov (.c (.pure (.bool false)))⟩])
  .ret)
  .skip)))
  (.reg [⟨some 192, none, .mov (.s 19)⟩,
    ⟨some 193, none, .bin .add (.s 192) (.c (.pure (.int .i64 1)))⟩,
    ⟨some 19, none, .mov (.s 193)⟩])))
def c11_4 : AC :=
  (.seq (.seq (.reg [⟨some 186, none, .mov (.s 17)⟩,
    ⟨some 187, none, .bin .add (.s 186) (.c (.pure (.int .i64 1)))⟩,
    ⟨some 19, none, .mov (.s 187)⟩])
  (.block 4
  (.loop c11_3)))
  c11_2)
def c11_5 : AC :=
  (.seq (.seq (.reg [⟨some 170, none, .mov (.s 18)⟩,
    ⟨some 171, none, .mov (.s 3)⟩,
    ⟨some 172, none, .bin .lss (.s 170) (.s 171)⟩])
  (.cond (.s 172)
  .skip
  (.exit 2)))
  (.seq (.block 3
  (.seq (.regq [⟨some 175, none, .mov (.s 12)⟩,
    ⟨some 176, none, .mov (.s 18)⟩,
    ⟨some 177, none, .idxA 10 (.s 175) (.s 176)⟩,
    ⟨some 178, none, .fldA 0 (.s 177)⟩,
    ⟨some 179, none, .load false 1 (.s 178)⟩,
    ⟨some 180, none, .mov (.s 2)⟩,
    ⟨some 181, none, .mov (.s 18)⟩,
    ⟨some 182, none, .idxA 10 (.s 180) (.s 181)⟩,
    ⟨some 183, none, .fldA 0 (.s 182)⟩,
    ⟨some 184, none, .load false 1 (.s 183)⟩]
    [⟨some 185, none, .bin .neq (.s 179) (.s 184)⟩])
  (.cond (.s 185)
  (.seq (.reg [⟨some 8, none, .mov (.c (.pure (.bool false)))⟩])
  .ret)
  .skip)))
  (.reg [⟨some 173, none, .mov (.s 18)⟩,
    ⟨some 174, none, .bin .add (.s 173) (.c (.pure (.int .i64 1)))⟩,
    ⟨some 18, none, .mov (.s 174)⟩])))
def c11_6 : AC :=
  (.seq (.reg [⟨some 147, none, .mov (.s 10)⟩,
    ⟨some 148, none, .mov (.s 15)⟩,
    ⟨some 149, none, .bin .sub (.s 148) (.c (.pure (.int .i64 1)))⟩,
    ⟨some 150, none, .idxA 1 (.s 147) (.s 149)⟩,
    ⟨some 151, none, .load false 1 (.s 150)⟩,
    ⟨some 17, none, .mov (.s 151)⟩])
  (.seq (.seq (.regq [⟨some 152, none, .mov (.s 13)⟩,
    ⟨some 153, none, .mov (.s 17)⟩,
    ⟨some 154, none, .bin .add (.s 153) (.c (.pure (.int .i64 1)))⟩,
    ⟨some 155, none, .fldA 0 (.s 9)⟩,
    ⟨some 156, none, .load false 1 (.s 155)⟩,
    ⟨some 157, none, .len (.s 156)⟩,
    ⟨some 158, none, .bin .sub (.s 154) (.s 157)⟩,
    ⟨some 159, none, .bin .neq (.s 152) (.s 158)⟩,
    ⟨some 160, none, .mov (.s 159)⟩,
    ⟨some 161, some (160, false), .mov (.s 12)⟩,
    ⟨some 162, some (160, false), .mov (.s 3)⟩,
    ⟨some 163, some (160, false), .idxA 10 (.s 161) (.s 162)⟩,
    ⟨some 164, some (160, false), .fldA 0 (.s 163)⟩,
    ⟨some 165, some (160, false), .load false 1 (.s 164)⟩,
    ⟨some 166, some (160, false), .fldA 1 (.s 9)⟩,
    ⟨some 167, some (160, false), .load false 1 (.s 166)⟩]
    [⟨some 168, some (160, false), .bin .neq (.s 165) (.s 167)⟩,
    ⟨some 169, none, .pick (.s 160) (.c (.pure (.bool true))) (.s 168)⟩])
  (.cond (.s 169)
  (.seq (.reg [⟨some 8, none, .mov (.c (.pure (.bool false)))⟩])
  .ret)
  .skip))
  (.seq (.seq (.reg [⟨some 18, none, .mov (.c (.pure (.int .i64 0)))⟩])
  (.block 2
  (.loop c11_5)))
  c11_4)))
def c11_7 : AC :=
  (.seq (.seq (.reg [⟨some 91, none, .mov (.s 16)⟩,
    ⟨some 92, none, .mov (.s 15)⟩,
    ⟨some 93, none, .bin .lss (.s 91) (.s 92)⟩])
  (.cond (.s 93)
  .skip
  (.exit 0)))
  (.seq (.block 1
  (.seq (.regq [⟨some 96, none, .mov (.s 10)⟩,
    ⟨some 97, none, .mov (.s 16)⟩,
    ⟨some 98, none, .idxA 1 (.s 96) (.s 97)⟩,
    ⟨some 99, none, .load false 1 (.s 98)⟩,
    ⟨some 100, none, .mov (.s 10)⟩,
    ⟨some 101, none, .mov (.s 16)⟩,
    ⟨some 102, none, .bin .sub (.s 101) (.c (.pure (.int .i64 1)))⟩,
    ⟨some 103, none, .idxA 1 (.s 100) (.s 102)⟩,
    ⟨some 104, none, .load false 1 (.s 103)⟩,
    ⟨some 105, none, .bin .leq (.s 99) (.s 104)⟩,
    ⟨some 106, none, .mov (.s 105)⟩,
    ⟨some 107, some (106, false), .mov (.s 10)⟩,
    ⟨some 108, some (106, false), .mov (.s 16)⟩,
    ⟨some 109, some (106, false), .idxA 1 (.s 107) (.s 108)⟩,
    ⟨some 110, some (106, false), .load false 1 (.s 109)⟩,
    ⟨some 111, some (106, false), .mov (.s 2)⟩,
    ⟨some 112, some (106, false), .len (.s 111)⟩,
    ⟨some 113, some (106, false), .bin .geq (.s 110) (.s 112)⟩,
    ⟨some 114, none, .pick (.s 106) (.c (.pure (.bool true))) (.s 113)⟩,
    ⟨some 115, none, .mov (.s 114)⟩,
    ⟨some 116, some (115, false), .mov (.s 2)⟩,
    ⟨some 117, some (115, false), .mov (.s 10)⟩,
    ⟨some 118, some (115, false), .mov (.s 16)⟩,
    ⟨some 119, some (115, false), .idxA 1 (.s 117) (.s 118)⟩,
    ⟨some 120, some (115, false), .load false 1 (.s 119)⟩,
    ⟨some 121, some (115, false), .idxA 10 (.s 116) (.s 120)⟩,
    ⟨some 122, some (115, false), .fldA 0 (.s 121)⟩,
    ⟨some 123, some (115, false), .load false 1 (.s 122)⟩,
    ⟨some 124, some (115, false), .fldA 0 (.s 9)⟩,
    ⟨some 125, some (115, false), .load false 1 (.s 124)⟩,
    ⟨some 126, some (115, false), .mov (.s 16)⟩,
    ⟨some 127, some (115, false), .bin .sub (.s 126) (.c (.pure (.int .i64 1)))⟩,
    ⟨some 128, some (115, false), .idxA 1 (.s 125) (.s 127)⟩,
    ⟨some 129, some (115, false), .load false 1 (.s 128)⟩,
    ⟨some 130, some (115, false), .bin .neq (.s 123) (.s 129)⟩,
    ⟨some 131, none, .pick (.s 115) (.c (.pure (.bool true))) (.s 130)⟩,
    ⟨some 132, none, .mov (.s 131)⟩,
    ⟨some 133, some (132, false), .fldA 1 (.s 5)⟩,
    ⟨some 134, some (132, false), .load false 1 (.s 133)⟩,
    ⟨some 135, some (132, false), .bin .eql (.s 134) (.c (.pure (.int .i64 0)))⟩,
    ⟨some 136, some (132, false), .mov (.s 135)⟩,
    ⟨some 137, some (136, true), .mov (.s 10)⟩,
    ⟨some 138, some (136, true), .mov (.s 16)⟩,
    ⟨some 139, some (136, true), .idxA 1 (.s 137) (.s 138)⟩,
    ⟨some 140, some (136, true), .load false 1 (.s 139)⟩,
    ⟨some 141, some (136, true), .mov (.s 3)⟩,
    ⟨some 142, some (136, true), .mov (.s 16)⟩,
    ⟨some 143, some (136, true), .bin .add (.s 141) (.s 142)⟩]
    [⟨some 144, some (136, true), .bin .neq (.s 140) (.s 143)⟩,
    ⟨some 145, some (132, false), .pick (.s 136) (.s 144) (.c (.pure (.bool false)))⟩,
    ⟨some 146, none, .pick (.s 132) (.c (.pure (.bool true))) (.s 145)⟩])
  (.cond (.s 146)
  (.seq (.reg [⟨some 8, none, .mov (.c (.pure (.bool false)))⟩])
  .ret)
  .skip)))
  (.reg [⟨some 94, none, .mov (.s 16)⟩,
    ⟨some 95, none, .bin .add (.s 94) (.c (.pure (.int .i64 1)))⟩,
    ⟨some 16, none, .mov (.s 95)⟩])))
def c11 : AC :=
  (.seq (.reg [⟨some 4, none, .box (.s 0)⟩,
    ⟨some 5, none, .box (.s 1)⟩,
    ⟨some 8, none, .mov (.c (.pure (.bool false)))⟩])
  (.seq (.seq (.reg [⟨some 22, none, .load true 4 (.s 5)⟩,
    ⟨some 23, none, .mov (.s 2)⟩,
    ⟨some 24, none, .call 32 [(.s 22), (.s 23)]⟩,
    ⟨some 25, none, .un .not (.s 24)⟩])
  (.cond (.s 25)
  (.seq (.reg [⟨some 26, none, .call 33 []⟩,
    ⟨some 8, none, .mov (.s 26)⟩])
  .ret)
  .skip))
  (.seq (.reg [⟨some 28, none, .load true 6 (.s 4)⟩,
    ⟨some 29, none, .load true 4 (.s 5)⟩,
    ⟨some 30, none, .mov (.s 2)⟩,
    ⟨some 31, none, .mov (.s 3)⟩,
    ⟨some 32, none, .call 34 [(.s 28), (.s 29), (.s 30), (.s 31)]⟩,
    ⟨some 27, none, .mov (.s 32)⟩,
    ⟨some 33, none, .ext 0 (.s 27)⟩,
    ⟨some 34, none, .ext 1 (.s 27)⟩,
    ⟨some 35, none, .ext 2 (.s 27)⟩,
    ⟨some 9, none, .box (.c (.agg [.empty, (.pure (.int .i64 0))]))⟩,
    ⟨none, none, .store 2 (.s 9) (.s 33)⟩,
    ⟨some 10, none, .mov (.s 34)⟩,
    ⟨some 11, none, .mov (.s 35)⟩])
  (.seq (.reg [⟨some 37, none, .load true 6 (.s 4)⟩,
    ⟨some 38, none, .load true 4 (.s 5)⟩,
    ⟨some 39, none, .mov (.s 2)⟩,
    ⟨some 40, none, .mov (.s 3)⟩,
    ⟨some 41, none, .call 38 [(.s 37), (.s 38), (.s 39), (.s 40)]⟩,
    ⟨some 36, none, .mov (.s 41)⟩,
    ⟨some 42, none, .ext 0 (.s 36)⟩,
    ⟨some 43, none, .ext 1 (.s 36)⟩,
    ⟨some 44, none, .ext 2 (.s 36)⟩,
    ⟨some 12, none, .mov (.s 42)⟩,
    ⟨some 13, none, .mov (.s 43)⟩,
    ⟨some 14, none, .mov (.s 44)⟩])
  (.seq (.seq (.reg [⟨some 45, none, .mov (.s 11)⟩,
    ⟨some 46, none, .mov (.s 14)⟩,
    ⟨some 47, none, .eqb true (.s 45) (.s 46)⟩])
  (.cond (.s 47)
  (.seq (.reg [⟨some 8, none, .mov (.c (.pure (.bool false)))⟩])
  .ret)
  .skip))
  (.seq (.seq (.reg [⟨some 48, none, .mov (.s 11)⟩,
    ⟨some 49, none, .un .not (.s 48)⟩])
  (.cond (.s 49)
  (.seq (.reg [⟨some 50, none, .mov (.s 12)⟩,
    ⟨some 51, none, .len (.s 50)⟩,
    ⟨some 52, none, .bin .eql (.s 51) (.c (.pure (.int .i64 0)))⟩,
    ⟨some 53, none, .mov (.s 52)⟩,
    ⟨some 54, some (53, true), .mov (.s 13)⟩,
    ⟨some 55, some (53, true), .bin .eql (.s 54) (.c (.pure (.int .i64 0)))⟩,
    ⟨some 56, none, .pick (.s 53) (.s 55) (.c (.pure (.bool false)))⟩,
    ⟨some 57, none, .mov (.s 56)⟩,
    ⟨some 58, some (57, true), .mov (.s 10)⟩,
    ⟨some 59, some (57, true), .len (.s 58)⟩,
    ⟨some 60, some (57, true), .bin .eql (.s 59) (.c (.pure (.int .i64 0)))⟩,
    ⟨some 61, none, .pick (.s 57) (.s 60) (.c (.pure (.bool false)))⟩,
    ⟨some 62, none, .mov (.s 61)⟩,
    ⟨some 63, some (62, true), .call 33 []⟩,
    ⟨some 64, none, .pick (.s 62) (.s 63) (.c (.pure (.bool false)))⟩,
    ⟨some 8, none, .mov (.s 64)⟩])
  .ret)
  .skip))
  (.seq (.reg [⟨some 65, none, .mov (.s 10)⟩,
    ⟨some 66, none, .len (.s 65)⟩,
    ⟨some 15, none, .mov (.s 66)⟩])
  (.seq (.seq (.reg [⟨some 67, none, .mov (.s 15)⟩,
    ⟨some 68, none, .fldA 0 (.s 9)⟩,
    ⟨some 69, none, .load false 1 (.s 68)⟩,
    ⟨some 70, none, .len (.s 69)⟩,
    ⟨some 71, none, .bin .add (.s 70) (.c (.pure (.int .i64 1)))⟩,
    ⟨some 72, none, .bin .neq (.s 67) (.s 71)⟩,
    ⟨some 73, none, .mov (.s 72)⟩,
    ⟨some 74, some (73, false), .mov (.s 10)⟩,
    ⟨some 75, some (73, false), .idxA 1 (.s 74) (.c (.pure (.int .i64 0)))⟩,
    ⟨some 76, some (73, false), .load false 1 (.s 75)⟩,
    ⟨some 77, some (73, false), .mov (.s 3)⟩,
    ⟨some 78, some (73, false), .bin .neq (.s 76) (.s 77)⟩,
    ⟨some 79, none, .pick (.s 73) (.c (.pure (.bool true))) (.s 78)⟩,
    ⟨some 80, none, .mov (.s 79)⟩,
    ⟨some 81, some (80, false), .mov (.s 12)⟩,
    ⟨some 82, some (80, false), .len (.s 81)⟩,
    ⟨some 83, some (80, false), .mov (.s 2)⟩,
    ⟨some 84, some (80, false), .len (.s 83)⟩,
    ⟨some 85, some (80, false), .fldA 0 (.s 9)⟩,
    ⟨some 86, some (80, false), .load false 1 (.s 85)⟩,
    ⟨some 87, some (80, false), .len (.s 86)⟩,
    ⟨some 88, some (80, false), .bin .sub (.s 84) (.s 87)⟩,
    ⟨some 89, some (80, false), .bin .neq (.s 82) (.s 88)⟩,
    ⟨some 90, none, .pick (.s 80) (.c (.pure (.bool true))) (.s 89)⟩])
  (.cond (.s 90)
  (.seq (.reg [⟨some 8, none, .mov (.c (.pure (.bool false)))⟩])
  .ret)
  .skip))
  (.seq (.seq (.reg [⟨some 16, none, .mov (.c (.pure (.int .i64 1)))⟩])
  (.block 0
  (.loop c11_7)))
  c11_6)))))))))
theorem k11 : (Try.f11.body.bind fun c => cCode Try.prog Try.f11.ntmps RCs c) = some c11 := by kernel_rfl
theorem h11 : (Try.f11.name == "runtime.NumGoroutine") = false := by kernel_rfl
theorem r11 : resC Try.prog Try.f11.results.toList = some [.t 8] := by kernel_rfl
theorem a11 {args : List S} {H : Heap} {K : S → Heap → Prop} (hn : args.length ≤ 235) (h : aWx Try.prog H.length c11 (PostX [.t 8] K) (argEnv 0 args) H) : CallA Try.prog 11 args H K :=
  callA_of_x mixed Try.func11 h11 k11 r11 (by rw [Try.ntmps11]; exact hn) h
theorem q11 {vs ds : List V} (hn : vs.length ≤ 235) (h : aWx Try.prog 0 c11 (PostX [.t 8] (Gives ds)) (argEnv 0 (vs.map .pure)) []) : FnQ Try.prog 11 vs ds :=
  fnQ_of_call (a11 (by simpa using hn) h)

theorem glAt_id {m ls : List Gl} (h : m.map (·.id) = ls.map (·.id)) {j : Nat} (hj : j < ls.length) : (glAt m (j : Int)).id = (glAt ls (j : Int)).id := by
  have hl : m.length = ls.length := by simpa using congrArg List.length h
  have h1 := congrArg (fun l => l[j]?) h
  simp only [List.getElem?_map] at h1
  rw [glAt_nat hj, glAt_nat (by omega)] at h1
  exact Option.some.inj h1
theorem glAt_of {r : List Gl} {j : Nat} {g : Gl} (h : r[j]? = some g) : glAt r (j : Int) = g := by
  rw [glAt, Int.toNat_natCast, h]; rfl
structure Kept (k : Lk) (ls : List Gl) (x e : Nat) (y : Lg) (ps : List Int) (tot r : List Gl) : Prop where
  one : tot.length + y.parts.length = e
  lt : x < tot.length
  len : r.length + y.parts.length = ls.length
  own : (glAt r (x : Int)).id = y.gid
  lo : ∀ j : Nat, j < x → (glAt r (j : Int)).id = (glAt ls (j : Int)).id
  hi : ∀ j : Nat, e ≤ j → j < ls.length → (glAt r ((j - y.parts.length : Nat) : Int)).id = (glAt ls (j : Int)).id
  right : (∀ g ∈ ls, g.to = -1 ∧ g.hang = -1) → rightF ls = true → rightF r = true
theorem kept_of {f : Fo} {k : Lk} {ls : List Gl} {x e : Nat} {y : Lg} {ps : List Int} {num : Int} (h : FindIn f k ls (x : Int) y ps) (he : lastL ps + 1 = (e : Int)) :
    Kept k ls x e y ps (headL (mergeF ls x e) y ps num x e) (headL (mergeF ls x e) y ps num x e ++ (mergeF ls x e).drop e) := by
  obtain ⟨hla, hlx, hll⟩ := h.last
  have hm : (mergeF ls x e).length = ls.length := mergeF_len
  have hid : (mergeF ls x e).map (·.id) = ls.map (·.id) := mergeF_map (fun _ _ => rfl)
  have hsort : SortC ls → SortC (mergeF ls x e) := fun hs => mergeF_sort hs
  have hall : (∀ g ∈ ls, g.to = -1 ∧ g.hang = -1) → ∀ g ∈ mergeF ls x e, g.to = -1 ∧ g.hang = -1 := fun ha => mergeF_all (P := fun p => p.1 = -1 ∧ p.2 = -1) ha
  have hone := headL_len (num := num) (m := mergeF ls x e) h he hm
  generalize mergeF ls x e = m at *
  have hxl : x < ls.length := by omega
  have e1 : ∀ j, j < x → (headL m y ps num x e ++ m.drop e)[j]? = some (glAt m (j : Int)) := fun j hj => by
    rw [headL, List.append_assoc, List.append_assoc, List.getElem?_append_left (by simp; omega), List.getElem?_take_of_lt hj, glAt_nat (by omega)]
  have e2 : (headL m y ps num x e ++ m.drop e)[x]? = some (ligG y m x num) := by
    rw [headL, List.append_assoc, List.append_assoc, List.getElem?_append_right (by simp; omega), List.length_take, show x - min x m.length = 0 by omega]
    rfl
  have e3 : ∀ j, e ≤ j → j < ls.length → (headL m y ps num x e ++ m.drop e)[j - y.parts.length]? = some (glAt m (j : Int)) := fun j hj hl => by
    rw [List.getElem?_append_right (by omega), List.getElem?_drop, show e + (j - y.parts.length - (headL m y ps num x e).length) = j by omega, glAt_nat (by omega)]
  refine ⟨hone, by rw [headL]; simp; omega, by simp; omega, ?_, fun j hj => ?_, fun j hj hl => ?_, fun ha hr => ?_⟩
  · rw [glAt_of e2]; rfl
  · rw [glAt_of (e1 j hj)]; exact glAt_id hid (by omega)
  · rw [glAt_of (e3 j hj hl)]; exact glAt_id hid hl
  · exact headL_right (by omega) (by omega) (hsort (rightF_sort hr)) (hall ha)
theorem lkp_law (f : Fo) (k : Lk) (ls : List Gl) (x : Int) : FnQ Try.prog 11 [fo f, lk k, .sl (ls.map gl), I x] [.bool true] := by
  refine q11 (by simp) ?_
  unfold c11
  have hlt := @lightL_of k ls
  simp -implicitDefEqProofs only [vmp,↓vmd,seval]
  refine onC_q (light28_q k ls) rfl ?_
  generalize lightL k ls = b at hlt
  first | refine envO (by simp -implicitDefEqProofs only [vmp,↓vmd,seval]; rfl) ?_ | refine envQ (by simp -implicitDefEqProofs only [vmp,↓vmd,seval]; rfl) ?_
  simp -implicitDefEqProofs only [vmp,↓vmd,seval]
  cases b with
  | false =>
    simp -implicitDefEqProofs only [vmp,↓vmd,seval]
    refine onC_q alive28l_q rfl ?_
    first | refine envO (by simp -implicitDefEqProofs only [vmp,↓vmd,seval]; rfl) ?_ | refine envQ (by simp -implicitDefEqProofs only [vmp,↓vmd,seval]; rfl) ?_
    simp -implicitDefEqProofs only [vmp,↓vmd,seval]
    exact gives_pure
  | true =>
    have hL := hlt rfl
    have hlen := hL.len
    simp -implicitDefEqProofs only [vmp,↓vmd,seval]
    have h1 := find_q f k hL.small ls (by omega) x
    have h2 := apply28_q f k hL.small ls hL.len hL.lig x
    have hin : ∀ y ps, findF f k ls x = some (y, ps) → FindIn f k ls x y ps := fun y ps h => findF_in h
    have ha : applyL f k ls x = match findF f k ls x with
      | none => none
      | some q => some (headL (mergeF ls x (lastL q.2 + 1)) q.1 q.2 (maxG 0 ls + 1) x.toNat (lastL q.2 + 1).toNat ++ (mergeF ls x (lastL q.2 + 1)).drop (lastL q.2 + 1).toNat,
        ((headL (mergeF ls x (lastL q.2 + 1)) q.1 q.2 (maxG 0 ls + 1) x.toNat (lastL q.2 + 1).toNat).length : Int)) := rfl
    rw [ha] at h2
    generalize findF f k ls x = o at *
    refine onC_q h1 rfl ?_
    cases o with
    | none =>
      simp only at h2
      first | refine envO (by simp -implicitDefEqProofs only [vmp,↓vmd,seval]; rfl) ?_ | refine envQ (by simp -implicitDefEqProofs only [vmp,↓vmd,seval]; rfl) ?_
      simp -implicitDefEqProofs only [findR, Option.map_none, Option.getD_none, Option.isSome_none, vmp,↓vmd,seval]
      refine onC_q h2 rfl ?_
      first | refine envO (by simp -implicitDefEqProofs only [vmp,↓vmd,seval]; rfl) ?_ | refine envQ (by simp -implicitDefEqProofs only [vmp,↓vmd,seval]; rfl) ?_
      simp -implicitDefEqProofs only [apR, Option.map_none, Option.getD_none, Option.isSome_none, vmp,↓vmd,seval]
      refine onC_q alive28l_q rfl ?_
      first | refine envO (by simp -implicitDefEqProofs only [vmp,↓vmd,seval]; rfl) ?_ | refine envQ (by simp -implicitDefEqProofs only [vmp,↓vmd,seval]; rfl) ?_
      simp -implicitDefEqProofs only [vmp,↓vmd,seval]
      exact gives_pure
    | some q =>
      obtain ⟨y, ps⟩ := q
      simp only at h2
      have h := hin y ps rfl
      have x0 := h.x0
      have x1 := h.x1
      have hpos := h.pos
      have hcnt := h.cnt
      have hsm := h.small hL.small
      have hzero := h.zero
      obtain ⟨hla, hlx, hll⟩ := h.last
      obtain ⟨e, he⟩ : ∃ n : Nat, lastL ps + 1 = (n : Int) := ⟨(lastL ps + 1).toNat, by omega⟩
      obtain ⟨x, rfl⟩ : ∃ n : Nat, x = n := ⟨x.toNat, by omega⟩
      rw [he, Int.toNat_natCast, Int.toNat_natCast] at h2
      have hk := kept_of (num := maxG 0 ls + 1) h he
      generalize headL (mergeF ls x e) y ps (maxG 0 ls + 1) x e = tot at *
      generalize tot ++ (mergeF ls x e).drop e = r at *
      have k1 := hk.one
      have k2 := hk.len
      have k3 := hk.lt
      first | refine envO (by simp -implicitDefEqProofs only [vmp,↓vmd,seval]; rfl) ?_ | refine envQ (by simp -implicitDefEqProofs only [vmp,↓vmd,seval]; rfl) ?_
      simp -implicitDefEqProofs only [findR, Option.map_some, Option.getD_some, Option.isSome_some, vmp,↓vmd,seval]
      refine onC_q h2 rfl ?_
      first | refine envO (by simp -implicitDefEqProofs only [vmp,↓vmd,seval]; rfl) ?_ | refine envQ (by simp -implicitDefEqProofs only [vmp,↓vmd,seval]; rfl) ?_
      simp -implicitDefEqProofs only [apR, Option.map_some, Option.getD_some, Option.isSome_some, vmp,↓vmd,seval]
      have hw1 : IntKind.wrap .i64 ((y.parts.length : Int) + 1) = (ps.length : Int) := by rw [wrap_id (by omega) (by omega)]; omega
      have hw2 : IntKind.wrap .i64 ((ls.length : Int) - (y.parts.length : Int)) = (r.length : Int) := by rw [wrap_id (by omega) (by omega)]; omega
      have hg0 : (ps.map I)[0]? = some (I (x : Int)) := by rw [List.getElem?_map, hzero]; rfl
      refine onIf_intro fun _ => ?_
      first | refine envO (by simp -implicitDefEqProofs only [vmp,↓vmd,seval]; rfl) ?_ | refine envQ (by simp -implicitDefEqProofs only [vmp,↓vmd,seval]; rfl) ?_
      simp -implicitDefEqProofs only [vmp,↓vmd,seval]
      refine onIf_intro fun _ => ?_
      first | refine envO (by simp -implicitDefEqProofs only [hw1, vmp,↓vmd,seval]; rfl) ?_ | refine envQ (by simp -implicitDefEqProofs only [hw1, vmp,↓vmd,seval]; rfl) ?_
      simp -implicitDefEqProofs only [hw1, hg0, vmp,↓vmd,seval]
      refine onIf_intro fun _ => ?_
      first | refine envO (by simp -implicitDefEqProofs only [hw1, vmp,↓vmd,seval]; rfl) ?_ | refine envQ (by simp -implicitDefEqProofs only [hw1, vmp,↓vmd,seval]; rfl) ?_
      simp -implicitDefEqProofs only [vmp,↓vmd,seval]
      refine onIf_intro fun _ => ?_
      first | refine envO (by simp -implicitDefEqProofs only [vmp,↓vmd,seval]; rfl) ?_ | refine envQ (by simp -implicitDefEqProofs only [vmp,↓vmd,seval]; rfl) ?_
      simp -implicitDefEqProofs only [vmp,↓vmd,seval]
      refine onIf_intro fun _ => ?_
      first | refine envO (by simp -implicitDefEqProofs only [hw2, vmp,↓vmd,seval]; rfl) ?_ | refine envQ (by simp -implicitDefEqProofs only [hw2, vmp,↓vmd,seval]; rfl) ?_
      simp -implicitDefEqProofs only [hw2, vmp,↓vmd,seval]
      refine loop_at (T := Nat) (fun i => [(16, .pure (I (i : Int))), (15, .pure (I ps.length)), (10, .pure (LI ps)), (2, .pure (.sl (ls.map gl))), (3, .pure (I (x : Int))), (12, .pure (.sl (r.map gl))), (13, .pure (I tot.length)), (5, .ptr 0 0 0), (9, .ptr 1 0 0)])
        (fun _ => [⟨[.pure (lk k)], 4, .live⟩, ⟨[.pure (lg y)], 2, .live⟩]) (fun i => 1 ≤ i ∧ i ≤ ps.length) (fun i => ps.length - i)
        1 [1, 2] (by simp) rfl ⟨Nat.le_refl _, by omega⟩ (by simp -implicitDefEqProofs only [kpp,seval]) (by simp -implicitDefEqProofs only [kpp,seval]) ?_
      rintro i ⟨i1, i2⟩
      unfold c11_7
      simp -implicitDefEqProofs only [vmp,↓vmd,seval]
      refine onB_dec (fun h3 => ?_) (fun h3 => ?_)
      · have hlt : i < ps.length := by omega
        obtain ⟨j, rfl⟩ : ∃ j, i = j + 1 := ⟨i - 1, by omega⟩
        have hgb : (ps.map I)[j + 1]? = some (I ps[j + 1]) := map_at hlt
        have hga : (ps.map I)[j]? = some (I ps[j]) := map_at (by omega)
        have hqb : ps[j + 1]? = some ps[j + 1] := List.getElem?_eq_getElem hlt
        have hqa : ps[j]? = some ps[j] := List.getElem?_eq_getElem (by omega)
        have hab := h.lt (show j < j + 1 by omega) hqa hqb
        obtain ⟨b0, b1⟩ := h.inn _ (List.mem_of_getElem? hqb)
        have hpt := h.part hqb
        have hfl := fun e => h.flat (z := ps[j + 1]) (j := j + 1) e hqb
        generalize ps[j + 1] = b at *
        generalize ps[j] = a at *
        have hw : IntKind.wrap .i64 (((j + 1 : Nat) : Int) - 1) = (j : Int) := by rw [wrap_id (by omega) (by omega)]; omega
        have hgl := glAt_map (ls := ls) (y := b) b0 b1
        have hgp : (y.parts.map I)[j]? = some (I (glAt ls b).id) := by rw [List.getElem?_map, hpt]; rfl
        have n1 : ¬ b ≤ a := by omega
        have n2 : ¬ (ls.length : Int) ≤ b := by omega
        simp -implicitDefEqProofs only [h3, hw, hga, hgb, Int.natCast_nonneg, Int.toNat_natCast, vmp,↓vmd,seval]
        refine onB_neg n1 ?_
        first | refine envO (by simp -implicitDefEqProofs only [n1, vmp,↓vmd,seval]; rfl) ?_ | refine envQ (by simp -implicitDefEqProofs only [n1, vmp,↓vmd,seval]; rfl) ?_
        simp -implicitDefEqProofs only [hgb, Int.natCast_nonneg, Int.toNat_natCast, vmp,↓vmd,seval]
        refine onB_neg n2 ?_
        first | refine envO (by simp -implicitDefEqProofs only [n2, vmp,↓vmd,seval]; rfl) ?_ | refine envQ (by simp -implicitDefEqProofs only [n2, vmp,↓vmd,seval]; rfl) ?_
        simp -implicitDefEqProofs only [hw, hgb, hgl, b0, hgp, Int.natCast_nonneg, Int.toNat_natCast, vmp,↓vmd,seval]
        by_cases h0 : k.flags = 0
        · have hf := hfl h0
          have hwx : IntKind.wrap .i64 ((x : Int) + ((j + 1 : Nat) : Int)) = b := by rw [wrap_id (by omega) (by omega)]; omega
          refine onB_pos h0 ?_
          first | refine envO (by simp -implicitDefEqProofs only [h0, vmp,↓vmd,seval]; rfl) ?_ | refine envQ (by simp -implicitDefEqProofs only [h0, vmp,↓vmd,seval]; rfl) ?_
          simp -implicitDefEqProofs only [hwx, hgb, Int.natCast_nonneg, Int.toNat_natCast, vmp,↓vmd,seval]
          refine onBk_to (j + 1 + 1) [0, 1] (by simp) rfl (by omega) ⟨by omega, hlt⟩ (by simp -implicitDefEqProofs only [next_at hlt (by omega), kpp,seval]) (by simp -implicitDefEqProofs only [kpp,seval])
        · refine onB_neg h0 ?_
          first | refine envO (by simp -implicitDefEqProofs only [h0, vmp,↓vmd,seval]; rfl) ?_ | refine envQ (by simp -implicitDefEqProofs only [h0, vmp,↓vmd,seval]; rfl) ?_
          simp -implicitDefEqProofs only [vmp,↓vmd,seval]
          refine onBk_to (j + 1 + 1) [0, 1] (by simp) rfl (by omega) ⟨by omega, hlt⟩ (by simp -implicitDefEqProofs only [next_at hlt (by omega), kpp,seval]) (by simp -implicitDefEqProofs only [kpp,seval])
      · simp -implicitDefEqProofs only [h3, vmp,↓vmd,seval]
        unfold c11_6
        have hw3 : IntKind.wrap .i64 ((ps.length : Int) - 1) = (ps.length : Int) - 1 := wrap_id (by omega) (by omega)
        have z1 : 0 ≤ (ps.length : Int) - 1 := by omega
        have hgl : (ps.map I)[((ps.length : Int) - 1).toNat]? = some (I (lastL ps)) := by
          rw [show ((ps.length : Int) - 1).toNat = ps.length - 1 by omega, List.getElem?_map, hla]; rfl
        have hw4 : IntKind.wrap .i64 (lastL ps + 1) = (e : Int) := by rw [wrap_id (by omega) (by omega), he]
        have hw5 : IntKind.wrap .i64 ((e : Int) - (y.parts.length : Int)) = (tot.length : Int) := by rw [wrap_id (by omega) (by omega)]; omega
        have hgx : (r.map gl)[x]? = some (gl (glAt r (x : Int))) := by
          have := glAt_map (ls := r) (y := (x : Int)) (by omega) (by omega)
          simpa using this
        have hox := hk.own
        simp -implicitDefEqProofs only [hw3, z1, hgl, hw4, hw5, hgx, hox, Int.natCast_nonneg, Int.toNat_natCast, vmp,↓vmd,seval]
        refine loop_at (T := Nat) (fun i => [(18, .pure (I (i : Int))), (2, .pure (.sl (ls.map gl))), (3, .pure (I (x : Int))), (12, .pure (.sl (r.map gl))), (17, .pure (I (lastL ps))), (9, .ptr 0 0 0)])
          (fun _ => [⟨[.pure (lg y)], 2, .live⟩]) (fun i => i ≤ x) (fun i => x - i)
          0 [1] (by simp) rfl (by simp) (by simp -implicitDefEqProofs only [kpp,seval]) (by simp -implicitDefEqProofs only [kpp,seval]) ?_
        intro i hi
        unfold c11_5
        simp -implicitDefEqProofs only [vmp,↓vmd,seval]
        refine onB_dec (fun h4 => ?_) (fun h4 => ?_)
        · have hlt : i < x := by omega
          have hgr : (r.map gl)[i]? = some (gl (glAt r (i : Int))) := by
            have := glAt_map (ls := r) (y := (i : Int)) (by omega) (by omega)
            simpa using this
          have hgs : (ls.map gl)[i]? = some (gl (glAt ls (i : Int))) := by
            have := glAt_map (ls := ls) (y := (i : Int)) (by omega) (by omega)
            simpa using this
          have hid := hk.lo i hlt
          simp -implicitDefEqProofs only [h4, hgr, hgs, hid, Int.natCast_nonneg, Int.toNat_natCast, vmp,↓vmd,seval]
          refine onBk_to (i + 1) [0] (by simp) rfl (by omega) hlt (by simp -implicitDefEqProofs only [next_at hlt (by omega), kpp,seval]) (by simp -implicitDefEqProofs only [kpp,seval])
        simp -implicitDefEqProofs only [h4, vmp,↓vmd,seval]
        unfold c11_4
        simp -implicitDefEqProofs only [hw4, vmp,↓vmd,seval]
        refine loop_at (T := Nat) (fun i => [(19, .pure (I (i : Int))), (2, .pure (.sl (ls.map gl))), (12, .pure (.sl (r.map gl))), (9, .ptr 0 0 0)])
          (fun _ => [⟨[.pure (lg y)], 2, .live⟩]) (fun i => e ≤ i ∧ i ≤ ls.length) (fun i => ls.length - i)
          e [0] (by simp) rfl ⟨Nat.le_refl _, by omega⟩ (by simp -implicitDefEqProofs only [kpp,seval]) (by simp -implicitDefEqProofs only [kpp,seval]) ?_
        rintro i ⟨i1, i2⟩
        unfold c11_3
        simp -implicitDefEqProofs only [vmp,↓vmd,seval]
        refine onIf_intro fun _ => ?_
        first | refine envO (by simp -implicitDefEqProofs only [vmp,↓vmd,seval]; rfl) ?_ | refine envQ (by simp -implicitDefEqProofs only [vmp,↓vmd,seval]; rfl) ?_
        simp -implicitDefEqProofs only [vmp,↓vmd,seval]
        refine onB_dec (fun h5 => ?_) (fun h5 => ?_)
        · have hlt : i < ls.length := by omega
          have hwi : IntKind.wrap .i64 ((i : Int) - (y.parts.length : Int)) = ((i - y.parts.length : Nat) : Int) := by rw [wrap_id (by omega) (by omega)]; omega
          have hgr : (r.map gl)[i - y.parts.length]? = some (gl (glAt r ((i - y.parts.length : Nat) : Int))) := by
            have := glAt_map (ls := r) (y := ((i - y.parts.length : Nat) : Int)) (by omega) (by omega)
            rw [Int.toNat_natCast] at this
            exact this
          have hgs : (ls.map gl)[i]? = some (gl (glAt ls (i : Int))) := by
            have := glAt_map (ls := ls) (y := (i : Int)) (by omega) (by omega)
            simpa using this
          have hid := hk.hi i i1 hlt
          simp -implicitDefEqProofs only [h5, hwi, hgr, hgs, hid, Int.natCast_nonneg, Int.toNat_natCast, vmp,↓vmd,seval]
          refine onBk_to (i + 1) [0] (by simp) rfl (by omega) ⟨by omega, hlt⟩ (by simp -implicitDefEqProofs only [next_at hlt (by omega), kpp,seval]) (by simp -implicitDefEqProofs only [kpp,seval])
        simp -implicitDefEqProofs only [h5, vmp,↓vmd,seval]
        unfold c11_2
        simp -implicitDefEqProofs only [vmp,↓vmd,seval]
        refine onIf_intro fun _ => ?_
        first | refine envO (by simp -implicitDefEqProofs only [vmp,↓vmd,seval]; rfl) ?_ | refine envQ (by simp -implicitDefEqProofs only [vmp,↓vmd,seval]; rfl) ?_
        simp -implicitDefEqProofs only [vmp,↓vmd,seval]
        refine loop_at (T := Nat) (fun i => [(211, .pure (I (i : Int))), (210, .pure (I ls.length)), (209, .pure (.sl (ls.map gl))), (2, .pure (.sl (ls.map gl))), (12, .pure (.sl (r.map gl)))])
          (fun _ => []) (fun i => i ≤ ls.length ∧ ∀ j (h : j < i) (hj : j < ls.length), ls[j].to = -1 ∧ ls[j].hang = -1) (fun i => ls.length - i)
          0 [] (by simp) rfl ⟨by simp, fun j h => by omega⟩ (by simp -implicitDefEqProofs only [kpp,seval]) (by simp -implicitDefEqProofs only [kpp,seval]) ?_
        rintro i ⟨i1, hall⟩
        unfold c11_1
        simp -implicitDefEqProofs only [vmp,↓vmd,seval]
        refine onB_dec (fun h6 => ?_) (fun h6 => ?_)
        · have hlt : i < ls.length := by omega
          have hgi : (ls.map gl)[i]? = some (gl ls[i]) := map_at hlt
          have hstep : ls[i].to = -1 → ls[i].hang = -1 → ∀ j (h : j < i + 1) (hj : j < ls.length), ls[j].to = -1 ∧ ls[j].hang = -1 := fun a b j hj hl => by
            by_cases hc : j = i
            · subst hc; exact ⟨a, b⟩
            · exact hall j (by omega) hl
          generalize ls[i] = g at hgi hstep
          simp -implicitDefEqProofs only [h6, hgi, Int.natCast_nonneg, vmp,↓vmd,seval]
          by_cases g1 : g.to = -1
          · simp -implicitDefEqProofs only [g1, vmp,↓vmd,seval]
            by_cases g2 : g.hang = -1
            · simp -implicitDefEqProofs only [g2, vmp,↓vmd,seval]
              refine onBk_to (i + 1) [] (by simp) rfl (by omega) ⟨hlt, hstep g1 g2⟩ (by simp -implicitDefEqProofs only [next_at hlt (by omega), kpp,seval]) (by simp -implicitDefEqProofs only [kpp,seval])
            · simp -implicitDefEqProofs only [g2, vmp,↓vmd,seval]
              refine onC_q alive28l_q rfl ?_
              first | refine envO (by simp -implicitDefEqProofs only [vmp,↓vmd,seval]; rfl) ?_ | refine envQ (by simp -implicitDefEqProofs only [vmp,↓vmd,seval]; rfl) ?_
              simp -implicitDefEqProofs only [vmp,↓vmd,seval]
              exact gives_pure
          · simp -implicitDefEqProofs only [g1, vmp,↓vmd,seval]
            refine onC_q alive28l_q rfl ?_
            first | refine envO (by simp -implicitDefEqProofs only [vmp,↓vmd,seval]; rfl) ?_ | refine envQ (by simp -implicitDefEqProofs only [vmp,↓vmd,seval]; rfl) ?_
            simp -implicitDefEqProofs only [vmp,↓vmd,seval]
            exact gives_pure
        simp -implicitDefEqProofs only [h6, vmp,↓vmd,seval]
        unfold c11_0
        have hright := hk.right (fun g hg => by
          obtain ⟨j, hj, rfl⟩ := List.getElem_of_mem hg
          exact hall j (by omega) hj)
        simp -implicitDefEqProofs only [vmp,↓vmd,seval]
        refine onC_q (right_q ls (by omega)) rfl ?_
        generalize rightF ls = b1 at hright
        cases b1 with
        | false =>
          first | refine envO (by simp -implicitDefEqProofs only [vmp,↓vmd,seval]; rfl) ?_ | refine envQ (by simp -implicitDefEqProofs only [vmp,↓vmd,seval]; rfl) ?_
          simp -implicitDefEqProofs only [vmp,↓vmd,seval]
          refine onC_q alive28l_q rfl ?_
          first | refine envO (by simp -implicitDefEqProofs only [vmp,↓vmd,seval]; rfl) ?_ | refine envQ (by simp -implicitDefEqProofs only [vmp,↓vmd,seval]; rfl) ?_
          simp -implicitDefEqProofs only [vmp,↓vmd,seval]
          exact gives_pure
        | true =>
          have h7 := right_q r (by omega)
          rw [hright rfl] at h7
          first | refine envO (by simp -implicitDefEqProofs only [vmp,↓vmd,seval]; rfl) ?_ | refine envQ (by simp -implicitDefEqProofs only [vmp,↓vmd,seval]; rfl) ?_
          simp -implicitDefEqProofs only [vmp,↓vmd,seval]
          refine onC_q h7 rfl ?_
          first | refine envO (by simp -implicitDefEqProofs only [vmp,↓vmd,seval]; rfl) ?_ | refine envQ (by simp -implicitDefEqProofs only [vmp,↓vmd,seval]; rfl) ?_
          simp -implicitDefEqProofs only [vmp,↓vmd,seval]
          refine onC_q alive28l_q rfl ?_
          first | refine envO (by simp -implicitDefEqProofs only [vmp,↓vmd,seval]; rfl) ?_ | refine envQ (by simp -implicitDefEqProofs only [vmp,↓vmd,seval]; rfl) ?_
          simp -implicitDefEqProofs only [vmp,↓vmd,seval]
          exact gives_pure
theorem lkp_all (vs : List V) (h : OkTs Try.prog Try.f11.params.toList vs) : FnQ Try.prog 11 vs [.bool true] := by
  rw [Try.params11] at h
  match vs, h with
  | [x, y, z, u], h =>
    obtain ⟨h1, h2, h3, h4, _⟩ := h
    obtain ⟨f, rfl⟩ := font_of h1
    obtain ⟨k, rfl⟩ := lookup_of' h2
    obtain ⟨l, rfl, _⟩ := gls_of (cell_of (h3 _ _ _ ty_glyphs))
    obtain ⟨n, rfl, _⟩ := int_of' h4
    exact lkp_law f k l n
end Go.Proofs.Ytbllbkhkmngclaa.W
