/-
  What a font may be: the document's functions, of glyphs, maps and tables. No condition.
-/
import Derived.Test.YtcjmkpkhjhjepaaChk1
namespace Go.Proofs.Ytcjmkpkhjhjepaa.W
open Go Go.Vm Go.Proofs
set_option maxRecDepth 100000
set_option linter.unusedSimpArgs false
set_option maxHeartbeats 4000000
/-! typecase/typecaseref21.glyphs -/
def c54_0 : AC :=
 (.seq (.reg [⟨some 2, none, .mov (.c (.pure (.bool true)))⟩])
 .ret)
def c54_1 : AC :=
 (.reg [⟨some 22, none, .mov (.s 3)⟩,
⟨some 23, none, .bin .add (.s 22) (.c (.pure (.int .i64 1)))⟩,
⟨some 3, none, .mov (.s 23)⟩])
def c54_2 : AC :=
 (.seq (.seq (.reg [⟨some 68, none, .mov (.s 5)⟩,
⟨some 69, none, .fldA 3 (.s 4)⟩,
⟨some 70, none, .load false 1 (.s 69)⟩,
⟨some 71, none, .len (.s 70)⟩,
⟨some 72, none, .bin .lss (.s 68) (.s 71)⟩])
 (.cond (.s 72)
 .skip
 (.exit 2)))
 (.seq (.block 3
 (.seq (.reg [⟨some 75, none, .fldA 3 (.s 4)⟩,
⟨some 76, none, .load false 1 (.s 75)⟩,
⟨some 77, none, .mov (.s 5)⟩,
⟨some 78, none, .idxA 1 (.s 76) (.s 77)⟩,
⟨some 79, none, .load false 1 (.s 78)⟩,
⟨some 80, none, .call 76 [(.s 79)]⟩,
⟨some 81, none, .un .not (.s 80)⟩])
 (.cond (.s 81)
 (.seq (.reg [⟨some 2, none, .mov (.c (.pure (.bool false)))⟩])
 .ret)
 .skip)))
 (.reg [⟨some 73, none, .mov (.s 5)⟩,
⟨some 74, none, .bin .add (.s 73) (.c (.pure (.int .i64 1)))⟩,
⟨some 5, none, .mov (.s 74)⟩])))
def c54_3 : AC :=
 (.seq (.seq (.reg [⟨some 17, none, .mov (.s 3)⟩,
⟨some 18, none, .fldA 1 (.s 1)⟩,
⟨some 19, none, .load false 1 (.s 18)⟩,
⟨some 20, none, .len (.s 19)⟩,
⟨some 21, none, .bin .lss (.s 17) (.s 20)⟩])
 (.cond (.s 21)
 .skip
 (.exit 0)))
 (.seq (.block 1
 (.seq (.reg [⟨some 24, none, .fldA 1 (.s 1)⟩,
⟨some 25, none, .load false 1 (.s 24)⟩,
⟨some 26, none, .mov (.s 3)⟩,
⟨some 27, none, .idxA 4 (.s 25) (.s 26)⟩,
⟨some 28, none, .load true 4 (.s 27)⟩,
⟨some 4, none, .box (.c (.agg [(.pure (.int .i64 0)), (.pure (.int .i64 0)), (.pure (.int .i64 0)), .empty]))⟩,
⟨none, none, .store 4 (.s 4) (.s 28)⟩])
 (.seq (.seq (.reg [⟨some 29, none, .fldA 0 (.s 4)⟩,
⟨some 30, none, .load false 1 (.s 29)⟩,
⟨some 31, none, .call 76 [(.s 30)]⟩,
⟨some 32, none, .un .not (.s 31)⟩,
⟨some 33, none, .mov (.s 32)⟩,
⟨some 34, some (33, false), .fldA 1 (.s 4)⟩,
⟨some 35, some (33, false), .load false 1 (.s 34)⟩,
⟨some 36, some (33, false), .call 75 [(.s 35), (.c (.pure (.int .i64 0))), (.c (.pure (.int .i64 3)))]⟩,
⟨some 37, some (33, false), .un .not (.s 36)⟩,
⟨some 38, none, .pick (.s 33) (.c (.pure (.bool true))) (.s 37)⟩,
⟨some 39, none, .mov (.s 38)⟩,
⟨some 40, some (39, false), .fldA 2 (.s 4)⟩,
⟨some 41, some (39, false), .load false 1 (.s 40)⟩,
⟨some 42, some (39, false), .call 75 [(.s 41), (.c (.pure (.int .i64 0))), (.c (.pure (.int .i64 255)))]⟩,
⟨some 43, some (39, false), .un .not (.s 42)⟩,
⟨some 44, none, .pick (.s 39) (.c (.pure (.bool true))) (.s 43)⟩,
⟨some 45, none, .mov (.s 44)⟩,
⟨some 46, some (45, false), .fldA 3 (.s 4)⟩,
⟨some 47, some (45, false), .load false 1 (.s 46)⟩,
⟨some 48, some (45, false), .len (.s 47)⟩,
⟨some 49, some (45, false), .bin .gtr (.s 48) (.c (.pure (.int .i64 15)))⟩,
⟨some 50, none, .pick (.s 45) (.c (.pure (.bool true))) (.s 49)⟩,
⟨some 51, none, .mov (.s 50)⟩,
⟨some 52, some (51, false), .fldA 3 (.s 4)⟩,
⟨some 53, some (51, false), .load false 1 (.s 52)⟩,
⟨some 54, some (51, false), .call 77 [(.s 53)]⟩,
⟨some 55, some (51, false), .un .not (.s 54)⟩,
⟨some 56, none, .pick (.s 51) (.c (.pure (.bool true))) (.s 55)⟩,
⟨some 57, none, .mov (.s 56)⟩,
⟨some 58, some (57, false), .fldA 3 (.s 4)⟩,
⟨some 59, some (57, false), .load false 1 (.s 58)⟩,
⟨some 60, some (57, false), .len (.s 59)⟩,
⟨some 61, some (57, false), .bin .gtr (.s 60) (.c (.pure (.int .i64 0)))⟩,
⟨some 62, some (57, false), .mov (.s 61)⟩,
⟨some 63, some (62, true), .fldA 1 (.s 4)⟩,
⟨some 64, some (62, true), .load false 1 (.s 63)⟩,
⟨some 65, some (62, true), .bin .neq (.s 64) (.c (.pure (.int .i64 2)))⟩,
⟨some 66, some (57, false), .pick (.s 62) (.s 65) (.c (.pure (.bool false)))⟩,
⟨some 67, none, .pick (.s 57) (.c (.pure (.bool true))) (.s 66)⟩])
 (.cond (.s 67)
 (.seq (.reg [⟨some 2, none, .mov (.c (.pure (.bool false)))⟩])
 .ret)
 .skip))
 (.seq (.reg [⟨some 5, none, .mov (.c (.pure (.int .i64 0)))⟩])
 (.block 2
 (.loop c54_2))))))
 c54_1))
def c54 : AC :=
 (.seq (.reg [⟨some 1, none, .box (.s 0)⟩,
⟨some 2, none, .mov (.c (.pure (.bool false)))⟩])
 (.seq (.seq (.reg [⟨some 6, none, .fldA 0 (.s 1)⟩,
⟨some 7, none, .load false 1 (.s 6)⟩,
⟨some 8, none, .call 75 [(.s 7), (.c (.pure (.int .i64 1))), (.c (.pure (.int .i64 16384)))]⟩,
⟨some 9, none, .un .not (.s 8)⟩,
⟨some 10, none, .mov (.s 9)⟩,
⟨some 11, some (10, false), .fldA 1 (.s 1)⟩,
⟨some 12, some (10, false), .load false 1 (.s 11)⟩,
⟨some 13, some (10, false), .len (.s 12)⟩,
⟨some 14, some (10, false), .call 75 [(.s 13), (.c (.pure (.int .i64 1))), (.c (.pure (.int .i64 4096)))]⟩,
⟨some 15, some (10, false), .un .not (.s 14)⟩,
⟨some 16, none, .pick (.s 10) (.c (.pure (.bool true))) (.s 15)⟩])
 (.cond (.s 16)
 (.seq (.reg [⟨some 2, none, .mov (.c (.pure (.bool false)))⟩])
 .ret)
 .skip))
 (.seq (.seq (.reg [⟨some 3, none, .mov (.c (.pure (.int .i64 0)))⟩])
 (.block 0
 (.loop c54_3)))
 c54_0)))
theorem k54 : OkF 54 Try.f54 c54 [.t 2] 82 := ⟨Try.func54, by kernel_rfl, by kernel_rfl, by kernel_rfl, Try.ntmps54⟩
/-! typecase/typecaseref21.maps -/
def c55_0 : AC :=
 (.seq (.reg [⟨some 2, none, .mov (.c (.pure (.bool true)))⟩])
 .ret)
def c55_1 : AC :=
 (.seq (.seq (.reg [⟨some 55, none, .mov (.s 5)⟩,
⟨some 56, none, .fldA 5 (.s 1)⟩,
⟨some 57, none, .load false 1 (.s 56)⟩,
⟨some 58, none, .len (.s 57)⟩,
⟨some 59, none, .bin .lss (.s 55) (.s 58)⟩])
 (.cond (.s 59)
 .skip
 (.exit 2)))
 (.seq (.block 3
 (.seq (.regq [⟨some 62, none, .load true 6 (.s 1)⟩,
⟨some 63, none, .fldA 5 (.s 1)⟩,
⟨some 64, none, .load false 1 (.s 63)⟩,
⟨some 65, none, .mov (.s 5)⟩,
⟨some 66, none, .idxA 1 (.s 64) (.s 65)⟩,
⟨some 67, none, .load false 1 (.s 66)⟩]
[⟨some 68, none, .call 80 [(.s 62), (.s 67)]⟩,
⟨some 69, none, .un .not (.s 68)⟩])
 (.cond (.s 69)
 (.seq (.reg [⟨some 2, none, .mov (.c (.pure (.bool false)))⟩])
 .ret)
 .skip)))
 (.reg [⟨some 60, none, .mov (.s 5)⟩,
⟨some 61, none, .bin .add (.s 60) (.c (.pure (.int .i64 1)))⟩,
⟨some 5, none, .mov (.s 61)⟩])))
def c55_2 : AC :=
 (.seq (.seq (.reg [⟨some 5, none, .mov (.c (.pure (.int .i64 0)))⟩])
 (.block 2
 (.loop c55_1)))
 c55_0)
def c55_3 : AC :=
 (.seq (.seq (.reg [⟨some 16, none, .mov (.s 3)⟩,
⟨some 17, none, .fldA 2 (.s 1)⟩,
⟨some 18, none, .load false 1 (.s 17)⟩,
⟨some 19, none, .len (.s 18)⟩,
⟨some 20, none, .bin .lss (.s 16) (.s 19)⟩])
 (.cond (.s 20)
 .skip
 (.exit 0)))
 (.seq (.block 1
 (.seq (.reg [⟨some 23, none, .fldA 2 (.s 1)⟩,
⟨some 24, none, .load false 1 (.s 23)⟩,
⟨some 25, none, .mov (.s 3)⟩,
⟨some 26, none, .idxA 2 (.s 24) (.s 25)⟩,
⟨some 27, none, .load true 2 (.s 26)⟩,
⟨some 4, none, .box (.c (.pure (.agg [(.int .i32 0), (.int .i64 0)])))⟩,
⟨none, none, .store 2 (.s 4) (.s 27)⟩])
 (.seq (.regq [⟨some 28, none, .fldA 0 (.s 4)⟩,
⟨some 29, none, .load false 1 (.s 28)⟩,
⟨some 30, none, .call 78 [(.s 29)]⟩,
⟨some 31, none, .un .not (.s 30)⟩,
⟨some 32, none, .mov (.s 31)⟩,
⟨some 33, some (32, false), .load true 6 (.s 1)⟩,
⟨some 34, some (32, false), .fldA 1 (.s 4)⟩,
⟨some 35, some (32, false), .load false 1 (.s 34)⟩,
⟨some 36, some (32, false), .call 79 [(.s 33), (.s 35)]⟩,
⟨some 37, some (32, false), .un .not (.s 36)⟩,
⟨some 38, none, .pick (.s 32) (.c (.pure (.bool true))) (.s 37)⟩,
⟨some 39, none, .mov (.s 38)⟩,
⟨some 40, some (39, false), .mov (.s 3)⟩,
⟨some 41, some (39, false), .bin .gtr (.s 40) (.c (.pure (.int .i64 0)))⟩,
⟨some 42, some (39, false), .mov (.s 41)⟩,
⟨some 43, some (42, true), .fldA 0 (.s 4)⟩,
⟨some 44, some (42, true), .load false 1 (.s 43)⟩,
⟨some 45, some (42, true), .fldA 2 (.s 1)⟩,
⟨some 46, some (42, true), .load false 1 (.s 45)⟩,
⟨some 47, some (42, true), .mov (.s 3)⟩,
⟨some 48, some (42, true), .bin .sub (.s 47) (.c (.pure (.int .i64 1)))⟩,
⟨some 49, some (42, true), .idxA 2 (.s 46) (.s 48)⟩,
⟨some 50, some (42, true), .fldA 0 (.s 49)⟩,
⟨some 51, some (42, true), .load false 1 (.s 50)⟩]
[⟨some 52, some (42, true), .bin .leq (.s 44) (.s 51)⟩,
⟨some 53, some (39, false), .pick (.s 42) (.s 52) (.c (.pure (.bool false)))⟩,
⟨some 54, none, .pick (.s 39) (.c (.pure (.bool true))) (.s 53)⟩])
 (.cond (.s 54)
 (.seq (.reg [⟨some 2, none, .mov (.c (.pure (.bool false)))⟩])
 .ret)
 .skip))))
 (.reg [⟨some 21, none, .mov (.s 3)⟩,
⟨some 22, none, .bin .add (.s 21) (.c (.pure (.int .i64 1)))⟩,
⟨some 3, none, .mov (.s 22)⟩])))
def c55 : AC :=
 (.seq (.reg [⟨some 1, none, .box (.s 0)⟩,
⟨some 2, none, .mov (.c (.pure (.bool false)))⟩])
 (.seq (.seq (.reg [⟨some 6, none, .fldA 2 (.s 1)⟩,
⟨some 7, none, .load false 1 (.s 6)⟩,
⟨some 8, none, .len (.s 7)⟩,
⟨some 9, none, .bin .gtr (.s 8) (.c (.pure (.int .i64 4096)))⟩,
⟨some 10, none, .mov (.s 9)⟩,
⟨some 11, some (10, false), .fldA 5 (.s 1)⟩,
⟨some 12, some (10, false), .load false 1 (.s 11)⟩,
⟨some 13, some (10, false), .len (.s 12)⟩,
⟨some 14, some (10, false), .bin .gtr (.s 13) (.c (.pure (.int .i64 16)))⟩,
⟨some 15, none, .pick (.s 10) (.c (.pure (.bool true))) (.s 14)⟩])
 (.cond (.s 15)
 (.seq (.reg [⟨some 2, none, .mov (.c (.pure (.bool false)))⟩])
 .ret)
 .skip))
 (.seq (.seq (.reg [⟨some 3, none, .mov (.c (.pure (.int .i64 0)))⟩])
 (.block 0
 (.loop c55_3)))
 c55_2)))
theorem k55 : OkF 55 Try.f55 c55 [.t 2] 70 := ⟨Try.func55, by kernel_rfl, by kernel_rfl, by kernel_rfl, Try.ntmps55⟩
/-! typecase/typecaseref21.to -/
def c93_0 : AC :=
 (.seq (.reg [⟨some 8, none, .mov (.c (.pure (.bool true)))⟩])
 .ret)
def c93_1 : AC :=
 (.seq (.seq (.reg [⟨some 24, none, .mov (.s 9)⟩,
⟨some 25, none, .fldA 1 (.s 5)⟩,
⟨some 26, none, .load false 1 (.s 25)⟩,
⟨some 27, none, .len (.s 26)⟩,
⟨some 28, none, .bin .lss (.s 24) (.s 27)⟩])
 (.cond (.s 28)
 .skip
 (.exit 0)))
 (.seq (.block 1
 (.seq (.regq [⟨some 31, none, .fldA 1 (.s 5)⟩,
⟨some 32, none, .load false 1 (.s 31)⟩,
⟨some 33, none, .mov (.s 9)⟩,
⟨some 34, none, .idxA 1 (.s 32) (.s 33)⟩,
⟨some 35, none, .load false 1 (.s 34)⟩,
⟨some 36, none, .len (.s 35)⟩,
⟨some 37, none, .mov (.s 2)⟩,
⟨some 38, none, .mov (.s 3)⟩,
⟨some 39, none, .call 75 [(.s 36), (.s 37), (.s 38)]⟩,
⟨some 40, none, .un .not (.s 39)⟩,
⟨some 41, none, .mov (.s 40)⟩,
⟨some 42, some (41, false), .load true 6 (.s 4)⟩,
⟨some 43, some (41, false), .fldA 1 (.s 5)⟩,
⟨some 44, some (41, false), .load false 1 (.s 43)⟩,
⟨some 45, some (41, false), .mov (.s 9)⟩,
⟨some 46, some (41, false), .idxA 1 (.s 44) (.s 45)⟩,
⟨some 47, some (41, false), .load false 1 (.s 46)⟩]
[⟨some 48, some (41, false), .call 91 [(.s 42), (.s 47)]⟩,
⟨some 49, some (41, false), .un .not (.s 48)⟩,
⟨some 50, none, .pick (.s 41) (.c (.pure (.bool true))) (.s 49)⟩])
 (.cond (.s 50)
 (.seq (.reg [⟨some 8, none, .mov (.c (.pure (.bool false)))⟩])
 .ret)
 .skip)))
 (.reg [⟨some 29, none, .mov (.s 9)⟩,
⟨some 30, none, .bin .add (.s 29) (.c (.pure (.int .i64 1)))⟩,
⟨some 9, none, .mov (.s 30)⟩])))
def c93 : AC :=
 (.seq (.reg [⟨some 4, none, .box (.s 0)⟩,
⟨some 5, none, .box (.s 1)⟩,
⟨some 8, none, .mov (.c (.pure (.bool false)))⟩])
 (.seq (.seq (.reg [⟨some 10, none, .load true 6 (.s 4)⟩,
⟨some 11, none, .fldA 0 (.s 5)⟩,
⟨some 12, none, .load false 1 (.s 11)⟩,
⟨some 13, none, .call 80 [(.s 10), (.s 12)]⟩,
⟨some 14, none, .un .not (.s 13)⟩,
⟨some 15, none, .mov (.s 14)⟩,
⟨some 16, some (15, false), .fldA 1 (.s 5)⟩,
⟨some 17, some (15, false), .load false 1 (.s 16)⟩,
⟨some 18, some (15, false), .len (.s 17)⟩,
⟨some 19, some (15, false), .fldA 0 (.s 5)⟩,
⟨some 20, some (15, false), .load false 1 (.s 19)⟩,
⟨some 21, some (15, false), .len (.s 20)⟩,
⟨some 22, some (15, false), .bin .neq (.s 18) (.s 21)⟩,
⟨some 23, none, .pick (.s 15) (.c (.pure (.bool true))) (.s 22)⟩])
 (.cond (.s 23)
 (.seq (.reg [⟨some 8, none, .mov (.c (.pure (.bool false)))⟩])
 .ret)
 .skip))
 (.seq (.seq (.reg [⟨some 9, none, .mov (.c (.pure (.int .i64 0)))⟩])
 (.block 0
 (.loop c93_1)))
 c93_0)))
theorem k93 : OkF 93 Try.f93 c93 [.t 8] 51 := ⟨Try.func93, by kernel_rfl, by kernel_rfl, by kernel_rfl, Try.ntmps93⟩
/-! typecase/typecaseref21.ligs -/
def c94_0 : AC :=
 (.seq (.reg [⟨some 75, none, .mov (.s 5)⟩,
⟨some 76, none, .bin .leq (.s 75) (.c (.pure (.int .i64 4096)))⟩,
⟨some 4, none, .mov (.s 76)⟩])
 .ret)
def c94_1 : AC :=
 (.reg [⟨some 28, none, .mov (.s 6)⟩,
⟨some 29, none, .bin .add (.s 28) (.c (.pure (.int .i64 1)))⟩,
⟨some 6, none, .mov (.s 29)⟩])
def c94_2 : AC :=
 (.seq (.seq (.reg [⟨some 38, none, .mov (.s 7)⟩,
⟨some 39, none, .fldA 2 (.s 3)⟩,
⟨some 40, none, .load false 1 (.s 39)⟩,
⟨some 41, none, .mov (.s 6)⟩,
⟨some 42, none, .idxA 1 (.s 40) (.s 41)⟩,
⟨some 43, none, .load false 1 (.s 42)⟩,
⟨some 44, none, .len (.s 43)⟩,
⟨some 45, none, .bin .lss (.s 38) (.s 44)⟩])
 (.cond (.s 45)
 .skip
 (.exit 2)))
 (.seq (.block 3
 (.seq (.reg [⟨some 48, none, .fldA 2 (.s 3)⟩,
⟨some 49, none, .load false 1 (.s 48)⟩,
⟨some 50, none, .mov (.s 6)⟩,
⟨some 51, none, .idxA 1 (.s 49) (.s 50)⟩,
⟨some 52, none, .load false 1 (.s 51)⟩,
⟨some 53, none, .mov (.s 7)⟩,
⟨some 54, none, .idxA 2 (.s 52) (.s 53)⟩,
⟨some 55, none, .load true 2 (.s 54)⟩,
⟨some 8, none, .box (.c (.agg [.empty, (.pure (.int .i64 0))]))⟩,
⟨none, none, .store 2 (.s 8) (.s 55)⟩])
 (.seq (.reg [⟨some 56, none, .fldA 0 (.s 8)⟩,
⟨some 57, none, .load false 1 (.s 56)⟩,
⟨some 58, none, .len (.s 57)⟩,
⟨some 59, none, .call 75 [(.s 58), (.c (.pure (.int .i64 1))), (.c (.pure (.int .i64 15)))]⟩,
⟨some 60, none, .un .not (.s 59)⟩,
⟨some 61, none, .mov (.s 60)⟩,
⟨some 62, some (61, false), .load true 6 (.s 2)⟩,
⟨some 63, some (61, false), .fldA 0 (.s 8)⟩,
⟨some 64, some (61, false), .load false 1 (.s 63)⟩,
⟨some 65, some (61, false), .call 91 [(.s 62), (.s 64)]⟩,
⟨some 66, some (61, false), .un .not (.s 65)⟩,
⟨some 67, none, .pick (.s 61) (.c (.pure (.bool true))) (.s 66)⟩,
⟨some 68, none, .mov (.s 67)⟩,
⟨some 69, some (68, false), .load true 6 (.s 2)⟩,
⟨some 70, some (68, false), .fldA 1 (.s 8)⟩,
⟨some 71, some (68, false), .load false 1 (.s 70)⟩,
⟨some 72, some (68, false), .call 79 [(.s 69), (.s 71)]⟩,
⟨some 73, some (68, false), .un .not (.s 72)⟩,
⟨some 74, none, .pick (.s 68) (.c (.pure (.bool true))) (.s 73)⟩])
 (.cond (.s 74)
 (.seq (.reg [⟨some 4, none, .mov (.c (.pure (.bool false)))⟩])
 .ret)
 .skip))))
 (.reg [⟨some 46, none, .mov (.s 7)⟩,
⟨some 47, none, .bin .add (.s 46) (.c (.pure (.int .i64 1)))⟩,
⟨some 7, none, .mov (.s 47)⟩])))
def c94_3 : AC :=
 (.seq (.seq (.reg [⟨some 23, none, .mov (.s 6)⟩,
⟨some 24, none, .fldA 2 (.s 3)⟩,
⟨some 25, none, .load false 1 (.s 24)⟩,
⟨some 26, none, .len (.s 25)⟩,
⟨some 27, none, .bin .lss (.s 23) (.s 26)⟩])
 (.cond (.s 27)
 .skip
 (.exit 0)))
 (.seq (.block 1
 (.seq (.reg [⟨some 30, none, .mov (.s 5)⟩,
⟨some 31, none, .fldA 2 (.s 3)⟩,
⟨some 32, none, .load false 1 (.s 31)⟩,
⟨some 33, none, .mov (.s 6)⟩,
⟨some 34, none, .idxA 1 (.s 32) (.s 33)⟩,
⟨some 35, none, .load false 1 (.s 34)⟩,
⟨some 36, none, .len (.s 35)⟩,
⟨some 37, none, .bin .add (.s 30) (.s 36)⟩,
⟨some 5, none, .mov (.s 37)⟩])
 (.seq (.reg [⟨some 7, none, .mov (.c (.pure (.int .i64 0)))⟩])
 (.block 2
 (.loop c94_2)))))
 c94_1))
def c94 : AC :=
 (.seq (.reg [⟨some 2, none, .box (.s 0)⟩,
⟨some 3, none, .box (.s 1)⟩,
⟨some 4, none, .mov (.c (.pure (.bool false)))⟩])
 (.seq (.seq (.reg [⟨some 9, none, .load true 6 (.s 2)⟩,
⟨some 10, none, .fldA 0 (.s 3)⟩,
⟨some 11, none, .load false 1 (.s 10)⟩,
⟨some 12, none, .call 80 [(.s 9), (.s 11)]⟩,
⟨some 13, none, .un .not (.s 12)⟩,
⟨some 14, none, .mov (.s 13)⟩,
⟨some 15, some (14, false), .fldA 2 (.s 3)⟩,
⟨some 16, some (14, false), .load false 1 (.s 15)⟩,
⟨some 17, some (14, false), .len (.s 16)⟩,
⟨some 18, some (14, false), .fldA 0 (.s 3)⟩,
⟨some 19, some (14, false), .load false 1 (.s 18)⟩,
⟨some 20, some (14, false), .len (.s 19)⟩,
⟨some 21, some (14, false), .bin .neq (.s 17) (.s 20)⟩,
⟨some 22, none, .pick (.s 14) (.c (.pure (.bool true))) (.s 21)⟩])
 (.cond (.s 22)
 (.seq (.reg [⟨some 4, none, .mov (.c (.pure (.bool false)))⟩])
 .ret)
 .skip))
 (.seq (.reg [⟨some 5, none, .mov (.c (.pure (.int .i64 0)))⟩])
 (.seq (.seq (.reg [⟨some 6, none, .mov (.c (.pure (.int .i64 0)))⟩])
 (.block 0
 (.loop c94_3)))
 c94_0))))
theorem k94 : OkF 94 Try.f94 c94 [.t 4] 77 := ⟨Try.func94, by kernel_rfl, by kernel_rfl, by kernel_rfl, Try.ntmps94⟩
/-! typecase/typecaseref21.around -/
def c95_0 : AC :=
 (.seq (.reg [⟨some 6, none, .mov (.c (.pure (.bool true)))⟩])
 .ret)
def c95_1 : AC :=
 (.seq (.seq (.reg [⟨some 34, none, .mov (.s 7)⟩,
⟨some 35, none, .fldA 6 (.s 5)⟩,
⟨some 36, none, .load false 1 (.s 35)⟩,
⟨some 37, none, .len (.s 36)⟩,
⟨some 38, none, .bin .lss (.s 34) (.s 37)⟩])
 (.cond (.s 38)
 .skip
 (.exit 0)))
 (.seq (.block 1
 (.seq (.reg [⟨some 41, none, .fldA 6 (.s 5)⟩,
⟨some 42, none, .load false 1 (.s 41)⟩,
⟨some 43, none, .mov (.s 7)⟩,
⟨some 44, none, .idxA 2 (.s 42) (.s 43)⟩,
⟨some 45, none, .load true 2 (.s 44)⟩,
⟨some 8, none, .box (.c (.pure (.agg [(.int .i64 0), (.int .i64 0)])))⟩,
⟨none, none, .store 2 (.s 8) (.s 45)⟩])
 (.seq (.regq [⟨some 46, none, .fldA 0 (.s 8)⟩,
⟨some 47, none, .load false 1 (.s 46)⟩,
⟨some 48, none, .fldA 4 (.s 5)⟩,
⟨some 49, none, .load false 1 (.s 48)⟩,
⟨some 50, none, .len (.s 49)⟩,
⟨some 51, none, .bin .sub (.s 50) (.c (.pure (.int .i64 1)))⟩,
⟨some 52, none, .call 75 [(.s 47), (.c (.pure (.int .i64 0))), (.s 51)]⟩,
⟨some 53, none, .un .not (.s 52)⟩,
⟨some 54, none, .mov (.s 53)⟩,
⟨some 55, some (54, false), .fldA 1 (.s 8)⟩,
⟨some 56, some (54, false), .load false 1 (.s 55)⟩,
⟨some 57, some (54, false), .fldA 3 (.s 3)⟩,
⟨some 58, some (54, false), .load false 1 (.s 57)⟩,
⟨some 59, some (54, false), .len (.s 58)⟩,
⟨some 60, some (54, false), .bin .sub (.s 59) (.c (.pure (.int .i64 1)))⟩,
⟨some 61, some (54, false), .call 75 [(.s 56), (.c (.pure (.int .i64 0))), (.s 60)]⟩,
⟨some 62, some (54, false), .un .not (.s 61)⟩,
⟨some 63, none, .pick (.s 54) (.c (.pure (.bool true))) (.s 62)⟩,
⟨some 64, none, .mov (.s 63)⟩,
⟨some 65, some (64, false), .fldA 3 (.s 3)⟩,
⟨some 66, some (64, false), .load false 1 (.s 65)⟩,
⟨some 67, some (64, false), .fldA 1 (.s 8)⟩,
⟨some 68, some (64, false), .load false 1 (.s 67)⟩,
⟨some 69, some (64, false), .idxA 4 (.s 66) (.s 68)⟩,
⟨some 70, some (64, false), .fldA 0 (.s 69)⟩,
⟨some 71, some (64, false), .load false 1 (.s 70)⟩,
⟨some 72, some (64, false), .call 81 [(.s 71)]⟩,
⟨some 73, some (64, false), .fldA 0 (.s 4)⟩,
⟨some 74, some (64, false), .load false 1 (.s 73)⟩]
[⟨some 75, some (64, false), .call 81 [(.s 74)]⟩,
⟨some 76, some (64, false), .bin .neq (.s 72) (.s 75)⟩,
⟨some 77, none, .pick (.s 64) (.c (.pure (.bool true))) (.s 76)⟩])
 (.cond (.s 77)
 (.seq (.reg [⟨some 6, none, .mov (.c (.pure (.bool false)))⟩])
 .ret)
 .skip))))
 (.reg [⟨some 39, none, .mov (.s 7)⟩,
⟨some 40, none, .bin .add (.s 39) (.c (.pure (.int .i64 1)))⟩,
⟨some 7, none, .mov (.s 40)⟩])))
def c95 : AC :=
 (.seq (.reg [⟨some 3, none, .box (.s 0)⟩,
⟨some 4, none, .box (.s 1)⟩,
⟨some 5, none, .box (.s 2)⟩,
⟨some 6, none, .mov (.c (.pure (.bool false)))⟩])
 (.seq (.seq (.reg [⟨some 9, none, .load true 6 (.s 3)⟩,
⟨some 10, none, .fldA 4 (.s 5)⟩,
⟨some 11, none, .load false 1 (.s 10)⟩,
⟨some 12, none, .call 96 [(.s 9), (.s 11), (.c (.pure (.int .i64 1)))]⟩,
⟨some 13, none, .un .not (.s 12)⟩,
⟨some 14, none, .mov (.s 13)⟩,
⟨some 15, some (14, false), .load true 6 (.s 3)⟩,
⟨some 16, some (14, false), .fldA 3 (.s 5)⟩,
⟨some 17, some (14, false), .load false 1 (.s 16)⟩,
⟨some 18, some (14, false), .call 96 [(.s 15), (.s 17), (.c (.pure (.int .i64 0)))]⟩,
⟨some 19, some (14, false), .un .not (.s 18)⟩,
⟨some 20, none, .pick (.s 14) (.c (.pure (.bool true))) (.s 19)⟩,
⟨some 21, none, .mov (.s 20)⟩,
⟨some 22, some (21, false), .load true 6 (.s 3)⟩,
⟨some 23, some (21, false), .fldA 5 (.s 5)⟩,
⟨some 24, some (21, false), .load false 1 (.s 23)⟩,
⟨some 25, some (21, false), .call 96 [(.s 22), (.s 24), (.c (.pure (.int .i64 0)))]⟩,
⟨some 26, some (21, false), .un .not (.s 25)⟩,
⟨some 27, none, .pick (.s 21) (.c (.pure (.bool true))) (.s 26)⟩,
⟨some 28, none, .mov (.s 27)⟩,
⟨some 29, some (28, false), .fldA 6 (.s 5)⟩,
⟨some 30, some (28, false), .load false 1 (.s 29)⟩,
⟨some 31, some (28, false), .len (.s 30)⟩,
⟨some 32, some (28, false), .bin .gtr (.s 31) (.c (.pure (.int .i64 16)))⟩,
⟨some 33, none, .pick (.s 28) (.c (.pure (.bool true))) (.s 32)⟩])
 (.cond (.s 33)
 (.seq (.reg [⟨some 6, none, .mov (.c (.pure (.bool false)))⟩])
 .ret)
 .skip))
 (.seq (.seq (.reg [⟨some 7, none, .mov (.c (.pure (.int .i64 0)))⟩])
 (.block 0
 (.loop c95_1)))
 c95_0)))
theorem k95 : OkF 95 Try.f95 c95 [.t 6] 78 := ⟨Try.func95, by kernel_rfl, by kernel_rfl, by kernel_rfl, Try.ntmps95⟩
theorem glyphs_q (F : Ff) : FnQ Try.prog 54 [ffV F] [.bool (glyphsB F)] := by
 refine k54.q (by simp) ?_
 unfold c54
 have hr : (withB F.em 1 16384 && withB F.gs.length 1 4096 && F.gs.all glyphB) = glyphsB F := rfl
 generalize glyphsB F = out at *
 simp -implicitDefEqProofs only [vmp,↓vmd,seval]
 refine onC_q (within_q F.em 1 16384) rfl ?_
 generalize withB F.em 1 16384 = b at *
 cases b with
 | false =>
  simp only [Bool.false_and, Bool.true_and, Bool.and_false, Bool.and_true, Bool.false_or, Bool.true_or, Bool.or_false, Bool.or_true, Bool.not_true, Bool.not_false] at hr
  subst hr
  (first | apply envO | apply envQ); simp -implicitDefEqProofs only [vmp,↓vmd,seval]; rfl
  simp -implicitDefEqProofs only [vmp,↓vmd,seval]
  exact gives_pure
 | true =>
  simp only [Bool.false_and, Bool.true_and, Bool.and_false, Bool.and_true, Bool.false_or, Bool.true_or, Bool.or_false, Bool.or_true, Bool.not_true, Bool.not_false] at hr
  (first | apply envO | apply envQ); simp -implicitDefEqProofs only [vmp,↓vmd,seval]; rfl
  simp -implicitDefEqProofs only [vmp,↓vmd,seval]
  refine onIf_intro fun _ => ?_
  (first | apply envO | apply envQ); simp -implicitDefEqProofs only [vmp,↓vmd,seval]; rfl
  simp -implicitDefEqProofs only [vmp,↓vmd,seval]
  refine onC_q (within_q F.gs.length 1 4096) rfl ?_
  generalize withB F.gs.length 1 4096 = b at *
  cases b with
  | false =>
   simp only [Bool.false_and, Bool.true_and, Bool.and_false, Bool.and_true, Bool.false_or, Bool.true_or, Bool.or_false, Bool.or_true, Bool.not_true, Bool.not_false] at hr
   subst hr
   (first | apply envO | apply envQ); simp -implicitDefEqProofs only [vmp,↓vmd,seval]; rfl
   simp -implicitDefEqProofs only [vmp,↓vmd,seval]
   exact gives_pure
  | true =>
   simp only [Bool.false_and, Bool.true_and, Bool.and_false, Bool.and_true, Bool.false_or, Bool.true_or, Bool.or_false, Bool.or_true, Bool.not_true, Bool.not_false] at hr
   (first | apply envO | apply envQ); simp -implicitDefEqProofs only [vmp,↓vmd,seval]; rfl
   simp -implicitDefEqProofs only [vmp,↓vmd,seval]
   refine loop_at (T := Nat) (fun i => [(3, .pure (I (i : Int))), (1, .ptr 0 0 0)]) (fun _ => [⟨[.pure (ffV F)], 6, .live⟩]) (fun i => i ≤ F.gs.length ∧ (F.gs.drop i).all glyphB = out) (fun i => F.gs.length - i)
    0 [0] (by simp) rfl ⟨by simp, hr⟩ (by simp -implicitDefEqProofs only [kpp,seval]) (by simp -implicitDefEqProofs only [kpp,seval]) ?_
   rintro i ⟨hi, hr⟩
   unfold c54_3
   simp -implicitDefEqProofs only [vmp,↓vmd,seval]
   refine onIf_intro fun _ => ?_
   (first | apply envO | apply envQ); simp -implicitDefEqProofs only [vmp,↓vmd,seval]; rfl
   simp -implicitDefEqProofs only [vmp,↓vmd,seval]
   refine onB_dec (fun h1 => ?_) (fun h1 => ?_)
   ·have hlt : i < F.gs.length := by omega
    rw [drop_at hlt, List.all_cons] at hr
    have hgi : (F.gs.map gi)[i]? = some (gi F.gs[i]) := map_at hlt
    generalize F.gs[i] = g at hr hgi
    rw [glyphB] at hr
    simp -implicitDefEqProofs only [h1, hgi, Int.natCast_nonneg, vmp,↓vmd,seval]
    refine onC_q (measure_q g.adv) rfl ?_
    generalize measB g.adv = b at *
    cases b with
    | false =>
     simp only [Bool.false_and, Bool.true_and, Bool.and_false, Bool.and_true, Bool.false_or, Bool.true_or, Bool.or_false, Bool.or_true, Bool.not_true, Bool.not_false] at hr
     subst hr
     (first | apply envO | apply envQ); simp -implicitDefEqProofs only [vmp,↓vmd,seval]; rfl
     simp -implicitDefEqProofs only [vmp,↓vmd,seval]
     exact gives_pure
    | true =>
     simp only [Bool.false_and, Bool.true_and, Bool.and_false, Bool.and_true, Bool.false_or, Bool.true_or, Bool.or_false, Bool.or_true, Bool.not_true, Bool.not_false] at hr
     (first | apply envO | apply envQ); simp -implicitDefEqProofs only [vmp,↓vmd,seval]; rfl
     simp -implicitDefEqProofs only [vmp,↓vmd,seval]
     refine onC_q (within_q g.kind 0 3) rfl ?_
     generalize withB g.kind 0 3 = b at *
     cases b with
     | false =>
      simp only [Bool.false_and, Bool.true_and, Bool.and_false, Bool.and_true, Bool.false_or, Bool.true_or, Bool.or_false, Bool.or_true, Bool.not_true, Bool.not_false] at hr
      subst hr
      (first | apply envO | apply envQ); simp -implicitDefEqProofs only [vmp,↓vmd,seval]; rfl
      simp -implicitDefEqProofs only [vmp,↓vmd,seval]
      exact gives_pure
     | true =>
      simp only [Bool.false_and, Bool.true_and, Bool.and_false, Bool.and_true, Bool.false_or, Bool.true_or, Bool.or_false, Bool.or_true, Bool.not_true, Bool.not_false] at hr
      (first | apply envO | apply envQ); simp -implicitDefEqProofs only [vmp,↓vmd,seval]; rfl
      simp -implicitDefEqProofs only [vmp,↓vmd,seval]
      refine onC_q (within_q g.att 0 255) rfl ?_
      generalize withB g.att 0 255 = b at *
      cases b with
      | false =>
       simp only [Bool.false_and, Bool.true_and, Bool.and_false, Bool.and_true, Bool.false_or, Bool.true_or, Bool.or_false, Bool.or_true, Bool.not_true, Bool.not_false] at hr
       subst hr
       (first | apply envO | apply envQ); simp -implicitDefEqProofs only [vmp,↓vmd,seval]; rfl
       simp -implicitDefEqProofs only [vmp,↓vmd,seval]
       exact gives_pure
      | true =>
       simp only [Bool.false_and, Bool.true_and, Bool.and_false, Bool.and_true, Bool.false_or, Bool.true_or, Bool.or_false, Bool.or_true, Bool.not_true, Bool.not_false] at hr
       (first | apply envO | apply envQ); simp -implicitDefEqProofs only [vmp,↓vmd,seval]; rfl
       simp -implicitDefEqProofs only [vmp,↓vmd,seval]
       refine onIf_intro fun _ => ?_
       (first | apply envO | apply envQ); simp -implicitDefEqProofs only [vmp,↓vmd,seval]; rfl
       simp -implicitDefEqProofs only [vmp,↓vmd,seval]
       refine onB_dec (fun h4 => ?_) (fun h4 => ?_)
       ·rw [decide_eq_false (show ¬ g.car.length ≤ 15 by omega)] at hr
        simp only [Bool.false_and, Bool.true_and, Bool.and_false, Bool.and_true, Bool.false_or, Bool.true_or, Bool.or_false, Bool.or_true, Bool.not_true, Bool.not_false] at hr
        subst hr
        (first | apply envO | apply envQ); simp -implicitDefEqProofs only [h4, vmp,↓vmd,seval]; rfl
        simp -implicitDefEqProofs only [h4, vmp,↓vmd,seval]
        exact gives_pure
       ·rw [decide_eq_true (show g.car.length ≤ 15 by omega)] at hr
        simp only [Bool.false_and, Bool.true_and, Bool.and_false, Bool.and_true, Bool.false_or, Bool.true_or, Bool.or_false, Bool.or_true, Bool.not_true, Bool.not_false] at hr
        (first | apply envO | apply envQ); simp -implicitDefEqProofs only [h4, vmp,↓vmd,seval]; rfl
        simp -implicitDefEqProofs only [h4, vmp,↓vmd,seval]
        refine onC_q (rises_q g.car) rfl ?_
        generalize risesB g.car = b at *
        cases b with
        | false =>
         simp only [Bool.false_and, Bool.true_and, Bool.and_false, Bool.and_true, Bool.false_or, Bool.true_or, Bool.or_false, Bool.or_true, Bool.not_true, Bool.not_false] at hr
         subst hr
         (first | apply envO | apply envQ); simp -implicitDefEqProofs only [vmp,↓vmd,seval]; rfl
         simp -implicitDefEqProofs only [vmp,↓vmd,seval]
         exact gives_pure
        | true =>
         simp only [Bool.false_and, Bool.true_and, Bool.and_false, Bool.and_true, Bool.false_or, Bool.true_or, Bool.or_false, Bool.or_true, Bool.not_true, Bool.not_false] at hr
         (first | apply envO | apply envQ); simp -implicitDefEqProofs only [vmp,↓vmd,seval]; rfl
         simp -implicitDefEqProofs only [vmp,↓vmd,seval]
         refine onIf_intro fun _ => ?_
         (first | apply envO | apply envQ); simp -implicitDefEqProofs only [vmp,↓vmd,seval]; rfl
         simp -implicitDefEqProofs only [vmp,↓vmd,seval]
         refine onB_dec (fun h6 => ?_) (fun h6 => ?_)
         ·by_cases h7 : g.kind = 2
          ·rw [decide_eq_true h7] at hr
           simp only [Bool.false_and, Bool.true_and, Bool.and_false, Bool.and_true, Bool.false_or, Bool.true_or, Bool.or_false, Bool.or_true, Bool.not_true, Bool.not_false] at hr
           (first | apply envO | apply envQ); simp -implicitDefEqProofs only [h6, h7, vmp,↓vmd,seval]; rfl
           simp -implicitDefEqProofs only [h6, h7, vmp,↓vmd,seval]
           refine loop_at (T := Nat) (fun j => [(5, .pure (I (j : Int))), (3, .pure (I (i : Int))), (1, .ptr 0 0 0), (4, .ptr 1 0 0)]) (fun _ => [⟨[.pure (ffV F)], 6, .live⟩, ⟨[.pure (gi g)], 4, .live⟩]) (fun j => j ≤ g.car.length ∧ ((g.car.drop j).all measB && (F.gs.drop (i + 1)).all glyphB) = out) (fun j => g.car.length - j)
            0 [0, 1] (by simp) rfl ⟨by simp, hr⟩ (by simp -implicitDefEqProofs only [kpp,seval]) (by simp -implicitDefEqProofs only [kpp,seval]) ?_
           rintro j ⟨hj, ht⟩
           unfold c54_2
           simp -implicitDefEqProofs only [vmp,↓vmd,seval]
           refine onIf_intro fun _ => ?_
           (first | apply envO | apply envQ); simp -implicitDefEqProofs only [vmp,↓vmd,seval]; rfl
           simp -implicitDefEqProofs only [vmp,↓vmd,seval]
           refine onB_dec (fun h5 => ?_) (fun h5 => ?_)
           ·have hlj : j < g.car.length := by omega
            rw [drop_at hlj, List.all_cons] at ht
            have hgj : (g.car.map I)[j]? = some (I g.car[j]) := map_at hlj
            generalize g.car[j] = x at ht hgj
            simp -implicitDefEqProofs only [h5, hgj, Int.natCast_nonneg, vmp,↓vmd,seval]
            refine onC_q (measure_q x) rfl ?_
            generalize measB x = b at *
            cases b with
            | false =>
             simp only [Bool.false_and, Bool.true_and, Bool.and_false, Bool.and_true, Bool.false_or, Bool.true_or, Bool.or_false, Bool.or_true, Bool.not_true, Bool.not_false] at ht
             subst ht
             (first | apply envO | apply envQ); simp -implicitDefEqProofs only [vmp,↓vmd,seval]; rfl
             simp -implicitDefEqProofs only [vmp,↓vmd,seval]
             exact gives_pure
            | true =>
             simp only [Bool.false_and, Bool.true_and, Bool.and_false, Bool.and_true, Bool.false_or, Bool.true_or, Bool.or_false, Bool.or_true, Bool.not_true, Bool.not_false] at ht
             (first | apply envO | apply envQ); simp -implicitDefEqProofs only [vmp,↓vmd,seval]; rfl
             simp -implicitDefEqProofs only [vmp,↓vmd,seval]
             refine onBk_to (j + 1) [0, 1] (by simp) rfl (by omega) ⟨hlj, ht⟩ (by simp -implicitDefEqProofs only [next_at hlj (by omega), kpp,seval]) (by simp -implicitDefEqProofs only [kpp,seval])
           ·rw [List.drop_of_length_le (by omega), List.all_nil, Bool.true_and] at ht
            simp -implicitDefEqProofs only [h5, vmp,↓vmd,seval]
            unfold c54_1
            simp -implicitDefEqProofs only [vmp,↓vmd,seval]
            refine onBk_to (i + 1) [0] (by simp) rfl (by omega) ⟨hlt, ht⟩ (by simp -implicitDefEqProofs only [next_at hlt (by omega), kpp,seval]) (by simp -implicitDefEqProofs only [kpp,seval])
          ·rw [decide_eq_false (show ¬ g.car.length = 0 by omega), decide_eq_false h7] at hr
           simp only [Bool.false_and, Bool.true_and, Bool.and_false, Bool.and_true, Bool.false_or, Bool.true_or, Bool.or_false, Bool.or_true, Bool.not_true, Bool.not_false] at hr
           subst hr
           (first | apply envO | apply envQ); simp -implicitDefEqProofs only [h6, h7, vmp,↓vmd,seval]; rfl
           simp -implicitDefEqProofs only [h6, h7, vmp,↓vmd,seval]
           exact gives_pure
         ·rw [decide_eq_true (show g.car.length = 0 by omega)] at hr
          simp only [Bool.false_and, Bool.true_and, Bool.and_false, Bool.and_true, Bool.false_or, Bool.true_or, Bool.or_false, Bool.or_true, Bool.not_true, Bool.not_false] at hr
          (first | apply envO | apply envQ); simp -implicitDefEqProofs only [h6, vmp,↓vmd,seval]; rfl
          simp -implicitDefEqProofs only [h6, vmp,↓vmd,seval]
          refine loop_at (T := Nat) (fun j => [(5, .pure (I (j : Int))), (3, .pure (I (i : Int))), (1, .ptr 0 0 0), (4, .ptr 1 0 0)]) (fun _ => [⟨[.pure (ffV F)], 6, .live⟩, ⟨[.pure (gi g)], 4, .live⟩]) (fun j => j ≤ g.car.length ∧ ((g.car.drop j).all measB && (F.gs.drop (i + 1)).all glyphB) = out) (fun j => g.car.length - j)
           0 [0, 1] (by simp) rfl ⟨by simp, hr⟩ (by simp -implicitDefEqProofs only [kpp,seval]) (by simp -implicitDefEqProofs only [kpp,seval]) ?_
          rintro j ⟨hj, ht⟩
          unfold c54_2
          simp -implicitDefEqProofs only [vmp,↓vmd,seval]
          refine onIf_intro fun _ => ?_
          (first | apply envO | apply envQ); simp -implicitDefEqProofs only [vmp,↓vmd,seval]; rfl
          simp -implicitDefEqProofs only [vmp,↓vmd,seval]
          refine onB_dec (fun h5 => ?_) (fun h5 => ?_)
          ·have hlj : j < g.car.length := by omega
           rw [drop_at hlj, List.all_cons] at ht
           have hgj : (g.car.map I)[j]? = some (I g.car[j]) := map_at hlj
           generalize g.car[j] = x at ht hgj
           simp -implicitDefEqProofs only [h5, hgj, Int.natCast_nonneg, vmp,↓vmd,seval]
           refine onC_q (measure_q x) rfl ?_
           generalize measB x = b at *
           cases b with
           | false =>
            simp only [Bool.false_and, Bool.true_and, Bool.and_false, Bool.and_true, Bool.false_or, Bool.true_or, Bool.or_false, Bool.or_true, Bool.not_true, Bool.not_false] at ht
            subst ht
            (first | apply envO | apply envQ); simp -implicitDefEqProofs only [vmp,↓vmd,seval]; rfl
            simp -implicitDefEqProofs only [vmp,↓vmd,seval]
            exact gives_pure
           | true =>
            simp only [Bool.false_and, Bool.true_and, Bool.and_false, Bool.and_true, Bool.false_or, Bool.true_or, Bool.or_false, Bool.or_true, Bool.not_true, Bool.not_false] at ht
            (first | apply envO | apply envQ); simp -implicitDefEqProofs only [vmp,↓vmd,seval]; rfl
            simp -implicitDefEqProofs only [vmp,↓vmd,seval]
            refine onBk_to (j + 1) [0, 1] (by simp) rfl (by omega) ⟨hlj, ht⟩ (by simp -implicitDefEqProofs only [next_at hlj (by omega), kpp,seval]) (by simp -implicitDefEqProofs only [kpp,seval])
          ·rw [List.drop_of_length_le (by omega), List.all_nil, Bool.true_and] at ht
           simp -implicitDefEqProofs only [h5, vmp,↓vmd,seval]
           unfold c54_1
           simp -implicitDefEqProofs only [vmp,↓vmd,seval]
           refine onBk_to (i + 1) [0] (by simp) rfl (by omega) ⟨hlt, ht⟩ (by simp -implicitDefEqProofs only [next_at hlt (by omega), kpp,seval]) (by simp -implicitDefEqProofs only [kpp,seval])
   ·rw [List.drop_of_length_le (by omega), List.all_nil] at hr
    subst hr
    simp -implicitDefEqProofs only [h1, vmp,↓vmd,seval]
    unfold c54_0
    simp -implicitDefEqProofs only [vmp,↓vmd,seval]
    exact gives_pure
theorem mpAt_eq {l : List Mp} {i : Nat} (h : i < l.length) : (l.map mp)[i]? = some (mp (mpAt l i)) := by
 rw [List.getElem?_map, mpAt, List.getElem?_eq_getElem h]; rfl
theorem maps_q (F : Ff) : FnQ Try.prog 55 [ffV F] [.bool (mapsB F)] := by
 refine k55.q (by simp) ?_
 unfold c55
 have hr : (decide (F.maps.length ≤ 4096) && decide (F.sets.length ≤ 16) && allFrom (mapB F) F.maps.length 0 && F.sets.all (coverB F)) = mapsB F := rfl
 generalize mapsB F = out at *
 simp -implicitDefEqProofs only [vmp,↓vmd,seval]
 refine onIf_intro fun _ => ?_
 (first | apply envO | apply envQ); simp -implicitDefEqProofs only [vmp,↓vmd,seval]; rfl
 simp -implicitDefEqProofs only [vmp,↓vmd,seval]
 refine onB_dec (fun h1 => ?_) (fun h1 => ?_)
 ·rw [decide_eq_false (show ¬ F.maps.length ≤ 4096 by omega)] at hr
  simp only [Bool.false_and, Bool.true_and, Bool.and_false, Bool.and_true, Bool.false_or, Bool.true_or, Bool.or_false, Bool.or_true, Bool.not_true, Bool.not_false] at hr
  subst hr
  (first | apply envO | apply envQ); simp -implicitDefEqProofs only [h1, vmp,↓vmd,seval]; rfl
  simp -implicitDefEqProofs only [h1, vmp,↓vmd,seval]
  exact gives_pure
 ·rw [decide_eq_true (show F.maps.length ≤ 4096 by omega)] at hr
  simp only [Bool.false_and, Bool.true_and, Bool.and_false, Bool.and_true, Bool.false_or, Bool.true_or, Bool.or_false, Bool.or_true, Bool.not_true, Bool.not_false] at hr
  (first | apply envO | apply envQ); simp -implicitDefEqProofs only [h1, vmp,↓vmd,seval]; rfl
  simp -implicitDefEqProofs only [h1, vmp,↓vmd,seval]
  refine onIf_intro fun _ => ?_
  (first | apply envO | apply envQ); simp -implicitDefEqProofs only [vmp,↓vmd,seval]; rfl
  simp -implicitDefEqProofs only [h1, vmp,↓vmd,seval]
  refine onB_dec (fun h2 => ?_) (fun h2 => ?_)
  ·rw [decide_eq_false (show ¬ F.sets.length ≤ 16 by omega)] at hr
   simp only [Bool.false_and, Bool.true_and, Bool.and_false, Bool.and_true, Bool.false_or, Bool.true_or, Bool.or_false, Bool.or_true, Bool.not_true, Bool.not_false] at hr
   subst hr
   (first | apply envO | apply envQ); simp -implicitDefEqProofs only [h2, vmp,↓vmd,seval]; rfl
   simp -implicitDefEqProofs only [h2, vmp,↓vmd,seval]
   exact gives_pure
  ·rw [decide_eq_true (show F.sets.length ≤ 16 by omega)] at hr
   simp only [Bool.false_and, Bool.true_and, Bool.and_false, Bool.and_true, Bool.false_or, Bool.true_or, Bool.or_false, Bool.or_true, Bool.not_true, Bool.not_false] at hr
   (first | apply envO | apply envQ); simp -implicitDefEqProofs only [h2, vmp,↓vmd,seval]; rfl
   simp -implicitDefEqProofs only [h2, vmp,↓vmd,seval]
   refine loop_at (T := Nat) (fun i => [(3, .pure (I (i : Int))), (1, .ptr 0 0 0)]) (fun _ => [⟨[.pure (ffV F)], 6, .live⟩]) (fun i => i ≤ F.maps.length ∧ (allFrom (mapB F) (F.maps.length - i) i && F.sets.all (coverB F)) = out) (fun i => F.maps.length - i)
    0 [0] (by simp) rfl ⟨by simp, hr⟩ (by simp -implicitDefEqProofs only [kpp,seval]) (by simp -implicitDefEqProofs only [kpp,seval]) ?_
   rintro i ⟨hi, hr⟩
   unfold c55_3
   simp -implicitDefEqProofs only [vmp,↓vmd,seval]
   refine onIf_intro fun _ => ?_
   (first | apply envO | apply envQ); simp -implicitDefEqProofs only [vmp,↓vmd,seval]; rfl
   simp -implicitDefEqProofs only [vmp,↓vmd,seval]
   refine onB_dec (fun h1 => ?_) (fun h1 => ?_)
   ·have hlt : i < F.maps.length := by omega
    rw [allFrom_step hlt, mapB] at hr
    have hgi : (F.maps.map mp)[i]? = some (mp (mpAt F.maps i)) := mpAt_eq hlt
    simp -implicitDefEqProofs only [h1, hgi, Int.natCast_nonneg, vmp,↓vmd,seval]
    refine onQ_q (one_q (mpAt F.maps i).code) rfl ?_
    generalize oneB (mpAt F.maps i).code = b at *
    cases b with
    | false =>
     simp only [Bool.false_and, Bool.true_and, Bool.and_false, Bool.and_true, Bool.false_or, Bool.true_or, Bool.or_false, Bool.or_true, Bool.not_true, Bool.not_false] at hr
     subst hr
     (first | apply envO | apply envQ); simp -implicitDefEqProofs only [vmp,↓vmd,seval]; rfl
     simp -implicitDefEqProofs only [vmp,↓vmd,seval]
     exact gives_pure
    | true =>
     simp only [Bool.false_and, Bool.true_and, Bool.and_false, Bool.and_true, Bool.false_or, Bool.true_or, Bool.or_false, Bool.or_true, Bool.not_true, Bool.not_false] at hr
     (first | apply envO | apply envQ); simp -implicitDefEqProofs only [vmp,↓vmd,seval]; rfl
     simp -implicitDefEqProofs only [vmp,↓vmd,seval]
     refine onQ_q (there_q F (mpAt F.maps i).glyph) rfl ?_
     generalize thereB F (mpAt F.maps i).glyph = b at *
     cases b with
     | false =>
      simp only [Bool.false_and, Bool.true_and, Bool.and_false, Bool.and_true, Bool.false_or, Bool.true_or, Bool.or_false, Bool.or_true, Bool.not_true, Bool.not_false] at hr
      subst hr
      (first | apply envO | apply envQ); simp -implicitDefEqProofs only [vmp,↓vmd,seval]; rfl
      simp -implicitDefEqProofs only [vmp,↓vmd,seval]
      exact gives_pure
     | true =>
      simp only [Bool.false_and, Bool.true_and, Bool.and_false, Bool.and_true, Bool.false_or, Bool.true_or, Bool.or_false, Bool.or_true, Bool.not_true, Bool.not_false] at hr
      (first | apply envO | apply envQ); simp -implicitDefEqProofs only [vmp,↓vmd,seval]; rfl
      simp -implicitDefEqProofs only [vmp,↓vmd,seval]
      by_cases h2 : i = 0
      ·have h2' : ¬ (0 : Int) < (i : Int) := by omega
       rw [decide_eq_true h2] at hr
       simp only [Bool.false_and, Bool.true_and, Bool.and_false, Bool.and_true, Bool.false_or, Bool.true_or, Bool.or_false, Bool.or_true, Bool.not_true, Bool.not_false] at hr
       refine onB_neg h2' ?_
       (first | apply envO | apply envQ); simp -implicitDefEqProofs only [h2', vmp,↓vmd,seval]; rfl
       simp -implicitDefEqProofs only [vmp,↓vmd,seval]
       refine onBk_to (i + 1) [0] (by simp) rfl (by omega) ⟨hlt, hr⟩ (by simp -implicitDefEqProofs only [next_at hlt (by omega), kpp,seval]) (by simp -implicitDefEqProofs only [kpp,seval])
      ·have h2' : (0 : Int) < (i : Int) := by omega
       rw [decide_eq_false h2] at hr
       simp only [Bool.false_and, Bool.true_and, Bool.and_false, Bool.and_true, Bool.false_or, Bool.true_or, Bool.or_false, Bool.or_true, Bool.not_true, Bool.not_false] at hr
       have hgp : (F.maps.map mp)[i - 1]? = some (mp (mpAt F.maps (i - 1))) := mpAt_eq (by omega)
       have hw : IntKind.wrap .i64 ((i : Int) - 1) = ((i - 1 : Nat) : Int) := by rw [wrap_id (by omega) (by omega)]; omega
       refine onB_pos h2' ?_
       (first | apply envO | apply envQ); simp -implicitDefEqProofs only [h2', vmp,↓vmd,seval]; rfl
       simp -implicitDefEqProofs only [hw, hgp, Int.natCast_nonneg, Int.toNat_natCast, vmp,↓vmd,seval]
       refine onB_dec (fun h3 => ?_) (fun h3 => ?_)
       ·rw [decide_eq_false (show ¬ (mpAt F.maps (i - 1)).code < (mpAt F.maps i).code by omega)] at hr
        simp only [Bool.false_and, Bool.true_and, Bool.and_false, Bool.and_true, Bool.false_or, Bool.true_or, Bool.or_false, Bool.or_true, Bool.not_true, Bool.not_false] at hr
        subst hr
        simp -implicitDefEqProofs only [h3, vmp,↓vmd,seval]
        exact gives_pure
       ·rw [decide_eq_true (show (mpAt F.maps (i - 1)).code < (mpAt F.maps i).code by omega)] at hr
        simp only [Bool.false_and, Bool.true_and, Bool.and_false, Bool.and_true, Bool.false_or, Bool.true_or, Bool.or_false, Bool.or_true, Bool.not_true, Bool.not_false] at hr
        simp -implicitDefEqProofs only [h3, vmp,↓vmd,seval]
        refine onBk_to (i + 1) [0] (by simp) rfl (by omega) ⟨hlt, hr⟩ (by simp -implicitDefEqProofs only [next_at hlt (by omega), kpp,seval]) (by simp -implicitDefEqProofs only [kpp,seval])
   ·rw [allFrom_end (by omega), Bool.true_and] at hr
    simp -implicitDefEqProofs only [h1, vmp,↓vmd,seval]
    unfold c55_2
    simp -implicitDefEqProofs only [vmp,↓vmd,seval]
    refine loop_at (T := Nat) (fun i => [(5, .pure (I (i : Int))), (1, .ptr 0 0 0)]) (fun _ => [⟨[.pure (ffV F)], 6, .live⟩]) (fun i => i ≤ F.sets.length ∧ (F.sets.drop i).all (coverB F) = out) (fun i => F.sets.length - i)
     0 [0] (by simp) rfl ⟨by simp, hr⟩ (by simp -implicitDefEqProofs only [kpp,seval]) (by simp -implicitDefEqProofs only [kpp,seval]) ?_
    rintro i ⟨hi, hr⟩
    unfold c55_1
    simp -implicitDefEqProofs only [vmp,↓vmd,seval]
    refine onIf_intro fun _ => ?_
    (first | apply envO | apply envQ); simp -implicitDefEqProofs only [vmp,↓vmd,seval]; rfl
    simp -implicitDefEqProofs only [vmp,↓vmd,seval]
    refine onB_dec (fun h1 => ?_) (fun h1 => ?_)
    ·have hlt : i < F.sets.length := by omega
     rw [drop_at hlt, List.all_cons] at hr
     have hgi : (F.sets.map LI)[i]? = some (LI F.sets[i]) := map_at hlt
     generalize F.sets[i] = x at hr hgi
     simp -implicitDefEqProofs only [h1, hgi, Int.natCast_nonneg, vmp,↓vmd,seval]
     refine onC_q (cover_q F x) rfl ?_
     generalize coverB F x = b at *
     cases b with
     | false =>
      simp only [Bool.false_and, Bool.true_and, Bool.and_false, Bool.and_true, Bool.false_or, Bool.true_or, Bool.or_false, Bool.or_true, Bool.not_true, Bool.not_false] at hr
      subst hr
      (first | apply envO | apply envQ); simp -implicitDefEqProofs only [vmp,↓vmd,seval]; rfl
      simp -implicitDefEqProofs only [vmp,↓vmd,seval]
      exact gives_pure
     | true =>
      simp only [Bool.false_and, Bool.true_and, Bool.and_false, Bool.and_true, Bool.false_or, Bool.true_or, Bool.or_false, Bool.or_true, Bool.not_true, Bool.not_false] at hr
      (first | apply envO | apply envQ); simp -implicitDefEqProofs only [vmp,↓vmd,seval]; rfl
      simp -implicitDefEqProofs only [vmp,↓vmd,seval]
      refine onBk_to (i + 1) [0] (by simp) rfl (by omega) ⟨hlt, hr⟩ (by simp -implicitDefEqProofs only [next_at hlt (by omega), kpp,seval]) (by simp -implicitDefEqProofs only [kpp,seval])
    ·rw [List.drop_of_length_le (by omega), List.all_nil] at hr
     subst hr
     simp -implicitDefEqProofs only [h1, vmp,↓vmd,seval]
     unfold c55_0
     simp -implicitDefEqProofs only [vmp,↓vmd,seval]
     exact gives_pure
theorem to_q (F : Ff) (s : Sub) (lo hi : Int) : FnQ Try.prog 93 [ffV F, sub s, I lo, I hi] [.bool (toB F s lo hi)] := by
 refine k93.q (by simp) ?_
 unfold c93
 have hr : (coverB F s.cover && decide (s.to.length = s.cover.length) && s.to.all fun t => withB t.length lo hi && allB F t) = toB F s lo hi := rfl
 generalize toB F s lo hi = out at *
 simp -implicitDefEqProofs only [vmp,↓vmd,seval]
 refine onC_q (cover_q F s.cover) rfl ?_
 generalize coverB F s.cover = b at *
 cases b with
 | false =>
  simp only [Bool.false_and, Bool.true_and, Bool.and_false, Bool.and_true, Bool.false_or, Bool.true_or, Bool.or_false, Bool.or_true, Bool.not_true, Bool.not_false] at hr
  subst hr
  (first | apply envO | apply envQ); simp -implicitDefEqProofs only [vmp,↓vmd,seval]; rfl
  simp -implicitDefEqProofs only [vmp,↓vmd,seval]
  exact gives_pure
 | true =>
  simp only [Bool.false_and, Bool.true_and, Bool.and_false, Bool.and_true, Bool.false_or, Bool.true_or, Bool.or_false, Bool.or_true, Bool.not_true, Bool.not_false] at hr
  (first | apply envO | apply envQ); simp -implicitDefEqProofs only [vmp,↓vmd,seval]; rfl
  simp -implicitDefEqProofs only [vmp,↓vmd,seval]
  refine onIf_intro fun _ => ?_
  (first | apply envO | apply envQ); simp -implicitDefEqProofs only [vmp,↓vmd,seval]; rfl
  simp -implicitDefEqProofs only [vmp,↓vmd,seval]
  refine onIf_intro fun _ => ?_
  (first | apply envO | apply envQ); simp -implicitDefEqProofs only [vmp,↓vmd,seval]; rfl
  simp -implicitDefEqProofs only [vmp,↓vmd,seval]
  refine onB_dec (fun h1 => ?_) (fun h1 => ?_)
  ·rw [decide_eq_false (show ¬ s.to.length = s.cover.length by omega)] at hr
   simp only [Bool.false_and, Bool.true_and, Bool.and_false, Bool.and_true, Bool.false_or, Bool.true_or, Bool.or_false, Bool.or_true, Bool.not_true, Bool.not_false] at hr
   subst hr
   simp -implicitDefEqProofs only [h1, vmp,↓vmd,seval]
   exact gives_pure
  ·rw [decide_eq_true (show s.to.length = s.cover.length by omega)] at hr
   simp only [Bool.false_and, Bool.true_and, Bool.and_false, Bool.and_true, Bool.false_or, Bool.true_or, Bool.or_false, Bool.or_true, Bool.not_true, Bool.not_false] at hr
   simp -implicitDefEqProofs only [h1, vmp,↓vmd,seval]
   refine loop_at (T := Nat) (fun i => [(9, .pure (I (i : Int))), (2, .pure (I lo)), (3, .pure (I hi)), (4, .ptr 0 0 0), (5, .ptr 1 0 0)]) (fun _ => [⟨[.pure (ffV F)], 6, .live⟩, ⟨[.pure (sub s)], 12, .live⟩]) (fun i => i ≤ s.to.length ∧ ((s.to.drop i).all fun t => withB t.length lo hi && allB F t) = out) (fun i => s.to.length - i)
    0 [0, 1] (by simp) rfl ⟨by simp, hr⟩ (by simp -implicitDefEqProofs only [kpp,seval]) (by simp -implicitDefEqProofs only [kpp,seval]) ?_
   rintro i ⟨hil, hr⟩
   unfold c93_1
   simp -implicitDefEqProofs only [vmp,↓vmd,seval]
   refine onIf_intro fun _ => ?_
   (first | apply envO | apply envQ); simp -implicitDefEqProofs only [vmp,↓vmd,seval]; rfl
   simp -implicitDefEqProofs only [vmp,↓vmd,seval]
   refine onB_dec (fun h1 => ?_) (fun h1 => ?_)
   ·have hlt : i < s.to.length := by omega
    rw [drop_at hlt, List.all_cons] at hr
    have hgi : (s.to.map LI)[i]? = some (LI s.to[i]) := map_at hlt
    generalize s.to[i] = x at hr hgi
    simp -implicitDefEqProofs only [h1, hgi, Int.natCast_nonneg, vmp,↓vmd,seval]
    refine onQ_q (within_q x.length lo hi) rfl ?_
    generalize withB x.length lo hi = b at *
    cases b with
    | false =>
     simp only [Bool.false_and, Bool.true_and, Bool.and_false, Bool.and_true, Bool.false_or, Bool.true_or, Bool.or_false, Bool.or_true, Bool.not_true, Bool.not_false] at hr
     subst hr
     (first | apply envO | apply envQ); simp -implicitDefEqProofs only [vmp,↓vmd,seval]; rfl
     simp -implicitDefEqProofs only [vmp,↓vmd,seval]
     exact gives_pure
    | true =>
     simp only [Bool.false_and, Bool.true_and, Bool.and_false, Bool.and_true, Bool.false_or, Bool.true_or, Bool.or_false, Bool.or_true, Bool.not_true, Bool.not_false] at hr
     (first | apply envO | apply envQ); simp -implicitDefEqProofs only [vmp,↓vmd,seval]; rfl
     simp -implicitDefEqProofs only [hgi, Int.natCast_nonneg, vmp,↓vmd,seval]
     refine onC_q (all_q F x) rfl ?_
     generalize allB F x = b at *
     cases b with
     | false =>
      simp only [Bool.false_and, Bool.true_and, Bool.and_false, Bool.and_true, Bool.false_or, Bool.true_or, Bool.or_false, Bool.or_true, Bool.not_true, Bool.not_false] at hr
      subst hr
      (first | apply envO | apply envQ); simp -implicitDefEqProofs only [vmp,↓vmd,seval]; rfl
      simp -implicitDefEqProofs only [vmp,↓vmd,seval]
      exact gives_pure
     | true =>
      simp only [Bool.false_and, Bool.true_and, Bool.and_false, Bool.and_true, Bool.false_or, Bool.true_or, Bool.or_false, Bool.or_true, Bool.not_true, Bool.not_false] at hr
      (first | apply envO | apply envQ); simp -implicitDefEqProofs only [vmp,↓vmd,seval]; rfl
      simp -implicitDefEqProofs only [vmp,↓vmd,seval]
      refine onBk_to (i + 1) [0, 1] (by simp) rfl (by omega) ⟨hlt, hr⟩ (by simp -implicitDefEqProofs only [next_at hlt (by omega), kpp,seval]) (by simp -implicitDefEqProofs only [kpp,seval])
   ·rw [List.drop_of_length_le (by omega), List.all_nil] at hr
    subst hr
    simp -implicitDefEqProofs only [h1, vmp,↓vmd,seval]
    unfold c93_0
    simp -implicitDefEqProofs only [vmp,↓vmd,seval]
    exact gives_pure
theorem ligs_q (F : Ff) (s : Sub) : FnQ Try.prog 94 [ffV F, sub s] [.bool (ligsB F s)] := by
 refine k94.q (by simp) ?_
 unfold c94
 have hr : (coverB F s.cover && decide (s.ligs.length = s.cover.length) && (s.ligs.all fun r => r.all (ligB F)) && decide (sumL 0 s.ligs ≤ 4096)) = ligsB F s := rfl
 generalize ligsB F s = out at *
 simp -implicitDefEqProofs only [vmp,↓vmd,seval]
 refine onC_q (cover_q F s.cover) rfl ?_
 generalize coverB F s.cover = b at *
 cases b with
 | false =>
  simp only [Bool.false_and, Bool.true_and, Bool.and_false, Bool.and_true, Bool.false_or, Bool.true_or, Bool.or_false, Bool.or_true, Bool.not_true, Bool.not_false] at hr
  subst hr
  (first | apply envO | apply envQ); simp -implicitDefEqProofs only [vmp,↓vmd,seval]; rfl
  simp -implicitDefEqProofs only [vmp,↓vmd,seval]
  exact gives_pure
 | true =>
  simp only [Bool.false_and, Bool.true_and, Bool.and_false, Bool.and_true, Bool.false_or, Bool.true_or, Bool.or_false, Bool.or_true, Bool.not_true, Bool.not_false] at hr
  (first | apply envO | apply envQ); simp -implicitDefEqProofs only [vmp,↓vmd,seval]; rfl
  simp -implicitDefEqProofs only [vmp,↓vmd,seval]
  refine onIf_intro fun _ => ?_
  (first | apply envO | apply envQ); simp -implicitDefEqProofs only [vmp,↓vmd,seval]; rfl
  simp -implicitDefEqProofs only [vmp,↓vmd,seval]
  refine onIf_intro fun _ => ?_
  (first | apply envO | apply envQ); simp -implicitDefEqProofs only [vmp,↓vmd,seval]; rfl
  simp -implicitDefEqProofs only [vmp,↓vmd,seval]
  refine onB_dec (fun h1 => ?_) (fun h1 => ?_)
  ·rw [decide_eq_false (show ¬ s.ligs.length = s.cover.length by omega)] at hr
   simp only [Bool.false_and, Bool.true_and, Bool.and_false, Bool.and_true, Bool.false_or, Bool.true_or, Bool.or_false, Bool.or_true, Bool.not_true, Bool.not_false] at hr
   subst hr
   simp -implicitDefEqProofs only [h1, vmp,↓vmd,seval]
   exact gives_pure
  ·rw [decide_eq_true (show s.ligs.length = s.cover.length by omega)] at hr
   simp only [Bool.false_and, Bool.true_and, Bool.and_false, Bool.and_true, Bool.false_or, Bool.true_or, Bool.or_false, Bool.or_true, Bool.not_true, Bool.not_false] at hr
   simp -implicitDefEqProofs only [h1, vmp,↓vmd,seval]
   refine loop_at (T := Nat × Int) (fun y => [(6, .pure (I (y.1 : Int))), (5, .pure (I y.2)), (2, .ptr 0 0 0), (3, .ptr 1 0 0)]) (fun _ => [⟨[.pure (ffV F)], 6, .live⟩, ⟨[.pure (sub s)], 12, .live⟩])
    (fun y => y.1 ≤ s.ligs.length ∧ (((s.ligs.drop y.1).all fun r => r.all (ligB F)) && decide (sumL y.2 (s.ligs.drop y.1) ≤ 4096)) = out) (fun y => s.ligs.length - y.1)
    (0, 0) [0, 1] (by simp) rfl ⟨by simp, hr⟩ (by simp -implicitDefEqProofs only [kpp,seval]) (by simp -implicitDefEqProofs only [kpp,seval]) ?_
   rintro ⟨i, n⟩ ⟨hi, hr⟩
   simp only at hi hr ⊢
   unfold c94_3
   simp -implicitDefEqProofs only [vmp,↓vmd,seval]
   refine onIf_intro fun _ => ?_
   (first | apply envO | apply envQ); simp -implicitDefEqProofs only [vmp,↓vmd,seval]; rfl
   simp -implicitDefEqProofs only [vmp,↓vmd,seval]
   refine onB_dec (fun h2 => ?_) (fun h2 => ?_)
   ·have hlt : i < s.ligs.length := by omega
    rw [drop_at hlt, List.all_cons, sumL, List.foldl_cons] at hr
    have hgi : (s.ligs.map lgr)[i]? = some (lgr s.ligs[i]) := map_at hlt
    generalize s.ligs[i] = x at hr hgi
    simp -implicitDefEqProofs only [h2, hgi, Int.natCast_nonneg, vmp,↓vmd,seval]
    refine onIf_intro fun _ => ?_
    (first | apply envO | apply envQ); simp -implicitDefEqProofs only [vmp,↓vmd,seval]; rfl
    simp -implicitDefEqProofs only [vmp,↓vmd,seval]
    refine loop_at (T := Nat) (fun j => [(7, .pure (I (j : Int))), (6, .pure (I (i : Int))), (5, .pure (I (IntKind.wrap .i64 (n + (x.length : Int))))), (2, .ptr 0 0 0), (3, .ptr 1 0 0)]) (fun _ => [⟨[.pure (ffV F)], 6, .live⟩, ⟨[.pure (sub s)], 12, .live⟩])
     (fun j => j ≤ x.length ∧ ((x.drop j).all (ligB F) && ((s.ligs.drop (i + 1)).all fun r => r.all (ligB F)) && decide (sumL (IntKind.wrap .i64 (n + (x.length : Int))) (s.ligs.drop (i + 1)) ≤ 4096)) = out) (fun j => x.length - j)
     0 [0, 1] (by simp) rfl ⟨by simp, hr⟩ (by simp -implicitDefEqProofs only [kpp,seval]) (by simp -implicitDefEqProofs only [kpp,seval]) ?_
    rintro j ⟨hj, ht⟩
    unfold c94_2
    simp -implicitDefEqProofs only [hgi, Int.natCast_nonneg, vmp,↓vmd,seval]
    refine onIf_intro fun _ => ?_
    (first | apply envO | apply envQ); simp -implicitDefEqProofs only [vmp,↓vmd,seval]; rfl
    simp -implicitDefEqProofs only [vmp,↓vmd,seval]
    refine onB_dec (fun h5 => ?_) (fun h5 => ?_)
    ·have hlj : j < x.length := by omega
     rw [drop_at hlj, List.all_cons] at ht
     have hgj : (x.map lg)[j]? = some (lg x[j]) := map_at hlj
     generalize x[j] = y at ht hgj
     rw [ligB] at ht
     simp -implicitDefEqProofs only [h5, hgi, hgj, Int.natCast_nonneg, vmp,↓vmd,seval]
     refine onIf_intro fun _ => ?_
     (first | apply envO | apply envQ); simp -implicitDefEqProofs only [vmp,↓vmd,seval]; rfl
     simp -implicitDefEqProofs only [vmp,↓vmd,seval]
     refine onC_q (within_q y.parts.length 1 15) rfl ?_
     generalize withB y.parts.length 1 15 = b at *
     cases b with
     | false =>
      simp only [Bool.false_and, Bool.true_and, Bool.and_false, Bool.and_true, Bool.false_or, Bool.true_or, Bool.or_false, Bool.or_true, Bool.not_true, Bool.not_false] at ht
      subst ht
      (first | apply envO | apply envQ); simp -implicitDefEqProofs only [vmp,↓vmd,seval]; rfl
      simp -implicitDefEqProofs only [vmp,↓vmd,seval]
      exact gives_pure
     | true =>
      simp only [Bool.false_and, Bool.true_and, Bool.and_false, Bool.and_true, Bool.false_or, Bool.true_or, Bool.or_false, Bool.or_true, Bool.not_true, Bool.not_false] at ht
      (first | apply envO | apply envQ); simp -implicitDefEqProofs only [vmp,↓vmd,seval]; rfl
      simp -implicitDefEqProofs only [vmp,↓vmd,seval]
      refine onC_q (all_q F y.parts) rfl ?_
      generalize allB F y.parts = b at *
      cases b with
      | false =>
       simp only [Bool.false_and, Bool.true_and, Bool.and_false, Bool.and_true, Bool.false_or, Bool.true_or, Bool.or_false, Bool.or_true, Bool.not_true, Bool.not_false] at ht
       subst ht
       (first | apply envO | apply envQ); simp -implicitDefEqProofs only [vmp,↓vmd,seval]; rfl
       simp -implicitDefEqProofs only [vmp,↓vmd,seval]
       exact gives_pure
      | true =>
       simp only [Bool.false_and, Bool.true_and, Bool.and_false, Bool.and_true, Bool.false_or, Bool.true_or, Bool.or_false, Bool.or_true, Bool.not_true, Bool.not_false] at ht
       (first | apply envO | apply envQ); simp -implicitDefEqProofs only [vmp,↓vmd,seval]; rfl
       simp -implicitDefEqProofs only [vmp,↓vmd,seval]
       refine onC_q (there_q F y.gid) rfl ?_
       generalize thereB F y.gid = b at *
       cases b with
       | false =>
        simp only [Bool.false_and, Bool.true_and, Bool.and_false, Bool.and_true, Bool.false_or, Bool.true_or, Bool.or_false, Bool.or_true, Bool.not_true, Bool.not_false] at ht
        subst ht
        (first | apply envO | apply envQ); simp -implicitDefEqProofs only [vmp,↓vmd,seval]; rfl
        simp -implicitDefEqProofs only [vmp,↓vmd,seval]
        exact gives_pure
       | true =>
        simp only [Bool.false_and, Bool.true_and, Bool.and_false, Bool.and_true, Bool.false_or, Bool.true_or, Bool.or_false, Bool.or_true, Bool.not_true, Bool.not_false] at ht
        (first | apply envO | apply envQ); simp -implicitDefEqProofs only [vmp,↓vmd,seval]; rfl
        simp -implicitDefEqProofs only [vmp,↓vmd,seval]
        refine onBk_to (j + 1) [0, 1] (by simp) rfl (by omega) ⟨hlj, ht⟩ (by simp -implicitDefEqProofs only [next_at hlj (by omega), kpp,seval]) (by simp -implicitDefEqProofs only [kpp,seval])
    ·rw [List.drop_of_length_le (by omega), List.all_nil, Bool.true_and] at ht
     simp -implicitDefEqProofs only [h5, vmp,↓vmd,seval]
     unfold c94_1
     simp -implicitDefEqProofs only [vmp,↓vmd,seval]
     refine onBk_to (i + 1, IntKind.wrap .i64 (n + (x.length : Int))) [0, 1] (by simp) rfl (by simp only; omega) ⟨hlt, ht⟩ (by simp -implicitDefEqProofs only [next_at hlt (by omega), kpp,seval]) (by simp -implicitDefEqProofs only [kpp,seval])
   ·rw [List.drop_of_length_le (by omega), List.all_nil, Bool.true_and] at hr
    have hr : decide (n ≤ 4096) = out := hr
    subst hr
    simp -implicitDefEqProofs only [h2, vmp,↓vmd,seval]
    unfold c94_0
    simp -implicitDefEqProofs only [vmp,↓vmd,seval]
    exact gives_pure
theorem lkAt_eq {l : List Lk} {i : Int} (h0 : 0 ≤ i) (h : i < l.length) : (l.map lk)[i.toNat]? = some (lk (lkAt l i)) := by
 rw [List.getElem?_map, lkAt, List.getElem?_eq_getElem (by omega)]; rfl
theorem around_q (F : Ff) (hF : F.lks.length ≤ 1000) (k : Lk) (s : Sub) : FnQ Try.prog 95 [ffV F, lk k, sub s] [.bool (aroundB F k s)] := by
 refine k95.q (by simp) ?_
 unfold c95
 have hr : (coversB F s.inn 1 && coversB F s.back 0 && coversB F s.ahead 0 && decide (s.nests.length ≤ 16) && s.nests.all (nestB F k s)) = aroundB F k s := rfl
 generalize aroundB F k s = out at *
 have hin16 : coversB F s.inn 1 = true → s.inn.length ≤ 16 := fun h => by
  rw [coversB, Bool.and_eq_true] at h
  have := (withB_iff.1 h.2).2
  omega
 simp -implicitDefEqProofs only [vmp,↓vmd,seval]
 refine onC_q (covers_q F s.inn 1) rfl ?_
 generalize coversB F s.inn 1 = b at *
 cases b with
 | false =>
  simp only [Bool.false_and, Bool.true_and, Bool.and_false, Bool.and_true, Bool.false_or, Bool.true_or, Bool.or_false, Bool.or_true, Bool.not_true, Bool.not_false] at hr
  subst hr
  (first | apply envO | apply envQ); simp -implicitDefEqProofs only [vmp,↓vmd,seval]; rfl
  simp -implicitDefEqProofs only [vmp,↓vmd,seval]
  exact gives_pure
 | true =>
  simp only [Bool.false_and, Bool.true_and, Bool.and_false, Bool.and_true, Bool.false_or, Bool.true_or, Bool.or_false, Bool.or_true, Bool.not_true, Bool.not_false] at hr
  (first | apply envO | apply envQ); simp -implicitDefEqProofs only [vmp,↓vmd,seval]; rfl
  simp -implicitDefEqProofs only [vmp,↓vmd,seval]
  have hin16 := hin16 rfl
  refine onC_q (covers_q F s.back 0) rfl ?_
  generalize coversB F s.back 0 = b at *
  cases b with
  | false =>
   simp only [Bool.false_and, Bool.true_and, Bool.and_false, Bool.and_true, Bool.false_or, Bool.true_or, Bool.or_false, Bool.or_true, Bool.not_true, Bool.not_false] at hr
   subst hr
   (first | apply envO | apply envQ); simp -implicitDefEqProofs only [vmp,↓vmd,seval]; rfl
   simp -implicitDefEqProofs only [vmp,↓vmd,seval]
   exact gives_pure
  | true =>
   simp only [Bool.false_and, Bool.true_and, Bool.and_false, Bool.and_true, Bool.false_or, Bool.true_or, Bool.or_false, Bool.or_true, Bool.not_true, Bool.not_false] at hr
   (first | apply envO | apply envQ); simp -implicitDefEqProofs only [vmp,↓vmd,seval]; rfl
   simp -implicitDefEqProofs only [vmp,↓vmd,seval]
   refine onC_q (covers_q F s.ahead 0) rfl ?_
   generalize coversB F s.ahead 0 = b at *
   cases b with
   | false =>
    simp only [Bool.false_and, Bool.true_and, Bool.and_false, Bool.and_true, Bool.false_or, Bool.true_or, Bool.or_false, Bool.or_true, Bool.not_true, Bool.not_false] at hr
    subst hr
    (first | apply envO | apply envQ); simp -implicitDefEqProofs only [vmp,↓vmd,seval]; rfl
    simp -implicitDefEqProofs only [vmp,↓vmd,seval]
    exact gives_pure
   | true =>
    simp only [Bool.false_and, Bool.true_and, Bool.and_false, Bool.and_true, Bool.false_or, Bool.true_or, Bool.or_false, Bool.or_true, Bool.not_true, Bool.not_false] at hr
    (first | apply envO | apply envQ); simp -implicitDefEqProofs only [vmp,↓vmd,seval]; rfl
    simp -implicitDefEqProofs only [vmp,↓vmd,seval]
    refine onIf_intro fun _ => ?_
    (first | apply envO | apply envQ); simp -implicitDefEqProofs only [vmp,↓vmd,seval]; rfl
    simp -implicitDefEqProofs only [vmp,↓vmd,seval]
    refine onB_dec (fun h4 => ?_) (fun h4 => ?_)
    ·rw [decide_eq_false (show ¬ s.nests.length ≤ 16 by omega)] at hr
     simp only [Bool.false_and, Bool.true_and, Bool.and_false, Bool.and_true, Bool.false_or, Bool.true_or, Bool.or_false, Bool.or_true, Bool.not_true, Bool.not_false] at hr
     subst hr
     (first | apply envO | apply envQ); simp -implicitDefEqProofs only [h4, vmp,↓vmd,seval]; rfl
     simp -implicitDefEqProofs only [h4, vmp,↓vmd,seval]
     exact gives_pure
    ·rw [decide_eq_true (show s.nests.length ≤ 16 by omega)] at hr
     simp only [Bool.false_and, Bool.true_and, Bool.and_false, Bool.and_true, Bool.false_or, Bool.true_or, Bool.or_false, Bool.or_true, Bool.not_true, Bool.not_false] at hr
     (first | apply envO | apply envQ); simp -implicitDefEqProofs only [h4, vmp,↓vmd,seval]; rfl
     simp -implicitDefEqProofs only [h4, vmp,↓vmd,seval]
     refine loop_at (T := Nat) (fun i => [(7, .pure (I (i : Int))), (3, .ptr 0 0 0), (4, .ptr 1 0 0), (5, .ptr 2 0 0)]) (fun _ => [⟨[.pure (ffV F)], 6, .live⟩, ⟨[.pure (lk k)], 4, .live⟩, ⟨[.pure (sub s)], 12, .live⟩]) (fun i => i ≤ s.nests.length ∧ (s.nests.drop i).all (nestB F k s) = out) (fun i => s.nests.length - i)
      0 [0, 1, 2] (by simp) rfl ⟨by simp, hr⟩ (by simp -implicitDefEqProofs only [kpp,seval]) (by simp -implicitDefEqProofs only [kpp,seval]) ?_
     rintro i ⟨hi, hr⟩
     unfold c95_1
     simp -implicitDefEqProofs only [vmp,↓vmd,seval]
     refine onIf_intro fun _ => ?_
     (first | apply envO | apply envQ); simp -implicitDefEqProofs only [vmp,↓vmd,seval]; rfl
     simp -implicitDefEqProofs only [vmp,↓vmd,seval]
     refine onB_dec (fun h1 => ?_) (fun h1 => ?_)
     ·have hlt : i < s.nests.length := by omega
      rw [drop_at hlt, List.all_cons] at hr
      have hgi : (s.nests.map ns)[i]? = some (ns s.nests[i]) := map_at hlt
      generalize s.nests[i] = n at hr hgi
      rw [nestB] at hr
      have hw1 : IntKind.wrap .i64 ((s.inn.length : Int) - 1) = (s.inn.length : Int) - 1 := wrap_id (by omega) (by have := hin16; omega)
      simp -implicitDefEqProofs only [h1, hgi, Int.natCast_nonneg, hw1, vmp,↓vmd,seval]
      have hw2 : IntKind.wrap .i64 ((F.lks.length : Int) - 1) = (F.lks.length : Int) - 1 := wrap_id (by omega) (by omega)
      refine onQ_q (within_q n.at_ 0 ((s.inn.length : Int) - 1)) rfl ?_
      cases hbA : withB n.at_ 0 ((s.inn.length : Int) - 1) with
      | false =>
       rw [hbA] at hr
       simp only [Bool.false_and, Bool.true_and, Bool.and_false, Bool.and_true, Bool.false_or, Bool.true_or, Bool.or_false, Bool.or_true, Bool.not_true, Bool.not_false] at hr
       subst hr
       (first | apply envO | apply envQ); simp -implicitDefEqProofs only [vmp,↓vmd,seval]; rfl
       simp -implicitDefEqProofs only [vmp,↓vmd,seval]
       exact gives_pure
      | true =>
       rw [hbA] at hr
       simp only [Bool.false_and, Bool.true_and, Bool.and_false, Bool.and_true, Bool.false_or, Bool.true_or, Bool.or_false, Bool.or_true, Bool.not_true, Bool.not_false] at hr
       have hinA := withB_iff.1 hbA
       (first | apply envO | apply envQ); simp -implicitDefEqProofs only [vmp,↓vmd,seval]; rfl
       simp -implicitDefEqProofs only [vmp,↓vmd,seval]
       simp -implicitDefEqProofs only [hw2, vmp,↓vmd,seval]
       refine onQ_q (within_q n.lookup 0 ((F.lks.length : Int) - 1)) rfl ?_
       cases hbL : withB n.lookup 0 ((F.lks.length : Int) - 1) with
       | false =>
        rw [hbL] at hr
        simp only [Bool.false_and, Bool.true_and, Bool.and_false, Bool.and_true, Bool.false_or, Bool.true_or, Bool.or_false, Bool.or_true, Bool.not_true, Bool.not_false] at hr
        subst hr
        (first | apply envO | apply envQ); simp -implicitDefEqProofs only [vmp,↓vmd,seval]; rfl
        simp -implicitDefEqProofs only [vmp,↓vmd,seval]
        exact gives_pure
       | true =>
        rw [hbL] at hr
        simp only [Bool.false_and, Bool.true_and, Bool.and_false, Bool.and_true, Bool.false_or, Bool.true_or, Bool.or_false, Bool.or_true, Bool.not_true, Bool.not_false] at hr
        have hinL := withB_iff.1 hbL
        (first | apply envO | apply envQ); simp -implicitDefEqProofs only [vmp,↓vmd,seval]; rfl
        simp -implicitDefEqProofs only [vmp,↓vmd,seval]
        have hgl : (F.lks.map lk)[n.lookup.toNat]? = some (lk (lkAt F.lks n.lookup)) := lkAt_eq (by omega) (by omega)
        have l0 : 0 ≤ n.lookup := by omega
        simp -implicitDefEqProofs only [hgl, l0, vmp,↓vmd,seval]
        refine onQ_q (sorts_q _) rfl ?_
        (first | apply envO | apply envQ); simp -implicitDefEqProofs only [vmp,↓vmd,seval]; rfl
        simp -implicitDefEqProofs only [vmp,↓vmd,seval]
        refine onC_q (sorts_q _) rfl ?_
        (first | apply envO | apply envQ); simp -implicitDefEqProofs only [vmp,↓vmd,seval]; rfl
        simp -implicitDefEqProofs only [vmp,↓vmd,seval]
        refine onB_dec (fun h6 => ?_) (fun h6 => ?_)
        ·rw [decide_eq_false h6] at hr
         simp only [Bool.false_and, Bool.true_and, Bool.and_false, Bool.and_true, Bool.false_or, Bool.true_or, Bool.or_false, Bool.or_true, Bool.not_true, Bool.not_false] at hr
         subst hr
         simp -implicitDefEqProofs only [h6, vmp,↓vmd,seval]
         exact gives_pure
        ·rw [decide_eq_true (Classical.not_not.1 h6)] at hr
         simp only [Bool.false_and, Bool.true_and, Bool.and_false, Bool.and_true, Bool.false_or, Bool.true_or, Bool.or_false, Bool.or_true, Bool.not_true, Bool.not_false] at hr
         simp -implicitDefEqProofs only [h6, vmp,↓vmd,seval]
         refine onBk_to (i + 1) [0, 1, 2] (by simp) rfl (by omega) ⟨hlt, hr⟩ (by simp -implicitDefEqProofs only [next_at hlt (by omega), kpp,seval]) (by simp -implicitDefEqProofs only [kpp,seval])
     ·rw [List.drop_of_length_le (by omega), List.all_nil] at hr
      subst hr
      simp -implicitDefEqProofs only [h1, vmp,↓vmd,seval]
      unfold c95_0
      simp -implicitDefEqProofs only [vmp,↓vmd,seval]
      exact gives_pure
end Go.Proofs.Ytcjmkpkhjhjepaa.W
