/-
  Which glyphs a lookup does not see: the program's function and the document's: what each does. No condition.
-/
import Derived.Test.YtcjmkpkhjhjepaaData
namespace Go.Proofs.Ytcjmkpkhjhjepaa.W
open Go Go.Vm Go.Proofs
set_option maxRecDepth 100000
set_option linter.unusedSimpArgs false
set_option maxHeartbeats 1000000
/-! slices.Index[[]int,int] -/
def c61_0 : AC :=
 (.seq (.reg [⟨some 4, none, .mov (.c (.pure (.int .i64 (-1))))⟩])
 .ret)
def c61_1 : AC :=
 (.seq (.reg [⟨some 9, none, .bin .lss (.s 8) (.s 7)⟩])
 (.seq (.cond (.s 9)
 .skip
 (.exit 0))
 (.seq (.block 1
 (.seq (.reg [⟨some 10, none, .mov (.s 8)⟩,
⟨some 5, none, .mov (.s 10)⟩])
 (.seq (.reg [⟨some 11, none, .mov (.s 1)⟩,
⟨some 12, none, .mov (.s 0)⟩,
⟨some 13, none, .mov (.s 5)⟩,
⟨some 14, none, .idxA 1 (.s 12) (.s 13)⟩,
⟨some 15, none, .load false 1 (.s 14)⟩,
⟨some 16, none, .bin .eql (.s 11) (.s 15)⟩])
 (.cond (.s 16)
 (.seq (.reg [⟨some 17, none, .mov (.s 5)⟩,
⟨some 4, none, .mov (.s 17)⟩])
 .ret)
 .skip))))
 (.reg [⟨some 18, none, .bin .add (.s 8) (.c (.pure (.int .i64 1)))⟩,
⟨some 8, none, .mov (.s 18)⟩]))))
def c61 : AC :=
 (.seq (.reg [⟨some 4, none, .mov (.c (.pure (.int .i64 0)))⟩])
 (.seq (.seq (.reg [⟨some 6, none, .mov (.s 0)⟩,
⟨some 7, none, .len (.s 6)⟩,
⟨some 8, none, .mov (.c (.pure (.int .i64 0)))⟩])
 (.block 0
 (.loop c61_1)))
 c61_0))
theorem k61 : OkF 61 Try.f61 c61 [.t 4] 19 := ⟨Try.func61, by kernel_rfl, by kernel_rfl, by kernel_rfl, Try.ntmps61⟩
/-! slices.Contains[[]int,int] -/
def c84 : AC :=
 (.seq (.reg [⟨some 4, none, .mov (.c (.pure (.bool false)))⟩])
 (.seq (.reg [⟨some 5, none, .mov (.s 0)⟩,
⟨some 6, none, .mov (.s 1)⟩,
⟨some 7, none, .call 61 [(.s 5), (.s 6)]⟩,
⟨some 8, none, .bin .geq (.s 7) (.c (.pure (.int .i64 0)))⟩,
⟨some 4, none, .mov (.s 8)⟩])
 .ret))
theorem k84 : OkF 84 Try.f84 c84 [.t 4] 9 := ⟨Try.func84, by kernel_rfl, by kernel_rfl, by kernel_rfl, Try.ntmps84⟩
/-! typecase/cover.info -/
def c86 : AC :=
 (.seq (.reg [⟨some 2, none, .box (.s 0)⟩,
⟨some 4, none, .box (.c (.agg [(.pure (.int .i64 0)), (.pure (.int .i64 0)), (.pure (.int .i64 0)), .empty]))⟩])
 (.seq (.seq (.reg [⟨some 5, none, .mov (.s 1)⟩,
⟨some 6, none, .bin .lss (.s 5) (.c (.pure (.int .i64 0)))⟩,
⟨some 7, none, .mov (.s 6)⟩,
⟨some 8, some (7, false), .mov (.s 1)⟩,
⟨some 9, some (7, false), .fldA 1 (.s 2)⟩,
⟨some 10, some (7, false), .load false 1 (.s 9)⟩,
⟨some 11, some (7, false), .len (.s 10)⟩,
⟨some 12, some (7, false), .bin .geq (.s 8) (.s 11)⟩,
⟨some 13, none, .pick (.s 7) (.c (.pure (.bool true))) (.s 12)⟩])
 (.cond (.s 13)
 (.seq (.reg [⟨some 14, none, .build [(.pure (.int .i64 0)), (.pure (.int .i64 0)), (.pure (.int .i64 0)), .empty] []⟩,
⟨none, none, .store 4 (.s 4) (.s 14)⟩])
 .ret)
 .skip))
 (.seq (.reg [⟨some 15, none, .fldA 1 (.s 2)⟩,
⟨some 16, none, .load false 1 (.s 15)⟩,
⟨some 17, none, .mov (.s 1)⟩,
⟨some 18, none, .idxA 4 (.s 16) (.s 17)⟩,
⟨some 19, none, .load true 4 (.s 18)⟩,
⟨none, none, .store 4 (.s 4) (.s 19)⟩])
 .ret)))
theorem k86 : OkF 86 Try.f86 c86 [.c 4 true 4] 20 := ⟨Try.func86, by kernel_rfl, by kernel_rfl, by kernel_rfl, Try.ntmps86⟩
/-! typecase/cover.Kind -/
def c67 : AC :=
 (.seq (.reg [⟨some 2, none, .box (.s 0)⟩,
⟨some 4, none, .mov (.c (.pure (.int .i64 0)))⟩])
 (.seq (.reg [⟨some 5, none, .load true 6 (.s 2)⟩,
⟨some 6, none, .mov (.s 1)⟩,
⟨some 7, none, .call 86 [(.s 5), (.s 6)]⟩,
⟨some 8, none, .fld false 1 1 (.s 7)⟩,
⟨some 4, none, .mov (.s 8)⟩])
 .ret))
theorem k67 : OkF 67 Try.f67 c67 [.t 4] 9 := ⟨Try.func67, by kernel_rfl, by kernel_rfl, by kernel_rfl, Try.ntmps67⟩
/-! typecase/cover.Attach -/
def c87 : AC :=
 (.seq (.reg [⟨some 2, none, .box (.s 0)⟩,
⟨some 4, none, .mov (.c (.pure (.int .i64 0)))⟩])
 (.seq (.reg [⟨some 5, none, .load true 6 (.s 2)⟩,
⟨some 6, none, .mov (.s 1)⟩,
⟨some 7, none, .call 86 [(.s 5), (.s 6)]⟩,
⟨some 8, none, .fld false 2 1 (.s 7)⟩,
⟨some 4, none, .mov (.s 8)⟩])
 .ret))
theorem k87 : OkF 87 Try.f87 c87 [.t 4] 9 := ⟨Try.func87, by kernel_rfl, by kernel_rfl, by kernel_rfl, Try.ntmps87⟩
/-! typecase/typecaseref26.In -/
def c70_0 : AC :=
 (.seq (.reg [⟨some 4, none, .mov (.c (.pure (.bool false)))⟩])
 .ret)
def c70_1 : AC :=
 (.seq (.seq (.reg [⟨some 6, none, .mov (.s 5)⟩,
⟨some 7, none, .mov (.s 0)⟩,
⟨some 8, none, .len (.s 7)⟩,
⟨some 9, none, .bin .lss (.s 6) (.s 8)⟩])
 (.cond (.s 9)
 .skip
 (.exit 0)))
 (.seq (.block 1
 (.seq (.reg [⟨some 12, none, .mov (.s 0)⟩,
⟨some 13, none, .mov (.s 5)⟩,
⟨some 14, none, .idxA 1 (.s 12) (.s 13)⟩,
⟨some 15, none, .load false 1 (.s 14)⟩,
⟨some 16, none, .mov (.s 1)⟩,
⟨some 17, none, .bin .eql (.s 15) (.s 16)⟩])
 (.cond (.s 17)
 (.seq (.reg [⟨some 4, none, .mov (.c (.pure (.bool true)))⟩])
 .ret)
 .skip)))
 (.reg [⟨some 10, none, .mov (.s 5)⟩,
⟨some 11, none, .bin .add (.s 10) (.c (.pure (.int .i64 1)))⟩,
⟨some 5, none, .mov (.s 11)⟩])))
def c70 : AC :=
 (.seq (.reg [⟨some 4, none, .mov (.c (.pure (.bool false)))⟩])
 (.seq (.seq (.reg [⟨some 5, none, .mov (.c (.pure (.int .i64 0)))⟩])
 (.block 0
 (.loop c70_1)))
 c70_0))
/-! typecase/typecaseref22.info -/
def c88 : AC :=
 (.seq (.reg [⟨some 2, none, .box (.s 0)⟩,
⟨some 4, none, .box (.c (.agg [(.pure (.int .i64 0)), (.pure (.int .i64 0)), (.pure (.int .i64 0)), .empty]))⟩])
 (.seq (.seq (.reg [⟨some 5, none, .mov (.s 1)⟩,
⟨some 6, none, .bin .lss (.s 5) (.c (.pure (.int .i64 0)))⟩,
⟨some 7, none, .mov (.s 6)⟩,
⟨some 8, some (7, false), .mov (.s 1)⟩,
⟨some 9, some (7, false), .fldA 1 (.s 2)⟩,
⟨some 10, some (7, false), .load false 1 (.s 9)⟩,
⟨some 11, some (7, false), .len (.s 10)⟩,
⟨some 12, some (7, false), .bin .geq (.s 8) (.s 11)⟩,
⟨some 13, none, .pick (.s 7) (.c (.pure (.bool true))) (.s 12)⟩])
 (.cond (.s 13)
 (.seq (.reg [⟨some 14, none, .build [(.pure (.int .i64 0)), (.pure (.int .i64 0)), (.pure (.int .i64 0)), .empty] []⟩,
⟨none, none, .store 4 (.s 4) (.s 14)⟩])
 .ret)
 .skip))
 (.seq (.reg [⟨some 15, none, .fldA 1 (.s 2)⟩,
⟨some 16, none, .load false 1 (.s 15)⟩,
⟨some 17, none, .mov (.s 1)⟩,
⟨some 18, none, .idxA 4 (.s 16) (.s 17)⟩,
⟨some 19, none, .load true 4 (.s 18)⟩,
⟨none, none, .store 4 (.s 4) (.s 19)⟩])
 .ret)))
/-! typecase/typecaseref22.Kind -/
def c69 : AC :=
 (.seq (.reg [⟨some 2, none, .box (.s 0)⟩,
⟨some 4, none, .mov (.c (.pure (.int .i64 0)))⟩])
 (.seq (.reg [⟨some 5, none, .load true 6 (.s 2)⟩,
⟨some 6, none, .mov (.s 1)⟩,
⟨some 7, none, .call 88 [(.s 5), (.s 6)]⟩,
⟨some 8, none, .fld false 1 1 (.s 7)⟩,
⟨some 4, none, .mov (.s 8)⟩])
 .ret))
/-! typecase/typecaseref22.Attach -/
def c72 : AC :=
 (.seq (.reg [⟨some 2, none, .box (.s 0)⟩,
⟨some 4, none, .mov (.c (.pure (.int .i64 0)))⟩])
 (.seq (.reg [⟨some 5, none, .load true 6 (.s 2)⟩,
⟨some 6, none, .mov (.s 1)⟩,
⟨some 7, none, .call 88 [(.s 5), (.s 6)]⟩,
⟨some 8, none, .fld false 2 1 (.s 7)⟩,
⟨some 4, none, .mov (.s 8)⟩])
 .ret))
/-! typecase/typecaseref26.set -/
def c71 : AC :=
 (.seq (.reg [⟨some 2, none, .box (.s 0)⟩,
⟨some 3, none, .box (.s 1)⟩,
⟨some 4, none, .mov (.c .empty)⟩])
 (.seq (.seq (.reg [⟨some 5, none, .fldA 2 (.s 3)⟩,
⟨some 6, none, .load false 1 (.s 5)⟩,
⟨some 7, none, .bin .lss (.s 6) (.c (.pure (.int .i64 0)))⟩,
⟨some 8, none, .mov (.s 7)⟩,
⟨some 9, some (8, false), .fldA 2 (.s 3)⟩,
⟨some 10, some (8, false), .load false 1 (.s 9)⟩,
⟨some 11, some (8, false), .fldA 5 (.s 2)⟩,
⟨some 12, some (8, false), .load false 1 (.s 11)⟩,
⟨some 13, some (8, false), .len (.s 12)⟩,
⟨some 14, some (8, false), .bin .geq (.s 10) (.s 13)⟩,
⟨some 15, none, .pick (.s 8) (.c (.pure (.bool true))) (.s 14)⟩])
 (.cond (.s 15)
 (.seq (.reg [⟨some 4, none, .mov (.c .empty)⟩])
 .ret)
 .skip))
 (.seq (.reg [⟨some 16, none, .fldA 5 (.s 2)⟩,
⟨some 17, none, .load false 1 (.s 16)⟩,
⟨some 18, none, .fldA 2 (.s 3)⟩,
⟨some 19, none, .load false 1 (.s 18)⟩,
⟨some 20, none, .idxA 1 (.s 17) (.s 19)⟩,
⟨some 21, none, .load false 1 (.s 20)⟩,
⟨some 4, none, .mov (.s 21)⟩])
 .ret)))
/-! typecase/skip.marks -/
def c68 : AC :=
 (.seq (.reg [⟨some 4, none, .box (.s 0)⟩,
⟨some 5, none, .box (.s 1)⟩,
⟨some 8, none, .mov (.c (.pure (.bool false)))⟩])
 (.seq (.seq (.reg [⟨some 11, none, .mov (.s 2)⟩,
⟨some 12, none, .bin .and (.s 11) (.c (.pure (.int .i64 8)))⟩,
⟨some 13, none, .bin .neq (.s 12) (.c (.pure (.int .i64 0)))⟩])
 (.cond (.s 13)
 (.seq (.reg [⟨some 8, none, .mov (.c (.pure (.bool true)))⟩])
 .ret)
 .skip))
 (.seq (.seq (.reg [⟨some 14, none, .mov (.s 2)⟩,
⟨some 15, none, .bin .and (.s 14) (.c (.pure (.int .i64 16)))⟩,
⟨some 16, none, .bin .neq (.s 15) (.c (.pure (.int .i64 0)))⟩])
 (.cond (.s 16)
 (.seq (.reg [⟨some 17, none, .fldA 2 (.s 5)⟩,
⟨some 18, none, .load false 1 (.s 17)⟩,
⟨some 19, none, .bin .geq (.s 18) (.c (.pure (.int .i64 0)))⟩,
⟨some 20, none, .mov (.s 19)⟩,
⟨some 21, some (20, true), .fldA 2 (.s 5)⟩,
⟨some 22, some (20, true), .load false 1 (.s 21)⟩,
⟨some 23, some (20, true), .fldA 5 (.s 4)⟩,
⟨some 24, some (20, true), .load false 1 (.s 23)⟩,
⟨some 25, some (20, true), .len (.s 24)⟩,
⟨some 26, some (20, true), .bin .lss (.s 22) (.s 25)⟩,
⟨some 27, none, .pick (.s 20) (.s 26) (.c (.pure (.bool false)))⟩,
⟨some 28, none, .mov (.s 27)⟩,
⟨some 29, some (28, true), .fldA 5 (.s 4)⟩,
⟨some 30, some (28, true), .load false 1 (.s 29)⟩,
⟨some 31, some (28, true), .fldA 2 (.s 5)⟩,
⟨some 32, some (28, true), .load false 1 (.s 31)⟩,
⟨some 33, some (28, true), .idxA 1 (.s 30) (.s 32)⟩,
⟨some 34, some (28, true), .load false 1 (.s 33)⟩,
⟨some 35, some (28, true), .mov (.s 3)⟩,
⟨some 36, some (28, true), .call 84 [(.s 34), (.s 35)]⟩,
⟨some 37, none, .pick (.s 28) (.s 36) (.c (.pure (.bool false)))⟩,
⟨some 9, none, .mov (.s 37)⟩])
 (.seq (.reg [⟨some 38, none, .mov (.s 9)⟩,
⟨some 39, none, .un .not (.s 38)⟩])
 (.cond (.s 39)
 (.seq (.reg [⟨some 8, none, .mov (.c (.pure (.bool true)))⟩])
 .ret)
 .skip)))
 .skip))
 (.seq (.reg [⟨some 40, none, .mov (.s 2)⟩,
⟨some 41, none, .bin .quo (.s 40) (.c (.pure (.int .i64 256)))⟩,
⟨some 10, none, .mov (.s 41)⟩])
 (.seq (.reg [⟨some 42, none, .mov (.s 10)⟩,
⟨some 43, none, .bin .neq (.s 42) (.c (.pure (.int .i64 0)))⟩,
⟨some 44, none, .mov (.s 43)⟩,
⟨some 45, some (44, true), .mov (.s 10)⟩,
⟨some 46, some (44, true), .load true 6 (.s 4)⟩,
⟨some 47, some (44, true), .mov (.s 3)⟩,
⟨some 48, some (44, true), .call 87 [(.s 46), (.s 47)]⟩,
⟨some 49, some (44, true), .bin .neq (.s 45) (.s 48)⟩,
⟨some 50, none, .pick (.s 44) (.s 49) (.c (.pure (.bool false)))⟩,
⟨some 8, none, .mov (.s 50)⟩])
 .ret)))))
theorem k68 : OkF 68 Try.f68 c68 [.t 8] 51 := ⟨Try.func68, by kernel_rfl, by kernel_rfl, by kernel_rfl, Try.ntmps68⟩
/-! typecase/skip.Skips -/
def c49 : AC :=
 (.seq (.reg [⟨some 3, none, .box (.s 0)⟩,
⟨some 4, none, .box (.s 1)⟩,
⟨some 6, none, .mov (.c (.pure (.bool false)))⟩])
 (.seq (.reg [⟨some 8, none, .fldA 1 (.s 4)⟩,
⟨some 9, none, .load false 1 (.s 8)⟩,
⟨some 10, none, .mx (.s 9) (.c (.pure (.int .i64 0)))⟩,
⟨some 7, none, .mov (.s 10)⟩])
 (.seq (.seq (.reg [⟨some 11, none, .load true 6 (.s 3)⟩,
⟨some 12, none, .mov (.s 2)⟩,
⟨some 13, none, .call 67 [(.s 11), (.s 12)]⟩])
 (.block 0
 (.seq (.reg [⟨some 15, none, .bin .eql (.s 13) (.c (.pure (.int .i64 1)))⟩,
⟨some 14, none, .mov (.s 15)⟩])
 (.cond (.s 14)
 (.seq (.reg [⟨some 16, none, .mov (.s 7)⟩,
⟨some 17, none, .bin .and (.s 16) (.c (.pure (.int .i64 2)))⟩,
⟨some 18, none, .bin .neq (.s 17) (.c (.pure (.int .i64 0)))⟩,
⟨some 6, none, .mov (.s 18)⟩])
 .ret)
 (.seq (.reg [⟨some 20, none, .bin .eql (.s 13) (.c (.pure (.int .i64 2)))⟩,
⟨some 19, none, .mov (.s 20)⟩])
 (.cond (.s 19)
 (.seq (.reg [⟨some 21, none, .mov (.s 7)⟩,
⟨some 22, none, .bin .and (.s 21) (.c (.pure (.int .i64 4)))⟩,
⟨some 23, none, .bin .neq (.s 22) (.c (.pure (.int .i64 0)))⟩,
⟨some 6, none, .mov (.s 23)⟩])
 .ret)
 (.seq (.reg [⟨some 25, none, .bin .eql (.s 13) (.c (.pure (.int .i64 3)))⟩,
⟨some 24, none, .mov (.s 25)⟩])
 (.cond (.s 24)
 (.seq (.reg [⟨some 26, none, .load true 6 (.s 3)⟩,
⟨some 27, none, .load true 4 (.s 4)⟩,
⟨some 28, none, .mov (.s 7)⟩,
⟨some 29, none, .mov (.s 2)⟩,
⟨some 30, none, .call 68 [(.s 26), (.s 27), (.s 28), (.s 29)]⟩,
⟨some 6, none, .mov (.s 30)⟩])
 .ret)
 .skip))))))))
 (.seq (.reg [⟨some 6, none, .mov (.c (.pure (.bool false)))⟩])
 .ret))))
theorem k49 : OkF 49 Try.f49 c49 [.t 6] 31 := ⟨Try.func49, by kernel_rfl, by kernel_rfl, by kernel_rfl, Try.ntmps49⟩
/-! typecase/typecaseref26.Skips -/
def c50 : AC :=
 (.seq (.reg [⟨some 3, none, .box (.s 0)⟩,
⟨some 4, none, .box (.s 1)⟩,
⟨some 6, none, .mov (.c (.pure (.bool false)))⟩])
 (.seq (.reg [⟨some 8, none, .fldA 1 (.s 4)⟩,
⟨some 9, none, .load false 1 (.s 8)⟩,
⟨some 10, none, .mx (.c (.pure (.int .i64 0))) (.s 9)⟩,
⟨some 7, none, .mov (.s 10)⟩])
 (.seq (.seq (.reg [⟨some 11, none, .load true 6 (.s 3)⟩,
⟨some 12, none, .mov (.s 2)⟩,
⟨some 13, none, .call 69 [(.s 11), (.s 12)]⟩])
 (.block 0
 (.seq (.reg [⟨some 15, none, .bin .eql (.s 13) (.c (.pure (.int .i64 1)))⟩,
⟨some 14, none, .mov (.s 15)⟩])
 (.cond (.s 14)
 (.seq (.reg [⟨some 16, none, .mov (.s 7)⟩,
⟨some 17, none, .bin .and (.s 16) (.c (.pure (.int .i64 2)))⟩,
⟨some 18, none, .bin .neq (.s 17) (.c (.pure (.int .i64 0)))⟩,
⟨some 6, none, .mov (.s 18)⟩])
 .ret)
 (.seq (.reg [⟨some 20, none, .bin .eql (.s 13) (.c (.pure (.int .i64 2)))⟩,
⟨some 19, none, .mov (.s 20)⟩])
 (.cond (.s 19)
 (.seq (.reg [⟨some 21, none, .mov (.s 7)⟩,
⟨some 22, none, .bin .and (.s 21) (.c (.pure (.int .i64 4)))⟩,
⟨some 23, none, .bin .neq (.s 22) (.c (.pure (.int .i64 0)))⟩,
⟨some 6, none, .mov (.s 23)⟩])
 .ret)
 (.seq (.reg [⟨some 25, none, .bin .eql (.s 13) (.c (.pure (.int .i64 3)))⟩,
⟨some 24, none, .mov (.s 25)⟩])
 (.cond (.s 24)
 (.seq (.seq (.reg [⟨some 26, none, .mov (.s 7)⟩,
⟨some 27, none, .bin .and (.s 26) (.c (.pure (.int .i64 8)))⟩,
⟨some 28, none, .bin .neq (.s 27) (.c (.pure (.int .i64 0)))⟩,
⟨some 29, none, .mov (.s 28)⟩,
⟨some 30, some (29, false), .mov (.s 7)⟩,
⟨some 31, some (29, false), .bin .and (.s 30) (.c (.pure (.int .i64 16)))⟩,
⟨some 32, some (29, false), .bin .neq (.s 31) (.c (.pure (.int .i64 0)))⟩,
⟨some 33, some (29, false), .mov (.s 32)⟩,
⟨some 34, some (33, true), .load true 6 (.s 3)⟩,
⟨some 35, some (33, true), .load true 4 (.s 4)⟩,
⟨some 36, some (33, true), .call 71 [(.s 34), (.s 35)]⟩,
⟨some 37, some (33, true), .mov (.s 2)⟩,
⟨some 38, some (33, true), .call 70 [(.s 36), (.s 37)]⟩,
⟨some 39, some (33, true), .un .not (.s 38)⟩,
⟨some 40, some (29, false), .pick (.s 33) (.s 39) (.c (.pure (.bool false)))⟩,
⟨some 41, none, .pick (.s 29) (.c (.pure (.bool true))) (.s 40)⟩])
 (.cond (.s 41)
 (.seq (.reg [⟨some 6, none, .mov (.c (.pure (.bool true)))⟩])
 .ret)
 .skip))
 (.seq (.reg [⟨some 42, none, .mov (.s 7)⟩,
⟨some 43, none, .bin .quo (.s 42) (.c (.pure (.int .i64 256)))⟩,
⟨some 44, none, .bin .neq (.s 43) (.c (.pure (.int .i64 0)))⟩,
⟨some 45, none, .mov (.s 44)⟩,
⟨some 46, some (45, true), .load true 6 (.s 3)⟩,
⟨some 47, some (45, true), .mov (.s 2)⟩,
⟨some 48, some (45, true), .call 72 [(.s 46), (.s 47)]⟩,
⟨some 49, some (45, true), .mov (.s 7)⟩,
⟨some 50, some (45, true), .bin .quo (.s 49) (.c (.pure (.int .i64 256)))⟩,
⟨some 51, some (45, true), .bin .neq (.s 48) (.s 50)⟩,
⟨some 52, none, .pick (.s 45) (.s 51) (.c (.pure (.bool false)))⟩,
⟨some 6, none, .mov (.s 52)⟩])
 .ret))
 .skip))))))))
 (.seq (.reg [⟨some 6, none, .mov (.c (.pure (.bool false)))⟩])
 .ret))))
/-- what a font tells of a glyph -/
structure Inf where
 adv : Int
 kind : Int
 att : Int
 car : V
abbrev inf (x : Inf) : V := .agg [I x.adv, I x.kind, I x.att, x.car]
/-- a font: what is not looked at stays as it is -/
structure Fo where
 em : V
 gs : List Inf
 maps : V
 lks : V
 feats : V
 sets : List (List Int)
abbrev fo (f : Fo) : V := .agg [f.em, .sl (f.gs.map inf), f.maps, f.lks, f.feats, LL f.sets]
/-- a lookup, of whose subtables nothing is said -/
abbrev lkV (a b c : Int) (s : V) : V := .agg [I a, I b, I c, s]
/-- where a number stands in a list -/
def idxF (x : Int) : Int → List Int → Int
 | _, [] => -1
 | k, y :: r => if x = y then k else idxF x (k + 1) r
theorem idxF_mem {x : Int} : ∀ {l : List Int} {k : Int}, 0 ≤ k → (0 ≤ idxF x k l ↔ x ∈ l)
 | [], k, _ => by simp [idxF]
 | y :: r, k, h => by
  rw [idxF]
  by_cases hc : x = y
  ·simp [hc, h]
  ·rw [if_neg hc, idxF_mem (by omega)]
   simp [hc]
theorem index_q (l : List Int) (x : Int) : FnQ Try.prog 61 [LI l, I x] [I (idxF x 0 l)] := by
 refine k61.q (by simp) ?_
 unfold c61
 simp -implicitDefEqProofs only [*, vmp,↓vmd,seval]
 refine onIf_intro fun hlen => ?_
 simp -implicitDefEqProofs only [*, vmp,↓vmd,seval]
 refine loop_at (T := Nat) (fun k => [(8, .pure (I k)), (7, .pure (I l.length)), (0, .pure (LI l)), (1, .pure (I x))]) (fun _ => []) (fun k => k ≤ l.length ∧ idxF x k (l.drop k) = idxF x 0 l) (fun k => l.length - k)
  0 [] (by simp) rfl ⟨by simp, by simp⟩ (by simp -implicitDefEqProofs only [kpp,seval]) (by simp -implicitDefEqProofs only [kpp,seval]) ?_
 rintro k ⟨hk, hr⟩
 unfold c61_1
 simp -implicitDefEqProofs only [vmp,↓vmd,seval]
 refine onB_dec (fun h1 => ?_) (fun h1 => ?_)
 ·have hlt : k < l.length := by omega
  rw [drop_at hlt, idxF] at hr
  simp -implicitDefEqProofs only [h1, map_at hlt, Int.natCast_nonneg, vmp,↓vmd,seval]
  refine onB_dec (fun h2 => ?_) (fun h2 => ?_)
  ·rw [if_pos h2] at hr
   simp -implicitDefEqProofs only [h2, vmp,↓vmd,seval]
   rw [← h2, ← hr]
   exact gives_pure
  ·simp -implicitDefEqProofs only [h2, vmp,↓vmd,seval]
   refine onBk_to (k + 1) [] (by simp) rfl (by omega) ⟨hlt, by rw [← hr, if_neg h2]; rfl⟩ (by simp -implicitDefEqProofs only [next_at hlt hlen, kpp,seval]) (by simp -implicitDefEqProofs only [kpp,seval])
 ·simp -implicitDefEqProofs only [h1, vmp,↓vmd,seval]
  unfold c61_0
  simp -implicitDefEqProofs only [vmp,↓vmd,seval]
  rw [← hr, List.drop_of_length_le (by omega)]
  exact gives_pure
theorem contains_q (l : List Int) (x : Int) : FnQ Try.prog 84 [LI l, I x] [.bool (decide (x ∈ l))] := by
 refine k84.q (by simp) ?_
 unfold c84
 simp -implicitDefEqProofs only [*, vmp,↓vmd,seval]
 refine onC_q (index_q l x) rfl ?_
 simp -implicitDefEqProofs only [*, vmp,↓vmd,seval]
 rw [show decide (0 ≤ idxF x 0 l) = decide (x ∈ l) by rw [decide_eq_decide]; exact idxF_mem (Int.le_refl 0)]
 exact gives_pure
def infoF (f : Fo) (g : Int) : Inf := if g < 0 ∨ (f.gs.length : Int) ≤ g then ⟨0, 0, 0, .sl []⟩ else f.gs.getD g.toNat ⟨0, 0, 0, .sl []⟩
theorem info_at {f : Fo} {g : Int} (h1 : ¬ g < 0) (h2 : ¬ (f.gs.length : Int) ≤ g) : (f.gs.map inf)[g.toNat]? = some (inf (infoF f g)) := by
 rw [infoF, if_neg (by omega), List.getD_eq_getElem?_getD, List.getElem?_map, List.getElem?_eq_getElem (by omega)]
 rfl
theorem info_q (f : Fo) (g : Int) : FnQ Try.prog 86 [fo f, I g] [inf (infoF f g)] := by
 refine k86.q (by simp) ?_
 unfold c86
 simp -implicitDefEqProofs only [*, vmp,↓vmd,seval]
 refine onB_dec (fun h1 => ?_) (fun h1 => ?_)
 ·simp -implicitDefEqProofs only [*, vmp,↓vmd,seval]
  rw [infoF, if_pos (.inl h1)]
  exact gives_one rfl
 simp -implicitDefEqProofs only [*, vmp,↓vmd,seval]
 refine onIf_intro fun _ => ?_
 simp -implicitDefEqProofs only [*, vmp,↓vmd,seval]
 refine onB_dec (fun h2 => ?_) (fun h2 => ?_)
 ·simp -implicitDefEqProofs only [*, vmp,↓vmd,seval]
  rw [infoF, if_pos (.inr h2)]
  exact gives_one rfl
 simp -implicitDefEqProofs only [info_at h1 h2, show 0 ≤ g by omega, *, vmp,↓vmd,seval]
 exact gives_one rfl
theorem kind_q (f : Fo) (g : Int) : FnQ Try.prog 67 [fo f, I g] [I (infoF f g).kind] := by
 refine k67.q (by simp) ?_
 unfold c67
 simp -implicitDefEqProofs only [*, vmp,↓vmd,seval]
 refine onC_q (info_q f g) rfl ?_
 simp -implicitDefEqProofs only [*, vmp,↓vmd,seval]
 exact gives_pure
theorem attach_q (f : Fo) (g : Int) : FnQ Try.prog 87 [fo f, I g] [I (infoF f g).att] := by
 refine k87.q (by simp) ?_
 unfold c87
 simp -implicitDefEqProofs only [*, vmp,↓vmd,seval]
 refine onC_q (info_q f g) rfl ?_
 simp -implicitDefEqProofs only [*, vmp,↓vmd,seval]
 exact gives_pure
def setF (f : Fo) (n : Int) : List Int := if n < 0 ∨ (f.sets.length : Int) ≤ n then [] else f.sets.getD n.toNat []
theorem set_at {f : Fo} {n : Int} (h1 : ¬ n < 0) (h2 : ¬ (f.sets.length : Int) ≤ n) : (f.sets.map LI)[n.toNat]? = some (LI (setF f n)) := by
 rw [setF, if_neg (by omega), List.getD_eq_getElem?_getD, List.getElem?_map, List.getElem?_eq_getElem (by omega)]
 rfl
/-- the bits that two numbers share -/
abbrev andE (a b : Int) : Int := IntKind.wrap .i64 ((BitVec.ofInt (IntKind.bits .i64) a &&& BitVec.ofInt (IntKind.bits .i64) b).toNat : Int)
abbrev clsE (a : Int) : Int := IntKind.wrap .i64 (a.tdiv 256)
def marksF (f : Fo) (n fl g : Int) : Bool :=
 if andE fl 8 ≠ 0 then true else if andE fl 16 ≠ 0 ∧ g ∉ setF f n then true else decide (clsE fl ≠ 0) && decide (clsE fl ≠ (infoF f g).att)
theorem marks_q (f : Fo) (a b n fl g : Int) (s : V) : FnQ Try.prog 68 [fo f, lkV a b n s, I fl, I g] [.bool (marksF f n fl g)] := by
 refine k68.q (by simp) ?_
 unfold c68
 simp -implicitDefEqProofs only [*, vmp,↓vmd,seval]
 by_cases h8 : andE fl 8 = 0
 ·simp -implicitDefEqProofs only [h8, vmp,↓vmd,seval]
  -- the end of the function, behind the question of the set
  by_cases h16 : andE fl 16 = 0
  ·have tail : marksF f n fl g = (decide (clsE fl ≠ 0) && decide (clsE fl ≠ (infoF f g).att)) := by simp [marksF, h8, h16]
   rw [tail]
   by_cases hc : clsE fl = 0
   ·simp -implicitDefEqProofs only [h16, hc, vmp,↓vmd,seval]
    exact gives_pure
   ·simp -implicitDefEqProofs only [h16, hc, vmp,↓vmd,seval]
    refine onC_q (attach_q f g) rfl ?_
    simp -implicitDefEqProofs only [h16, hc, vmp,↓vmd,seval]
    exact gives_pure
  ·simp -implicitDefEqProofs only [h16, vmp,↓vmd,seval]
   have yes : g ∉ setF f n → marksF f n fl g = true := fun h => by simp [marksF, h8, h16, h]
   have tail : g ∈ setF f n → marksF f n fl g = (decide (clsE fl ≠ 0) && decide (clsE fl ≠ (infoF f g).att)) := fun h => by simp [marksF, h8, h]
   refine onB_dec (fun h1 => ?_) (fun h1 => ?_)
   ·simp -implicitDefEqProofs only [h1, vmp,↓vmd,seval]
    refine onIf_intro fun _ => ?_
    simp -implicitDefEqProofs only [h1, vmp,↓vmd,seval]
    refine onB_dec (fun h2 => ?_) (fun h2 => ?_)
    ·simp -implicitDefEqProofs only [h2, h1, set_at (f := f) (n := n) (by omega) (by omega), vmp,↓vmd,seval]
     refine onC_q (contains_q _ _) rfl ?_
     by_cases hm : g ∈ setF f n
     ·rw [tail hm]
      by_cases hc : clsE fl = 0
      ·simp -implicitDefEqProofs only [hm, hc, h1, h2, vmp,↓vmd,seval]
       exact gives_pure
      ·simp -implicitDefEqProofs only [hm, hc, h1, h2, vmp,↓vmd,seval]
       refine onC_q (attach_q f g) rfl ?_
       simp -implicitDefEqProofs only [hc, vmp,↓vmd,seval]
       exact gives_pure
     ·rw [yes hm]
      simp -implicitDefEqProofs only [hm, h1, h2, vmp,↓vmd,seval]
      exact gives_pure
    ·rw [yes (by rw [setF, if_pos (.inr (by omega))]; simp)]
     simp -implicitDefEqProofs only [h2, vmp,↓vmd,seval]
     exact gives_pure
   ·rw [yes (by rw [setF, if_pos (.inl (by omega))]; simp)]
    simp -implicitDefEqProofs only [h1, vmp,↓vmd,seval]
    exact gives_pure
 ·simp -implicitDefEqProofs only [h8, vmp,↓vmd,seval]
  rw [show marksF f n fl g = true by simp [marksF, h8]]
  exact gives_pure
def skipsF (f : Fo) (b n g : Int) : Bool :=
 if (infoF f g).kind = 1 then decide (andE (max b 0) 2 ≠ 0) else if (infoF f g).kind = 2 then decide (andE (max b 0) 4 ≠ 0) else if (infoF f g).kind = 3 then marksF f n (max b 0) g else false
theorem skips_q (f : Fo) (a b n g : Int) (s : V) : FnQ Try.prog 49 [fo f, lkV a b n s, I g] [.bool (skipsF f b n g)] := by
 refine k49.q (by simp) ?_
 unfold c49
 simp -implicitDefEqProofs only [*, vmp,↓vmd,seval]
 refine onC_q (kind_q f g) rfl ?_
 by_cases h1 : (infoF f g).kind = 1
 ·rw [show skipsF f b n g = decide (andE (max b 0) 2 ≠ 0) by simp [skipsF, h1]]
  simp -implicitDefEqProofs only [h1, vmp,↓vmd,seval]
  exact gives_pure
 by_cases h2 : (infoF f g).kind = 2
 ·rw [show skipsF f b n g = decide (andE (max b 0) 4 ≠ 0) by simp [skipsF, h2]]
  simp -implicitDefEqProofs only [h2, vmp,↓vmd,seval]
  exact gives_pure
 by_cases h3 : (infoF f g).kind = 3
 ·rw [show skipsF f b n g = marksF f n (max b 0) g by simp [skipsF, h3]]
  simp -implicitDefEqProofs only [h3, vmp,↓vmd,seval]
  refine onC_q (marks_q f a b n _ g s) rfl ?_
  simp -implicitDefEqProofs only [vmp,↓vmd,seval]
  exact gives_pure
 ·rw [show skipsF f b n g = false by simp [skipsF, h1, h2, h3]]
  simp -implicitDefEqProofs only [h1, h2, h3, vmp,↓vmd,seval]
  exact gives_pure
end Go.Proofs.Ytcjmkpkhjhjepaa.W
