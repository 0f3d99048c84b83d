/-
  What moves glyphs at a place: the program's functions. No condition but on sizes.
-/
import Derived.Test.YtcjmkpkhjhjepaaRow
import Derived.Test.YtcjmkpkhjhjepaaGls
import Derived.Test.YtcjmkpkhjhjepaaCIndex
import Derived.Test.YtcjmkpkhjhjepaaCloneG
import Derived.Test.YtcjmkpkhjhjepaaStops
namespace Go.Proofs.Ytcjmkpkhjhjepaa.W
open Go Go.Vm Go.Proofs
set_option maxRecDepth 100000
set_option linter.unusedSimpArgs false
set_option maxHeartbeats 4000000
/-! typecase/adjust.Pair -/
def c110_0 : AC :=
 (.seq (.reg [⟨some 43, none, .build [(.pure (.int .i64 0)), (.pure (.int .i64 0)), (.pure (.int .i64 0))] []⟩,
⟨some 44, none, .build [(.pure (.int .i64 0)), (.pure (.int .i64 0)), (.pure (.int .i64 0))] []⟩,
⟨none, none, .store 3 (.s 6) (.s 43)⟩,
⟨none, none, .store 3 (.s 7) (.s 44)⟩,
⟨some 8, none, .mov (.c (.pure (.bool false)))⟩])
 .ret)
def c110_1 : AC :=
 (.reg [⟨some 42, none, .bin .add (.s 16) (.c (.pure (.int .i64 1)))⟩,
⟨some 16, none, .mov (.s 42)⟩])
def c110_2 : AC :=
 (.seq (.reg [⟨some 24, none, .bin .lss (.s 23) (.s 22)⟩])
 (.seq (.cond (.s 24)
 .skip
 (.exit 2))
 (.seq (.block 3
 (.seq (.reg [⟨some 25, none, .idxA 8 (.s 21) (.s 23)⟩,
⟨some 26, none, .load true 8 (.s 25)⟩,
⟨some 12, none, .box (.c (.pure (.agg [(.int .i64 0), (.int .i64 0), (.int .i64 0), (.int .i64 0), (.int .i64 0), (.int .i64 0), (.int .i64 0), (.int .i64 0)])))⟩,
⟨none, none, .store 8 (.s 12) (.s 26)⟩])
 (.seq (.reg [⟨some 27, none, .fldA 0 (.s 12)⟩,
⟨some 28, none, .load false 1 (.s 27)⟩,
⟨some 29, none, .mov (.s 1)⟩,
⟨some 30, none, .bin .eql (.s 28) (.s 29)⟩,
⟨some 31, none, .mov (.s 30)⟩,
⟨some 32, some (31, true), .fldA 1 (.s 12)⟩,
⟨some 33, some (31, true), .load false 1 (.s 32)⟩,
⟨some 34, some (31, true), .mov (.s 2)⟩,
⟨some 35, some (31, true), .bin .eql (.s 33) (.s 34)⟩,
⟨some 36, none, .pick (.s 31) (.s 35) (.c (.pure (.bool false)))⟩])
 (.cond (.s 36)
 (.seq (.regs [⟨some 37, none, .fldA 2 (.s 12)⟩,
⟨some 38, none, .load true 3 (.s 37)⟩,
⟨some 39, none, .fldA 5 (.s 12)⟩,
⟨some 40, none, .load true 3 (.s 39)⟩]
⟨none, none, .store 3 (.s 6) (.s 38)⟩
[⟨some 40, none, .load true 3 (.s 39)⟩]
[⟨none, none, .store 3 (.s 7) (.s 40)⟩,
⟨some 8, none, .mov (.c (.pure (.bool true)))⟩])
 .ret)
 .skip))))
 (.reg [⟨some 41, none, .bin .add (.s 23) (.c (.pure (.int .i64 1)))⟩,
⟨some 23, none, .mov (.s 41)⟩]))))
def c110_3 : AC :=
 (.seq (.reg [⟨some 17, none, .bin .lss (.s 16) (.s 15)⟩])
 (.seq (.cond (.s 17)
 .skip
 (.exit 0))
 (.seq (.block 1
 (.seq (.reg [⟨some 18, none, .idxA 12 (.s 14) (.s 16)⟩,
⟨some 19, none, .load true 12 (.s 18)⟩,
⟨some 10, none, .box (.c (.agg [.empty, .empty, .empty, .empty, .empty, .empty, .empty, .empty, .empty, .empty, .empty, .empty]))⟩,
⟨none, none, .store 12 (.s 10) (.s 19)⟩])
 (.seq (.reg [⟨some 20, none, .fldA 8 (.s 10)⟩,
⟨some 21, none, .load false 1 (.s 20)⟩,
⟨some 22, none, .len (.s 21)⟩,
⟨some 23, none, .mov (.c (.pure (.int .i64 0)))⟩])
 (.block 2
 (.loop c110_2)))))
 c110_1)))
def c110 : AC :=
 (.seq (.reg [⟨some 3, none, .box (.s 0)⟩,
⟨some 6, none, .box (.c (.pure (.agg [(.int .i64 0), (.int .i64 0), (.int .i64 0)])))⟩,
⟨some 7, none, .box (.c (.pure (.agg [(.int .i64 0), (.int .i64 0), (.int .i64 0)])))⟩,
⟨some 8, none, .mov (.c (.pure (.bool false)))⟩])
 (.seq (.seq (.reg [⟨some 13, none, .fldA 3 (.s 3)⟩,
⟨some 14, none, .load false 1 (.s 13)⟩,
⟨some 15, none, .len (.s 14)⟩,
⟨some 16, none, .mov (.c (.pure (.int .i64 0)))⟩])
 (.block 0
 (.loop c110_3)))
 c110_0))
theorem k110 : OkF 110 Try.f110 c110 [.c 6 true 3, .c 7 true 3, .t 8] 45 := ⟨Try.func110, by kernel_rfl, by kernel_rfl, by kernel_rfl, Try.ntmps110⟩
/-! typecase/adjust.alone -/
def c108_0 : AC :=
 (.seq (.reg [⟨some 38, none, .build [(.pure (.int .i64 0)), (.pure (.int .i64 0)), (.pure (.int .i64 0))] []⟩,
⟨none, none, .store 3 (.s 4) (.s 38)⟩,
⟨some 5, none, .mov (.c (.pure (.bool false)))⟩])
 .ret)
def c108_1 : AC :=
 (.seq (.reg [⟨some 14, none, .bin .lss (.s 13) (.s 12)⟩])
 (.seq (.cond (.s 14)
 .skip
 (.exit 0))
 (.seq (.block 1
 (.seq (.reg [⟨some 15, none, .idxA 12 (.s 11) (.s 13)⟩,
⟨some 16, none, .load true 12 (.s 15)⟩,
⟨some 7, none, .box (.c (.agg [.empty, .empty, .empty, .empty, .empty, .empty, .empty, .empty, .empty, .empty, .empty, .empty]))⟩,
⟨none, none, .store 12 (.s 7) (.s 16)⟩])
 (.seq (.reg [⟨some 18, none, .fldA 0 (.s 7)⟩,
⟨some 19, none, .load false 1 (.s 18)⟩,
⟨some 20, none, .mov (.s 1)⟩,
⟨some 21, none, .call 43 [(.s 19), (.s 20)]⟩,
⟨some 17, none, .mov (.s 21)⟩,
⟨some 22, none, .ext 0 (.s 17)⟩,
⟨some 23, none, .ext 1 (.s 17)⟩,
⟨some 8, none, .mov (.s 22)⟩,
⟨some 9, none, .mov (.s 23)⟩])
 (.seq (.reg [⟨some 24, none, .mov (.s 9)⟩,
⟨some 25, none, .mov (.s 24)⟩,
⟨some 26, some (25, true), .mov (.s 8)⟩,
⟨some 27, some (25, true), .fldA 7 (.s 7)⟩,
⟨some 28, some (25, true), .load false 1 (.s 27)⟩,
⟨some 29, some (25, true), .len (.s 28)⟩,
⟨some 30, some (25, true), .bin .lss (.s 26) (.s 29)⟩,
⟨some 31, none, .pick (.s 25) (.s 30) (.c (.pure (.bool false)))⟩])
 (.cond (.s 31)
 (.seq (.reg [⟨some 32, none, .fldA 7 (.s 7)⟩,
⟨some 33, none, .load false 1 (.s 32)⟩,
⟨some 34, none, .mov (.s 8)⟩,
⟨some 35, none, .idxA 3 (.s 33) (.s 34)⟩,
⟨some 36, none, .load true 3 (.s 35)⟩,
⟨none, none, .store 3 (.s 4) (.s 36)⟩,
⟨some 5, none, .mov (.c (.pure (.bool true)))⟩])
 .ret)
 .skip)))))
 (.reg [⟨some 37, none, .bin .add (.s 13) (.c (.pure (.int .i64 1)))⟩,
⟨some 13, none, .mov (.s 37)⟩]))))
def c108 : AC :=
 (.seq (.reg [⟨some 2, none, .box (.s 0)⟩,
⟨some 4, none, .box (.c (.pure (.agg [(.int .i64 0), (.int .i64 0), (.int .i64 0)])))⟩,
⟨some 5, none, .mov (.c (.pure (.bool false)))⟩])
 (.seq (.seq (.reg [⟨some 10, none, .fldA 3 (.s 2)⟩,
⟨some 11, none, .load false 1 (.s 10)⟩,
⟨some 12, none, .len (.s 11)⟩,
⟨some 13, none, .mov (.c (.pure (.int .i64 0)))⟩])
 (.block 0
 (.loop c108_1)))
 c108_0))
theorem k108 : OkF 108 Try.f108 c108 [.c 4 true 3, .t 5] 39 := ⟨Try.func108, by kernel_rfl, by kernel_rfl, by kernel_rfl, Try.ntmps108⟩
/-! typecase/adjust.Add -/
def c109 : AC :=
 (.seq (.reg [⟨some 2, none, .box (.s 0)⟩,
⟨some 3, none, .box (.s 1)⟩,
⟨some 4, none, .box (.c (.pure (.agg [(.int .i64 0), (.int .i64 0), (.int .i64 0), (.int .i64 0), (.int .i64 0), (.int .i64 0), (.int .i64 0), (.int .i64 0), (.int .i64 0), (.int .i64 0)])))⟩])
 (.seq (.reg [⟨some 5, none, .fldA 2 (.s 2)⟩,
⟨some 6, none, .load false 1 (.s 5)⟩,
⟨some 7, none, .fldA 0 (.s 3)⟩,
⟨some 8, none, .load false 1 (.s 7)⟩,
⟨some 9, none, .bin .add (.s 6) (.s 8)⟩,
⟨some 10, none, .fldA 2 (.s 2)⟩,
⟨none, none, .store 1 (.s 10) (.s 9)⟩])
 (.seq (.reg [⟨some 11, none, .fldA 3 (.s 2)⟩,
⟨some 12, none, .load false 1 (.s 11)⟩,
⟨some 13, none, .fldA 1 (.s 3)⟩,
⟨some 14, none, .load false 1 (.s 13)⟩,
⟨some 15, none, .bin .add (.s 12) (.s 14)⟩,
⟨some 16, none, .fldA 3 (.s 2)⟩,
⟨none, none, .store 1 (.s 16) (.s 15)⟩])
 (.seq (.reg [⟨some 17, none, .fldA 4 (.s 2)⟩,
⟨some 18, none, .load false 1 (.s 17)⟩,
⟨some 19, none, .fldA 2 (.s 3)⟩,
⟨some 20, none, .load false 1 (.s 19)⟩,
⟨some 21, none, .bin .add (.s 18) (.s 20)⟩,
⟨some 22, none, .fldA 4 (.s 2)⟩,
⟨none, none, .store 1 (.s 22) (.s 21)⟩])
 (.seq (.reg [⟨some 23, none, .load true 10 (.s 2)⟩,
⟨none, none, .store 10 (.s 4) (.s 23)⟩])
 .ret)))))
theorem k109 : OkF 109 Try.f109 c109 [.c 4 true 10] 24 := ⟨Try.func109, by kernel_rfl, by kernel_rfl, by kernel_rfl, Try.ntmps109⟩
/-! typecase/adjust.Apply -/
def c103 : AC :=
 (.seq (.reg [⟨some 4, none, .box (.s 0)⟩,
⟨some 5, none, .box (.s 1)⟩,
⟨some 8, none, .mov (.c .empty)⟩,
⟨some 9, none, .mov (.c (.pure (.int .i64 0)))⟩,
⟨some 10, none, .mov (.c (.pure (.bool false)))⟩])
 (.seq (.seq (.reg [⟨some 19, none, .mov (.s 3)⟩,
⟨some 20, none, .bin .lss (.s 19) (.c (.pure (.int .i64 0)))⟩,
⟨some 21, none, .mov (.s 20)⟩,
⟨some 22, some (21, false), .mov (.s 3)⟩,
⟨some 23, some (21, false), .mov (.s 2)⟩,
⟨some 24, some (21, false), .len (.s 23)⟩,
⟨some 25, some (21, false), .bin .geq (.s 22) (.s 24)⟩,
⟨some 26, none, .pick (.s 21) (.c (.pure (.bool true))) (.s 25)⟩])
 (.cond (.s 26)
 (.seq (.reg [⟨some 8, none, .mov (.c .empty)⟩,
⟨some 9, none, .mov (.c (.pure (.int .i64 0)))⟩,
⟨some 10, none, .mov (.c (.pure (.bool false)))⟩])
 .ret)
 .skip))
 (.seq (.seq (.reg [⟨some 27, none, .fldA 0 (.s 5)⟩,
⟨some 28, none, .load false 1 (.s 27)⟩])
 (.block 0
 (.seq (.reg [⟨some 30, none, .bin .eql (.s 28) (.c (.pure (.int .i64 6)))⟩,
⟨some 29, none, .mov (.s 30)⟩])
 (.cond (.s 29)
 (.seq (.regq [⟨some 32, none, .load true 4 (.s 5)⟩,
⟨some 33, none, .mov (.s 2)⟩,
⟨some 34, none, .mov (.s 3)⟩,
⟨some 35, none, .idxA 10 (.s 33) (.s 34)⟩,
⟨some 36, none, .fldA 0 (.s 35)⟩,
⟨some 37, none, .load false 1 (.s 36)⟩,
⟨some 38, none, .call 108 [(.s 32), (.s 37)]⟩,
⟨some 31, none, .mov (.s 38)⟩,
⟨some 39, none, .ext 0 (.s 31)⟩,
⟨some 40, none, .ext 1 (.s 31)⟩,
⟨some 11, none, .box (.c (.pure (.agg [(.int .i64 0), (.int .i64 0), (.int .i64 0)])))⟩]
[⟨none, none, .store 3 (.s 11) (.s 39)⟩,
⟨some 12, none, .mov (.s 40)⟩])
 (.seq (.seq (.reg [⟨some 41, none, .mov (.s 12)⟩,
⟨some 42, none, .un .not (.s 41)⟩])
 (.cond (.s 42)
 (.seq (.reg [⟨some 8, none, .mov (.c .empty)⟩,
⟨some 9, none, .mov (.c (.pure (.int .i64 0)))⟩,
⟨some 10, none, .mov (.c (.pure (.bool false)))⟩])
 .ret)
 .skip))
 (.seq (.reg [⟨some 43, none, .mov (.s 2)⟩,
⟨some 44, none, .call 36 [(.s 43)]⟩,
⟨some 13, none, .mov (.s 44)⟩])
 (.seq (.regq [⟨some 45, none, .mov (.s 13)⟩,
⟨some 46, none, .mov (.s 3)⟩,
⟨some 47, none, .mov (.s 13)⟩,
⟨some 48, none, .mov (.s 3)⟩,
⟨some 49, none, .idxA 10 (.s 47) (.s 48)⟩,
⟨some 50, none, .load true 10 (.s 49)⟩,
⟨some 51, none, .load true 3 (.s 11)⟩,
⟨some 52, none, .call 109 [(.s 50), (.s 51)]⟩]
[⟨some 53, none, .idxA 10 (.s 45) (.s 46)⟩,
⟨none, none, .store 10 (.s 53) (.s 52)⟩])
 (.seq (.reg [⟨some 54, none, .mov (.s 13)⟩,
⟨some 55, none, .mov (.s 3)⟩,
⟨some 56, none, .bin .add (.s 55) (.c (.pure (.int .i64 1)))⟩,
⟨some 8, none, .mov (.s 54)⟩,
⟨some 9, none, .mov (.s 56)⟩,
⟨some 10, none, .mov (.c (.pure (.bool true)))⟩])
 .ret)))))
 (.seq (.reg [⟨some 58, none, .bin .eql (.s 28) (.c (.pure (.int .i64 7)))⟩,
⟨some 57, none, .mov (.s 58)⟩])
 (.cond (.s 57)
 (.seq (.reg [⟨some 59, none, .load true 6 (.s 4)⟩,
⟨some 60, none, .load true 4 (.s 5)⟩,
⟨some 61, none, .mov (.s 2)⟩,
⟨some 62, none, .mov (.s 3)⟩,
⟨some 63, none, .call 59 [(.s 59), (.s 60), (.s 61), (.s 62)]⟩,
⟨some 14, none, .mov (.s 63)⟩])
 (.seq (.seq (.reg [⟨some 64, none, .mov (.s 14)⟩,
⟨some 65, none, .bin .eql (.s 64) (.c (.pure (.int .i64 (-1))))⟩])
 (.cond (.s 65)
 (.seq (.reg [⟨some 8, none, .mov (.c .empty)⟩,
⟨some 9, none, .mov (.c (.pure (.int .i64 0)))⟩,
⟨some 10, none, .mov (.c (.pure (.bool false)))⟩])
 .ret)
 .skip))
 (.seq (.regq [⟨some 67, none, .load true 4 (.s 5)⟩,
⟨some 68, none, .mov (.s 2)⟩,
⟨some 69, none, .mov (.s 3)⟩,
⟨some 70, none, .idxA 10 (.s 68) (.s 69)⟩,
⟨some 71, none, .fldA 0 (.s 70)⟩,
⟨some 72, none, .load false 1 (.s 71)⟩,
⟨some 73, none, .mov (.s 2)⟩,
⟨some 74, none, .mov (.s 14)⟩,
⟨some 75, none, .idxA 10 (.s 73) (.s 74)⟩,
⟨some 76, none, .fldA 0 (.s 75)⟩,
⟨some 77, none, .load false 1 (.s 76)⟩,
⟨some 78, none, .call 110 [(.s 67), (.s 72), (.s 77)]⟩,
⟨some 66, none, .mov (.s 78)⟩,
⟨some 79, none, .ext 0 (.s 66)⟩,
⟨some 80, none, .ext 1 (.s 66)⟩,
⟨some 81, none, .ext 2 (.s 66)⟩,
⟨some 15, none, .box (.c (.pure (.agg [(.int .i64 0), (.int .i64 0), (.int .i64 0)])))⟩,
⟨some 16, none, .box (.c (.pure (.agg [(.int .i64 0), (.int .i64 0), (.int .i64 0)])))⟩]
[⟨none, none, .store 3 (.s 15) (.s 79)⟩,
⟨none, none, .store 3 (.s 16) (.s 80)⟩,
⟨some 17, none, .mov (.s 81)⟩])
 (.seq (.seq (.reg [⟨some 82, none, .mov (.s 17)⟩,
⟨some 83, none, .un .not (.s 82)⟩])
 (.cond (.s 83)
 (.seq (.reg [⟨some 8, none, .mov (.c .empty)⟩,
⟨some 9, none, .mov (.c (.pure (.int .i64 0)))⟩,
⟨some 10, none, .mov (.c (.pure (.bool false)))⟩])
 .ret)
 .skip))
 (.seq (.reg [⟨some 84, none, .mov (.s 2)⟩,
⟨some 85, none, .call 36 [(.s 84)]⟩,
⟨some 18, none, .mov (.s 85)⟩])
 (.seq (.regq [⟨some 86, none, .mov (.s 18)⟩,
⟨some 87, none, .mov (.s 3)⟩,
⟨some 88, none, .mov (.s 18)⟩,
⟨some 89, none, .mov (.s 14)⟩,
⟨some 90, none, .mov (.s 18)⟩,
⟨some 91, none, .mov (.s 3)⟩,
⟨some 92, none, .idxA 10 (.s 90) (.s 91)⟩,
⟨some 93, none, .load true 10 (.s 92)⟩,
⟨some 94, none, .load true 3 (.s 15)⟩,
⟨some 95, none, .call 109 [(.s 93), (.s 94)]⟩,
⟨some 96, none, .mov (.s 18)⟩,
⟨some 97, none, .mov (.s 14)⟩,
⟨some 98, none, .idxA 10 (.s 96) (.s 97)⟩,
⟨some 99, none, .load true 10 (.s 98)⟩,
⟨some 100, none, .load true 3 (.s 16)⟩,
⟨some 101, none, .call 109 [(.s 99), (.s 100)]⟩,
⟨some 102, none, .idxA 10 (.s 86) (.s 87)⟩]
[⟨none, none, .store 10 (.s 102) (.s 95)⟩,
⟨some 103, none, .idxA 10 (.s 88) (.s 89)⟩,
⟨none, none, .store 10 (.s 103) (.s 101)⟩])
 (.seq (.seq (.reg [⟨some 104, none, .load true 3 (.s 16)⟩,
⟨some 105, none, .build [(.pure (.int .i64 0)), (.pure (.int .i64 0)), (.pure (.int .i64 0))] []⟩,
⟨some 106, none, .eqv true [.i, .i, .i] (.s 104) (.s 105)⟩])
 (.cond (.s 106)
 (.reg [⟨some 107, none, .mov (.s 14)⟩,
⟨some 108, none, .bin .add (.s 107) (.c (.pure (.int .i64 1)))⟩,
⟨some 14, none, .mov (.s 108)⟩])
 .skip))
 (.seq (.reg [⟨some 109, none, .mov (.s 18)⟩,
⟨some 110, none, .mov (.s 14)⟩,
⟨some 8, none, .mov (.s 109)⟩,
⟨some 9, none, .mov (.s 110)⟩,
⟨some 10, none, .mov (.c (.pure (.bool true)))⟩])
 .ret))))))))
 .skip))))))
 (.seq (.reg [⟨some 8, none, .mov (.c .empty)⟩,
⟨some 9, none, .mov (.c (.pure (.int .i64 0)))⟩,
⟨some 10, none, .mov (.c (.pure (.bool false)))⟩])
 .ret))))
theorem k103 : OkF 103 Try.f103 c103 [.t 8, .t 9, .t 10] 111 := ⟨Try.func103, by kernel_rfl, by kernel_rfl, by kernel_rfl, Try.ntmps103⟩
def findPr : List Pr → Int → Int → Option (Sp × Sp)
 | [], _, _ => none
 | p :: r, a, b => if p.a = a ∧ p.b = b then some (p.x, p.y) else findPr r a b
def findSub : List Sub → Int → Int → Option (Sp × Sp)
 | [], _, _ => none
 | s :: r, a, b => match findPr s.pairs a b with
  | some q => some q
  | none => findSub r a b
def zero3 : Sp := ⟨0, 0, 0⟩
def pairF (o : Option (Sp × Sp)) : List V := match o with
 | some q => [sp q.1, sp q.2, .bool true]
 | none => [sp zero3, sp zero3, .bool false]
theorem pair_q (k : Lk) (a b : Int) : FnQ Try.prog 110 [lk k, I a, I b] (pairF (findSub k.subs a b)) := by
 refine k110.q (by simp) ?_
 unfold c110
 simp -implicitDefEqProofs only [*, vmp,↓vmd,seval]
 refine onIf_intro fun hlen => ?_
 simp -implicitDefEqProofs only [*, vmp,↓vmd,seval]
 refine loop_at (T := Nat) (fun i => [(16, .pure (I i)), (15, .pure (I k.subs.length)), (14, .pure (.sl (k.subs.map sub))), (1, .pure (I a)), (2, .pure (I b)), (6, .ptr 0 0 0), (7, .ptr 1 0 0)])
  (fun _ => [⟨[.pure (sp zero3)], 3, .live⟩, ⟨[.pure (sp zero3)], 3, .live⟩]) (fun i => i ≤ k.subs.length ∧ findSub (k.subs.drop i) a b = findSub k.subs a b) (fun i => k.subs.length - i)
  0 [1, 2] (by simp) rfl ⟨by simp, by simp⟩ (by simp -implicitDefEqProofs only [kpp,seval]) (by simp -implicitDefEqProofs only [zero3, kpp,seval]) ?_
 rintro i ⟨hi, hr⟩
 unfold c110_3
 simp -implicitDefEqProofs only [vmp,↓vmd,seval]
 refine onB_dec (fun h1 => ?_) (fun h1 => ?_)
 ·have hlt : i < k.subs.length := by omega
  rw [drop_at hlt] at hr
  simp -implicitDefEqProofs only [map_at hlt, Int.natCast_nonneg, *, vmp,↓vmd,seval]
  refine onIf_intro fun hl2 => ?_
  simp -implicitDefEqProofs only [vmp,↓vmd,seval]
  refine loop_at (T := Nat) (fun j => [(23, .pure (I j)), (22, .pure (I k.subs[i].pairs.length)), (21, .pure (.sl (k.subs[i].pairs.map pr))), (16, .pure (I i)), (15, .pure (I k.subs.length)), (14, .pure (.sl (k.subs.map sub))), (1, .pure (I a)), (2, .pure (I b)), (6, .ptr 0 0 0), (7, .ptr 1 0 0)])
   (fun _ => [⟨[.pure (sp zero3)], 3, .live⟩, ⟨[.pure (sp zero3)], 3, .live⟩]) (fun j => j ≤ k.subs[i].pairs.length ∧ findPr (k.subs[i].pairs.drop j) a b = findPr k.subs[i].pairs a b) (fun j => k.subs[i].pairs.length - j)
   0 [0, 1] (by simp) rfl ⟨by simp, by simp⟩ (by simp -implicitDefEqProofs only [kpp,seval]) (by simp -implicitDefEqProofs only [kpp,seval]) ?_
  rintro j ⟨hj, hq⟩
  unfold c110_2
  simp -implicitDefEqProofs only [vmp,↓vmd,seval]
  refine onB_dec (fun h2 => ?_) (fun h2 => ?_)
  ·have hlt2 : j < k.subs[i].pairs.length := by omega
   rw [drop_at hlt2] at hq
   simp -implicitDefEqProofs only [h2, map_at hlt2, Int.natCast_nonneg, vmp,↓vmd,seval]
   refine onB_dec (fun h3 => ?_) (fun h3 => ?_)
   ·simp -implicitDefEqProofs only [h3, vmp,↓vmd,seval]
    refine onB_dec (fun h4 => ?_) (fun h4 => ?_)
    ·simp -implicitDefEqProofs only [h4, vmp,↓vmd,seval]
     rw [← hr, findSub, ← hq, findPr, if_pos ⟨h3, h4⟩]
     exact gives_tup rfl (by simp)
    ·simp -implicitDefEqProofs only [h4, vmp,↓vmd,seval]
     refine onBk_to (j + 1) [0, 1] (by simp) rfl (by omega) ⟨hlt2, by rw [← hq, findPr, if_neg (by simp [h4])]⟩ (by simp -implicitDefEqProofs only [next_at hlt2 hl2, kpp,seval]) (by simp -implicitDefEqProofs only [kpp,seval])
   ·simp -implicitDefEqProofs only [h3, vmp,↓vmd,seval]
    refine onBk_to (j + 1) [0, 1] (by simp) rfl (by omega) ⟨hlt2, by rw [← hq, findPr, if_neg (by simp [h3])]⟩ (by simp -implicitDefEqProofs only [next_at hlt2 hl2, kpp,seval]) (by simp -implicitDefEqProofs only [kpp,seval])
  ·simp -implicitDefEqProofs only [h2, vmp,↓vmd,seval]
   unfold c110_1
   simp -implicitDefEqProofs only [vmp,↓vmd,seval]
   rw [List.drop_of_length_le (by omega)] at hq
   refine onBk_to (i + 1) [0, 1] (by simp) rfl (by omega) ⟨hlt, by rw [← hr, findSub, ← hq]; rfl⟩ (by simp -implicitDefEqProofs only [next_at hlt hlen, kpp,seval]) (by simp -implicitDefEqProofs only [kpp,seval])
 ·simp -implicitDefEqProofs only [*, vmp,↓vmd,seval]
  unfold c110_0
  simp -implicitDefEqProofs only [*, vmp,↓vmd,seval]
  rw [List.drop_of_length_le (by omega)] at hr
  rw [← hr]
  exact gives_tup rfl (by simp)
def pickV (s : Sub) (g : Int) : Option Sp := if 0 ≤ idxF g 0 s.cover then s.values[(idxF g 0 s.cover).toNat]? else none
def aloneF : List Sub → Int → Option Sp
 | [], _ => none
 | s :: r, g => match pickV s g with
  | some v => some v
  | none => aloneF r g
def oneR : Option Sp → List V
 | some v => [sp v, .bool true]
 | none => [sp zero3, .bool false]
theorem alone_q (k : Lk) (g : Int) : FnQ Try.prog 108 [lk k, I g] (oneR (aloneF k.subs g)) := by
 refine k108.q (by simp) ?_
 unfold c108
 simp -implicitDefEqProofs only [*, vmp,↓vmd,seval]
 refine onIf_intro fun hlen => ?_
 simp -implicitDefEqProofs only [*, vmp,↓vmd,seval]
 refine loop_at (T := Nat) (fun i => [(13, .pure (I i)), (12, .pure (I k.subs.length)), (11, .pure (.sl (k.subs.map sub))), (1, .pure (I g)), (4, .ptr 0 0 0)]) (fun _ => [⟨[.pure (sp zero3)], 3, .live⟩]) (fun i => i ≤ k.subs.length ∧ aloneF (k.subs.drop i) g = aloneF k.subs g) (fun i => k.subs.length - i)
  0 [1] (by simp) rfl ⟨by simp, by simp⟩ (by simp -implicitDefEqProofs only [kpp,seval]) (by simp -implicitDefEqProofs only [zero3, kpp,seval]) ?_
 rintro i ⟨hi, hr⟩
 unfold c108_1
 simp -implicitDefEqProofs only [vmp,↓vmd,seval]
 refine onB_dec (fun h1 => ?_) (fun h1 => ?_)
 ·have hlt : i < k.subs.length := by omega
  rw [drop_at hlt, aloneF] at hr
  obtain ⟨s, hs'⟩ : ∃ s, s = k.subs[i] := ⟨_, rfl⟩
  have hmap : (k.subs.map sub)[i]? = some (sub s) := by rw [map_at hlt, hs']
  rw [← hs'] at hr
  simp -implicitDefEqProofs only [h1, hmap, Int.natCast_nonneg, vmp,↓vmd,seval]
  refine onC_q (cindex_q _ _) rfl ?_
  (first | apply envO | apply envQ); simp -implicitDefEqProofs only [vmp,↓vmd,seval]; rfl
  by_cases h2 : 0 ≤ idxF g 0 s.cover
  ·have hmx : max (idxF g 0 s.cover) 0 = idxF g 0 s.cover := by omega
   rw [hmx]
   simp -implicitDefEqProofs only [h2, vmp,↓vmd,seval]
   refine onIf_intro fun _ => ?_
   simp -implicitDefEqProofs only [h2, vmp,↓vmd,seval]
   refine onB_dec (fun h3 => ?_) (fun h3 => ?_)
   ·have hv : (s.values.map sp)[(idxF g 0 s.cover).toNat]? = some (sp (s.values[(idxF g 0 s.cover).toNat]'(by omega))) := by
     rw [List.getElem?_map, List.getElem?_eq_getElem (by omega)]; rfl
    have hp : pickV s g = some (s.values[(idxF g 0 s.cover).toNat]'(by omega)) := by rw [pickV, if_pos h2, List.getElem?_eq_getElem (by omega)]
    rw [hp] at hr
    simp -implicitDefEqProofs only [h3, h2, hv, vmp,↓vmd,seval]
    rw [← hr]
    exact gives_tup rfl (by simp)
   ·have hp : pickV s g = none := by rw [pickV, if_pos h2, List.getElem?_eq_none (by omega)]
    rw [hp] at hr
    simp -implicitDefEqProofs only [h3, vmp,↓vmd,seval]
    refine onBk_to (i + 1) [0] (by simp) rfl (by omega) ⟨hlt, hr⟩ (by simp -implicitDefEqProofs only [next_at hlt hlen, kpp,seval]) (by simp -implicitDefEqProofs only [kpp,seval])
  ·have hp : pickV s g = none := by rw [pickV, if_neg h2]
   rw [hp] at hr
   simp -implicitDefEqProofs only [h2, vmp,↓vmd,seval]
   refine onBk_to (i + 1) [0] (by simp) rfl (by omega) ⟨hlt, hr⟩ (by simp -implicitDefEqProofs only [next_at hlt hlen, kpp,seval]) (by simp -implicitDefEqProofs only [kpp,seval])
 ·simp -implicitDefEqProofs only [h1, vmp,↓vmd,seval]
  unfold c108_0
  simp -implicitDefEqProofs only [vmp,↓vmd,seval]
  rw [List.drop_of_length_le (by omega)] at hr
  rw [← hr]
  exact gives_tup rfl (by simp)
abbrev gla (a0 a1 a2 a3 a4 a5 a6 a7 a8 a9 : Int) : V := .agg [I a0, I a1, I a2, I a3, I a4, I a5, I a6, I a7, I a8, I a9]
theorem add_q (a0 a1 a2 a3 a4 a5 a6 a7 a8 a9 b0 b1 b2 : Int) : FnQ Try.prog 109 [gla a0 a1 a2 a3 a4 a5 a6 a7 a8 a9, .agg [I b0, I b1, I b2]] [gla a0 a1 (IntKind.wrap .i64 (a2 + b0)) (IntKind.wrap .i64 (a3 + b1)) (IntKind.wrap .i64 (a4 + b2)) a5 a6 a7 a8 a9] := by
 refine k109.q (by simp) ?_
 unfold c109
 simp -implicitDefEqProofs only [*, vmp,↓vmd,seval]
 exact gives_pure
def addG (g : Gl) (v : Sp) : Gl := ⟨g.id, g.cl, IntKind.wrap .i64 (g.adv + v.f), IntKind.wrap .i64 (g.dx + v.t), IntKind.wrap .i64 (g.dy + v.v), g.to, g.hang, g.lig, g.comp, g.mask⟩
theorem addG_q (g : Gl) (v : Sp) : FnQ Try.prog 109 [gl g, sp v] [gl (addG g v)] := add_q g.id g.cl g.adv g.dx g.dy g.to g.hang g.lig g.comp g.mask v.f v.t v.v
def applyF (f : Fo) (k : Lk) (ls : List Gl) (x : Int) : Option (List Gl × Int) :=
 if x < 0 ∨ (ls.length : Int) ≤ x then none
 else if k.kind = 6 then (match aloneF k.subs (glAt ls x).id with
  | some v => some (ls.set x.toNat (addG (glAt ls x) v), IntKind.wrap .i64 (x + 1))
  | none => none)
 else if k.kind = 7 then
  (if nextF (seesF f k.flags k.set ls) ls.length x = -1 then none
  else match findSub k.subs (glAt ls x).id (glAt ls (nextF (seesF f k.flags k.set ls) ls.length x)).id with
   | some q => some ((ls.set x.toNat (addG (glAt ls x) q.1)).set (nextF (seesF f k.flags k.set ls) ls.length x).toNat (addG (glAt ls (nextF (seesF f k.flags k.set ls) ls.length x)) q.2),
     if q.2 = zero3 then nextF (seesF f k.flags k.set ls) ls.length x else IntKind.wrap .i64 (nextF (seesF f k.flags k.set ls) ls.length x + 1))
   | none => none)
 else none
theorem zero3_b (s : Sp) : (!(decide (s.f = 0) && (decide (s.t = 0) && decide (s.v = 0)))) = !decide (s = zero3) := by
 cases s
 simp [zero3]
def adjR : Option (List Gl × Int) → List V
 | some q => [.sl (q.1.map gl), I q.2, .bool true]
 | none => [.sl [], I 0, .bool false]
theorem apply_q (f : Fo) (k : Lk) (ls : List Gl) (hl : ls.length ≤ 1000) (x : Int) : FnQ Try.prog 103 [fo f, lk k, .sl (ls.map gl), I x] (adjR (applyF f k ls x)) := by
 refine k103.q (by simp) ?_
 unfold c103
 simp -implicitDefEqProofs only [*, vmp,↓vmd,seval]
 by_cases h0 : x < 0
 ·simp -implicitDefEqProofs only [h0, vmp,↓vmd,seval]
  rw [applyF, if_pos (.inl h0)]
  exact gives_tup rfl (by simp)
 simp -implicitDefEqProofs only [h0, vmp,↓vmd,seval]
 refine onIf_intro fun _ => ?_
 simp -implicitDefEqProofs only [h0, vmp,↓vmd,seval]
 by_cases h1 : (ls.length : Int) ≤ x
 ·simp -implicitDefEqProofs only [h1, vmp,↓vmd,seval]
  rw [applyF, if_pos (.inr h1)]
  exact gives_tup rfl (by simp)
 rw [applyF, if_neg (by omega)]
 simp -implicitDefEqProofs only [h1, vmp,↓vmd,seval]
 have hx0 : 0 ≤ x := by omega
 have hx1 : x < ls.length := by omega
 have hg := glAt_map hx0 hx1
 have hgr := glAt_row hx0 hx1
 by_cases h6 : k.kind = 6
 ·rw [if_pos h6]
  simp -implicitDefEqProofs only [h6, hx0, hx1, hg, vmp,↓vmd,seval]
  refine onQ_q (alone_q k _) rfl ?_
  (first | apply envO | apply envQ); simp -implicitDefEqProofs only [vmp,↓vmd,seval]; rfl
  cases hc : aloneF k.subs (glAt ls x).id with
  | none =>
   simp -implicitDefEqProofs only [oneR, vmp,↓vmd,seval]
   exact gives_tup rfl (by simp)
  | some v =>
   simp -implicitDefEqProofs only [oneR, vmp,↓vmd,seval]
   refine onC_fr (cloneG_c ls hl) [] (by simp) trivial rfl rfl (by simp) ?_
   (first | apply envO | apply envQ); simp -implicitDefEqProofs only [vmp,↓vmd,seval]; rfl
   simp -implicitDefEqProofs only [hx0, hx1, hgr, vmp,↓vmd,seval]
   refine onQ_q (addG_q _ _) rfl ?_
   (first | apply envO | apply envQ); simp -implicitDefEqProofs only [vmp,↓vmd,seval]; rfl
   simp -implicitDefEqProofs only [hx0, hx1, hgr, vmp,↓vmd,seval]
   rw [row_set (f := gl)]
   exact gives_tup (toVs_of (toV_rowN rfl (.inr ⟨rfl, rfl⟩) (by simp)) rfl) (by simp)
 rw [if_neg h6]
 by_cases h7 : k.kind = 7
 ·rw [if_pos h7]
  have hnq := next_q f k.kind k.flags k.set (.sl (k.subs.map sub)) ls x hl
  have hin := nextF_in (p := seesF f k.flags k.set ls) (n := ls.length) (a := x)
  simp -implicitDefEqProofs only [h6, h7, vmp,↓vmd,seval]
  generalize nextF (seesF f k.flags k.set ls) ls.length x = y at *
  refine onC_q hnq rfl ?_
  (first | apply envO | apply envQ); simp -implicitDefEqProofs only [vmp,↓vmd,seval]; rfl
  by_cases hy : y = -1
  ·rw [if_pos hy]
   simp -implicitDefEqProofs only [hy, vmp,↓vmd,seval]
   exact gives_tup rfl (by simp)
  rw [if_neg hy]
  have hy0 : 0 ≤ y := by omega
  have hy1 : y < ls.length := by omega
  have hg2 := glAt_map hy0 hy1
  have hgr2 := glAt_row hy0 hy1
  have hp := pair_q k (glAt ls x).id (glAt ls y).id
  simp -implicitDefEqProofs only [hy, hx0, hx1, hg, hy0, hy1, hg2, vmp,↓vmd,seval]
  cases hc : findSub k.subs (glAt ls x).id (glAt ls y).id with
  | none =>
   rw [hc] at hp
   have hp' : FnQ Try.prog 110 [lk k, I (glAt ls x).id, I (glAt ls y).id] [sp zero3, sp zero3, .bool false] := hp
   refine onQ_q hp' rfl ?_
   (first | apply envO | apply envQ); simp -implicitDefEqProofs only [vmp,↓vmd,seval]; rfl
   simp -implicitDefEqProofs only [vmp,↓vmd,seval]
   exact gives_tup rfl (by simp)
  | some q =>
   rw [hc] at hp
   have hp' : FnQ Try.prog 110 [lk k, I (glAt ls x).id, I (glAt ls y).id] [sp q.1, sp q.2, .bool true] := hp
   refine onQ_q hp' rfl ?_
   (first | apply envO | apply envQ); simp -implicitDefEqProofs only [vmp,↓vmd,seval]; rfl
   simp -implicitDefEqProofs only [vmp,↓vmd,seval]
   refine onC_fr (cloneG_c ls hl) [] (by simp) trivial rfl rfl (by simp) ?_
   (first | apply envO | apply envQ); simp -implicitDefEqProofs only [vmp,↓vmd,seval]; rfl
   simp -implicitDefEqProofs only [hx0, hx1, hgr, hy0, hy1, hgr2, vmp,↓vmd,seval]
   refine onQ_q (addG_q _ _) rfl ?_
   (first | apply envO | apply envQ); simp -implicitDefEqProofs only [vmp,↓vmd,seval]; rfl
   simp -implicitDefEqProofs only [hx0, hx1, hgr, hy0, hy1, hgr2, vmp,↓vmd,seval]
   refine onQ_q (addG_q _ _) rfl ?_
   (first | apply envO | apply envQ); simp -implicitDefEqProofs only [vmp,↓vmd,seval]; rfl
   have hrs := row_set (f := gl) (X := ls) (k := x.toNat) (a := addG (glAt ls x) q.1)
   have hgr3 := glAt_row (ls := ls.set x.toNat (addG (glAt ls x) q.1)) (y := y) hy0 (by rw [List.length_set]; exact hy1)
   simp -implicitDefEqProofs only [hx0, hx1, hgr, hy0, hy1, hrs, hgr3, vmp,↓vmd,seval]
   rw [zero3_b]
   by_cases hz : q.2 = zero3
   ·simp -implicitDefEqProofs only [hz, vmp,↓vmd,seval]
    rw [row_set (f := gl)]
    exact gives_tup (toVs_of (toV_rowN rfl (.inr ⟨rfl, rfl⟩) (by simp)) rfl) (by simp)
   ·simp -implicitDefEqProofs only [hz, vmp,↓vmd,seval]
    rw [row_set (f := gl)]
    exact gives_tup (toVs_of (toV_rowN rfl (.inr ⟨rfl, rfl⟩) (by simp)) rfl) (by simp)
 ·rw [if_neg h7]
  simp -implicitDefEqProofs only [h6, h7, vmp,↓vmd,seval]
  exact gives_tup rfl (by simp)
end Go.Proofs.Ytcjmkpkhjhjepaa.W
