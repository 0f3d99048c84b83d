/-
  What moves glyphs at a place: the two functions, one answer. No condition but on sizes.
-/
import Derived.Test.YtjgodncjlffhjaaAlone
import Derived.Test.YtjgodncjlffhjaaAdds
namespace Go.Proofs.Ytjgodncjlffhjaa.W
open Go Go.Vm Go.Proofs
set_option maxRecDepth 100000
set_option linter.unusedSimpArgs false
set_option maxHeartbeats 1000000
/-! typecase/adjust.Apply -/
def c76 : AC :=
  (.seq (.reg [⟨some 4, none, .box (.s 0)⟩,
    ⟨some 5, none, .box (.s 1)⟩,
    ⟨some 8, none, .mov (.c .empty)⟩,
    ⟨some 9, none, .mov (.c (.pure (.int .i64 0)))⟩,
    ⟨some 10, none, .mov (.c (.pure (.bool false)))⟩])
  (.seq (.seq (.reg [⟨some 19, none, .mov (.s 3)⟩,
    ⟨some 20, none, .bin .lss (.s 19) (.c (.pure (.int .i64 0)))⟩,
    ⟨some 21, none, .mov (.s 20)⟩,
    ⟨some 22, some (21, false), .mov (.s 3)⟩,
    ⟨some 23, some (21, false), .mov (.s 2)⟩,
    ⟨some 24, some (21, false), .len (.s 23)⟩,
    ⟨some 25, some (21, false), .bin .geq (.s 22) (.s 24)⟩,
    ⟨some 26, none, .pick (.s 21) (.c (.pure (.bool true))) (.s 25)⟩])
  (.cond (.s 26)
  (.seq (.reg [⟨some 8, none, .mov (.c .empty)⟩,
    ⟨some 9, none, .mov (.c (.pure (.int .i64 0)))⟩,
    ⟨some 10, none, .mov (.c (.pure (.bool false)))⟩])
  .ret)
  .skip))
  (.seq (.seq (.reg [⟨some 27, none, .fldA 0 (.s 5)⟩,
    ⟨some 28, none, .load false 1 (.s 27)⟩])
  (.block 0
  (.seq (.reg [⟨some 30, none, .bin .eql (.s 28) (.c (.pure (.int .i64 6)))⟩,
    ⟨some 29, none, .mov (.s 30)⟩])
  (.cond (.s 29)
  (.seq (.regq [⟨some 32, none, .load true 4 (.s 5)⟩,
    ⟨some 33, none, .mov (.s 2)⟩,
    ⟨some 34, none, .mov (.s 3)⟩,
    ⟨some 35, none, .idxA 10 (.s 33) (.s 34)⟩,
    ⟨some 36, none, .fldA 0 (.s 35)⟩,
    ⟨some 37, none, .load false 1 (.s 36)⟩,
    ⟨some 38, none, .call 102 [(.s 32), (.s 37)]⟩,
    ⟨some 31, none, .mov (.s 38)⟩,
    ⟨some 39, none, .ext 0 (.s 31)⟩,
    ⟨some 40, none, .ext 1 (.s 31)⟩,
    ⟨some 11, none, .box (.c (.pure (.agg [(.int .i64 0), (.int .i64 0), (.int .i64 0)])))⟩]
    [⟨none, none, .store 3 (.s 11) (.s 39)⟩,
    ⟨some 12, none, .mov (.s 40)⟩])
  (.seq (.seq (.reg [⟨some 41, none, .mov (.s 12)⟩,
    ⟨some 42, none, .un .not (.s 41)⟩])
  (.cond (.s 42)
  (.seq (.reg [⟨some 8, none, .mov (.c .empty)⟩,
    ⟨some 9, none, .mov (.c (.pure (.int .i64 0)))⟩,
    ⟨some 10, none, .mov (.c (.pure (.bool false)))⟩])
  .ret)
  .skip))
  (.seq (.reg [⟨some 43, none, .mov (.s 2)⟩,
    ⟨some 44, none, .call 86 [(.s 43)]⟩,
    ⟨some 13, none, .mov (.s 44)⟩])
  (.seq (.regq [⟨some 45, none, .mov (.s 13)⟩,
    ⟨some 46, none, .mov (.s 3)⟩,
    ⟨some 47, none, .mov (.s 13)⟩,
    ⟨some 48, none, .mov (.s 3)⟩,
    ⟨some 49, none, .idxA 10 (.s 47) (.s 48)⟩,
    ⟨some 50, none, .load true 10 (.s 49)⟩,
    ⟨some 51, none, .load true 3 (.s 11)⟩,
    ⟨some 52, none, .call 22 [(.s 50), (.s 51)]⟩]
    [⟨some 53, none, .idxA 10 (.s 45) (.s 46)⟩,
    ⟨none, none, .store 10 (.s 53) (.s 52)⟩])
  (.seq (.reg [⟨some 54, none, .mov (.s 13)⟩,
    ⟨some 55, none, .mov (.s 3)⟩,
    ⟨some 56, none, .bin .add (.s 55) (.c (.pure (.int .i64 1)))⟩,
    ⟨some 8, none, .mov (.s 54)⟩,
    ⟨some 9, none, .mov (.s 56)⟩,
    ⟨some 10, none, .mov (.c (.pure (.bool true)))⟩])
  .ret)))))
  (.seq (.reg [⟨some 58, none, .bin .eql (.s 28) (.c (.pure (.int .i64 7)))⟩,
    ⟨some 57, none, .mov (.s 58)⟩])
  (.cond (.s 57)
  (.seq (.reg [⟨some 59, none, .load true 6 (.s 4)⟩,
    ⟨some 60, none, .load true 4 (.s 5)⟩,
    ⟨some 61, none, .mov (.s 2)⟩,
    ⟨some 62, none, .mov (.s 3)⟩,
    ⟨some 63, none, .call 61 [(.s 59), (.s 60), (.s 61), (.s 62)]⟩,
    ⟨some 14, none, .mov (.s 63)⟩])
  (.seq (.seq (.reg [⟨some 64, none, .mov (.s 14)⟩,
    ⟨some 65, none, .bin .eql (.s 64) (.c (.pure (.int .i64 (-1))))⟩])
  (.cond (.s 65)
  (.seq (.reg [⟨some 8, none, .mov (.c .empty)⟩,
    ⟨some 9, none, .mov (.c (.pure (.int .i64 0)))⟩,
    ⟨some 10, none, .mov (.c (.pure (.bool false)))⟩])
  .ret)
  .skip))
  (.seq (.regq [⟨some 67, none, .load true 4 (.s 5)⟩,
    ⟨some 68, none, .mov (.s 2)⟩,
    ⟨some 69, none, .mov (.s 3)⟩,
    ⟨some 70, none, .idxA 10 (.s 68) (.s 69)⟩,
    ⟨some 71, none, .fldA 0 (.s 70)⟩,
    ⟨some 72, none, .load false 1 (.s 71)⟩,
    ⟨some 73, none, .mov (.s 2)⟩,
    ⟨some 74, none, .mov (.s 14)⟩,
    ⟨some 75, none, .idxA 10 (.s 73) (.s 74)⟩,
    ⟨some 76, none, .fldA 0 (.s 75)⟩,
    ⟨some 77, none, .load false 1 (.s 76)⟩,
    ⟨some 78, none, .call 25 [(.s 67), (.s 72), (.s 77)]⟩,
    ⟨some 66, none, .mov (.s 78)⟩,
    ⟨some 79, none, .ext 0 (.s 66)⟩,
    ⟨some 80, none, .ext 1 (.s 66)⟩,
    ⟨some 81, none, .ext 2 (.s 66)⟩,
    ⟨some 15, none, .box (.c (.pure (.agg [(.int .i64 0), (.int .i64 0), (.int .i64 0)])))⟩,
    ⟨some 16, none, .box (.c (.pure (.agg [(.int .i64 0), (.int .i64 0), (.int .i64 0)])))⟩]
    [⟨none, none, .store 3 (.s 15) (.s 79)⟩,
    ⟨none, none, .store 3 (.s 16) (.s 80)⟩,
    ⟨some 17, none, .mov (.s 81)⟩])
  (.seq (.seq (.reg [⟨some 82, none, .mov (.s 17)⟩,
    ⟨some 83, none, .un .not (.s 82)⟩])
  (.cond (.s 83)
  (.seq (.reg [⟨some 8, none, .mov (.c .empty)⟩,
    ⟨some 9, none, .mov (.c (.pure (.int .i64 0)))⟩,
    ⟨some 10, none, .mov (.c (.pure (.bool false)))⟩])
  .ret)
  .skip))
  (.seq (.reg [⟨some 84, none, .mov (.s 2)⟩,
    ⟨some 85, none, .call 86 [(.s 84)]⟩,
    ⟨some 18, none, .mov (.s 85)⟩])
  (.seq (.regq [⟨some 86, none, .mov (.s 18)⟩,
    ⟨some 87, none, .mov (.s 3)⟩,
    ⟨some 88, none, .mov (.s 18)⟩,
    ⟨some 89, none, .mov (.s 14)⟩,
    ⟨some 90, none, .mov (.s 18)⟩,
    ⟨some 91, none, .mov (.s 3)⟩,
    ⟨some 92, none, .idxA 10 (.s 90) (.s 91)⟩,
    ⟨some 93, none, .load true 10 (.s 92)⟩,
    ⟨some 94, none, .load true 3 (.s 15)⟩,
    ⟨some 95, none, .call 22 [(.s 93), (.s 94)]⟩,
    ⟨some 96, none, .mov (.s 18)⟩,
    ⟨some 97, none, .mov (.s 14)⟩,
    ⟨some 98, none, .idxA 10 (.s 96) (.s 97)⟩,
    ⟨some 99, none, .load true 10 (.s 98)⟩,
    ⟨some 100, none, .load true 3 (.s 16)⟩,
    ⟨some 101, none, .call 22 [(.s 99), (.s 100)]⟩,
    ⟨some 102, none, .idxA 10 (.s 86) (.s 87)⟩]
    [⟨none, none, .store 10 (.s 102) (.s 95)⟩,
    ⟨some 103, none, .idxA 10 (.s 88) (.s 89)⟩,
    ⟨none, none, .store 10 (.s 103) (.s 101)⟩])
  (.seq (.seq (.reg [⟨some 104, none, .load true 3 (.s 16)⟩,
    ⟨some 105, none, .build [(.pure (.int .i64 0)), (.pure (.int .i64 0)), (.pure (.int .i64 0))] []⟩,
    ⟨some 106, none, .eqv true [.i, .i, .i] (.s 104) (.s 105)⟩])
  (.cond (.s 106)
  (.reg [⟨some 107, none, .mov (.s 14)⟩,
    ⟨some 108, none, .bin .add (.s 107) (.c (.pure (.int .i64 1)))⟩,
    ⟨some 14, none, .mov (.s 108)⟩])
  .skip))
  (.seq (.reg [⟨some 109, none, .mov (.s 18)⟩,
    ⟨some 110, none, .mov (.s 14)⟩,
    ⟨some 8, none, .mov (.s 109)⟩,
    ⟨some 9, none, .mov (.s 110)⟩,
    ⟨some 10, none, .mov (.c (.pure (.bool true)))⟩])
  .ret))))))))
  .skip))))))
  (.seq (.reg [⟨some 8, none, .mov (.c .empty)⟩,
    ⟨some 9, none, .mov (.c (.pure (.int .i64 0)))⟩,
    ⟨some 10, none, .mov (.c (.pure (.bool false)))⟩])
  .ret))))
theorem k76 : (Try.f76.body.bind fun c => cCode Try.prog Try.f76.ntmps RCs c) = some c76 := by kernel_rfl
theorem h76 : (Try.f76.name == "runtime.NumGoroutine") = false := by kernel_rfl
theorem r76 : resC Try.prog Try.f76.results.toList = some [.t 8, .t 9, .t 10] := by kernel_rfl
theorem a76 {args : List S} {H : Heap} {K : S → Heap → Prop} (hn : args.length ≤ 111) (h : aWx Try.prog H.length c76 (PostX [.t 8, .t 9, .t 10] K) (argEnv 0 args) H) : CallA Try.prog 76 args H K :=
  callA_of_x mixed Try.func76 h76 k76 r76 (by rw [Try.ntmps76]; exact hn) h
theorem q76 {vs ds : List V} (hn : vs.length ≤ 111) (h : aWx Try.prog 0 c76 (PostX [.t 8, .t 9, .t 10] (Gives ds)) (argEnv 0 (vs.map .pure)) []) : FnQ Try.prog 76 vs ds :=
  fnQ_of_call (a76 (by simpa using hn) h)
/-! typecase/typecaseref32.Apply -/
def c77 : AC :=
  (.seq (.reg [⟨some 4, none, .box (.s 0)⟩,
    ⟨some 5, none, .box (.s 1)⟩,
    ⟨some 8, none, .mov (.c .empty)⟩,
    ⟨some 9, none, .mov (.c (.pure (.int .i64 0)))⟩,
    ⟨some 10, none, .mov (.c (.pure (.bool false)))⟩])
  (.seq (.seq (.reg [⟨some 18, none, .mov (.s 3)⟩,
    ⟨some 19, none, .bin .lss (.s 18) (.c (.pure (.int .i64 0)))⟩,
    ⟨some 20, none, .mov (.s 19)⟩,
    ⟨some 21, some (20, false), .mov (.s 3)⟩,
    ⟨some 22, some (20, false), .mov (.s 2)⟩,
    ⟨some 23, some (20, false), .len (.s 22)⟩,
    ⟨some 24, some (20, false), .bin .geq (.s 21) (.s 23)⟩,
    ⟨some 25, none, .pick (.s 20) (.c (.pure (.bool true))) (.s 24)⟩])
  (.cond (.s 25)
  (.seq (.reg [⟨some 8, none, .mov (.c .empty)⟩,
    ⟨some 9, none, .mov (.c (.pure (.int .i64 0)))⟩,
    ⟨some 10, none, .mov (.c (.pure (.bool false)))⟩])
  .ret)
  .skip))
  (.seq (.reg [⟨some 11, none, .mov (.c .empty)⟩])
  (.seq (.reg [⟨some 26, none, .mov (.s 11)⟩,
    ⟨some 27, none, .mov (.s 2)⟩,
    ⟨some 28, none, .app 10 80 (.s 26) (.s 27)⟩,
    ⟨some 11, none, .mov (.s 28)⟩])
  (.seq (.seq (.reg [⟨some 29, none, .fldA 0 (.s 5)⟩,
    ⟨some 30, none, .load false 1 (.s 29)⟩])
  (.block 0
  (.seq (.reg [⟨some 32, none, .bin .eql (.s 30) (.c (.pure (.int .i64 6)))⟩,
    ⟨some 31, none, .mov (.s 32)⟩])
  (.cond (.s 31)
  (.seq (.regq [⟨some 34, none, .load true 4 (.s 5)⟩,
    ⟨some 35, none, .mov (.s 2)⟩,
    ⟨some 36, none, .mov (.s 3)⟩,
    ⟨some 37, none, .idxA 10 (.s 35) (.s 36)⟩,
    ⟨some 38, none, .fldA 0 (.s 37)⟩,
    ⟨some 39, none, .load false 1 (.s 38)⟩,
    ⟨some 40, none, .call 103 [(.s 34), (.s 39)]⟩,
    ⟨some 33, none, .mov (.s 40)⟩,
    ⟨some 41, none, .ext 0 (.s 33)⟩,
    ⟨some 42, none, .ext 1 (.s 33)⟩,
    ⟨some 12, none, .box (.c (.pure (.agg [(.int .i64 0), (.int .i64 0), (.int .i64 0)])))⟩]
    [⟨none, none, .store 3 (.s 12) (.s 41)⟩,
    ⟨some 13, none, .mov (.s 42)⟩])
  (.seq (.reg [⟨some 43, none, .mov (.s 13)⟩])
  (.cond (.s 43)
  (.seq (.regq [⟨some 44, none, .mov (.s 11)⟩,
    ⟨some 45, none, .mov (.s 3)⟩,
    ⟨some 46, none, .mov (.s 2)⟩,
    ⟨some 47, none, .mov (.s 3)⟩,
    ⟨some 48, none, .idxA 10 (.s 46) (.s 47)⟩,
    ⟨some 49, none, .load true 10 (.s 48)⟩,
    ⟨some 50, none, .load true 3 (.s 12)⟩,
    ⟨some 51, none, .call 23 [(.s 49), (.s 50)]⟩]
    [⟨some 52, none, .idxA 10 (.s 44) (.s 45)⟩,
    ⟨none, none, .store 10 (.s 52) (.s 51)⟩])
  (.seq (.reg [⟨some 53, none, .mov (.s 11)⟩,
    ⟨some 54, none, .mov (.s 3)⟩,
    ⟨some 55, none, .bin .add (.s 54) (.c (.pure (.int .i64 1)))⟩,
    ⟨some 8, none, .mov (.s 53)⟩,
    ⟨some 9, none, .mov (.s 55)⟩,
    ⟨some 10, none, .mov (.c (.pure (.bool true)))⟩])
  .ret))
  .skip)))
  (.seq (.reg [⟨some 57, none, .bin .eql (.s 30) (.c (.pure (.int .i64 7)))⟩,
    ⟨some 56, none, .mov (.s 57)⟩])
  (.cond (.s 56)
  (.seq (.reg [⟨some 58, none, .load true 6 (.s 4)⟩,
    ⟨some 59, none, .load true 4 (.s 5)⟩,
    ⟨some 60, none, .mov (.s 2)⟩,
    ⟨some 61, none, .mov (.s 3)⟩,
    ⟨some 62, none, .call 62 [(.s 58), (.s 59), (.s 60), (.s 61)]⟩,
    ⟨some 14, none, .mov (.s 62)⟩])
  (.seq (.seq (.reg [⟨some 63, none, .mov (.s 14)⟩,
    ⟨some 64, none, .bin .eql (.s 63) (.c (.pure (.int .i64 (-1))))⟩])
  (.cond (.s 64)
  (.seq (.reg [⟨some 8, none, .mov (.c .empty)⟩,
    ⟨some 9, none, .mov (.c (.pure (.int .i64 0)))⟩,
    ⟨some 10, none, .mov (.c (.pure (.bool false)))⟩])
  .ret)
  .skip))
  (.seq (.regq [⟨some 66, none, .load true 4 (.s 5)⟩,
    ⟨some 67, none, .mov (.s 2)⟩,
    ⟨some 68, none, .mov (.s 3)⟩,
    ⟨some 69, none, .idxA 10 (.s 67) (.s 68)⟩,
    ⟨some 70, none, .fldA 0 (.s 69)⟩,
    ⟨some 71, none, .load false 1 (.s 70)⟩,
    ⟨some 72, none, .mov (.s 2)⟩,
    ⟨some 73, none, .mov (.s 14)⟩,
    ⟨some 74, none, .idxA 10 (.s 72) (.s 73)⟩,
    ⟨some 75, none, .fldA 0 (.s 74)⟩,
    ⟨some 76, none, .load false 1 (.s 75)⟩,
    ⟨some 77, none, .call 26 [(.s 66), (.s 71), (.s 76)]⟩,
    ⟨some 65, none, .mov (.s 77)⟩,
    ⟨some 78, none, .ext 0 (.s 65)⟩,
    ⟨some 79, none, .ext 1 (.s 65)⟩,
    ⟨some 80, none, .ext 2 (.s 65)⟩,
    ⟨some 15, none, .box (.c (.pure (.agg [(.int .i64 0), (.int .i64 0), (.int .i64 0)])))⟩,
    ⟨some 16, none, .box (.c (.pure (.agg [(.int .i64 0), (.int .i64 0), (.int .i64 0)])))⟩]
    [⟨none, none, .store 3 (.s 15) (.s 78)⟩,
    ⟨none, none, .store 3 (.s 16) (.s 79)⟩,
    ⟨some 17, none, .mov (.s 80)⟩])
  (.seq (.reg [⟨some 81, none, .mov (.s 17)⟩])
  (.cond (.s 81)
  (.seq (.regq [⟨some 82, none, .mov (.s 11)⟩,
    ⟨some 83, none, .mov (.s 3)⟩,
    ⟨some 84, none, .mov (.s 2)⟩,
    ⟨some 85, none, .mov (.s 3)⟩,
    ⟨some 86, none, .idxA 10 (.s 84) (.s 85)⟩,
    ⟨some 87, none, .load true 10 (.s 86)⟩,
    ⟨some 88, none, .load true 3 (.s 15)⟩,
    ⟨some 89, none, .call 23 [(.s 87), (.s 88)]⟩]
    [⟨some 90, none, .idxA 10 (.s 82) (.s 83)⟩,
    ⟨none, none, .store 10 (.s 90) (.s 89)⟩])
  (.seq (.regq [⟨some 91, none, .mov (.s 11)⟩,
    ⟨some 92, none, .mov (.s 14)⟩,
    ⟨some 93, none, .mov (.s 2)⟩,
    ⟨some 94, none, .mov (.s 14)⟩,
    ⟨some 95, none, .idxA 10 (.s 93) (.s 94)⟩,
    ⟨some 96, none, .load true 10 (.s 95)⟩,
    ⟨some 97, none, .load true 3 (.s 16)⟩,
    ⟨some 98, none, .call 23 [(.s 96), (.s 97)]⟩]
    [⟨some 99, none, .idxA 10 (.s 91) (.s 92)⟩,
    ⟨none, none, .store 10 (.s 99) (.s 98)⟩])
  (.seq (.seq (.reg [⟨some 100, none, .load true 3 (.s 16)⟩,
    ⟨some 101, none, .build [(.pure (.int .i64 0)), (.pure (.int .i64 0)), (.pure (.int .i64 0))] []⟩,
    ⟨some 102, none, .eqv true [.i, .i, .i] (.s 100) (.s 101)⟩])
  (.cond (.s 102)
  (.reg [⟨some 103, none, .mov (.s 14)⟩,
    ⟨some 104, none, .bin .add (.s 103) (.c (.pure (.int .i64 1)))⟩,
    ⟨some 14, none, .mov (.s 104)⟩])
  .skip))
  (.seq (.reg [⟨some 105, none, .mov (.s 11)⟩,
    ⟨some 106, none, .mov (.s 14)⟩,
    ⟨some 8, none, .mov (.s 105)⟩,
    ⟨some 9, none, .mov (.s 106)⟩,
    ⟨some 10, none, .mov (.c (.pure (.bool true)))⟩])
  .ret))))
  .skip)))))
  .skip))))))
  (.seq (.reg [⟨some 8, none, .mov (.c .empty)⟩,
    ⟨some 9, none, .mov (.c (.pure (.int .i64 0)))⟩,
    ⟨some 10, none, .mov (.c (.pure (.bool false)))⟩])
  .ret))))))
theorem k77 : (Try.f77.body.bind fun c => cCode Try.prog Try.f77.ntmps RCs c) = some c77 := by kernel_rfl
theorem h77 : (Try.f77.name == "runtime.NumGoroutine") = false := by kernel_rfl
theorem r77 : resC Try.prog Try.f77.results.toList = some [.t 8, .t 9, .t 10] := by kernel_rfl
theorem a77 {args : List S} {H : Heap} {K : S → Heap → Prop} (hn : args.length ≤ 107) (h : aWx Try.prog H.length c77 (PostX [.t 8, .t 9, .t 10] K) (argEnv 0 args) H) : CallA Try.prog 77 args H K :=
  callA_of_x mixed Try.func77 h77 k77 r77 (by rw [Try.ntmps77]; exact hn) h
theorem q77 {vs ds : List V} (hn : vs.length ≤ 107) (h : aWx Try.prog 0 c77 (PostX [.t 8, .t 9, .t 10] (Gives ds)) (argEnv 0 (vs.map .pure)) []) : FnQ Try.prog 77 vs ds :=
  fnQ_of_call (a77 (by simpa using hn) h)

def addG (g : Gl) (v : Sp) : Gl := ⟨g.id, g.cl, IntKind.wrap .i64 (g.adv + v.f), IntKind.wrap .i64 (g.dx + v.t), IntKind.wrap .i64 (g.dy + v.v), g.to, g.hang, g.lig, g.comp, g.mask⟩
theorem addG_q (g : Gl) (v : Sp) : FnQ Try.prog 22 [gl g, sp v] [gl (addG g v)] := add_q g.id g.cl g.adv g.dx g.dy g.to g.hang g.lig g.comp g.mask v.f v.t v.v
theorem raddG_q (g : Gl) (v : Sp) : FnQ Try.prog 23 [gl g, sp v] [gl (addG g v)] := radd_q g.id g.cl g.adv g.dx g.dy g.to g.hang g.lig g.comp g.mask v.f v.t v.v
def glAt (ls : List Gl) (y : Int) : Gl := (ls[y.toNat]?).getD ⟨0, 0, 0, 0, 0, 0, 0, 0, 0, 0⟩
theorem glAt_eq {ls : List Gl} {y : Int} (h0 : 0 ≤ y) (h1 : y < ls.length) : ls[y.toNat]? = some (glAt ls y) := by
  rw [glAt, List.getElem?_eq_getElem (by omega)]; rfl
theorem glAt_map {ls : List Gl} {y : Int} (h0 : 0 ≤ y) (h1 : y < ls.length) : (ls.map gl)[y.toNat]? = some (gl (glAt ls y)) := by
  rw [List.getElem?_map, glAt_eq h0 h1]; rfl
theorem glAt_row {ls : List Gl} {y : Int} (h0 : 0 ≤ y) (h1 : y < ls.length) : ((ls.map gl).map S.pure)[y.toNat]? = some (.pure (gl (glAt ls y))) := by
  rw [List.getElem?_map, glAt_map h0 h1]; rfl
theorem toV_rowN {lv : Bool} {H : Heap} {α : Type} {f : α → V} {X : List α} {b m n : Nat} {st : RowSt} (h : H[b]? = some ⟨(X.map f).map S.pure, m, st⟩) (hst : st = .frozen ∨ (lv = true ∧ st = .live)) (hn : n = X.length) : toV lv H (.rsl b 0 n) = some (.sl (X.map f)) := by
  subst hn
  exact toV_row h hst
def applyF (f : Fo) (k : Lk) (ls : List Gl) (x : Int) : Option (List Gl × Int) :=
  if x < 0 ∨ (ls.length : Int) ≤ x then none
  else if k.kind = 6 then (match aloneF k.subs (glAt ls x).id with
    | some v => some (ls.set x.toNat (addG (glAt ls x) v), IntKind.wrap .i64 (x + 1))
    | none => none)
  else if k.kind = 7 then
    (if nextF (seesF f k.flags k.set ls) ls.length x = -1 then none
    else match findSub k.subs (glAt ls x).id (glAt ls (nextF (seesF f k.flags k.set ls) ls.length x)).id with
      | some q => some ((ls.set x.toNat (addG (glAt ls x) q.1)).set (nextF (seesF f k.flags k.set ls) ls.length x).toNat (addG (glAt ls (nextF (seesF f k.flags k.set ls) ls.length x)) q.2),
          if q.2 = zero3 then nextF (seesF f k.flags k.set ls) ls.length x else IntKind.wrap .i64 (nextF (seesF f k.flags k.set ls) ls.length x + 1))
      | none => none)
  else none
theorem zero3_b (s : Sp) : (!(decide (s.f = 0) && (decide (s.t = 0) && decide (s.v = 0)))) = !decide (s = zero3) := by
  cases s
  simp [zero3]
def adjR : Option (List Gl × Int) → List V
  | some q => [.sl (q.1.map gl), I q.2, .bool true]
  | none => [.sl [], I 0, .bool false]
theorem apply_q (f : Fo) (k : Lk) (ls : List Gl) (hl : ls.length ≤ 1000) (x : Int) : FnQ Try.prog 76 [fo f, lk k, .sl (ls.map gl), I x] (adjR (applyF f k ls x)) := by
  refine q76 (by simp) ?_
  unfold c76
  simp -implicitDefEqProofs only [*, vmp,↓vmd,Env.get,putD,argEnv,List.map,x00,x01,x02,x03,x04,x05,x06,x07,List.take,List.drop,x08,x09,x0a,x0b,List.isEmpty,↓reduceIte,reduceCtorEq,Nat.reduceEqDiff,Nat.reduceAdd,Nat.reduceLeDiff,x0c,Int.reduceNeg,Nat.reduceMul,Nat.reduceSub,x0d,x0e,x0f,x0g,x0h,x0i,x0j,x0k,Int.reduceEq,Int.reduceLT,Int.reduceLE,Int.reduceToNat,Int.cast_ofNat_Int,List.reduceReplicate]
  by_cases h0 : x < 0
  · simp -implicitDefEqProofs only [h0, vmp,↓vmd,Env.get,putD,argEnv,List.map,x00,x01,x02,x03,x04,x05,x06,x07,List.take,List.drop,x08,x09,x0a,x0b,List.isEmpty,↓reduceIte,reduceCtorEq,Nat.reduceEqDiff,Nat.reduceAdd,Nat.reduceLeDiff,x0c,Int.reduceNeg,Nat.reduceMul,Nat.reduceSub,x0d,x0e,x0f,x0g,x0h,x0i,x0j,x0k,Int.reduceEq,Int.reduceLT,Int.reduceLE,Int.reduceToNat,Int.cast_ofNat_Int,List.reduceReplicate]
    rw [applyF, if_pos (.inl h0)]
    exact gives_tup rfl (by simp)
  simp -implicitDefEqProofs only [h0, vmp,↓vmd,Env.get,putD,argEnv,List.map,x00,x01,x02,x03,x04,x05,x06,x07,List.take,List.drop,x08,x09,x0a,x0b,List.isEmpty,↓reduceIte,reduceCtorEq,Nat.reduceEqDiff,Nat.reduceAdd,Nat.reduceLeDiff,x0c,Int.reduceNeg,Nat.reduceMul,Nat.reduceSub,x0d,x0e,x0f,x0g,x0h,x0i,x0j,x0k,Int.reduceEq,Int.reduceLT,Int.reduceLE,Int.reduceToNat,Int.cast_ofNat_Int,List.reduceReplicate]
  refine onIf_intro fun _ => ?_
  simp -implicitDefEqProofs only [h0, vmp,↓vmd,Env.get,putD,argEnv,List.map,x00,x01,x02,x03,x04,x05,x06,x07,List.take,List.drop,x08,x09,x0a,x0b,List.isEmpty,↓reduceIte,reduceCtorEq,Nat.reduceEqDiff,Nat.reduceAdd,Nat.reduceLeDiff,x0c,Int.reduceNeg,Nat.reduceMul,Nat.reduceSub,x0d,x0e,x0f,x0g,x0h,x0i,x0j,x0k,Int.reduceEq,Int.reduceLT,Int.reduceLE,Int.reduceToNat,Int.cast_ofNat_Int,List.reduceReplicate]
  by_cases h1 : (ls.length : Int) ≤ x
  · simp -implicitDefEqProofs only [h1, vmp,↓vmd,Env.get,putD,argEnv,List.map,x00,x01,x02,x03,x04,x05,x06,x07,List.take,List.drop,x08,x09,x0a,x0b,List.isEmpty,↓reduceIte,reduceCtorEq,Nat.reduceEqDiff,Nat.reduceAdd,Nat.reduceLeDiff,x0c,Int.reduceNeg,Nat.reduceMul,Nat.reduceSub,x0d,x0e,x0f,x0g,x0h,x0i,x0j,x0k,Int.reduceEq,Int.reduceLT,Int.reduceLE,Int.reduceToNat,Int.cast_ofNat_Int,List.reduceReplicate]
    rw [applyF, if_pos (.inr h1)]
    exact gives_tup rfl (by simp)
  rw [applyF, if_neg (by omega)]
  simp -implicitDefEqProofs only [h1, vmp,↓vmd,Env.get,putD,argEnv,List.map,x00,x01,x02,x03,x04,x05,x06,x07,List.take,List.drop,x08,x09,x0a,x0b,List.isEmpty,↓reduceIte,reduceCtorEq,Nat.reduceEqDiff,Nat.reduceAdd,Nat.reduceLeDiff,x0c,Int.reduceNeg,Nat.reduceMul,Nat.reduceSub,x0d,x0e,x0f,x0g,x0h,x0i,x0j,x0k,Int.reduceEq,Int.reduceLT,Int.reduceLE,Int.reduceToNat,Int.cast_ofNat_Int,List.reduceReplicate]
  have hx0 : 0 ≤ x := by omega
  have hx1 : x < ls.length := by omega
  have hg := glAt_map hx0 hx1
  have hgr := glAt_row hx0 hx1
  by_cases h6 : k.kind = 6
  · rw [if_pos h6]
    simp -implicitDefEqProofs only [h6, hx0, hx1, hg, vmp,↓vmd,Env.get,putD,argEnv,List.map,x00,x01,x02,x03,x04,x05,x06,x07,List.take,List.drop,x08,x09,x0a,x0b,List.isEmpty,↓reduceIte,reduceCtorEq,Nat.reduceEqDiff,Nat.reduceAdd,Nat.reduceLeDiff,x0c,Int.reduceNeg,Nat.reduceMul,Nat.reduceSub,x0d,x0e,x0f,x0g,x0h,x0i,x0j,x0k,Int.reduceEq,Int.reduceLT,Int.reduceLE,Int.reduceToNat,Int.cast_ofNat_Int,List.reduceReplicate]
    refine onQ_q (alone_q k _) rfl ?_
    first | refine envO (by simp -implicitDefEqProofs only [vmp,↓vmd,Env.get,putD,argEnv,List.map,x00,x01,x02,x03,x04,x05,x06,x07,List.take,List.drop,x08,x09,x0a,x0b,List.isEmpty,↓reduceIte,reduceCtorEq,Nat.reduceEqDiff,Nat.reduceAdd,Nat.reduceLeDiff,x0c,Int.reduceNeg,Nat.reduceMul,Nat.reduceSub,x0d,x0e,x0f,x0g,x0h,x0i,x0j,x0k,Int.reduceEq,Int.reduceLT,Int.reduceLE,Int.reduceToNat,Int.cast_ofNat_Int,List.reduceReplicate]; rfl) ?_ | refine envQ (by simp -implicitDefEqProofs only [vmp,↓vmd,Env.get,putD,argEnv,List.map,x00,x01,x02,x03,x04,x05,x06,x07,List.take,List.drop,x08,x09,x0a,x0b,List.isEmpty,↓reduceIte,reduceCtorEq,Nat.reduceEqDiff,Nat.reduceAdd,Nat.reduceLeDiff,x0c,Int.reduceNeg,Nat.reduceMul,Nat.reduceSub,x0d,x0e,x0f,x0g,x0h,x0i,x0j,x0k,Int.reduceEq,Int.reduceLT,Int.reduceLE,Int.reduceToNat,Int.cast_ofNat_Int,List.reduceReplicate]; rfl) ?_
    cases hc : aloneF k.subs (glAt ls x).id with
    | none =>
      simp -implicitDefEqProofs only [oneR, vmp,↓vmd,Env.get,putD,argEnv,List.map,x00,x01,x02,x03,x04,x05,x06,x07,List.take,List.drop,x08,x09,x0a,x0b,List.isEmpty,↓reduceIte,reduceCtorEq,Nat.reduceEqDiff,Nat.reduceAdd,Nat.reduceLeDiff,x0c,Int.reduceNeg,Nat.reduceMul,Nat.reduceSub,x0d,x0e,x0f,x0g,x0h,x0i,x0j,x0k,Int.reduceEq,Int.reduceLT,Int.reduceLE,Int.reduceToNat,Int.cast_ofNat_Int,List.reduceReplicate]
      exact gives_tup rfl (by simp)
    | some v =>
      simp -implicitDefEqProofs only [oneR, vmp,↓vmd,Env.get,putD,argEnv,List.map,x00,x01,x02,x03,x04,x05,x06,x07,List.take,List.drop,x08,x09,x0a,x0b,List.isEmpty,↓reduceIte,reduceCtorEq,Nat.reduceEqDiff,Nat.reduceAdd,Nat.reduceLeDiff,x0c,Int.reduceNeg,Nat.reduceMul,Nat.reduceSub,x0d,x0e,x0f,x0g,x0h,x0i,x0j,x0k,Int.reduceEq,Int.reduceLT,Int.reduceLE,Int.reduceToNat,Int.cast_ofNat_Int,List.reduceReplicate]
      refine onC_fr (cloneG_c ls hl) [] (by simp) trivial rfl rfl (by simp) ?_
      first | refine envO (by simp -implicitDefEqProofs only [vmp,↓vmd,Env.get,putD,argEnv,List.map,x00,x01,x02,x03,x04,x05,x06,x07,List.take,List.drop,x08,x09,x0a,x0b,List.isEmpty,↓reduceIte,reduceCtorEq,Nat.reduceEqDiff,Nat.reduceAdd,Nat.reduceLeDiff,x0c,Int.reduceNeg,Nat.reduceMul,Nat.reduceSub,x0d,x0e,x0f,x0g,x0h,x0i,x0j,x0k,Int.reduceEq,Int.reduceLT,Int.reduceLE,Int.reduceToNat,Int.cast_ofNat_Int,List.reduceReplicate]; rfl) ?_ | refine envQ (by simp -implicitDefEqProofs only [vmp,↓vmd,Env.get,putD,argEnv,List.map,x00,x01,x02,x03,x04,x05,x06,x07,List.take,List.drop,x08,x09,x0a,x0b,List.isEmpty,↓reduceIte,reduceCtorEq,Nat.reduceEqDiff,Nat.reduceAdd,Nat.reduceLeDiff,x0c,Int.reduceNeg,Nat.reduceMul,Nat.reduceSub,x0d,x0e,x0f,x0g,x0h,x0i,x0j,x0k,Int.reduceEq,Int.reduceLT,Int.reduceLE,Int.reduceToNat,Int.cast_ofNat_Int,List.reduceReplicate]; rfl) ?_
      simp -implicitDefEqProofs only [hx0, hx1, hgr, vmp,↓vmd,Env.get,putD,argEnv,List.map,x00,x01,x02,x03,x04,x05,x06,x07,List.take,List.drop,x08,x09,x0a,x0b,List.isEmpty,↓reduceIte,reduceCtorEq,Nat.reduceEqDiff,Nat.reduceAdd,Nat.reduceLeDiff,x0c,Int.reduceNeg,Nat.reduceMul,Nat.reduceSub,x0d,x0e,x0f,x0g,x0h,x0i,x0j,x0k,Int.reduceEq,Int.reduceLT,Int.reduceLE,Int.reduceToNat,Int.cast_ofNat_Int,List.reduceReplicate]
      refine onQ_q (addG_q _ _) rfl ?_
      first | refine envO (by simp -implicitDefEqProofs only [vmp,↓vmd,Env.get,putD,argEnv,List.map,x00,x01,x02,x03,x04,x05,x06,x07,List.take,List.drop,x08,x09,x0a,x0b,List.isEmpty,↓reduceIte,reduceCtorEq,Nat.reduceEqDiff,Nat.reduceAdd,Nat.reduceLeDiff,x0c,Int.reduceNeg,Nat.reduceMul,Nat.reduceSub,x0d,x0e,x0f,x0g,x0h,x0i,x0j,x0k,Int.reduceEq,Int.reduceLT,Int.reduceLE,Int.reduceToNat,Int.cast_ofNat_Int,List.reduceReplicate]; rfl) ?_ | refine envQ (by simp -implicitDefEqProofs only [vmp,↓vmd,Env.get,putD,argEnv,List.map,x00,x01,x02,x03,x04,x05,x06,x07,List.take,List.drop,x08,x09,x0a,x0b,List.isEmpty,↓reduceIte,reduceCtorEq,Nat.reduceEqDiff,Nat.reduceAdd,Nat.reduceLeDiff,x0c,Int.reduceNeg,Nat.reduceMul,Nat.reduceSub,x0d,x0e,x0f,x0g,x0h,x0i,x0j,x0k,Int.reduceEq,Int.reduceLT,Int.reduceLE,Int.reduceToNat,Int.cast_ofNat_Int,List.reduceReplicate]; rfl) ?_
      simp -implicitDefEqProofs only [hx0, hx1, hgr, vmp,↓vmd,Env.get,putD,argEnv,List.map,x00,x01,x02,x03,x04,x05,x06,x07,List.take,List.drop,x08,x09,x0a,x0b,List.isEmpty,↓reduceIte,reduceCtorEq,Nat.reduceEqDiff,Nat.reduceAdd,Nat.reduceLeDiff,x0c,Int.reduceNeg,Nat.reduceMul,Nat.reduceSub,x0d,x0e,x0f,x0g,x0h,x0i,x0j,x0k,Int.reduceEq,Int.reduceLT,Int.reduceLE,Int.reduceToNat,Int.cast_ofNat_Int,List.reduceReplicate]
      rw [row_set (f := gl)]
      exact gives_tup (toVs_of (toV_rowN rfl (.inr ⟨rfl, rfl⟩) (by simp)) rfl) (by simp)
  rw [if_neg h6]
  by_cases h7 : k.kind = 7
  · rw [if_pos h7]
    have hnq := next_q f k.kind k.flags k.set (.sl (k.subs.map sub)) ls x hl
    have hin := nextF_in (p := seesF f k.flags k.set ls) (n := ls.length) (a := x)
    simp -implicitDefEqProofs only [h6, h7, vmp,↓vmd,Env.get,putD,argEnv,List.map,x00,x01,x02,x03,x04,x05,x06,x07,List.take,List.drop,x08,x09,x0a,x0b,List.isEmpty,↓reduceIte,reduceCtorEq,Nat.reduceEqDiff,Nat.reduceAdd,Nat.reduceLeDiff,x0c,Int.reduceNeg,Nat.reduceMul,Nat.reduceSub,x0d,x0e,x0f,x0g,x0h,x0i,x0j,x0k,Int.reduceEq,Int.reduceLT,Int.reduceLE,Int.reduceToNat,Int.cast_ofNat_Int,List.reduceReplicate]
    generalize nextF (seesF f k.flags k.set ls) ls.length x = y at *
    refine onC_q hnq rfl ?_
    first | refine envO (by simp -implicitDefEqProofs only [vmp,↓vmd,Env.get,putD,argEnv,List.map,x00,x01,x02,x03,x04,x05,x06,x07,List.take,List.drop,x08,x09,x0a,x0b,List.isEmpty,↓reduceIte,reduceCtorEq,Nat.reduceEqDiff,Nat.reduceAdd,Nat.reduceLeDiff,x0c,Int.reduceNeg,Nat.reduceMul,Nat.reduceSub,x0d,x0e,x0f,x0g,x0h,x0i,x0j,x0k,Int.reduceEq,Int.reduceLT,Int.reduceLE,Int.reduceToNat,Int.cast_ofNat_Int,List.reduceReplicate]; rfl) ?_ | refine envQ (by simp -implicitDefEqProofs only [vmp,↓vmd,Env.get,putD,argEnv,List.map,x00,x01,x02,x03,x04,x05,x06,x07,List.take,List.drop,x08,x09,x0a,x0b,List.isEmpty,↓reduceIte,reduceCtorEq,Nat.reduceEqDiff,Nat.reduceAdd,Nat.reduceLeDiff,x0c,Int.reduceNeg,Nat.reduceMul,Nat.reduceSub,x0d,x0e,x0f,x0g,x0h,x0i,x0j,x0k,Int.reduceEq,Int.reduceLT,Int.reduceLE,Int.reduceToNat,Int.cast_ofNat_Int,List.reduceReplicate]; rfl) ?_
    by_cases hy : y = -1
    · rw [if_pos hy]
      simp -implicitDefEqProofs only [hy, vmp,↓vmd,Env.get,putD,argEnv,List.map,x00,x01,x02,x03,x04,x05,x06,x07,List.take,List.drop,x08,x09,x0a,x0b,List.isEmpty,↓reduceIte,reduceCtorEq,Nat.reduceEqDiff,Nat.reduceAdd,Nat.reduceLeDiff,x0c,Int.reduceNeg,Nat.reduceMul,Nat.reduceSub,x0d,x0e,x0f,x0g,x0h,x0i,x0j,x0k,Int.reduceEq,Int.reduceLT,Int.reduceLE,Int.reduceToNat,Int.cast_ofNat_Int,List.reduceReplicate]
      exact gives_tup rfl (by simp)
    rw [if_neg hy]
    have hy0 : 0 ≤ y := by omega
    have hy1 : y < ls.length := by omega
    have hg2 := glAt_map hy0 hy1
    have hgr2 := glAt_row hy0 hy1
    have hp := pair_q k (glAt ls x).id (glAt ls y).id
    simp -implicitDefEqProofs only [hy, hx0, hx1, hg, hy0, hy1, hg2, vmp,↓vmd,Env.get,putD,argEnv,List.map,x00,x01,x02,x03,x04,x05,x06,x07,List.take,List.drop,x08,x09,x0a,x0b,List.isEmpty,↓reduceIte,reduceCtorEq,Nat.reduceEqDiff,Nat.reduceAdd,Nat.reduceLeDiff,x0c,Int.reduceNeg,Nat.reduceMul,Nat.reduceSub,x0d,x0e,x0f,x0g,x0h,x0i,x0j,x0k,Int.reduceEq,Int.reduceLT,Int.reduceLE,Int.reduceToNat,Int.cast_ofNat_Int,List.reduceReplicate]
    cases hc : findSub k.subs (glAt ls x).id (glAt ls y).id with
    | none =>
      rw [hc] at hp
      have hp' : FnQ Try.prog 25 [lk k, I (glAt ls x).id, I (glAt ls y).id] [sp zero3, sp zero3, .bool false] := hp
      refine onQ_q hp' rfl ?_
      first | refine envO (by simp -implicitDefEqProofs only [vmp,↓vmd,Env.get,putD,argEnv,List.map,x00,x01,x02,x03,x04,x05,x06,x07,List.take,List.drop,x08,x09,x0a,x0b,List.isEmpty,↓reduceIte,reduceCtorEq,Nat.reduceEqDiff,Nat.reduceAdd,Nat.reduceLeDiff,x0c,Int.reduceNeg,Nat.reduceMul,Nat.reduceSub,x0d,x0e,x0f,x0g,x0h,x0i,x0j,x0k,Int.reduceEq,Int.reduceLT,Int.reduceLE,Int.reduceToNat,Int.cast_ofNat_Int,List.reduceReplicate]; rfl) ?_ | refine envQ (by simp -implicitDefEqProofs only [vmp,↓vmd,Env.get,putD,argEnv,List.map,x00,x01,x02,x03,x04,x05,x06,x07,List.take,List.drop,x08,x09,x0a,x0b,List.isEmpty,↓reduceIte,reduceCtorEq,Nat.reduceEqDiff,Nat.reduceAdd,Nat.reduceLeDiff,x0c,Int.reduceNeg,Nat.reduceMul,Nat.reduceSub,x0d,x0e,x0f,x0g,x0h,x0i,x0j,x0k,Int.reduceEq,Int.reduceLT,Int.reduceLE,Int.reduceToNat,Int.cast_ofNat_Int,List.reduceReplicate]; rfl) ?_
      simp -implicitDefEqProofs only [vmp,↓vmd,Env.get,putD,argEnv,List.map,x00,x01,x02,x03,x04,x05,x06,x07,List.take,List.drop,x08,x09,x0a,x0b,List.isEmpty,↓reduceIte,reduceCtorEq,Nat.reduceEqDiff,Nat.reduceAdd,Nat.reduceLeDiff,x0c,Int.reduceNeg,Nat.reduceMul,Nat.reduceSub,x0d,x0e,x0f,x0g,x0h,x0i,x0j,x0k,Int.reduceEq,Int.reduceLT,Int.reduceLE,Int.reduceToNat,Int.cast_ofNat_Int,List.reduceReplicate]
      exact gives_tup rfl (by simp)
    | some q =>
      rw [hc] at hp
      have hp' : FnQ Try.prog 25 [lk k, I (glAt ls x).id, I (glAt ls y).id] [sp q.1, sp q.2, .bool true] := hp
      refine onQ_q hp' rfl ?_
      first | refine envO (by simp -implicitDefEqProofs only [vmp,↓vmd,Env.get,putD,argEnv,List.map,x00,x01,x02,x03,x04,x05,x06,x07,List.take,List.drop,x08,x09,x0a,x0b,List.isEmpty,↓reduceIte,reduceCtorEq,Nat.reduceEqDiff,Nat.reduceAdd,Nat.reduceLeDiff,x0c,Int.reduceNeg,Nat.reduceMul,Nat.reduceSub,x0d,x0e,x0f,x0g,x0h,x0i,x0j,x0k,Int.reduceEq,Int.reduceLT,Int.reduceLE,Int.reduceToNat,Int.cast_ofNat_Int,List.reduceReplicate]; rfl) ?_ | refine envQ (by simp -implicitDefEqProofs only [vmp,↓vmd,Env.get,putD,argEnv,List.map,x00,x01,x02,x03,x04,x05,x06,x07,List.take,List.drop,x08,x09,x0a,x0b,List.isEmpty,↓reduceIte,reduceCtorEq,Nat.reduceEqDiff,Nat.reduceAdd,Nat.reduceLeDiff,x0c,Int.reduceNeg,Nat.reduceMul,Nat.reduceSub,x0d,x0e,x0f,x0g,x0h,x0i,x0j,x0k,Int.reduceEq,Int.reduceLT,Int.reduceLE,Int.reduceToNat,Int.cast_ofNat_Int,List.reduceReplicate]; rfl) ?_
      simp -implicitDefEqProofs only [vmp,↓vmd,Env.get,putD,argEnv,List.map,x00,x01,x02,x03,x04,x05,x06,x07,List.take,List.drop,x08,x09,x0a,x0b,List.isEmpty,↓reduceIte,reduceCtorEq,Nat.reduceEqDiff,Nat.reduceAdd,Nat.reduceLeDiff,x0c,Int.reduceNeg,Nat.reduceMul,Nat.reduceSub,x0d,x0e,x0f,x0g,x0h,x0i,x0j,x0k,Int.reduceEq,Int.reduceLT,Int.reduceLE,Int.reduceToNat,Int.cast_ofNat_Int,List.reduceReplicate]
      refine onC_fr (cloneG_c ls hl) [] (by simp) trivial rfl rfl (by simp) ?_
      first | refine envO (by simp -implicitDefEqProofs only [vmp,↓vmd,Env.get,putD,argEnv,List.map,x00,x01,x02,x03,x04,x05,x06,x07,List.take,List.drop,x08,x09,x0a,x0b,List.isEmpty,↓reduceIte,reduceCtorEq,Nat.reduceEqDiff,Nat.reduceAdd,Nat.reduceLeDiff,x0c,Int.reduceNeg,Nat.reduceMul,Nat.reduceSub,x0d,x0e,x0f,x0g,x0h,x0i,x0j,x0k,Int.reduceEq,Int.reduceLT,Int.reduceLE,Int.reduceToNat,Int.cast_ofNat_Int,List.reduceReplicate]; rfl) ?_ | refine envQ (by simp -implicitDefEqProofs only [vmp,↓vmd,Env.get,putD,argEnv,List.map,x00,x01,x02,x03,x04,x05,x06,x07,List.take,List.drop,x08,x09,x0a,x0b,List.isEmpty,↓reduceIte,reduceCtorEq,Nat.reduceEqDiff,Nat.reduceAdd,Nat.reduceLeDiff,x0c,Int.reduceNeg,Nat.reduceMul,Nat.reduceSub,x0d,x0e,x0f,x0g,x0h,x0i,x0j,x0k,Int.reduceEq,Int.reduceLT,Int.reduceLE,Int.reduceToNat,Int.cast_ofNat_Int,List.reduceReplicate]; rfl) ?_
      simp -implicitDefEqProofs only [hx0, hx1, hgr, hy0, hy1, hgr2, vmp,↓vmd,Env.get,putD,argEnv,List.map,x00,x01,x02,x03,x04,x05,x06,x07,List.take,List.drop,x08,x09,x0a,x0b,List.isEmpty,↓reduceIte,reduceCtorEq,Nat.reduceEqDiff,Nat.reduceAdd,Nat.reduceLeDiff,x0c,Int.reduceNeg,Nat.reduceMul,Nat.reduceSub,x0d,x0e,x0f,x0g,x0h,x0i,x0j,x0k,Int.reduceEq,Int.reduceLT,Int.reduceLE,Int.reduceToNat,Int.cast_ofNat_Int,List.reduceReplicate]
      refine onQ_q (addG_q _ _) rfl ?_
      first | refine envO (by simp -implicitDefEqProofs only [vmp,↓vmd,Env.get,putD,argEnv,List.map,x00,x01,x02,x03,x04,x05,x06,x07,List.take,List.drop,x08,x09,x0a,x0b,List.isEmpty,↓reduceIte,reduceCtorEq,Nat.reduceEqDiff,Nat.reduceAdd,Nat.reduceLeDiff,x0c,Int.reduceNeg,Nat.reduceMul,Nat.reduceSub,x0d,x0e,x0f,x0g,x0h,x0i,x0j,x0k,Int.reduceEq,Int.reduceLT,Int.reduceLE,Int.reduceToNat,Int.cast_ofNat_Int,List.reduceReplicate]; rfl) ?_ | refine envQ (by simp -implicitDefEqProofs only [vmp,↓vmd,Env.get,putD,argEnv,List.map,x00,x01,x02,x03,x04,x05,x06,x07,List.take,List.drop,x08,x09,x0a,x0b,List.isEmpty,↓reduceIte,reduceCtorEq,Nat.reduceEqDiff,Nat.reduceAdd,Nat.reduceLeDiff,x0c,Int.reduceNeg,Nat.reduceMul,Nat.reduceSub,x0d,x0e,x0f,x0g,x0h,x0i,x0j,x0k,Int.reduceEq,Int.reduceLT,Int.reduceLE,Int.reduceToNat,Int.cast_ofNat_Int,List.reduceReplicate]; rfl) ?_
      simp -implicitDefEqProofs only [hx0, hx1, hgr, hy0, hy1, hgr2, vmp,↓vmd,Env.get,putD,argEnv,List.map,x00,x01,x02,x03,x04,x05,x06,x07,List.take,List.drop,x08,x09,x0a,x0b,List.isEmpty,↓reduceIte,reduceCtorEq,Nat.reduceEqDiff,Nat.reduceAdd,Nat.reduceLeDiff,x0c,Int.reduceNeg,Nat.reduceMul,Nat.reduceSub,x0d,x0e,x0f,x0g,x0h,x0i,x0j,x0k,Int.reduceEq,Int.reduceLT,Int.reduceLE,Int.reduceToNat,Int.cast_ofNat_Int,List.reduceReplicate]
      refine onQ_q (addG_q _ _) rfl ?_
      first | refine envO (by simp -implicitDefEqProofs only [vmp,↓vmd,Env.get,putD,argEnv,List.map,x00,x01,x02,x03,x04,x05,x06,x07,List.take,List.drop,x08,x09,x0a,x0b,List.isEmpty,↓reduceIte,reduceCtorEq,Nat.reduceEqDiff,Nat.reduceAdd,Nat.reduceLeDiff,x0c,Int.reduceNeg,Nat.reduceMul,Nat.reduceSub,x0d,x0e,x0f,x0g,x0h,x0i,x0j,x0k,Int.reduceEq,Int.reduceLT,Int.reduceLE,Int.reduceToNat,Int.cast_ofNat_Int,List.reduceReplicate]; rfl) ?_ | refine envQ (by simp -implicitDefEqProofs only [vmp,↓vmd,Env.get,putD,argEnv,List.map,x00,x01,x02,x03,x04,x05,x06,x07,List.take,List.drop,x08,x09,x0a,x0b,List.isEmpty,↓reduceIte,reduceCtorEq,Nat.reduceEqDiff,Nat.reduceAdd,Nat.reduceLeDiff,x0c,Int.reduceNeg,Nat.reduceMul,Nat.reduceSub,x0d,x0e,x0f,x0g,x0h,x0i,x0j,x0k,Int.reduceEq,Int.reduceLT,Int.reduceLE,Int.reduceToNat,Int.cast_ofNat_Int,List.reduceReplicate]; rfl) ?_
      have hrs := row_set (f := gl) (X := ls) (k := x.toNat) (a := addG (glAt ls x) q.1)
      have hgr3 := glAt_row (ls := ls.set x.toNat (addG (glAt ls x) q.1)) (y := y) hy0 (by rw [List.length_set]; exact hy1)
      simp -implicitDefEqProofs only [hx0, hx1, hgr, hy0, hy1, hrs, hgr3, vmp,↓vmd,Env.get,putD,argEnv,List.map,x00,x01,x02,x03,x04,x05,x06,x07,List.take,List.drop,x08,x09,x0a,x0b,List.isEmpty,↓reduceIte,reduceCtorEq,Nat.reduceEqDiff,Nat.reduceAdd,Nat.reduceLeDiff,x0c,Int.reduceNeg,Nat.reduceMul,Nat.reduceSub,x0d,x0e,x0f,x0g,x0h,x0i,x0j,x0k,Int.reduceEq,Int.reduceLT,Int.reduceLE,Int.reduceToNat,Int.cast_ofNat_Int,List.reduceReplicate]
      rw [zero3_b]
      by_cases hz : q.2 = zero3
      · simp -implicitDefEqProofs only [hz, vmp,↓vmd,Env.get,putD,argEnv,List.map,x00,x01,x02,x03,x04,x05,x06,x07,List.take,List.drop,x08,x09,x0a,x0b,List.isEmpty,↓reduceIte,reduceCtorEq,Nat.reduceEqDiff,Nat.reduceAdd,Nat.reduceLeDiff,x0c,Int.reduceNeg,Nat.reduceMul,Nat.reduceSub,x0d,x0e,x0f,x0g,x0h,x0i,x0j,x0k,Int.reduceEq,Int.reduceLT,Int.reduceLE,Int.reduceToNat,Int.cast_ofNat_Int,List.reduceReplicate]
        rw [row_set (f := gl)]
        exact gives_tup (toVs_of (toV_rowN rfl (.inr ⟨rfl, rfl⟩) (by simp)) rfl) (by simp)
      · simp -implicitDefEqProofs only [hz, vmp,↓vmd,Env.get,putD,argEnv,List.map,x00,x01,x02,x03,x04,x05,x06,x07,List.take,List.drop,x08,x09,x0a,x0b,List.isEmpty,↓reduceIte,reduceCtorEq,Nat.reduceEqDiff,Nat.reduceAdd,Nat.reduceLeDiff,x0c,Int.reduceNeg,Nat.reduceMul,Nat.reduceSub,x0d,x0e,x0f,x0g,x0h,x0i,x0j,x0k,Int.reduceEq,Int.reduceLT,Int.reduceLE,Int.reduceToNat,Int.cast_ofNat_Int,List.reduceReplicate]
        rw [row_set (f := gl)]
        exact gives_tup (toVs_of (toV_rowN rfl (.inr ⟨rfl, rfl⟩) (by simp)) rfl) (by simp)
  · rw [if_neg h7]
    simp -implicitDefEqProofs only [h6, h7, vmp,↓vmd,Env.get,putD,argEnv,List.map,x00,x01,x02,x03,x04,x05,x06,x07,List.take,List.drop,x08,x09,x0a,x0b,List.isEmpty,↓reduceIte,reduceCtorEq,Nat.reduceEqDiff,Nat.reduceAdd,Nat.reduceLeDiff,x0c,Int.reduceNeg,Nat.reduceMul,Nat.reduceSub,x0d,x0e,x0f,x0g,x0h,x0i,x0j,x0k,Int.reduceEq,Int.reduceLT,Int.reduceLE,Int.reduceToNat,Int.cast_ofNat_Int,List.reduceReplicate]
    exact gives_tup rfl (by simp)
theorem rapply_q (f : Fo) (k : Lk) (hk : ∀ s ∈ k.subs, s.cover.length ≤ 30) (ls : List Gl) (hl : ls.length ≤ 1000) (x : Int) : FnQ Try.prog 77 [fo f, lk k, .sl (ls.map gl), I x] (adjR (applyF f k ls x)) := by
  refine q77 (by simp) ?_
  unfold c77
  simp -implicitDefEqProofs only [*, vmp,↓vmd,Env.get,putD,argEnv,List.map,x00,x01,x02,x03,x04,x05,x06,x07,List.take,List.drop,x08,x09,x0a,x0b,List.isEmpty,↓reduceIte,reduceCtorEq,Nat.reduceEqDiff,Nat.reduceAdd,Nat.reduceLeDiff,x0c,Int.reduceNeg,Nat.reduceMul,Nat.reduceSub,x0d,x0e,x0f,x0g,x0h,x0i,x0j,x0k,Int.reduceEq,Int.reduceLT,Int.reduceLE,Int.reduceToNat,Int.cast_ofNat_Int,List.reduceReplicate]
  by_cases h0 : x < 0
  · simp -implicitDefEqProofs only [h0, vmp,↓vmd,Env.get,putD,argEnv,List.map,x00,x01,x02,x03,x04,x05,x06,x07,List.take,List.drop,x08,x09,x0a,x0b,List.isEmpty,↓reduceIte,reduceCtorEq,Nat.reduceEqDiff,Nat.reduceAdd,Nat.reduceLeDiff,x0c,Int.reduceNeg,Nat.reduceMul,Nat.reduceSub,x0d,x0e,x0f,x0g,x0h,x0i,x0j,x0k,Int.reduceEq,Int.reduceLT,Int.reduceLE,Int.reduceToNat,Int.cast_ofNat_Int,List.reduceReplicate]
    rw [applyF, if_pos (.inl h0)]
    exact gives_tup rfl (by simp)
  simp -implicitDefEqProofs only [h0, vmp,↓vmd,Env.get,putD,argEnv,List.map,x00,x01,x02,x03,x04,x05,x06,x07,List.take,List.drop,x08,x09,x0a,x0b,List.isEmpty,↓reduceIte,reduceCtorEq,Nat.reduceEqDiff,Nat.reduceAdd,Nat.reduceLeDiff,x0c,Int.reduceNeg,Nat.reduceMul,Nat.reduceSub,x0d,x0e,x0f,x0g,x0h,x0i,x0j,x0k,Int.reduceEq,Int.reduceLT,Int.reduceLE,Int.reduceToNat,Int.cast_ofNat_Int,List.reduceReplicate]
  refine onIf_intro fun _ => ?_
  simp -implicitDefEqProofs only [h0, vmp,↓vmd,Env.get,putD,argEnv,List.map,x00,x01,x02,x03,x04,x05,x06,x07,List.take,List.drop,x08,x09,x0a,x0b,List.isEmpty,↓reduceIte,reduceCtorEq,Nat.reduceEqDiff,Nat.reduceAdd,Nat.reduceLeDiff,x0c,Int.reduceNeg,Nat.reduceMul,Nat.reduceSub,x0d,x0e,x0f,x0g,x0h,x0i,x0j,x0k,Int.reduceEq,Int.reduceLT,Int.reduceLE,Int.reduceToNat,Int.cast_ofNat_Int,List.reduceReplicate]
  by_cases h1 : (ls.length : Int) ≤ x
  · simp -implicitDefEqProofs only [h1, vmp,↓vmd,Env.get,putD,argEnv,List.map,x00,x01,x02,x03,x04,x05,x06,x07,List.take,List.drop,x08,x09,x0a,x0b,List.isEmpty,↓reduceIte,reduceCtorEq,Nat.reduceEqDiff,Nat.reduceAdd,Nat.reduceLeDiff,x0c,Int.reduceNeg,Nat.reduceMul,Nat.reduceSub,x0d,x0e,x0f,x0g,x0h,x0i,x0j,x0k,Int.reduceEq,Int.reduceLT,Int.reduceLE,Int.reduceToNat,Int.cast_ofNat_Int,List.reduceReplicate]
    rw [applyF, if_pos (.inr h1)]
    exact gives_tup rfl (by simp)
  rw [applyF, if_neg (by omega)]
  simp -implicitDefEqProofs only [h1, vmp,↓vmd,Env.get,putD,argEnv,List.map,x00,x01,x02,x03,x04,x05,x06,x07,List.take,List.drop,x08,x09,x0a,x0b,List.isEmpty,↓reduceIte,reduceCtorEq,Nat.reduceEqDiff,Nat.reduceAdd,Nat.reduceLeDiff,x0c,Int.reduceNeg,Nat.reduceMul,Nat.reduceSub,x0d,x0e,x0f,x0g,x0h,x0i,x0j,x0k,Int.reduceEq,Int.reduceLT,Int.reduceLE,Int.reduceToNat,Int.cast_ofNat_Int,List.reduceReplicate]
  refine onIf'_intro (appOk0_map (fun _ => rfl) (by omega) (by simp [maxLen]; omega)) ?_
  first | refine envO (by simp -implicitDefEqProofs only [vmp,↓vmd,Env.get,putD,argEnv,List.map,x00,x01,x02,x03,x04,x05,x06,x07,List.take,List.drop,x08,x09,x0a,x0b,List.isEmpty,↓reduceIte,reduceCtorEq,Nat.reduceEqDiff,Nat.reduceAdd,Nat.reduceLeDiff,x0c,Int.reduceNeg,Nat.reduceMul,Nat.reduceSub,x0d,x0e,x0f,x0g,x0h,x0i,x0j,x0k,Int.reduceEq,Int.reduceLT,Int.reduceLE,Int.reduceToNat,Int.cast_ofNat_Int,List.reduceReplicate]; rfl) ?_ | refine envQ (by simp -implicitDefEqProofs only [vmp,↓vmd,Env.get,putD,argEnv,List.map,x00,x01,x02,x03,x04,x05,x06,x07,List.take,List.drop,x08,x09,x0a,x0b,List.isEmpty,↓reduceIte,reduceCtorEq,Nat.reduceEqDiff,Nat.reduceAdd,Nat.reduceLeDiff,x0c,Int.reduceNeg,Nat.reduceMul,Nat.reduceSub,x0d,x0e,x0f,x0g,x0h,x0i,x0j,x0k,Int.reduceEq,Int.reduceLT,Int.reduceLE,Int.reduceToNat,Int.cast_ofNat_Int,List.reduceReplicate]; rfl) ?_
  have hx0 : 0 ≤ x := by omega
  have hx1 : x < ls.length := by omega
  have hg := glAt_map hx0 hx1
  have hgr := glAt_row hx0 hx1
  by_cases h6 : k.kind = 6
  · rw [if_pos h6]
    simp -implicitDefEqProofs only [h6, hx0, hx1, hg, vmp,↓vmd,Env.get,putD,argEnv,List.map,x00,x01,x02,x03,x04,x05,x06,x07,List.take,List.drop,x08,x09,x0a,x0b,List.isEmpty,↓reduceIte,reduceCtorEq,Nat.reduceEqDiff,Nat.reduceAdd,Nat.reduceLeDiff,x0c,Int.reduceNeg,Nat.reduceMul,Nat.reduceSub,x0d,x0e,x0f,x0g,x0h,x0i,x0j,x0k,Int.reduceEq,Int.reduceLT,Int.reduceLE,Int.reduceToNat,Int.cast_ofNat_Int,List.reduceReplicate]
    refine onQ_q (rone_q k _ hk) rfl ?_
    first | refine envO (by simp -implicitDefEqProofs only [vmp,↓vmd,Env.get,putD,argEnv,List.map,x00,x01,x02,x03,x04,x05,x06,x07,List.take,List.drop,x08,x09,x0a,x0b,List.isEmpty,↓reduceIte,reduceCtorEq,Nat.reduceEqDiff,Nat.reduceAdd,Nat.reduceLeDiff,x0c,Int.reduceNeg,Nat.reduceMul,Nat.reduceSub,x0d,x0e,x0f,x0g,x0h,x0i,x0j,x0k,Int.reduceEq,Int.reduceLT,Int.reduceLE,Int.reduceToNat,Int.cast_ofNat_Int,List.reduceReplicate]; rfl) ?_ | refine envQ (by simp -implicitDefEqProofs only [vmp,↓vmd,Env.get,putD,argEnv,List.map,x00,x01,x02,x03,x04,x05,x06,x07,List.take,List.drop,x08,x09,x0a,x0b,List.isEmpty,↓reduceIte,reduceCtorEq,Nat.reduceEqDiff,Nat.reduceAdd,Nat.reduceLeDiff,x0c,Int.reduceNeg,Nat.reduceMul,Nat.reduceSub,x0d,x0e,x0f,x0g,x0h,x0i,x0j,x0k,Int.reduceEq,Int.reduceLT,Int.reduceLE,Int.reduceToNat,Int.cast_ofNat_Int,List.reduceReplicate]; rfl) ?_
    cases hc : aloneF k.subs (glAt ls x).id with
    | none =>
      simp -implicitDefEqProofs only [oneR, vmp,↓vmd,Env.get,putD,argEnv,List.map,x00,x01,x02,x03,x04,x05,x06,x07,List.take,List.drop,x08,x09,x0a,x0b,List.isEmpty,↓reduceIte,reduceCtorEq,Nat.reduceEqDiff,Nat.reduceAdd,Nat.reduceLeDiff,x0c,Int.reduceNeg,Nat.reduceMul,Nat.reduceSub,x0d,x0e,x0f,x0g,x0h,x0i,x0j,x0k,Int.reduceEq,Int.reduceLT,Int.reduceLE,Int.reduceToNat,Int.cast_ofNat_Int,List.reduceReplicate]
      exact gives_tup rfl (by simp)
    | some v =>
      simp -implicitDefEqProofs only [oneR, hx0, hx1, hgr, hg, vmp,↓vmd,Env.get,putD,argEnv,List.map,x00,x01,x02,x03,x04,x05,x06,x07,List.take,List.drop,x08,x09,x0a,x0b,List.isEmpty,↓reduceIte,reduceCtorEq,Nat.reduceEqDiff,Nat.reduceAdd,Nat.reduceLeDiff,x0c,Int.reduceNeg,Nat.reduceMul,Nat.reduceSub,x0d,x0e,x0f,x0g,x0h,x0i,x0j,x0k,Int.reduceEq,Int.reduceLT,Int.reduceLE,Int.reduceToNat,Int.cast_ofNat_Int,List.reduceReplicate]
      refine onQ_q (raddG_q _ _) rfl ?_
      first | refine envO (by simp -implicitDefEqProofs only [vmp,↓vmd,Env.get,putD,argEnv,List.map,x00,x01,x02,x03,x04,x05,x06,x07,List.take,List.drop,x08,x09,x0a,x0b,List.isEmpty,↓reduceIte,reduceCtorEq,Nat.reduceEqDiff,Nat.reduceAdd,Nat.reduceLeDiff,x0c,Int.reduceNeg,Nat.reduceMul,Nat.reduceSub,x0d,x0e,x0f,x0g,x0h,x0i,x0j,x0k,Int.reduceEq,Int.reduceLT,Int.reduceLE,Int.reduceToNat,Int.cast_ofNat_Int,List.reduceReplicate]; rfl) ?_ | refine envQ (by simp -implicitDefEqProofs only [vmp,↓vmd,Env.get,putD,argEnv,List.map,x00,x01,x02,x03,x04,x05,x06,x07,List.take,List.drop,x08,x09,x0a,x0b,List.isEmpty,↓reduceIte,reduceCtorEq,Nat.reduceEqDiff,Nat.reduceAdd,Nat.reduceLeDiff,x0c,Int.reduceNeg,Nat.reduceMul,Nat.reduceSub,x0d,x0e,x0f,x0g,x0h,x0i,x0j,x0k,Int.reduceEq,Int.reduceLT,Int.reduceLE,Int.reduceToNat,Int.cast_ofNat_Int,List.reduceReplicate]; rfl) ?_
      simp -implicitDefEqProofs only [hx0, hx1, hgr, vmp,↓vmd,Env.get,putD,argEnv,List.map,x00,x01,x02,x03,x04,x05,x06,x07,List.take,List.drop,x08,x09,x0a,x0b,List.isEmpty,↓reduceIte,reduceCtorEq,Nat.reduceEqDiff,Nat.reduceAdd,Nat.reduceLeDiff,x0c,Int.reduceNeg,Nat.reduceMul,Nat.reduceSub,x0d,x0e,x0f,x0g,x0h,x0i,x0j,x0k,Int.reduceEq,Int.reduceLT,Int.reduceLE,Int.reduceToNat,Int.cast_ofNat_Int,List.reduceReplicate]
      rw [row_set (f := gl)]
      exact gives_tup (toVs_of (toV_rowN rfl (.inr ⟨rfl, rfl⟩) (by simp)) rfl) (by simp)
  rw [if_neg h6]
  by_cases h7 : k.kind = 7
  · rw [if_pos h7]
    have hnq := rnext_q f k.kind k.flags k.set (.sl (k.subs.map sub)) ls x hl
    have hin := nextF_in (p := seesF f k.flags k.set ls) (n := ls.length) (a := x)
    simp -implicitDefEqProofs only [h6, h7, vmp,↓vmd,Env.get,putD,argEnv,List.map,x00,x01,x02,x03,x04,x05,x06,x07,List.take,List.drop,x08,x09,x0a,x0b,List.isEmpty,↓reduceIte,reduceCtorEq,Nat.reduceEqDiff,Nat.reduceAdd,Nat.reduceLeDiff,x0c,Int.reduceNeg,Nat.reduceMul,Nat.reduceSub,x0d,x0e,x0f,x0g,x0h,x0i,x0j,x0k,Int.reduceEq,Int.reduceLT,Int.reduceLE,Int.reduceToNat,Int.cast_ofNat_Int,List.reduceReplicate]
    generalize nextF (seesF f k.flags k.set ls) ls.length x = y at *
    refine onC_q hnq rfl ?_
    first | refine envO (by simp -implicitDefEqProofs only [vmp,↓vmd,Env.get,putD,argEnv,List.map,x00,x01,x02,x03,x04,x05,x06,x07,List.take,List.drop,x08,x09,x0a,x0b,List.isEmpty,↓reduceIte,reduceCtorEq,Nat.reduceEqDiff,Nat.reduceAdd,Nat.reduceLeDiff,x0c,Int.reduceNeg,Nat.reduceMul,Nat.reduceSub,x0d,x0e,x0f,x0g,x0h,x0i,x0j,x0k,Int.reduceEq,Int.reduceLT,Int.reduceLE,Int.reduceToNat,Int.cast_ofNat_Int,List.reduceReplicate]; rfl) ?_ | refine envQ (by simp -implicitDefEqProofs only [vmp,↓vmd,Env.get,putD,argEnv,List.map,x00,x01,x02,x03,x04,x05,x06,x07,List.take,List.drop,x08,x09,x0a,x0b,List.isEmpty,↓reduceIte,reduceCtorEq,Nat.reduceEqDiff,Nat.reduceAdd,Nat.reduceLeDiff,x0c,Int.reduceNeg,Nat.reduceMul,Nat.reduceSub,x0d,x0e,x0f,x0g,x0h,x0i,x0j,x0k,Int.reduceEq,Int.reduceLT,Int.reduceLE,Int.reduceToNat,Int.cast_ofNat_Int,List.reduceReplicate]; rfl) ?_
    by_cases hy : y = -1
    · rw [if_pos hy]
      simp -implicitDefEqProofs only [hy, vmp,↓vmd,Env.get,putD,argEnv,List.map,x00,x01,x02,x03,x04,x05,x06,x07,List.take,List.drop,x08,x09,x0a,x0b,List.isEmpty,↓reduceIte,reduceCtorEq,Nat.reduceEqDiff,Nat.reduceAdd,Nat.reduceLeDiff,x0c,Int.reduceNeg,Nat.reduceMul,Nat.reduceSub,x0d,x0e,x0f,x0g,x0h,x0i,x0j,x0k,Int.reduceEq,Int.reduceLT,Int.reduceLE,Int.reduceToNat,Int.cast_ofNat_Int,List.reduceReplicate]
      exact gives_tup rfl (by simp)
    rw [if_neg hy]
    have hy0 : 0 ≤ y := by omega
    have hy1 : y < ls.length := by omega
    have hg2 := glAt_map hy0 hy1
    have hgr2 := glAt_row hy0 hy1
    have hp := rpair_q k (glAt ls x).id (glAt ls y).id
    simp -implicitDefEqProofs only [hy, hx0, hx1, hg, hy0, hy1, hg2, vmp,↓vmd,Env.get,putD,argEnv,List.map,x00,x01,x02,x03,x04,x05,x06,x07,List.take,List.drop,x08,x09,x0a,x0b,List.isEmpty,↓reduceIte,reduceCtorEq,Nat.reduceEqDiff,Nat.reduceAdd,Nat.reduceLeDiff,x0c,Int.reduceNeg,Nat.reduceMul,Nat.reduceSub,x0d,x0e,x0f,x0g,x0h,x0i,x0j,x0k,Int.reduceEq,Int.reduceLT,Int.reduceLE,Int.reduceToNat,Int.cast_ofNat_Int,List.reduceReplicate]
    cases hc : findSub k.subs (glAt ls x).id (glAt ls y).id with
    | none =>
      rw [hc] at hp
      have hp' : FnQ Try.prog 26 [lk k, I (glAt ls x).id, I (glAt ls y).id] [sp zero3, sp zero3, .bool false] := hp
      refine onQ_q hp' rfl ?_
      first | refine envO (by simp -implicitDefEqProofs only [vmp,↓vmd,Env.get,putD,argEnv,List.map,x00,x01,x02,x03,x04,x05,x06,x07,List.take,List.drop,x08,x09,x0a,x0b,List.isEmpty,↓reduceIte,reduceCtorEq,Nat.reduceEqDiff,Nat.reduceAdd,Nat.reduceLeDiff,x0c,Int.reduceNeg,Nat.reduceMul,Nat.reduceSub,x0d,x0e,x0f,x0g,x0h,x0i,x0j,x0k,Int.reduceEq,Int.reduceLT,Int.reduceLE,Int.reduceToNat,Int.cast_ofNat_Int,List.reduceReplicate]; rfl) ?_ | refine envQ (by simp -implicitDefEqProofs only [vmp,↓vmd,Env.get,putD,argEnv,List.map,x00,x01,x02,x03,x04,x05,x06,x07,List.take,List.drop,x08,x09,x0a,x0b,List.isEmpty,↓reduceIte,reduceCtorEq,Nat.reduceEqDiff,Nat.reduceAdd,Nat.reduceLeDiff,x0c,Int.reduceNeg,Nat.reduceMul,Nat.reduceSub,x0d,x0e,x0f,x0g,x0h,x0i,x0j,x0k,Int.reduceEq,Int.reduceLT,Int.reduceLE,Int.reduceToNat,Int.cast_ofNat_Int,List.reduceReplicate]; rfl) ?_
      simp -implicitDefEqProofs only [vmp,↓vmd,Env.get,putD,argEnv,List.map,x00,x01,x02,x03,x04,x05,x06,x07,List.take,List.drop,x08,x09,x0a,x0b,List.isEmpty,↓reduceIte,reduceCtorEq,Nat.reduceEqDiff,Nat.reduceAdd,Nat.reduceLeDiff,x0c,Int.reduceNeg,Nat.reduceMul,Nat.reduceSub,x0d,x0e,x0f,x0g,x0h,x0i,x0j,x0k,Int.reduceEq,Int.reduceLT,Int.reduceLE,Int.reduceToNat,Int.cast_ofNat_Int,List.reduceReplicate]
      exact gives_tup rfl (by simp)
    | some q =>
      rw [hc] at hp
      have hp' : FnQ Try.prog 26 [lk k, I (glAt ls x).id, I (glAt ls y).id] [sp q.1, sp q.2, .bool true] := hp
      refine onQ_q hp' rfl ?_
      first | refine envO (by simp -implicitDefEqProofs only [vmp,↓vmd,Env.get,putD,argEnv,List.map,x00,x01,x02,x03,x04,x05,x06,x07,List.take,List.drop,x08,x09,x0a,x0b,List.isEmpty,↓reduceIte,reduceCtorEq,Nat.reduceEqDiff,Nat.reduceAdd,Nat.reduceLeDiff,x0c,Int.reduceNeg,Nat.reduceMul,Nat.reduceSub,x0d,x0e,x0f,x0g,x0h,x0i,x0j,x0k,Int.reduceEq,Int.reduceLT,Int.reduceLE,Int.reduceToNat,Int.cast_ofNat_Int,List.reduceReplicate]; rfl) ?_ | refine envQ (by simp -implicitDefEqProofs only [vmp,↓vmd,Env.get,putD,argEnv,List.map,x00,x01,x02,x03,x04,x05,x06,x07,List.take,List.drop,x08,x09,x0a,x0b,List.isEmpty,↓reduceIte,reduceCtorEq,Nat.reduceEqDiff,Nat.reduceAdd,Nat.reduceLeDiff,x0c,Int.reduceNeg,Nat.reduceMul,Nat.reduceSub,x0d,x0e,x0f,x0g,x0h,x0i,x0j,x0k,Int.reduceEq,Int.reduceLT,Int.reduceLE,Int.reduceToNat,Int.cast_ofNat_Int,List.reduceReplicate]; rfl) ?_
      simp -implicitDefEqProofs only [hx0, hx1, hg, hgr, hy0, hy1, hgr2, vmp,↓vmd,Env.get,putD,argEnv,List.map,x00,x01,x02,x03,x04,x05,x06,x07,List.take,List.drop,x08,x09,x0a,x0b,List.isEmpty,↓reduceIte,reduceCtorEq,Nat.reduceEqDiff,Nat.reduceAdd,Nat.reduceLeDiff,x0c,Int.reduceNeg,Nat.reduceMul,Nat.reduceSub,x0d,x0e,x0f,x0g,x0h,x0i,x0j,x0k,Int.reduceEq,Int.reduceLT,Int.reduceLE,Int.reduceToNat,Int.cast_ofNat_Int,List.reduceReplicate]
      refine onQ_q (raddG_q _ _) rfl ?_
      first | refine envO (by simp -implicitDefEqProofs only [vmp,↓vmd,Env.get,putD,argEnv,List.map,x00,x01,x02,x03,x04,x05,x06,x07,List.take,List.drop,x08,x09,x0a,x0b,List.isEmpty,↓reduceIte,reduceCtorEq,Nat.reduceEqDiff,Nat.reduceAdd,Nat.reduceLeDiff,x0c,Int.reduceNeg,Nat.reduceMul,Nat.reduceSub,x0d,x0e,x0f,x0g,x0h,x0i,x0j,x0k,Int.reduceEq,Int.reduceLT,Int.reduceLE,Int.reduceToNat,Int.cast_ofNat_Int,List.reduceReplicate]; rfl) ?_ | refine envQ (by simp -implicitDefEqProofs only [vmp,↓vmd,Env.get,putD,argEnv,List.map,x00,x01,x02,x03,x04,x05,x06,x07,List.take,List.drop,x08,x09,x0a,x0b,List.isEmpty,↓reduceIte,reduceCtorEq,Nat.reduceEqDiff,Nat.reduceAdd,Nat.reduceLeDiff,x0c,Int.reduceNeg,Nat.reduceMul,Nat.reduceSub,x0d,x0e,x0f,x0g,x0h,x0i,x0j,x0k,Int.reduceEq,Int.reduceLT,Int.reduceLE,Int.reduceToNat,Int.cast_ofNat_Int,List.reduceReplicate]; rfl) ?_
      have hrs := row_set (f := gl) (X := ls) (k := x.toNat) (a := addG (glAt ls x) q.1)
      have hgr3 := glAt_row (ls := ls.set x.toNat (addG (glAt ls x) q.1)) (y := y) hy0 (by rw [List.length_set]; exact hy1)
      simp -implicitDefEqProofs only [hx0, hx1, hgr, hy0, hy1, hg2, hrs, hgr3, vmp,↓vmd,Env.get,putD,argEnv,List.map,x00,x01,x02,x03,x04,x05,x06,x07,List.take,List.drop,x08,x09,x0a,x0b,List.isEmpty,↓reduceIte,reduceCtorEq,Nat.reduceEqDiff,Nat.reduceAdd,Nat.reduceLeDiff,x0c,Int.reduceNeg,Nat.reduceMul,Nat.reduceSub,x0d,x0e,x0f,x0g,x0h,x0i,x0j,x0k,Int.reduceEq,Int.reduceLT,Int.reduceLE,Int.reduceToNat,Int.cast_ofNat_Int,List.reduceReplicate]
      refine onQ_q (raddG_q _ _) rfl ?_
      first | refine envO (by simp -implicitDefEqProofs only [vmp,↓vmd,Env.get,putD,argEnv,List.map,x00,x01,x02,x03,x04,x05,x06,x07,List.take,List.drop,x08,x09,x0a,x0b,List.isEmpty,↓reduceIte,reduceCtorEq,Nat.reduceEqDiff,Nat.reduceAdd,Nat.reduceLeDiff,x0c,Int.reduceNeg,Nat.reduceMul,Nat.reduceSub,x0d,x0e,x0f,x0g,x0h,x0i,x0j,x0k,Int.reduceEq,Int.reduceLT,Int.reduceLE,Int.reduceToNat,Int.cast_ofNat_Int,List.reduceReplicate]; rfl) ?_ | refine envQ (by simp -implicitDefEqProofs only [vmp,↓vmd,Env.get,putD,argEnv,List.map,x00,x01,x02,x03,x04,x05,x06,x07,List.take,List.drop,x08,x09,x0a,x0b,List.isEmpty,↓reduceIte,reduceCtorEq,Nat.reduceEqDiff,Nat.reduceAdd,Nat.reduceLeDiff,x0c,Int.reduceNeg,Nat.reduceMul,Nat.reduceSub,x0d,x0e,x0f,x0g,x0h,x0i,x0j,x0k,Int.reduceEq,Int.reduceLT,Int.reduceLE,Int.reduceToNat,Int.cast_ofNat_Int,List.reduceReplicate]; rfl) ?_
      simp -implicitDefEqProofs only [hx0, hx1, hgr, hy0, hy1, hrs, hgr3, vmp,↓vmd,Env.get,putD,argEnv,List.map,x00,x01,x02,x03,x04,x05,x06,x07,List.take,List.drop,x08,x09,x0a,x0b,List.isEmpty,↓reduceIte,reduceCtorEq,Nat.reduceEqDiff,Nat.reduceAdd,Nat.reduceLeDiff,x0c,Int.reduceNeg,Nat.reduceMul,Nat.reduceSub,x0d,x0e,x0f,x0g,x0h,x0i,x0j,x0k,Int.reduceEq,Int.reduceLT,Int.reduceLE,Int.reduceToNat,Int.cast_ofNat_Int,List.reduceReplicate]
      rw [zero3_b]
      by_cases hz : q.2 = zero3
      · simp -implicitDefEqProofs only [hz, vmp,↓vmd,Env.get,putD,argEnv,List.map,x00,x01,x02,x03,x04,x05,x06,x07,List.take,List.drop,x08,x09,x0a,x0b,List.isEmpty,↓reduceIte,reduceCtorEq,Nat.reduceEqDiff,Nat.reduceAdd,Nat.reduceLeDiff,x0c,Int.reduceNeg,Nat.reduceMul,Nat.reduceSub,x0d,x0e,x0f,x0g,x0h,x0i,x0j,x0k,Int.reduceEq,Int.reduceLT,Int.reduceLE,Int.reduceToNat,Int.cast_ofNat_Int,List.reduceReplicate]
        rw [row_set (f := gl)]
        exact gives_tup (toVs_of (toV_rowN rfl (.inr ⟨rfl, rfl⟩) (by simp)) rfl) (by simp)
      · simp -implicitDefEqProofs only [hz, vmp,↓vmd,Env.get,putD,argEnv,List.map,x00,x01,x02,x03,x04,x05,x06,x07,List.take,List.drop,x08,x09,x0a,x0b,List.isEmpty,↓reduceIte,reduceCtorEq,Nat.reduceEqDiff,Nat.reduceAdd,Nat.reduceLeDiff,x0c,Int.reduceNeg,Nat.reduceMul,Nat.reduceSub,x0d,x0e,x0f,x0g,x0h,x0i,x0j,x0k,Int.reduceEq,Int.reduceLT,Int.reduceLE,Int.reduceToNat,Int.cast_ofNat_Int,List.reduceReplicate]
        rw [row_set (f := gl)]
        exact gives_tup (toVs_of (toV_rowN rfl (.inr ⟨rfl, rfl⟩) (by simp)) rfl) (by simp)
  · rw [if_neg h7]
    simp -implicitDefEqProofs only [h6, h7, vmp,↓vmd,Env.get,putD,argEnv,List.map,x00,x01,x02,x03,x04,x05,x06,x07,List.take,List.drop,x08,x09,x0a,x0b,List.isEmpty,↓reduceIte,reduceCtorEq,Nat.reduceEqDiff,Nat.reduceAdd,Nat.reduceLeDiff,x0c,Int.reduceNeg,Nat.reduceMul,Nat.reduceSub,x0d,x0e,x0f,x0g,x0h,x0i,x0j,x0k,Int.reduceEq,Int.reduceLT,Int.reduceLE,Int.reduceToNat,Int.cast_ofNat_Int,List.reduceReplicate]
    exact gives_tup rfl (by simp)
end Go.Proofs.Ytjgodncjlffhjaa.W
