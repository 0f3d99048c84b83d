/-
  Ligatures that are applied: two functions, one answer. No condition but on sizes.
-/
import Derived.Test.YtbllbkhkmngclaaLiga4
namespace Go.Proofs.Ytbllbkhkmngclaa.W
open Go Go.Vm Go.Proofs
set_option maxRecDepth 100000
set_option linter.unusedSimpArgs false
set_option maxHeartbeats 4000000
/-! typecase/liga.Apply -/
def c38_0 : AC :=
  (.seq (.reg [⟨some 115, none, .mov (.s 19)⟩,
    ⟨some 116, none, .len (.s 115)⟩,
    ⟨some 23, none, .mov (.s 116)⟩])
  (.seq (.reg [⟨some 117, none, .mov (.s 19)⟩,
    ⟨some 118, none, .mov (.s 15)⟩,
    ⟨some 119, none, .mov (.s 14)⟩,
    ⟨some 120, none, .slc 10 (.s 118) (some (.s 119)) none none⟩,
    ⟨some 121, none, .app 10 80 (.s 117) (.s 120)⟩,
    ⟨some 122, none, .mov (.s 23)⟩,
    ⟨some 8, none, .mov (.s 121)⟩,
    ⟨some 9, none, .mov (.s 122)⟩,
    ⟨some 10, none, .mov (.c (.pure (.bool true)))⟩])
  .ret))
def c38_1 : AC :=
  (.seq (.seq (.reg [⟨some 82, none, .mov (.s 21)⟩,
    ⟨some 83, none, .mov (.s 14)⟩,
    ⟨some 84, none, .bin .lss (.s 82) (.s 83)⟩])
  (.cond (.s 84)
  .skip
  (.exit 2)))
  (.seq (.block 3
  (.seq (.seq (.reg [⟨some 87, none, .mov (.s 20)⟩,
    ⟨some 88, none, .bin .add (.s 87) (.c (.pure (.int .i64 1)))⟩,
    ⟨some 89, none, .mov (.s 12)⟩,
    ⟨some 90, none, .len (.s 89)⟩,
    ⟨some 91, none, .bin .lss (.s 88) (.s 90)⟩,
    ⟨some 92, none, .mov (.s 91)⟩,
    ⟨some 93, some (92, true), .mov (.s 12)⟩,
    ⟨some 94, some (92, true), .mov (.s 20)⟩,
    ⟨some 95, some (92, true), .bin .add (.s 94) (.c (.pure (.int .i64 1)))⟩,
    ⟨some 96, some (92, true), .idxA 1 (.s 93) (.s 95)⟩,
    ⟨some 97, some (92, true), .load false 1 (.s 96)⟩,
    ⟨some 98, some (92, true), .mov (.s 21)⟩,
    ⟨some 99, some (92, true), .bin .eql (.s 97) (.s 98)⟩,
    ⟨some 100, none, .pick (.s 92) (.s 99) (.c (.pure (.bool false)))⟩])
  (.cond (.s 100)
  (.seq (.reg [⟨some 101, none, .mov (.s 20)⟩,
    ⟨some 102, none, .bin .add (.s 101) (.c (.pure (.int .i64 1)))⟩,
    ⟨some 20, none, .mov (.s 102)⟩])
  (.exit 3))
  .skip))
  (.seq (.reg [⟨some 103, none, .mov (.s 15)⟩,
    ⟨some 104, none, .mov (.s 21)⟩,
    ⟨some 105, none, .idxA 10 (.s 103) (.s 104)⟩,
    ⟨some 106, none, .load true 10 (.s 105)⟩,
    ⟨some 22, none, .box (.c (.pure (.agg [(.int .i64 0), (.int .i64 0), (.int .i64 0), (.int .i64 0), (.int .i64 0), (.int .i64 0), (.int .i64 0), (.int .i64 0), (.int .i64 0), (.int .i64 0)])))⟩,
    ⟨none, none, .store 10 (.s 22) (.s 106)⟩])
  (.seq (.reg [⟨some 107, none, .mov (.s 16)⟩,
    ⟨some 108, none, .mov (.s 20)⟩,
    ⟨some 109, none, .fldA 7 (.s 22)⟩,
    ⟨none, none, .store 1 (.s 109) (.s 107)⟩,
    ⟨some 110, none, .fldA 8 (.s 22)⟩,
    ⟨none, none, .store 1 (.s 110) (.s 108)⟩])
  (.reg [⟨some 111, none, .mov (.s 19)⟩,
    ⟨some 112, none, .load true 10 (.s 22)⟩,
    ⟨some 113, none, .bslice 10 [(.s 112)]⟩,
    ⟨some 114, none, .app 10 80 (.s 111) (.s 113)⟩,
    ⟨some 19, none, .mov (.s 114)⟩])))))
  (.reg [⟨some 85, none, .mov (.s 21)⟩,
    ⟨some 86, none, .bin .add (.s 85) (.c (.pure (.int .i64 1)))⟩,
    ⟨some 21, none, .mov (.s 86)⟩])))
def c38_2 : AC :=
  (.seq (.reg [⟨some 57, none, .mov (.s 16)⟩,
    ⟨some 58, none, .bin .add (.s 57) (.c (.pure (.int .i64 1)))⟩,
    ⟨some 16, none, .mov (.s 58)⟩])
  (.seq (.reg [⟨some 59, none, .mov (.s 15)⟩,
    ⟨some 60, none, .mov (.s 3)⟩,
    ⟨some 61, none, .slc 10 (.s 59) none (some (.s 60)) none⟩,
    ⟨some 62, none, .call 61 [(.s 61)]⟩,
    ⟨some 19, none, .mov (.s 62)⟩])
  (.seq (.regq [⟨some 63, none, .mov (.s 19)⟩,
    ⟨some 64, none, .fldA 1 (.s 11)⟩,
    ⟨some 65, none, .load false 1 (.s 64)⟩,
    ⟨some 66, none, .mov (.s 15)⟩,
    ⟨some 67, none, .mov (.s 3)⟩,
    ⟨some 68, none, .idxA 10 (.s 66) (.s 67)⟩,
    ⟨some 69, none, .fldA 1 (.s 68)⟩,
    ⟨some 70, none, .load false 1 (.s 69)⟩,
    ⟨some 71, none, .mov (.s 15)⟩,
    ⟨some 72, none, .mov (.s 3)⟩,
    ⟨some 73, none, .idxA 10 (.s 71) (.s 72)⟩,
    ⟨some 74, none, .fldA 9 (.s 73)⟩,
    ⟨some 75, none, .load false 1 (.s 74)⟩,
    ⟨some 76, none, .mov (.s 16)⟩,
    ⟨some 77, none, .build [(.pure (.int .i64 0)), (.pure (.int .i64 0)), (.pure (.int .i64 0)), (.pure (.int .i64 0)), (.pure (.int .i64 0)), (.pure (.int .i64 0)), (.pure (.int .i64 0)), (.pure (.int .i64 0)), (.pure (.int .i64 0)), (.pure (.int .i64 0))] [(0, 1, (.s 65)), (1, 1, (.s 70)), (9, 1, (.s 75)), (7, 1, (.s 76)), (5, 1, (.c (.pure (.int .i64 (-1))))), (6, 1, (.c (.pure (.int .i64 (-1)))))]⟩,
    ⟨some 78, none, .bslice 10 [(.s 77)]⟩]
    [⟨some 79, none, .app 10 80 (.s 63) (.s 78)⟩,
    ⟨some 19, none, .mov (.s 79)⟩])
  (.seq (.reg [⟨some 20, none, .mov (.c (.pure (.int .i64 0)))⟩])
  (.seq (.seq (.reg [⟨some 80, none, .mov (.s 3)⟩,
    ⟨some 81, none, .bin .add (.s 80) (.c (.pure (.int .i64 1)))⟩,
    ⟨some 21, none, .mov (.s 81)⟩])
  (.block 2
  (.loop c38_1)))
  c38_0)))))
def c38_3 : AC :=
  (.seq (.reg [⟨some 49, none, .bin .lss (.s 48) (.s 47)⟩])
  (.seq (.cond (.s 49)
  .skip
  (.exit 0))
  (.seq (.block 1
  (.seq (.reg [⟨some 50, none, .idxA 10 (.s 46) (.s 48)⟩,
    ⟨some 51, none, .load true 10 (.s 50)⟩,
    ⟨some 18, none, .box (.c (.pure (.agg [(.int .i64 0), (.int .i64 0), (.int .i64 0), (.int .i64 0), (.int .i64 0), (.int .i64 0), (.int .i64 0), (.int .i64 0), (.int .i64 0), (.int .i64 0)])))⟩,
    ⟨none, none, .store 10 (.s 18) (.s 51)⟩])
  (.reg [⟨some 52, none, .mov (.s 16)⟩,
    ⟨some 53, none, .fldA 7 (.s 18)⟩,
    ⟨some 54, none, .load false 1 (.s 53)⟩,
    ⟨some 55, none, .mx (.s 52) (.s 54)⟩,
    ⟨some 16, none, .mov (.s 55)⟩])))
  (.reg [⟨some 56, none, .bin .add (.s 48) (.c (.pure (.int .i64 1)))⟩,
    ⟨some 48, none, .mov (.s 56)⟩]))))
def c38 : AC :=
  (.seq (.reg [⟨some 4, none, .box (.s 0)⟩,
    ⟨some 5, none, .box (.s 1)⟩,
    ⟨some 8, none, .mov (.c .empty)⟩,
    ⟨some 9, none, .mov (.c (.pure (.int .i64 0)))⟩,
    ⟨some 10, none, .mov (.c (.pure (.bool false)))⟩])
  (.seq (.reg [⟨some 25, none, .load true 6 (.s 4)⟩,
    ⟨some 26, none, .load true 4 (.s 5)⟩,
    ⟨some 27, none, .mov (.s 2)⟩,
    ⟨some 28, none, .mov (.s 3)⟩,
    ⟨some 29, none, .call 34 [(.s 25), (.s 26), (.s 27), (.s 28)]⟩,
    ⟨some 24, none, .mov (.s 29)⟩,
    ⟨some 30, none, .ext 0 (.s 24)⟩,
    ⟨some 31, none, .ext 1 (.s 24)⟩,
    ⟨some 32, none, .ext 2 (.s 24)⟩,
    ⟨some 11, none, .box (.c (.agg [.empty, (.pure (.int .i64 0))]))⟩,
    ⟨none, none, .store 2 (.s 11) (.s 30)⟩,
    ⟨some 12, none, .mov (.s 31)⟩,
    ⟨some 13, none, .mov (.s 32)⟩])
  (.seq (.seq (.reg [⟨some 33, none, .mov (.s 13)⟩,
    ⟨some 34, none, .un .not (.s 33)⟩])
  (.cond (.s 34)
  (.seq (.reg [⟨some 8, none, .mov (.c .empty)⟩,
    ⟨some 9, none, .mov (.c (.pure (.int .i64 0)))⟩,
    ⟨some 10, none, .mov (.c (.pure (.bool false)))⟩])
  .ret)
  .skip))
  (.seq (.reg [⟨some 35, none, .mov (.s 12)⟩,
    ⟨some 36, none, .mov (.s 12)⟩,
    ⟨some 37, none, .len (.s 36)⟩,
    ⟨some 38, none, .bin .sub (.s 37) (.c (.pure (.int .i64 1)))⟩,
    ⟨some 39, none, .idxA 1 (.s 35) (.s 38)⟩,
    ⟨some 40, none, .load false 1 (.s 39)⟩,
    ⟨some 41, none, .bin .add (.s 40) (.c (.pure (.int .i64 1)))⟩,
    ⟨some 14, none, .mov (.s 41)⟩])
  (.seq (.reg [⟨some 42, none, .mov (.s 2)⟩,
    ⟨some 43, none, .mov (.s 3)⟩,
    ⟨some 44, none, .mov (.s 14)⟩,
    ⟨some 45, none, .call 74 [(.s 42), (.s 43), (.s 44)]⟩,
    ⟨some 15, none, .mov (.s 45)⟩])
  (.seq (.reg [⟨some 16, none, .mov (.c (.pure (.int .i64 0)))⟩])
  (.seq (.seq (.reg [⟨some 46, none, .mov (.s 2)⟩,
    ⟨some 47, none, .len (.s 46)⟩,
    ⟨some 48, none, .mov (.c (.pure (.int .i64 0)))⟩])
  (.block 0
  (.loop c38_3)))
  c38_2)))))))
theorem k38 : (Try.f38.body.bind fun c => cCode Try.prog Try.f38.ntmps RCs c) = some c38 := by kernel_rfl
theorem h38 : (Try.f38.name == "runtime.NumGoroutine") = false := by kernel_rfl
theorem r38 : resC Try.prog Try.f38.results.toList = some [.t 8, .t 9, .t 10] := by kernel_rfl
theorem a38 {args : List S} {H : Heap} {K : S → Heap → Prop} (hn : args.length ≤ 123) (h : aWx Try.prog H.length c38 (PostX [.t 8, .t 9, .t 10] K) (argEnv 0 args) H) : CallA Try.prog 38 args H K :=
  callA_of_x mixed Try.func38 h38 k38 r38 (by rw [Try.ntmps38]; exact hn) h
theorem q38 {vs ds : List V} (hn : vs.length ≤ 123) (h : aWx Try.prog 0 c38 (PostX [.t 8, .t 9, .t 10] (Gives ds)) (argEnv 0 (vs.map .pure)) []) : FnQ Try.prog 38 vs ds :=
  fnQ_of_call (a38 (by simpa using hn) h)
/-! typecase/typecaseref28.Apply -/
def c39_0 : AC :=
  (.seq (.reg [⟨some 98, none, .mov (.s 16)⟩,
    ⟨some 99, none, .len (.s 98)⟩,
    ⟨some 20, none, .mov (.s 99)⟩])
  (.seq (.reg [⟨some 100, none, .mov (.s 16)⟩,
    ⟨some 101, none, .mov (.s 2)⟩,
    ⟨some 102, none, .mov (.s 14)⟩,
    ⟨some 103, none, .bin .add (.s 102) (.c (.pure (.int .i64 1)))⟩,
    ⟨some 104, none, .slc 10 (.s 101) (some (.s 103)) none none⟩,
    ⟨some 105, none, .app 10 80 (.s 100) (.s 104)⟩,
    ⟨some 106, none, .mov (.s 20)⟩,
    ⟨some 8, none, .mov (.s 105)⟩,
    ⟨some 9, none, .mov (.s 106)⟩,
    ⟨some 10, none, .mov (.c (.pure (.bool true)))⟩])
  .ret))
def c39_1 : AC :=
  (.seq (.seq (.reg [⟨some 72, none, .mov (.s 19)⟩,
    ⟨some 73, none, .mov (.s 14)⟩,
    ⟨some 74, none, .bin .leq (.s 72) (.s 73)⟩])
  (.cond (.s 74)
  .skip
  (.exit 0)))
  (.seq (.block 1
  (.seq (.seq (.reg [⟨some 77, none, .mov (.s 19)⟩,
    ⟨some 78, none, .mov (.s 12)⟩,
    ⟨some 79, none, .mov (.s 18)⟩,
    ⟨some 80, none, .bin .add (.s 79) (.c (.pure (.int .i64 1)))⟩,
    ⟨some 81, none, .idxA 1 (.s 78) (.s 80)⟩,
    ⟨some 82, none, .load false 1 (.s 81)⟩,
    ⟨some 83, none, .bin .eql (.s 77) (.s 82)⟩])
  (.cond (.s 83)
  (.seq (.reg [⟨some 84, none, .mov (.s 18)⟩,
    ⟨some 85, none, .bin .add (.s 84) (.c (.pure (.int .i64 1)))⟩,
    ⟨some 18, none, .mov (.s 85)⟩])
  (.exit 1))
  .skip))
  (.seq (.reg [⟨some 86, none, .mov (.s 2)⟩,
    ⟨some 87, none, .mov (.s 19)⟩,
    ⟨some 88, none, .idxA 10 (.s 86) (.s 87)⟩,
    ⟨some 89, none, .load true 10 (.s 88)⟩,
    ⟨none, none, .store 10 (.s 17) (.s 89)⟩])
  (.seq (.reg [⟨some 90, none, .mov (.s 15)⟩,
    ⟨some 91, none, .fldA 7 (.s 17)⟩,
    ⟨none, none, .store 1 (.s 91) (.s 90)⟩])
  (.seq (.reg [⟨some 92, none, .mov (.s 18)⟩,
    ⟨some 93, none, .fldA 8 (.s 17)⟩,
    ⟨none, none, .store 1 (.s 93) (.s 92)⟩])
  (.reg [⟨some 94, none, .mov (.s 16)⟩,
    ⟨some 95, none, .load true 10 (.s 17)⟩,
    ⟨some 96, none, .bslice 10 [(.s 95)]⟩,
    ⟨some 97, none, .app 10 80 (.s 94) (.s 96)⟩,
    ⟨some 16, none, .mov (.s 97)⟩]))))))
  (.reg [⟨some 75, none, .mov (.s 19)⟩,
    ⟨some 76, none, .bin .add (.s 75) (.c (.pure (.int .i64 1)))⟩,
    ⟨some 19, none, .mov (.s 76)⟩])))
def c39 : AC :=
  (.seq (.reg [⟨some 4, none, .box (.s 0)⟩,
    ⟨some 5, none, .box (.s 1)⟩,
    ⟨some 8, none, .mov (.c .empty)⟩,
    ⟨some 9, none, .mov (.c (.pure (.int .i64 0)))⟩,
    ⟨some 10, none, .mov (.c (.pure (.bool false)))⟩])
  (.seq (.reg [⟨some 22, none, .load true 6 (.s 4)⟩,
    ⟨some 23, none, .load true 4 (.s 5)⟩,
    ⟨some 24, none, .mov (.s 2)⟩,
    ⟨some 25, none, .mov (.s 3)⟩,
    ⟨some 26, none, .call 35 [(.s 22), (.s 23), (.s 24), (.s 25)]⟩,
    ⟨some 21, none, .mov (.s 26)⟩,
    ⟨some 27, none, .ext 0 (.s 21)⟩,
    ⟨some 28, none, .ext 1 (.s 21)⟩,
    ⟨some 29, none, .ext 2 (.s 21)⟩,
    ⟨some 11, none, .box (.c (.agg [.empty, (.pure (.int .i64 0))]))⟩,
    ⟨none, none, .store 2 (.s 11) (.s 27)⟩,
    ⟨some 12, none, .mov (.s 28)⟩,
    ⟨some 13, none, .mov (.s 29)⟩])
  (.seq (.seq (.reg [⟨some 30, none, .mov (.s 13)⟩,
    ⟨some 31, none, .un .not (.s 30)⟩])
  (.cond (.s 31)
  (.seq (.reg [⟨some 8, none, .mov (.c .empty)⟩,
    ⟨some 9, none, .mov (.c (.pure (.int .i64 0)))⟩,
    ⟨some 10, none, .mov (.c (.pure (.bool false)))⟩])
  .ret)
  .skip))
  (.seq (.reg [⟨some 32, none, .mov (.s 12)⟩,
    ⟨some 33, none, .mov (.s 12)⟩,
    ⟨some 34, none, .len (.s 33)⟩,
    ⟨some 35, none, .bin .sub (.s 34) (.c (.pure (.int .i64 1)))⟩,
    ⟨some 36, none, .idxA 1 (.s 32) (.s 35)⟩,
    ⟨some 37, none, .load false 1 (.s 36)⟩,
    ⟨some 14, none, .mov (.s 37)⟩])
  (.seq (.reg [⟨some 38, none, .mov (.s 2)⟩,
    ⟨some 39, none, .mov (.s 3)⟩,
    ⟨some 40, none, .mov (.s 14)⟩,
    ⟨some 41, none, .bin .add (.s 40) (.c (.pure (.int .i64 1)))⟩,
    ⟨some 42, none, .call 75 [(.s 38), (.s 39), (.s 41)]⟩,
    ⟨some 2, none, .mov (.s 42)⟩])
  (.seq (.reg [⟨some 43, none, .mov (.s 2)⟩,
    ⟨some 44, none, .call 76 [(.s 43)]⟩,
    ⟨some 15, none, .mov (.s 44)⟩])
  (.seq (.reg [⟨some 16, none, .mov (.c .empty)⟩])
  (.seq (.reg [⟨some 45, none, .mov (.s 16)⟩,
    ⟨some 46, none, .mov (.s 2)⟩,
    ⟨some 47, none, .mov (.s 3)⟩,
    ⟨some 48, none, .slc 10 (.s 46) none (some (.s 47)) none⟩,
    ⟨some 49, none, .app 10 80 (.s 45) (.s 48)⟩,
    ⟨some 16, none, .mov (.s 49)⟩])
  (.seq (.regq [⟨some 50, none, .fldA 1 (.s 11)⟩,
    ⟨some 51, none, .load false 1 (.s 50)⟩,
    ⟨some 52, none, .mov (.s 2)⟩,
    ⟨some 53, none, .mov (.s 3)⟩,
    ⟨some 54, none, .idxA 10 (.s 52) (.s 53)⟩,
    ⟨some 55, none, .fldA 1 (.s 54)⟩,
    ⟨some 56, none, .load false 1 (.s 55)⟩,
    ⟨some 57, none, .call 45 [(.s 51), (.s 56)]⟩,
    ⟨some 17, none, .box (.c (.pure (.agg [(.int .i64 0), (.int .i64 0), (.int .i64 0), (.int .i64 0), (.int .i64 0), (.int .i64 0), (.int .i64 0), (.int .i64 0), (.int .i64 0), (.int .i64 0)])))⟩]
    [⟨none, none, .store 10 (.s 17) (.s 57)⟩])
  (.seq (.reg [⟨some 58, none, .mov (.s 2)⟩,
    ⟨some 59, none, .mov (.s 3)⟩,
    ⟨some 60, none, .idxA 10 (.s 58) (.s 59)⟩,
    ⟨some 61, none, .fldA 9 (.s 60)⟩,
    ⟨some 62, none, .load false 1 (.s 61)⟩,
    ⟨some 63, none, .fldA 9 (.s 17)⟩,
    ⟨none, none, .store 1 (.s 63) (.s 62)⟩])
  (.seq (.reg [⟨some 64, none, .mov (.s 15)⟩,
    ⟨some 65, none, .fldA 7 (.s 17)⟩,
    ⟨none, none, .store 1 (.s 65) (.s 64)⟩])
  (.seq (.reg [⟨some 66, none, .mov (.s 16)⟩,
    ⟨some 67, none, .load true 10 (.s 17)⟩,
    ⟨some 68, none, .bslice 10 [(.s 67)]⟩,
    ⟨some 69, none, .app 10 80 (.s 66) (.s 68)⟩,
    ⟨some 16, none, .mov (.s 69)⟩])
  (.seq (.reg [⟨some 18, none, .mov (.c (.pure (.int .i64 0)))⟩])
  (.seq (.seq (.reg [⟨some 70, none, .mov (.s 3)⟩,
    ⟨some 71, none, .bin .add (.s 70) (.c (.pure (.int .i64 1)))⟩,
    ⟨some 19, none, .mov (.s 71)⟩])
  (.block 0
  (.loop c39_1)))
  c39_0))))))))))))))
theorem k39 : (Try.f39.body.bind fun c => cCode Try.prog Try.f39.ntmps RCs c) = some c39 := by kernel_rfl
theorem h39 : (Try.f39.name == "runtime.NumGoroutine") = false := by kernel_rfl
theorem r39 : resC Try.prog Try.f39.results.toList = some [.t 8, .t 9, .t 10] := by kernel_rfl
theorem a39 {args : List S} {H : Heap} {K : S → Heap → Prop} (hn : args.length ≤ 107) (h : aWx Try.prog H.length c39 (PostX [.t 8, .t 9, .t 10] K) (argEnv 0 args) H) : CallA Try.prog 39 args H K :=
  callA_of_x mixed Try.func39 h39 k39 r39 (by rw [Try.ntmps39]; exact hn) h
theorem q39 {vs ds : List V} (hn : vs.length ≤ 107) (h : aWx Try.prog 0 c39 (PostX [.t 8, .t 9, .t 10] (Gives ds)) (argEnv 0 (vs.map .pure)) []) : FnQ Try.prog 39 vs ds :=
  fnQ_of_call (a39 (by simpa using hn) h)

/-- how far one has come among the places -/
structure MidIn (ps : List Int) (m : List Gl) (num : Int) (x e : Nat) (tot : List Gl) (i p : Nat) (out : List Gl) : Prop where
  lo : x + 1 ≤ i
  hi : i ≤ e
  par : p < ps.length
  len : out.length + p = i
  cur : ∃ a, ps[p]? = some a ∧ a < (i : Int)
  nex : ∀ a, ps[p + 1]? = some a → (i : Int) ≤ a
  eq : out ++ midL m ps num (e - i) i p = tot
theorem MidIn.hit {ps : List Int} {m : List Gl} {num : Int} {x e : Nat} {tot : List Gl} {i p : Nat} {out : List Gl} (hinc : ps.Pairwise (· < ·)) (h : MidIn ps m num x e tot i p out) (hlt : i < e) (hc : ps[p + 1]? = some (i : Int)) : MidIn ps m num x e tot (i + 1) (p + 1) out := by
  have hp := (List.getElem?_eq_some_iff.1 hc).1
  have heq := h.eq
  rw [show e - i = (e - (i + 1)) + 1 by omega, midL, if_pos hc] at heq
  refine ⟨by have := h.lo; omega, hlt, hp, by have := h.len; omega, ⟨_, hc, by omega⟩, fun a ha => ?_, heq⟩
  obtain ⟨h1, rfl⟩ := List.getElem?_eq_some_iff.1 ha
  obtain ⟨h2, h3⟩ := List.getElem?_eq_some_iff.1 hc
  have := List.pairwise_iff_getElem.1 hinc (p + 1) (p + 1 + 1) h2 h1 (by omega)
  omega
theorem MidIn.miss {ps : List Int} {m : List Gl} {num : Int} {x e : Nat} {tot : List Gl} {i p : Nat} {out : List Gl} (h : MidIn ps m num x e tot i p out) (hlt : i < e) (hc : ¬ ps[p + 1]? = some (i : Int)) : MidIn ps m num x e tot (i + 1) p (out ++ [setL num p (glAt m (i : Int))]) := by
  have heq := h.eq
  rw [show e - i = (e - (i + 1)) + 1 by omega, midL, if_neg hc] at heq
  obtain ⟨a, h1, h2⟩ := h.cur
  refine ⟨by have := h.lo; omega, hlt, h.par, by have := h.len; simp; omega, ⟨a, h1, by omega⟩, fun b hb => ?_, by rw [← heq]; simp⟩
  have := h.nex b hb
  by_cases e1 : b = (i : Int)
  · exact absurd (e1 ▸ hb) hc
  · omega
theorem glsl {c0 c1 c2 c3 c4 c5 c6 c7 c8 c9 : Int} {X : List Gl} : (X.map gl).map S.pure ++ [.pure (.agg [I c0, I c1, I c2, I c3, I c4, I c5, I c6, I c7, I c8, I c9])] = ((X ++ [(⟨c0, c1, c2, c3, c4, c5, c6, c7, c8, c9⟩ : Gl)]).map gl).map S.pure := by simp
theorem apply28_q (f : Fo) (k : Lk) (hs : SmallL k) (ls : List Gl) (hl : ls.length ≤ 60) (hb : ∀ g ∈ ls, g.lig ≤ 1099511627776) (x : Int) : FnQ Try.prog 38 [fo f, lk k, .sl (ls.map gl), I x] (apR (applyL f k ls x)) := by
  refine q38 (by simp) ?_
  unfold c38
  have hf := find_q f k hs ls (by omega) x
  have ha : applyL f k ls x = match findF f k ls x with
    | none => none
    | some q => some (headL (mergeF ls x (lastL q.2 + 1)) q.1 q.2 (maxG 0 ls + 1) x.toNat (lastL q.2 + 1).toNat ++ (mergeF ls x (lastL q.2 + 1)).drop (lastL q.2 + 1).toNat,
      ((headL (mergeF ls x (lastL q.2 + 1)) q.1 q.2 (maxG 0 ls + 1) x.toNat (lastL q.2 + 1).toNat).length : Int)) := rfl
  have hin : ∀ y ps, findF f k ls x = some (y, ps) → FindIn f k ls x y ps := fun y ps h => findF_in h
  generalize applyL f k ls x = out at *
  generalize findF f k ls x = o at *
  simp -implicitDefEqProofs only [vmp,↓vmd,seval]
  refine onC_q hf rfl ?_
  cases o with
  | none =>
    simp only at ha
    subst ha
    first | refine envO (by simp -implicitDefEqProofs only [vmp,↓vmd,seval]; rfl) ?_ | refine envQ (by simp -implicitDefEqProofs only [vmp,↓vmd,seval]; rfl) ?_
    simp -implicitDefEqProofs only [findR, Option.map_none, Option.getD_none, Option.isSome_none, vmp,↓vmd,seval]
    exact gives_tup rfl (by simp)
  | some q =>
    obtain ⟨y, ps⟩ := q
    simp only at ha
    have h := hin y ps rfl
    have x0 := h.x0
    have x1 := h.x1
    have hpos := h.pos
    have hsm := h.small hs
    have hinc := h.incr
    have hzero := h.zero
    obtain ⟨hla, hlx, hll⟩ := h.last
    have hB := maxG_in hb (show (0 : Int) ≤ 1099511627776 by omega)
    have hmm := mergeF_len (ls := ls) (x := x) (y := lastL ps + 1)
    have hw1 : IntKind.wrap .i64 ((ps.length : Int) - 1) = (ps.length : Int) - 1 := wrap_id (by omega) (by omega)
    have i1 : 0 ≤ (ps.length : Int) - 1 := by omega
    have hgl : (ps.map I)[((ps.length : Int) - 1).toNat]? = some (I (lastL ps)) := by
      rw [show ((ps.length : Int) - 1).toNat = ps.length - 1 by omega, List.getElem?_map, hla]; rfl
    obtain ⟨e, he⟩ : ∃ n : Nat, lastL ps + 1 = (n : Int) := ⟨(lastL ps + 1).toNat, by omega⟩
    rw [he] at ha hmm
    have hw2 : IntKind.wrap .i64 (lastL ps + 1) = (e : Int) := by rw [wrap_id (by omega) (by omega), he]
    first | refine envO (by simp -implicitDefEqProofs only [vmp,↓vmd,seval]; rfl) ?_ | refine envQ (by simp -implicitDefEqProofs only [vmp,↓vmd,seval]; rfl) ?_
    simp -implicitDefEqProofs only [findR, Option.map_some, Option.getD_some, Option.isSome_some, vmp,↓vmd,seval]
    refine onIf_intro fun _ => ?_
    first | refine envO (by simp -implicitDefEqProofs only [vmp,↓vmd,seval]; rfl) ?_ | refine envQ (by simp -implicitDefEqProofs only [vmp,↓vmd,seval]; rfl) ?_
    simp -implicitDefEqProofs only [hw1, i1, hgl, hw2, vmp,↓vmd,seval]
    refine onC_q (merge_q ls (by omega) x (e : Int)) rfl ?_
    generalize mergeF ls x (e : Int) = m at *
    obtain ⟨x, rfl⟩ : ∃ n : Nat, x = n := ⟨x.toNat, by omega⟩
    rw [Int.toNat_natCast, Int.toNat_natCast] at ha
    generalize hmx : maxG 0 ls = num at *
    first | refine envO (by simp -implicitDefEqProofs only [hw1, hw2, vmp,↓vmd,seval]; rfl) ?_ | refine envQ (by simp -implicitDefEqProofs only [hw1, hw2, vmp,↓vmd,seval]; rfl) ?_
    simp -implicitDefEqProofs only [vmp,↓vmd,seval]
    refine onIf_intro fun _ => ?_
    first | refine envO (by simp -implicitDefEqProofs only [vmp,↓vmd,seval]; rfl) ?_ | refine envQ (by simp -implicitDefEqProofs only [vmp,↓vmd,seval]; rfl) ?_
    simp -implicitDefEqProofs only [vmp,↓vmd,seval]
    refine loop_at (T := Nat × Int) (fun z => [(48, .pure (I (z.1 : Int))), (47, .pure (I ls.length)), (46, .pure (.sl (ls.map gl))), (16, .pure (I z.2)), (3, .pure (I (x : Int))), (11, .ptr 0 0 0), (12, .pure (LI ps)), (14, .pure (I (e : Int))), (15, .pure (.sl (m.map gl)))]) (fun _ => [⟨[.pure (lg y)], 2, .live⟩]) (fun z => z.1 ≤ ls.length ∧ maxG z.2 (ls.drop z.1) = num) (fun z => ls.length - z.1)
      (0, 0) [2] (by simp) rfl ⟨by simp, hmx⟩ (by simp -implicitDefEqProofs only [kpp,seval]) (by simp -implicitDefEqProofs only [kpp,seval]) ?_
    rintro ⟨i, n⟩ ⟨hi, hr⟩
    simp only at hi hr ⊢
    unfold c38_3
    simp -implicitDefEqProofs only [vmp,↓vmd,seval]
    refine onB_dec (fun h1 => ?_) (fun h1 => ?_)
    · have hlt : i < ls.length := by omega
      rw [drop_at hlt] at hr
      have hgi : (ls.map gl)[i]? = some (gl ls[i]) := map_at hlt
      generalize ls[i] = u at hr hgi
      simp -implicitDefEqProofs only [h1, hgi, Int.natCast_nonneg, vmp,↓vmd,seval]
      refine onBk_to (i + 1, max n u.lig) [0] (by simp) rfl (by simp only; omega) ⟨hlt, hr⟩ (by simp -implicitDefEqProofs only [next_at hlt (by omega), kpp,seval]) (by simp -implicitDefEqProofs only [kpp,seval])
    rw [List.drop_of_length_le (by omega)] at hr
    have hr' : n = num := hr
    subst hr'
    simp -implicitDefEqProofs only [h1, vmp,↓vmd,seval]
    unfold c38_2
    obtain ⟨num, hnum⟩ : ∃ z : Int, n + 1 = z := ⟨_, rfl⟩
    have hw3 : IntKind.wrap .i64 (n + 1) = num := by rw [wrap_id (by omega) (by omega), hnum]
    rw [hnum] at ha
    have hsl := slcP_map (f := gl) (X := m) (n := 10) (l := 0) (h := (x : Int)) (fun _ => rfl) (by omega) (by omega) (by omega)
    rw [Int.toNat_natCast, Int.toNat_zero, List.drop_zero] at hsl
    simp -implicitDefEqProofs only [hw3, hsl, vmp,↓vmd,seval]
    refine onC_fr (cloneG_c (m.take x) (by simp; omega)) [] (by simp) trivial rfl rfl (by simp) ?_
    have hgx : (m.map gl)[x]? = some (gl (glAt m (x : Int))) := by
      have := glAt_map (ls := m) (y := (x : Int)) (by omega) (by omega)
      simpa using this
    have hwx : IntKind.wrap .i64 ((x : Int) + 1) = ((x + 1 : Nat) : Int) := next_at (show x < 1000 by omega) (by omega)
    first | refine envO (by simp -implicitDefEqProofs only [hw3, vmp,↓vmd,seval]; rfl) ?_ | refine envQ (by simp -implicitDefEqProofs only [hw3, vmp,↓vmd,seval]; rfl) ?_
    simp -implicitDefEqProofs only [hgx, Int.natCast_nonneg, vmp,↓vmd,seval]
    have htk : (m.take x).length = x := by simp; omega
    refine onIf'_intro (appOk_one rfl rfl (by simp) (by rw [htk]; omega) (by simp [maxLen]; omega)) ?_
    first | refine envO (by simp -implicitDefEqProofs only [vmp,↓vmd,seval]; rfl) ?_ | refine envQ (by simp -implicitDefEqProofs only [vmp,↓vmd,seval]; rfl) ?_
    simp -implicitDefEqProofs only [hwx, vmp,↓vmd,seval]
    have start : MidIn ps m num x e (headL m y ps num x e) (x + 1) 0 (m.take x ++ [ligG y m x num]) := by
      refine ⟨Nat.le_refl _, by omega, hpos, by simp; omega, ⟨_, hzero, by omega⟩, fun a ha => ?_, rfl⟩
      have := h.lt (show 0 < 0 + 1 by omega) hzero ha
      omega
    generalize headL m y ps num x e = tot at *
    refine loop_at (T := Nat × Nat × List Gl) (fun z => [(21, .pure (I (z.1 : Int))), (14, .pure (I (e : Int))), (20, .pure (I (z.2.1 : Int))), (12, .pure (LI ps)), (15, .pure (.sl (m.map gl))), (16, .pure (I num)), (19, .rsl 0 0 z.2.2.length)])
      (fun z => [⟨(z.2.2.map gl).map .pure, 10, .live⟩]) (fun z => MidIn ps m num x e tot z.1 z.2.1 z.2.2) (fun z => e - z.1)
      (x + 1, 0, m.take x ++ [ligG y m x num]) [3] (by simp) rfl start (by simp -implicitDefEqProofs only [kpp,seval]) (by simp -implicitDefEqProofs only [ligG, kpp,seval]) ?_
    rintro ⟨i, p, out⟩ hM
    simp only at hM ⊢
    have mlo := hM.lo
    have mhi := hM.hi
    have mpar := hM.par
    have mlen := hM.len
    unfold c38_1
    simp -implicitDefEqProofs only [vmp,↓vmd,seval]
    refine onB_dec (fun h2 => ?_) (fun h2 => ?_)
    · have hlt : i < e := by omega
      have hwp : IntKind.wrap .i64 ((p : Int) + 1) = ((p + 1 : Nat) : Int) := next_at (show p < 1000 by omega) (by omega)
      have hgi : (m.map gl)[i]? = some (gl (glAt m (i : Int))) := by
        have := glAt_map (ls := m) (y := (i : Int)) (by omega) (by omega)
        simpa using this
      simp -implicitDefEqProofs only [h2, hwp, vmp,↓vmd,seval]
      refine onIf_intro fun _ => ?_
      first | refine envO (by simp -implicitDefEqProofs only [hwp, vmp,↓vmd,seval]; rfl) ?_ | refine envQ (by simp -implicitDefEqProofs only [hwp, vmp,↓vmd,seval]; rfl) ?_
      simp -implicitDefEqProofs only [vmp,↓vmd,seval]
      have miss : ¬ ps[p + 1]? = some (i : Int) → MidIn ps m num x e tot (i + 1) p (out ++ [setL num p (glAt m (i : Int))]) := fun hc => hM.miss hlt hc
      refine onB_dec (fun h3 => ?_) (fun h3 => ?_)
      · have hlp : p + 1 < ps.length := by omega
        have hgp : (ps.map I)[p + 1]? = some (I ps[p + 1]) := map_at hlp
        have hgq : ps[p + 1]? = some ps[p + 1] := List.getElem?_eq_getElem hlp
        generalize ps[p + 1] = b at hgp hgq
        first | refine envO (by simp -implicitDefEqProofs only [h3, hwp, vmp,↓vmd,seval]; rfl) ?_ | refine envQ (by simp -implicitDefEqProofs only [h3, hwp, vmp,↓vmd,seval]; rfl) ?_
        simp -implicitDefEqProofs only [h3, hwp, hgp, Int.natCast_nonneg, Int.toNat_natCast, vmp,↓vmd,seval]
        refine onB_dec (fun h4 => ?_) (fun h4 => ?_)
        · rw [h4] at hgq
          simp -implicitDefEqProofs only [h4, hwp, vmp,↓vmd,seval]
          refine onBk_to (i + 1, p + 1, out) [0] (by simp) rfl (by simp only; omega) (hM.hit hinc hlt hgq) (by simp -implicitDefEqProofs only [next_at hlt (by omega), kpp,seval]) (by simp -implicitDefEqProofs only [kpp,seval])
        · have miss := miss (by rw [hgq]; intro e1; cases e1; exact h4 rfl)
          simp -implicitDefEqProofs only [h4, hgi, Int.natCast_nonneg, vmp,↓vmd,seval]
          refine onIf'_intro (appOk_one rfl rfl (by simp) (by omega) (by simp [maxLen]; omega)) ?_
          first | refine envO (by simp -implicitDefEqProofs only [vmp,↓vmd,seval]; rfl) ?_ | refine envQ (by simp -implicitDefEqProofs only [vmp,↓vmd,seval]; rfl) ?_
          simp -implicitDefEqProofs only [vmp,↓vmd,seval]
          refine onBk_to (i + 1, p, out ++ [setL num p (glAt m (i : Int))]) [3] (by simp) rfl (by simp only; omega) miss (by simp -implicitDefEqProofs only [next_at hlt (by omega), kpp,seval]) (by simp -implicitDefEqProofs only [setL, kpp,seval])
      · have miss := miss (by rw [List.getElem?_eq_none (by omega)]; simp)
        first | refine envO (by simp -implicitDefEqProofs only [h3, vmp,↓vmd,seval]; rfl) ?_ | refine envQ (by simp -implicitDefEqProofs only [h3, vmp,↓vmd,seval]; rfl) ?_
        simp -implicitDefEqProofs only [h3, hgi, Int.natCast_nonneg, vmp,↓vmd,seval]
        refine onIf'_intro (appOk_one rfl rfl (by simp) (by omega) (by simp [maxLen]; omega)) ?_
        first | refine envO (by simp -implicitDefEqProofs only [vmp,↓vmd,seval]; rfl) ?_ | refine envQ (by simp -implicitDefEqProofs only [vmp,↓vmd,seval]; rfl) ?_
        simp -implicitDefEqProofs only [vmp,↓vmd,seval]
        refine onBk_to (i + 1, p, out ++ [setL num p (glAt m (i : Int))]) [3] (by simp) rfl (by simp only; omega) miss (by simp -implicitDefEqProofs only [next_at hlt (by omega), kpp,seval]) (by simp -implicitDefEqProofs only [setL, kpp,seval])
    · have heq := hM.eq
      rw [show e - i = 0 by omega, midL, List.append_nil] at heq
      subst heq
      subst ha
      have hsl2 := slcP_from (f := gl) (X := m) (n := 10) (l := (e : Int)) (fun _ => rfl) (by omega) (by omega)
      rw [Int.toNat_natCast] at hsl2
      simp -implicitDefEqProofs only [h2, vmp,↓vmd,seval]
      unfold c38_0
      simp -implicitDefEqProofs only [vmp,↓vmd,seval]
      refine onIf_intro fun _ => ?_
      first | refine envO (by simp -implicitDefEqProofs only [vmp,↓vmd,seval]; rfl) ?_ | refine envQ (by simp -implicitDefEqProofs only [vmp,↓vmd,seval]; rfl) ?_
      simp -implicitDefEqProofs only [hsl2, vmp,↓vmd,seval]
      refine onIf'_intro (appOk_map (fun _ => rfl) rfl (by simp) (by simp; omega) (by simp [maxLen]; omega)) ?_
      first | refine envO (by simp -implicitDefEqProofs only [vmp,↓vmd,seval]; rfl) ?_ | refine envQ (by simp -implicitDefEqProofs only [vmp,↓vmd,seval]; rfl) ?_
      simp -implicitDefEqProofs only [vmp,↓vmd,seval]
      exact gives_tup (toVs_of (toV_rowN (X := out ++ m.drop e) (by rw [List.map_append, List.map_append]; rfl) (.inr ⟨rfl, rfl⟩) (by simp)) rfl) (by simp)
theorem rapply28_q (f : Fo) (k : Lk) (hs : SmallL k) (ls : List Gl) (hl : ls.length ≤ 60) (hb : ∀ g ∈ ls, g.lig ≤ 1099511627776) (x : Int) : FnQ Try.prog 39 [fo f, lk k, .sl (ls.map gl), I x] (apR (applyL f k ls x)) := by
  refine q39 (by simp) ?_
  unfold c39
  have hf := rfind_q f k hs ls (by omega) x
  have ha : applyL f k ls x = match findF f k ls x with
    | none => none
    | some q => some (headL (mergeF ls x (lastL q.2 + 1)) q.1 q.2 (maxG 0 ls + 1) x.toNat (lastL q.2 + 1).toNat ++ (mergeF ls x (lastL q.2 + 1)).drop (lastL q.2 + 1).toNat,
      ((headL (mergeF ls x (lastL q.2 + 1)) q.1 q.2 (maxG 0 ls + 1) x.toNat (lastL q.2 + 1).toNat).length : Int)) := rfl
  have hin : ∀ y ps, findF f k ls x = some (y, ps) → FindIn f k ls x y ps := fun y ps h => findF_in h
  generalize applyL f k ls x = out at *
  generalize findF f k ls x = o at *
  simp -implicitDefEqProofs only [vmp,↓vmd,seval]
  refine onC_q hf rfl ?_
  cases o with
  | none =>
    simp only at ha
    subst ha
    first | refine envO (by simp -implicitDefEqProofs only [vmp,↓vmd,seval]; rfl) ?_ | refine envQ (by simp -implicitDefEqProofs only [vmp,↓vmd,seval]; rfl) ?_
    simp -implicitDefEqProofs only [findR, Option.map_none, Option.getD_none, Option.isSome_none, vmp,↓vmd,seval]
    exact gives_tup rfl (by simp)
  | some q =>
    obtain ⟨y, ps⟩ := q
    simp only at ha
    have h := hin y ps rfl
    have x0 := h.x0
    have x1 := h.x1
    have hpos := h.pos
    have hsm := h.small hs
    have hinc := h.incr
    have hzero := h.zero
    obtain ⟨hla, hlx, hll⟩ := h.last
    have hB := maxG_in hb (show (0 : Int) ≤ 1099511627776 by omega)
    have hmm := mergeF_len (ls := ls) (x := x) (y := lastL ps + 1)
    have hmx := mergeF_max (n := 0) (ls := ls) (x := x) (y := lastL ps + 1)
    have hmb : ∀ g ∈ mergeF ls x (lastL ps + 1), g.lig ≤ 1099511627776 := fun g hg => by
      have h1 : g.lig ∈ (mergeF ls x (lastL ps + 1)).map (·.lig) := List.mem_map.2 ⟨g, hg, rfl⟩
      rw [mergeF_map (fun _ _ => rfl)] at h1
      obtain ⟨g', h2, h3⟩ := List.mem_map.1 h1
      rw [← h3]
      exact hb g' h2
    have hw1 : IntKind.wrap .i64 ((ps.length : Int) - 1) = (ps.length : Int) - 1 := wrap_id (by omega) (by omega)
    have i1 : 0 ≤ (ps.length : Int) - 1 := by omega
    have hgl : (ps.map I)[((ps.length : Int) - 1).toNat]? = some (I (lastL ps)) := by
      rw [show ((ps.length : Int) - 1).toNat = ps.length - 1 by omega, List.getElem?_map, hla]; rfl
    obtain ⟨e, he⟩ : ∃ n : Nat, lastL ps + 1 = (n : Int) := ⟨(lastL ps + 1).toNat, by omega⟩
    rw [he] at ha hmm hmx hmb
    have hw2 : IntKind.wrap .i64 (lastL ps + 1) = (e : Int) := by rw [wrap_id (by omega) (by omega), he]
    first | refine envO (by simp -implicitDefEqProofs only [vmp,↓vmd,seval]; rfl) ?_ | refine envQ (by simp -implicitDefEqProofs only [vmp,↓vmd,seval]; rfl) ?_
    simp -implicitDefEqProofs only [findR, Option.map_some, Option.getD_some, Option.isSome_some, vmp,↓vmd,seval]
    refine onIf_intro fun _ => ?_
    first | refine envO (by simp -implicitDefEqProofs only [vmp,↓vmd,seval]; rfl) ?_ | refine envQ (by simp -implicitDefEqProofs only [vmp,↓vmd,seval]; rfl) ?_
    simp -implicitDefEqProofs only [hw1, i1, hgl, hw2, vmp,↓vmd,seval]
    refine onC_q (rmerge_q ls (by omega) x (e : Int)) rfl ?_
    have hnx := rnext28_q (mergeF ls x (e : Int)) hmb
    rw [hmx] at hnx
    generalize mergeF ls x (e : Int) = m at *
    obtain ⟨x, rfl⟩ : ∃ n : Nat, x = n := ⟨x.toNat, by omega⟩
    rw [Int.toNat_natCast, Int.toNat_natCast] at ha
    generalize maxG 0 ls + 1 = num at *
    first | refine envO (by simp -implicitDefEqProofs only [hw1, hw2, vmp,↓vmd,seval]; rfl) ?_ | refine envQ (by simp -implicitDefEqProofs only [hw1, hw2, vmp,↓vmd,seval]; rfl) ?_
    simp -implicitDefEqProofs only [vmp,↓vmd,seval]
    refine onC_q hnx rfl ?_
    have hsl := slcP_map (f := gl) (X := m) (n := 10) (l := 0) (h := (x : Int)) (fun _ => rfl) (by omega) (by omega) (by omega)
    rw [Int.toNat_natCast, Int.toNat_zero, List.drop_zero] at hsl
    have htk : (m.take x).length = x := by simp; omega
    have hgx : (m.map gl)[x]? = some (gl (glAt m (x : Int))) := by
      have := glAt_map (ls := m) (y := (x : Int)) (by omega) (by omega)
      simpa using this
    have hwx : IntKind.wrap .i64 ((x : Int) + 1) = ((x + 1 : Nat) : Int) := next_at (show x < 1000 by omega) (by omega)
    first | refine envO (by simp -implicitDefEqProofs only [hw1, hw2, vmp,↓vmd,seval]; rfl) ?_ | refine envQ (by simp -implicitDefEqProofs only [hw1, hw2, vmp,↓vmd,seval]; rfl) ?_
    simp -implicitDefEqProofs only [hsl, vmp,↓vmd,seval]
    refine onIf'_intro (appOk0_map (fun _ => rfl) (by omega) (by simp [maxLen]; omega)) ?_
    first | refine envO (by simp -implicitDefEqProofs only [vmp,↓vmd,seval]; rfl) ?_ | refine envQ (by simp -implicitDefEqProofs only [vmp,↓vmd,seval]; rfl) ?_
    simp -implicitDefEqProofs only [hgx, Int.natCast_nonneg, Int.toNat_natCast, vmp,↓vmd,seval]
    refine onQ_q (fresh_q y.gid (glAt m (x : Int)).cl) rfl ?_
    first | refine envO (by simp -implicitDefEqProofs only [vmp,↓vmd,seval]; rfl) ?_ | refine envQ (by simp -implicitDefEqProofs only [vmp,↓vmd,seval]; rfl) ?_
    simp -implicitDefEqProofs only [freshG, hgx, Int.natCast_nonneg, Int.toNat_natCast, vmp,↓vmd,seval]
    refine onIf'_intro (appOk_one rfl rfl (by simp) (by omega) (by simp [maxLen]; omega)) ?_
    first | refine envO (by simp -implicitDefEqProofs only [vmp,↓vmd,seval]; rfl) ?_ | refine envQ (by simp -implicitDefEqProofs only [vmp,↓vmd,seval]; rfl) ?_
    simp -implicitDefEqProofs only [hwx, vmp,↓vmd,seval]
    have start : MidIn ps m num x e (headL m y ps num x e) (x + 1) 0 (m.take x ++ [ligG y m x num]) := by
      refine ⟨Nat.le_refl _, by omega, hpos, by simp; omega, ⟨_, hzero, by omega⟩, fun a ha => ?_, rfl⟩
      have := h.lt (show 0 < 0 + 1 by omega) hzero ha
      omega
    generalize headL m y ps num x e = tot at *
    refine loop_at (T := Nat × Nat × List Gl × Gl) (fun z => [(19, .pure (I (z.1 : Int))), (14, .pure (I (lastL ps))), (18, .pure (I (z.2.1 : Int))), (12, .pure (LI ps)), (2, .pure (.sl (m.map gl))), (15, .pure (I num)), (17, .ptr 0 0 0), (16, .rsl 1 0 z.2.2.1.length)])
      (fun z => [⟨[.pure (gl z.2.2.2)], 10, .live⟩, ⟨(z.2.2.1.map gl).map .pure, 10, .live⟩]) (fun z => MidIn ps m num x e tot z.1 z.2.1 z.2.2.1) (fun z => e - z.1)
      (x + 1, 0, m.take x ++ [ligG y m x num], ligG y m x num) [4, 6] (by simp) rfl start (by simp -implicitDefEqProofs only [kpp,seval]) (by simp -implicitDefEqProofs only [ligG, kpp,seval]) ?_
    rintro ⟨i, p, out, g⟩ hM
    simp only at hM ⊢
    have mlo := hM.lo
    have mhi := hM.hi
    have mpar := hM.par
    have mlen := hM.len
    unfold c39_1
    simp -implicitDefEqProofs only [vmp,↓vmd,seval]
    refine onB_dec (fun h2 => ?_) (fun h2 => ?_)
    · have hlt : i < e := by omega
      have hwp : IntKind.wrap .i64 ((p : Int) + 1) = ((p + 1 : Nat) : Int) := next_at (show p < 1000 by omega) (by omega)
      have hgi : (m.map gl)[i]? = some (gl (glAt m (i : Int))) := by
        have := glAt_map (ls := m) (y := (i : Int)) (by omega) (by omega)
        simpa using this
      have hlp : p + 1 < ps.length := by
        obtain ⟨a, h5, h6⟩ := hM.cur
        by_cases h7 : p + 1 < ps.length
        · exact h7
        · rw [show p = ps.length - 1 by omega, hla] at h5
          cases h5
          omega
      have hgp : (ps.map I)[p + 1]? = some (I ps[p + 1]) := map_at hlp
      have hgq : ps[p + 1]? = some ps[p + 1] := List.getElem?_eq_getElem hlp
      generalize ps[p + 1] = b at hgp hgq
      simp -implicitDefEqProofs only [h2, hwp, hgp, Int.natCast_nonneg, Int.toNat_natCast, vmp,↓vmd,seval]
      refine onB_dec (fun h4 => ?_) (fun h4 => ?_)
      · rw [← h4] at hgq
        simp -implicitDefEqProofs only [h4, hwp, vmp,↓vmd,seval]
        refine onBk_to (i + 1, p + 1, out, g) [0, 1] (by simp) rfl (by simp only; omega) (hM.hit hinc hlt hgq) (by simp -implicitDefEqProofs only [← h4, next_at hlt (by omega), kpp,seval]) (by simp -implicitDefEqProofs only [kpp,seval])
      · have miss := hM.miss hlt (by rw [hgq]; intro e1; cases e1; exact h4 rfl)
        simp -implicitDefEqProofs only [h4, hgi, Int.natCast_nonneg, vmp,↓vmd,seval]
        refine onIf'_intro (appOk_one rfl rfl (by simp) (by omega) (by simp [maxLen]; omega)) ?_
        first | refine envO (by simp -implicitDefEqProofs only [vmp,↓vmd,seval]; rfl) ?_ | refine envQ (by simp -implicitDefEqProofs only [vmp,↓vmd,seval]; rfl) ?_
        simp -implicitDefEqProofs only [vmp,↓vmd,seval]
        refine onBk_to (i + 1, p, out ++ [setL num p (glAt m (i : Int))], setL num p (glAt m (i : Int))) [0, 3] (by simp) rfl (by simp only; omega) miss (by simp -implicitDefEqProofs only [next_at hlt (by omega), kpp,seval]) (by simp -implicitDefEqProofs only [setL, kpp,seval])
    · have heq := hM.eq
      rw [show e - i = 0 by omega, midL, List.append_nil] at heq
      subst heq
      subst ha
      have hsl2 := slcP_from (f := gl) (X := m) (n := 10) (l := (e : Int)) (fun _ => rfl) (by omega) (by omega)
      rw [Int.toNat_natCast] at hsl2
      simp -implicitDefEqProofs only [h2, vmp,↓vmd,seval]
      unfold c39_0
      simp -implicitDefEqProofs only [vmp,↓vmd,seval]
      refine onIf_intro fun _ => ?_
      first | refine envO (by simp -implicitDefEqProofs only [vmp,↓vmd,seval]; rfl) ?_ | refine envQ (by simp -implicitDefEqProofs only [vmp,↓vmd,seval]; rfl) ?_
      simp -implicitDefEqProofs only [hw2, hsl2, vmp,↓vmd,seval]
      refine onIf'_intro (appOk_map (fun _ => rfl) rfl (by simp) (by simp; omega) (by simp [maxLen]; omega)) ?_
      first | refine envO (by simp -implicitDefEqProofs only [vmp,↓vmd,seval]; rfl) ?_ | refine envQ (by simp -implicitDefEqProofs only [vmp,↓vmd,seval]; rfl) ?_
      simp -implicitDefEqProofs only [vmp,↓vmd,seval]
      exact gives_tup (toVs_of (toV_rowN (X := out ++ m.drop e) (by rw [List.map_append, List.map_append]; rfl) (.inr ⟨rfl, rfl⟩) (by simp)) rfl) (by simp)
end Go.Proofs.Ytbllbkhkmngclaa.W
