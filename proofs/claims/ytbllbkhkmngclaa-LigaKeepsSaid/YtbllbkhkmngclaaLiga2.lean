/-
  Ligatures: those of a glyph, and the longest one: two functions each, one answer. No condition but on sizes.
-/
import Derived.Test.YtbllbkhkmngclaaLiga1
namespace Go.Proofs.Ytbllbkhkmngclaa.W
open Go Go.Vm Go.Proofs
set_option maxRecDepth 100000
set_option linter.unusedSimpArgs false
set_option maxHeartbeats 4000000
/-! typecase/liga.Parts -/
def c41_0 : AC :=
  (.seq (.reg [⟨some 4, none, .mov (.c .empty)⟩])
  .ret)
def c41_1 : AC :=
  (.reg [⟨some 54, none, .bin .add (.s 15) (.c (.pure (.int .i64 1)))⟩,
    ⟨some 15, none, .mov (.s 54)⟩])
def c41_2 : AC :=
  (.seq (.reg [⟨some 53, none, .mov (.s 9)⟩,
    ⟨some 4, none, .mov (.s 53)⟩])
  .ret)
def c41_3 : AC :=
  (.seq (.reg [⟨some 40, none, .bin .lss (.s 39) (.s 38)⟩])
  (.seq (.cond (.s 40)
  .skip
  (.exit 2))
  (.seq (.block 3
  (.seq (.reg [⟨some 41, none, .idxA 2 (.s 37) (.s 39)⟩,
    ⟨some 42, none, .load true 2 (.s 41)⟩,
    ⟨some 11, none, .box (.c (.agg [.empty, (.pure (.int .i64 0))]))⟩,
    ⟨none, none, .store 2 (.s 11) (.s 42)⟩])
  (.regq [⟨some 43, none, .mov (.s 9)⟩,
    ⟨some 44, none, .fldA 0 (.s 11)⟩,
    ⟨some 45, none, .load false 1 (.s 44)⟩,
    ⟨some 46, none, .call 79 [(.s 45)]⟩,
    ⟨some 47, none, .fldA 1 (.s 11)⟩,
    ⟨some 48, none, .load false 1 (.s 47)⟩,
    ⟨some 49, none, .build [.empty, (.pure (.int .i64 0))] [(0, 1, (.s 46)), (1, 1, (.s 48))]⟩,
    ⟨some 50, none, .bslice 2 [(.s 49)]⟩]
    [⟨some 51, none, .app 2 32 (.s 43) (.s 50)⟩,
    ⟨some 9, none, .mov (.s 51)⟩])))
  (.reg [⟨some 52, none, .bin .add (.s 39) (.c (.pure (.int .i64 1)))⟩,
    ⟨some 39, none, .mov (.s 52)⟩]))))
def c41_4 : AC :=
  (.seq (.reg [⟨some 16, none, .bin .lss (.s 15) (.s 14)⟩])
  (.seq (.cond (.s 16)
  .skip
  (.exit 0))
  (.seq (.block 1
  (.seq (.reg [⟨some 17, none, .idxA 12 (.s 13) (.s 15)⟩,
    ⟨some 18, none, .load true 12 (.s 17)⟩,
    ⟨some 6, none, .box (.c (.agg [.empty, .empty, .empty, .empty, .empty, .empty, .empty, .empty, .empty, .empty, .empty, .empty]))⟩,
    ⟨none, none, .store 12 (.s 6) (.s 18)⟩])
  (.seq (.reg [⟨some 20, none, .fldA 0 (.s 6)⟩,
    ⟨some 21, none, .load false 1 (.s 20)⟩,
    ⟨some 22, none, .mov (.s 1)⟩,
    ⟨some 23, none, .call 78 [(.s 21), (.s 22)]⟩,
    ⟨some 19, none, .mov (.s 23)⟩,
    ⟨some 24, none, .ext 0 (.s 19)⟩,
    ⟨some 25, none, .ext 1 (.s 19)⟩,
    ⟨some 7, none, .mov (.s 24)⟩,
    ⟨some 8, none, .mov (.s 25)⟩])
  (.seq (.seq (.reg [⟨some 26, none, .mov (.s 8)⟩,
    ⟨some 27, none, .un .not (.s 26)⟩])
  (.cond (.s 27)
  (.exit 1)
  .skip))
  (.seq (.seq (.reg [⟨some 28, none, .mov (.s 7)⟩,
    ⟨some 29, none, .fldA 2 (.s 6)⟩,
    ⟨some 30, none, .load false 1 (.s 29)⟩,
    ⟨some 31, none, .len (.s 30)⟩,
    ⟨some 32, none, .bin .geq (.s 28) (.s 31)⟩])
  (.cond (.s 32)
  (.seq (.reg [⟨some 4, none, .mov (.c .empty)⟩])
  .ret)
  .skip))
  (.seq (.reg [⟨some 9, none, .mov (.c .empty)⟩])
  (.seq (.seq (.reg [⟨some 33, none, .fldA 2 (.s 6)⟩,
    ⟨some 34, none, .load false 1 (.s 33)⟩,
    ⟨some 35, none, .mov (.s 7)⟩,
    ⟨some 36, none, .idxA 1 (.s 34) (.s 35)⟩,
    ⟨some 37, none, .load false 1 (.s 36)⟩,
    ⟨some 38, none, .len (.s 37)⟩,
    ⟨some 39, none, .mov (.c (.pure (.int .i64 0)))⟩])
  (.block 2
  (.loop c41_3)))
  c41_2)))))))
  c41_1)))
def c41 : AC :=
  (.seq (.reg [⟨some 2, none, .box (.s 0)⟩,
    ⟨some 4, none, .mov (.c .empty)⟩])
  (.seq (.seq (.reg [⟨some 12, none, .fldA 3 (.s 2)⟩,
    ⟨some 13, none, .load false 1 (.s 12)⟩,
    ⟨some 14, none, .len (.s 13)⟩,
    ⟨some 15, none, .mov (.c (.pure (.int .i64 0)))⟩])
  (.block 0
  (.loop c41_4)))
  c41_0))
theorem k41 : (Try.f41.body.bind fun c => cCode Try.prog Try.f41.ntmps RCs c) = some c41 := by kernel_rfl
theorem h41 : (Try.f41.name == "runtime.NumGoroutine") = false := by kernel_rfl
theorem r41 : resC Try.prog Try.f41.results.toList = some [.t 4] := by kernel_rfl
theorem a41 {args : List S} {H : Heap} {K : S → Heap → Prop} (hn : args.length ≤ 55) (h : aWx Try.prog H.length c41 (PostX [.t 4] K) (argEnv 0 args) H) : CallA Try.prog 41 args H K :=
  callA_of_x mixed Try.func41 h41 k41 r41 (by rw [Try.ntmps41]; exact hn) h
theorem q41 {vs ds : List V} (hn : vs.length ≤ 55) (h : aWx Try.prog 0 c41 (PostX [.t 4] (Gives ds)) (argEnv 0 (vs.map .pure)) []) : FnQ Try.prog 41 vs ds :=
  fnQ_of_call (a41 (by simpa using hn) h)
/-! typecase/typecaseref28.Parts -/
def c42_0 : AC :=
  (.seq (.reg [⟨some 4, none, .mov (.c .empty)⟩])
  .ret)
def c42_1 : AC :=
  (.seq (.seq (.reg [⟨some 9, none, .mov (.s 5)⟩,
    ⟨some 10, none, .fldA 3 (.s 2)⟩,
    ⟨some 11, none, .load false 1 (.s 10)⟩,
    ⟨some 12, none, .len (.s 11)⟩,
    ⟨some 13, none, .bin .lss (.s 9) (.s 12)⟩])
  (.cond (.s 13)
  .skip
  (.exit 0)))
  (.seq (.block 1
  (.seq (.reg [⟨some 17, none, .fldA 3 (.s 2)⟩,
    ⟨some 18, none, .load false 1 (.s 17)⟩,
    ⟨some 19, none, .mov (.s 5)⟩,
    ⟨some 20, none, .idxA 12 (.s 18) (.s 19)⟩,
    ⟨some 21, none, .fldA 0 (.s 20)⟩,
    ⟨some 22, none, .load false 1 (.s 21)⟩,
    ⟨some 23, none, .mov (.s 1)⟩,
    ⟨some 24, none, .call 80 [(.s 22), (.s 23)]⟩,
    ⟨some 16, none, .mov (.s 24)⟩,
    ⟨some 25, none, .ext 0 (.s 16)⟩,
    ⟨some 26, none, .ext 1 (.s 16)⟩,
    ⟨some 6, none, .mov (.s 25)⟩,
    ⟨some 7, none, .mov (.s 26)⟩])
  (.seq (.seq (.reg [⟨some 27, none, .mov (.s 7)⟩,
    ⟨some 28, none, .un .not (.s 27)⟩])
  (.cond (.s 28)
  (.exit 1)
  .skip))
  (.seq (.seq (.reg [⟨some 29, none, .mov (.s 6)⟩,
    ⟨some 30, none, .fldA 3 (.s 2)⟩,
    ⟨some 31, none, .load false 1 (.s 30)⟩,
    ⟨some 32, none, .mov (.s 5)⟩,
    ⟨some 33, none, .idxA 12 (.s 31) (.s 32)⟩,
    ⟨some 34, none, .fldA 2 (.s 33)⟩,
    ⟨some 35, none, .load false 1 (.s 34)⟩,
    ⟨some 36, none, .len (.s 35)⟩,
    ⟨some 37, none, .bin .geq (.s 29) (.s 36)⟩])
  (.cond (.s 37)
  (.seq (.reg [⟨some 4, none, .mov (.c .empty)⟩])
  .ret)
  .skip))
  (.seq (.reg [⟨some 8, none, .mov (.c .empty)⟩])
  (.seq (.reg [⟨some 38, none, .mov (.s 8)⟩,
    ⟨some 39, none, .fldA 3 (.s 2)⟩,
    ⟨some 40, none, .load false 1 (.s 39)⟩,
    ⟨some 41, none, .mov (.s 5)⟩,
    ⟨some 42, none, .idxA 12 (.s 40) (.s 41)⟩,
    ⟨some 43, none, .fldA 2 (.s 42)⟩,
    ⟨some 44, none, .load false 1 (.s 43)⟩,
    ⟨some 45, none, .mov (.s 6)⟩,
    ⟨some 46, none, .idxA 1 (.s 44) (.s 45)⟩,
    ⟨some 47, none, .load false 1 (.s 46)⟩,
    ⟨some 48, none, .app 2 32 (.s 38) (.s 47)⟩,
    ⟨some 4, none, .mov (.s 48)⟩])
  .ret))))))
  (.reg [⟨some 14, none, .mov (.s 5)⟩,
    ⟨some 15, none, .bin .add (.s 14) (.c (.pure (.int .i64 1)))⟩,
    ⟨some 5, none, .mov (.s 15)⟩])))
def c42 : AC :=
  (.seq (.reg [⟨some 2, none, .box (.s 0)⟩,
    ⟨some 4, none, .mov (.c .empty)⟩])
  (.seq (.seq (.reg [⟨some 5, none, .mov (.c (.pure (.int .i64 0)))⟩])
  (.block 0
  (.loop c42_1)))
  c42_0))
theorem k42 : (Try.f42.body.bind fun c => cCode Try.prog Try.f42.ntmps RCs c) = some c42 := by kernel_rfl
theorem h42 : (Try.f42.name == "runtime.NumGoroutine") = false := by kernel_rfl
theorem r42 : resC Try.prog Try.f42.results.toList = some [.t 4] := by kernel_rfl
theorem a42 {args : List S} {H : Heap} {K : S → Heap → Prop} (hn : args.length ≤ 49) (h : aWx Try.prog H.length c42 (PostX [.t 4] K) (argEnv 0 args) H) : CallA Try.prog 42 args H K :=
  callA_of_x mixed Try.func42 h42 k42 r42 (by rw [Try.ntmps42]; exact hn) h
theorem q42 {vs ds : List V} (hn : vs.length ≤ 49) (h : aWx Try.prog 0 c42 (PostX [.t 4] (Gives ds)) (argEnv 0 (vs.map .pure)) []) : FnQ Try.prog 42 vs ds :=
  fnQ_of_call (a42 (by simpa using hn) h)
/-! typecase/liga.Longest -/
def c43_0 : AC :=
  (.seq (.reg [⟨some 39, none, .mov (.s 3)⟩,
    ⟨some 2, none, .mov (.s 39)⟩])
  .ret)
def c43_1 : AC :=
  (.reg [⟨some 38, none, .bin .add (.s 13) (.c (.pure (.int .i64 1)))⟩,
    ⟨some 13, none, .mov (.s 38)⟩])
def c43_2 : AC :=
  (.reg [⟨some 37, none, .bin .add (.s 20) (.c (.pure (.int .i64 1)))⟩,
    ⟨some 20, none, .mov (.s 37)⟩])
def c43_3 : AC :=
  (.seq (.reg [⟨some 27, none, .bin .lss (.s 26) (.s 25)⟩])
  (.seq (.cond (.s 27)
  .skip
  (.exit 4))
  (.seq (.block 5
  (.seq (.reg [⟨some 28, none, .idxA 2 (.s 24) (.s 26)⟩,
    ⟨some 29, none, .load true 2 (.s 28)⟩,
    ⟨some 9, none, .box (.c (.agg [.empty, (.pure (.int .i64 0))]))⟩,
    ⟨none, none, .store 2 (.s 9) (.s 29)⟩])
  (.reg [⟨some 30, none, .mov (.s 3)⟩,
    ⟨some 31, none, .fldA 0 (.s 9)⟩,
    ⟨some 32, none, .load false 1 (.s 31)⟩,
    ⟨some 33, none, .len (.s 32)⟩,
    ⟨some 34, none, .bin .add (.s 33) (.c (.pure (.int .i64 1)))⟩,
    ⟨some 35, none, .mx (.s 30) (.s 34)⟩,
    ⟨some 3, none, .mov (.s 35)⟩])))
  (.reg [⟨some 36, none, .bin .add (.s 26) (.c (.pure (.int .i64 1)))⟩,
    ⟨some 26, none, .mov (.s 36)⟩]))))
def c43_4 : AC :=
  (.seq (.reg [⟨some 21, none, .bin .lss (.s 20) (.s 19)⟩])
  (.seq (.cond (.s 21)
  .skip
  (.exit 2))
  (.seq (.block 3
  (.seq (.reg [⟨some 22, none, .idxA 1 (.s 18) (.s 20)⟩,
    ⟨some 23, none, .load false 1 (.s 22)⟩,
    ⟨some 7, none, .mov (.s 23)⟩])
  (.seq (.reg [⟨some 24, none, .mov (.s 7)⟩,
    ⟨some 25, none, .len (.s 24)⟩,
    ⟨some 26, none, .mov (.c (.pure (.int .i64 0)))⟩])
  (.block 4
  (.loop c43_3)))))
  c43_2)))
def c43_5 : AC :=
  (.seq (.reg [⟨some 14, none, .bin .lss (.s 13) (.s 12)⟩])
  (.seq (.cond (.s 14)
  .skip
  (.exit 0))
  (.seq (.block 1
  (.seq (.reg [⟨some 15, none, .idxA 12 (.s 11) (.s 13)⟩,
    ⟨some 16, none, .load true 12 (.s 15)⟩,
    ⟨some 5, none, .box (.c (.agg [.empty, .empty, .empty, .empty, .empty, .empty, .empty, .empty, .empty, .empty, .empty, .empty]))⟩,
    ⟨none, none, .store 12 (.s 5) (.s 16)⟩])
  (.seq (.reg [⟨some 17, none, .fldA 2 (.s 5)⟩,
    ⟨some 18, none, .load false 1 (.s 17)⟩,
    ⟨some 19, none, .len (.s 18)⟩,
    ⟨some 20, none, .mov (.c (.pure (.int .i64 0)))⟩])
  (.block 2
  (.loop c43_4)))))
  c43_1)))
def c43 : AC :=
  (.seq (.reg [⟨some 1, none, .box (.s 0)⟩,
    ⟨some 2, none, .mov (.c (.pure (.int .i64 0)))⟩])
  (.seq (.reg [⟨some 3, none, .mov (.c (.pure (.int .i64 0)))⟩])
  (.seq (.seq (.reg [⟨some 10, none, .fldA 3 (.s 1)⟩,
    ⟨some 11, none, .load false 1 (.s 10)⟩,
    ⟨some 12, none, .len (.s 11)⟩,
    ⟨some 13, none, .mov (.c (.pure (.int .i64 0)))⟩])
  (.block 0
  (.loop c43_5)))
  c43_0)))
theorem k43 : (Try.f43.body.bind fun c => cCode Try.prog Try.f43.ntmps RCs c) = some c43 := by kernel_rfl
theorem h43 : (Try.f43.name == "runtime.NumGoroutine") = false := by kernel_rfl
theorem r43 : resC Try.prog Try.f43.results.toList = some [.t 2] := by kernel_rfl
theorem a43 {args : List S} {H : Heap} {K : S → Heap → Prop} (hn : args.length ≤ 40) (h : aWx Try.prog H.length c43 (PostX [.t 2] K) (argEnv 0 args) H) : CallA Try.prog 43 args H K :=
  callA_of_x mixed Try.func43 h43 k43 r43 (by rw [Try.ntmps43]; exact hn) h
theorem q43 {vs ds : List V} (hn : vs.length ≤ 40) (h : aWx Try.prog 0 c43 (PostX [.t 2] (Gives ds)) (argEnv 0 (vs.map .pure)) []) : FnQ Try.prog 43 vs ds :=
  fnQ_of_call (a43 (by simpa using hn) h)
/-! typecase/typecaseref28.Longest -/
def c44_0 : AC :=
  (.seq (.reg [⟨some 56, none, .mov (.s 3)⟩,
    ⟨some 2, none, .mov (.s 56)⟩])
  .ret)
def c44_1 : AC :=
  (.reg [⟨some 12, none, .mov (.s 4)⟩,
    ⟨some 13, none, .bin .add (.s 12) (.c (.pure (.int .i64 1)))⟩,
    ⟨some 4, none, .mov (.s 13)⟩])
def c44_2 : AC :=
  (.reg [⟨some 23, none, .mov (.s 5)⟩,
    ⟨some 24, none, .bin .add (.s 23) (.c (.pure (.int .i64 1)))⟩,
    ⟨some 5, none, .mov (.s 24)⟩])
def c44_3 : AC :=
  (.seq (.seq (.reg [⟨some 25, none, .mov (.s 6)⟩,
    ⟨some 26, none, .fldA 3 (.s 1)⟩,
    ⟨some 27, none, .load false 1 (.s 26)⟩,
    ⟨some 28, none, .mov (.s 4)⟩,
    ⟨some 29, none, .idxA 12 (.s 27) (.s 28)⟩,
    ⟨some 30, none, .fldA 2 (.s 29)⟩,
    ⟨some 31, none, .load false 1 (.s 30)⟩,
    ⟨some 32, none, .mov (.s 5)⟩,
    ⟨some 33, none, .idxA 1 (.s 31) (.s 32)⟩,
    ⟨some 34, none, .load false 1 (.s 33)⟩,
    ⟨some 35, none, .len (.s 34)⟩,
    ⟨some 36, none, .bin .lss (.s 25) (.s 35)⟩])
  (.cond (.s 36)
  .skip
  (.exit 4)))
  (.seq (.block 5
  (.reg [⟨some 39, none, .mov (.s 3)⟩,
    ⟨some 40, none, .fldA 3 (.s 1)⟩,
    ⟨some 41, none, .load false 1 (.s 40)⟩,
    ⟨some 42, none, .mov (.s 4)⟩,
    ⟨some 43, none, .idxA 12 (.s 41) (.s 42)⟩,
    ⟨some 44, none, .fldA 2 (.s 43)⟩,
    ⟨some 45, none, .load false 1 (.s 44)⟩,
    ⟨some 46, none, .mov (.s 5)⟩,
    ⟨some 47, none, .idxA 1 (.s 45) (.s 46)⟩,
    ⟨some 48, none, .load false 1 (.s 47)⟩,
    ⟨some 49, none, .mov (.s 6)⟩,
    ⟨some 50, none, .idxA 2 (.s 48) (.s 49)⟩,
    ⟨some 51, none, .fldA 0 (.s 50)⟩,
    ⟨some 52, none, .load false 1 (.s 51)⟩,
    ⟨some 53, none, .len (.s 52)⟩,
    ⟨some 54, none, .bin .add (.s 53) (.c (.pure (.int .i64 1)))⟩,
    ⟨some 55, none, .mx (.s 39) (.s 54)⟩,
    ⟨some 3, none, .mov (.s 55)⟩]))
  (.reg [⟨some 37, none, .mov (.s 6)⟩,
    ⟨some 38, none, .bin .add (.s 37) (.c (.pure (.int .i64 1)))⟩,
    ⟨some 6, none, .mov (.s 38)⟩])))
def c44_4 : AC :=
  (.seq (.seq (.reg [⟨some 14, none, .mov (.s 5)⟩,
    ⟨some 15, none, .fldA 3 (.s 1)⟩,
    ⟨some 16, none, .load false 1 (.s 15)⟩,
    ⟨some 17, none, .mov (.s 4)⟩,
    ⟨some 18, none, .idxA 12 (.s 16) (.s 17)⟩,
    ⟨some 19, none, .fldA 2 (.s 18)⟩,
    ⟨some 20, none, .load false 1 (.s 19)⟩,
    ⟨some 21, none, .len (.s 20)⟩,
    ⟨some 22, none, .bin .lss (.s 14) (.s 21)⟩])
  (.cond (.s 22)
  .skip
  (.exit 2)))
  (.seq (.block 3
  (.seq (.reg [⟨some 6, none, .mov (.c (.pure (.int .i64 0)))⟩])
  (.block 4
  (.loop c44_3))))
  c44_2))
def c44_5 : AC :=
  (.seq (.seq (.reg [⟨some 7, none, .mov (.s 4)⟩,
    ⟨some 8, none, .fldA 3 (.s 1)⟩,
    ⟨some 9, none, .load false 1 (.s 8)⟩,
    ⟨some 10, none, .len (.s 9)⟩,
    ⟨some 11, none, .bin .lss (.s 7) (.s 10)⟩])
  (.cond (.s 11)
  .skip
  (.exit 0)))
  (.seq (.block 1
  (.seq (.reg [⟨some 5, none, .mov (.c (.pure (.int .i64 0)))⟩])
  (.block 2
  (.loop c44_4))))
  c44_1))
def c44 : AC :=
  (.seq (.reg [⟨some 1, none, .box (.s 0)⟩,
    ⟨some 2, none, .mov (.c (.pure (.int .i64 0)))⟩])
  (.seq (.reg [⟨some 3, none, .mov (.c (.pure (.int .i64 0)))⟩])
  (.seq (.seq (.reg [⟨some 4, none, .mov (.c (.pure (.int .i64 0)))⟩])
  (.block 0
  (.loop c44_5)))
  c44_0)))
theorem k44 : (Try.f44.body.bind fun c => cCode Try.prog Try.f44.ntmps RCs c) = some c44 := by kernel_rfl
theorem h44 : (Try.f44.name == "runtime.NumGoroutine") = false := by kernel_rfl
theorem r44 : resC Try.prog Try.f44.results.toList = some [.t 2] := by kernel_rfl
theorem a44 {args : List S} {H : Heap} {K : S → Heap → Prop} (hn : args.length ≤ 57) (h : aWx Try.prog H.length c44 (PostX [.t 2] K) (argEnv 0 args) H) : CallA Try.prog 44 args H K :=
  callA_of_x mixed Try.func44 h44 k44 r44 (by rw [Try.ntmps44]; exact hn) h
theorem q44 {vs ds : List V} (hn : vs.length ≤ 57) (h : aWx Try.prog 0 c44 (PostX [.t 2] (Gives ds)) (argEnv 0 (vs.map .pure)) []) : FnQ Try.prog 44 vs ds :=
  fnQ_of_call (a44 (by simpa using hn) h)

/-- the ligatures of a glyph -/
def partsL : List Sub → Int → List Lg
  | [], _ => []
  | s :: r, g => if 0 ≤ idxF g 0 s.cover then (s.ligs[(idxF g 0 s.cover).toNat]?).getD [] else partsL r g
structure SmallL (k : Lk) : Prop where
  row : ∀ s ∈ k.subs, ∀ x ∈ s.ligs, x.length ≤ 60
  parts : ∀ s ∈ k.subs, ∀ x ∈ s.ligs, ∀ y ∈ x, y.parts.length ≤ 40
theorem partsL_in {l : List Sub} {g : Int} {y : Lg} (h : y ∈ partsL l g) : ∃ s ∈ l, ∃ x ∈ s.ligs, y ∈ x := by
  induction l with
  | nil => simp [partsL] at h
  | cons s r ih =>
    rw [partsL] at h
    split at h
    · cases hx : s.ligs[(idxF g 0 s.cover).toNat]? with
      | none => rw [hx] at h; simp at h
      | some x =>
        rw [hx] at h
        exact ⟨s, by simp, x, List.mem_of_getElem? hx, h⟩
    · obtain ⟨s', h1, h2⟩ := ih h
      exact ⟨s', by simp [h1], h2⟩
theorem partsL_len {l : List Sub} {g : Int} (hs : ∀ s ∈ l, ∀ x ∈ s.ligs, x.length ≤ 60) : (partsL l g).length ≤ 60 := by
  induction l with
  | nil => simp [partsL]
  | cons s r ih =>
    rw [partsL]
    split
    · cases hx : s.ligs[(idxF g 0 s.cover).toNat]? with
      | none => simp
      | some x => exact hs s (by simp) x (List.mem_of_getElem? hx)
    · exact ih fun s' h => hs s' (by simp [h])
theorem parts_q (k : Lk) (hs : SmallL k) (g : Int) : FnQ Try.prog 41 [lk k, I g] [.sl ((partsL k.subs g).map lg)] := by
  refine q41 (by simp) ?_
  unfold c41
  simp -implicitDefEqProofs only [*, vmp,↓vmd,seval]
  refine onIf_intro fun _ => ?_
  first | refine envO (by simp -implicitDefEqProofs only [vmp,↓vmd,seval]; rfl) ?_ | refine envQ (by simp -implicitDefEqProofs only [vmp,↓vmd,seval]; rfl) ?_
  simp -implicitDefEqProofs only [vmp,↓vmd,seval]
  refine loop_at (T := Nat) (fun i => [(15, .pure (I i)), (14, .pure (I k.subs.length)), (13, .pure (.sl (k.subs.map sub))), (1, .pure (I g))]) (fun _ => []) (fun i => i ≤ k.subs.length ∧ partsL (k.subs.drop i) g = partsL k.subs g) (fun i => k.subs.length - i)
    0 [] (by simp) rfl ⟨by simp, by simp⟩ (by simp -implicitDefEqProofs only [kpp,seval]) (by simp -implicitDefEqProofs only [kpp,seval]) ?_
  rintro i ⟨hi, hr⟩
  unfold c41_4
  generalize partsL k.subs g = out at *
  simp -implicitDefEqProofs only [vmp,↓vmd,seval]
  refine onB_dec (fun h1 => ?_) (fun h1 => ?_)
  · have hlt : i < k.subs.length := by omega
    rw [drop_at hlt, partsL] at hr
    have hgi : (k.subs.map sub)[i]? = some (sub k.subs[i]) := map_at hlt
    have hrow := hs.row k.subs[i] (List.getElem_mem _)
    have hpar := hs.parts k.subs[i] (List.getElem_mem _)
    generalize k.subs[i] = s at hr hgi hrow hpar
    simp -implicitDefEqProofs only [h1, hgi, Int.natCast_nonneg, vmp,↓vmd,seval]
    refine onC_q (cindex_q s.cover g) rfl ?_
    first | refine envO (by simp -implicitDefEqProofs only [vmp,↓vmd,seval]; rfl) ?_ | refine envQ (by simp -implicitDefEqProofs only [vmp,↓vmd,seval]; rfl) ?_
    simp -implicitDefEqProofs only [vmp,↓vmd,seval]
    have hb := @idxF_lt g s.cover 0 (by omega)
    refine onB_intro (fun h2 => ?_) (fun h2 => ?_)
    · have h2' : ¬ 0 ≤ idxF g 0 s.cover := by simpa using h2
      rw [if_neg h2'] at hr
      simp -implicitDefEqProofs only [vmp,↓vmd,seval]
      unfold c41_1
      simp -implicitDefEqProofs only [vmp,↓vmd,seval]
      refine onBk_to (i + 1) [] (by simp) rfl (by omega) ⟨hlt, hr⟩ (by simp -implicitDefEqProofs only [next_at hlt (by omega), kpp,seval]) (by simp -implicitDefEqProofs only [kpp,seval])
    have h2' : 0 ≤ idxF g 0 s.cover := by simpa using h2
    rw [if_pos h2'] at hr
    obtain ⟨n, hn⟩ : ∃ n : Nat, idxF g 0 s.cover = n := ⟨_, (Int.toNat_of_nonneg h2').symm⟩
    have hn' : max (idxF g 0 s.cover) 0 = (n : Int) := by omega
    rw [hn, Int.toNat_natCast] at hr
    simp -implicitDefEqProofs only [hn', vmp,↓vmd,seval]
    refine onIf_intro fun _ => ?_
    first | refine envO (by simp -implicitDefEqProofs only [hn', vmp,↓vmd,seval]; rfl) ?_ | refine envQ (by simp -implicitDefEqProofs only [hn', vmp,↓vmd,seval]; rfl) ?_
    simp -implicitDefEqProofs only [vmp,↓vmd,seval]
    refine onB_dec (fun h3 => ?_) (fun h3 => ?_)
    · rw [List.getElem?_eq_none (by omega)] at hr
      simp -implicitDefEqProofs only [vmp,↓vmd,seval]
      rw [← hr]
      exact gives_empty
    have hln : n < s.ligs.length := by omega
    have hgn : (s.ligs.map lgr)[n]? = some (lgr s.ligs[n]) := map_at hln
    have hx60 := hrow s.ligs[n] (List.getElem_mem _)
    have hy40 := hpar s.ligs[n] (List.getElem_mem _)
    rw [List.getElem?_eq_getElem hln, Option.getD_some] at hr
    generalize s.ligs[n] = x at hr hgn hx60 hy40
    simp -implicitDefEqProofs only [hn', hgn, Int.natCast_nonneg, vmp,↓vmd,seval]
    refine onIf_intro fun _ => ?_
    first | refine envO (by simp -implicitDefEqProofs only [vmp,↓vmd,seval]; rfl) ?_ | refine envQ (by simp -implicitDefEqProofs only [vmp,↓vmd,seval]; rfl) ?_
    simp -implicitDefEqProofs only [vmp,↓vmd,seval]
    refine loop_virt 9 2 rfl (by simp) ?_
    refine loop_at (T := Nat) (fun j => [(39, .pure (I j)), (38, .pure (I x.length)), (37, .pure (.sl (x.map lg))), (9, .rsl 0 0 (x.take j).length)]) (fun j => [⟨((x.take j).map lg).map .pure, 2, .live⟩]) (fun j => j ≤ x.length) (fun j => x.length - j)
      0 [1] (by simp) rfl (by simp) (by simp -implicitDefEqProofs only [List.take_zero, kpp,seval]) (by simp -implicitDefEqProofs only [List.take_zero, kpp,seval]) ?_
    intro j hj
    unfold c41_3
    have hj' : (x.take j).length = j := by simp; omega
    simp -implicitDefEqProofs only [vmp,↓vmd,seval]
    refine onB_dec (fun h4 => ?_) (fun h4 => ?_)
    · have hlj : j < x.length := by omega
      have hgj : (x.map lg)[j]? = some (lg x[j]) := map_at hlj
      have hyj := hy40 x[j] (List.getElem_mem _)
      have hs' := List.take_succ_eq_append_getElem hlj
      generalize x[j] = y at hgj hyj hs'
      simp -implicitDefEqProofs only [h4, hgj, Int.natCast_nonneg, vmp,↓vmd,seval]
      refine onQ_q (cloneI_q y.parts (by omega)) rfl ?_
      first | refine envO (by simp -implicitDefEqProofs only [vmp,↓vmd,seval]; rfl) ?_ | refine envQ (by simp -implicitDefEqProofs only [vmp,↓vmd,seval]; rfl) ?_
      simp -implicitDefEqProofs only [vmp,↓vmd,seval]
      refine onIf'_intro (appOk_one rfl rfl (by simp) (by omega) (by simp [maxLen]; omega)) ?_
      first | refine envO (by simp -implicitDefEqProofs only [vmp,↓vmd,seval]; rfl) ?_ | refine envQ (by simp -implicitDefEqProofs only [vmp,↓vmd,seval]; rfl) ?_
      simp -implicitDefEqProofs only [vmp,↓vmd,seval]
      refine onBk_to (j + 1) [3] (by simp) rfl (by omega) hlj (by simp -implicitDefEqProofs only [next_at hlj (by omega), hs', kpp,seval]) (by simp -implicitDefEqProofs only [hs', kpp,seval])
    · rw [List.take_of_length_le (by omega)]
      subst hr
      simp -implicitDefEqProofs only [h4, vmp,↓vmd,seval]
      unfold c41_2
      simp -implicitDefEqProofs only [vmp,↓vmd,seval]
      exact gives_row rfl (by simp)
  · rw [List.drop_of_length_le (by omega), partsL] at hr
    simp -implicitDefEqProofs only [h1, vmp,↓vmd,seval]
    unfold c41_0
    simp -implicitDefEqProofs only [vmp,↓vmd,seval]
    rw [← hr]
    exact gives_empty
theorem rparts_q (k : Lk) (hs : SmallL k) (g : Int) : FnQ Try.prog 42 [lk k, I g] [.sl ((partsL k.subs g).map lg)] := by
  refine q42 (by simp) ?_
  unfold c42
  simp -implicitDefEqProofs only [*, vmp,↓vmd,seval]
  refine loop_at (T := Nat) (fun i => [(5, .pure (I i)), (2, .ptr 0 0 0), (1, .pure (I g))]) (fun _ => [⟨[.pure (lk k)], 4, .live⟩]) (fun i => i ≤ k.subs.length ∧ partsL (k.subs.drop i) g = partsL k.subs g) (fun i => k.subs.length - i)
    0 [0] (by simp) rfl ⟨by simp, by simp⟩ (by simp -implicitDefEqProofs only [kpp,seval]) (by simp -implicitDefEqProofs only [kpp,seval]) ?_
  rintro i ⟨hi, hr⟩
  unfold c42_1
  generalize partsL k.subs g = out at *
  simp -implicitDefEqProofs only [vmp,↓vmd,seval]
  refine onIf_intro fun _ => ?_
  first | refine envO (by simp -implicitDefEqProofs only [vmp,↓vmd,seval]; rfl) ?_ | refine envQ (by simp -implicitDefEqProofs only [vmp,↓vmd,seval]; rfl) ?_
  simp -implicitDefEqProofs only [vmp,↓vmd,seval]
  refine onB_dec (fun h1 => ?_) (fun h1 => ?_)
  · have hlt : i < k.subs.length := by omega
    rw [drop_at hlt, partsL] at hr
    have hgi : (k.subs.map sub)[i]? = some (sub k.subs[i]) := map_at hlt
    have hrow := hs.row k.subs[i] (List.getElem_mem _)
    have hpar := hs.parts k.subs[i] (List.getElem_mem _)
    generalize k.subs[i] = s at hr hgi hrow hpar
    simp -implicitDefEqProofs only [h1, hgi, Int.natCast_nonneg, vmp,↓vmd,seval]
    refine onC_q (rindex_q s.cover g) rfl ?_
    first | refine envO (by simp -implicitDefEqProofs only [vmp,↓vmd,seval]; rfl) ?_ | refine envQ (by simp -implicitDefEqProofs only [vmp,↓vmd,seval]; rfl) ?_
    simp -implicitDefEqProofs only [vmp,↓vmd,seval]
    refine onB_intro (fun h2 => ?_) (fun h2 => ?_)
    · have h2' : ¬ 0 ≤ idxF g 0 s.cover := by simpa using h2
      rw [if_neg h2'] at hr
      simp -implicitDefEqProofs only [vmp,↓vmd,seval]
      refine onBk_to (i + 1) [0] (by simp) rfl (by omega) ⟨hlt, hr⟩ (by simp -implicitDefEqProofs only [next_at hlt (by omega), kpp,seval]) (by simp -implicitDefEqProofs only [kpp,seval])
    have h2' : 0 ≤ idxF g 0 s.cover := by simpa using h2
    rw [if_pos h2'] at hr
    obtain ⟨n, hn⟩ : ∃ n : Nat, idxF g 0 s.cover = n := ⟨_, (Int.toNat_of_nonneg h2').symm⟩
    have hn' : max (idxF g 0 s.cover) 0 = (n : Int) := by omega
    rw [hn, Int.toNat_natCast] at hr
    simp -implicitDefEqProofs only [hn', hgi, Int.natCast_nonneg, vmp,↓vmd,seval]
    refine onIf_intro fun _ => ?_
    first | refine envO (by simp -implicitDefEqProofs only [hn', vmp,↓vmd,seval]; rfl) ?_ | refine envQ (by simp -implicitDefEqProofs only [hn', vmp,↓vmd,seval]; rfl) ?_
    simp -implicitDefEqProofs only [vmp,↓vmd,seval]
    refine onB_dec (fun h3 => ?_) (fun h3 => ?_)
    · rw [List.getElem?_eq_none (by omega)] at hr
      simp -implicitDefEqProofs only [vmp,↓vmd,seval]
      rw [← hr]
      exact gives_empty
    have hln : n < s.ligs.length := by omega
    have hgn : (s.ligs.map lgr)[n]? = some (lgr s.ligs[n]) := map_at hln
    have hx60 := hrow s.ligs[n] (List.getElem_mem _)
    rw [List.getElem?_eq_getElem hln, Option.getD_some] at hr
    generalize s.ligs[n] = x at hr hgn hx60
    simp -implicitDefEqProofs only [hn', hgi, hgn, Int.natCast_nonneg, vmp,↓vmd,seval]
    refine onIf'_intro (appOk0_map (fun _ => rfl) (by omega) (by simp [maxLen]; omega)) ?_
    first | refine envO (by simp -implicitDefEqProofs only [vmp,↓vmd,seval]; rfl) ?_ | refine envQ (by simp -implicitDefEqProofs only [vmp,↓vmd,seval]; rfl) ?_
    simp -implicitDefEqProofs only [vmp,↓vmd,seval]
    rw [← hr]
    exact gives_row' rfl (by simp) (by simp)
  · rw [List.drop_of_length_le (by omega), partsL] at hr
    simp -implicitDefEqProofs only [h1, vmp,↓vmd,seval]
    unfold c42_0
    simp -implicitDefEqProofs only [vmp,↓vmd,seval]
    rw [← hr]
    exact gives_empty
def longX (n : Int) (x : List Lg) : Int := x.foldl (fun n y => max n ((y.parts.length : Int) + 1)) n
def longS (n : Int) (s : Sub) : Int := s.ligs.foldl longX n
def longF (k : Lk) : Int := k.subs.foldl longS 0
theorem longX_ge : ∀ {x : List Lg} {n : Int}, n ≤ longX n x ∧ ∀ y ∈ x, (y.parts.length : Int) < longX n x
  | [], n => ⟨Int.le_refl _, by simp⟩
  | z :: r, n => by
    obtain ⟨h1, h2⟩ := @longX_ge r (max n ((z.parts.length : Int) + 1))
    have e : longX n (z :: r) = longX (max n ((z.parts.length : Int) + 1)) r := rfl
    rw [e]
    refine ⟨by omega, fun y hy => ?_⟩
    rcases List.mem_cons.1 hy with rfl | hy
    · omega
    · exact h2 y hy
theorem longS_ge' : ∀ {l : List (List Lg)} {n : Int}, n ≤ l.foldl longX n ∧ ∀ x ∈ l, ∀ y ∈ x, (y.parts.length : Int) < l.foldl longX n
  | [], n => ⟨Int.le_refl _, by simp⟩
  | z :: r, n => by
    obtain ⟨h1, h2⟩ := @longS_ge' r (longX n z)
    obtain ⟨h3, h4⟩ := @longX_ge z n
    rw [List.foldl_cons]
    refine ⟨by omega, fun x hx y hy => ?_⟩
    rcases List.mem_cons.1 hx with rfl | hx
    · have := h4 y hy; omega
    · exact h2 x hx y hy
theorem longF_ge' : ∀ {l : List Sub} {n : Int}, n ≤ l.foldl longS n ∧ ∀ s ∈ l, ∀ x ∈ s.ligs, ∀ y ∈ x, (y.parts.length : Int) < l.foldl longS n
  | [], n => ⟨Int.le_refl _, by simp⟩
  | z :: r, n => by
    obtain ⟨h1, h2⟩ := @longF_ge' r (longS n z)
    obtain ⟨h3, h4⟩ := @longS_ge' z.ligs n
    rw [List.foldl_cons]
    have e : longS n z = z.ligs.foldl longX n := rfl
    refine ⟨by omega, fun s hs x hx y hy => ?_⟩
    rcases List.mem_cons.1 hs with rfl | hs
    · have := h4 x hx y hy; omega
    · exact h2 s hs x hx y hy
theorem longest_q (k : Lk) (hs : SmallL k) : FnQ Try.prog 43 [lk k] [I (longF k)] := by
  refine q43 (by simp) ?_
  unfold c43
  simp -implicitDefEqProofs only [*, vmp,↓vmd,seval]
  refine onIf_intro fun _ => ?_
  first | refine envO (by simp -implicitDefEqProofs only [vmp,↓vmd,seval]; rfl) ?_ | refine envQ (by simp -implicitDefEqProofs only [vmp,↓vmd,seval]; rfl) ?_
  simp -implicitDefEqProofs only [vmp,↓vmd,seval]
  refine loop_at (T := Nat × Int) (fun y => [(13, .pure (I (y.1 : Int))), (12, .pure (I k.subs.length)), (11, .pure (.sl (k.subs.map sub))), (3, .pure (I y.2))]) (fun _ => []) (fun y => y.1 ≤ k.subs.length ∧ (k.subs.drop y.1).foldl longS y.2 = longF k) (fun y => k.subs.length - y.1)
    (0, 0) [] (by simp) rfl ⟨by simp, rfl⟩ (by simp -implicitDefEqProofs only [kpp,seval]) (by simp -implicitDefEqProofs only [kpp,seval]) ?_
  rintro ⟨i, n⟩ ⟨hi, hr⟩
  simp only at hi hr ⊢
  unfold c43_5
  generalize longF k = out at *
  simp -implicitDefEqProofs only [vmp,↓vmd,seval]
  refine onB_dec (fun h1 => ?_) (fun h1 => ?_)
  · have hlt : i < k.subs.length := by omega
    rw [drop_at hlt, List.foldl_cons] at hr
    have hgi : (k.subs.map sub)[i]? = some (sub k.subs[i]) := map_at hlt
    have hpar := hs.parts k.subs[i] (List.getElem_mem _)
    generalize k.subs[i] = s at hr hgi hpar
    simp -implicitDefEqProofs only [h1, hgi, Int.natCast_nonneg, vmp,↓vmd,seval]
    refine onIf_intro fun _ => ?_
    first | refine envO (by simp -implicitDefEqProofs only [vmp,↓vmd,seval]; rfl) ?_ | refine envQ (by simp -implicitDefEqProofs only [vmp,↓vmd,seval]; rfl) ?_
    simp -implicitDefEqProofs only [vmp,↓vmd,seval]
    refine loop_at (T := Nat × Int) (fun y => [(20, .pure (I (y.1 : Int))), (19, .pure (I s.ligs.length)), (18, .pure (.sl (s.ligs.map lgr))), (3, .pure (I y.2)), (13, .pure (I (i : Int))), (12, .pure (I k.subs.length)), (11, .pure (.sl (k.subs.map sub)))]) (fun _ => []) (fun y => y.1 ≤ s.ligs.length ∧ (s.ligs.drop y.1).foldl longX y.2 = longS n s) (fun y => s.ligs.length - y.1)
      (0, n) [] (by simp) rfl ⟨by simp, rfl⟩ (by simp -implicitDefEqProofs only [kpp,seval]) (by simp -implicitDefEqProofs only [kpp,seval]) ?_
    rintro ⟨j, u⟩ ⟨hj, ht⟩
    simp only at hj ht ⊢
    unfold c43_4
    simp -implicitDefEqProofs only [vmp,↓vmd,seval]
    refine onB_dec (fun h2 => ?_) (fun h2 => ?_)
    · have hlj : j < s.ligs.length := by omega
      rw [drop_at hlj, List.foldl_cons] at ht
      have hgj : (s.ligs.map lgr)[j]? = some (lgr s.ligs[j]) := map_at hlj
      have hpj := hpar s.ligs[j] (List.getElem_mem _)
      generalize s.ligs[j] = x at ht hgj hpj
      simp -implicitDefEqProofs only [h2, hgj, Int.natCast_nonneg, vmp,↓vmd,seval]
      refine onIf_intro fun _ => ?_
      first | refine envO (by simp -implicitDefEqProofs only [vmp,↓vmd,seval]; rfl) ?_ | refine envQ (by simp -implicitDefEqProofs only [vmp,↓vmd,seval]; rfl) ?_
      simp -implicitDefEqProofs only [vmp,↓vmd,seval]
      refine loop_at (T := Nat × Int) (fun y => [(26, .pure (I (y.1 : Int))), (25, .pure (I x.length)), (24, .pure (.sl (x.map lg))), (3, .pure (I y.2)), (20, .pure (I (j : Int))), (19, .pure (I s.ligs.length)), (18, .pure (.sl (s.ligs.map lgr))), (13, .pure (I (i : Int))), (12, .pure (I k.subs.length)), (11, .pure (.sl (k.subs.map sub)))]) (fun _ => []) (fun y => y.1 ≤ x.length ∧ longX y.2 (x.drop y.1) = longX u x) (fun y => x.length - y.1)
        (0, u) [] (by simp) rfl ⟨by simp, rfl⟩ (by simp -implicitDefEqProofs only [kpp,seval]) (by simp -implicitDefEqProofs only [kpp,seval]) ?_
      rintro ⟨m, z⟩ ⟨hm, hu⟩
      simp only at hm hu ⊢
      unfold c43_3
      simp -implicitDefEqProofs only [vmp,↓vmd,seval]
      refine onB_dec (fun h3 => ?_) (fun h3 => ?_)
      · have hlm : m < x.length := by omega
        rw [drop_at hlm] at hu
        have hgm : (x.map lg)[m]? = some (lg x[m]) := map_at hlm
        have hym := hpj x[m] (List.getElem_mem _)
        generalize x[m] = y at hu hgm hym
        have hw : IntKind.wrap .i64 ((y.parts.length : Int) + 1) = (y.parts.length : Int) + 1 := wrap_id (by omega) (by omega)
        simp -implicitDefEqProofs only [h3, hgm, Int.natCast_nonneg, vmp,↓vmd,seval]
        refine onIf_intro fun _ => ?_
        first | refine envO (by simp -implicitDefEqProofs only [vmp,↓vmd,seval]; rfl) ?_ | refine envQ (by simp -implicitDefEqProofs only [vmp,↓vmd,seval]; rfl) ?_
        simp -implicitDefEqProofs only [hw, vmp,↓vmd,seval]
        refine onBk_to (m + 1, max z ((y.parts.length : Int) + 1)) [] (by simp) rfl (by simp only; omega) ⟨hlm, hu⟩ (by simp -implicitDefEqProofs only [next_at hlm (by omega), kpp,seval]) (by simp -implicitDefEqProofs only [kpp,seval])
      · rw [List.drop_of_length_le (by omega)] at hu
        simp -implicitDefEqProofs only [h3, vmp,↓vmd,seval]
        unfold c43_2
        simp -implicitDefEqProofs only [vmp,↓vmd,seval]
        refine onBk_to (j + 1, z) [] (by simp) rfl (by simp only; omega) ⟨hlj, by rw [← ht, ← hu]; rfl⟩ (by simp -implicitDefEqProofs only [next_at hlj (by omega), kpp,seval]) (by simp -implicitDefEqProofs only [kpp,seval])
    · rw [List.drop_of_length_le (by omega)] at ht
      simp -implicitDefEqProofs only [h2, vmp,↓vmd,seval]
      unfold c43_1
      simp -implicitDefEqProofs only [vmp,↓vmd,seval]
      refine onBk_to (i + 1, u) [] (by simp) rfl (by simp only; omega) ⟨hlt, by rw [← hr, ← ht]; rfl⟩ (by simp -implicitDefEqProofs only [next_at hlt (by omega), kpp,seval]) (by simp -implicitDefEqProofs only [kpp,seval])
  · rw [List.drop_of_length_le (by omega), List.foldl_nil] at hr
    subst hr
    simp -implicitDefEqProofs only [h1, vmp,↓vmd,seval]
    unfold c43_0
    simp -implicitDefEqProofs only [vmp,↓vmd,seval]
    exact gives_pure
theorem rlongest_q (k : Lk) (hs : SmallL k) : FnQ Try.prog 44 [lk k] [I (longF k)] := by
  refine q44 (by simp) ?_
  unfold c44
  simp -implicitDefEqProofs only [*, vmp,↓vmd,seval]
  refine loop_at (T := Nat × Int) (fun y => [(4, .pure (I (y.1 : Int))), (1, .ptr 0 0 0), (3, .pure (I y.2))]) (fun _ => [⟨[.pure (lk k)], 4, .live⟩]) (fun y => y.1 ≤ k.subs.length ∧ (k.subs.drop y.1).foldl longS y.2 = longF k) (fun y => k.subs.length - y.1)
    (0, 0) [0] (by simp) rfl ⟨by simp, rfl⟩ (by simp -implicitDefEqProofs only [kpp,seval]) (by simp -implicitDefEqProofs only [kpp,seval]) ?_
  rintro ⟨i, n⟩ ⟨hi, hr⟩
  simp only at hi hr ⊢
  unfold c44_5
  generalize longF k = out at *
  simp -implicitDefEqProofs only [vmp,↓vmd,seval]
  refine onIf_intro fun _ => ?_
  first | refine envO (by simp -implicitDefEqProofs only [vmp,↓vmd,seval]; rfl) ?_ | refine envQ (by simp -implicitDefEqProofs only [vmp,↓vmd,seval]; rfl) ?_
  simp -implicitDefEqProofs only [vmp,↓vmd,seval]
  refine onB_dec (fun h1 => ?_) (fun h1 => ?_)
  · have hlt : i < k.subs.length := by omega
    rw [drop_at hlt, List.foldl_cons] at hr
    have hgi : (k.subs.map sub)[i]? = some (sub k.subs[i]) := map_at hlt
    have hpar := hs.parts k.subs[i] (List.getElem_mem _)
    generalize k.subs[i] = s at hr hgi hpar
    simp -implicitDefEqProofs only [h1, vmp,↓vmd,seval]
    refine loop_at (T := Nat × Int) (fun y => [(5, .pure (I (y.1 : Int))), (4, .pure (I (i : Int))), (1, .ptr 0 0 0), (3, .pure (I y.2))]) (fun _ => [⟨[.pure (lk k)], 4, .live⟩]) (fun y => y.1 ≤ s.ligs.length ∧ (s.ligs.drop y.1).foldl longX y.2 = longS n s) (fun y => s.ligs.length - y.1)
      (0, n) [0] (by simp) rfl ⟨by simp, rfl⟩ (by simp -implicitDefEqProofs only [kpp,seval]) (by simp -implicitDefEqProofs only [kpp,seval]) ?_
    rintro ⟨j, u⟩ ⟨hj, ht⟩
    simp only at hj ht ⊢
    unfold c44_4
    simp -implicitDefEqProofs only [hgi, Int.natCast_nonneg, vmp,↓vmd,seval]
    refine onIf_intro fun _ => ?_
    first | refine envO (by simp -implicitDefEqProofs only [vmp,↓vmd,seval]; rfl) ?_ | refine envQ (by simp -implicitDefEqProofs only [vmp,↓vmd,seval]; rfl) ?_
    simp -implicitDefEqProofs only [vmp,↓vmd,seval]
    refine onB_dec (fun h2 => ?_) (fun h2 => ?_)
    · have hlj : j < s.ligs.length := by omega
      rw [drop_at hlj, List.foldl_cons] at ht
      have hgj : (s.ligs.map lgr)[j]? = some (lgr s.ligs[j]) := map_at hlj
      have hpj := hpar s.ligs[j] (List.getElem_mem _)
      generalize s.ligs[j] = x at ht hgj hpj
      simp -implicitDefEqProofs only [h2, vmp,↓vmd,seval]
      refine loop_at (T := Nat × Int) (fun y => [(6, .pure (I (y.1 : Int))), (5, .pure (I (j : Int))), (4, .pure (I (i : Int))), (1, .ptr 0 0 0), (3, .pure (I y.2))]) (fun _ => [⟨[.pure (lk k)], 4, .live⟩]) (fun y => y.1 ≤ x.length ∧ longX y.2 (x.drop y.1) = longX u x) (fun y => x.length - y.1)
        (0, u) [0] (by simp) rfl ⟨by simp, rfl⟩ (by simp -implicitDefEqProofs only [kpp,seval]) (by simp -implicitDefEqProofs only [kpp,seval]) ?_
      rintro ⟨m, z⟩ ⟨hm, hu⟩
      simp only at hm hu ⊢
      unfold c44_3
      simp -implicitDefEqProofs only [hgi, hgj, Int.natCast_nonneg, vmp,↓vmd,seval]
      refine onIf_intro fun _ => ?_
      first | refine envO (by simp -implicitDefEqProofs only [vmp,↓vmd,seval]; rfl) ?_ | refine envQ (by simp -implicitDefEqProofs only [vmp,↓vmd,seval]; rfl) ?_
      simp -implicitDefEqProofs only [vmp,↓vmd,seval]
      refine onB_dec (fun h3 => ?_) (fun h3 => ?_)
      · have hlm : m < x.length := by omega
        rw [drop_at hlm] at hu
        have hgm : (x.map lg)[m]? = some (lg x[m]) := map_at hlm
        have hym := hpj x[m] (List.getElem_mem _)
        generalize x[m] = y at hu hgm hym
        have hw : IntKind.wrap .i64 ((y.parts.length : Int) + 1) = (y.parts.length : Int) + 1 := wrap_id (by omega) (by omega)
        simp -implicitDefEqProofs only [h3, hgi, hgj, hgm, Int.natCast_nonneg, vmp,↓vmd,seval]
        refine onIf_intro fun _ => ?_
        first | refine envO (by simp -implicitDefEqProofs only [vmp,↓vmd,seval]; rfl) ?_ | refine envQ (by simp -implicitDefEqProofs only [vmp,↓vmd,seval]; rfl) ?_
        simp -implicitDefEqProofs only [hw, vmp,↓vmd,seval]
        refine onBk_to (m + 1, max z ((y.parts.length : Int) + 1)) [0] (by simp) rfl (by simp only; omega) ⟨hlm, hu⟩ (by simp -implicitDefEqProofs only [next_at hlm (by omega), kpp,seval]) (by simp -implicitDefEqProofs only [kpp,seval])
      · rw [List.drop_of_length_le (by omega)] at hu
        simp -implicitDefEqProofs only [h3, vmp,↓vmd,seval]
        unfold c44_2
        simp -implicitDefEqProofs only [vmp,↓vmd,seval]
        refine onBk_to (j + 1, z) [0] (by simp) rfl (by simp only; omega) ⟨hlj, by rw [← ht, ← hu]; rfl⟩ (by simp -implicitDefEqProofs only [next_at hlj (by omega), kpp,seval]) (by simp -implicitDefEqProofs only [kpp,seval])
    · rw [List.drop_of_length_le (by omega)] at ht
      simp -implicitDefEqProofs only [h2, vmp,↓vmd,seval]
      unfold c44_1
      simp -implicitDefEqProofs only [vmp,↓vmd,seval]
      refine onBk_to (i + 1, u) [0] (by simp) rfl (by simp only; omega) ⟨hlt, by rw [← hr, ← ht]; rfl⟩ (by simp -implicitDefEqProofs only [next_at hlt (by omega), kpp,seval]) (by simp -implicitDefEqProofs only [kpp,seval])
  · rw [List.drop_of_length_le (by omega), List.foldl_nil] at hr
    subst hr
    simp -implicitDefEqProofs only [h1, vmp,↓vmd,seval]
    unfold c44_0
    simp -implicitDefEqProofs only [vmp,↓vmd,seval]
    exact gives_pure
end Go.Proofs.Ytbllbkhkmngclaa.W
