/-
  The next glyph that a lookup sees, the one before, and all of them: what each function does. No condition.
-/
import Derived.Test.YtjgodncjlffhjaaTypes
namespace Go.Proofs.Ytjgodncjlffhjaa.W
open Go Go.Vm Go.Proofs
set_option maxRecDepth 100000
set_option linter.unusedSimpArgs false
set_option maxHeartbeats 1000000
/-! typecase/skip.eye$1 -/
def c107_0 : AC :=
  (.block 1
  (.seq (.reg [⟨some 7, none, .mov (.s 0)⟩,
    ⟨some 8, none, .load false 1 (.s 1)⟩,
    ⟨some 9, none, .bin .add (.s 7) (.s 8)⟩,
    ⟨some 0, none, .mov (.s 9)⟩])
  (.seq (.seq (.reg [⟨some 10, none, .mov (.s 0)⟩,
    ⟨some 11, none, .bin .lss (.s 10) (.c (.pure (.int .i64 0)))⟩,
    ⟨some 12, none, .mov (.s 11)⟩,
    ⟨some 13, some (12, false), .mov (.s 0)⟩,
    ⟨some 14, some (12, false), .load false 1 (.s 2)⟩,
    ⟨some 15, some (12, false), .len (.s 14)⟩,
    ⟨some 16, some (12, false), .bin .geq (.s 13) (.s 15)⟩,
    ⟨some 17, none, .pick (.s 12) (.c (.pure (.bool true))) (.s 16)⟩])
  (.cond (.s 17)
  (.seq (.reg [⟨some 6, none, .mov (.c (.pure (.int .i64 (-1))))⟩])
  .ret)
  .skip))
  (.seq (.regq [⟨some 18, none, .load true 6 (.s 3)⟩,
    ⟨some 19, none, .load true 4 (.s 4)⟩,
    ⟨some 20, none, .load false 1 (.s 2)⟩,
    ⟨some 21, none, .mov (.s 0)⟩,
    ⟨some 22, none, .idxA 10 (.s 20) (.s 21)⟩,
    ⟨some 23, none, .fldA 0 (.s 22)⟩,
    ⟨some 24, none, .load false 1 (.s 23)⟩]
    [⟨some 25, none, .call 59 [(.s 18), (.s 19), (.s 24)]⟩,
    ⟨some 26, none, .un .not (.s 25)⟩])
  (.cond (.s 26)
  (.seq (.reg [⟨some 27, none, .mov (.s 0)⟩,
    ⟨some 6, none, .mov (.s 27)⟩])
  .ret)
  .skip)))))
def c107 : AC :=
  (.seq (.reg [⟨some 6, none, .mov (.c (.pure (.int .i64 0)))⟩])
  (.block 0
  (.loop c107_0)))
theorem k107 : (Try.f107.body.bind fun c => cCode Try.prog Try.f107.ntmps RCs c) = some c107 := by kernel_rfl
theorem h107 : (Try.f107.name == "runtime.NumGoroutine") = false := by kernel_rfl
theorem r107 : resC Try.prog Try.f107.results.toList = some [.t 6] := by kernel_rfl
theorem a107 {args : List S} {H : Heap} {K : S → Heap → Prop} (hn : args.length ≤ 28) (h : aWx Try.prog H.length c107 (PostX [.t 6] K) (argEnv 0 args) H) : CallA Try.prog 107 args H K :=
  callA_of_x mixed Try.func107 h107 k107 r107 (by rw [Try.ntmps107]; exact hn) h
theorem q107 {vs ds : List V} (hn : vs.length ≤ 28) (h : aWx Try.prog 0 c107 (PostX [.t 6] (Gives ds)) (argEnv 0 (vs.map .pure)) []) : FnQ Try.prog 107 vs ds :=
  fnQ_of_call (a107 (by simpa using hn) h)
/-! typecase/skip.eye -/
def c94 : AC :=
  (.seq (.reg [⟨some 4, none, .box (.s 0)⟩,
    ⟨some 5, none, .box (.s 1)⟩,
    ⟨some 6, none, .box (.s 2)⟩,
    ⟨some 7, none, .box (.s 3)⟩,
    ⟨some 8, none, .mov (.c (.pure .nilf))⟩])
  (.seq (.reg [⟨some 9, none, .mkfn (.func 107) [] [(.s 7), (.s 6), (.s 4), (.s 5)]⟩,
    ⟨some 8, none, .mov (.s 9)⟩])
  .ret))
theorem k94 : (Try.f94.body.bind fun c => cCode Try.prog Try.f94.ntmps RCs c) = some c94 := by kernel_rfl
theorem h94 : (Try.f94.name == "runtime.NumGoroutine") = false := by kernel_rfl
theorem r94 : resC Try.prog Try.f94.results.toList = some [.t 8] := by kernel_rfl
theorem a94 {args : List S} {H : Heap} {K : S → Heap → Prop} (hn : args.length ≤ 10) (h : aWx Try.prog H.length c94 (PostX [.t 8] K) (argEnv 0 args) H) : CallA Try.prog 94 args H K :=
  callA_of_x mixed Try.func94 h94 k94 r94 (by rw [Try.ntmps94]; exact hn) h
theorem q94 {vs ds : List V} (hn : vs.length ≤ 10) (h : aWx Try.prog 0 c94 (PostX [.t 8] (Gives ds)) (argEnv 0 (vs.map .pure)) []) : FnQ Try.prog 94 vs ds :=
  fnQ_of_call (a94 (by simpa using hn) h)
/-! typecase/skip.Next -/
def c61 : AC :=
  (.seq (.reg [⟨some 4, none, .box (.s 0)⟩,
    ⟨some 5, none, .box (.s 1)⟩,
    ⟨some 8, none, .mov (.c (.pure (.int .i64 0)))⟩])
  (.seq (.seq (.reg [⟨some 9, none, .mov (.s 3)⟩,
    ⟨some 10, none, .mov (.s 2)⟩,
    ⟨some 11, none, .len (.s 10)⟩,
    ⟨some 12, none, .bin .geq (.s 9) (.s 11)⟩])
  (.cond (.s 12)
  (.seq (.reg [⟨some 8, none, .mov (.c (.pure (.int .i64 (-1))))⟩])
  .ret)
  .skip))
  (.seq (.reg [⟨some 13, none, .load true 6 (.s 4)⟩,
    ⟨some 14, none, .load true 4 (.s 5)⟩,
    ⟨some 15, none, .mov (.s 2)⟩,
    ⟨some 16, none, .call 94 [(.s 13), (.s 14), (.s 15), (.c (.pure (.int .i64 1)))]⟩,
    ⟨some 17, none, .mov (.s 3)⟩,
    ⟨some 18, none, .mx (.s 17) (.c (.pure (.int .i64 (-1))))⟩,
    ⟨some 19, none, .callv (.s 16) [(.s 18)]⟩,
    ⟨some 8, none, .mov (.s 19)⟩])
  .ret)))
theorem k61 : (Try.f61.body.bind fun c => cCode Try.prog Try.f61.ntmps RCs c) = some c61 := by kernel_rfl
theorem h61 : (Try.f61.name == "runtime.NumGoroutine") = false := by kernel_rfl
theorem r61 : resC Try.prog Try.f61.results.toList = some [.t 8] := by kernel_rfl
theorem a61 {args : List S} {H : Heap} {K : S → Heap → Prop} (hn : args.length ≤ 20) (h : aWx Try.prog H.length c61 (PostX [.t 8] K) (argEnv 0 args) H) : CallA Try.prog 61 args H K :=
  callA_of_x mixed Try.func61 h61 k61 r61 (by rw [Try.ntmps61]; exact hn) h
theorem q61 {vs ds : List V} (hn : vs.length ≤ 20) (h : aWx Try.prog 0 c61 (PostX [.t 8] (Gives ds)) (argEnv 0 (vs.map .pure)) []) : FnQ Try.prog 61 vs ds :=
  fnQ_of_call (a61 (by simpa using hn) h)
/-! typecase/skip.Prev -/
def c63 : AC :=
  (.seq (.reg [⟨some 4, none, .box (.s 0)⟩,
    ⟨some 5, none, .box (.s 1)⟩,
    ⟨some 8, none, .mov (.c (.pure (.int .i64 0)))⟩])
  (.seq (.seq (.reg [⟨some 9, none, .mov (.s 3)⟩,
    ⟨some 10, none, .bin .lss (.s 9) (.c (.pure (.int .i64 0)))⟩])
  (.cond (.s 10)
  (.seq (.reg [⟨some 8, none, .mov (.c (.pure (.int .i64 (-1))))⟩])
  .ret)
  .skip))
  (.seq (.reg [⟨some 11, none, .load true 6 (.s 4)⟩,
    ⟨some 12, none, .load true 4 (.s 5)⟩,
    ⟨some 13, none, .mov (.s 2)⟩,
    ⟨some 14, none, .call 94 [(.s 11), (.s 12), (.s 13), (.c (.pure (.int .i64 (-1))))]⟩,
    ⟨some 15, none, .mov (.s 3)⟩,
    ⟨some 16, none, .mov (.s 2)⟩,
    ⟨some 17, none, .len (.s 16)⟩,
    ⟨some 18, none, .mn (.s 15) (.s 17)⟩,
    ⟨some 19, none, .callv (.s 14) [(.s 18)]⟩,
    ⟨some 8, none, .mov (.s 19)⟩])
  .ret)))
theorem k63 : (Try.f63.body.bind fun c => cCode Try.prog Try.f63.ntmps RCs c) = some c63 := by kernel_rfl
theorem h63 : (Try.f63.name == "runtime.NumGoroutine") = false := by kernel_rfl
theorem r63 : resC Try.prog Try.f63.results.toList = some [.t 8] := by kernel_rfl
theorem a63 {args : List S} {H : Heap} {K : S → Heap → Prop} (hn : args.length ≤ 20) (h : aWx Try.prog H.length c63 (PostX [.t 8] K) (argEnv 0 args) H) : CallA Try.prog 63 args H K :=
  callA_of_x mixed Try.func63 h63 k63 r63 (by rw [Try.ntmps63]; exact hn) h
theorem q63 {vs ds : List V} (hn : vs.length ≤ 20) (h : aWx Try.prog 0 c63 (PostX [.t 8] (Gives ds)) (argEnv 0 (vs.map .pure)) []) : FnQ Try.prog 63 vs ds :=
  fnQ_of_call (a63 (by simpa using hn) h)
/-! typecase/typecaseref26.Next -/
def c62_0 : AC :=
  (.seq (.reg [⟨some 8, none, .mov (.c (.pure (.int .i64 (-1))))⟩])
  .ret)
def c62_1 : AC :=
  (.seq (.seq (.reg [⟨some 13, none, .mov (.s 9)⟩,
    ⟨some 14, none, .mov (.s 2)⟩,
    ⟨some 15, none, .len (.s 14)⟩,
    ⟨some 16, none, .bin .lss (.s 13) (.s 15)⟩,
    ⟨some 17, none, .mov (.s 16)⟩,
    ⟨some 18, some (17, true), .mov (.s 3)⟩,
    ⟨some 19, some (17, true), .mov (.s 2)⟩,
    ⟨some 20, some (17, true), .len (.s 19)⟩,
    ⟨some 21, some (17, true), .bin .lss (.s 18) (.s 20)⟩,
    ⟨some 22, none, .pick (.s 17) (.s 21) (.c (.pure (.bool false)))⟩])
  (.cond (.s 22)
  .skip
  (.exit 0)))
  (.seq (.block 1
  (.seq (.regq [⟨some 25, none, .load true 6 (.s 4)⟩,
    ⟨some 26, none, .load true 4 (.s 5)⟩,
    ⟨some 27, none, .mov (.s 2)⟩,
    ⟨some 28, none, .mov (.s 9)⟩,
    ⟨some 29, none, .idxA 10 (.s 27) (.s 28)⟩,
    ⟨some 30, none, .fldA 0 (.s 29)⟩,
    ⟨some 31, none, .load false 1 (.s 30)⟩]
    [⟨some 32, none, .call 60 [(.s 25), (.s 26), (.s 31)]⟩,
    ⟨some 33, none, .un .not (.s 32)⟩])
  (.cond (.s 33)
  (.seq (.reg [⟨some 34, none, .mov (.s 9)⟩,
    ⟨some 8, none, .mov (.s 34)⟩])
  .ret)
  .skip)))
  (.reg [⟨some 23, none, .mov (.s 9)⟩,
    ⟨some 24, none, .bin .add (.s 23) (.c (.pure (.int .i64 1)))⟩,
    ⟨some 9, none, .mov (.s 24)⟩])))
def c62 : AC :=
  (.seq (.reg [⟨some 4, none, .box (.s 0)⟩,
    ⟨some 5, none, .box (.s 1)⟩,
    ⟨some 8, none, .mov (.c (.pure (.int .i64 0)))⟩])
  (.seq (.seq (.reg [⟨some 10, none, .mov (.s 3)⟩,
    ⟨some 11, none, .mx (.s 10) (.c (.pure (.int .i64 (-1))))⟩,
    ⟨some 12, none, .bin .add (.s 11) (.c (.pure (.int .i64 1)))⟩,
    ⟨some 9, none, .mov (.s 12)⟩])
  (.block 0
  (.loop c62_1)))
  c62_0))
theorem k62 : (Try.f62.body.bind fun c => cCode Try.prog Try.f62.ntmps RCs c) = some c62 := by kernel_rfl
theorem h62 : (Try.f62.name == "runtime.NumGoroutine") = false := by kernel_rfl
theorem r62 : resC Try.prog Try.f62.results.toList = some [.t 8] := by kernel_rfl
theorem a62 {args : List S} {H : Heap} {K : S → Heap → Prop} (hn : args.length ≤ 35) (h : aWx Try.prog H.length c62 (PostX [.t 8] K) (argEnv 0 args) H) : CallA Try.prog 62 args H K :=
  callA_of_x mixed Try.func62 h62 k62 r62 (by rw [Try.ntmps62]; exact hn) h
theorem q62 {vs ds : List V} (hn : vs.length ≤ 35) (h : aWx Try.prog 0 c62 (PostX [.t 8] (Gives ds)) (argEnv 0 (vs.map .pure)) []) : FnQ Try.prog 62 vs ds :=
  fnQ_of_call (a62 (by simpa using hn) h)
/-! typecase/typecaseref26.Prev -/
def c64_0 : AC :=
  (.seq (.reg [⟨some 8, none, .mov (.c (.pure (.int .i64 (-1))))⟩])
  .ret)
def c64_1 : AC :=
  (.seq (.seq (.reg [⟨some 15, none, .mov (.s 9)⟩,
    ⟨some 16, none, .bin .geq (.s 15) (.c (.pure (.int .i64 0)))⟩,
    ⟨some 17, none, .mov (.s 16)⟩,
    ⟨some 18, some (17, true), .mov (.s 3)⟩,
    ⟨some 19, some (17, true), .bin .gtr (.s 18) (.c (.pure (.int .i64 0)))⟩,
    ⟨some 20, none, .pick (.s 17) (.s 19) (.c (.pure (.bool false)))⟩])
  (.cond (.s 20)
  .skip
  (.exit 0)))
  (.seq (.block 1
  (.seq (.regq [⟨some 23, none, .load true 6 (.s 4)⟩,
    ⟨some 24, none, .load true 4 (.s 5)⟩,
    ⟨some 25, none, .mov (.s 2)⟩,
    ⟨some 26, none, .mov (.s 9)⟩,
    ⟨some 27, none, .idxA 10 (.s 25) (.s 26)⟩,
    ⟨some 28, none, .fldA 0 (.s 27)⟩,
    ⟨some 29, none, .load false 1 (.s 28)⟩]
    [⟨some 30, none, .call 60 [(.s 23), (.s 24), (.s 29)]⟩,
    ⟨some 31, none, .un .not (.s 30)⟩])
  (.cond (.s 31)
  (.seq (.reg [⟨some 32, none, .mov (.s 9)⟩,
    ⟨some 8, none, .mov (.s 32)⟩])
  .ret)
  .skip)))
  (.reg [⟨some 21, none, .mov (.s 9)⟩,
    ⟨some 22, none, .bin .sub (.s 21) (.c (.pure (.int .i64 1)))⟩,
    ⟨some 9, none, .mov (.s 22)⟩])))
def c64 : AC :=
  (.seq (.reg [⟨some 4, none, .box (.s 0)⟩,
    ⟨some 5, none, .box (.s 1)⟩,
    ⟨some 8, none, .mov (.c (.pure (.int .i64 0)))⟩])
  (.seq (.seq (.reg [⟨some 10, none, .mov (.s 3)⟩,
    ⟨some 11, none, .mov (.s 2)⟩,
    ⟨some 12, none, .len (.s 11)⟩,
    ⟨some 13, none, .mn (.s 10) (.s 12)⟩,
    ⟨some 14, none, .bin .sub (.s 13) (.c (.pure (.int .i64 1)))⟩,
    ⟨some 9, none, .mov (.s 14)⟩])
  (.block 0
  (.loop c64_1)))
  c64_0))
theorem k64 : (Try.f64.body.bind fun c => cCode Try.prog Try.f64.ntmps RCs c) = some c64 := by kernel_rfl
theorem h64 : (Try.f64.name == "runtime.NumGoroutine") = false := by kernel_rfl
theorem r64 : resC Try.prog Try.f64.results.toList = some [.t 8] := by kernel_rfl
theorem a64 {args : List S} {H : Heap} {K : S → Heap → Prop} (hn : args.length ≤ 33) (h : aWx Try.prog H.length c64 (PostX [.t 8] K) (argEnv 0 args) H) : CallA Try.prog 64 args H K :=
  callA_of_x mixed Try.func64 h64 k64 r64 (by rw [Try.ntmps64]; exact hn) h
theorem q64 {vs ds : List V} (hn : vs.length ≤ 33) (h : aWx Try.prog 0 c64 (PostX [.t 8] (Gives ds)) (argEnv 0 (vs.map .pure)) []) : FnQ Try.prog 64 vs ds :=
  fnQ_of_call (a64 (by simpa using hn) h)
/-! typecase/skip.Seen -/
def c65_0 : AC :=
  (.seq (.reg [⟨some 28, none, .mov (.s 7)⟩,
    ⟨some 6, none, .mov (.s 28)⟩])
  .ret)
def c65_1 : AC :=
  (.seq (.reg [⟨some 13, none, .bin .lss (.s 12) (.s 11)⟩])
  (.seq (.cond (.s 13)
  .skip
  (.exit 0))
  (.seq (.block 1
  (.seq (.reg [⟨some 14, none, .mov (.s 12)⟩,
    ⟨some 15, none, .idxA 10 (.s 10) (.s 12)⟩,
    ⟨some 16, none, .load true 10 (.s 15)⟩,
    ⟨some 9, none, .box (.c (.pure (.agg [(.int .i64 0), (.int .i64 0), (.int .i64 0), (.int .i64 0), (.int .i64 0), (.int .i64 0), (.int .i64 0), (.int .i64 0), (.int .i64 0), (.int .i64 0)])))⟩,
    ⟨some 8, none, .mov (.s 14)⟩,
    ⟨none, none, .store 10 (.s 9) (.s 16)⟩])
  (.seq (.reg [⟨some 17, none, .load true 6 (.s 3)⟩,
    ⟨some 18, none, .load true 4 (.s 4)⟩,
    ⟨some 19, none, .fldA 0 (.s 9)⟩,
    ⟨some 20, none, .load false 1 (.s 19)⟩,
    ⟨some 21, none, .call 59 [(.s 17), (.s 18), (.s 20)]⟩,
    ⟨some 22, none, .un .not (.s 21)⟩])
  (.cond (.s 22)
  (.reg [⟨some 23, none, .mov (.s 7)⟩,
    ⟨some 24, none, .mov (.s 8)⟩,
    ⟨some 25, none, .bslice 1 [(.s 24)]⟩,
    ⟨some 26, none, .app 1 8 (.s 23) (.s 25)⟩,
    ⟨some 7, none, .mov (.s 26)⟩])
  .skip))))
  (.reg [⟨some 27, none, .bin .add (.s 12) (.c (.pure (.int .i64 1)))⟩,
    ⟨some 12, none, .mov (.s 27)⟩]))))
def c65 : AC :=
  (.seq (.reg [⟨some 3, none, .box (.s 0)⟩,
    ⟨some 4, none, .box (.s 1)⟩,
    ⟨some 6, none, .mov (.c .empty)⟩])
  (.seq (.reg [⟨some 7, none, .mov (.c .empty)⟩])
  (.seq (.seq (.reg [⟨some 10, none, .mov (.s 2)⟩,
    ⟨some 11, none, .len (.s 10)⟩,
    ⟨some 12, none, .mov (.c (.pure (.int .i64 0)))⟩])
  (.block 0
  (.loop c65_1)))
  c65_0)))
theorem k65 : (Try.f65.body.bind fun c => cCode Try.prog Try.f65.ntmps RCs c) = some c65 := by kernel_rfl
theorem h65 : (Try.f65.name == "runtime.NumGoroutine") = false := by kernel_rfl
theorem r65 : resC Try.prog Try.f65.results.toList = some [.t 6] := by kernel_rfl
theorem a65 {args : List S} {H : Heap} {K : S → Heap → Prop} (hn : args.length ≤ 29) (h : aWx Try.prog H.length c65 (PostX [.t 6] K) (argEnv 0 args) H) : CallA Try.prog 65 args H K :=
  callA_of_x mixed Try.func65 h65 k65 r65 (by rw [Try.ntmps65]; exact hn) h
theorem q65 {vs ds : List V} (hn : vs.length ≤ 29) (h : aWx Try.prog 0 c65 (PostX [.t 6] (Gives ds)) (argEnv 0 (vs.map .pure)) []) : FnQ Try.prog 65 vs ds :=
  fnQ_of_call (a65 (by simpa using hn) h)
/-! typecase/typecaseref26.Seen -/
def c66_0 : AC :=
  (.seq (.reg [⟨some 28, none, .mov (.s 7)⟩,
    ⟨some 6, none, .mov (.s 28)⟩])
  .ret)
def c66_1 : AC :=
  (.seq (.seq (.reg [⟨some 9, none, .mov (.s 8)⟩,
    ⟨some 10, none, .mov (.s 2)⟩,
    ⟨some 11, none, .len (.s 10)⟩,
    ⟨some 12, none, .bin .lss (.s 9) (.s 11)⟩])
  (.cond (.s 12)
  .skip
  (.exit 0)))
  (.seq (.block 1
  (.seq (.regq [⟨some 15, none, .load true 6 (.s 3)⟩,
    ⟨some 16, none, .load true 4 (.s 4)⟩,
    ⟨some 17, none, .mov (.s 2)⟩,
    ⟨some 18, none, .mov (.s 8)⟩,
    ⟨some 19, none, .idxA 10 (.s 17) (.s 18)⟩,
    ⟨some 20, none, .fldA 0 (.s 19)⟩,
    ⟨some 21, none, .load false 1 (.s 20)⟩]
    [⟨some 22, none, .call 60 [(.s 15), (.s 16), (.s 21)]⟩,
    ⟨some 23, none, .un .not (.s 22)⟩])
  (.cond (.s 23)
  (.reg [⟨some 24, none, .mov (.s 7)⟩,
    ⟨some 25, none, .mov (.s 8)⟩,
    ⟨some 26, none, .bslice 1 [(.s 25)]⟩,
    ⟨some 27, none, .app 1 8 (.s 24) (.s 26)⟩,
    ⟨some 7, none, .mov (.s 27)⟩])
  .skip)))
  (.reg [⟨some 13, none, .mov (.s 8)⟩,
    ⟨some 14, none, .bin .add (.s 13) (.c (.pure (.int .i64 1)))⟩,
    ⟨some 8, none, .mov (.s 14)⟩])))
def c66 : AC :=
  (.seq (.reg [⟨some 3, none, .box (.s 0)⟩,
    ⟨some 4, none, .box (.s 1)⟩,
    ⟨some 6, none, .mov (.c .empty)⟩])
  (.seq (.reg [⟨some 7, none, .mov (.c .empty)⟩])
  (.seq (.seq (.reg [⟨some 8, none, .mov (.c (.pure (.int .i64 0)))⟩])
  (.block 0
  (.loop c66_1)))
  c66_0)))
theorem k66 : (Try.f66.body.bind fun c => cCode Try.prog Try.f66.ntmps RCs c) = some c66 := by kernel_rfl
theorem h66 : (Try.f66.name == "runtime.NumGoroutine") = false := by kernel_rfl
theorem r66 : resC Try.prog Try.f66.results.toList = some [.t 6] := by kernel_rfl
theorem a66 {args : List S} {H : Heap} {K : S → Heap → Prop} (hn : args.length ≤ 29) (h : aWx Try.prog H.length c66 (PostX [.t 6] K) (argEnv 0 args) H) : CallA Try.prog 66 args H K :=
  callA_of_x mixed Try.func66 h66 k66 r66 (by rw [Try.ntmps66]; exact hn) h
theorem q66 {vs ds : List V} (hn : vs.length ≤ 29) (h : aWx Try.prog 0 c66 (PostX [.t 6] (Gives ds)) (argEnv 0 (vs.map .pure)) []) : FnQ Try.prog 66 vs ds :=
  fnQ_of_call (a66 (by simpa using hn) h)

/-- a glyph -/
structure Gl where
  id : Int
  cl : Int
  adv : Int
  dx : Int
  dy : Int
  to : Int
  hang : Int
  lig : Int
  comp : Int
  mask : Int
abbrev gl (g : Gl) : V := .agg [I g.id, I g.cl, I g.adv, I g.dx, I g.dy, I g.to, I g.hang, I g.lig, I g.comp, I g.mask]
theorem gl_of {v : V} (h : OkE true (List.replicate 10 (.int .i64)) v) : ∃ g, v = gl g ∧ True := by
  obtain ⟨l, hl, rfl⟩ := ints_of h
  match l, hl with
  | [a, b, c, d, e, f, g, h, i, j], _ => exact ⟨⟨a, b, c, d, e, f, g, h, i, j⟩, rfl, trivial⟩
theorem gls_of {v : V} (h : OkC (.sl true (List.replicate 10 (.int .i64))) v) : ∃ l : List Gl, v = .sl (l.map gl) ∧ l.length ≤ maxLen := by
  obtain ⟨l, h1, h2, _⟩ := lists_of (f := gl) (p := fun _ => True) (fun _ h => gl_of h) h
  exact ⟨l, h1, h2⟩
/-- is the glyph at a place seen? -/
def seesF (f : Fo) (b n : Int) (ls : List Gl) (j : Nat) : Bool := !skipsF f b n (((ls[j]?).map (·.id)).getD 0)
theorem seesF_at {f : Fo} {b n : Int} {ls : List Gl} {j : Nat} (h : j < ls.length) : seesF f b n ls j = !skipsF f b n ls[j].id := by
  simp [seesF, List.getElem?_eq_getElem h]
def upF (p : Nat → Bool) : Nat → Nat → Int
  | 0, _ => -1
  | m + 1, i => if p i = true then (i : Int) else upF p m (i + 1)
def downF (p : Nat → Bool) : Nat → Int
  | 0 => -1
  | i + 1 => if p i = true then (i : Int) else downF p i
def nextF (p : Nat → Bool) (n : Nat) (a : Int) : Int := if (n : Int) ≤ a then -1 else upF p (n - (max a (-1) + 1).toNat) (max a (-1) + 1).toNat
def prevF (p : Nat → Bool) (n : Nat) (a : Int) : Int := if a < 0 then -1 else downF p (min a n).toNat
def eyeH (f : Fo) (k : V) (ls : List Gl) (y : Int) : Heap := [⟨[.pure (fo f)], 6, .live⟩, ⟨[.pure k], 4, .live⟩, ⟨[.pure (.sl (ls.map gl))], 1, .live⟩, ⟨[.pure (I y)], 1, .live⟩]
theorem eyeH_eq {f : Fo} {k : V} {ls : List Gl} {y : Int} : eyeH f k ls y = [⟨[.pure (fo f)], 6, .live⟩, ⟨[.pure k], 4, .live⟩, ⟨[.pure (.sl (ls.map gl))], 1, .live⟩, ⟨[.pure (I y)], 1, .live⟩] := rfl
theorem eye_c (f : Fo) (a b n : Int) (s : V) (ls : List Gl) (y : Int) : CallA Try.prog 94 [.pure (fo f), .pure (lkV a b n s), .pure (.sl (ls.map gl)), .pure (I y)] []
    fun r H' => r = .func (.func 107) [] [.ptr 3 0 0, .ptr 2 0 0, .ptr 0 0 0, .ptr 1 0 0] ∧ H' = eyeH f (lkV a b n s) ls y := by
  refine a94 (by simp) ?_
  unfold c94
  simp -implicitDefEqProofs only [*, vmp,↓vmd,Env.get,putD,argEnv,List.map,x00,x01,x02,x03,x04,x05,x06,x07,List.take,List.drop,x08,x09,x0a,x0b,List.isEmpty,↓reduceIte,reduceCtorEq,Nat.reduceEqDiff,Nat.reduceAdd,Nat.reduceLeDiff,x0c,Int.reduceNeg,Nat.reduceMul,Nat.reduceSub,x0d,x0e,x0f,x0g,x0h,x0i,x0j,x0k,Int.reduceEq,Int.reduceLT,Int.reduceLE,Int.reduceToNat,Int.cast_ofNat_Int,List.reduceReplicate]
  exact rfl
theorem up_c (f : Fo) (a b n : Int) (s : V) (ls : List Gl) (i : Nat) (hi : i ≤ ls.length) (hl : ls.length ≤ 1000) : CallA Try.prog 107 [.pure (I ((i : Int) - 1)), .ptr 3 0 0, .ptr 2 0 0, .ptr 0 0 0, .ptr 1 0 0] (eyeH f (lkV a b n s) ls 1)
    fun r H' => r = .pure (I (upF (seesF f b n ls) (ls.length - i) i)) ∧ H' = eyeH f (lkV a b n s) ls 1 := by
  refine a107 (by simp) ?_
  unfold c107
  rw [eyeH_eq]
  simp -implicitDefEqProofs only [*, vmp,↓vmd,Env.get,putD,argEnv,List.map,x00,x01,x02,x03,x04,x05,x06,x07,List.take,List.drop,x08,x09,x0a,x0b,List.isEmpty,↓reduceIte,reduceCtorEq,Nat.reduceEqDiff,Nat.reduceAdd,Nat.reduceLeDiff,x0c,Int.reduceNeg,Nat.reduceMul,Nat.reduceSub,x0d,x0e,x0f,x0g,x0h,x0i,x0j,x0k,Int.reduceEq,Int.reduceLT,Int.reduceLE,Int.reduceToNat,Int.cast_ofNat_Int,List.reduceReplicate]
  refine loop_at (T := Nat) (fun j => [(0, .pure (I ((j : Int) - 1))), (1, .ptr 3 0 0), (2, .ptr 2 0 0), (3, .ptr 0 0 0), (4, .ptr 1 0 0)]) (fun _ => eyeH f (lkV a b n s) ls 1) (fun j => j ≤ ls.length ∧ upF (seesF f b n ls) (ls.length - j) j = upF (seesF f b n ls) (ls.length - i) i) (fun j => ls.length - j)
    i [0, 1, 2, 3] (by simp) rfl ⟨hi, rfl⟩ (by simp -implicitDefEqProofs only [kpp,Env.get,x01,x00,x02,x03,List.map,x08,x09,↓reduceIte,reduceCtorEq,Nat.reduceEqDiff,Nat.reduceLeDiff,Nat.reduceLT,Nat.reduceAdd,x0j,x0l,x0m,x0n,x0o,Int.cast_ofNat_Int,x0p,x0i,x07,x06,x0q,x0r,x0s,x0t,x0d,x0u]) (by simp -implicitDefEqProofs only [eyeH_eq, kpp,Env.get,x01,x00,x02,x03,List.map,x08,x09,↓reduceIte,reduceCtorEq,Nat.reduceEqDiff,Nat.reduceLeDiff,Nat.reduceLT,Nat.reduceAdd,x0j,x0l,x0m,x0n,x0o,Int.cast_ofNat_Int,x0p,x0i,x07,x06,x0q,x0r,x0s,x0t,x0d,x0u]) ?_
  rintro j ⟨hj, hr⟩
  rw [eyeH_eq]
  unfold c107_0
  have hw : IntKind.wrap .i64 ((j : Int) - 1 + 1) = (j : Int) := by rw [wrap_id (by omega) (by omega)]; omega
  simp -implicitDefEqProofs only [hw, show ¬ ((j : Int) < 0) by omega, vmp,↓vmd,Env.get,putD,argEnv,List.map,x00,x01,x02,x03,x04,x05,x06,x07,List.take,List.drop,x08,x09,x0a,x0b,List.isEmpty,↓reduceIte,reduceCtorEq,Nat.reduceEqDiff,Nat.reduceAdd,Nat.reduceLeDiff,x0c,Int.reduceNeg,Nat.reduceMul,Nat.reduceSub,x0d,x0e,x0f,x0g,x0h,x0i,x0j,x0k,Int.reduceEq,Int.reduceLT,Int.reduceLE,Int.reduceToNat,Int.cast_ofNat_Int,List.reduceReplicate]
  refine onIf_intro fun _ => ?_
  simp -implicitDefEqProofs only [vmp,↓vmd,Env.get,putD,argEnv,List.map,x00,x01,x02,x03,x04,x05,x06,x07,List.take,List.drop,x08,x09,x0a,x0b,List.isEmpty,↓reduceIte,reduceCtorEq,Nat.reduceEqDiff,Nat.reduceAdd,Nat.reduceLeDiff,x0c,Int.reduceNeg,Nat.reduceMul,Nat.reduceSub,x0d,x0e,x0f,x0g,x0h,x0i,x0j,x0k,Int.reduceEq,Int.reduceLT,Int.reduceLE,Int.reduceToNat,Int.cast_ofNat_Int,List.reduceReplicate]
  by_cases h1 : (ls.length : Int) ≤ (j : Int)
  · rw [show ls.length - j = 0 by omega, upF] at hr
    simp -implicitDefEqProofs only [h1, ← hr, vmp,↓vmd,Env.get,putD,argEnv,List.map,x00,x01,x02,x03,x04,x05,x06,x07,List.take,List.drop,x08,x09,x0a,x0b,List.isEmpty,↓reduceIte,reduceCtorEq,Nat.reduceEqDiff,Nat.reduceAdd,Nat.reduceLeDiff,x0c,Int.reduceNeg,Nat.reduceMul,Nat.reduceSub,x0d,x0e,x0f,x0g,x0h,x0i,x0j,x0k,Int.reduceEq,Int.reduceLT,Int.reduceLE,Int.reduceToNat,Int.cast_ofNat_Int,List.reduceReplicate]
  · have hlt : j < ls.length := by omega
    rw [show ls.length - j = (ls.length - (j + 1)) + 1 by omega, upF, seesF_at hlt] at hr
    simp -implicitDefEqProofs only [h1, map_at hlt, Int.natCast_nonneg, vmp,↓vmd,Env.get,putD,argEnv,List.map,x00,x01,x02,x03,x04,x05,x06,x07,List.take,List.drop,x08,x09,x0a,x0b,List.isEmpty,↓reduceIte,reduceCtorEq,Nat.reduceEqDiff,Nat.reduceAdd,Nat.reduceLeDiff,x0c,Int.reduceNeg,Nat.reduceMul,Nat.reduceSub,x0d,x0e,x0f,x0g,x0h,x0i,x0j,x0k,Int.reduceEq,Int.reduceLT,Int.reduceLE,Int.reduceToNat,Int.cast_ofNat_Int,List.reduceReplicate]
    refine onC_q (skips_q f a b n _ s) rfl ?_
    cases hs : skipsF f b n ls[j].id
    · rw [hs] at hr
      simp only [Bool.not_false, if_true] at hr
      simp -implicitDefEqProofs only [hs, ← hr, vmp,↓vmd,Env.get,putD,argEnv,List.map,x00,x01,x02,x03,x04,x05,x06,x07,List.take,List.drop,x08,x09,x0a,x0b,List.isEmpty,↓reduceIte,reduceCtorEq,Nat.reduceEqDiff,Nat.reduceAdd,Nat.reduceLeDiff,x0c,Int.reduceNeg,Nat.reduceMul,Nat.reduceSub,x0d,x0e,x0f,x0g,x0h,x0i,x0j,x0k,Int.reduceEq,Int.reduceLT,Int.reduceLE,Int.reduceToNat,Int.cast_ofNat_Int,List.reduceReplicate]
    · rw [hs] at hr
      simp only [Bool.not_true, Bool.false_eq_true, if_false] at hr
      simp -implicitDefEqProofs only [hs, vmp,↓vmd,Env.get,putD,argEnv,List.map,x00,x01,x02,x03,x04,x05,x06,x07,List.take,List.drop,x08,x09,x0a,x0b,List.isEmpty,↓reduceIte,reduceCtorEq,Nat.reduceEqDiff,Nat.reduceAdd,Nat.reduceLeDiff,x0c,Int.reduceNeg,Nat.reduceMul,Nat.reduceSub,x0d,x0e,x0f,x0g,x0h,x0i,x0j,x0k,Int.reduceEq,Int.reduceLT,Int.reduceLE,Int.reduceToNat,Int.cast_ofNat_Int,List.reduceReplicate]
      refine onBk_to (j + 1) [0, 1, 2, 3] (by simp) rfl (by omega) ⟨hlt, hr⟩ (by simp -implicitDefEqProofs only [show ((j + 1 : Nat) : Int) - 1 = (j : Int) by omega, kpp,Env.get,x01,x00,x02,x03,List.map,x08,x09,↓reduceIte,reduceCtorEq,Nat.reduceEqDiff,Nat.reduceLeDiff,Nat.reduceLT,Nat.reduceAdd,x0j,x0l,x0m,x0n,x0o,Int.cast_ofNat_Int,x0p,x0i,x07,x06,x0q,x0r,x0s,x0t,x0d,x0u]) (by simp -implicitDefEqProofs only [eyeH_eq, kpp,Env.get,x01,x00,x02,x03,List.map,x08,x09,↓reduceIte,reduceCtorEq,Nat.reduceEqDiff,Nat.reduceLeDiff,Nat.reduceLT,Nat.reduceAdd,x0j,x0l,x0m,x0n,x0o,Int.cast_ofNat_Int,x0p,x0i,x07,x06,x0q,x0r,x0s,x0t,x0d,x0u])
theorem down_c (f : Fo) (a b n : Int) (s : V) (ls : List Gl) (i : Nat) (hi : i ≤ ls.length) (hl : ls.length ≤ 1000) : CallA Try.prog 107 [.pure (I (i : Int)), .ptr 3 0 0, .ptr 2 0 0, .ptr 0 0 0, .ptr 1 0 0] (eyeH f (lkV a b n s) ls (-1))
    fun r H' => r = .pure (I (downF (seesF f b n ls) i)) ∧ H' = eyeH f (lkV a b n s) ls (-1) := by
  refine a107 (by simp) ?_
  unfold c107
  rw [eyeH_eq]
  simp -implicitDefEqProofs only [*, vmp,↓vmd,Env.get,putD,argEnv,List.map,x00,x01,x02,x03,x04,x05,x06,x07,List.take,List.drop,x08,x09,x0a,x0b,List.isEmpty,↓reduceIte,reduceCtorEq,Nat.reduceEqDiff,Nat.reduceAdd,Nat.reduceLeDiff,x0c,Int.reduceNeg,Nat.reduceMul,Nat.reduceSub,x0d,x0e,x0f,x0g,x0h,x0i,x0j,x0k,Int.reduceEq,Int.reduceLT,Int.reduceLE,Int.reduceToNat,Int.cast_ofNat_Int,List.reduceReplicate]
  refine loop_at (T := Nat) (fun j => [(0, .pure (I (j : Int))), (1, .ptr 3 0 0), (2, .ptr 2 0 0), (3, .ptr 0 0 0), (4, .ptr 1 0 0)]) (fun _ => eyeH f (lkV a b n s) ls (-1)) (fun j => j ≤ i ∧ downF (seesF f b n ls) j = downF (seesF f b n ls) i) (fun j => j)
    i [0, 1, 2, 3] (by simp) rfl ⟨Nat.le_refl _, rfl⟩ (by simp -implicitDefEqProofs only [kpp,Env.get,x01,x00,x02,x03,List.map,x08,x09,↓reduceIte,reduceCtorEq,Nat.reduceEqDiff,Nat.reduceLeDiff,Nat.reduceLT,Nat.reduceAdd,x0j,x0l,x0m,x0n,x0o,Int.cast_ofNat_Int,x0p,x0i,x07,x06,x0q,x0r,x0s,x0t,x0d,x0u]) (by simp -implicitDefEqProofs only [eyeH_eq, kpp,Env.get,x01,x00,x02,x03,List.map,x08,x09,↓reduceIte,reduceCtorEq,Nat.reduceEqDiff,Nat.reduceLeDiff,Nat.reduceLT,Nat.reduceAdd,x0j,x0l,x0m,x0n,x0o,Int.cast_ofNat_Int,x0p,x0i,x07,x06,x0q,x0r,x0s,x0t,x0d,x0u]) ?_
  rintro j ⟨hj, hr⟩
  rw [eyeH_eq]
  unfold c107_0
  cases j with
  | zero =>
    rw [downF] at hr
    simp -implicitDefEqProofs only [show IntKind.wrap .i64 (((0 : Nat) : Int) + -1) = -1 from rfl, show IntKind.wrap .i64 (0 + -1) = -1 from rfl, ← hr, vmp,↓vmd,Env.get,putD,argEnv,List.map,x00,x01,x02,x03,x04,x05,x06,x07,List.take,List.drop,x08,x09,x0a,x0b,List.isEmpty,↓reduceIte,reduceCtorEq,Nat.reduceEqDiff,Nat.reduceAdd,Nat.reduceLeDiff,x0c,Int.reduceNeg,Nat.reduceMul,Nat.reduceSub,x0d,x0e,x0f,x0g,x0h,x0i,x0j,x0k,Int.reduceEq,Int.reduceLT,Int.reduceLE,Int.reduceToNat,Int.cast_ofNat_Int,List.reduceReplicate]
  | succ j =>
    have hlt : j < ls.length := by omega
    have hw : IntKind.wrap .i64 (((j + 1 : Nat) : Int) + -1) = (j : Int) := by rw [wrap_id (by omega) (by omega)]; omega
    rw [downF, seesF_at hlt] at hr
    simp -implicitDefEqProofs only [hw, show ¬ ((j : Int) < 0) by omega, vmp,↓vmd,Env.get,putD,argEnv,List.map,x00,x01,x02,x03,x04,x05,x06,x07,List.take,List.drop,x08,x09,x0a,x0b,List.isEmpty,↓reduceIte,reduceCtorEq,Nat.reduceEqDiff,Nat.reduceAdd,Nat.reduceLeDiff,x0c,Int.reduceNeg,Nat.reduceMul,Nat.reduceSub,x0d,x0e,x0f,x0g,x0h,x0i,x0j,x0k,Int.reduceEq,Int.reduceLT,Int.reduceLE,Int.reduceToNat,Int.cast_ofNat_Int,List.reduceReplicate]
    refine onIf_intro fun _ => ?_
    simp -implicitDefEqProofs only [show ¬ ((ls.length : Int) ≤ (j : Int)) by omega, show (j : Int) < (ls.length : Int) by omega, map_at hlt, Int.natCast_nonneg, vmp,↓vmd,Env.get,putD,argEnv,List.map,x00,x01,x02,x03,x04,x05,x06,x07,List.take,List.drop,x08,x09,x0a,x0b,List.isEmpty,↓reduceIte,reduceCtorEq,Nat.reduceEqDiff,Nat.reduceAdd,Nat.reduceLeDiff,x0c,Int.reduceNeg,Nat.reduceMul,Nat.reduceSub,x0d,x0e,x0f,x0g,x0h,x0i,x0j,x0k,Int.reduceEq,Int.reduceLT,Int.reduceLE,Int.reduceToNat,Int.cast_ofNat_Int,List.reduceReplicate]
    refine onC_q (skips_q f a b n _ s) rfl ?_
    cases hs : skipsF f b n ls[j].id
    · rw [hs] at hr
      simp only [Bool.not_false, if_true] at hr
      simp -implicitDefEqProofs only [hs, ← hr, vmp,↓vmd,Env.get,putD,argEnv,List.map,x00,x01,x02,x03,x04,x05,x06,x07,List.take,List.drop,x08,x09,x0a,x0b,List.isEmpty,↓reduceIte,reduceCtorEq,Nat.reduceEqDiff,Nat.reduceAdd,Nat.reduceLeDiff,x0c,Int.reduceNeg,Nat.reduceMul,Nat.reduceSub,x0d,x0e,x0f,x0g,x0h,x0i,x0j,x0k,Int.reduceEq,Int.reduceLT,Int.reduceLE,Int.reduceToNat,Int.cast_ofNat_Int,List.reduceReplicate]
    · rw [hs] at hr
      simp only [Bool.not_true, Bool.false_eq_true, if_false] at hr
      simp -implicitDefEqProofs only [hs, vmp,↓vmd,Env.get,putD,argEnv,List.map,x00,x01,x02,x03,x04,x05,x06,x07,List.take,List.drop,x08,x09,x0a,x0b,List.isEmpty,↓reduceIte,reduceCtorEq,Nat.reduceEqDiff,Nat.reduceAdd,Nat.reduceLeDiff,x0c,Int.reduceNeg,Nat.reduceMul,Nat.reduceSub,x0d,x0e,x0f,x0g,x0h,x0i,x0j,x0k,Int.reduceEq,Int.reduceLT,Int.reduceLE,Int.reduceToNat,Int.cast_ofNat_Int,List.reduceReplicate]
      refine onBk_to j [0, 1, 2, 3] (by simp) rfl (by omega) ⟨by omega, hr⟩ (by simp -implicitDefEqProofs only [kpp,Env.get,x01,x00,x02,x03,List.map,x08,x09,↓reduceIte,reduceCtorEq,Nat.reduceEqDiff,Nat.reduceLeDiff,Nat.reduceLT,Nat.reduceAdd,x0j,x0l,x0m,x0n,x0o,Int.cast_ofNat_Int,x0p,x0i,x07,x06,x0q,x0r,x0s,x0t,x0d,x0u]) (by simp -implicitDefEqProofs only [eyeH_eq, kpp,Env.get,x01,x00,x02,x03,List.map,x08,x09,↓reduceIte,reduceCtorEq,Nat.reduceEqDiff,Nat.reduceLeDiff,Nat.reduceLT,Nat.reduceAdd,x0j,x0l,x0m,x0n,x0o,Int.cast_ofNat_Int,x0p,x0i,x07,x06,x0q,x0r,x0s,x0t,x0d,x0u])
theorem next_q (f : Fo) (a b n : Int) (s : V) (ls : List Gl) (x : Int) (hl : ls.length ≤ 1000) : FnQ Try.prog 61 [fo f, lkV a b n s, .sl (ls.map gl), I x] [I (nextF (seesF f b n ls) ls.length x)] := by
  refine q61 (by simp) ?_
  unfold c61
  simp -implicitDefEqProofs only [*, vmp,↓vmd,Env.get,putD,argEnv,List.map,x00,x01,x02,x03,x04,x05,x06,x07,List.take,List.drop,x08,x09,x0a,x0b,List.isEmpty,↓reduceIte,reduceCtorEq,Nat.reduceEqDiff,Nat.reduceAdd,Nat.reduceLeDiff,x0c,Int.reduceNeg,Nat.reduceMul,Nat.reduceSub,x0d,x0e,x0f,x0g,x0h,x0i,x0j,x0k,Int.reduceEq,Int.reduceLT,Int.reduceLE,Int.reduceToNat,Int.cast_ofNat_Int,List.reduceReplicate]
  refine onIf_intro fun _ => ?_
  simp -implicitDefEqProofs only [*, vmp,↓vmd,Env.get,putD,argEnv,List.map,x00,x01,x02,x03,x04,x05,x06,x07,List.take,List.drop,x08,x09,x0a,x0b,List.isEmpty,↓reduceIte,reduceCtorEq,Nat.reduceEqDiff,Nat.reduceAdd,Nat.reduceLeDiff,x0c,Int.reduceNeg,Nat.reduceMul,Nat.reduceSub,x0d,x0e,x0f,x0g,x0h,x0i,x0j,x0k,Int.reduceEq,Int.reduceLT,Int.reduceLE,Int.reduceToNat,Int.cast_ofNat_Int,List.reduceReplicate]
  by_cases h1 : (ls.length : Int) ≤ x
  · simp -implicitDefEqProofs only [h1, vmp,↓vmd,Env.get,putD,argEnv,List.map,x00,x01,x02,x03,x04,x05,x06,x07,List.take,List.drop,x08,x09,x0a,x0b,List.isEmpty,↓reduceIte,reduceCtorEq,Nat.reduceEqDiff,Nat.reduceAdd,Nat.reduceLeDiff,x0c,Int.reduceNeg,Nat.reduceMul,Nat.reduceSub,x0d,x0e,x0f,x0g,x0h,x0i,x0j,x0k,Int.reduceEq,Int.reduceLT,Int.reduceLE,Int.reduceToNat,Int.cast_ofNat_Int,List.reduceReplicate]
    rw [nextF, if_pos h1]
    exact gives_pure
  rw [nextF, if_neg h1]
  generalize hi : (max x (-1) + 1).toNat = i
  have hx : max x (-1) = (i : Int) - 1 := by omega
  simp -implicitDefEqProofs only [h1, vmp,↓vmd,Env.get,putD,argEnv,List.map,x00,x01,x02,x03,x04,x05,x06,x07,List.take,List.drop,x08,x09,x0a,x0b,List.isEmpty,↓reduceIte,reduceCtorEq,Nat.reduceEqDiff,Nat.reduceAdd,Nat.reduceLeDiff,x0c,Int.reduceNeg,Nat.reduceMul,Nat.reduceSub,x0d,x0e,x0f,x0g,x0h,x0i,x0j,x0k,Int.reduceEq,Int.reduceLT,Int.reduceLE,Int.reduceToNat,Int.cast_ofNat_Int,List.reduceReplicate]
  refine onC_fr (eye_c f a b n s ls 1) [] (by simp) trivial rfl rfl (by simp) ?_
  rw [eyeH_eq]
  simp -implicitDefEqProofs only [hx, vmp,↓vmd,Env.get,putD,argEnv,List.map,x00,x01,x02,x03,x04,x05,x06,x07,List.take,List.drop,x08,x09,x0a,x0b,List.isEmpty,↓reduceIte,reduceCtorEq,Nat.reduceEqDiff,Nat.reduceAdd,Nat.reduceLeDiff,x0c,Int.reduceNeg,Nat.reduceMul,Nat.reduceSub,x0d,x0e,x0f,x0g,x0h,x0i,x0j,x0k,Int.reduceEq,Int.reduceLT,Int.reduceLE,Int.reduceToNat,Int.cast_ofNat_Int,List.reduceReplicate]
  refine onC_fr (up_c f a b n s ls i (by omega) hl) [2, 3, 4, 5] (by simp) (by simp -implicitDefEqProofs only [eyeH_eq, kpp,Env.get,x01,x00,x02,x03,List.map,x08,x09,↓reduceIte,reduceCtorEq,Nat.reduceEqDiff,Nat.reduceLeDiff,Nat.reduceLT,Nat.reduceAdd,x0j,x0l,x0m,x0n,x0o,Int.cast_ofNat_Int,x0p,x0i,x07,x06,x0q,x0r,x0s,x0t,x0d,x0u]) rfl rfl (by simp [eyeH]) ?_
  rw [eyeH_eq]
  simp -implicitDefEqProofs only [vmp,↓vmd,Env.get,putD,argEnv,List.map,x00,x01,x02,x03,x04,x05,x06,x07,List.take,List.drop,x08,x09,x0a,x0b,List.isEmpty,↓reduceIte,reduceCtorEq,Nat.reduceEqDiff,Nat.reduceAdd,Nat.reduceLeDiff,x0c,Int.reduceNeg,Nat.reduceMul,Nat.reduceSub,x0d,x0e,x0f,x0g,x0h,x0i,x0j,x0k,Int.reduceEq,Int.reduceLT,Int.reduceLE,Int.reduceToNat,Int.cast_ofNat_Int,List.reduceReplicate]
  exact gives_pure
theorem prev_q (f : Fo) (a b n : Int) (s : V) (ls : List Gl) (x : Int) (hl : ls.length ≤ 1000) : FnQ Try.prog 63 [fo f, lkV a b n s, .sl (ls.map gl), I x] [I (prevF (seesF f b n ls) ls.length x)] := by
  refine q63 (by simp) ?_
  unfold c63
  simp -implicitDefEqProofs only [*, vmp,↓vmd,Env.get,putD,argEnv,List.map,x00,x01,x02,x03,x04,x05,x06,x07,List.take,List.drop,x08,x09,x0a,x0b,List.isEmpty,↓reduceIte,reduceCtorEq,Nat.reduceEqDiff,Nat.reduceAdd,Nat.reduceLeDiff,x0c,Int.reduceNeg,Nat.reduceMul,Nat.reduceSub,x0d,x0e,x0f,x0g,x0h,x0i,x0j,x0k,Int.reduceEq,Int.reduceLT,Int.reduceLE,Int.reduceToNat,Int.cast_ofNat_Int,List.reduceReplicate]
  by_cases h1 : x < 0
  · simp -implicitDefEqProofs only [h1, vmp,↓vmd,Env.get,putD,argEnv,List.map,x00,x01,x02,x03,x04,x05,x06,x07,List.take,List.drop,x08,x09,x0a,x0b,List.isEmpty,↓reduceIte,reduceCtorEq,Nat.reduceEqDiff,Nat.reduceAdd,Nat.reduceLeDiff,x0c,Int.reduceNeg,Nat.reduceMul,Nat.reduceSub,x0d,x0e,x0f,x0g,x0h,x0i,x0j,x0k,Int.reduceEq,Int.reduceLT,Int.reduceLE,Int.reduceToNat,Int.cast_ofNat_Int,List.reduceReplicate]
    rw [prevF, if_pos h1]
    exact gives_pure
  rw [prevF, if_neg h1]
  generalize hi : (min x ls.length).toNat = i
  have hx : min x (ls.length : Int) = (i : Int) := by omega
  simp -implicitDefEqProofs only [h1, vmp,↓vmd,Env.get,putD,argEnv,List.map,x00,x01,x02,x03,x04,x05,x06,x07,List.take,List.drop,x08,x09,x0a,x0b,List.isEmpty,↓reduceIte,reduceCtorEq,Nat.reduceEqDiff,Nat.reduceAdd,Nat.reduceLeDiff,x0c,Int.reduceNeg,Nat.reduceMul,Nat.reduceSub,x0d,x0e,x0f,x0g,x0h,x0i,x0j,x0k,Int.reduceEq,Int.reduceLT,Int.reduceLE,Int.reduceToNat,Int.cast_ofNat_Int,List.reduceReplicate]
  refine onC_fr (eye_c f a b n s ls (-1)) [] (by simp) trivial rfl rfl (by simp) ?_
  rw [eyeH_eq]
  simp -implicitDefEqProofs only [vmp,↓vmd,Env.get,putD,argEnv,List.map,x00,x01,x02,x03,x04,x05,x06,x07,List.take,List.drop,x08,x09,x0a,x0b,List.isEmpty,↓reduceIte,reduceCtorEq,Nat.reduceEqDiff,Nat.reduceAdd,Nat.reduceLeDiff,x0c,Int.reduceNeg,Nat.reduceMul,Nat.reduceSub,x0d,x0e,x0f,x0g,x0h,x0i,x0j,x0k,Int.reduceEq,Int.reduceLT,Int.reduceLE,Int.reduceToNat,Int.cast_ofNat_Int,List.reduceReplicate]
  refine onIf_intro fun _ => ?_
  simp -implicitDefEqProofs only [hx, vmp,↓vmd,Env.get,putD,argEnv,List.map,x00,x01,x02,x03,x04,x05,x06,x07,List.take,List.drop,x08,x09,x0a,x0b,List.isEmpty,↓reduceIte,reduceCtorEq,Nat.reduceEqDiff,Nat.reduceAdd,Nat.reduceLeDiff,x0c,Int.reduceNeg,Nat.reduceMul,Nat.reduceSub,x0d,x0e,x0f,x0g,x0h,x0i,x0j,x0k,Int.reduceEq,Int.reduceLT,Int.reduceLE,Int.reduceToNat,Int.cast_ofNat_Int,List.reduceReplicate]
  refine onC_fr (down_c f a b n s ls i (by omega) hl) [2, 3, 4, 5] (by simp) (by simp -implicitDefEqProofs only [eyeH_eq, kpp,Env.get,x01,x00,x02,x03,List.map,x08,x09,↓reduceIte,reduceCtorEq,Nat.reduceEqDiff,Nat.reduceLeDiff,Nat.reduceLT,Nat.reduceAdd,x0j,x0l,x0m,x0n,x0o,Int.cast_ofNat_Int,x0p,x0i,x07,x06,x0q,x0r,x0s,x0t,x0d,x0u]) rfl rfl (by simp [eyeH]) ?_
  rw [eyeH_eq]
  simp -implicitDefEqProofs only [vmp,↓vmd,Env.get,putD,argEnv,List.map,x00,x01,x02,x03,x04,x05,x06,x07,List.take,List.drop,x08,x09,x0a,x0b,List.isEmpty,↓reduceIte,reduceCtorEq,Nat.reduceEqDiff,Nat.reduceAdd,Nat.reduceLeDiff,x0c,Int.reduceNeg,Nat.reduceMul,Nat.reduceSub,x0d,x0e,x0f,x0g,x0h,x0i,x0j,x0k,Int.reduceEq,Int.reduceLT,Int.reduceLE,Int.reduceToNat,Int.cast_ofNat_Int,List.reduceReplicate]
  exact gives_pure
theorem rnext_q (f : Fo) (a b n : Int) (s : V) (ls : List Gl) (x : Int) (hl : ls.length ≤ 1000) : FnQ Try.prog 62 [fo f, lkV a b n s, .sl (ls.map gl), I x] [I (nextF (seesF f b n ls) ls.length x)] := by
  refine q62 (by simp) ?_
  unfold c62
  simp -implicitDefEqProofs only [*, vmp,↓vmd,Env.get,putD,argEnv,List.map,x00,x01,x02,x03,x04,x05,x06,x07,List.take,List.drop,x08,x09,x0a,x0b,List.isEmpty,↓reduceIte,reduceCtorEq,Nat.reduceEqDiff,Nat.reduceAdd,Nat.reduceLeDiff,x0c,Int.reduceNeg,Nat.reduceMul,Nat.reduceSub,x0d,x0e,x0f,x0g,x0h,x0i,x0j,x0k,Int.reduceEq,Int.reduceLT,Int.reduceLE,Int.reduceToNat,Int.cast_ofNat_Int,List.reduceReplicate]
  by_cases h1 : (ls.length : Int) ≤ x
  · rw [nextF, if_pos h1]
    refine loop_at (T := Unit) (fun _ => [(9, .pure (I (IntKind.wrap .i64 (max x (-1) + 1)))), (2, .pure (.sl (ls.map gl))), (3, .pure (I x))]) (fun _ => []) (fun _ => True) (fun _ => 0)
      () [] (by simp) rfl trivial (by simp -implicitDefEqProofs only [kpp,Env.get,x01,x00,x02,x03,List.map,x08,x09,↓reduceIte,reduceCtorEq,Nat.reduceEqDiff,Nat.reduceLeDiff,Nat.reduceLT,Nat.reduceAdd,x0j,x0l,x0m,x0n,x0o,Int.cast_ofNat_Int,x0p,x0i,x07,x06,x0q,x0r,x0s,x0t,x0d,x0u]) (by simp -implicitDefEqProofs only [kpp,Env.get,x01,x00,x02,x03,List.map,x08,x09,↓reduceIte,reduceCtorEq,Nat.reduceEqDiff,Nat.reduceLeDiff,Nat.reduceLT,Nat.reduceAdd,x0j,x0l,x0m,x0n,x0o,Int.cast_ofNat_Int,x0p,x0i,x07,x06,x0q,x0r,x0s,x0t,x0d,x0u]) ?_
    intro _ _
    unfold c62_1
    simp -implicitDefEqProofs only [vmp,↓vmd,Env.get,putD,argEnv,List.map,x00,x01,x02,x03,x04,x05,x06,x07,List.take,List.drop,x08,x09,x0a,x0b,List.isEmpty,↓reduceIte,reduceCtorEq,Nat.reduceEqDiff,Nat.reduceAdd,Nat.reduceLeDiff,x0c,Int.reduceNeg,Nat.reduceMul,Nat.reduceSub,x0d,x0e,x0f,x0g,x0h,x0i,x0j,x0k,Int.reduceEq,Int.reduceLT,Int.reduceLE,Int.reduceToNat,Int.cast_ofNat_Int,List.reduceReplicate]
    refine onIf_intro fun _ => ?_
    simp -implicitDefEqProofs only [vmp,↓vmd,Env.get,putD,argEnv,List.map,x00,x01,x02,x03,x04,x05,x06,x07,List.take,List.drop,x08,x09,x0a,x0b,List.isEmpty,↓reduceIte,reduceCtorEq,Nat.reduceEqDiff,Nat.reduceAdd,Nat.reduceLeDiff,x0c,Int.reduceNeg,Nat.reduceMul,Nat.reduceSub,x0d,x0e,x0f,x0g,x0h,x0i,x0j,x0k,Int.reduceEq,Int.reduceLT,Int.reduceLE,Int.reduceToNat,Int.cast_ofNat_Int,List.reduceReplicate]
    refine onB_dec (fun h2 => ?_) (fun h2 => ?_)
    · simp -implicitDefEqProofs only [h2, vmp,↓vmd,Env.get,putD,argEnv,List.map,x00,x01,x02,x03,x04,x05,x06,x07,List.take,List.drop,x08,x09,x0a,x0b,List.isEmpty,↓reduceIte,reduceCtorEq,Nat.reduceEqDiff,Nat.reduceAdd,Nat.reduceLeDiff,x0c,Int.reduceNeg,Nat.reduceMul,Nat.reduceSub,x0d,x0e,x0f,x0g,x0h,x0i,x0j,x0k,Int.reduceEq,Int.reduceLT,Int.reduceLE,Int.reduceToNat,Int.cast_ofNat_Int,List.reduceReplicate]
      refine onIf_intro fun _ => ?_
      simp -implicitDefEqProofs only [h2, show ¬ x < (ls.length : Int) by omega, vmp,↓vmd,Env.get,putD,argEnv,List.map,x00,x01,x02,x03,x04,x05,x06,x07,List.take,List.drop,x08,x09,x0a,x0b,List.isEmpty,↓reduceIte,reduceCtorEq,Nat.reduceEqDiff,Nat.reduceAdd,Nat.reduceLeDiff,x0c,Int.reduceNeg,Nat.reduceMul,Nat.reduceSub,x0d,x0e,x0f,x0g,x0h,x0i,x0j,x0k,Int.reduceEq,Int.reduceLT,Int.reduceLE,Int.reduceToNat,Int.cast_ofNat_Int,List.reduceReplicate]
      unfold c62_0
      simp -implicitDefEqProofs only [vmp,↓vmd,Env.get,putD,argEnv,List.map,x00,x01,x02,x03,x04,x05,x06,x07,List.take,List.drop,x08,x09,x0a,x0b,List.isEmpty,↓reduceIte,reduceCtorEq,Nat.reduceEqDiff,Nat.reduceAdd,Nat.reduceLeDiff,x0c,Int.reduceNeg,Nat.reduceMul,Nat.reduceSub,x0d,x0e,x0f,x0g,x0h,x0i,x0j,x0k,Int.reduceEq,Int.reduceLT,Int.reduceLE,Int.reduceToNat,Int.cast_ofNat_Int,List.reduceReplicate]
      exact gives_pure
    · simp -implicitDefEqProofs only [h2, vmp,↓vmd,Env.get,putD,argEnv,List.map,x00,x01,x02,x03,x04,x05,x06,x07,List.take,List.drop,x08,x09,x0a,x0b,List.isEmpty,↓reduceIte,reduceCtorEq,Nat.reduceEqDiff,Nat.reduceAdd,Nat.reduceLeDiff,x0c,Int.reduceNeg,Nat.reduceMul,Nat.reduceSub,x0d,x0e,x0f,x0g,x0h,x0i,x0j,x0k,Int.reduceEq,Int.reduceLT,Int.reduceLE,Int.reduceToNat,Int.cast_ofNat_Int,List.reduceReplicate]
      unfold c62_0
      simp -implicitDefEqProofs only [vmp,↓vmd,Env.get,putD,argEnv,List.map,x00,x01,x02,x03,x04,x05,x06,x07,List.take,List.drop,x08,x09,x0a,x0b,List.isEmpty,↓reduceIte,reduceCtorEq,Nat.reduceEqDiff,Nat.reduceAdd,Nat.reduceLeDiff,x0c,Int.reduceNeg,Nat.reduceMul,Nat.reduceSub,x0d,x0e,x0f,x0g,x0h,x0i,x0j,x0k,Int.reduceEq,Int.reduceLT,Int.reduceLE,Int.reduceToNat,Int.cast_ofNat_Int,List.reduceReplicate]
      exact gives_pure
  rw [nextF, if_neg h1]
  generalize hi : (max x (-1) + 1).toNat = i
  have hx : IntKind.wrap .i64 (max x (-1) + 1) = (i : Int) := by rw [wrap_id (by omega) (by omega)]; omega
  rw [hx]
  refine loop_at (T := Nat) (fun j => [(9, .pure (I (j : Int))), (2, .pure (.sl (ls.map gl))), (3, .pure (I x)), (4, .ptr 0 0 0), (5, .ptr 1 0 0)]) (fun _ => [⟨[.pure (fo f)], 6, .live⟩, ⟨[.pure (lkV a b n s)], 4, .live⟩]) (fun j => j ≤ ls.length ∧ upF (seesF f b n ls) (ls.length - j) j = upF (seesF f b n ls) (ls.length - i) i) (fun j => ls.length - j)
    i [0, 1] (by simp) rfl ⟨by omega, rfl⟩ (by simp -implicitDefEqProofs only [kpp,Env.get,x01,x00,x02,x03,List.map,x08,x09,↓reduceIte,reduceCtorEq,Nat.reduceEqDiff,Nat.reduceLeDiff,Nat.reduceLT,Nat.reduceAdd,x0j,x0l,x0m,x0n,x0o,Int.cast_ofNat_Int,x0p,x0i,x07,x06,x0q,x0r,x0s,x0t,x0d,x0u]) (by simp -implicitDefEqProofs only [kpp,Env.get,x01,x00,x02,x03,List.map,x08,x09,↓reduceIte,reduceCtorEq,Nat.reduceEqDiff,Nat.reduceLeDiff,Nat.reduceLT,Nat.reduceAdd,x0j,x0l,x0m,x0n,x0o,Int.cast_ofNat_Int,x0p,x0i,x07,x06,x0q,x0r,x0s,x0t,x0d,x0u]) ?_
  rintro j ⟨hj, hr⟩
  unfold c62_1
  simp -implicitDefEqProofs only [vmp,↓vmd,Env.get,putD,argEnv,List.map,x00,x01,x02,x03,x04,x05,x06,x07,List.take,List.drop,x08,x09,x0a,x0b,List.isEmpty,↓reduceIte,reduceCtorEq,Nat.reduceEqDiff,Nat.reduceAdd,Nat.reduceLeDiff,x0c,Int.reduceNeg,Nat.reduceMul,Nat.reduceSub,x0d,x0e,x0f,x0g,x0h,x0i,x0j,x0k,Int.reduceEq,Int.reduceLT,Int.reduceLE,Int.reduceToNat,Int.cast_ofNat_Int,List.reduceReplicate]
  refine onIf_intro fun _ => ?_
  simp -implicitDefEqProofs only [vmp,↓vmd,Env.get,putD,argEnv,List.map,x00,x01,x02,x03,x04,x05,x06,x07,List.take,List.drop,x08,x09,x0a,x0b,List.isEmpty,↓reduceIte,reduceCtorEq,Nat.reduceEqDiff,Nat.reduceAdd,Nat.reduceLeDiff,x0c,Int.reduceNeg,Nat.reduceMul,Nat.reduceSub,x0d,x0e,x0f,x0g,x0h,x0i,x0j,x0k,Int.reduceEq,Int.reduceLT,Int.reduceLE,Int.reduceToNat,Int.cast_ofNat_Int,List.reduceReplicate]
  by_cases h2 : (j : Int) < (ls.length : Int)
  · have hlt : j < ls.length := by omega
    rw [show ls.length - j = (ls.length - (j + 1)) + 1 by omega, upF, seesF_at hlt] at hr
    simp -implicitDefEqProofs only [h2, vmp,↓vmd,Env.get,putD,argEnv,List.map,x00,x01,x02,x03,x04,x05,x06,x07,List.take,List.drop,x08,x09,x0a,x0b,List.isEmpty,↓reduceIte,reduceCtorEq,Nat.reduceEqDiff,Nat.reduceAdd,Nat.reduceLeDiff,x0c,Int.reduceNeg,Nat.reduceMul,Nat.reduceSub,x0d,x0e,x0f,x0g,x0h,x0i,x0j,x0k,Int.reduceEq,Int.reduceLT,Int.reduceLE,Int.reduceToNat,Int.cast_ofNat_Int,List.reduceReplicate]
    refine onIf_intro fun _ => ?_
    simp -implicitDefEqProofs only [h2, show x < (ls.length : Int) by omega, map_at hlt, Int.natCast_nonneg, vmp,↓vmd,Env.get,putD,argEnv,List.map,x00,x01,x02,x03,x04,x05,x06,x07,List.take,List.drop,x08,x09,x0a,x0b,List.isEmpty,↓reduceIte,reduceCtorEq,Nat.reduceEqDiff,Nat.reduceAdd,Nat.reduceLeDiff,x0c,Int.reduceNeg,Nat.reduceMul,Nat.reduceSub,x0d,x0e,x0f,x0g,x0h,x0i,x0j,x0k,Int.reduceEq,Int.reduceLT,Int.reduceLE,Int.reduceToNat,Int.cast_ofNat_Int,List.reduceReplicate]
    refine onC_q (rskips_q f a b n _ s) rfl ?_
    cases hs : skipsF f b n ls[j].id
    · rw [hs] at hr
      simp only [Bool.not_false, if_true] at hr
      simp -implicitDefEqProofs only [hs, vmp,↓vmd,Env.get,putD,argEnv,List.map,x00,x01,x02,x03,x04,x05,x06,x07,List.take,List.drop,x08,x09,x0a,x0b,List.isEmpty,↓reduceIte,reduceCtorEq,Nat.reduceEqDiff,Nat.reduceAdd,Nat.reduceLeDiff,x0c,Int.reduceNeg,Nat.reduceMul,Nat.reduceSub,x0d,x0e,x0f,x0g,x0h,x0i,x0j,x0k,Int.reduceEq,Int.reduceLT,Int.reduceLE,Int.reduceToNat,Int.cast_ofNat_Int,List.reduceReplicate]
      rw [← hr]
      exact gives_pure
    · rw [hs] at hr
      simp only [Bool.not_true, Bool.false_eq_true, if_false] at hr
      simp -implicitDefEqProofs only [hs, vmp,↓vmd,Env.get,putD,argEnv,List.map,x00,x01,x02,x03,x04,x05,x06,x07,List.take,List.drop,x08,x09,x0a,x0b,List.isEmpty,↓reduceIte,reduceCtorEq,Nat.reduceEqDiff,Nat.reduceAdd,Nat.reduceLeDiff,x0c,Int.reduceNeg,Nat.reduceMul,Nat.reduceSub,x0d,x0e,x0f,x0g,x0h,x0i,x0j,x0k,Int.reduceEq,Int.reduceLT,Int.reduceLE,Int.reduceToNat,Int.cast_ofNat_Int,List.reduceReplicate]
      refine onBk_to (j + 1) [0, 1] (by simp) rfl (by omega) ⟨hlt, hr⟩ (by simp -implicitDefEqProofs only [next_at hlt (by omega), kpp,Env.get,x01,x00,x02,x03,List.map,x08,x09,↓reduceIte,reduceCtorEq,Nat.reduceEqDiff,Nat.reduceLeDiff,Nat.reduceLT,Nat.reduceAdd,x0j,x0l,x0m,x0n,x0o,Int.cast_ofNat_Int,x0p,x0i,x07,x06,x0q,x0r,x0s,x0t,x0d,x0u]) (by simp -implicitDefEqProofs only [kpp,Env.get,x01,x00,x02,x03,List.map,x08,x09,↓reduceIte,reduceCtorEq,Nat.reduceEqDiff,Nat.reduceLeDiff,Nat.reduceLT,Nat.reduceAdd,x0j,x0l,x0m,x0n,x0o,Int.cast_ofNat_Int,x0p,x0i,x07,x06,x0q,x0r,x0s,x0t,x0d,x0u])
  · rw [show ls.length - j = 0 by omega, upF] at hr
    simp -implicitDefEqProofs only [h2, vmp,↓vmd,Env.get,putD,argEnv,List.map,x00,x01,x02,x03,x04,x05,x06,x07,List.take,List.drop,x08,x09,x0a,x0b,List.isEmpty,↓reduceIte,reduceCtorEq,Nat.reduceEqDiff,Nat.reduceAdd,Nat.reduceLeDiff,x0c,Int.reduceNeg,Nat.reduceMul,Nat.reduceSub,x0d,x0e,x0f,x0g,x0h,x0i,x0j,x0k,Int.reduceEq,Int.reduceLT,Int.reduceLE,Int.reduceToNat,Int.cast_ofNat_Int,List.reduceReplicate]
    unfold c62_0
    simp -implicitDefEqProofs only [vmp,↓vmd,Env.get,putD,argEnv,List.map,x00,x01,x02,x03,x04,x05,x06,x07,List.take,List.drop,x08,x09,x0a,x0b,List.isEmpty,↓reduceIte,reduceCtorEq,Nat.reduceEqDiff,Nat.reduceAdd,Nat.reduceLeDiff,x0c,Int.reduceNeg,Nat.reduceMul,Nat.reduceSub,x0d,x0e,x0f,x0g,x0h,x0i,x0j,x0k,Int.reduceEq,Int.reduceLT,Int.reduceLE,Int.reduceToNat,Int.cast_ofNat_Int,List.reduceReplicate]
    rw [← hr]
    exact gives_pure
theorem rprev_q (f : Fo) (a b n : Int) (s : V) (ls : List Gl) (x : Int) (hl : ls.length ≤ 1000) : FnQ Try.prog 64 [fo f, lkV a b n s, .sl (ls.map gl), I x] [I (prevF (seesF f b n ls) ls.length x)] := by
  refine q64 (by simp) ?_
  unfold c64
  simp -implicitDefEqProofs only [*, vmp,↓vmd,Env.get,putD,argEnv,List.map,x00,x01,x02,x03,x04,x05,x06,x07,List.take,List.drop,x08,x09,x0a,x0b,List.isEmpty,↓reduceIte,reduceCtorEq,Nat.reduceEqDiff,Nat.reduceAdd,Nat.reduceLeDiff,x0c,Int.reduceNeg,Nat.reduceMul,Nat.reduceSub,x0d,x0e,x0f,x0g,x0h,x0i,x0j,x0k,Int.reduceEq,Int.reduceLT,Int.reduceLE,Int.reduceToNat,Int.cast_ofNat_Int,List.reduceReplicate]
  refine onIf_intro fun _ => ?_
  simp -implicitDefEqProofs only [*, vmp,↓vmd,Env.get,putD,argEnv,List.map,x00,x01,x02,x03,x04,x05,x06,x07,List.take,List.drop,x08,x09,x0a,x0b,List.isEmpty,↓reduceIte,reduceCtorEq,Nat.reduceEqDiff,Nat.reduceAdd,Nat.reduceLeDiff,x0c,Int.reduceNeg,Nat.reduceMul,Nat.reduceSub,x0d,x0e,x0f,x0g,x0h,x0i,x0j,x0k,Int.reduceEq,Int.reduceLT,Int.reduceLE,Int.reduceToNat,Int.cast_ofNat_Int,List.reduceReplicate]
  by_cases h1 : x ≤ 0
  · rw [show prevF (seesF f b n ls) ls.length x = -1 by
      rw [prevF]
      split
      · rfl
      · rw [show (min x (ls.length : Int)).toNat = 0 by omega]; rfl]
    refine loop_at (T := Unit) (fun _ => [(9, .pure (I (IntKind.wrap .i64 (min x ls.length - 1)))), (2, .pure (.sl (ls.map gl))), (3, .pure (I x))]) (fun _ => []) (fun _ => True) (fun _ => 0)
      () [] (by simp) rfl trivial (by simp -implicitDefEqProofs only [kpp,Env.get,x01,x00,x02,x03,List.map,x08,x09,↓reduceIte,reduceCtorEq,Nat.reduceEqDiff,Nat.reduceLeDiff,Nat.reduceLT,Nat.reduceAdd,x0j,x0l,x0m,x0n,x0o,Int.cast_ofNat_Int,x0p,x0i,x07,x06,x0q,x0r,x0s,x0t,x0d,x0u]) (by simp -implicitDefEqProofs only [kpp,Env.get,x01,x00,x02,x03,List.map,x08,x09,↓reduceIte,reduceCtorEq,Nat.reduceEqDiff,Nat.reduceLeDiff,Nat.reduceLT,Nat.reduceAdd,x0j,x0l,x0m,x0n,x0o,Int.cast_ofNat_Int,x0p,x0i,x07,x06,x0q,x0r,x0s,x0t,x0d,x0u]) ?_
    intro _ _
    unfold c64_1
    simp -implicitDefEqProofs only [vmp,↓vmd,Env.get,putD,argEnv,List.map,x00,x01,x02,x03,x04,x05,x06,x07,List.take,List.drop,x08,x09,x0a,x0b,List.isEmpty,↓reduceIte,reduceCtorEq,Nat.reduceEqDiff,Nat.reduceAdd,Nat.reduceLeDiff,x0c,Int.reduceNeg,Nat.reduceMul,Nat.reduceSub,x0d,x0e,x0f,x0g,x0h,x0i,x0j,x0k,Int.reduceEq,Int.reduceLT,Int.reduceLE,Int.reduceToNat,Int.cast_ofNat_Int,List.reduceReplicate]
    refine onB_dec (fun h2 => ?_) (fun h2 => ?_)
    · simp -implicitDefEqProofs only [h2, show ¬ 0 < x by omega, vmp,↓vmd,Env.get,putD,argEnv,List.map,x00,x01,x02,x03,x04,x05,x06,x07,List.take,List.drop,x08,x09,x0a,x0b,List.isEmpty,↓reduceIte,reduceCtorEq,Nat.reduceEqDiff,Nat.reduceAdd,Nat.reduceLeDiff,x0c,Int.reduceNeg,Nat.reduceMul,Nat.reduceSub,x0d,x0e,x0f,x0g,x0h,x0i,x0j,x0k,Int.reduceEq,Int.reduceLT,Int.reduceLE,Int.reduceToNat,Int.cast_ofNat_Int,List.reduceReplicate]
      unfold c64_0
      simp -implicitDefEqProofs only [vmp,↓vmd,Env.get,putD,argEnv,List.map,x00,x01,x02,x03,x04,x05,x06,x07,List.take,List.drop,x08,x09,x0a,x0b,List.isEmpty,↓reduceIte,reduceCtorEq,Nat.reduceEqDiff,Nat.reduceAdd,Nat.reduceLeDiff,x0c,Int.reduceNeg,Nat.reduceMul,Nat.reduceSub,x0d,x0e,x0f,x0g,x0h,x0i,x0j,x0k,Int.reduceEq,Int.reduceLT,Int.reduceLE,Int.reduceToNat,Int.cast_ofNat_Int,List.reduceReplicate]
      exact gives_pure
    · simp -implicitDefEqProofs only [h2, vmp,↓vmd,Env.get,putD,argEnv,List.map,x00,x01,x02,x03,x04,x05,x06,x07,List.take,List.drop,x08,x09,x0a,x0b,List.isEmpty,↓reduceIte,reduceCtorEq,Nat.reduceEqDiff,Nat.reduceAdd,Nat.reduceLeDiff,x0c,Int.reduceNeg,Nat.reduceMul,Nat.reduceSub,x0d,x0e,x0f,x0g,x0h,x0i,x0j,x0k,Int.reduceEq,Int.reduceLT,Int.reduceLE,Int.reduceToNat,Int.cast_ofNat_Int,List.reduceReplicate]
      unfold c64_0
      simp -implicitDefEqProofs only [vmp,↓vmd,Env.get,putD,argEnv,List.map,x00,x01,x02,x03,x04,x05,x06,x07,List.take,List.drop,x08,x09,x0a,x0b,List.isEmpty,↓reduceIte,reduceCtorEq,Nat.reduceEqDiff,Nat.reduceAdd,Nat.reduceLeDiff,x0c,Int.reduceNeg,Nat.reduceMul,Nat.reduceSub,x0d,x0e,x0f,x0g,x0h,x0i,x0j,x0k,Int.reduceEq,Int.reduceLT,Int.reduceLE,Int.reduceToNat,Int.cast_ofNat_Int,List.reduceReplicate]
      exact gives_pure
  rw [prevF, if_neg (by omega)]
  generalize hi : (min x ls.length).toNat = i
  have hx : IntKind.wrap .i64 (min x (ls.length : Int) - 1) = (i : Int) - 1 := by rw [wrap_id (by omega) (by omega)]; omega
  rw [hx]
  refine loop_at (T := Nat) (fun j => [(9, .pure (I ((j : Int) - 1))), (2, .pure (.sl (ls.map gl))), (3, .pure (I x)), (4, .ptr 0 0 0), (5, .ptr 1 0 0)]) (fun _ => [⟨[.pure (fo f)], 6, .live⟩, ⟨[.pure (lkV a b n s)], 4, .live⟩]) (fun j => j ≤ i ∧ downF (seesF f b n ls) j = downF (seesF f b n ls) i) (fun j => j)
    i [0, 1] (by simp) rfl ⟨Nat.le_refl _, rfl⟩ (by simp -implicitDefEqProofs only [kpp,Env.get,x01,x00,x02,x03,List.map,x08,x09,↓reduceIte,reduceCtorEq,Nat.reduceEqDiff,Nat.reduceLeDiff,Nat.reduceLT,Nat.reduceAdd,x0j,x0l,x0m,x0n,x0o,Int.cast_ofNat_Int,x0p,x0i,x07,x06,x0q,x0r,x0s,x0t,x0d,x0u]) (by simp -implicitDefEqProofs only [kpp,Env.get,x01,x00,x02,x03,List.map,x08,x09,↓reduceIte,reduceCtorEq,Nat.reduceEqDiff,Nat.reduceLeDiff,Nat.reduceLT,Nat.reduceAdd,x0j,x0l,x0m,x0n,x0o,Int.cast_ofNat_Int,x0p,x0i,x07,x06,x0q,x0r,x0s,x0t,x0d,x0u]) ?_
  rintro j ⟨hj, hr⟩
  unfold c64_1
  cases j with
  | zero =>
    rw [downF] at hr
    simp -implicitDefEqProofs only [show ((0 : Nat) : Int) - 1 = -1 from rfl, show (0 : Int) - 1 = -1 from rfl, vmp,↓vmd,Env.get,putD,argEnv,List.map,x00,x01,x02,x03,x04,x05,x06,x07,List.take,List.drop,x08,x09,x0a,x0b,List.isEmpty,↓reduceIte,reduceCtorEq,Nat.reduceEqDiff,Nat.reduceAdd,Nat.reduceLeDiff,x0c,Int.reduceNeg,Nat.reduceMul,Nat.reduceSub,x0d,x0e,x0f,x0g,x0h,x0i,x0j,x0k,Int.reduceEq,Int.reduceLT,Int.reduceLE,Int.reduceToNat,Int.cast_ofNat_Int,List.reduceReplicate]
    unfold c64_0
    simp -implicitDefEqProofs only [vmp,↓vmd,Env.get,putD,argEnv,List.map,x00,x01,x02,x03,x04,x05,x06,x07,List.take,List.drop,x08,x09,x0a,x0b,List.isEmpty,↓reduceIte,reduceCtorEq,Nat.reduceEqDiff,Nat.reduceAdd,Nat.reduceLeDiff,x0c,Int.reduceNeg,Nat.reduceMul,Nat.reduceSub,x0d,x0e,x0f,x0g,x0h,x0i,x0j,x0k,Int.reduceEq,Int.reduceLT,Int.reduceLE,Int.reduceToNat,Int.cast_ofNat_Int,List.reduceReplicate]
    rw [← hr]
    exact gives_pure
  | succ j =>
    have hlt : j < ls.length := by omega
    have hj1 : ((j + 1 : Nat) : Int) - 1 = (j : Int) := by omega
    rw [downF, seesF_at hlt] at hr
    simp -implicitDefEqProofs only [hj1, show (0 : Int) ≤ (j : Int) by omega, show 0 < x by omega, map_at hlt, Int.natCast_nonneg, vmp,↓vmd,Env.get,putD,argEnv,List.map,x00,x01,x02,x03,x04,x05,x06,x07,List.take,List.drop,x08,x09,x0a,x0b,List.isEmpty,↓reduceIte,reduceCtorEq,Nat.reduceEqDiff,Nat.reduceAdd,Nat.reduceLeDiff,x0c,Int.reduceNeg,Nat.reduceMul,Nat.reduceSub,x0d,x0e,x0f,x0g,x0h,x0i,x0j,x0k,Int.reduceEq,Int.reduceLT,Int.reduceLE,Int.reduceToNat,Int.cast_ofNat_Int,List.reduceReplicate]
    refine onC_q (rskips_q f a b n _ s) rfl ?_
    cases hs : skipsF f b n ls[j].id
    · rw [hs] at hr
      simp only [Bool.not_false, if_true] at hr
      simp -implicitDefEqProofs only [hs, hj1, vmp,↓vmd,Env.get,putD,argEnv,List.map,x00,x01,x02,x03,x04,x05,x06,x07,List.take,List.drop,x08,x09,x0a,x0b,List.isEmpty,↓reduceIte,reduceCtorEq,Nat.reduceEqDiff,Nat.reduceAdd,Nat.reduceLeDiff,x0c,Int.reduceNeg,Nat.reduceMul,Nat.reduceSub,x0d,x0e,x0f,x0g,x0h,x0i,x0j,x0k,Int.reduceEq,Int.reduceLT,Int.reduceLE,Int.reduceToNat,Int.cast_ofNat_Int,List.reduceReplicate]
      rw [← hr]
      exact gives_pure
    · rw [hs] at hr
      simp only [Bool.not_true, Bool.false_eq_true, if_false] at hr
      have hw : IntKind.wrap .i64 ((j : Int) - 1) = (j : Int) - 1 := by rw [wrap_id (by omega) (by omega)]
      simp -implicitDefEqProofs only [hs, hj1, vmp,↓vmd,Env.get,putD,argEnv,List.map,x00,x01,x02,x03,x04,x05,x06,x07,List.take,List.drop,x08,x09,x0a,x0b,List.isEmpty,↓reduceIte,reduceCtorEq,Nat.reduceEqDiff,Nat.reduceAdd,Nat.reduceLeDiff,x0c,Int.reduceNeg,Nat.reduceMul,Nat.reduceSub,x0d,x0e,x0f,x0g,x0h,x0i,x0j,x0k,Int.reduceEq,Int.reduceLT,Int.reduceLE,Int.reduceToNat,Int.cast_ofNat_Int,List.reduceReplicate]
      refine onBk_to j [0, 1] (by simp) rfl (by omega) ⟨by omega, hr⟩ (by simp -implicitDefEqProofs only [hj1, hw, kpp,Env.get,x01,x00,x02,x03,List.map,x08,x09,↓reduceIte,reduceCtorEq,Nat.reduceEqDiff,Nat.reduceLeDiff,Nat.reduceLT,Nat.reduceAdd,x0j,x0l,x0m,x0n,x0o,Int.cast_ofNat_Int,x0p,x0i,x07,x06,x0q,x0r,x0s,x0t,x0d,x0u]) (by simp -implicitDefEqProofs only [kpp,Env.get,x01,x00,x02,x03,List.map,x08,x09,↓reduceIte,reduceCtorEq,Nat.reduceEqDiff,Nat.reduceLeDiff,Nat.reduceLT,Nat.reduceAdd,x0j,x0l,x0m,x0n,x0o,Int.cast_ofNat_Int,x0p,x0i,x07,x06,x0q,x0r,x0s,x0t,x0d,x0u])
def seenK (p : Nat → Bool) (k : Nat) : List Int := ((List.range k).filter p).map fun i => ((i : Nat) : Int)
theorem seenK_succ {p : Nat → Bool} {k : Nat} : seenK p (k + 1) = if p k = true then seenK p k ++ [(k : Int)] else seenK p k := by
  rw [seenK, seenK, List.range_succ, List.filter_append]
  cases h : p k <;> simp [h]
theorem seenK_len {p : Nat → Bool} {k : Nat} : (seenK p k).length ≤ k := by
  have := List.length_filter_le p (List.range k)
  simpa [seenK] using this
theorem seen_q (f : Fo) (a b n : Int) (s : V) (ls : List Gl) (hl : ls.length ≤ 1000) : FnQ Try.prog 65 [fo f, lkV a b n s, .sl (ls.map gl)] [LI (seenK (seesF f b n ls) ls.length)] := by
  refine q65 (by simp) ?_
  unfold c65
  simp -implicitDefEqProofs only [*, vmp,↓vmd,Env.get,putD,argEnv,List.map,x00,x01,x02,x03,x04,x05,x06,x07,List.take,List.drop,x08,x09,x0a,x0b,List.isEmpty,↓reduceIte,reduceCtorEq,Nat.reduceEqDiff,Nat.reduceAdd,Nat.reduceLeDiff,x0c,Int.reduceNeg,Nat.reduceMul,Nat.reduceSub,x0d,x0e,x0f,x0g,x0h,x0i,x0j,x0k,Int.reduceEq,Int.reduceLT,Int.reduceLE,Int.reduceToNat,Int.cast_ofNat_Int,List.reduceReplicate]
  refine onIf_intro fun hlen => ?_
  simp -implicitDefEqProofs only [*, vmp,↓vmd,Env.get,putD,argEnv,List.map,x00,x01,x02,x03,x04,x05,x06,x07,List.take,List.drop,x08,x09,x0a,x0b,List.isEmpty,↓reduceIte,reduceCtorEq,Nat.reduceEqDiff,Nat.reduceAdd,Nat.reduceLeDiff,x0c,Int.reduceNeg,Nat.reduceMul,Nat.reduceSub,x0d,x0e,x0f,x0g,x0h,x0i,x0j,x0k,Int.reduceEq,Int.reduceLT,Int.reduceLE,Int.reduceToNat,Int.cast_ofNat_Int,List.reduceReplicate]
  refine loop_virt 7 1 rfl (by simp) ?_
  refine loop_at (T := Nat) (fun k => [(12, .pure (I (k : Int))), (11, .pure (I ls.length)), (10, .pure (.sl (ls.map gl))), (3, .ptr 0 0 0), (4, .ptr 1 0 0), (7, .rsl 2 0 (seenK (seesF f b n ls) k).length)])
    (fun k => [⟨[.pure (fo f)], 6, .live⟩, ⟨[.pure (lkV a b n s)], 4, .live⟩, ⟨((seenK (seesF f b n ls) k).map I).map .pure, 1, .live⟩]) (fun k => k ≤ ls.length) (fun k => ls.length - k)
    0 [0, 1, 2] (by simp) rfl (by simp) (by simp -implicitDefEqProofs only [show seenK (seesF f b n ls) 0 = [] from rfl, kpp,Env.get,x01,x00,x02,x03,List.map,x08,x09,↓reduceIte,reduceCtorEq,Nat.reduceEqDiff,Nat.reduceLeDiff,Nat.reduceLT,Nat.reduceAdd,x0j,x0l,x0m,x0n,x0o,Int.cast_ofNat_Int,x0p,x0i,x07,x06,x0q,x0r,x0s,x0t,x0d,x0u]) (by simp -implicitDefEqProofs only [show seenK (seesF f b n ls) 0 = [] from rfl, kpp,Env.get,x01,x00,x02,x03,List.map,x08,x09,↓reduceIte,reduceCtorEq,Nat.reduceEqDiff,Nat.reduceLeDiff,Nat.reduceLT,Nat.reduceAdd,x0j,x0l,x0m,x0n,x0o,Int.cast_ofNat_Int,x0p,x0i,x07,x06,x0q,x0r,x0s,x0t,x0d,x0u]) ?_
  intro k hk
  unfold c65_1
  simp -implicitDefEqProofs only [vmp,↓vmd,Env.get,putD,argEnv,List.map,x00,x01,x02,x03,x04,x05,x06,x07,List.take,List.drop,x08,x09,x0a,x0b,List.isEmpty,↓reduceIte,reduceCtorEq,Nat.reduceEqDiff,Nat.reduceAdd,Nat.reduceLeDiff,x0c,Int.reduceNeg,Nat.reduceMul,Nat.reduceSub,x0d,x0e,x0f,x0g,x0h,x0i,x0j,x0k,Int.reduceEq,Int.reduceLT,Int.reduceLE,Int.reduceToNat,Int.cast_ofNat_Int,List.reduceReplicate]
  refine onB_dec (fun h1 => ?_) (fun h1 => ?_)
  · have hlt : k < ls.length := by omega
    have hs := seenK_succ (p := seesF f b n ls) (k := k)
    have hkl := seenK_len (p := seesF f b n ls) (k := k)
    rw [seesF_at hlt] at hs
    simp -implicitDefEqProofs only [h1, map_at hlt, Int.natCast_nonneg, vmp,↓vmd,Env.get,putD,argEnv,List.map,x00,x01,x02,x03,x04,x05,x06,x07,List.take,List.drop,x08,x09,x0a,x0b,List.isEmpty,↓reduceIte,reduceCtorEq,Nat.reduceEqDiff,Nat.reduceAdd,Nat.reduceLeDiff,x0c,Int.reduceNeg,Nat.reduceMul,Nat.reduceSub,x0d,x0e,x0f,x0g,x0h,x0i,x0j,x0k,Int.reduceEq,Int.reduceLT,Int.reduceLE,Int.reduceToNat,Int.cast_ofNat_Int,List.reduceReplicate]
    refine onC_q (skips_q f a b n _ s) rfl ?_
    cases hc : skipsF f b n ls[k].id
    · rw [hc] at hs
      simp only [Bool.not_false, if_true] at hs
      simp -implicitDefEqProofs only [hc, vmp,↓vmd,Env.get,putD,argEnv,List.map,x00,x01,x02,x03,x04,x05,x06,x07,List.take,List.drop,x08,x09,x0a,x0b,List.isEmpty,↓reduceIte,reduceCtorEq,Nat.reduceEqDiff,Nat.reduceAdd,Nat.reduceLeDiff,x0c,Int.reduceNeg,Nat.reduceMul,Nat.reduceSub,x0d,x0e,x0f,x0g,x0h,x0i,x0j,x0k,Int.reduceEq,Int.reduceLT,Int.reduceLE,Int.reduceToNat,Int.cast_ofNat_Int,List.reduceReplicate]
      refine onIf'_intro (appOk_one rfl rfl (by simp) (by omega) (by simp [maxLen]; omega)) ?_
      simp -implicitDefEqProofs only [vmp,↓vmd,Env.get,putD,argEnv,List.map,x00,x01,x02,x03,x04,x05,x06,x07,List.take,List.drop,x08,x09,x0a,x0b,List.isEmpty,↓reduceIte,reduceCtorEq,Nat.reduceEqDiff,Nat.reduceAdd,Nat.reduceLeDiff,x0c,Int.reduceNeg,Nat.reduceMul,Nat.reduceSub,x0d,x0e,x0f,x0g,x0h,x0i,x0j,x0k,Int.reduceEq,Int.reduceLT,Int.reduceLE,Int.reduceToNat,Int.cast_ofNat_Int,List.reduceReplicate]
      refine onBk_to (k + 1) [0, 1, 5] (by simp) rfl (by omega) hlt (by simp -implicitDefEqProofs only [next_at hlt hlen, hs, kpp,Env.get,x01,x00,x02,x03,List.map,x08,x09,↓reduceIte,reduceCtorEq,Nat.reduceEqDiff,Nat.reduceLeDiff,Nat.reduceLT,Nat.reduceAdd,x0j,x0l,x0m,x0n,x0o,Int.cast_ofNat_Int,x0p,x0i,x07,x06,x0q,x0r,x0s,x0t,x0d,x0u]) (by simp -implicitDefEqProofs only [hs, kpp,Env.get,x01,x00,x02,x03,List.map,x08,x09,↓reduceIte,reduceCtorEq,Nat.reduceEqDiff,Nat.reduceLeDiff,Nat.reduceLT,Nat.reduceAdd,x0j,x0l,x0m,x0n,x0o,Int.cast_ofNat_Int,x0p,x0i,x07,x06,x0q,x0r,x0s,x0t,x0d,x0u])
    · rw [hc] at hs
      simp only [Bool.not_true, Bool.false_eq_true, if_false] at hs
      simp -implicitDefEqProofs only [hc, vmp,↓vmd,Env.get,putD,argEnv,List.map,x00,x01,x02,x03,x04,x05,x06,x07,List.take,List.drop,x08,x09,x0a,x0b,List.isEmpty,↓reduceIte,reduceCtorEq,Nat.reduceEqDiff,Nat.reduceAdd,Nat.reduceLeDiff,x0c,Int.reduceNeg,Nat.reduceMul,Nat.reduceSub,x0d,x0e,x0f,x0g,x0h,x0i,x0j,x0k,Int.reduceEq,Int.reduceLT,Int.reduceLE,Int.reduceToNat,Int.cast_ofNat_Int,List.reduceReplicate]
      refine onBk_to (k + 1) [0, 1, 2] (by simp) rfl (by omega) hlt (by simp -implicitDefEqProofs only [next_at hlt hlen, hs, kpp,Env.get,x01,x00,x02,x03,List.map,x08,x09,↓reduceIte,reduceCtorEq,Nat.reduceEqDiff,Nat.reduceLeDiff,Nat.reduceLT,Nat.reduceAdd,x0j,x0l,x0m,x0n,x0o,Int.cast_ofNat_Int,x0p,x0i,x07,x06,x0q,x0r,x0s,x0t,x0d,x0u]) (by simp -implicitDefEqProofs only [hs, kpp,Env.get,x01,x00,x02,x03,List.map,x08,x09,↓reduceIte,reduceCtorEq,Nat.reduceEqDiff,Nat.reduceLeDiff,Nat.reduceLT,Nat.reduceAdd,x0j,x0l,x0m,x0n,x0o,Int.cast_ofNat_Int,x0p,x0i,x07,x06,x0q,x0r,x0s,x0t,x0d,x0u])
  · simp -implicitDefEqProofs only [h1, vmp,↓vmd,Env.get,putD,argEnv,List.map,x00,x01,x02,x03,x04,x05,x06,x07,List.take,List.drop,x08,x09,x0a,x0b,List.isEmpty,↓reduceIte,reduceCtorEq,Nat.reduceEqDiff,Nat.reduceAdd,Nat.reduceLeDiff,x0c,Int.reduceNeg,Nat.reduceMul,Nat.reduceSub,x0d,x0e,x0f,x0g,x0h,x0i,x0j,x0k,Int.reduceEq,Int.reduceLT,Int.reduceLE,Int.reduceToNat,Int.cast_ofNat_Int,List.reduceReplicate]
    unfold c65_0
    simp -implicitDefEqProofs only [vmp,↓vmd,Env.get,putD,argEnv,List.map,x00,x01,x02,x03,x04,x05,x06,x07,List.take,List.drop,x08,x09,x0a,x0b,List.isEmpty,↓reduceIte,reduceCtorEq,Nat.reduceEqDiff,Nat.reduceAdd,Nat.reduceLeDiff,x0c,Int.reduceNeg,Nat.reduceMul,Nat.reduceSub,x0d,x0e,x0f,x0g,x0h,x0i,x0j,x0k,Int.reduceEq,Int.reduceLT,Int.reduceLE,Int.reduceToNat,Int.cast_ofNat_Int,List.reduceReplicate]
    obtain rfl : k = ls.length := by omega
    exact gives_row rfl (by simp)
theorem rseen_q (f : Fo) (a b n : Int) (s : V) (ls : List Gl) (hl : ls.length ≤ 1000) : FnQ Try.prog 66 [fo f, lkV a b n s, .sl (ls.map gl)] [LI (seenK (seesF f b n ls) ls.length)] := by
  refine q66 (by simp) ?_
  unfold c66
  simp -implicitDefEqProofs only [*, vmp,↓vmd,Env.get,putD,argEnv,List.map,x00,x01,x02,x03,x04,x05,x06,x07,List.take,List.drop,x08,x09,x0a,x0b,List.isEmpty,↓reduceIte,reduceCtorEq,Nat.reduceEqDiff,Nat.reduceAdd,Nat.reduceLeDiff,x0c,Int.reduceNeg,Nat.reduceMul,Nat.reduceSub,x0d,x0e,x0f,x0g,x0h,x0i,x0j,x0k,Int.reduceEq,Int.reduceLT,Int.reduceLE,Int.reduceToNat,Int.cast_ofNat_Int,List.reduceReplicate]
  refine loop_virt 7 1 rfl (by simp) ?_
  refine loop_at (T := Nat) (fun k => [(8, .pure (I (k : Int))), (2, .pure (.sl (ls.map gl))), (3, .ptr 0 0 0), (4, .ptr 1 0 0), (7, .rsl 2 0 (seenK (seesF f b n ls) k).length)])
    (fun k => [⟨[.pure (fo f)], 6, .live⟩, ⟨[.pure (lkV a b n s)], 4, .live⟩, ⟨((seenK (seesF f b n ls) k).map I).map .pure, 1, .live⟩]) (fun k => k ≤ ls.length) (fun k => ls.length - k)
    0 [0, 1, 2] (by simp) rfl (by simp) (by simp -implicitDefEqProofs only [show seenK (seesF f b n ls) 0 = [] from rfl, kpp,Env.get,x01,x00,x02,x03,List.map,x08,x09,↓reduceIte,reduceCtorEq,Nat.reduceEqDiff,Nat.reduceLeDiff,Nat.reduceLT,Nat.reduceAdd,x0j,x0l,x0m,x0n,x0o,Int.cast_ofNat_Int,x0p,x0i,x07,x06,x0q,x0r,x0s,x0t,x0d,x0u]) (by simp -implicitDefEqProofs only [show seenK (seesF f b n ls) 0 = [] from rfl, kpp,Env.get,x01,x00,x02,x03,List.map,x08,x09,↓reduceIte,reduceCtorEq,Nat.reduceEqDiff,Nat.reduceLeDiff,Nat.reduceLT,Nat.reduceAdd,x0j,x0l,x0m,x0n,x0o,Int.cast_ofNat_Int,x0p,x0i,x07,x06,x0q,x0r,x0s,x0t,x0d,x0u]) ?_
  intro k hk
  unfold c66_1
  simp -implicitDefEqProofs only [vmp,↓vmd,Env.get,putD,argEnv,List.map,x00,x01,x02,x03,x04,x05,x06,x07,List.take,List.drop,x08,x09,x0a,x0b,List.isEmpty,↓reduceIte,reduceCtorEq,Nat.reduceEqDiff,Nat.reduceAdd,Nat.reduceLeDiff,x0c,Int.reduceNeg,Nat.reduceMul,Nat.reduceSub,x0d,x0e,x0f,x0g,x0h,x0i,x0j,x0k,Int.reduceEq,Int.reduceLT,Int.reduceLE,Int.reduceToNat,Int.cast_ofNat_Int,List.reduceReplicate]
  refine onIf_intro fun hlen => ?_
  simp -implicitDefEqProofs only [vmp,↓vmd,Env.get,putD,argEnv,List.map,x00,x01,x02,x03,x04,x05,x06,x07,List.take,List.drop,x08,x09,x0a,x0b,List.isEmpty,↓reduceIte,reduceCtorEq,Nat.reduceEqDiff,Nat.reduceAdd,Nat.reduceLeDiff,x0c,Int.reduceNeg,Nat.reduceMul,Nat.reduceSub,x0d,x0e,x0f,x0g,x0h,x0i,x0j,x0k,Int.reduceEq,Int.reduceLT,Int.reduceLE,Int.reduceToNat,Int.cast_ofNat_Int,List.reduceReplicate]
  refine onB_dec (fun h1 => ?_) (fun h1 => ?_)
  · have hlt : k < ls.length := by omega
    have hlen' : ls.length ≤ 9223372036854775807 := by omega
    have hs := seenK_succ (p := seesF f b n ls) (k := k)
    have hkl := seenK_len (p := seesF f b n ls) (k := k)
    rw [seesF_at hlt] at hs
    simp -implicitDefEqProofs only [h1, map_at hlt, Int.natCast_nonneg, vmp,↓vmd,Env.get,putD,argEnv,List.map,x00,x01,x02,x03,x04,x05,x06,x07,List.take,List.drop,x08,x09,x0a,x0b,List.isEmpty,↓reduceIte,reduceCtorEq,Nat.reduceEqDiff,Nat.reduceAdd,Nat.reduceLeDiff,x0c,Int.reduceNeg,Nat.reduceMul,Nat.reduceSub,x0d,x0e,x0f,x0g,x0h,x0i,x0j,x0k,Int.reduceEq,Int.reduceLT,Int.reduceLE,Int.reduceToNat,Int.cast_ofNat_Int,List.reduceReplicate]
    refine onC_q (rskips_q f a b n _ s) rfl ?_
    cases hc : skipsF f b n ls[k].id
    · rw [hc] at hs
      simp only [Bool.not_false, if_true] at hs
      simp -implicitDefEqProofs only [hc, vmp,↓vmd,Env.get,putD,argEnv,List.map,x00,x01,x02,x03,x04,x05,x06,x07,List.take,List.drop,x08,x09,x0a,x0b,List.isEmpty,↓reduceIte,reduceCtorEq,Nat.reduceEqDiff,Nat.reduceAdd,Nat.reduceLeDiff,x0c,Int.reduceNeg,Nat.reduceMul,Nat.reduceSub,x0d,x0e,x0f,x0g,x0h,x0i,x0j,x0k,Int.reduceEq,Int.reduceLT,Int.reduceLE,Int.reduceToNat,Int.cast_ofNat_Int,List.reduceReplicate]
      refine onIf'_intro (appOk_one rfl rfl (by simp) (by omega) (by simp [maxLen]; omega)) ?_
      simp -implicitDefEqProofs only [vmp,↓vmd,Env.get,putD,argEnv,List.map,x00,x01,x02,x03,x04,x05,x06,x07,List.take,List.drop,x08,x09,x0a,x0b,List.isEmpty,↓reduceIte,reduceCtorEq,Nat.reduceEqDiff,Nat.reduceAdd,Nat.reduceLeDiff,x0c,Int.reduceNeg,Nat.reduceMul,Nat.reduceSub,x0d,x0e,x0f,x0g,x0h,x0i,x0j,x0k,Int.reduceEq,Int.reduceLT,Int.reduceLE,Int.reduceToNat,Int.cast_ofNat_Int,List.reduceReplicate]
      refine onBk_to (k + 1) [0, 1, 4] (by simp) rfl (by omega) hlt (by simp -implicitDefEqProofs only [next_at hlt hlen', hs, kpp,Env.get,x01,x00,x02,x03,List.map,x08,x09,↓reduceIte,reduceCtorEq,Nat.reduceEqDiff,Nat.reduceLeDiff,Nat.reduceLT,Nat.reduceAdd,x0j,x0l,x0m,x0n,x0o,Int.cast_ofNat_Int,x0p,x0i,x07,x06,x0q,x0r,x0s,x0t,x0d,x0u]) (by simp -implicitDefEqProofs only [hs, kpp,Env.get,x01,x00,x02,x03,List.map,x08,x09,↓reduceIte,reduceCtorEq,Nat.reduceEqDiff,Nat.reduceLeDiff,Nat.reduceLT,Nat.reduceAdd,x0j,x0l,x0m,x0n,x0o,Int.cast_ofNat_Int,x0p,x0i,x07,x06,x0q,x0r,x0s,x0t,x0d,x0u])
    · rw [hc] at hs
      simp only [Bool.not_true, Bool.false_eq_true, if_false] at hs
      simp -implicitDefEqProofs only [hc, vmp,↓vmd,Env.get,putD,argEnv,List.map,x00,x01,x02,x03,x04,x05,x06,x07,List.take,List.drop,x08,x09,x0a,x0b,List.isEmpty,↓reduceIte,reduceCtorEq,Nat.reduceEqDiff,Nat.reduceAdd,Nat.reduceLeDiff,x0c,Int.reduceNeg,Nat.reduceMul,Nat.reduceSub,x0d,x0e,x0f,x0g,x0h,x0i,x0j,x0k,Int.reduceEq,Int.reduceLT,Int.reduceLE,Int.reduceToNat,Int.cast_ofNat_Int,List.reduceReplicate]
      refine onBk_to (k + 1) [0, 1, 2] (by simp) rfl (by omega) hlt (by simp -implicitDefEqProofs only [next_at hlt hlen', hs, kpp,Env.get,x01,x00,x02,x03,List.map,x08,x09,↓reduceIte,reduceCtorEq,Nat.reduceEqDiff,Nat.reduceLeDiff,Nat.reduceLT,Nat.reduceAdd,x0j,x0l,x0m,x0n,x0o,Int.cast_ofNat_Int,x0p,x0i,x07,x06,x0q,x0r,x0s,x0t,x0d,x0u]) (by simp -implicitDefEqProofs only [hs, kpp,Env.get,x01,x00,x02,x03,List.map,x08,x09,↓reduceIte,reduceCtorEq,Nat.reduceEqDiff,Nat.reduceLeDiff,Nat.reduceLT,Nat.reduceAdd,x0j,x0l,x0m,x0n,x0o,Int.cast_ofNat_Int,x0p,x0i,x07,x06,x0q,x0r,x0s,x0t,x0d,x0u])
  · simp -implicitDefEqProofs only [h1, vmp,↓vmd,Env.get,putD,argEnv,List.map,x00,x01,x02,x03,x04,x05,x06,x07,List.take,List.drop,x08,x09,x0a,x0b,List.isEmpty,↓reduceIte,reduceCtorEq,Nat.reduceEqDiff,Nat.reduceAdd,Nat.reduceLeDiff,x0c,Int.reduceNeg,Nat.reduceMul,Nat.reduceSub,x0d,x0e,x0f,x0g,x0h,x0i,x0j,x0k,Int.reduceEq,Int.reduceLT,Int.reduceLE,Int.reduceToNat,Int.cast_ofNat_Int,List.reduceReplicate]
    unfold c66_0
    simp -implicitDefEqProofs only [vmp,↓vmd,Env.get,putD,argEnv,List.map,x00,x01,x02,x03,x04,x05,x06,x07,List.take,List.drop,x08,x09,x0a,x0b,List.isEmpty,↓reduceIte,reduceCtorEq,Nat.reduceEqDiff,Nat.reduceAdd,Nat.reduceLeDiff,x0c,Int.reduceNeg,Nat.reduceMul,Nat.reduceSub,x0d,x0e,x0f,x0g,x0h,x0i,x0j,x0k,Int.reduceEq,Int.reduceLT,Int.reduceLE,Int.reduceToNat,Int.cast_ofNat_Int,List.reduceReplicate]
    obtain rfl : k = ls.length := by omega
    exact gives_row rfl (by simp)
end Go.Proofs.Ytjgodncjlffhjaa.W
