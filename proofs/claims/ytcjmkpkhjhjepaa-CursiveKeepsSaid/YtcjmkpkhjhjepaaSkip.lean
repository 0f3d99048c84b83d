/-
  Which glyphs a lookup does not see: the program's function and the document's: what each does. No condition.
-/
import Derived.Test.YtcjmkpkhjhjepaaData
namespace Go.Proofs.Ytcjmkpkhjhjepaa.W
open Go Go.Vm Go.Proofs
set_option maxRecDepth 100000
set_option linter.unusedSimpArgs false
set_option maxHeartbeats 1000000
/-! slices.Index[[]int,int] -/
def c61_0 : AC :=
  (.seq (.reg [⟨some 4, none, .mov (.c (.pure (.int .i64 (-1))))⟩])
  .ret)
def c61_1 : AC :=
  (.seq (.reg [⟨some 9, none, .bin .lss (.s 8) (.s 7)⟩])
  (.seq (.cond (.s 9)
  .skip
  (.exit 0))
  (.seq (.block 1
  (.seq (.reg [⟨some 10, none, .mov (.s 8)⟩,
    ⟨some 5, none, .mov (.s 10)⟩])
  (.seq (.reg [⟨some 11, none, .mov (.s 1)⟩,
    ⟨some 12, none, .mov (.s 0)⟩,
    ⟨some 13, none, .mov (.s 5)⟩,
    ⟨some 14, none, .idxA 1 (.s 12) (.s 13)⟩,
    ⟨some 15, none, .load false 1 (.s 14)⟩,
    ⟨some 16, none, .bin .eql (.s 11) (.s 15)⟩])
  (.cond (.s 16)
  (.seq (.reg [⟨some 17, none, .mov (.s 5)⟩,
    ⟨some 4, none, .mov (.s 17)⟩])
  .ret)
  .skip))))
  (.reg [⟨some 18, none, .bin .add (.s 8) (.c (.pure (.int .i64 1)))⟩,
    ⟨some 8, none, .mov (.s 18)⟩]))))
def c61 : AC :=
  (.seq (.reg [⟨some 4, none, .mov (.c (.pure (.int .i64 0)))⟩])
  (.seq (.seq (.reg [⟨some 6, none, .mov (.s 0)⟩,
    ⟨some 7, none, .len (.s 6)⟩,
    ⟨some 8, none, .mov (.c (.pure (.int .i64 0)))⟩])
  (.block 0
  (.loop c61_1)))
  c61_0))
theorem k61 : (Try.f61.body.bind fun c => cCode Try.prog Try.f61.ntmps RCs c) = some c61 := by kernel_rfl
theorem h61 : (Try.f61.name == "runtime.NumGoroutine") = false := by kernel_rfl
theorem r61 : resC Try.prog Try.f61.results.toList = some [.t 4] := by kernel_rfl
theorem a61 {args : List S} {H : Heap} {K : S → Heap → Prop} (hn : args.length ≤ 19) (h : aWx Try.prog H.length c61 (PostX [.t 4] K) (argEnv 0 args) H) : CallA Try.prog 61 args H K :=
  callA_of_x mixed Try.func61 h61 k61 r61 (by rw [Try.ntmps61]; exact hn) h
theorem q61 {vs ds : List V} (hn : vs.length ≤ 19) (h : aWx Try.prog 0 c61 (PostX [.t 4] (Gives ds)) (argEnv 0 (vs.map .pure)) []) : FnQ Try.prog 61 vs ds :=
  fnQ_of_call (a61 (by simpa using hn) h)
/-! slices.Contains[[]int,int] -/
def c84 : AC :=
  (.seq (.reg [⟨some 4, none, .mov (.c (.pure (.bool false)))⟩])
  (.seq (.reg [⟨some 5, none, .mov (.s 0)⟩,
    ⟨some 6, none, .mov (.s 1)⟩,
    ⟨some 7, none, .call 61 [(.s 5), (.s 6)]⟩,
    ⟨some 8, none, .bin .geq (.s 7) (.c (.pure (.int .i64 0)))⟩,
    ⟨some 4, none, .mov (.s 8)⟩])
  .ret))
theorem k84 : (Try.f84.body.bind fun c => cCode Try.prog Try.f84.ntmps RCs c) = some c84 := by kernel_rfl
theorem h84 : (Try.f84.name == "runtime.NumGoroutine") = false := by kernel_rfl
theorem r84 : resC Try.prog Try.f84.results.toList = some [.t 4] := by kernel_rfl
theorem a84 {args : List S} {H : Heap} {K : S → Heap → Prop} (hn : args.length ≤ 9) (h : aWx Try.prog H.length c84 (PostX [.t 4] K) (argEnv 0 args) H) : CallA Try.prog 84 args H K :=
  callA_of_x mixed Try.func84 h84 k84 r84 (by rw [Try.ntmps84]; exact hn) h
theorem q84 {vs ds : List V} (hn : vs.length ≤ 9) (h : aWx Try.prog 0 c84 (PostX [.t 4] (Gives ds)) (argEnv 0 (vs.map .pure)) []) : FnQ Try.prog 84 vs ds :=
  fnQ_of_call (a84 (by simpa using hn) h)
/-! typecase/cover.info -/
def c86 : AC :=
  (.seq (.reg [⟨some 2, none, .box (.s 0)⟩,
    ⟨some 4, none, .box (.c (.agg [(.pure (.int .i64 0)), (.pure (.int .i64 0)), (.pure (.int .i64 0)), .empty]))⟩])
  (.seq (.seq (.reg [⟨some 5, none, .mov (.s 1)⟩,
    ⟨some 6, none, .bin .lss (.s 5) (.c (.pure (.int .i64 0)))⟩,
    ⟨some 7, none, .mov (.s 6)⟩,
    ⟨some 8, some (7, false), .mov (.s 1)⟩,
    ⟨some 9, some (7, false), .fldA 1 (.s 2)⟩,
    ⟨some 10, some (7, false), .load false 1 (.s 9)⟩,
    ⟨some 11, some (7, false), .len (.s 10)⟩,
    ⟨some 12, some (7, false), .bin .geq (.s 8) (.s 11)⟩,
    ⟨some 13, none, .pick (.s 7) (.c (.pure (.bool true))) (.s 12)⟩])
  (.cond (.s 13)
  (.seq (.reg [⟨some 14, none, .build [(.pure (.int .i64 0)), (.pure (.int .i64 0)), (.pure (.int .i64 0)), .empty] []⟩,
    ⟨none, none, .store 4 (.s 4) (.s 14)⟩])
  .ret)
  .skip))
  (.seq (.reg [⟨some 15, none, .fldA 1 (.s 2)⟩,
    ⟨some 16, none, .load false 1 (.s 15)⟩,
    ⟨some 17, none, .mov (.s 1)⟩,
    ⟨some 18, none, .idxA 4 (.s 16) (.s 17)⟩,
    ⟨some 19, none, .load true 4 (.s 18)⟩,
    ⟨none, none, .store 4 (.s 4) (.s 19)⟩])
  .ret)))
theorem k86 : (Try.f86.body.bind fun c => cCode Try.prog Try.f86.ntmps RCs c) = some c86 := by kernel_rfl
theorem h86 : (Try.f86.name == "runtime.NumGoroutine") = false := by kernel_rfl
theorem r86 : resC Try.prog Try.f86.results.toList = some [.c 4 true 4] := by kernel_rfl
theorem a86 {args : List S} {H : Heap} {K : S → Heap → Prop} (hn : args.length ≤ 20) (h : aWx Try.prog H.length c86 (PostX [.c 4 true 4] K) (argEnv 0 args) H) : CallA Try.prog 86 args H K :=
  callA_of_x mixed Try.func86 h86 k86 r86 (by rw [Try.ntmps86]; exact hn) h
theorem q86 {vs ds : List V} (hn : vs.length ≤ 20) (h : aWx Try.prog 0 c86 (PostX [.c 4 true 4] (Gives ds)) (argEnv 0 (vs.map .pure)) []) : FnQ Try.prog 86 vs ds :=
  fnQ_of_call (a86 (by simpa using hn) h)
/-! typecase/cover.Kind -/
def c67 : AC :=
  (.seq (.reg [⟨some 2, none, .box (.s 0)⟩,
    ⟨some 4, none, .mov (.c (.pure (.int .i64 0)))⟩])
  (.seq (.reg [⟨some 5, none, .load true 6 (.s 2)⟩,
    ⟨some 6, none, .mov (.s 1)⟩,
    ⟨some 7, none, .call 86 [(.s 5), (.s 6)]⟩,
    ⟨some 8, none, .fld false 1 1 (.s 7)⟩,
    ⟨some 4, none, .mov (.s 8)⟩])
  .ret))
theorem k67 : (Try.f67.body.bind fun c => cCode Try.prog Try.f67.ntmps RCs c) = some c67 := by kernel_rfl
theorem h67 : (Try.f67.name == "runtime.NumGoroutine") = false := by kernel_rfl
theorem r67 : resC Try.prog Try.f67.results.toList = some [.t 4] := by kernel_rfl
theorem a67 {args : List S} {H : Heap} {K : S → Heap → Prop} (hn : args.length ≤ 9) (h : aWx Try.prog H.length c67 (PostX [.t 4] K) (argEnv 0 args) H) : CallA Try.prog 67 args H K :=
  callA_of_x mixed Try.func67 h67 k67 r67 (by rw [Try.ntmps67]; exact hn) h
theorem q67 {vs ds : List V} (hn : vs.length ≤ 9) (h : aWx Try.prog 0 c67 (PostX [.t 4] (Gives ds)) (argEnv 0 (vs.map .pure)) []) : FnQ Try.prog 67 vs ds :=
  fnQ_of_call (a67 (by simpa using hn) h)
/-! typecase/cover.Attach -/
def c87 : AC :=
  (.seq (.reg [⟨some 2, none, .box (.s 0)⟩,
    ⟨some 4, none, .mov (.c (.pure (.int .i64 0)))⟩])
  (.seq (.reg [⟨some 5, none, .load true 6 (.s 2)⟩,
    ⟨some 6, none, .mov (.s 1)⟩,
    ⟨some 7, none, .call 86 [(.s 5), (.s 6)]⟩,
    ⟨some 8, none, .fld false 2 1 (.s 7)⟩,
    ⟨some 4, none, .mov (.s 8)⟩])
  .ret))
theorem k87 : (Try.f87.body.bind fun c => cCode Try.prog Try.f87.ntmps RCs c) = some c87 := by kernel_rfl
theorem h87 : (Try.f87.name == "runtime.NumGoroutine") = false := by kernel_rfl
theorem r87 : resC Try.prog Try.f87.results.toList = some [.t 4] := by kernel_rfl
theorem a87 {args : List S} {H : Heap} {K : S → Heap → Prop} (hn : args.length ≤ 9) (h : aWx Try.prog H.length c87 (PostX [.t 4] K) (argEnv 0 args) H) : CallA Try.prog 87 args H K :=
  callA_of_x mixed Try.func87 h87 k87 r87 (by rw [Try.ntmps87]; exact hn) h
theorem q87 {vs ds : List V} (hn : vs.length ≤ 9) (h : aWx Try.prog 0 c87 (PostX [.t 4] (Gives ds)) (argEnv 0 (vs.map .pure)) []) : FnQ Try.prog 87 vs ds :=
  fnQ_of_call (a87 (by simpa using hn) h)
/-! typecase/typecaseref26.In -/
def c70_0 : AC :=
  (.seq (.reg [⟨some 4, none, .mov (.c (.pure (.bool false)))⟩])
  .ret)
def c70_1 : AC :=
  (.seq (.seq (.reg [⟨some 6, none, .mov (.s 5)⟩,
    ⟨some 7, none, .mov (.s 0)⟩,
    ⟨some 8, none, .len (.s 7)⟩,
    ⟨some 9, none, .bin .lss (.s 6) (.s 8)⟩])
  (.cond (.s 9)
  .skip
  (.exit 0)))
  (.seq (.block 1
  (.seq (.reg [⟨some 12, none, .mov (.s 0)⟩,
    ⟨some 13, none, .mov (.s 5)⟩,
    ⟨some 14, none, .idxA 1 (.s 12) (.s 13)⟩,
    ⟨some 15, none, .load false 1 (.s 14)⟩,
    ⟨some 16, none, .mov (.s 1)⟩,
    ⟨some 17, none, .bin .eql (.s 15) (.s 16)⟩])
  (.cond (.s 17)
  (.seq (.reg [⟨some 4, none, .mov (.c (.pure (.bool true)))⟩])
  .ret)
  .skip)))
  (.reg [⟨some 10, none, .mov (.s 5)⟩,
    ⟨some 11, none, .bin .add (.s 10) (.c (.pure (.int .i64 1)))⟩,
    ⟨some 5, none, .mov (.s 11)⟩])))
def c70 : AC :=
  (.seq (.reg [⟨some 4, none, .mov (.c (.pure (.bool false)))⟩])
  (.seq (.seq (.reg [⟨some 5, none, .mov (.c (.pure (.int .i64 0)))⟩])
  (.block 0
  (.loop c70_1)))
  c70_0))
theorem k70 : (Try.f70.body.bind fun c => cCode Try.prog Try.f70.ntmps RCs c) = some c70 := by kernel_rfl
theorem h70 : (Try.f70.name == "runtime.NumGoroutine") = false := by kernel_rfl
theorem r70 : resC Try.prog Try.f70.results.toList = some [.t 4] := by kernel_rfl
theorem a70 {args : List S} {H : Heap} {K : S → Heap → Prop} (hn : args.length ≤ 18) (h : aWx Try.prog H.length c70 (PostX [.t 4] K) (argEnv 0 args) H) : CallA Try.prog 70 args H K :=
  callA_of_x mixed Try.func70 h70 k70 r70 (by rw [Try.ntmps70]; exact hn) h
theorem q70 {vs ds : List V} (hn : vs.length ≤ 18) (h : aWx Try.prog 0 c70 (PostX [.t 4] (Gives ds)) (argEnv 0 (vs.map .pure)) []) : FnQ Try.prog 70 vs ds :=
  fnQ_of_call (a70 (by simpa using hn) h)
/-! typecase/typecaseref22.info -/
def c88 : AC :=
  (.seq (.reg [⟨some 2, none, .box (.s 0)⟩,
    ⟨some 4, none, .box (.c (.agg [(.pure (.int .i64 0)), (.pure (.int .i64 0)), (.pure (.int .i64 0)), .empty]))⟩])
  (.seq (.seq (.reg [⟨some 5, none, .mov (.s 1)⟩,
    ⟨some 6, none, .bin .lss (.s 5) (.c (.pure (.int .i64 0)))⟩,
    ⟨some 7, none, .mov (.s 6)⟩,
    ⟨some 8, some (7, false), .mov (.s 1)⟩,
    ⟨some 9, some (7, false), .fldA 1 (.s 2)⟩,
    ⟨some 10, some (7, false), .load false 1 (.s 9)⟩,
    ⟨some 11, some (7, false), .len (.s 10)⟩,
    ⟨some 12, some (7, false), .bin .geq (.s 8) (.s 11)⟩,
    ⟨some 13, none, .pick (.s 7) (.c (.pure (.bool true))) (.s 12)⟩])
  (.cond (.s 13)
  (.seq (.reg [⟨some 14, none, .build [(.pure (.int .i64 0)), (.pure (.int .i64 0)), (.pure (.int .i64 0)), .empty] []⟩,
    ⟨none, none, .store 4 (.s 4) (.s 14)⟩])
  .ret)
  .skip))
  (.seq (.reg [⟨some 15, none, .fldA 1 (.s 2)⟩,
    ⟨some 16, none, .load false 1 (.s 15)⟩,
    ⟨some 17, none, .mov (.s 1)⟩,
    ⟨some 18, none, .idxA 4 (.s 16) (.s 17)⟩,
    ⟨some 19, none, .load true 4 (.s 18)⟩,
    ⟨none, none, .store 4 (.s 4) (.s 19)⟩])
  .ret)))
theorem k88 : (Try.f88.body.bind fun c => cCode Try.prog Try.f88.ntmps RCs c) = some c88 := by kernel_rfl
theorem h88 : (Try.f88.name == "runtime.NumGoroutine") = false := by kernel_rfl
theorem r88 : resC Try.prog Try.f88.results.toList = some [.c 4 true 4] := by kernel_rfl
theorem a88 {args : List S} {H : Heap} {K : S → Heap → Prop} (hn : args.length ≤ 20) (h : aWx Try.prog H.length c88 (PostX [.c 4 true 4] K) (argEnv 0 args) H) : CallA Try.prog 88 args H K :=
  callA_of_x mixed Try.func88 h88 k88 r88 (by rw [Try.ntmps88]; exact hn) h
theorem q88 {vs ds : List V} (hn : vs.length ≤ 20) (h : aWx Try.prog 0 c88 (PostX [.c 4 true 4] (Gives ds)) (argEnv 0 (vs.map .pure)) []) : FnQ Try.prog 88 vs ds :=
  fnQ_of_call (a88 (by simpa using hn) h)
/-! typecase/typecaseref22.Kind -/
def c69 : AC :=
  (.seq (.reg [⟨some 2, none, .box (.s 0)⟩,
    ⟨some 4, none, .mov (.c (.pure (.int .i64 0)))⟩])
  (.seq (.reg [⟨some 5, none, .load true 6 (.s 2)⟩,
    ⟨some 6, none, .mov (.s 1)⟩,
    ⟨some 7, none, .call 88 [(.s 5), (.s 6)]⟩,
    ⟨some 8, none, .fld false 1 1 (.s 7)⟩,
    ⟨some 4, none, .mov (.s 8)⟩])
  .ret))
theorem k69 : (Try.f69.body.bind fun c => cCode Try.prog Try.f69.ntmps RCs c) = some c69 := by kernel_rfl
theorem h69 : (Try.f69.name == "runtime.NumGoroutine") = false := by kernel_rfl
theorem r69 : resC Try.prog Try.f69.results.toList = some [.t 4] := by kernel_rfl
theorem a69 {args : List S} {H : Heap} {K : S → Heap → Prop} (hn : args.length ≤ 9) (h : aWx Try.prog H.length c69 (PostX [.t 4] K) (argEnv 0 args) H) : CallA Try.prog 69 args H K :=
  callA_of_x mixed Try.func69 h69 k69 r69 (by rw [Try.ntmps69]; exact hn) h
theorem q69 {vs ds : List V} (hn : vs.length ≤ 9) (h : aWx Try.prog 0 c69 (PostX [.t 4] (Gives ds)) (argEnv 0 (vs.map .pure)) []) : FnQ Try.prog 69 vs ds :=
  fnQ_of_call (a69 (by simpa using hn) h)
/-! typecase/typecaseref22.Attach -/
def c72 : AC :=
  (.seq (.reg [⟨some 2, none, .box (.s 0)⟩,
    ⟨some 4, none, .mov (.c (.pure (.int .i64 0)))⟩])
  (.seq (.reg [⟨some 5, none, .load true 6 (.s 2)⟩,
    ⟨some 6, none, .mov (.s 1)⟩,
    ⟨some 7, none, .call 88 [(.s 5), (.s 6)]⟩,
    ⟨some 8, none, .fld false 2 1 (.s 7)⟩,
    ⟨some 4, none, .mov (.s 8)⟩])
  .ret))
theorem k72 : (Try.f72.body.bind fun c => cCode Try.prog Try.f72.ntmps RCs c) = some c72 := by kernel_rfl
theorem h72 : (Try.f72.name == "runtime.NumGoroutine") = false := by kernel_rfl
theorem r72 : resC Try.prog Try.f72.results.toList = some [.t 4] := by kernel_rfl
theorem a72 {args : List S} {H : Heap} {K : S → Heap → Prop} (hn : args.length ≤ 9) (h : aWx Try.prog H.length c72 (PostX [.t 4] K) (argEnv 0 args) H) : CallA Try.prog 72 args H K :=
  callA_of_x mixed Try.func72 h72 k72 r72 (by rw [Try.ntmps72]; exact hn) h
theorem q72 {vs ds : List V} (hn : vs.length ≤ 9) (h : aWx Try.prog 0 c72 (PostX [.t 4] (Gives ds)) (argEnv 0 (vs.map .pure)) []) : FnQ Try.prog 72 vs ds :=
  fnQ_of_call (a72 (by simpa using hn) h)
/-! typecase/typecaseref26.set -/
def c71 : AC :=
  (.seq (.reg [⟨some 2, none, .box (.s 0)⟩,
    ⟨some 3, none, .box (.s 1)⟩,
    ⟨some 4, none, .mov (.c .empty)⟩])
  (.seq (.seq (.reg [⟨some 5, none, .fldA 2 (.s 3)⟩,
    ⟨some 6, none, .load false 1 (.s 5)⟩,
    ⟨some 7, none, .bin .lss (.s 6) (.c (.pure (.int .i64 0)))⟩,
    ⟨some 8, none, .mov (.s 7)⟩,
    ⟨some 9, some (8, false), .fldA 2 (.s 3)⟩,
    ⟨some 10, some (8, false), .load false 1 (.s 9)⟩,
    ⟨some 11, some (8, false), .fldA 5 (.s 2)⟩,
    ⟨some 12, some (8, false), .load false 1 (.s 11)⟩,
    ⟨some 13, some (8, false), .len (.s 12)⟩,
    ⟨some 14, some (8, false), .bin .geq (.s 10) (.s 13)⟩,
    ⟨some 15, none, .pick (.s 8) (.c (.pure (.bool true))) (.s 14)⟩])
  (.cond (.s 15)
  (.seq (.reg [⟨some 4, none, .mov (.c .empty)⟩])
  .ret)
  .skip))
  (.seq (.reg [⟨some 16, none, .fldA 5 (.s 2)⟩,
    ⟨some 17, none, .load false 1 (.s 16)⟩,
    ⟨some 18, none, .fldA 2 (.s 3)⟩,
    ⟨some 19, none, .load false 1 (.s 18)⟩,
    ⟨some 20, none, .idxA 1 (.s 17) (.s 19)⟩,
    ⟨some 21, none, .load false 1 (.s 20)⟩,
    ⟨some 4, none, .mov (.s 21)⟩])
  .ret)))
theorem k71 : (Try.f71.body.bind fun c => cCode Try.prog Try.f71.ntmps RCs c) = some c71 := by kernel_rfl
theorem h71 : (Try.f71.name == "runtime.NumGoroutine") = false := by kernel_rfl
theorem r71 : resC Try.prog Try.f71.results.toList = some [.t 4] := by kernel_rfl
theorem a71 {args : List S} {H : Heap} {K : S → Heap → Prop} (hn : args.length ≤ 22) (h : aWx Try.prog H.length c71 (PostX [.t 4] K) (argEnv 0 args) H) : CallA Try.prog 71 args H K :=
  callA_of_x mixed Try.func71 h71 k71 r71 (by rw [Try.ntmps71]; exact hn) h
theorem q71 {vs ds : List V} (hn : vs.length ≤ 22) (h : aWx Try.prog 0 c71 (PostX [.t 4] (Gives ds)) (argEnv 0 (vs.map .pure)) []) : FnQ Try.prog 71 vs ds :=
  fnQ_of_call (a71 (by simpa using hn) h)
/-! typecase/skip.marks -/
def c68 : AC :=
  (.seq (.reg [⟨some 4, none, .box (.s 0)⟩,
    ⟨some 5, none, .box (.s 1)⟩,
    ⟨some 8, none, .mov (.c (.pure (.bool false)))⟩])
  (.seq (.seq (.reg [⟨some 11, none, .mov (.s 2)⟩,
    ⟨some 12, none, .bin .and (.s 11) (.c (.pure (.int .i64 8)))⟩,
    ⟨some 13, none, .bin .neq (.s 12) (.c (.pure (.int .i64 0)))⟩])
  (.cond (.s 13)
  (.seq (.reg [⟨some 8, none, .mov (.c (.pure (.bool true)))⟩])
  .ret)
  .skip))
  (.seq (.seq (.reg [⟨some 14, none, .mov (.s 2)⟩,
    ⟨some 15, none, .bin .and (.s 14) (.c (.pure (.int .i64 16)))⟩,
    ⟨some 16, none, .bin .neq (.s 15) (.c (.pure (.int .i64 0)))⟩])
  (.cond (.s 16)
  (.seq (.reg [⟨some 17, none, .fldA 2 (.s 5)⟩,
    ⟨some 18, none, .load false 1 (.s 17)⟩,
    ⟨some 19, none, .bin .geq (.s 18) (.c (.pure (.int .i64 0)))⟩,
    ⟨some 20, none, .mov (.s 19)⟩,
    ⟨some 21, some (20, true), .fldA 2 (.s 5)⟩,
    ⟨some 22, some (20, true), .load false 1 (.s 21)⟩,
    ⟨some 23, some (20, true), .fldA 5 (.s 4)⟩,
    ⟨some 24, some (20, true), .load false 1 (.s 23)⟩,
    ⟨some 25, some (20, true), .len (.s 24)⟩,
    ⟨some 26, some (20, true), .bin .lss (.s 22) (.s 25)⟩,
    ⟨some 27, none, .pick (.s 20) (.s 26) (.c (.pure (.bool false)))⟩,
    ⟨some 28, none, .mov (.s 27)⟩,
    ⟨some 29, some (28, true), .fldA 5 (.s 4)⟩,
    ⟨some 30, some (28, true), .load false 1 (.s 29)⟩,
    ⟨some 31, some (28, true), .fldA 2 (.s 5)⟩,
    ⟨some 32, some (28, true), .load false 1 (.s 31)⟩,
    ⟨some 33, some (28, true), .idxA 1 (.s 30) (.s 32)⟩,
    ⟨some 34, some (28, true), .load false 1 (.s 33)⟩,
    ⟨some 35, some (28, true), .mov (.s 3)⟩,
    ⟨some 36, some (28, true), .call 84 [(.s 34), (.s 35)]⟩,
    ⟨some 37, none, .pick (.s 28) (.s 36) (.c (.pure (.bool false)))⟩,
    ⟨some 9, none, .mov (.s 37)⟩])
  (.seq (.reg [⟨some 38, none, .mov (.s 9)⟩,
    ⟨some 39, none, .un .not (.s 38)⟩])
  (.cond (.s 39)
  (.seq (.reg [⟨some 8, none, .mov (.c (.pure (.bool true)))⟩])
  .ret)
  .skip)))
  .skip))
  (.seq (.reg [⟨some 40, none, .mov (.s 2)⟩,
    ⟨some 41, none, .bin .quo (.s 40) (.c (.pure (.int .i64 256)))⟩,
    ⟨some 10, none, .mov (.s 41)⟩])
  (.seq (.reg [⟨some 42, none, .mov (.s 10)⟩,
    ⟨some 43, none, .bin .neq (.s 42) (.c (.pure (.int .i64 0)))⟩,
    ⟨some 44, none, .mov (.s 43)⟩,
    ⟨some 45, some (44, true), .mov (.s 10)⟩,
    ⟨some 46, some (44, true), .load true 6 (.s 4)⟩,
    ⟨some 47, some (44, true), .mov (.s 3)⟩,
    ⟨some 48, some (44, true), .call 87 [(.s 46), (.s 47)]⟩,
    ⟨some 49, some (44, true), .bin .neq (.s 45) (.s 48)⟩,
    ⟨some 50, none, .pick (.s 44) (.s 49) (.c (.pure (.bool false)))⟩,
    ⟨some 8, none, .mov (.s 50)⟩])
  .ret)))))
theorem k68 : (Try.f68.body.bind fun c => cCode Try.prog Try.f68.ntmps RCs c) = some c68 := by kernel_rfl
theorem h68 : (Try.f68.name == "runtime.NumGoroutine") = false := by kernel_rfl
theorem r68 : resC Try.prog Try.f68.results.toList = some [.t 8] := by kernel_rfl
theorem a68 {args : List S} {H : Heap} {K : S → Heap → Prop} (hn : args.length ≤ 51) (h : aWx Try.prog H.length c68 (PostX [.t 8] K) (argEnv 0 args) H) : CallA Try.prog 68 args H K :=
  callA_of_x mixed Try.func68 h68 k68 r68 (by rw [Try.ntmps68]; exact hn) h
theorem q68 {vs ds : List V} (hn : vs.length ≤ 51) (h : aWx Try.prog 0 c68 (PostX [.t 8] (Gives ds)) (argEnv 0 (vs.map .pure)) []) : FnQ Try.prog 68 vs ds :=
  fnQ_of_call (a68 (by simpa using hn) h)
/-! typecase/skip.Skips -/
def c49 : AC :=
  (.seq (.reg [⟨some 3, none, .box (.s 0)⟩,
    ⟨some 4, none, .box (.s 1)⟩,
    ⟨some 6, none, .mov (.c (.pure (.bool false)))⟩])
  (.seq (.reg [⟨some 8, none, .fldA 1 (.s 4)⟩,
    ⟨some 9, none, .load false 1 (.s 8)⟩,
    ⟨some 10, none, .mx (.s 9) (.c (.pure (.int .i64 0)))⟩,
    ⟨some 7, none, .mov (.s 10)⟩])
  (.seq (.seq (.reg [⟨some 11, none, .load true 6 (.s 3)⟩,
    ⟨some 12, none, .mov (.s 2)⟩,
    ⟨some 13, none, .call 67 [(.s 11), (.s 12)]⟩])
  (.block 0
  (.seq (.reg [⟨some 15, none, .bin .eql (.s 13) (.c (.pure (.int .i64 1)))⟩,
    ⟨some 14, none, .mov (.s 15)⟩])
  (.cond (.s 14)
  (.seq (.reg [⟨some 16, none, .mov (.s 7)⟩,
    ⟨some 17, none, .bin .and (.s 16) (.c (.pure (.int .i64 2)))⟩,
    ⟨some 18, none, .bin .neq (.s 17) (.c (.pure (.int .i64 0)))⟩,
    ⟨some 6, none, .mov (.s 18)⟩])
  .ret)
  (.seq (.reg [⟨some 20, none, .bin .eql (.s 13) (.c (.pure (.int .i64 2)))⟩,
    ⟨some 19, none, .mov (.s 20)⟩])
  (.cond (.s 19)
  (.seq (.reg [⟨some 21, none, .mov (.s 7)⟩,
    ⟨some 22, none, .bin .and (.s 21) (.c (.pure (.int .i64 4)))⟩,
    ⟨some 23, none, .bin .neq (.s 22) (.c (.pure (.int .i64 0)))⟩,
    ⟨some 6, none, .mov (.s 23)⟩])
  .ret)
  (.seq (.reg [⟨some 25, none, .bin .eql (.s 13) (.c (.pure (.int .i64 3)))⟩,
    ⟨some 24, none, .mov (.s 25)⟩])
  (.cond (.s 24)
  (.seq (.reg [⟨some 26, none, .load true 6 (.s 3)⟩,
    ⟨some 27, none, .load true 4 (.s 4)⟩,
    ⟨some 28, none, .mov (.s 7)⟩,
    ⟨some 29, none, .mov (.s 2)⟩,
    ⟨some 30, none, .call 68 [(.s 26), (.s 27), (.s 28), (.s 29)]⟩,
    ⟨some 6, none, .mov (.s 30)⟩])
  .ret)
  .skip))))))))
  (.seq (.reg [⟨some 6, none, .mov (.c (.pure (.bool false)))⟩])
  .ret))))
theorem k49 : (Try.f49.body.bind fun c => cCode Try.prog Try.f49.ntmps RCs c) = some c49 := by kernel_rfl
theorem h49 : (Try.f49.name == "runtime.NumGoroutine") = false := by kernel_rfl
theorem r49 : resC Try.prog Try.f49.results.toList = some [.t 6] := by kernel_rfl
theorem a49 {args : List S} {H : Heap} {K : S → Heap → Prop} (hn : args.length ≤ 31) (h : aWx Try.prog H.length c49 (PostX [.t 6] K) (argEnv 0 args) H) : CallA Try.prog 49 args H K :=
  callA_of_x mixed Try.func49 h49 k49 r49 (by rw [Try.ntmps49]; exact hn) h
theorem q49 {vs ds : List V} (hn : vs.length ≤ 31) (h : aWx Try.prog 0 c49 (PostX [.t 6] (Gives ds)) (argEnv 0 (vs.map .pure)) []) : FnQ Try.prog 49 vs ds :=
  fnQ_of_call (a49 (by simpa using hn) h)
/-! typecase/typecaseref26.Skips -/
def c50 : AC :=
  (.seq (.reg [⟨some 3, none, .box (.s 0)⟩,
    ⟨some 4, none, .box (.s 1)⟩,
    ⟨some 6, none, .mov (.c (.pure (.bool false)))⟩])
  (.seq (.reg [⟨some 8, none, .fldA 1 (.s 4)⟩,
    ⟨some 9, none, .load false 1 (.s 8)⟩,
    ⟨some 10, none, .mx (.c (.pure (.int .i64 0))) (.s 9)⟩,
    ⟨some 7, none, .mov (.s 10)⟩])
  (.seq (.seq (.reg [⟨some 11, none, .load true 6 (.s 3)⟩,
    ⟨some 12, none, .mov (.s 2)⟩,
    ⟨some 13, none, .call 69 [(.s 11), (.s 12)]⟩])
  (.block 0
  (.seq (.reg [⟨some 15, none, .bin .eql (.s 13) (.c (.pure (.int .i64 1)))⟩,
    ⟨some 14, none, .mov (.s 15)⟩])
  (.cond (.s 14)
  (.seq (.reg [⟨some 16, none, .mov (.s 7)⟩,
    ⟨some 17, none, .bin .and (.s 16) (.c (.pure (.int .i64 2)))⟩,
    ⟨some 18, none, .bin .neq (.s 17) (.c (.pure (.int .i64 0)))⟩,
    ⟨some 6, none, .mov (.s 18)⟩])
  .ret)
  (.seq (.reg [⟨some 20, none, .bin .eql (.s 13) (.c (.pure (.int .i64 2)))⟩,
    ⟨some 19, none, .mov (.s 20)⟩])
  (.cond (.s 19)
  (.seq (.reg [⟨some 21, none, .mov (.s 7)⟩,
    ⟨some 22, none, .bin .and (.s 21) (.c (.pure (.int .i64 4)))⟩,
    ⟨some 23, none, .bin .neq (.s 22) (.c (.pure (.int .i64 0)))⟩,
    ⟨some 6, none, .mov (.s 23)⟩])
  .ret)
  (.seq (.reg [⟨some 25, none, .bin .eql (.s 13) (.c (.pure (.int .i64 3)))⟩,
    ⟨some 24, none, .mov (.s 25)⟩])
  (.cond (.s 24)
  (.seq (.seq (.reg [⟨some 26, none, .mov (.s 7)⟩,
    ⟨some 27, none, .bin .and (.s 26) (.c (.pure (.int .i64 8)))⟩,
    ⟨some 28, none, .bin .neq (.s 27) (.c (.pure (.int .i64 0)))⟩,
    ⟨some 29, none, .mov (.s 28)⟩,
    ⟨some 30, some (29, false), .mov (.s 7)⟩,
    ⟨some 31, some (29, false), .bin .and (.s 30) (.c (.pure (.int .i64 16)))⟩,
    ⟨some 32, some (29, false), .bin .neq (.s 31) (.c (.pure (.int .i64 0)))⟩,
    ⟨some 33, some (29, false), .mov (.s 32)⟩,
    ⟨some 34, some (33, true), .load true 6 (.s 3)⟩,
    ⟨some 35, some (33, true), .load true 4 (.s 4)⟩,
    ⟨some 36, some (33, true), .call 71 [(.s 34), (.s 35)]⟩,
    ⟨some 37, some (33, true), .mov (.s 2)⟩,
    ⟨some 38, some (33, true), .call 70 [(.s 36), (.s 37)]⟩,
    ⟨some 39, some (33, true), .un .not (.s 38)⟩,
    ⟨some 40, some (29, false), .pick (.s 33) (.s 39) (.c (.pure (.bool false)))⟩,
    ⟨some 41, none, .pick (.s 29) (.c (.pure (.bool true))) (.s 40)⟩])
  (.cond (.s 41)
  (.seq (.reg [⟨some 6, none, .mov (.c (.pure (.bool true)))⟩])
  .ret)
  .skip))
  (.seq (.reg [⟨some 42, none, .mov (.s 7)⟩,
    ⟨some 43, none, .bin .quo (.s 42) (.c (.pure (.int .i64 256)))⟩,
    ⟨some 44, none, .bin .neq (.s 43) (.c (.pure (.int .i64 0)))⟩,
    ⟨some 45, none, .mov (.s 44)⟩,
    ⟨some 46, some (45, true), .load true 6 (.s 3)⟩,
    ⟨some 47, some (45, true), .mov (.s 2)⟩,
    ⟨some 48, some (45, true), .call 72 [(.s 46), (.s 47)]⟩,
    ⟨some 49, some (45, true), .mov (.s 7)⟩,
    ⟨some 50, some (45, true), .bin .quo (.s 49) (.c (.pure (.int .i64 256)))⟩,
    ⟨some 51, some (45, true), .bin .neq (.s 48) (.s 50)⟩,
    ⟨some 52, none, .pick (.s 45) (.s 51) (.c (.pure (.bool false)))⟩,
    ⟨some 6, none, .mov (.s 52)⟩])
  .ret))
  .skip))))))))
  (.seq (.reg [⟨some 6, none, .mov (.c (.pure (.bool false)))⟩])
  .ret))))
theorem k50 : (Try.f50.body.bind fun c => cCode Try.prog Try.f50.ntmps RCs c) = some c50 := by kernel_rfl
theorem h50 : (Try.f50.name == "runtime.NumGoroutine") = false := by kernel_rfl
theorem r50 : resC Try.prog Try.f50.results.toList = some [.t 6] := by kernel_rfl
theorem a50 {args : List S} {H : Heap} {K : S → Heap → Prop} (hn : args.length ≤ 53) (h : aWx Try.prog H.length c50 (PostX [.t 6] K) (argEnv 0 args) H) : CallA Try.prog 50 args H K :=
  callA_of_x mixed Try.func50 h50 k50 r50 (by rw [Try.ntmps50]; exact hn) h
theorem q50 {vs ds : List V} (hn : vs.length ≤ 53) (h : aWx Try.prog 0 c50 (PostX [.t 6] (Gives ds)) (argEnv 0 (vs.map .pure)) []) : FnQ Try.prog 50 vs ds :=
  fnQ_of_call (a50 (by simpa using hn) h)

/-- what a font tells of a glyph -/
structure Inf where
  adv : Int
  kind : Int
  att : Int
  car : V
abbrev inf (x : Inf) : V := .agg [I x.adv, I x.kind, I x.att, x.car]
/-- a font: what is not looked at stays as it is -/
structure Fo where
  em : V
  gs : List Inf
  maps : V
  lks : V
  feats : V
  sets : List (List Int)
abbrev fo (f : Fo) : V := .agg [f.em, .sl (f.gs.map inf), f.maps, f.lks, f.feats, LL f.sets]
/-- a lookup, of whose subtables nothing is said -/
abbrev lkV (a b c : Int) (s : V) : V := .agg [I a, I b, I c, s]
theorem inf_of {v : V} (h : OkE true [.int .i64, .int .i64, .int .i64, .sl false [.int .i64]] v) : ∃ s, v = inf s ∧ s.car.isCell = true := by
  obtain ⟨cs, rfl, hc⟩ := agg_of h
  clear h
  match cs, hc with
  | [a, b, c, d], ⟨h1, h2, h3, h4, _⟩ =>
    obtain ⟨x, rfl, _⟩ := okN_of h1
    obtain ⟨y, rfl, _⟩ := okN_of h2
    obtain ⟨z, rfl, _⟩ := okN_of h3
    exact ⟨⟨x, y, z, d⟩, rfl, h4.cell⟩
theorem fo_of {g1 g2 g3 : Bool} {t1 t2 t3 : List CT} {v : V} (h : OkE true [.int .i64, .sl true [.int .i64, .int .i64, .int .i64, .sl false [.int .i64]], .sl g1 t1, .sl g2 t2, .sl g3 t3, .sl false [.sl false [.int .i64]]] v) : ∃ f, v = fo f := by
  obtain ⟨cs, rfl, hc⟩ := agg_of h
  clear h
  match cs, hc with
  | [a, b, c, d, e, g], ⟨h1, h2, h3, h4, h5, h6, _⟩ =>
    obtain ⟨gs, rfl, _⟩ := lists_of (f := inf) (p := fun s => s.car.isCell = true) (fun _ h => inf_of h) h2
    obtain ⟨sets, rfl, _⟩ := ll_of h6
    exact ⟨⟨a, gs, c, d, e, sets⟩, rfl⟩
theorem lkV_of {g : Bool} {ts : List CT} {v : V} (h : OkE true [.int .i64, .int .i64, .int .i64, .sl g ts] v) : ∃ a b c s, v = lkV a b c s ∧ s.isCell = true := by
  obtain ⟨cs, rfl, hc⟩ := agg_of h
  clear h
  match cs, hc with
  | [a, b, c, d], ⟨h1, h2, h3, h4, _⟩ =>
    obtain ⟨x, rfl, _⟩ := okN_of h1
    obtain ⟨y, rfl, _⟩ := okN_of h2
    obtain ⟨z, rfl, _⟩ := okN_of h3
    exact ⟨x, y, z, d, rfl, h4.cell⟩

/-- where a number stands in a list -/
def idxF (x : Int) : Int → List Int → Int
  | _, [] => -1
  | k, y :: r => if x = y then k else idxF x (k + 1) r
theorem idxF_mem {x : Int} : ∀ {l : List Int} {k : Int}, 0 ≤ k → (0 ≤ idxF x k l ↔ x ∈ l)
  | [], k, _ => by simp [idxF]
  | y :: r, k, h => by
    rw [idxF]
    by_cases hc : x = y
    · simp [hc, h]
    · rw [if_neg hc, idxF_mem (by omega)]
      simp [hc]
theorem index_q (l : List Int) (x : Int) : FnQ Try.prog 61 [LI l, I x] [I (idxF x 0 l)] := by
  refine q61 (by simp) ?_
  unfold c61
  simp -implicitDefEqProofs only [*, vmp,↓vmd,seval]
  refine onIf_intro fun hlen => ?_
  simp -implicitDefEqProofs only [*, vmp,↓vmd,seval]
  refine loop_at (T := Nat) (fun k => [(8, .pure (I k)), (7, .pure (I l.length)), (0, .pure (LI l)), (1, .pure (I x))]) (fun _ => []) (fun k => k ≤ l.length ∧ idxF x k (l.drop k) = idxF x 0 l) (fun k => l.length - k)
    0 [] (by simp) rfl ⟨by simp, by simp⟩ (by simp -implicitDefEqProofs only [kpp,seval]) (by simp -implicitDefEqProofs only [kpp,seval]) ?_
  rintro k ⟨hk, hr⟩
  unfold c61_1
  simp -implicitDefEqProofs only [vmp,↓vmd,seval]
  refine onB_dec (fun h1 => ?_) (fun h1 => ?_)
  · have hlt : k < l.length := by omega
    rw [drop_at hlt, idxF] at hr
    simp -implicitDefEqProofs only [h1, map_at hlt, Int.natCast_nonneg, vmp,↓vmd,seval]
    refine onB_dec (fun h2 => ?_) (fun h2 => ?_)
    · rw [if_pos h2] at hr
      simp -implicitDefEqProofs only [h2, vmp,↓vmd,seval]
      rw [← h2, ← hr]
      exact gives_pure
    · simp -implicitDefEqProofs only [h2, vmp,↓vmd,seval]
      refine onBk_to (k + 1) [] (by simp) rfl (by omega) ⟨hlt, by rw [← hr, if_neg h2]; rfl⟩ (by simp -implicitDefEqProofs only [next_at hlt hlen, kpp,seval]) (by simp -implicitDefEqProofs only [kpp,seval])
  · simp -implicitDefEqProofs only [h1, vmp,↓vmd,seval]
    unfold c61_0
    simp -implicitDefEqProofs only [vmp,↓vmd,seval]
    rw [← hr, List.drop_of_length_le (by omega)]
    exact gives_pure
theorem contains_q (l : List Int) (x : Int) : FnQ Try.prog 84 [LI l, I x] [.bool (decide (x ∈ l))] := by
  refine q84 (by simp) ?_
  unfold c84
  simp -implicitDefEqProofs only [*, vmp,↓vmd,seval]
  refine onC_q (index_q l x) rfl ?_
  simp -implicitDefEqProofs only [*, vmp,↓vmd,seval]
  rw [show decide (0 ≤ idxF x 0 l) = decide (x ∈ l) by rw [decide_eq_decide]; exact idxF_mem (Int.le_refl 0)]
  exact gives_pure
theorem in_q (l : List Int) (x : Int) : FnQ Try.prog 70 [LI l, I x] [.bool (decide (x ∈ l))] := by
  refine q70 (by simp) ?_
  unfold c70
  simp -implicitDefEqProofs only [*, vmp,↓vmd,seval]
  refine loop_at (T := Nat) (fun k => [(5, .pure (I k)), (0, .pure (LI l)), (1, .pure (I x))]) (fun _ => []) (fun k => k ≤ l.length ∧ (x ∈ l.drop k ↔ x ∈ l)) (fun k => l.length - k)
    0 [] (by simp) rfl ⟨by simp, by simp⟩ (by simp -implicitDefEqProofs only [kpp,seval]) (by simp -implicitDefEqProofs only [kpp,seval]) ?_
  rintro k ⟨hk, hr⟩
  unfold c70_1
  simp -implicitDefEqProofs only [vmp,↓vmd,seval]
  refine onIf_intro fun _ => ?_
  simp -implicitDefEqProofs only [vmp,↓vmd,seval]
  refine onB_dec (fun h1 => ?_) (fun h1 => ?_)
  · have hlt : k < l.length := by omega
    rw [drop_at hlt] at hr
    simp -implicitDefEqProofs only [h1, map_at hlt, Int.natCast_nonneg, vmp,↓vmd,seval]
    refine onB_dec (fun h2 => ?_) (fun h2 => ?_)
    · simp -implicitDefEqProofs only [h2, vmp,↓vmd,seval]
      rw [show decide (x ∈ l) = true by rw [decide_eq_true_eq, ← hr, h2]; exact List.mem_cons_self]
      exact gives_pure
    · simp -implicitDefEqProofs only [h2, vmp,↓vmd,seval]
      refine onBk_to (k + 1) [] (by simp) rfl (by omega) ⟨hlt, by rw [← hr, List.mem_cons]; exact ⟨.inr, fun h => h.resolve_left fun e => h2 e.symm⟩⟩ (by simp -implicitDefEqProofs only [next_at hlt (by omega), kpp,seval]) (by simp -implicitDefEqProofs only [kpp,seval])
  · simp -implicitDefEqProofs only [h1, vmp,↓vmd,seval]
    unfold c70_0
    simp -implicitDefEqProofs only [vmp,↓vmd,seval]
    rw [List.drop_of_length_le (by omega)] at hr
    rw [show decide (x ∈ l) = false by rw [decide_eq_false_iff_not, ← hr]; simp]
    exact gives_pure
def infoF (f : Fo) (g : Int) : Inf := if g < 0 ∨ (f.gs.length : Int) ≤ g then ⟨0, 0, 0, .sl []⟩ else f.gs.getD g.toNat ⟨0, 0, 0, .sl []⟩
theorem info_at {f : Fo} {g : Int} (h1 : ¬ g < 0) (h2 : ¬ (f.gs.length : Int) ≤ g) : (f.gs.map inf)[g.toNat]? = some (inf (infoF f g)) := by
  rw [infoF, if_neg (by omega), List.getD_eq_getElem?_getD, List.getElem?_map, List.getElem?_eq_getElem (by omega)]
  rfl
theorem info_q (f : Fo) (g : Int) : FnQ Try.prog 86 [fo f, I g] [inf (infoF f g)] := by
  refine q86 (by simp) ?_
  unfold c86
  simp -implicitDefEqProofs only [*, vmp,↓vmd,seval]
  refine onB_dec (fun h1 => ?_) (fun h1 => ?_)
  · simp -implicitDefEqProofs only [*, vmp,↓vmd,seval]
    rw [infoF, if_pos (.inl h1)]
    exact gives_one rfl
  simp -implicitDefEqProofs only [*, vmp,↓vmd,seval]
  refine onIf_intro fun _ => ?_
  simp -implicitDefEqProofs only [*, vmp,↓vmd,seval]
  refine onB_dec (fun h2 => ?_) (fun h2 => ?_)
  · simp -implicitDefEqProofs only [*, vmp,↓vmd,seval]
    rw [infoF, if_pos (.inr h2)]
    exact gives_one rfl
  simp -implicitDefEqProofs only [info_at h1 h2, show 0 ≤ g by omega, *, vmp,↓vmd,seval]
  exact gives_one rfl
theorem rinfo_q (f : Fo) (g : Int) : FnQ Try.prog 88 [fo f, I g] [inf (infoF f g)] := by
  refine q88 (by simp) ?_
  unfold c88
  simp -implicitDefEqProofs only [*, vmp,↓vmd,seval]
  refine onB_dec (fun h1 => ?_) (fun h1 => ?_)
  · simp -implicitDefEqProofs only [*, vmp,↓vmd,seval]
    rw [infoF, if_pos (.inl h1)]
    exact gives_one rfl
  simp -implicitDefEqProofs only [*, vmp,↓vmd,seval]
  refine onIf_intro fun _ => ?_
  simp -implicitDefEqProofs only [*, vmp,↓vmd,seval]
  refine onB_dec (fun h2 => ?_) (fun h2 => ?_)
  · simp -implicitDefEqProofs only [*, vmp,↓vmd,seval]
    rw [infoF, if_pos (.inr h2)]
    exact gives_one rfl
  simp -implicitDefEqProofs only [info_at h1 h2, show 0 ≤ g by omega, *, vmp,↓vmd,seval]
  exact gives_one rfl
theorem kind_q (f : Fo) (g : Int) : FnQ Try.prog 67 [fo f, I g] [I (infoF f g).kind] := by
  refine q67 (by simp) ?_
  unfold c67
  simp -implicitDefEqProofs only [*, vmp,↓vmd,seval]
  refine onC_q (info_q f g) rfl ?_
  simp -implicitDefEqProofs only [*, vmp,↓vmd,seval]
  exact gives_pure
theorem attach_q (f : Fo) (g : Int) : FnQ Try.prog 87 [fo f, I g] [I (infoF f g).att] := by
  refine q87 (by simp) ?_
  unfold c87
  simp -implicitDefEqProofs only [*, vmp,↓vmd,seval]
  refine onC_q (info_q f g) rfl ?_
  simp -implicitDefEqProofs only [*, vmp,↓vmd,seval]
  exact gives_pure
theorem rkind_q (f : Fo) (g : Int) : FnQ Try.prog 69 [fo f, I g] [I (infoF f g).kind] := by
  refine q69 (by simp) ?_
  unfold c69
  simp -implicitDefEqProofs only [*, vmp,↓vmd,seval]
  refine onC_q (rinfo_q f g) rfl ?_
  simp -implicitDefEqProofs only [*, vmp,↓vmd,seval]
  exact gives_pure
theorem rattach_q (f : Fo) (g : Int) : FnQ Try.prog 72 [fo f, I g] [I (infoF f g).att] := by
  refine q72 (by simp) ?_
  unfold c72
  simp -implicitDefEqProofs only [*, vmp,↓vmd,seval]
  refine onC_q (rinfo_q f g) rfl ?_
  simp -implicitDefEqProofs only [*, vmp,↓vmd,seval]
  exact gives_pure
def setF (f : Fo) (n : Int) : List Int := if n < 0 ∨ (f.sets.length : Int) ≤ n then [] else f.sets.getD n.toNat []
theorem set_at {f : Fo} {n : Int} (h1 : ¬ n < 0) (h2 : ¬ (f.sets.length : Int) ≤ n) : (f.sets.map LI)[n.toNat]? = some (LI (setF f n)) := by
  rw [setF, if_neg (by omega), List.getD_eq_getElem?_getD, List.getElem?_map, List.getElem?_eq_getElem (by omega)]
  rfl
theorem rset_q (f : Fo) (a b n : Int) (s : V) : FnQ Try.prog 71 [fo f, lkV a b n s] [LI (setF f n)] := by
  refine q71 (by simp) ?_
  unfold c71
  simp -implicitDefEqProofs only [*, vmp,↓vmd,seval]
  refine onB_dec (fun h1 => ?_) (fun h1 => ?_)
  · simp -implicitDefEqProofs only [*, vmp,↓vmd,seval]
    rw [setF, if_pos (.inl h1)]
    exact gives_empty
  simp -implicitDefEqProofs only [*, vmp,↓vmd,seval]
  refine onIf_intro fun _ => ?_
  simp -implicitDefEqProofs only [*, vmp,↓vmd,seval]
  refine onB_dec (fun h2 => ?_) (fun h2 => ?_)
  · simp -implicitDefEqProofs only [*, vmp,↓vmd,seval]
    rw [setF, if_pos (.inr h2)]
    exact gives_empty
  simp -implicitDefEqProofs only [set_at h1 h2, show 0 ≤ n by omega, *, vmp,↓vmd,seval]
  exact gives_pure
/-- the bits that two numbers share -/
abbrev andE (a b : Int) : Int := IntKind.wrap .i64 ((BitVec.ofInt (IntKind.bits .i64) a &&& BitVec.ofInt (IntKind.bits .i64) b).toNat : Int)
abbrev clsE (a : Int) : Int := IntKind.wrap .i64 (a.tdiv 256)
def marksF (f : Fo) (n fl g : Int) : Bool :=
  if andE fl 8 ≠ 0 then true else if andE fl 16 ≠ 0 ∧ g ∉ setF f n then true else decide (clsE fl ≠ 0) && decide (clsE fl ≠ (infoF f g).att)
theorem marks_q (f : Fo) (a b n fl g : Int) (s : V) : FnQ Try.prog 68 [fo f, lkV a b n s, I fl, I g] [.bool (marksF f n fl g)] := by
  refine q68 (by simp) ?_
  unfold c68
  simp -implicitDefEqProofs only [*, vmp,↓vmd,seval]
  by_cases h8 : andE fl 8 = 0
  · simp -implicitDefEqProofs only [h8, vmp,↓vmd,seval]
    -- the end of the function, behind the question of the set
    by_cases h16 : andE fl 16 = 0
    · have tail : marksF f n fl g = (decide (clsE fl ≠ 0) && decide (clsE fl ≠ (infoF f g).att)) := by simp [marksF, h8, h16]
      rw [tail]
      by_cases hc : clsE fl = 0
      · simp -implicitDefEqProofs only [h16, hc, vmp,↓vmd,seval]
        exact gives_pure
      · simp -implicitDefEqProofs only [h16, hc, vmp,↓vmd,seval]
        refine onC_q (attach_q f g) rfl ?_
        simp -implicitDefEqProofs only [h16, hc, vmp,↓vmd,seval]
        exact gives_pure
    · simp -implicitDefEqProofs only [h16, vmp,↓vmd,seval]
      have yes : g ∉ setF f n → marksF f n fl g = true := fun h => by simp [marksF, h8, h16, h]
      have tail : g ∈ setF f n → marksF f n fl g = (decide (clsE fl ≠ 0) && decide (clsE fl ≠ (infoF f g).att)) := fun h => by simp [marksF, h8, h]
      refine onB_dec (fun h1 => ?_) (fun h1 => ?_)
      · simp -implicitDefEqProofs only [h1, vmp,↓vmd,seval]
        refine onIf_intro fun _ => ?_
        simp -implicitDefEqProofs only [h1, vmp,↓vmd,seval]
        refine onB_dec (fun h2 => ?_) (fun h2 => ?_)
        · simp -implicitDefEqProofs only [h2, h1, set_at (f := f) (n := n) (by omega) (by omega), vmp,↓vmd,seval]
          refine onC_q (contains_q _ _) rfl ?_
          by_cases hm : g ∈ setF f n
          · rw [tail hm]
            by_cases hc : clsE fl = 0
            · simp -implicitDefEqProofs only [hm, hc, h1, h2, vmp,↓vmd,seval]
              exact gives_pure
            · simp -implicitDefEqProofs only [hm, hc, h1, h2, vmp,↓vmd,seval]
              refine onC_q (attach_q f g) rfl ?_
              simp -implicitDefEqProofs only [hc, vmp,↓vmd,seval]
              exact gives_pure
          · rw [yes hm]
            simp -implicitDefEqProofs only [hm, h1, h2, vmp,↓vmd,seval]
            exact gives_pure
        · rw [yes (by rw [setF, if_pos (.inr (by omega))]; simp)]
          simp -implicitDefEqProofs only [h2, vmp,↓vmd,seval]
          exact gives_pure
      · rw [yes (by rw [setF, if_pos (.inl (by omega))]; simp)]
        simp -implicitDefEqProofs only [h1, vmp,↓vmd,seval]
        exact gives_pure
  · simp -implicitDefEqProofs only [h8, vmp,↓vmd,seval]
    rw [show marksF f n fl g = true by simp [marksF, h8]]
    exact gives_pure
def skipsF (f : Fo) (b n g : Int) : Bool :=
  if (infoF f g).kind = 1 then decide (andE (max b 0) 2 ≠ 0) else if (infoF f g).kind = 2 then decide (andE (max b 0) 4 ≠ 0) else if (infoF f g).kind = 3 then marksF f n (max b 0) g else false
theorem skips_q (f : Fo) (a b n g : Int) (s : V) : FnQ Try.prog 49 [fo f, lkV a b n s, I g] [.bool (skipsF f b n g)] := by
  refine q49 (by simp) ?_
  unfold c49
  simp -implicitDefEqProofs only [*, vmp,↓vmd,seval]
  refine onC_q (kind_q f g) rfl ?_
  by_cases h1 : (infoF f g).kind = 1
  · rw [show skipsF f b n g = decide (andE (max b 0) 2 ≠ 0) by simp [skipsF, h1]]
    simp -implicitDefEqProofs only [h1, vmp,↓vmd,seval]
    exact gives_pure
  by_cases h2 : (infoF f g).kind = 2
  · rw [show skipsF f b n g = decide (andE (max b 0) 4 ≠ 0) by simp [skipsF, h2]]
    simp -implicitDefEqProofs only [h2, vmp,↓vmd,seval]
    exact gives_pure
  by_cases h3 : (infoF f g).kind = 3
  · rw [show skipsF f b n g = marksF f n (max b 0) g by simp [skipsF, h3]]
    simp -implicitDefEqProofs only [h3, vmp,↓vmd,seval]
    refine onC_q (marks_q f a b n _ g s) rfl ?_
    simp -implicitDefEqProofs only [vmp,↓vmd,seval]
    exact gives_pure
  · rw [show skipsF f b n g = false by simp [skipsF, h1, h2, h3]]
    simp -implicitDefEqProofs only [h1, h2, h3, vmp,↓vmd,seval]
    exact gives_pure
theorem rskips_q (f : Fo) (a b n g : Int) (s : V) : FnQ Try.prog 50 [fo f, lkV a b n s, I g] [.bool (skipsF f b n g)] := by
  refine q50 (by simp) ?_
  unfold c50
  simp -implicitDefEqProofs only [Int.max_comm 0 b, *, vmp,↓vmd,seval]
  refine onC_q (rkind_q f g) rfl ?_
  by_cases h1 : (infoF f g).kind = 1
  · rw [show skipsF f b n g = decide (andE (max b 0) 2 ≠ 0) by simp [skipsF, h1]]
    simp -implicitDefEqProofs only [h1, vmp,↓vmd,seval]
    exact gives_pure
  by_cases h2 : (infoF f g).kind = 2
  · rw [show skipsF f b n g = decide (andE (max b 0) 4 ≠ 0) by simp [skipsF, h2]]
    simp -implicitDefEqProofs only [h2, vmp,↓vmd,seval]
    exact gives_pure
  by_cases h3 : (infoF f g).kind = 3
  · rw [show skipsF f b n g = marksF f n (max b 0) g by simp [skipsF, h3]]
    generalize max b 0 = fl
    simp -implicitDefEqProofs only [h3, vmp,↓vmd,seval]
    by_cases h8 : andE fl 8 = 0
    · by_cases h16 : andE fl 16 = 0
      · have tail : marksF f n fl g = (decide (clsE fl ≠ 0) && decide (clsE fl ≠ (infoF f g).att)) := by simp [marksF, h8, h16]
        rw [tail]
        by_cases hc : clsE fl = 0
        · simp -implicitDefEqProofs only [h8, h16, hc, vmp,↓vmd,seval]
          exact gives_pure
        · simp -implicitDefEqProofs only [h8, h16, hc, vmp,↓vmd,seval]
          refine onC_q (rattach_q f g) rfl ?_
          rw [show decide (clsE fl ≠ (infoF f g).att) = decide ((infoF f g).att ≠ clsE fl) by rw [decide_eq_decide]; exact ne_comm]
          simp -implicitDefEqProofs only [h8, h16, hc, vmp,↓vmd,seval]
          exact gives_pure
      · simp -implicitDefEqProofs only [h8, h16, vmp,↓vmd,seval]
        refine onC_q (rset_q f a b n s) rfl ?_
        simp -implicitDefEqProofs only [h8, h16, vmp,↓vmd,seval]
        refine onC_q (in_q _ _) rfl ?_
        by_cases hm : g ∈ setF f n
        · have tail : marksF f n fl g = (decide (clsE fl ≠ 0) && decide (clsE fl ≠ (infoF f g).att)) := by simp [marksF, h8, hm]
          rw [tail]
          by_cases hc : clsE fl = 0
          · simp -implicitDefEqProofs only [h8, h16, hm, hc, vmp,↓vmd,seval]
            exact gives_pure
          · simp -implicitDefEqProofs only [h8, h16, hm, hc, vmp,↓vmd,seval]
            refine onC_q (rattach_q f g) rfl ?_
            rw [show decide (clsE fl ≠ (infoF f g).att) = decide ((infoF f g).att ≠ clsE fl) by rw [decide_eq_decide]; exact ne_comm]
            simp -implicitDefEqProofs only [hc, vmp,↓vmd,seval]
            exact gives_pure
        · rw [show marksF f n fl g = true by simp [marksF, h8, h16, hm]]
          simp -implicitDefEqProofs only [hm, h8, h16, vmp,↓vmd,seval]
          exact gives_pure
    · rw [show marksF f n fl g = true by simp [marksF, h8]]
      simp -implicitDefEqProofs only [h8, vmp,↓vmd,seval]
      exact gives_pure
  · rw [show skipsF f b n g = false by simp [skipsF, h1, h2, h3]]
    simp -implicitDefEqProofs only [h1, h2, h3, vmp,↓vmd,seval]
    exact gives_pure
end Go.Proofs.Ytcjmkpkhjhjepaa.W
