/-
  Ligatures: which one stands at a place: two functions, one answer. No condition but on sizes.
-/
import Derived.Test.YtbllbkhkmngclaaLiga2
namespace Go.Proofs.Ytbllbkhkmngclaa.W
open Go Go.Vm Go.Proofs
set_option maxRecDepth 100000
set_option linter.unusedSimpArgs false
set_option maxHeartbeats 4000000
/-! typecase/liga.follows -/
def c72_0 : AC :=
  (.seq (.reg [⟨some 44, none, .mov (.s 12)⟩,
    ⟨some 10, none, .mov (.s 44)⟩,
    ⟨some 11, none, .mov (.c (.pure (.bool true)))⟩])
  .ret)
def c72_1 : AC :=
  (.seq (.reg [⟨some 20, none, .bin .lss (.s 19) (.s 18)⟩])
  (.seq (.cond (.s 20)
  .skip
  (.exit 0))
  (.seq (.block 1
  (.seq (.reg [⟨some 21, none, .idxA 1 (.s 17) (.s 19)⟩,
    ⟨some 22, none, .load false 1 (.s 21)⟩,
    ⟨some 14, none, .mov (.s 22)⟩])
  (.seq (.reg [⟨some 23, none, .load true 6 (.s 5)⟩,
    ⟨some 24, none, .load true 4 (.s 6)⟩,
    ⟨some 25, none, .mov (.s 2)⟩,
    ⟨some 26, none, .mov (.s 3)⟩,
    ⟨some 27, none, .call 93 [(.s 23), (.s 24), (.s 25), (.s 26)]⟩,
    ⟨some 3, none, .mov (.s 27)⟩])
  (.seq (.seq (.reg [⟨some 28, none, .mov (.s 3)⟩,
    ⟨some 29, none, .bin .eql (.s 28) (.c (.pure (.int .i64 (-1))))⟩,
    ⟨some 30, none, .mov (.s 29)⟩,
    ⟨some 31, some (30, false), .mov (.s 2)⟩,
    ⟨some 32, some (30, false), .mov (.s 3)⟩,
    ⟨some 33, some (30, false), .idxA 10 (.s 31) (.s 32)⟩,
    ⟨some 34, some (30, false), .fldA 0 (.s 33)⟩,
    ⟨some 35, some (30, false), .load false 1 (.s 34)⟩,
    ⟨some 36, some (30, false), .mov (.s 14)⟩,
    ⟨some 37, some (30, false), .bin .neq (.s 35) (.s 36)⟩,
    ⟨some 38, none, .pick (.s 30) (.c (.pure (.bool true))) (.s 37)⟩])
  (.cond (.s 38)
  (.seq (.reg [⟨some 10, none, .mov (.c .empty)⟩,
    ⟨some 11, none, .mov (.c (.pure (.bool false)))⟩])
  .ret)
  .skip))
  (.reg [⟨some 39, none, .mov (.s 12)⟩,
    ⟨some 40, none, .mov (.s 3)⟩,
    ⟨some 41, none, .bslice 1 [(.s 40)]⟩,
    ⟨some 42, none, .app 1 8 (.s 39) (.s 41)⟩,
    ⟨some 12, none, .mov (.s 42)⟩])))))
  (.reg [⟨some 43, none, .bin .add (.s 19) (.c (.pure (.int .i64 1)))⟩,
    ⟨some 19, none, .mov (.s 43)⟩]))))
def c72 : AC :=
  (.seq (.reg [⟨some 5, none, .box (.s 0)⟩,
    ⟨some 6, none, .box (.s 1)⟩,
    ⟨some 10, none, .mov (.c .empty)⟩,
    ⟨some 11, none, .mov (.c (.pure (.bool false)))⟩])
  (.seq (.reg [⟨some 15, none, .mov (.s 3)⟩,
    ⟨some 16, none, .bslice 1 [(.s 15)]⟩,
    ⟨some 12, none, .mov (.s 16)⟩])
  (.seq (.seq (.reg [⟨some 17, none, .mov (.s 4)⟩,
    ⟨some 18, none, .len (.s 17)⟩,
    ⟨some 19, none, .mov (.c (.pure (.int .i64 0)))⟩])
  (.block 0
  (.loop c72_1)))
  c72_0)))
theorem k72 : (Try.f72.body.bind fun c => cCode Try.prog Try.f72.ntmps RCs c) = some c72 := by kernel_rfl
theorem h72 : (Try.f72.name == "runtime.NumGoroutine") = false := by kernel_rfl
theorem r72 : resC Try.prog Try.f72.results.toList = some [.t 10, .t 11] := by kernel_rfl
theorem a72 {args : List S} {H : Heap} {K : S → Heap → Prop} (hn : args.length ≤ 45) (h : aWx Try.prog H.length c72 (PostX [.t 10, .t 11] K) (argEnv 0 args) H) : CallA Try.prog 72 args H K :=
  callA_of_x mixed Try.func72 h72 k72 r72 (by rw [Try.ntmps72]; exact hn) h
theorem q72 {vs ds : List V} (hn : vs.length ≤ 45) (h : aWx Try.prog 0 c72 (PostX [.t 10, .t 11] (Gives ds)) (argEnv 0 (vs.map .pure)) []) : FnQ Try.prog 72 vs ds :=
  fnQ_of_call (a72 (by simpa using hn) h)
/-! typecase/typecaseref28.follows -/
def c73_0 : AC :=
  (.seq (.reg [⟨some 47, none, .mov (.s 12)⟩,
    ⟨some 10, none, .mov (.s 47)⟩,
    ⟨some 11, none, .mov (.c (.pure (.bool true)))⟩])
  .ret)
def c73_1 : AC :=
  (.seq (.seq (.reg [⟨some 16, none, .mov (.s 13)⟩,
    ⟨some 17, none, .fldA 0 (.s 9)⟩,
    ⟨some 18, none, .load false 1 (.s 17)⟩,
    ⟨some 19, none, .len (.s 18)⟩,
    ⟨some 20, none, .bin .lss (.s 16) (.s 19)⟩])
  (.cond (.s 20)
  .skip
  (.exit 0)))
  (.seq (.block 1
  (.seq (.reg [⟨some 23, none, .load true 6 (.s 5)⟩,
    ⟨some 24, none, .load true 4 (.s 6)⟩,
    ⟨some 25, none, .mov (.s 2)⟩,
    ⟨some 26, none, .mov (.s 3)⟩,
    ⟨some 27, none, .call 95 [(.s 23), (.s 24), (.s 25), (.s 26)]⟩,
    ⟨some 3, none, .mov (.s 27)⟩])
  (.seq (.seq (.regq [⟨some 28, none, .mov (.s 3)⟩,
    ⟨some 29, none, .bin .lss (.s 28) (.c (.pure (.int .i64 0)))⟩,
    ⟨some 30, none, .mov (.s 29)⟩,
    ⟨some 31, some (30, false), .mov (.s 2)⟩,
    ⟨some 32, some (30, false), .mov (.s 3)⟩,
    ⟨some 33, some (30, false), .idxA 10 (.s 31) (.s 32)⟩,
    ⟨some 34, some (30, false), .fldA 0 (.s 33)⟩,
    ⟨some 35, some (30, false), .load false 1 (.s 34)⟩,
    ⟨some 36, some (30, false), .fldA 0 (.s 9)⟩,
    ⟨some 37, some (30, false), .load false 1 (.s 36)⟩,
    ⟨some 38, some (30, false), .mov (.s 13)⟩,
    ⟨some 39, some (30, false), .idxA 1 (.s 37) (.s 38)⟩,
    ⟨some 40, some (30, false), .load false 1 (.s 39)⟩]
    [⟨some 41, some (30, false), .bin .neq (.s 35) (.s 40)⟩,
    ⟨some 42, none, .pick (.s 30) (.c (.pure (.bool true))) (.s 41)⟩])
  (.cond (.s 42)
  (.seq (.reg [⟨some 10, none, .mov (.c .empty)⟩,
    ⟨some 11, none, .mov (.c (.pure (.bool false)))⟩])
  .ret)
  .skip))
  (.reg [⟨some 43, none, .mov (.s 12)⟩,
    ⟨some 44, none, .mov (.s 3)⟩,
    ⟨some 45, none, .bslice 1 [(.s 44)]⟩,
    ⟨some 46, none, .app 1 8 (.s 43) (.s 45)⟩,
    ⟨some 12, none, .mov (.s 46)⟩]))))
  (.reg [⟨some 21, none, .mov (.s 13)⟩,
    ⟨some 22, none, .bin .add (.s 21) (.c (.pure (.int .i64 1)))⟩,
    ⟨some 13, none, .mov (.s 22)⟩])))
def c73 : AC :=
  (.seq (.reg [⟨some 5, none, .box (.s 0)⟩,
    ⟨some 6, none, .box (.s 1)⟩,
    ⟨some 9, none, .box (.s 4)⟩,
    ⟨some 10, none, .mov (.c .empty)⟩,
    ⟨some 11, none, .mov (.c (.pure (.bool false)))⟩])
  (.seq (.reg [⟨some 14, none, .mov (.s 3)⟩,
    ⟨some 15, none, .bslice 1 [(.s 14)]⟩,
    ⟨some 12, none, .mov (.s 15)⟩])
  (.seq (.seq (.reg [⟨some 13, none, .mov (.c (.pure (.int .i64 0)))⟩])
  (.block 0
  (.loop c73_1)))
  c73_0)))
theorem k73 : (Try.f73.body.bind fun c => cCode Try.prog Try.f73.ntmps RCs c) = some c73 := by kernel_rfl
theorem h73 : (Try.f73.name == "runtime.NumGoroutine") = false := by kernel_rfl
theorem r73 : resC Try.prog Try.f73.results.toList = some [.t 10, .t 11] := by kernel_rfl
theorem a73 {args : List S} {H : Heap} {K : S → Heap → Prop} (hn : args.length ≤ 48) (h : aWx Try.prog H.length c73 (PostX [.t 10, .t 11] K) (argEnv 0 args) H) : CallA Try.prog 73 args H K :=
  callA_of_x mixed Try.func73 h73 k73 r73 (by rw [Try.ntmps73]; exact hn) h
theorem q73 {vs ds : List V} (hn : vs.length ≤ 48) (h : aWx Try.prog 0 c73 (PostX [.t 10, .t 11] (Gives ds)) (argEnv 0 (vs.map .pure)) []) : FnQ Try.prog 73 vs ds :=
  fnQ_of_call (a73 (by simpa using hn) h)
/-! typecase/liga.Find -/
def c34_0 : AC :=
  (.seq (.reg [⟨some 50, none, .build [.empty, (.pure (.int .i64 0))] []⟩,
    ⟨none, none, .store 2 (.s 8) (.s 50)⟩,
    ⟨some 9, none, .mov (.c .empty)⟩,
    ⟨some 10, none, .mov (.c (.pure (.bool false)))⟩])
  .ret)
def c34_1 : AC :=
  (.seq (.reg [⟨some 33, none, .bin .lss (.s 32) (.s 31)⟩])
  (.seq (.cond (.s 33)
  .skip
  (.exit 0))
  (.seq (.block 1
  (.seq (.reg [⟨some 34, none, .idxA 2 (.s 30) (.s 32)⟩,
    ⟨some 35, none, .load true 2 (.s 34)⟩,
    ⟨some 12, none, .box (.c (.agg [.empty, (.pure (.int .i64 0))]))⟩,
    ⟨none, none, .store 2 (.s 12) (.s 35)⟩])
  (.seq (.reg [⟨some 37, none, .load true 6 (.s 4)⟩,
    ⟨some 38, none, .load true 4 (.s 5)⟩,
    ⟨some 39, none, .mov (.s 2)⟩,
    ⟨some 40, none, .mov (.s 3)⟩,
    ⟨some 41, none, .fldA 0 (.s 12)⟩,
    ⟨some 42, none, .load false 1 (.s 41)⟩,
    ⟨some 43, none, .call 72 [(.s 37), (.s 38), (.s 39), (.s 40), (.s 42)]⟩,
    ⟨some 36, none, .mov (.s 43)⟩,
    ⟨some 44, none, .ext 0 (.s 36)⟩,
    ⟨some 45, none, .ext 1 (.s 36)⟩,
    ⟨some 13, none, .mov (.s 44)⟩,
    ⟨some 14, none, .mov (.s 45)⟩])
  (.seq (.reg [⟨some 46, none, .mov (.s 14)⟩])
  (.cond (.s 46)
  (.seq (.reg [⟨some 47, none, .load true 2 (.s 12)⟩,
    ⟨some 48, none, .mov (.s 13)⟩,
    ⟨none, none, .store 2 (.s 8) (.s 47)⟩,
    ⟨some 9, none, .mov (.s 48)⟩,
    ⟨some 10, none, .mov (.c (.pure (.bool true)))⟩])
  .ret)
  .skip)))))
  (.reg [⟨some 49, none, .bin .add (.s 32) (.c (.pure (.int .i64 1)))⟩,
    ⟨some 32, none, .mov (.s 49)⟩]))))
def c34 : AC :=
  (.seq (.reg [⟨some 4, none, .box (.s 0)⟩,
    ⟨some 5, none, .box (.s 1)⟩,
    ⟨some 8, none, .box (.c (.agg [.empty, (.pure (.int .i64 0))]))⟩,
    ⟨some 9, none, .mov (.c .empty)⟩,
    ⟨some 10, none, .mov (.c (.pure (.bool false)))⟩])
  (.seq (.seq (.reg [⟨some 15, none, .mov (.s 3)⟩,
    ⟨some 16, none, .bin .lss (.s 15) (.c (.pure (.int .i64 0)))⟩,
    ⟨some 17, none, .mov (.s 16)⟩,
    ⟨some 18, some (17, false), .mov (.s 3)⟩,
    ⟨some 19, some (17, false), .mov (.s 2)⟩,
    ⟨some 20, some (17, false), .len (.s 19)⟩,
    ⟨some 21, some (17, false), .bin .geq (.s 18) (.s 20)⟩,
    ⟨some 22, none, .pick (.s 17) (.c (.pure (.bool true))) (.s 21)⟩])
  (.cond (.s 22)
  (.seq (.reg [⟨some 23, none, .build [.empty, (.pure (.int .i64 0))] []⟩,
    ⟨none, none, .store 2 (.s 8) (.s 23)⟩,
    ⟨some 9, none, .mov (.c .empty)⟩,
    ⟨some 10, none, .mov (.c (.pure (.bool false)))⟩])
  .ret)
  .skip))
  (.seq (.seq (.regq [⟨some 24, none, .load true 4 (.s 5)⟩,
    ⟨some 25, none, .mov (.s 2)⟩,
    ⟨some 26, none, .mov (.s 3)⟩,
    ⟨some 27, none, .idxA 10 (.s 25) (.s 26)⟩,
    ⟨some 28, none, .fldA 0 (.s 27)⟩,
    ⟨some 29, none, .load false 1 (.s 28)⟩,
    ⟨some 30, none, .call 41 [(.s 24), (.s 29)]⟩,
    ⟨some 31, none, .len (.s 30)⟩,
    ⟨some 32, none, .mov (.c (.pure (.int .i64 0)))⟩]
    [])
  (.block 0
  (.loop c34_1)))
  c34_0)))
theorem k34 : (Try.f34.body.bind fun c => cCode Try.prog Try.f34.ntmps RCs c) = some c34 := by kernel_rfl
theorem h34 : (Try.f34.name == "runtime.NumGoroutine") = false := by kernel_rfl
theorem r34 : resC Try.prog Try.f34.results.toList = some [.c 8 true 2, .t 9, .t 10] := by kernel_rfl
theorem a34 {args : List S} {H : Heap} {K : S → Heap → Prop} (hn : args.length ≤ 51) (h : aWx Try.prog H.length c34 (PostX [.c 8 true 2, .t 9, .t 10] K) (argEnv 0 args) H) : CallA Try.prog 34 args H K :=
  callA_of_x mixed Try.func34 h34 k34 r34 (by rw [Try.ntmps34]; exact hn) h
theorem q34 {vs ds : List V} (hn : vs.length ≤ 51) (h : aWx Try.prog 0 c34 (PostX [.c 8 true 2, .t 9, .t 10] (Gives ds)) (argEnv 0 (vs.map .pure)) []) : FnQ Try.prog 34 vs ds :=
  fnQ_of_call (a34 (by simpa using hn) h)
/-! typecase/typecaseref28.Find -/
def c35_0 : AC :=
  (.seq (.reg [⟨some 55, none, .build [.empty, (.pure (.int .i64 0))] []⟩,
    ⟨none, none, .store 2 (.s 8) (.s 55)⟩,
    ⟨some 9, none, .mov (.c .empty)⟩,
    ⟨some 10, none, .mov (.c (.pure (.bool false)))⟩])
  .ret)
def c35_1 : AC :=
  (.seq (.seq (.reg [⟨some 31, none, .mov (.s 12)⟩,
    ⟨some 32, none, .mov (.s 11)⟩,
    ⟨some 33, none, .len (.s 32)⟩,
    ⟨some 34, none, .bin .lss (.s 31) (.s 33)⟩])
  (.cond (.s 34)
  .skip
  (.exit 0)))
  (.seq (.block 1
  (.seq (.regq [⟨some 38, none, .load true 6 (.s 4)⟩,
    ⟨some 39, none, .load true 4 (.s 5)⟩,
    ⟨some 40, none, .mov (.s 2)⟩,
    ⟨some 41, none, .mov (.s 3)⟩,
    ⟨some 42, none, .mov (.s 11)⟩,
    ⟨some 43, none, .mov (.s 12)⟩,
    ⟨some 44, none, .idxA 2 (.s 42) (.s 43)⟩,
    ⟨some 45, none, .load true 2 (.s 44)⟩,
    ⟨some 46, none, .call 73 [(.s 38), (.s 39), (.s 40), (.s 41), (.s 45)]⟩,
    ⟨some 37, none, .mov (.s 46)⟩,
    ⟨some 47, none, .ext 0 (.s 37)⟩,
    ⟨some 48, none, .ext 1 (.s 37)⟩,
    ⟨some 13, none, .mov (.s 47)⟩]
    [⟨some 14, none, .mov (.s 48)⟩])
  (.seq (.reg [⟨some 49, none, .mov (.s 14)⟩])
  (.cond (.s 49)
  (.seq (.reg [⟨some 50, none, .mov (.s 11)⟩,
    ⟨some 51, none, .mov (.s 12)⟩,
    ⟨some 52, none, .idxA 2 (.s 50) (.s 51)⟩,
    ⟨some 53, none, .load true 2 (.s 52)⟩,
    ⟨some 54, none, .mov (.s 13)⟩,
    ⟨none, none, .store 2 (.s 8) (.s 53)⟩,
    ⟨some 9, none, .mov (.s 54)⟩,
    ⟨some 10, none, .mov (.c (.pure (.bool true)))⟩])
  .ret)
  .skip))))
  (.reg [⟨some 35, none, .mov (.s 12)⟩,
    ⟨some 36, none, .bin .add (.s 35) (.c (.pure (.int .i64 1)))⟩,
    ⟨some 12, none, .mov (.s 36)⟩])))
def c35 : AC :=
  (.seq (.reg [⟨some 4, none, .box (.s 0)⟩,
    ⟨some 5, none, .box (.s 1)⟩,
    ⟨some 8, none, .box (.c (.agg [.empty, (.pure (.int .i64 0))]))⟩,
    ⟨some 9, none, .mov (.c .empty)⟩,
    ⟨some 10, none, .mov (.c (.pure (.bool false)))⟩])
  (.seq (.seq (.reg [⟨some 15, none, .mov (.s 3)⟩,
    ⟨some 16, none, .bin .lss (.s 15) (.c (.pure (.int .i64 0)))⟩,
    ⟨some 17, none, .mov (.s 16)⟩,
    ⟨some 18, some (17, false), .mov (.s 3)⟩,
    ⟨some 19, some (17, false), .mov (.s 2)⟩,
    ⟨some 20, some (17, false), .len (.s 19)⟩,
    ⟨some 21, some (17, false), .bin .geq (.s 18) (.s 20)⟩,
    ⟨some 22, none, .pick (.s 17) (.c (.pure (.bool true))) (.s 21)⟩])
  (.cond (.s 22)
  (.seq (.reg [⟨some 23, none, .build [.empty, (.pure (.int .i64 0))] []⟩,
    ⟨none, none, .store 2 (.s 8) (.s 23)⟩,
    ⟨some 9, none, .mov (.c .empty)⟩,
    ⟨some 10, none, .mov (.c (.pure (.bool false)))⟩])
  .ret)
  .skip))
  (.seq (.regq [⟨some 24, none, .load true 4 (.s 5)⟩,
    ⟨some 25, none, .mov (.s 2)⟩,
    ⟨some 26, none, .mov (.s 3)⟩,
    ⟨some 27, none, .idxA 10 (.s 25) (.s 26)⟩,
    ⟨some 28, none, .fldA 0 (.s 27)⟩,
    ⟨some 29, none, .load false 1 (.s 28)⟩]
    [⟨some 30, none, .call 42 [(.s 24), (.s 29)]⟩,
    ⟨some 11, none, .mov (.s 30)⟩])
  (.seq (.seq (.reg [⟨some 12, none, .mov (.c (.pure (.int .i64 0)))⟩])
  (.block 0
  (.loop c35_1)))
  c35_0))))
theorem k35 : (Try.f35.body.bind fun c => cCode Try.prog Try.f35.ntmps RCs c) = some c35 := by kernel_rfl
theorem h35 : (Try.f35.name == "runtime.NumGoroutine") = false := by kernel_rfl
theorem r35 : resC Try.prog Try.f35.results.toList = some [.c 8 true 2, .t 9, .t 10] := by kernel_rfl
theorem a35 {args : List S} {H : Heap} {K : S → Heap → Prop} (hn : args.length ≤ 56) (h : aWx Try.prog H.length c35 (PostX [.c 8 true 2, .t 9, .t 10] K) (argEnv 0 args) H) : CallA Try.prog 35 args H K :=
  callA_of_x mixed Try.func35 h35 k35 r35 (by rw [Try.ntmps35]; exact hn) h
theorem q35 {vs ds : List V} (hn : vs.length ≤ 56) (h : aWx Try.prog 0 c35 (PostX [.c 8 true 2, .t 9, .t 10] (Gives ds)) (argEnv 0 (vs.map .pure)) []) : FnQ Try.prog 35 vs ds :=
  fnQ_of_call (a35 (by simpa using hn) h)

def nxF (f : Fo) (k : Lk) (ls : List Gl) (y : Int) : Int := nextF (seesF f k.flags k.set ls) ls.length y
theorem nxt_q (f : Fo) (k : Lk) (ls : List Gl) (hl : ls.length ≤ 1000) (y : Int) : FnQ Try.prog 93 [fo f, lk k, .sl (ls.map gl), I y] [I (nxF f k ls y)] := next_q f k.kind k.flags k.set (.sl (k.subs.map sub)) ls y hl
theorem rnxt_q (f : Fo) (k : Lk) (ls : List Gl) (hl : ls.length ≤ 1000) (y : Int) : FnQ Try.prog 95 [fo f, lk k, .sl (ls.map gl), I y] [I (nxF f k ls y)] := rnext_q f k.kind k.flags k.set (.sl (k.subs.map sub)) ls y hl
theorem nxF_in (f : Fo) (k : Lk) (ls : List Gl) (y : Int) : nxF f k ls y = -1 ∨ (y < nxF f k ls y ∧ 0 ≤ nxF f k ls y ∧ nxF f k ls y < ls.length) := nextF_gt
/-- the places of a ligature's further glyphs, behind a place -/
def folF (nx : Int → Int) (ls : List Gl) : Int → List Int → Option (List Int)
  | _, [] => some []
  | a, p :: r => if nx a = -1 ∨ ¬ (glAt ls (nx a)).id = p then none else (folF nx ls (nx a) r).map (nx a :: ·)
def folR (o : Option (List Int)) : List V := [LI (o.getD []), .bool o.isSome]
theorem follows_q (f : Fo) (k : Lk) (ls : List Gl) (hl : ls.length ≤ 1000) (x : Int) (ps : List Int) (hp : ps.length ≤ 40) :
    FnQ Try.prog 72 [fo f, lk k, .sl (ls.map gl), I x, LI ps] (folR ((folF (nxF f k ls) ls x ps).map (x :: ·))) := by
  refine q72 (by simp) ?_
  unfold c72
  simp -implicitDefEqProofs only [*, vmp,↓vmd,seval]
  refine onIf_intro fun _ => ?_
  first | refine envO (by simp -implicitDefEqProofs only [vmp,↓vmd,seval]; rfl) ?_ | refine envQ (by simp -implicitDefEqProofs only [vmp,↓vmd,seval]; rfl) ?_
  simp -implicitDefEqProofs only [vmp,↓vmd,seval]
  refine loop_at (T := Nat × Int × List Int) (fun y => [(19, .pure (I (y.1 : Int))), (18, .pure (I ps.length)), (17, .pure (LI ps)), (2, .pure (.sl (ls.map gl))), (3, .pure (I y.2.1)), (5, .ptr 0 0 0), (6, .ptr 1 0 0), (12, .rsl 2 0 y.2.2.length)])
    (fun y => [⟨[.pure (fo f)], 6, .live⟩, ⟨[.pure (lk k)], 4, .live⟩, ⟨(y.2.2.map I).map .pure, 1, .live⟩]) (fun y => y.1 ≤ ps.length ∧ y.2.2.length = y.1 + 1 ∧ (folF (nxF f k ls) ls y.2.1 (ps.drop y.1)).map (y.2.2 ++ ·) = (folF (nxF f k ls) ls x ps).map (x :: ·)) (fun y => ps.length - y.1)
    (0, x, [x]) [0, 1, 2] (by simp) rfl ⟨by simp, rfl, rfl⟩ (by simp -implicitDefEqProofs only [kpp,seval]) (by simp -implicitDefEqProofs only [kpp,seval]) ?_
  rintro ⟨j, a, acc⟩ ⟨hj, ho, hr⟩
  simp only at hj ho hr ⊢
  unfold c72_1
  generalize (folF (nxF f k ls) ls x ps).map (x :: ·) = out at *
  simp -implicitDefEqProofs only [vmp,↓vmd,seval]
  refine onB_dec (fun h1 => ?_) (fun h1 => ?_)
  · have hlt : j < ps.length := by omega
    rw [drop_at hlt, folF] at hr
    have hgj : (ps.map I)[j]? = some (I ps[j]) := map_at hlt
    generalize ps[j] = p at hr hgj
    simp -implicitDefEqProofs only [h1, hgj, Int.natCast_nonneg, vmp,↓vmd,seval]
    refine onC_q (nxt_q f k ls hl a) rfl ?_
    have hin := nxF_in f k ls a
    generalize nxF f k ls a = b at hr hin
    first | refine envO (by simp -implicitDefEqProofs only [vmp,↓vmd,seval]; rfl) ?_ | refine envQ (by simp -implicitDefEqProofs only [vmp,↓vmd,seval]; rfl) ?_
    rcases hin with rfl | ⟨_, b0, b1⟩
    · rw [if_pos (.inl rfl), Option.map_none] at hr
      subst hr
      simp -implicitDefEqProofs only [vmp,↓vmd,seval]
      exact gives_tup rfl (by simp)
    have hne : ¬ b = -1 := by omega
    have hgb := glAt_map b0 b1
    simp -implicitDefEqProofs only [hne, b0, hgb, vmp,↓vmd,seval]
    refine onB_dec (fun h2 => ?_) (fun h2 => ?_)
    · rw [if_pos (.inr h2), Option.map_none] at hr
      subst hr
      simp -implicitDefEqProofs only [h2, vmp,↓vmd,seval]
      exact gives_tup rfl (by simp)
    · have h2' : (glAt ls b).id = p := Classical.not_not.1 h2
      rw [if_neg (by rintro (e | e); exact hne e; exact h2 e), Option.map_map] at hr
      simp -implicitDefEqProofs only [h2', vmp,↓vmd,seval]
      refine onIf'_intro (appOk_one rfl rfl (by simp) (by omega) (by simp [maxLen]; omega)) ?_
      first | refine envO (by simp -implicitDefEqProofs only [vmp,↓vmd,seval]; rfl) ?_ | refine envQ (by simp -implicitDefEqProofs only [vmp,↓vmd,seval]; rfl) ?_
      simp -implicitDefEqProofs only [vmp,↓vmd,seval]
      refine onBk_to (j + 1, b, acc ++ [b]) [0, 1, 4] (by simp) rfl (by simp only; omega) ⟨hlt, by simp [ho], by rw [← hr]; congr 1; funext l; simp⟩ (by simp -implicitDefEqProofs only [next_at hlt (by omega), kpp,seval]) (by simp -implicitDefEqProofs only [kpp,seval])
  · rw [List.drop_of_length_le (by omega), folF] at hr
    simp only [Option.map_some, List.append_nil] at hr
    subst hr
    simp -implicitDefEqProofs only [h1, vmp,↓vmd,seval]
    unfold c72_0
    simp -implicitDefEqProofs only [vmp,↓vmd,seval]
    exact gives_tup (toVs_of (toV_rowN rfl (.inr ⟨rfl, rfl⟩) rfl) rfl) (by simp)
theorem rfollows_q (f : Fo) (k : Lk) (ls : List Gl) (hl : ls.length ≤ 1000) (x : Int) (y : Lg) (hp : y.parts.length ≤ 40) :
    FnQ Try.prog 73 [fo f, lk k, .sl (ls.map gl), I x, lg y] (folR ((folF (nxF f k ls) ls x y.parts).map (x :: ·))) := by
  refine q73 (by simp) ?_
  unfold c73
  obtain ⟨ps, g⟩ := y
  simp only at hp ⊢
  simp -implicitDefEqProofs only [*, vmp,↓vmd,seval]
  refine loop_at (T := Nat × Int × List Int) (fun y => [(13, .pure (I (y.1 : Int))), (2, .pure (.sl (ls.map gl))), (3, .pure (I y.2.1)), (5, .ptr 0 0 0), (6, .ptr 1 0 0), (9, .ptr 2 0 0), (12, .rsl 3 0 y.2.2.length)])
    (fun y => [⟨[.pure (fo f)], 6, .live⟩, ⟨[.pure (lk k)], 4, .live⟩, ⟨[.pure (lg ⟨ps, g⟩)], 2, .live⟩, ⟨(y.2.2.map I).map .pure, 1, .live⟩]) (fun y => y.1 ≤ ps.length ∧ y.2.2.length = y.1 + 1 ∧ (folF (nxF f k ls) ls y.2.1 (ps.drop y.1)).map (y.2.2 ++ ·) = (folF (nxF f k ls) ls x ps).map (x :: ·)) (fun y => ps.length - y.1)
    (0, x, [x]) [0, 1, 2, 3] (by simp) rfl ⟨by simp, rfl, rfl⟩ (by simp -implicitDefEqProofs only [kpp,seval]) (by simp -implicitDefEqProofs only [kpp,seval]) ?_
  rintro ⟨j, a, acc⟩ ⟨hj, ho, hr⟩
  simp only at hj ho hr ⊢
  unfold c73_1
  generalize (folF (nxF f k ls) ls x ps).map (x :: ·) = out at *
  simp -implicitDefEqProofs only [vmp,↓vmd,seval]
  refine onIf_intro fun _ => ?_
  first | refine envO (by simp -implicitDefEqProofs only [vmp,↓vmd,seval]; rfl) ?_ | refine envQ (by simp -implicitDefEqProofs only [vmp,↓vmd,seval]; rfl) ?_
  simp -implicitDefEqProofs only [vmp,↓vmd,seval]
  refine onB_dec (fun h1 => ?_) (fun h1 => ?_)
  · have hlt : j < ps.length := by omega
    rw [drop_at hlt, folF] at hr
    have hgj : (ps.map I)[j]? = some (I ps[j]) := map_at hlt
    generalize ps[j] = p at hr hgj
    simp -implicitDefEqProofs only [h1, vmp,↓vmd,seval]
    refine onC_q (rnxt_q f k ls hl a) rfl ?_
    have hin := nxF_in f k ls a
    generalize nxF f k ls a = b at hr hin
    first | refine envO (by simp -implicitDefEqProofs only [vmp,↓vmd,seval]; rfl) ?_ | refine envQ (by simp -implicitDefEqProofs only [vmp,↓vmd,seval]; rfl) ?_
    rcases hin with rfl | ⟨_, b0, b1⟩
    · rw [if_pos (.inl rfl), Option.map_none] at hr
      subst hr
      simp -implicitDefEqProofs only [vmp,↓vmd,seval]
      exact gives_tup rfl (by simp)
    have hne : ¬ b = -1 := by omega
    have hn0 : ¬ b < 0 := by omega
    have hgb := glAt_map b0 b1
    simp -implicitDefEqProofs only [vmp,↓vmd,seval]
    refine onB_neg hn0 ?_
    first | refine envO (by simp -implicitDefEqProofs only [hn0, vmp,↓vmd,seval]; rfl) ?_ | refine envQ (by simp -implicitDefEqProofs only [hn0, vmp,↓vmd,seval]; rfl) ?_
    simp -implicitDefEqProofs only [b0, hgb, hgj, Int.natCast_nonneg, vmp,↓vmd,seval]
    refine onB_dec (fun h2 => ?_) (fun h2 => ?_)
    · rw [if_pos (.inr h2), Option.map_none] at hr
      subst hr
      simp -implicitDefEqProofs only [h2, vmp,↓vmd,seval]
      exact gives_tup rfl (by simp)
    · have h2' : (glAt ls b).id = p := Classical.not_not.1 h2
      rw [if_neg (by rintro (e | e); exact hne e; exact h2 e), Option.map_map] at hr
      simp -implicitDefEqProofs only [h2', vmp,↓vmd,seval]
      refine onIf'_intro (appOk_one rfl rfl (by simp) (by omega) (by simp [maxLen]; omega)) ?_
      first | refine envO (by simp -implicitDefEqProofs only [vmp,↓vmd,seval]; rfl) ?_ | refine envQ (by simp -implicitDefEqProofs only [vmp,↓vmd,seval]; rfl) ?_
      simp -implicitDefEqProofs only [vmp,↓vmd,seval]
      refine onBk_to (j + 1, b, acc ++ [b]) [0, 1, 2, 5] (by simp) rfl (by simp only; omega) ⟨hlt, by simp [ho], by rw [← hr]; congr 1; funext l; simp⟩ (by simp -implicitDefEqProofs only [next_at hlt (by omega), kpp,seval]) (by simp -implicitDefEqProofs only [kpp,seval])
  · rw [List.drop_of_length_le (by omega), folF] at hr
    simp only [Option.map_some, List.append_nil] at hr
    subst hr
    simp -implicitDefEqProofs only [h1, vmp,↓vmd,seval]
    unfold c73_0
    simp -implicitDefEqProofs only [vmp,↓vmd,seval]
    exact gives_tup (toVs_of (toV_rowN rfl (.inr ⟨rfl, rfl⟩) rfl) rfl) (by simp)
/-- the first ligature that stands at a place -/
def findL (nx : Int → Int) (ls : List Gl) (x : Int) : List Lg → Option (Lg × List Int)
  | [] => none
  | y :: r => match folF nx ls x y.parts with
    | some q => some (y, x :: q)
    | none => findL nx ls x r
def findF (f : Fo) (k : Lk) (ls : List Gl) (x : Int) : Option (Lg × List Int) := if 0 ≤ x ∧ x < ls.length then findL (nxF f k ls) ls x (partsL k.subs (glAt ls x).id) else none
def findR (o : Option (Lg × List Int)) : List V := [lg ((o.map (·.1)).getD ⟨[], 0⟩), LI ((o.map (·.2)).getD []), .bool o.isSome]
theorem find_q (f : Fo) (k : Lk) (hs : SmallL k) (ls : List Gl) (hl : ls.length ≤ 1000) (x : Int) : FnQ Try.prog 34 [fo f, lk k, .sl (ls.map gl), I x] (findR (findF f k ls x)) := by
  refine q34 (by simp) ?_
  unfold c34
  have hf : findF f k ls x = if 0 ≤ x ∧ x < ls.length then findL (nxF f k ls) ls x (partsL k.subs (glAt ls x).id) else none := rfl
  generalize findF f k ls x = out at *
  simp -implicitDefEqProofs only [vmp,↓vmd,seval]
  refine onB_dec (fun h1 => ?_) (fun h1 => ?_)
  · rw [if_neg (by omega)] at hf
    subst hf
    simp -implicitDefEqProofs only [h1, vmp,↓vmd,seval]
    exact gives_tup rfl (by simp)
  simp -implicitDefEqProofs only [h1, vmp,↓vmd,seval]
  refine onIf_intro fun _ => ?_
  first | refine envO (by simp -implicitDefEqProofs only [h1, vmp,↓vmd,seval]; rfl) ?_ | refine envQ (by simp -implicitDefEqProofs only [h1, vmp,↓vmd,seval]; rfl) ?_
  simp -implicitDefEqProofs only [h1, vmp,↓vmd,seval]
  refine onB_dec (fun h2 => ?_) (fun h2 => ?_)
  · rw [if_neg (by omega)] at hf
    subst hf
    simp -implicitDefEqProofs only [h2, vmp,↓vmd,seval]
    exact gives_tup rfl (by simp)
  have x0 : 0 ≤ x := by omega
  have x1 : x < ls.length := by omega
  have hgx := glAt_map x0 x1
  rw [if_pos ⟨x0, x1⟩] at hf
  simp -implicitDefEqProofs only [h2, x0, hgx, vmp,↓vmd,seval]
  refine onQ_q (parts_q k hs (glAt ls x).id) rfl ?_
  have hlen : (partsL k.subs (glAt ls x).id).length ≤ 60 := partsL_len hs.row
  have hpar : ∀ y ∈ partsL k.subs (glAt ls x).id, y.parts.length ≤ 40 := fun y hy => by
    obtain ⟨s, h3, z, h4, h5⟩ := partsL_in hy
    exact hs.parts s h3 z h4 y h5
  generalize partsL k.subs (glAt ls x).id = L at *
  first | refine envO (by simp -implicitDefEqProofs only [h1, h2, vmp,↓vmd,seval]; rfl) ?_ | refine envQ (by simp -implicitDefEqProofs only [h1, h2, vmp,↓vmd,seval]; rfl) ?_
  simp -implicitDefEqProofs only [vmp,↓vmd,seval]
  refine loop_at (T := Nat) (fun i => [(32, .pure (I i)), (31, .pure (I L.length)), (30, .pure (.sl (L.map lg))), (2, .pure (.sl (ls.map gl))), (3, .pure (I x)), (4, .ptr 0 0 0), (5, .ptr 1 0 0), (8, .ptr 2 0 0)])
    (fun _ => [⟨[.pure (fo f)], 6, .live⟩, ⟨[.pure (lk k)], 4, .live⟩, ⟨[.agg [.empty, .pure (I 0)]], 2, .live⟩]) (fun i => i ≤ L.length ∧ findL (nxF f k ls) ls x (L.drop i) = out) (fun i => L.length - i)
    0 [0, 1, 2] (by simp) rfl ⟨by simp, by simp [hf]⟩ (by simp -implicitDefEqProofs only [kpp,seval]) (by simp -implicitDefEqProofs only [kpp,seval]) ?_
  rintro i ⟨hi, hr⟩
  unfold c34_1
  simp -implicitDefEqProofs only [vmp,↓vmd,seval]
  refine onB_dec (fun h3 => ?_) (fun h3 => ?_)
  · have hlt : i < L.length := by omega
    rw [drop_at hlt, findL] at hr
    have hgi : (L.map lg)[i]? = some (lg L[i]) := map_at hlt
    have hpi := hpar L[i] (List.getElem_mem _)
    generalize L[i] = y at hr hgi hpi
    simp -implicitDefEqProofs only [h3, hgi, Int.natCast_nonneg, vmp,↓vmd,seval]
    refine onC_q (follows_q f k ls hl x y.parts hpi) rfl ?_
    generalize folF (nxF f k ls) ls x y.parts = o at hr
    cases o with
    | none =>
      simp only at hr
      first | refine envO (by simp -implicitDefEqProofs only [vmp,↓vmd,seval]; rfl) ?_ | refine envQ (by simp -implicitDefEqProofs only [vmp,↓vmd,seval]; rfl) ?_
      simp -implicitDefEqProofs only [folR, Option.map_none, Option.getD_none, Option.isSome_none, vmp,↓vmd,seval]
      refine onBk_to (i + 1) [0, 1, 2] (by simp) rfl (by omega) ⟨hlt, hr⟩ (by simp -implicitDefEqProofs only [next_at hlt (by omega), kpp,seval]) (by simp -implicitDefEqProofs only [kpp,seval])
    | some q =>
      simp only at hr
      subst hr
      first | refine envO (by simp -implicitDefEqProofs only [vmp,↓vmd,seval]; rfl) ?_ | refine envQ (by simp -implicitDefEqProofs only [vmp,↓vmd,seval]; rfl) ?_
      simp -implicitDefEqProofs only [folR, Option.map_some, Option.getD_some, Option.isSome_some, vmp,↓vmd,seval]
      exact gives_tup rfl (by simp)
  · rw [List.drop_of_length_le (by omega), findL] at hr
    subst hr
    simp -implicitDefEqProofs only [h3, vmp,↓vmd,seval]
    unfold c34_0
    simp -implicitDefEqProofs only [vmp,↓vmd,seval]
    exact gives_tup rfl (by simp)
theorem rfind_q (f : Fo) (k : Lk) (hs : SmallL k) (ls : List Gl) (hl : ls.length ≤ 1000) (x : Int) : FnQ Try.prog 35 [fo f, lk k, .sl (ls.map gl), I x] (findR (findF f k ls x)) := by
  refine q35 (by simp) ?_
  unfold c35
  have hf : findF f k ls x = if 0 ≤ x ∧ x < ls.length then findL (nxF f k ls) ls x (partsL k.subs (glAt ls x).id) else none := rfl
  generalize findF f k ls x = out at *
  simp -implicitDefEqProofs only [vmp,↓vmd,seval]
  refine onB_dec (fun h1 => ?_) (fun h1 => ?_)
  · rw [if_neg (by omega)] at hf
    subst hf
    simp -implicitDefEqProofs only [h1, vmp,↓vmd,seval]
    exact gives_tup rfl (by simp)
  simp -implicitDefEqProofs only [h1, vmp,↓vmd,seval]
  refine onIf_intro fun _ => ?_
  first | refine envO (by simp -implicitDefEqProofs only [h1, vmp,↓vmd,seval]; rfl) ?_ | refine envQ (by simp -implicitDefEqProofs only [h1, vmp,↓vmd,seval]; rfl) ?_
  simp -implicitDefEqProofs only [h1, vmp,↓vmd,seval]
  refine onB_dec (fun h2 => ?_) (fun h2 => ?_)
  · rw [if_neg (by omega)] at hf
    subst hf
    simp -implicitDefEqProofs only [h2, vmp,↓vmd,seval]
    exact gives_tup rfl (by simp)
  have x0 : 0 ≤ x := by omega
  have x1 : x < ls.length := by omega
  have hgx := glAt_map x0 x1
  rw [if_pos ⟨x0, x1⟩] at hf
  simp -implicitDefEqProofs only [h2, x0, hgx, vmp,↓vmd,seval]
  refine onC_q (rparts_q k hs (glAt ls x).id) rfl ?_
  have hlen : (partsL k.subs (glAt ls x).id).length ≤ 60 := partsL_len hs.row
  have hpar : ∀ y ∈ partsL k.subs (glAt ls x).id, y.parts.length ≤ 40 := fun y hy => by
    obtain ⟨s, h3, z, h4, h5⟩ := partsL_in hy
    exact hs.parts s h3 z h4 y h5
  generalize partsL k.subs (glAt ls x).id = L at *
  first | refine envO (by simp -implicitDefEqProofs only [h1, h2, vmp,↓vmd,seval]; rfl) ?_ | refine envQ (by simp -implicitDefEqProofs only [h1, h2, vmp,↓vmd,seval]; rfl) ?_
  simp -implicitDefEqProofs only [vmp,↓vmd,seval]
  refine loop_at (T := Nat) (fun i => [(12, .pure (I i)), (11, .pure (.sl (L.map lg))), (2, .pure (.sl (ls.map gl))), (3, .pure (I x)), (4, .ptr 0 0 0), (5, .ptr 1 0 0), (8, .ptr 2 0 0)])
    (fun _ => [⟨[.pure (fo f)], 6, .live⟩, ⟨[.pure (lk k)], 4, .live⟩, ⟨[.agg [.empty, .pure (I 0)]], 2, .live⟩]) (fun i => i ≤ L.length ∧ findL (nxF f k ls) ls x (L.drop i) = out) (fun i => L.length - i)
    0 [0, 1, 2] (by simp) rfl ⟨by simp, by simp [hf]⟩ (by simp -implicitDefEqProofs only [kpp,seval]) (by simp -implicitDefEqProofs only [kpp,seval]) ?_
  rintro i ⟨hi, hr⟩
  unfold c35_1
  simp -implicitDefEqProofs only [vmp,↓vmd,seval]
  refine onIf_intro fun _ => ?_
  first | refine envO (by simp -implicitDefEqProofs only [vmp,↓vmd,seval]; rfl) ?_ | refine envQ (by simp -implicitDefEqProofs only [vmp,↓vmd,seval]; rfl) ?_
  simp -implicitDefEqProofs only [vmp,↓vmd,seval]
  refine onB_dec (fun h3 => ?_) (fun h3 => ?_)
  · have hlt : i < L.length := by omega
    rw [drop_at hlt, findL] at hr
    have hgi : (L.map lg)[i]? = some (lg L[i]) := map_at hlt
    have hpi := hpar L[i] (List.getElem_mem _)
    generalize L[i] = y at hr hgi hpi
    simp -implicitDefEqProofs only [h3, hgi, Int.natCast_nonneg, vmp,↓vmd,seval]
    refine onQ_q (rfollows_q f k ls hl x y hpi) rfl ?_
    generalize folF (nxF f k ls) ls x y.parts = o at hr
    cases o with
    | none =>
      simp only at hr
      first | refine envO (by simp -implicitDefEqProofs only [vmp,↓vmd,seval]; rfl) ?_ | refine envQ (by simp -implicitDefEqProofs only [vmp,↓vmd,seval]; rfl) ?_
      simp -implicitDefEqProofs only [folR, Option.map_none, Option.getD_none, Option.isSome_none, vmp,↓vmd,seval]
      refine onBk_to (i + 1) [0, 1, 2] (by simp) rfl (by omega) ⟨hlt, hr⟩ (by simp -implicitDefEqProofs only [next_at hlt (by omega), kpp,seval]) (by simp -implicitDefEqProofs only [kpp,seval])
    | some q =>
      simp only at hr
      subst hr
      first | refine envO (by simp -implicitDefEqProofs only [vmp,↓vmd,seval]; rfl) ?_ | refine envQ (by simp -implicitDefEqProofs only [vmp,↓vmd,seval]; rfl) ?_
      simp -implicitDefEqProofs only [folR, Option.map_some, Option.getD_some, Option.isSome_some, hgi, Int.natCast_nonneg, vmp,↓vmd,seval]
      exact gives_tup rfl (by simp)
  · rw [List.drop_of_length_le (by omega), findL] at hr
    subst hr
    simp -implicitDefEqProofs only [h3, vmp,↓vmd,seval]
    unfold c35_0
    simp -implicitDefEqProofs only [vmp,↓vmd,seval]
    exact gives_tup rfl (by simp)
end Go.Proofs.Ytbllbkhkmngclaa.W
