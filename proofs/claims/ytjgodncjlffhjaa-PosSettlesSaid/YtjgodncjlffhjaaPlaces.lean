/-
  The law PosSettles: what its function does, and what all that it calls does, for every input. No condition.
-/
import Derived.Test.YtjgodncjlffhjaaSettle
namespace Go.Proofs.Ytjgodncjlffhjaa.W
open Go Go.Vm Go.Proofs
set_option maxRecDepth 100000
set_option linter.unusedSimpArgs false
set_option maxHeartbeats 1000000
/-! typecase/typecaseref35.Same -/
def c55_0 : AC :=
  (.seq (.reg [⟨some 4, none, .mov (.c (.pure (.bool true)))⟩])
  .ret)
def c55_1 : AC :=
  (.seq (.seq (.reg [⟨some 11, none, .mov (.s 5)⟩,
    ⟨some 12, none, .mov (.s 0)⟩,
    ⟨some 13, none, .len (.s 12)⟩,
    ⟨some 14, none, .bin .lss (.s 11) (.s 13)⟩])
  (.cond (.s 14)
  .skip
  (.exit 0)))
  (.seq (.block 1
  (.seq (.regq [⟨some 17, none, .mov (.s 0)⟩,
    ⟨some 18, none, .mov (.s 5)⟩,
    ⟨some 19, none, .idxA 2 (.s 17) (.s 18)⟩,
    ⟨some 20, none, .load true 2 (.s 19)⟩,
    ⟨some 21, none, .mov (.s 1)⟩,
    ⟨some 22, none, .mov (.s 5)⟩,
    ⟨some 23, none, .idxA 2 (.s 21) (.s 22)⟩,
    ⟨some 24, none, .load true 2 (.s 23)⟩]
    [⟨some 25, none, .eqv true [.i, .i] (.s 20) (.s 24)⟩])
  (.cond (.s 25)
  (.seq (.reg [⟨some 4, none, .mov (.c (.pure (.bool false)))⟩])
  .ret)
  .skip)))
  (.reg [⟨some 15, none, .mov (.s 5)⟩,
    ⟨some 16, none, .bin .add (.s 15) (.c (.pure (.int .i64 1)))⟩,
    ⟨some 5, none, .mov (.s 16)⟩])))
def c55 : AC :=
  (.seq (.reg [⟨some 4, none, .mov (.c (.pure (.bool false)))⟩])
  (.seq (.seq (.reg [⟨some 6, none, .mov (.s 0)⟩,
    ⟨some 7, none, .len (.s 6)⟩,
    ⟨some 8, none, .mov (.s 1)⟩,
    ⟨some 9, none, .len (.s 8)⟩,
    ⟨some 10, none, .bin .neq (.s 7) (.s 9)⟩])
  (.cond (.s 10)
  (.seq (.reg [⟨some 4, none, .mov (.c (.pure (.bool false)))⟩])
  .ret)
  .skip))
  (.seq (.seq (.reg [⟨some 5, none, .mov (.c (.pure (.int .i64 0)))⟩])
  (.block 0
  (.loop c55_1)))
  c55_0)))
theorem k55 : (Try.f55.body.bind fun c => cCode Try.prog Try.f55.ntmps RCs c) = some c55 := by kernel_rfl
theorem h55 : (Try.f55.name == "runtime.NumGoroutine") = false := by kernel_rfl
theorem r55 : resC Try.prog Try.f55.results.toList = some [.t 4] := by kernel_rfl
theorem a55 {args : List S} {H : Heap} {K : S → Heap → Prop} (hn : args.length ≤ 26) (h : aWx Try.prog H.length c55 (PostX [.t 4] K) (argEnv 0 args) H) : CallA Try.prog 55 args H K :=
  callA_of_x mixed Try.func55 h55 k55 r55 (by rw [Try.ntmps55]; exact hn) h
theorem q55 {vs ds : List V} (hn : vs.length ≤ 26) (h : aWx Try.prog 0 c55 (PostX [.t 4] (Gives ds)) (argEnv 0 (vs.map .pure)) []) : FnQ Try.prog 55 vs ds :=
  fnQ_of_call (a55 (by simpa using hn) h)
/-! typecase/pos.Places -/
def c56_0 : AC :=
  (.seq (.reg [⟨some 52, none, .mov (.s 3)⟩,
    ⟨some 2, none, .mov (.s 52)⟩])
  .ret)
def c56_1 : AC :=
  (.seq (.reg [⟨some 15, none, .bin .lss (.s 14) (.s 13)⟩])
  (.seq (.cond (.s 15)
  .skip
  (.exit 0))
  (.seq (.block 1
  (.seq (.reg [⟨some 16, none, .mov (.s 14)⟩,
    ⟨some 17, none, .idxA 10 (.s 12) (.s 14)⟩,
    ⟨some 18, none, .load true 10 (.s 17)⟩,
    ⟨some 7, none, .box (.c (.pure (.agg [(.int .i64 0), (.int .i64 0), (.int .i64 0), (.int .i64 0), (.int .i64 0), (.int .i64 0), (.int .i64 0), (.int .i64 0), (.int .i64 0), (.int .i64 0)])))⟩,
    ⟨some 6, none, .mov (.s 16)⟩,
    ⟨none, none, .store 10 (.s 7) (.s 18)⟩])
  (.seq (.reg [⟨some 19, none, .mov (.s 4)⟩,
    ⟨some 20, none, .mov (.s 6)⟩,
    ⟨some 21, none, .mov (.s 5)⟩,
    ⟨some 22, none, .idxA 1 (.s 19) (.s 20)⟩,
    ⟨none, none, .store 1 (.s 22) (.s 21)⟩])
  (.seq (.seq (.reg [⟨some 23, none, .fldA 5 (.s 7)⟩,
    ⟨some 24, none, .load false 1 (.s 23)⟩,
    ⟨some 25, none, .bin .neq (.s 24) (.c (.pure (.int .i64 (-1))))⟩])
  (.cond (.s 25)
  (.reg [⟨some 26, none, .mov (.s 4)⟩,
    ⟨some 27, none, .mov (.s 6)⟩,
    ⟨some 28, none, .mov (.s 4)⟩,
    ⟨some 29, none, .fldA 5 (.s 7)⟩,
    ⟨some 30, none, .load false 1 (.s 29)⟩,
    ⟨some 31, none, .idxA 1 (.s 28) (.s 30)⟩,
    ⟨some 32, none, .load false 1 (.s 31)⟩,
    ⟨some 33, none, .idxA 1 (.s 26) (.s 27)⟩,
    ⟨none, none, .store 1 (.s 33) (.s 32)⟩])
  .skip))
  (.seq (.reg [⟨some 34, none, .mov (.s 5)⟩,
    ⟨some 35, none, .fldA 2 (.s 7)⟩,
    ⟨some 36, none, .load false 1 (.s 35)⟩,
    ⟨some 37, none, .bin .add (.s 34) (.s 36)⟩,
    ⟨some 5, none, .mov (.s 37)⟩])
  (.regq [⟨some 38, none, .mov (.s 3)⟩,
    ⟨some 39, none, .mov (.s 4)⟩,
    ⟨some 40, none, .mov (.s 6)⟩,
    ⟨some 41, none, .idxA 1 (.s 39) (.s 40)⟩,
    ⟨some 42, none, .load false 1 (.s 41)⟩,
    ⟨some 43, none, .fldA 3 (.s 7)⟩,
    ⟨some 44, none, .load false 1 (.s 43)⟩,
    ⟨some 45, none, .bin .add (.s 42) (.s 44)⟩,
    ⟨some 46, none, .fldA 4 (.s 7)⟩,
    ⟨some 47, none, .load false 1 (.s 46)⟩,
    ⟨some 48, none, .build [(.pure (.int .i64 0)), (.pure (.int .i64 0))] [(0, 1, (.s 45)), (1, 1, (.s 47))]⟩,
    ⟨some 49, none, .bslice 2 [(.s 48)]⟩]
    [⟨some 50, none, .app 2 16 (.s 38) (.s 49)⟩,
    ⟨some 3, none, .mov (.s 50)⟩]))))))
  (.reg [⟨some 51, none, .bin .add (.s 14) (.c (.pure (.int .i64 1)))⟩,
    ⟨some 14, none, .mov (.s 51)⟩]))))
def c56 : AC :=
  (.seq (.reg [⟨some 2, none, .mov (.c .empty)⟩])
  (.seq (.reg [⟨some 3, none, .mov (.c .empty)⟩])
  (.seq (.reg [⟨some 8, none, .mov (.s 0)⟩,
    ⟨some 9, none, .len (.s 8)⟩,
    ⟨some 10, none, .mksl 1 8 (.pure (.int .i64 0)) (.s 9)⟩,
    ⟨some 4, none, .mov (.s 10)⟩])
  (.seq (.reg [⟨some 5, none, .mov (.c (.pure (.int .i64 0)))⟩])
  (.seq (.seq (.reg [⟨some 11, none, .mov (.s 0)⟩,
    ⟨some 12, none, .call 53 [(.s 11)]⟩,
    ⟨some 13, none, .len (.s 12)⟩,
    ⟨some 14, none, .mov (.c (.pure (.int .i64 0)))⟩])
  (.block 0
  (.loop c56_1)))
  c56_0)))))
theorem k56 : (Try.f56.body.bind fun c => cCode Try.prog Try.f56.ntmps RCs c) = some c56 := by kernel_rfl
theorem h56 : (Try.f56.name == "runtime.NumGoroutine") = false := by kernel_rfl
theorem r56 : resC Try.prog Try.f56.results.toList = some [.t 2] := by kernel_rfl
theorem a56 {args : List S} {H : Heap} {K : S → Heap → Prop} (hn : args.length ≤ 53) (h : aWx Try.prog H.length c56 (PostX [.t 2] K) (argEnv 0 args) H) : CallA Try.prog 56 args H K :=
  callA_of_x mixed Try.func56 h56 k56 r56 (by rw [Try.ntmps56]; exact hn) h
theorem q56 {vs ds : List V} (hn : vs.length ≤ 53) (h : aWx Try.prog 0 c56 (PostX [.t 2] (Gives ds)) (argEnv 0 (vs.map .pure)) []) : FnQ Try.prog 56 vs ds :=
  fnQ_of_call (a56 (by simpa using hn) h)
/-! typecase/typecaseref35.Places -/
def c57_0 : AC :=
  (.seq (.reg [⟨some 59, none, .mov (.s 5)⟩,
    ⟨some 2, none, .mov (.s 59)⟩])
  .ret)
def c57_1 : AC :=
  (.seq (.seq (.reg [⟨some 11, none, .mov (.s 7)⟩,
    ⟨some 12, none, .mov (.s 3)⟩,
    ⟨some 13, none, .len (.s 12)⟩,
    ⟨some 14, none, .bin .lss (.s 11) (.s 13)⟩])
  (.cond (.s 14)
  .skip
  (.exit 0)))
  (.seq (.block 1
  (.seq (.reg [⟨some 17, none, .mov (.s 6)⟩,
    ⟨some 8, none, .mov (.s 17)⟩])
  (.seq (.seq (.reg [⟨some 18, none, .mov (.s 3)⟩,
    ⟨some 19, none, .mov (.s 7)⟩,
    ⟨some 20, none, .idxA 10 (.s 18) (.s 19)⟩,
    ⟨some 21, none, .fldA 5 (.s 20)⟩,
    ⟨some 22, none, .load false 1 (.s 21)⟩,
    ⟨some 23, none, .bin .neq (.s 22) (.c (.pure (.int .i64 (-1))))⟩])
  (.cond (.s 23)
  (.reg [⟨some 24, none, .mov (.s 4)⟩,
    ⟨some 25, none, .mov (.s 3)⟩,
    ⟨some 26, none, .mov (.s 7)⟩,
    ⟨some 27, none, .idxA 10 (.s 25) (.s 26)⟩,
    ⟨some 28, none, .fldA 5 (.s 27)⟩,
    ⟨some 29, none, .load false 1 (.s 28)⟩,
    ⟨some 30, none, .idxA 1 (.s 24) (.s 29)⟩,
    ⟨some 31, none, .load false 1 (.s 30)⟩,
    ⟨some 8, none, .mov (.s 31)⟩])
  .skip))
  (.seq (.reg [⟨some 32, none, .mov (.s 4)⟩,
    ⟨some 33, none, .mov (.s 8)⟩,
    ⟨some 34, none, .bslice 1 [(.s 33)]⟩,
    ⟨some 35, none, .app 1 8 (.s 32) (.s 34)⟩,
    ⟨some 4, none, .mov (.s 35)⟩])
  (.seq (.regq [⟨some 36, none, .mov (.s 5)⟩,
    ⟨some 37, none, .mov (.s 8)⟩,
    ⟨some 38, none, .mov (.s 3)⟩,
    ⟨some 39, none, .mov (.s 7)⟩,
    ⟨some 40, none, .idxA 10 (.s 38) (.s 39)⟩,
    ⟨some 41, none, .fldA 3 (.s 40)⟩,
    ⟨some 42, none, .load false 1 (.s 41)⟩,
    ⟨some 43, none, .bin .add (.s 37) (.s 42)⟩,
    ⟨some 44, none, .mov (.s 3)⟩,
    ⟨some 45, none, .mov (.s 7)⟩,
    ⟨some 46, none, .idxA 10 (.s 44) (.s 45)⟩,
    ⟨some 47, none, .fldA 4 (.s 46)⟩,
    ⟨some 48, none, .load false 1 (.s 47)⟩,
    ⟨some 49, none, .build [(.pure (.int .i64 0)), (.pure (.int .i64 0))] [(0, 1, (.s 43)), (1, 1, (.s 48))]⟩,
    ⟨some 50, none, .bslice 2 [(.s 49)]⟩]
    [⟨some 51, none, .app 2 16 (.s 36) (.s 50)⟩,
    ⟨some 5, none, .mov (.s 51)⟩])
  (.reg [⟨some 52, none, .mov (.s 6)⟩,
    ⟨some 53, none, .mov (.s 3)⟩,
    ⟨some 54, none, .mov (.s 7)⟩,
    ⟨some 55, none, .idxA 10 (.s 53) (.s 54)⟩,
    ⟨some 56, none, .fldA 2 (.s 55)⟩,
    ⟨some 57, none, .load false 1 (.s 56)⟩,
    ⟨some 58, none, .bin .add (.s 52) (.s 57)⟩,
    ⟨some 6, none, .mov (.s 58)⟩]))))))
  (.reg [⟨some 15, none, .mov (.s 7)⟩,
    ⟨some 16, none, .bin .add (.s 15) (.c (.pure (.int .i64 1)))⟩,
    ⟨some 7, none, .mov (.s 16)⟩])))
def c57 : AC :=
  (.seq (.reg [⟨some 2, none, .mov (.c .empty)⟩])
  (.seq (.reg [⟨some 9, none, .mov (.s 0)⟩,
    ⟨some 10, none, .call 54 [(.s 9)]⟩,
    ⟨some 3, none, .mov (.s 10)⟩])
  (.seq (.reg [⟨some 4, none, .mov (.c .empty)⟩])
  (.seq (.reg [⟨some 5, none, .mov (.c .empty)⟩])
  (.seq (.reg [⟨some 6, none, .mov (.c (.pure (.int .i64 0)))⟩])
  (.seq (.seq (.reg [⟨some 7, none, .mov (.c (.pure (.int .i64 0)))⟩])
  (.block 0
  (.loop c57_1)))
  c57_0))))))
theorem k57 : (Try.f57.body.bind fun c => cCode Try.prog Try.f57.ntmps RCs c) = some c57 := by kernel_rfl
theorem h57 : (Try.f57.name == "runtime.NumGoroutine") = false := by kernel_rfl
theorem r57 : resC Try.prog Try.f57.results.toList = some [.t 2] := by kernel_rfl
theorem a57 {args : List S} {H : Heap} {K : S → Heap → Prop} (hn : args.length ≤ 60) (h : aWx Try.prog H.length c57 (PostX [.t 2] K) (argEnv 0 args) H) : CallA Try.prog 57 args H K :=
  callA_of_x mixed Try.func57 h57 k57 r57 (by rw [Try.ntmps57]; exact hn) h
theorem q57 {vs ds : List V} (hn : vs.length ≤ 60) (h : aWx Try.prog 0 c57 (PostX [.t 2] (Gives ds)) (argEnv 0 (vs.map .pure)) []) : FnQ Try.prog 57 vs ds :=
  fnQ_of_call (a57 (by simpa using hn) h)
/-! typecase/typecaselaw35.PosSettles -/
def c11 : AC :=
  (.seq (.reg [⟨some 2, none, .mov (.c (.pure (.bool false)))⟩])
  (.seq (.seq (.reg [⟨some 3, none, .mov (.s 0)⟩,
    ⟨some 4, none, .call 51 [(.s 3)]⟩,
    ⟨some 5, none, .un .not (.s 4)⟩])
  (.cond (.s 5)
  (.seq (.reg [⟨some 2, none, .mov (.c (.pure (.bool true)))⟩])
  .ret)
  .skip))
  (.seq (.reg [⟨some 6, none, .mov (.s 0)⟩,
    ⟨some 7, none, .call 53 [(.s 6)]⟩,
    ⟨some 8, none, .mov (.s 0)⟩,
    ⟨some 9, none, .call 54 [(.s 8)]⟩,
    ⟨some 10, none, .call 52 [(.s 7), (.s 9)]⟩,
    ⟨some 11, none, .mov (.s 10)⟩,
    ⟨some 12, some (11, true), .mov (.s 0)⟩,
    ⟨some 13, some (11, true), .call 56 [(.s 12)]⟩,
    ⟨some 14, some (11, true), .mov (.s 0)⟩,
    ⟨some 15, some (11, true), .call 57 [(.s 14)]⟩,
    ⟨some 16, some (11, true), .call 55 [(.s 13), (.s 15)]⟩,
    ⟨some 17, none, .pick (.s 11) (.s 16) (.c (.pure (.bool false)))⟩,
    ⟨some 2, none, .mov (.s 17)⟩])
  .ret)))
theorem k11 : (Try.f11.body.bind fun c => cCode Try.prog Try.f11.ntmps RCs c) = some c11 := by kernel_rfl
theorem h11 : (Try.f11.name == "runtime.NumGoroutine") = false := by kernel_rfl
theorem r11 : resC Try.prog Try.f11.results.toList = some [.t 2] := by kernel_rfl
theorem a11 {args : List S} {H : Heap} {K : S → Heap → Prop} (hn : args.length ≤ 18) (h : aWx Try.prog H.length c11 (PostX [.t 2] K) (argEnv 0 args) H) : CallA Try.prog 11 args H K :=
  callA_of_x mixed Try.func11 h11 k11 r11 (by rw [Try.ntmps11]; exact hn) h
theorem q11 {vs ds : List V} (hn : vs.length ≤ 18) (h : aWx Try.prog 0 c11 (PostX [.t 2] (Gives ds)) (argEnv 0 (vs.map .pure)) []) : FnQ Try.prog 11 vs ds :=
  fnQ_of_call (a11 (by simpa using hn) h)

abbrev pl (p : Int × Int) : V := .agg [I p.1, I p.2]
theorem same35_q (a : List (Int × Int)) : FnQ Try.prog 55 [.sl (a.map pl), .sl (a.map pl)] [.bool true] := by
  refine q55 (by simp) ?_
  unfold c55
  simp -implicitDefEqProofs only [*, vmp,↓vmd,Env.get,putD,argEnv,List.map,x00,x01,x02,x03,x04,x05,x06,x07,List.take,List.drop,x08,x09,x0a,x0b,List.isEmpty,↓reduceIte,reduceCtorEq,Nat.reduceEqDiff,Nat.reduceAdd,Nat.reduceLeDiff,x0c,Int.reduceNeg,Nat.reduceMul,Nat.reduceSub,x0d,x0e,x0f,x0g,x0h,x0i,x0j,x0k,Int.reduceEq,Int.reduceLT,Int.reduceLE,Int.reduceToNat,Int.cast_ofNat_Int,List.reduceReplicate]
  refine onIf_intro fun _ => ?_
  simp -implicitDefEqProofs only [*, vmp,↓vmd,Env.get,putD,argEnv,List.map,x00,x01,x02,x03,x04,x05,x06,x07,List.take,List.drop,x08,x09,x0a,x0b,List.isEmpty,↓reduceIte,reduceCtorEq,Nat.reduceEqDiff,Nat.reduceAdd,Nat.reduceLeDiff,x0c,Int.reduceNeg,Nat.reduceMul,Nat.reduceSub,x0d,x0e,x0f,x0g,x0h,x0i,x0j,x0k,Int.reduceEq,Int.reduceLT,Int.reduceLE,Int.reduceToNat,Int.cast_ofNat_Int,List.reduceReplicate]
  refine loop_at (T := Nat) (fun i => [(5, .pure (I i)), (0, .pure (.sl (a.map pl))), (1, .pure (.sl (a.map pl)))]) (fun _ => []) (fun i => i ≤ a.length) (fun i => a.length - i)
    0 [] (by simp) rfl (by simp) (by simp -implicitDefEqProofs only [kpp,Env.get,x01,x00,x02,x03,List.map,x08,x09,↓reduceIte,reduceCtorEq,Nat.reduceEqDiff,Nat.reduceLeDiff,Nat.reduceLT,Nat.reduceAdd,x0j,x0l,x0m,x0n,x0o,Int.cast_ofNat_Int,x0p,x0i,x07,x06,x0q,x0r,x0s,x0t,x0d,x0u]) (by simp -implicitDefEqProofs only [kpp,Env.get,x01,x00,x02,x03,List.map,x08,x09,↓reduceIte,reduceCtorEq,Nat.reduceEqDiff,Nat.reduceLeDiff,Nat.reduceLT,Nat.reduceAdd,x0j,x0l,x0m,x0n,x0o,Int.cast_ofNat_Int,x0p,x0i,x07,x06,x0q,x0r,x0s,x0t,x0d,x0u]) ?_
  intro i hi
  unfold c55_1
  simp -implicitDefEqProofs only [vmp,↓vmd,Env.get,putD,argEnv,List.map,x00,x01,x02,x03,x04,x05,x06,x07,List.take,List.drop,x08,x09,x0a,x0b,List.isEmpty,↓reduceIte,reduceCtorEq,Nat.reduceEqDiff,Nat.reduceAdd,Nat.reduceLeDiff,x0c,Int.reduceNeg,Nat.reduceMul,Nat.reduceSub,x0d,x0e,x0f,x0g,x0h,x0i,x0j,x0k,Int.reduceEq,Int.reduceLT,Int.reduceLE,Int.reduceToNat,Int.cast_ofNat_Int,List.reduceReplicate]
  refine onIf_intro fun _ => ?_
  simp -implicitDefEqProofs only [vmp,↓vmd,Env.get,putD,argEnv,List.map,x00,x01,x02,x03,x04,x05,x06,x07,List.take,List.drop,x08,x09,x0a,x0b,List.isEmpty,↓reduceIte,reduceCtorEq,Nat.reduceEqDiff,Nat.reduceAdd,Nat.reduceLeDiff,x0c,Int.reduceNeg,Nat.reduceMul,Nat.reduceSub,x0d,x0e,x0f,x0g,x0h,x0i,x0j,x0k,Int.reduceEq,Int.reduceLT,Int.reduceLE,Int.reduceToNat,Int.cast_ofNat_Int,List.reduceReplicate]
  refine onB_dec (fun h1 => ?_) (fun h1 => ?_)
  · have hlt : i < a.length := by omega
    simp -implicitDefEqProofs only [h1, map_at hlt, Int.natCast_nonneg, vmp,↓vmd,Env.get,putD,argEnv,List.map,x00,x01,x02,x03,x04,x05,x06,x07,List.take,List.drop,x08,x09,x0a,x0b,List.isEmpty,↓reduceIte,reduceCtorEq,Nat.reduceEqDiff,Nat.reduceAdd,Nat.reduceLeDiff,x0c,Int.reduceNeg,Nat.reduceMul,Nat.reduceSub,x0d,x0e,x0f,x0g,x0h,x0i,x0j,x0k,Int.reduceEq,Int.reduceLT,Int.reduceLE,Int.reduceToNat,Int.cast_ofNat_Int,List.reduceReplicate]
    refine onBk_to (i + 1) [] (by simp) rfl (by omega) hlt (by simp -implicitDefEqProofs only [next_at hlt (by omega), kpp,Env.get,x01,x00,x02,x03,List.map,x08,x09,↓reduceIte,reduceCtorEq,Nat.reduceEqDiff,Nat.reduceLeDiff,Nat.reduceLT,Nat.reduceAdd,x0j,x0l,x0m,x0n,x0o,Int.cast_ofNat_Int,x0p,x0i,x07,x06,x0q,x0r,x0s,x0t,x0d,x0u]) (by simp -implicitDefEqProofs only [kpp,Env.get,x01,x00,x02,x03,List.map,x08,x09,↓reduceIte,reduceCtorEq,Nat.reduceEqDiff,Nat.reduceLeDiff,Nat.reduceLT,Nat.reduceAdd,x0j,x0l,x0m,x0n,x0o,Int.cast_ofNat_Int,x0p,x0i,x07,x06,x0q,x0r,x0s,x0t,x0d,x0u])
  · simp -implicitDefEqProofs only [h1, vmp,↓vmd,Env.get,putD,argEnv,List.map,x00,x01,x02,x03,x04,x05,x06,x07,List.take,List.drop,x08,x09,x0a,x0b,List.isEmpty,↓reduceIte,reduceCtorEq,Nat.reduceEqDiff,Nat.reduceAdd,Nat.reduceLeDiff,x0c,Int.reduceNeg,Nat.reduceMul,Nat.reduceSub,x0d,x0e,x0f,x0g,x0h,x0i,x0j,x0k,Int.reduceEq,Int.reduceLT,Int.reduceLE,Int.reduceToNat,Int.cast_ofNat_Int,List.reduceReplicate]
    unfold c55_0
    simp -implicitDefEqProofs only [vmp,↓vmd,Env.get,putD,argEnv,List.map,x00,x01,x02,x03,x04,x05,x06,x07,List.take,List.drop,x08,x09,x0a,x0b,List.isEmpty,↓reduceIte,reduceCtorEq,Nat.reduceEqDiff,Nat.reduceAdd,Nat.reduceLeDiff,x0c,Int.reduceNeg,Nat.reduceMul,Nat.reduceSub,x0d,x0e,x0f,x0g,x0h,x0i,x0j,x0k,Int.reduceEq,Int.reduceLT,Int.reduceLE,Int.reduceToNat,Int.cast_ofNat_Int,List.reduceReplicate]
    exact gives_pure
/-- glyphs that have settled: each is a mark of an earlier one, or of none -/
def SettledL (T : List Gl) : Prop := ∀ (j : Nat) (g : Gl), T[j]? = some g → g.to = -1 ∨ (0 ≤ g.to ∧ g.to < j)
theorem settled_step {ls : List Gl} : ∀ i, i ≤ ls.length → ∀ (j : Nat) (g : Gl), j < i → (stepF ls i)[j]? = some g → g.to = -1 ∨ (0 ≤ g.to ∧ g.to < j)
  | 0, _, j, g, hj, _ => by omega
  | i + 1, h, j, g, hj, hg => by
    by_cases e : j = i
    · subst e
      rw [stepF, set_i (by rw [stepF_len]; omega)] at hg
      cases hg
      rw [setlG]
      split
      · rename_i ha
        exact .inr (ahead_in ha)
      · split <;> exact .inl rfl
    · rw [stepF, set_ne e] at hg
      exact settled_step i (by omega) j g (by omega) hg
theorem settled_F (ls : List Gl) : SettledL (stepF ls ls.length) := fun j g hg => by
  have hj : j < ls.length := by
    have := (List.getElem?_eq_some_iff.1 hg).1
    rwa [stepF_len] at this
  exact settled_step ls.length (Nat.le_refl _) j g hj hg
def xF (T : List Gl) : Nat → Int
  | 0 => 0
  | i + 1 => wr (xF T i + (glAt T i).adv)
def atI (T : List Gl) (i : Nat) (o : List Int) : Int := if (glAt T i).to = -1 then xF T i else (o[(glAt T i).to.toNat]?).getD 0
def fromF (T : List Gl) : Nat → List Int
  | 0 => []
  | i + 1 => fromF T i ++ [atI T i (fromF T i)]
def plF (T : List Gl) : Nat → List (Int × Int)
  | 0 => []
  | i + 1 => plF T i ++ [(wr (atI T i (fromF T i) + (glAt T i).dx), (glAt T i).dy)]
theorem fromF_len {T : List Gl} : ∀ i, (fromF T i).length = i
  | 0 => rfl
  | i + 1 => by rw [fromF, List.length_append, fromF_len i]; rfl
theorem plF_len {T : List Gl} : ∀ i, (plF T i).length = i
  | 0 => rfl
  | i + 1 => by rw [plF, List.length_append, plF_len i]; rfl
theorem rplaces_q (ls : List Gl) (hl : ls.length ≤ 1000) : FnQ Try.prog 57 [.sl (ls.map gl)] [.sl ((plF (stepF ls ls.length) ls.length).map pl)] := by
  refine q57 (by simp) ?_
  unfold c57
  simp -implicitDefEqProofs only [*, vmp,↓vmd,Env.get,putD,argEnv,List.map,x00,x01,x02,x03,x04,x05,x06,x07,List.take,List.drop,x08,x09,x0a,x0b,List.isEmpty,↓reduceIte,reduceCtorEq,Nat.reduceEqDiff,Nat.reduceAdd,Nat.reduceLeDiff,x0c,Int.reduceNeg,Nat.reduceMul,Nat.reduceSub,x0d,x0e,x0f,x0g,x0h,x0i,x0j,x0k,Int.reduceEq,Int.reduceLT,Int.reduceLE,Int.reduceToNat,Int.cast_ofNat_Int,List.reduceReplicate]
  refine onC_q (rsettle_q ls hl) rfl ?_
  first | refine envO (by simp -implicitDefEqProofs only [vmp,↓vmd,Env.get,putD,argEnv,List.map,x00,x01,x02,x03,x04,x05,x06,x07,List.take,List.drop,x08,x09,x0a,x0b,List.isEmpty,↓reduceIte,reduceCtorEq,Nat.reduceEqDiff,Nat.reduceAdd,Nat.reduceLeDiff,x0c,Int.reduceNeg,Nat.reduceMul,Nat.reduceSub,x0d,x0e,x0f,x0g,x0h,x0i,x0j,x0k,Int.reduceEq,Int.reduceLT,Int.reduceLE,Int.reduceToNat,Int.cast_ofNat_Int,List.reduceReplicate]; rfl) ?_ | refine envQ (by simp -implicitDefEqProofs only [vmp,↓vmd,Env.get,putD,argEnv,List.map,x00,x01,x02,x03,x04,x05,x06,x07,List.take,List.drop,x08,x09,x0a,x0b,List.isEmpty,↓reduceIte,reduceCtorEq,Nat.reduceEqDiff,Nat.reduceAdd,Nat.reduceLeDiff,x0c,Int.reduceNeg,Nat.reduceMul,Nat.reduceSub,x0d,x0e,x0f,x0g,x0h,x0i,x0j,x0k,Int.reduceEq,Int.reduceLT,Int.reduceLE,Int.reduceToNat,Int.cast_ofNat_Int,List.reduceReplicate]; rfl) ?_
  simp -implicitDefEqProofs only [vmp,↓vmd,Env.get,putD,argEnv,List.map,x00,x01,x02,x03,x04,x05,x06,x07,List.take,List.drop,x08,x09,x0a,x0b,List.isEmpty,↓reduceIte,reduceCtorEq,Nat.reduceEqDiff,Nat.reduceAdd,Nat.reduceLeDiff,x0c,Int.reduceNeg,Nat.reduceMul,Nat.reduceSub,x0d,x0e,x0f,x0g,x0h,x0i,x0j,x0k,Int.reduceEq,Int.reduceLT,Int.reduceLE,Int.reduceToNat,Int.cast_ofNat_Int,List.reduceReplicate]
  have hSl : (stepF ls ls.length).length = ls.length := stepF_len _
  have hST := settled_F ls
  generalize stepF ls ls.length = T at *
  refine loop_virt 4 1 rfl (by simp) ?_
  refine loop_virt 5 2 rfl (by simp) ?_
  refine loop_at (T := Nat) (fun i => [(7, .pure (I i)), (6, .pure (I (xF T i))), (3, .pure (.sl (T.map gl))), (4, .rsl 0 0 (fromF T i).length), (5, .rsl 1 0 (plF T i).length)])
    (fun i => [⟨((fromF T i).map I).map S.pure, 1, .live⟩, ⟨((plF T i).map pl).map S.pure, 2, .live⟩]) (fun i => i ≤ ls.length) (fun i => ls.length - i)
    0 [0, 1] (by simp) rfl (by simp) (by simp -implicitDefEqProofs only [kpp,Env.get,x01,x00,x02,x03,List.map,x08,x09,↓reduceIte,reduceCtorEq,Nat.reduceEqDiff,Nat.reduceLeDiff,Nat.reduceLT,Nat.reduceAdd,x0j,x0l,x0m,x0n,x0o,Int.cast_ofNat_Int,x0p,x0i,x07,x06,x0q,x0r,x0s,x0t,x0d,x0u]; exact ⟨rfl, rfl, rfl⟩) (by simp -implicitDefEqProofs only [show fromF T 0 = [] from rfl, show plF T 0 = [] from rfl, kpp,Env.get,x01,x00,x02,x03,List.map,x08,x09,↓reduceIte,reduceCtorEq,Nat.reduceEqDiff,Nat.reduceLeDiff,Nat.reduceLT,Nat.reduceAdd,x0j,x0l,x0m,x0n,x0o,Int.cast_ofNat_Int,x0p,x0i,x07,x06,x0q,x0r,x0s,x0t,x0d,x0u]) ?_
  intro i hi
  unfold c57_1
  simp -implicitDefEqProofs only [vmp,↓vmd,Env.get,putD,argEnv,List.map,x00,x01,x02,x03,x04,x05,x06,x07,List.take,List.drop,x08,x09,x0a,x0b,List.isEmpty,↓reduceIte,reduceCtorEq,Nat.reduceEqDiff,Nat.reduceAdd,Nat.reduceLeDiff,x0c,Int.reduceNeg,Nat.reduceMul,Nat.reduceSub,x0d,x0e,x0f,x0g,x0h,x0i,x0j,x0k,Int.reduceEq,Int.reduceLT,Int.reduceLE,Int.reduceToNat,Int.cast_ofNat_Int,List.reduceReplicate]
  refine onIf_intro fun _ => ?_
  simp -implicitDefEqProofs only [vmp,↓vmd,Env.get,putD,argEnv,List.map,x00,x01,x02,x03,x04,x05,x06,x07,List.take,List.drop,x08,x09,x0a,x0b,List.isEmpty,↓reduceIte,reduceCtorEq,Nat.reduceEqDiff,Nat.reduceAdd,Nat.reduceLeDiff,x0c,Int.reduceNeg,Nat.reduceMul,Nat.reduceSub,x0d,x0e,x0f,x0g,x0h,x0i,x0j,x0k,Int.reduceEq,Int.reduceLT,Int.reduceLE,Int.reduceToNat,Int.cast_ofNat_Int,List.reduceReplicate]
  refine onB_dec (fun h1 => ?_) (fun h1 => ?_)
  · have hlt : i < T.length := by omega
    have hlt' : i < ls.length := by omega
    have hg : (T.map gl)[i]? = some (gl (glAt T i)) := by rw [List.getElem?_map, glAt_nat hlt]; rfl
    have hto := hST i _ (glAt_nat hlt)
    have hfl := fromF_len (T := T) i
    have hpl := plF_len (T := T) i
    have hfs : fromF T (i + 1) = fromF T i ++ [atI T i (fromF T i)] := rfl
    have hps : plF T (i + 1) = plF T i ++ [(wr (atI T i (fromF T i) + (glAt T i).dx), (glAt T i).dy)] := rfl
    have hxs : xF T (i + 1) = wr (xF T i + (glAt T i).adv) := rfl
    have hat : atI T i (fromF T i) = if (glAt T i).to = -1 then xF T i else ((fromF T i)[(glAt T i).to.toNat]?).getD 0 := rfl
    generalize glAt T i = g at *
    generalize atI T i (fromF T i) = v at *
    generalize xF T i = x at *
    generalize fromF T i = o at *
    generalize plF T i = q at *
    simp -implicitDefEqProofs only [h1, hg, Int.natCast_nonneg, vmp,↓vmd,Env.get,putD,argEnv,List.map,x00,x01,x02,x03,x04,x05,x06,x07,List.take,List.drop,x08,x09,x0a,x0b,List.isEmpty,↓reduceIte,reduceCtorEq,Nat.reduceEqDiff,Nat.reduceAdd,Nat.reduceLeDiff,x0c,Int.reduceNeg,Nat.reduceMul,Nat.reduceSub,x0d,x0e,x0f,x0g,x0h,x0i,x0j,x0k,Int.reduceEq,Int.reduceLT,Int.reduceLE,Int.reduceToNat,Int.cast_ofNat_Int,List.reduceReplicate]
    by_cases h2 : g.to = -1
    · rw [if_pos h2] at hat
      simp -implicitDefEqProofs only [h2, vmp,↓vmd,Env.get,putD,argEnv,List.map,x00,x01,x02,x03,x04,x05,x06,x07,List.take,List.drop,x08,x09,x0a,x0b,List.isEmpty,↓reduceIte,reduceCtorEq,Nat.reduceEqDiff,Nat.reduceAdd,Nat.reduceLeDiff,x0c,Int.reduceNeg,Nat.reduceMul,Nat.reduceSub,x0d,x0e,x0f,x0g,x0h,x0i,x0j,x0k,Int.reduceEq,Int.reduceLT,Int.reduceLE,Int.reduceToNat,Int.cast_ofNat_Int,List.reduceReplicate]
      refine onIf'_intro (appOk_one rfl rfl (by simp) (by omega) (by simp [maxLen]; omega)) ?_
      simp -implicitDefEqProofs only [hg, Int.natCast_nonneg, vmp,↓vmd,Env.get,putD,argEnv,List.map,x00,x01,x02,x03,x04,x05,x06,x07,List.take,List.drop,x08,x09,x0a,x0b,List.isEmpty,↓reduceIte,reduceCtorEq,Nat.reduceEqDiff,Nat.reduceAdd,Nat.reduceLeDiff,x0c,Int.reduceNeg,Nat.reduceMul,Nat.reduceSub,x0d,x0e,x0f,x0g,x0h,x0i,x0j,x0k,Int.reduceEq,Int.reduceLT,Int.reduceLE,Int.reduceToNat,Int.cast_ofNat_Int,List.reduceReplicate]
      refine onIf'_intro (appOk_one rfl rfl (by simp) (by omega) (by simp [maxLen]; omega)) ?_
      simp -implicitDefEqProofs only [hg, Int.natCast_nonneg, vmp,↓vmd,Env.get,putD,argEnv,List.map,x00,x01,x02,x03,x04,x05,x06,x07,List.take,List.drop,x08,x09,x0a,x0b,List.isEmpty,↓reduceIte,reduceCtorEq,Nat.reduceEqDiff,Nat.reduceAdd,Nat.reduceLeDiff,x0c,Int.reduceNeg,Nat.reduceMul,Nat.reduceSub,x0d,x0e,x0f,x0g,x0h,x0i,x0j,x0k,Int.reduceEq,Int.reduceLT,Int.reduceLE,Int.reduceToNat,Int.cast_ofNat_Int,List.reduceReplicate]
      refine onBk_to (i + 1) [3, 5] (by simp) rfl (by omega) hlt' (by simp -implicitDefEqProofs only [next_at hlt' (by omega), hfs, hps, hxs, hat, kpp,Env.get,x01,x00,x02,x03,List.map,x08,x09,↓reduceIte,reduceCtorEq,Nat.reduceEqDiff,Nat.reduceLeDiff,Nat.reduceLT,Nat.reduceAdd,x0j,x0l,x0m,x0n,x0o,Int.cast_ofNat_Int,x0p,x0i,x07,x06,x0q,x0r,x0s,x0t,x0d,x0u]) (by simp -implicitDefEqProofs only [hfs, hps, hat, kpp,Env.get,x01,x00,x02,x03,List.map,x08,x09,↓reduceIte,reduceCtorEq,Nat.reduceEqDiff,Nat.reduceLeDiff,Nat.reduceLT,Nat.reduceAdd,x0j,x0l,x0m,x0n,x0o,Int.cast_ofNat_Int,x0p,x0i,x07,x06,x0q,x0r,x0s,x0t,x0d,x0u])
    · rw [if_neg h2] at hat
      obtain ⟨t0, t1⟩ := hto.resolve_left h2
      have t2 : g.to < (o.length : Int) := by omega
      have hov : o[g.to.toNat]? = some v := by
        rw [List.getElem?_eq_getElem (by omega)] at hat ⊢
        rw [hat]; rfl
      have hor : ((o.map I).map S.pure)[g.to.toNat]? = some (.pure (I v)) := by rw [List.getElem?_map, List.getElem?_map, hov]; rfl
      simp -implicitDefEqProofs only [h2, t0, t2, hg, hor, Int.natCast_nonneg, vmp,↓vmd,Env.get,putD,argEnv,List.map,x00,x01,x02,x03,x04,x05,x06,x07,List.take,List.drop,x08,x09,x0a,x0b,List.isEmpty,↓reduceIte,reduceCtorEq,Nat.reduceEqDiff,Nat.reduceAdd,Nat.reduceLeDiff,x0c,Int.reduceNeg,Nat.reduceMul,Nat.reduceSub,x0d,x0e,x0f,x0g,x0h,x0i,x0j,x0k,Int.reduceEq,Int.reduceLT,Int.reduceLE,Int.reduceToNat,Int.cast_ofNat_Int,List.reduceReplicate]
      refine onIf'_intro (appOk_one rfl rfl (by simp) (by omega) (by simp [maxLen]; omega)) ?_
      simp -implicitDefEqProofs only [hg, Int.natCast_nonneg, vmp,↓vmd,Env.get,putD,argEnv,List.map,x00,x01,x02,x03,x04,x05,x06,x07,List.take,List.drop,x08,x09,x0a,x0b,List.isEmpty,↓reduceIte,reduceCtorEq,Nat.reduceEqDiff,Nat.reduceAdd,Nat.reduceLeDiff,x0c,Int.reduceNeg,Nat.reduceMul,Nat.reduceSub,x0d,x0e,x0f,x0g,x0h,x0i,x0j,x0k,Int.reduceEq,Int.reduceLT,Int.reduceLE,Int.reduceToNat,Int.cast_ofNat_Int,List.reduceReplicate]
      refine onIf'_intro (appOk_one rfl rfl (by simp) (by omega) (by simp [maxLen]; omega)) ?_
      simp -implicitDefEqProofs only [hg, Int.natCast_nonneg, vmp,↓vmd,Env.get,putD,argEnv,List.map,x00,x01,x02,x03,x04,x05,x06,x07,List.take,List.drop,x08,x09,x0a,x0b,List.isEmpty,↓reduceIte,reduceCtorEq,Nat.reduceEqDiff,Nat.reduceAdd,Nat.reduceLeDiff,x0c,Int.reduceNeg,Nat.reduceMul,Nat.reduceSub,x0d,x0e,x0f,x0g,x0h,x0i,x0j,x0k,Int.reduceEq,Int.reduceLT,Int.reduceLE,Int.reduceToNat,Int.cast_ofNat_Int,List.reduceReplicate]
      refine onBk_to (i + 1) [3, 5] (by simp) rfl (by omega) hlt' (by simp -implicitDefEqProofs only [next_at hlt' (by omega), hfs, hps, hxs, kpp,Env.get,x01,x00,x02,x03,List.map,x08,x09,↓reduceIte,reduceCtorEq,Nat.reduceEqDiff,Nat.reduceLeDiff,Nat.reduceLT,Nat.reduceAdd,x0j,x0l,x0m,x0n,x0o,Int.cast_ofNat_Int,x0p,x0i,x07,x06,x0q,x0r,x0s,x0t,x0d,x0u]) (by simp -implicitDefEqProofs only [hfs, hps, kpp,Env.get,x01,x00,x02,x03,List.map,x08,x09,↓reduceIte,reduceCtorEq,Nat.reduceEqDiff,Nat.reduceLeDiff,Nat.reduceLT,Nat.reduceAdd,x0j,x0l,x0m,x0n,x0o,Int.cast_ofNat_Int,x0p,x0i,x07,x06,x0q,x0r,x0s,x0t,x0d,x0u])
  · simp -implicitDefEqProofs only [h1, vmp,↓vmd,Env.get,putD,argEnv,List.map,x00,x01,x02,x03,x04,x05,x06,x07,List.take,List.drop,x08,x09,x0a,x0b,List.isEmpty,↓reduceIte,reduceCtorEq,Nat.reduceEqDiff,Nat.reduceAdd,Nat.reduceLeDiff,x0c,Int.reduceNeg,Nat.reduceMul,Nat.reduceSub,x0d,x0e,x0f,x0g,x0h,x0i,x0j,x0k,Int.reduceEq,Int.reduceLT,Int.reduceLE,Int.reduceToNat,Int.cast_ofNat_Int,List.reduceReplicate]
    unfold c57_0
    simp -implicitDefEqProofs only [vmp,↓vmd,Env.get,putD,argEnv,List.map,x00,x01,x02,x03,x04,x05,x06,x07,List.take,List.drop,x08,x09,x0a,x0b,List.isEmpty,↓reduceIte,reduceCtorEq,Nat.reduceEqDiff,Nat.reduceAdd,Nat.reduceLeDiff,x0c,Int.reduceNeg,Nat.reduceMul,Nat.reduceSub,x0d,x0e,x0f,x0g,x0h,x0i,x0j,x0k,Int.reduceEq,Int.reduceLT,Int.reduceLE,Int.reduceToNat,Int.cast_ofNat_Int,List.reduceReplicate]
    obtain rfl : i = ls.length := by omega
    exact gives_row (st := .live) rfl (by simp)
/-- the places of the origins, where some are still 0 -/
def orgF (T : List Gl) (n i : Nat) : List Int := fromF T i ++ List.replicate (n - i) 0
theorem org_set {o : List Int} {n i : Nat} {v : Int} (ho : o.length = i) (h : i < n) : (o ++ List.replicate (n - i) 0).set i v = o ++ [v] ++ List.replicate (n - (i + 1)) 0 := by
  subst ho
  rw [List.set_append_right _ _ (Nat.le_refl _), Nat.sub_self]
  obtain ⟨m, hm⟩ : ∃ m, n - o.length = m + 1 := ⟨n - o.length - 1, by omega⟩
  rw [hm, show n - (o.length + 1) = m by omega, List.replicate_succ]
  simp
theorem org_set2 {o z : List Int} {i : Nat} {v w : Int} (ho : o.length = i) : (o ++ [v] ++ z).set i w = o ++ [w] ++ z := by
  subst ho
  simp
theorem places_q (ls : List Gl) (hl : ls.length ≤ 1000) : FnQ Try.prog 56 [.sl (ls.map gl)] [.sl ((plF (stepF ls ls.length) ls.length).map pl)] := by
  refine q56 (by simp) ?_
  unfold c56
  simp -implicitDefEqProofs only [*, vmp,↓vmd,Env.get,putD,argEnv,List.map,x00,x01,x02,x03,x04,x05,x06,x07,List.take,List.drop,x08,x09,x0a,x0b,List.isEmpty,↓reduceIte,reduceCtorEq,Nat.reduceEqDiff,Nat.reduceAdd,Nat.reduceLeDiff,x0c,Int.reduceNeg,Nat.reduceMul,Nat.reduceSub,x0d,x0e,x0f,x0g,x0h,x0i,x0j,x0k,Int.reduceEq,Int.reduceLT,Int.reduceLE,Int.reduceToNat,Int.cast_ofNat_Int,List.reduceReplicate]
  refine onIf_intro fun _ => ?_
  simp -implicitDefEqProofs only [*, vmp,↓vmd,Env.get,putD,argEnv,List.map,x00,x01,x02,x03,x04,x05,x06,x07,List.take,List.drop,x08,x09,x0a,x0b,List.isEmpty,↓reduceIte,reduceCtorEq,Nat.reduceEqDiff,Nat.reduceAdd,Nat.reduceLeDiff,x0c,Int.reduceNeg,Nat.reduceMul,Nat.reduceSub,x0d,x0e,x0f,x0g,x0h,x0i,x0j,x0k,Int.reduceEq,Int.reduceLT,Int.reduceLE,Int.reduceToNat,Int.cast_ofNat_Int,List.reduceReplicate]
  refine onIf'_intro (by refine ⟨?_, ?_, ?_⟩ <;> first | omega | (simp only [maxLen]; omega)) ?_
  try simp -implicitDefEqProofs only [vmp,↓vmd,Env.get,putD,argEnv,List.map,x00,x01,x02,x03,x04,x05,x06,x07,List.take,List.drop,x08,x09,x0a,x0b,List.isEmpty,↓reduceIte,reduceCtorEq,Nat.reduceEqDiff,Nat.reduceAdd,Nat.reduceLeDiff,x0c,Int.reduceNeg,Nat.reduceMul,Nat.reduceSub,x0d,x0e,x0f,x0g,x0h,x0i,x0j,x0k,Int.reduceEq,Int.reduceLT,Int.reduceLE,Int.reduceToNat,Int.cast_ofNat_Int,List.reduceReplicate]
  refine onC_q (settle_q ls hl) rfl ?_
  first | refine envO (by simp -implicitDefEqProofs only [vmp,↓vmd,Env.get,putD,argEnv,List.map,x00,x01,x02,x03,x04,x05,x06,x07,List.take,List.drop,x08,x09,x0a,x0b,List.isEmpty,↓reduceIte,reduceCtorEq,Nat.reduceEqDiff,Nat.reduceAdd,Nat.reduceLeDiff,x0c,Int.reduceNeg,Nat.reduceMul,Nat.reduceSub,x0d,x0e,x0f,x0g,x0h,x0i,x0j,x0k,Int.reduceEq,Int.reduceLT,Int.reduceLE,Int.reduceToNat,Int.cast_ofNat_Int,List.reduceReplicate]; rfl) ?_ | refine envQ (by simp -implicitDefEqProofs only [vmp,↓vmd,Env.get,putD,argEnv,List.map,x00,x01,x02,x03,x04,x05,x06,x07,List.take,List.drop,x08,x09,x0a,x0b,List.isEmpty,↓reduceIte,reduceCtorEq,Nat.reduceEqDiff,Nat.reduceAdd,Nat.reduceLeDiff,x0c,Int.reduceNeg,Nat.reduceMul,Nat.reduceSub,x0d,x0e,x0f,x0g,x0h,x0i,x0j,x0k,Int.reduceEq,Int.reduceLT,Int.reduceLE,Int.reduceToNat,Int.cast_ofNat_Int,List.reduceReplicate]; rfl) ?_
  simp -implicitDefEqProofs only [vmp,↓vmd,Env.get,putD,argEnv,List.map,x00,x01,x02,x03,x04,x05,x06,x07,List.take,List.drop,x08,x09,x0a,x0b,List.isEmpty,↓reduceIte,reduceCtorEq,Nat.reduceEqDiff,Nat.reduceAdd,Nat.reduceLeDiff,x0c,Int.reduceNeg,Nat.reduceMul,Nat.reduceSub,x0d,x0e,x0f,x0g,x0h,x0i,x0j,x0k,Int.reduceEq,Int.reduceLT,Int.reduceLE,Int.reduceToNat,Int.cast_ofNat_Int,List.reduceReplicate]
  have hSl : (stepF ls ls.length).length = ls.length := stepF_len _
  have hST := settled_F ls
  generalize stepF ls ls.length = T at *
  refine onIf_intro fun _ => ?_
  simp -implicitDefEqProofs only [vmp,↓vmd,Env.get,putD,argEnv,List.map,x00,x01,x02,x03,x04,x05,x06,x07,List.take,List.drop,x08,x09,x0a,x0b,List.isEmpty,↓reduceIte,reduceCtorEq,Nat.reduceEqDiff,Nat.reduceAdd,Nat.reduceLeDiff,x0c,Int.reduceNeg,Nat.reduceMul,Nat.reduceSub,x0d,x0e,x0f,x0g,x0h,x0i,x0j,x0k,Int.reduceEq,Int.reduceLT,Int.reduceLE,Int.reduceToNat,Int.cast_ofNat_Int,List.reduceReplicate]
  refine loop_virt 3 2 rfl (by simp) ?_
  refine loop_at (T := Nat) (fun i => [(14, .pure (I i)), (13, .pure (I T.length)), (12, .pure (.sl (T.map gl))), (5, .pure (I (xF T i))), (4, .rsl 0 0 ls.length), (3, .rsl 1 0 (plF T i).length)])
    (fun i => [⟨((orgF T ls.length i).map I).map S.pure, 1, .live⟩, ⟨((plF T i).map pl).map S.pure, 2, .live⟩]) (fun i => i ≤ ls.length) (fun i => ls.length - i)
    0 [0, 1] (by simp) rfl (by simp) (by simp -implicitDefEqProofs only [kpp,Env.get,x01,x00,x02,x03,List.map,x08,x09,↓reduceIte,reduceCtorEq,Nat.reduceEqDiff,Nat.reduceLeDiff,Nat.reduceLT,Nat.reduceAdd,x0j,x0l,x0m,x0n,x0o,Int.cast_ofNat_Int,x0p,x0i,x07,x06,x0q,x0r,x0s,x0t,x0d,x0u]; exact ⟨rfl, rfl⟩) (by simp -implicitDefEqProofs only [kpp,Env.get,x01,x00,x02,x03,List.map,x08,x09,↓reduceIte,reduceCtorEq,Nat.reduceEqDiff,Nat.reduceLeDiff,Nat.reduceLT,Nat.reduceAdd,x0j,x0l,x0m,x0n,x0o,Int.cast_ofNat_Int,x0p,x0i,x07,x06,x0q,x0r,x0s,x0t,x0d,x0u]; simp [orgF, fromF, plF]) ?_
  intro i hi
  unfold c56_1
  simp -implicitDefEqProofs only [vmp,↓vmd,Env.get,putD,argEnv,List.map,x00,x01,x02,x03,x04,x05,x06,x07,List.take,List.drop,x08,x09,x0a,x0b,List.isEmpty,↓reduceIte,reduceCtorEq,Nat.reduceEqDiff,Nat.reduceAdd,Nat.reduceLeDiff,x0c,Int.reduceNeg,Nat.reduceMul,Nat.reduceSub,x0d,x0e,x0f,x0g,x0h,x0i,x0j,x0k,Int.reduceEq,Int.reduceLT,Int.reduceLE,Int.reduceToNat,Int.cast_ofNat_Int,List.reduceReplicate]
  refine onB_dec (fun h1 => ?_) (fun h1 => ?_)
  · have hlt : i < T.length := by omega
    have hlt' : i < ls.length := by omega
    have h1' : (i : Int) < (ls.length : Int) := by omega
    have hg : (T.map gl)[i]? = some (gl (glAt T i)) := by rw [List.getElem?_map, glAt_nat hlt]; rfl
    have hto := hST i _ (glAt_nat hlt)
    have hfl := fromF_len (T := T) i
    have hpl := plF_len (T := T) i
    have hos : orgF T ls.length (i + 1) = fromF T i ++ [atI T i (fromF T i)] ++ List.replicate (ls.length - (i + 1)) 0 := rfl
    have hps : plF T (i + 1) = plF T i ++ [(wr (atI T i (fromF T i) + (glAt T i).dx), (glAt T i).dy)] := rfl
    have hxs : xF T (i + 1) = wr (xF T i + (glAt T i).adv) := rfl
    have hat : atI T i (fromF T i) = if (glAt T i).to = -1 then xF T i else ((fromF T i)[(glAt T i).to.toNat]?).getD 0 := rfl
    have hXi : (orgF T ls.length i)[i]? = some 0 := by
      rw [orgF, List.getElem?_append_right (by omega), hfl, Nat.sub_self, List.getElem?_replicate, if_pos (by omega)]
    have hXs := org_set (v := xF T i) hfl hlt'
    have hXo : orgF T ls.length i = fromF T i ++ List.replicate (ls.length - i) 0 := rfl
    rw [← hXo] at hXs
    clear hXo
    have hX2 := fun w => org_set2 (v := xF T i) (w := w) (z := List.replicate (ls.length - (i + 1)) 0) hfl
    generalize List.replicate (ls.length - (i + 1)) (0 : Int) = Z at *
    generalize orgF T ls.length i = X at *
    generalize glAt T i = g at *
    generalize atI T i (fromF T i) = v at *
    generalize xF T i = x at *
    generalize fromF T i = o at *
    generalize plF T i = q at *
    have hXr : ((X.map I).map S.pure)[i]? = some (.pure (I 0)) := by rw [List.getElem?_map, List.getElem?_map, hXi]; rfl
    by_cases h2 : g.to = -1
    · rw [if_pos h2] at hat
      simp -implicitDefEqProofs only [h1, h1', h2, hg, hXr, Int.natCast_nonneg, vmp,↓vmd,Env.get,putD,argEnv,List.map,x00,x01,x02,x03,x04,x05,x06,x07,List.take,List.drop,x08,x09,x0a,x0b,List.isEmpty,↓reduceIte,reduceCtorEq,Nat.reduceEqDiff,Nat.reduceAdd,Nat.reduceLeDiff,x0c,Int.reduceNeg,Nat.reduceMul,Nat.reduceSub,x0d,x0e,x0f,x0g,x0h,x0i,x0j,x0k,Int.reduceEq,Int.reduceLT,Int.reduceLE,Int.reduceToNat,Int.cast_ofNat_Int,List.reduceReplicate]
      rw [row_set (f := I), hXs]
      have hr : (((o ++ [x] ++ Z).map I).map S.pure)[i]? = some (.pure (I x)) := by
        rw [List.getElem?_map, List.getElem?_map, List.getElem?_append_left (by simp; omega), List.getElem?_append_right (by omega), hfl, Nat.sub_self]; rfl
      simp -implicitDefEqProofs only [h1', hr, Int.natCast_nonneg, vmp,↓vmd,Env.get,putD,argEnv,List.map,x00,x01,x02,x03,x04,x05,x06,x07,List.take,List.drop,x08,x09,x0a,x0b,List.isEmpty,↓reduceIte,reduceCtorEq,Nat.reduceEqDiff,Nat.reduceAdd,Nat.reduceLeDiff,x0c,Int.reduceNeg,Nat.reduceMul,Nat.reduceSub,x0d,x0e,x0f,x0g,x0h,x0i,x0j,x0k,Int.reduceEq,Int.reduceLT,Int.reduceLE,Int.reduceToNat,Int.cast_ofNat_Int,List.reduceReplicate]
      refine onIf'_intro (appOk_one rfl rfl (by simp) (by omega) (by simp [maxLen]; omega)) ?_
      simp -implicitDefEqProofs only [vmp,↓vmd,Env.get,putD,argEnv,List.map,x00,x01,x02,x03,x04,x05,x06,x07,List.take,List.drop,x08,x09,x0a,x0b,List.isEmpty,↓reduceIte,reduceCtorEq,Nat.reduceEqDiff,Nat.reduceAdd,Nat.reduceLeDiff,x0c,Int.reduceNeg,Nat.reduceMul,Nat.reduceSub,x0d,x0e,x0f,x0g,x0h,x0i,x0j,x0k,Int.reduceEq,Int.reduceLT,Int.reduceLE,Int.reduceToNat,Int.cast_ofNat_Int,List.reduceReplicate]
      refine onBk_to (i + 1) [0, 4] (by simp) rfl (by omega) hlt' (by simp -implicitDefEqProofs only [next_at hlt' (by omega), hps, hxs, hat, kpp,Env.get,x01,x00,x02,x03,List.map,x08,x09,↓reduceIte,reduceCtorEq,Nat.reduceEqDiff,Nat.reduceLeDiff,Nat.reduceLT,Nat.reduceAdd,x0j,x0l,x0m,x0n,x0o,Int.cast_ofNat_Int,x0p,x0i,x07,x06,x0q,x0r,x0s,x0t,x0d,x0u]) (by simp -implicitDefEqProofs only [hos, hps, hat, kpp,Env.get,x01,x00,x02,x03,List.map,x08,x09,↓reduceIte,reduceCtorEq,Nat.reduceEqDiff,Nat.reduceLeDiff,Nat.reduceLT,Nat.reduceAdd,x0j,x0l,x0m,x0n,x0o,Int.cast_ofNat_Int,x0p,x0i,x07,x06,x0q,x0r,x0s,x0t,x0d,x0u])
    · rw [if_neg h2] at hat
      obtain ⟨t0, t1⟩ := hto.resolve_left h2
      have t2 : g.to < (ls.length : Int) := by omega
      have hov : o[g.to.toNat]? = some v := by
        rw [List.getElem?_eq_getElem (by omega)] at hat ⊢
        rw [hat]; rfl
      have hor : (((o ++ [x] ++ Z).map I).map S.pure)[g.to.toNat]? = some (.pure (I v)) := by
        rw [List.getElem?_map, List.getElem?_map, List.getElem?_append_left (by simp; omega), List.getElem?_append_left (by omega), hov]; rfl
      have hr : (((o ++ [x] ++ Z).map I).map S.pure)[i]? = some (.pure (I x)) := by
        rw [List.getElem?_map, List.getElem?_map, List.getElem?_append_left (by simp; omega), List.getElem?_append_right (by omega), hfl, Nat.sub_self]; rfl
      have hr2 : (((o ++ [v] ++ Z).map I).map S.pure)[i]? = some (.pure (I v)) := by
        rw [List.getElem?_map, List.getElem?_map, List.getElem?_append_left (by simp; omega), List.getElem?_append_right (by omega), hfl, Nat.sub_self]; rfl
      simp -implicitDefEqProofs only [h1, h1', h2, hg, hXr, Int.natCast_nonneg, vmp,↓vmd,Env.get,putD,argEnv,List.map,x00,x01,x02,x03,x04,x05,x06,x07,List.take,List.drop,x08,x09,x0a,x0b,List.isEmpty,↓reduceIte,reduceCtorEq,Nat.reduceEqDiff,Nat.reduceAdd,Nat.reduceLeDiff,x0c,Int.reduceNeg,Nat.reduceMul,Nat.reduceSub,x0d,x0e,x0f,x0g,x0h,x0i,x0j,x0k,Int.reduceEq,Int.reduceLT,Int.reduceLE,Int.reduceToNat,Int.cast_ofNat_Int,List.reduceReplicate]
      rw [row_set (f := I), hXs]
      simp -implicitDefEqProofs only [h1', t0, t2, hor, hr, Int.natCast_nonneg, vmp,↓vmd,Env.get,putD,argEnv,List.map,x00,x01,x02,x03,x04,x05,x06,x07,List.take,List.drop,x08,x09,x0a,x0b,List.isEmpty,↓reduceIte,reduceCtorEq,Nat.reduceEqDiff,Nat.reduceAdd,Nat.reduceLeDiff,x0c,Int.reduceNeg,Nat.reduceMul,Nat.reduceSub,x0d,x0e,x0f,x0g,x0h,x0i,x0j,x0k,Int.reduceEq,Int.reduceLT,Int.reduceLE,Int.reduceToNat,Int.cast_ofNat_Int,List.reduceReplicate]
      rw [row_set (f := I), hX2]
      simp -implicitDefEqProofs only [h1', hr2, Int.natCast_nonneg, vmp,↓vmd,Env.get,putD,argEnv,List.map,x00,x01,x02,x03,x04,x05,x06,x07,List.take,List.drop,x08,x09,x0a,x0b,List.isEmpty,↓reduceIte,reduceCtorEq,Nat.reduceEqDiff,Nat.reduceAdd,Nat.reduceLeDiff,x0c,Int.reduceNeg,Nat.reduceMul,Nat.reduceSub,x0d,x0e,x0f,x0g,x0h,x0i,x0j,x0k,Int.reduceEq,Int.reduceLT,Int.reduceLE,Int.reduceToNat,Int.cast_ofNat_Int,List.reduceReplicate]
      refine onIf'_intro (appOk_one rfl rfl (by simp) (by omega) (by simp [maxLen]; omega)) ?_
      simp -implicitDefEqProofs only [vmp,↓vmd,Env.get,putD,argEnv,List.map,x00,x01,x02,x03,x04,x05,x06,x07,List.take,List.drop,x08,x09,x0a,x0b,List.isEmpty,↓reduceIte,reduceCtorEq,Nat.reduceEqDiff,Nat.reduceAdd,Nat.reduceLeDiff,x0c,Int.reduceNeg,Nat.reduceMul,Nat.reduceSub,x0d,x0e,x0f,x0g,x0h,x0i,x0j,x0k,Int.reduceEq,Int.reduceLT,Int.reduceLE,Int.reduceToNat,Int.cast_ofNat_Int,List.reduceReplicate]
      refine onBk_to (i + 1) [0, 4] (by simp) rfl (by omega) hlt' (by simp -implicitDefEqProofs only [next_at hlt' (by omega), hps, hxs, kpp,Env.get,x01,x00,x02,x03,List.map,x08,x09,↓reduceIte,reduceCtorEq,Nat.reduceEqDiff,Nat.reduceLeDiff,Nat.reduceLT,Nat.reduceAdd,x0j,x0l,x0m,x0n,x0o,Int.cast_ofNat_Int,x0p,x0i,x07,x06,x0q,x0r,x0s,x0t,x0d,x0u]) (by simp -implicitDefEqProofs only [hos, hps, kpp,Env.get,x01,x00,x02,x03,List.map,x08,x09,↓reduceIte,reduceCtorEq,Nat.reduceEqDiff,Nat.reduceLeDiff,Nat.reduceLT,Nat.reduceAdd,x0j,x0l,x0m,x0n,x0o,Int.cast_ofNat_Int,x0p,x0i,x07,x06,x0q,x0r,x0s,x0t,x0d,x0u])
  · simp -implicitDefEqProofs only [h1, vmp,↓vmd,Env.get,putD,argEnv,List.map,x00,x01,x02,x03,x04,x05,x06,x07,List.take,List.drop,x08,x09,x0a,x0b,List.isEmpty,↓reduceIte,reduceCtorEq,Nat.reduceEqDiff,Nat.reduceAdd,Nat.reduceLeDiff,x0c,Int.reduceNeg,Nat.reduceMul,Nat.reduceSub,x0d,x0e,x0f,x0g,x0h,x0i,x0j,x0k,Int.reduceEq,Int.reduceLT,Int.reduceLE,Int.reduceToNat,Int.cast_ofNat_Int,List.reduceReplicate]
    unfold c56_0
    simp -implicitDefEqProofs only [vmp,↓vmd,Env.get,putD,argEnv,List.map,x00,x01,x02,x03,x04,x05,x06,x07,List.take,List.drop,x08,x09,x0a,x0b,List.isEmpty,↓reduceIte,reduceCtorEq,Nat.reduceEqDiff,Nat.reduceAdd,Nat.reduceLeDiff,x0c,Int.reduceNeg,Nat.reduceMul,Nat.reduceSub,x0d,x0e,x0f,x0g,x0h,x0i,x0j,x0k,Int.reduceEq,Int.reduceLT,Int.reduceLE,Int.reduceToNat,Int.cast_ofNat_Int,List.reduceReplicate]
    obtain rfl : i = ls.length := by omega
    exact gives_row (st := .live) rfl (by simp)
theorem ps_law (ls : List Gl) : FnQ Try.prog 11 [.sl (ls.map gl)] [.bool true] := by
  refine q11 (by simp) ?_
  unfold c11
  simp -implicitDefEqProofs only [*, vmp,↓vmd,Env.get,putD,argEnv,List.map,x00,x01,x02,x03,x04,x05,x06,x07,List.take,List.drop,x08,x09,x0a,x0b,List.isEmpty,↓reduceIte,reduceCtorEq,Nat.reduceEqDiff,Nat.reduceAdd,Nat.reduceLeDiff,x0c,Int.reduceNeg,Nat.reduceMul,Nat.reduceSub,x0d,x0e,x0f,x0g,x0h,x0i,x0j,x0k,Int.reduceEq,Int.reduceLT,Int.reduceLE,Int.reduceToNat,Int.cast_ofNat_Int,List.reduceReplicate]
  refine onC_q (near_q ls) rfl ?_
  first | refine envO (by simp -implicitDefEqProofs only [vmp,↓vmd,Env.get,putD,argEnv,List.map,x00,x01,x02,x03,x04,x05,x06,x07,List.take,List.drop,x08,x09,x0a,x0b,List.isEmpty,↓reduceIte,reduceCtorEq,Nat.reduceEqDiff,Nat.reduceAdd,Nat.reduceLeDiff,x0c,Int.reduceNeg,Nat.reduceMul,Nat.reduceSub,x0d,x0e,x0f,x0g,x0h,x0i,x0j,x0k,Int.reduceEq,Int.reduceLT,Int.reduceLE,Int.reduceToNat,Int.cast_ofNat_Int,List.reduceReplicate]; rfl) ?_ | refine envQ (by simp -implicitDefEqProofs only [vmp,↓vmd,Env.get,putD,argEnv,List.map,x00,x01,x02,x03,x04,x05,x06,x07,List.take,List.drop,x08,x09,x0a,x0b,List.isEmpty,↓reduceIte,reduceCtorEq,Nat.reduceEqDiff,Nat.reduceAdd,Nat.reduceLeDiff,x0c,Int.reduceNeg,Nat.reduceMul,Nat.reduceSub,x0d,x0e,x0f,x0g,x0h,x0i,x0j,x0k,Int.reduceEq,Int.reduceLT,Int.reduceLE,Int.reduceToNat,Int.cast_ofNat_Int,List.reduceReplicate]; rfl) ?_
  simp -implicitDefEqProofs only [vmp,↓vmd,Env.get,putD,argEnv,List.map,x00,x01,x02,x03,x04,x05,x06,x07,List.take,List.drop,x08,x09,x0a,x0b,List.isEmpty,↓reduceIte,reduceCtorEq,Nat.reduceEqDiff,Nat.reduceAdd,Nat.reduceLeDiff,x0c,Int.reduceNeg,Nat.reduceMul,Nat.reduceSub,x0d,x0e,x0f,x0g,x0h,x0i,x0j,x0k,Int.reduceEq,Int.reduceLT,Int.reduceLE,Int.reduceToNat,Int.cast_ofNat_Int,List.reduceReplicate]
  by_cases hn : nearF ls = true
  · have hl : ls.length ≤ 1000 := by
      simp only [nearF, Bool.not_eq_true', Bool.or_eq_false_iff, decide_eq_false_iff_not] at hn
      omega
    simp -implicitDefEqProofs only [hn, vmp,↓vmd,Env.get,putD,argEnv,List.map,x00,x01,x02,x03,x04,x05,x06,x07,List.take,List.drop,x08,x09,x0a,x0b,List.isEmpty,↓reduceIte,reduceCtorEq,Nat.reduceEqDiff,Nat.reduceAdd,Nat.reduceLeDiff,x0c,Int.reduceNeg,Nat.reduceMul,Nat.reduceSub,x0d,x0e,x0f,x0g,x0h,x0i,x0j,x0k,Int.reduceEq,Int.reduceLT,Int.reduceLE,Int.reduceToNat,Int.cast_ofNat_Int,List.reduceReplicate]
    refine onC_q (settle_q ls hl) rfl ?_
    first | refine envO (by simp -implicitDefEqProofs only [vmp,↓vmd,Env.get,putD,argEnv,List.map,x00,x01,x02,x03,x04,x05,x06,x07,List.take,List.drop,x08,x09,x0a,x0b,List.isEmpty,↓reduceIte,reduceCtorEq,Nat.reduceEqDiff,Nat.reduceAdd,Nat.reduceLeDiff,x0c,Int.reduceNeg,Nat.reduceMul,Nat.reduceSub,x0d,x0e,x0f,x0g,x0h,x0i,x0j,x0k,Int.reduceEq,Int.reduceLT,Int.reduceLE,Int.reduceToNat,Int.cast_ofNat_Int,List.reduceReplicate]; rfl) ?_ | refine envQ (by simp -implicitDefEqProofs only [vmp,↓vmd,Env.get,putD,argEnv,List.map,x00,x01,x02,x03,x04,x05,x06,x07,List.take,List.drop,x08,x09,x0a,x0b,List.isEmpty,↓reduceIte,reduceCtorEq,Nat.reduceEqDiff,Nat.reduceAdd,Nat.reduceLeDiff,x0c,Int.reduceNeg,Nat.reduceMul,Nat.reduceSub,x0d,x0e,x0f,x0g,x0h,x0i,x0j,x0k,Int.reduceEq,Int.reduceLT,Int.reduceLE,Int.reduceToNat,Int.cast_ofNat_Int,List.reduceReplicate]; rfl) ?_
    simp -implicitDefEqProofs only [vmp,↓vmd,Env.get,putD,argEnv,List.map,x00,x01,x02,x03,x04,x05,x06,x07,List.take,List.drop,x08,x09,x0a,x0b,List.isEmpty,↓reduceIte,reduceCtorEq,Nat.reduceEqDiff,Nat.reduceAdd,Nat.reduceLeDiff,x0c,Int.reduceNeg,Nat.reduceMul,Nat.reduceSub,x0d,x0e,x0f,x0g,x0h,x0i,x0j,x0k,Int.reduceEq,Int.reduceLT,Int.reduceLE,Int.reduceToNat,Int.cast_ofNat_Int,List.reduceReplicate]
    refine onC_q (rsettle_q ls hl) rfl ?_
    first | refine envO (by simp -implicitDefEqProofs only [vmp,↓vmd,Env.get,putD,argEnv,List.map,x00,x01,x02,x03,x04,x05,x06,x07,List.take,List.drop,x08,x09,x0a,x0b,List.isEmpty,↓reduceIte,reduceCtorEq,Nat.reduceEqDiff,Nat.reduceAdd,Nat.reduceLeDiff,x0c,Int.reduceNeg,Nat.reduceMul,Nat.reduceSub,x0d,x0e,x0f,x0g,x0h,x0i,x0j,x0k,Int.reduceEq,Int.reduceLT,Int.reduceLE,Int.reduceToNat,Int.cast_ofNat_Int,List.reduceReplicate]; rfl) ?_ | refine envQ (by simp -implicitDefEqProofs only [vmp,↓vmd,Env.get,putD,argEnv,List.map,x00,x01,x02,x03,x04,x05,x06,x07,List.take,List.drop,x08,x09,x0a,x0b,List.isEmpty,↓reduceIte,reduceCtorEq,Nat.reduceEqDiff,Nat.reduceAdd,Nat.reduceLeDiff,x0c,Int.reduceNeg,Nat.reduceMul,Nat.reduceSub,x0d,x0e,x0f,x0g,x0h,x0i,x0j,x0k,Int.reduceEq,Int.reduceLT,Int.reduceLE,Int.reduceToNat,Int.cast_ofNat_Int,List.reduceReplicate]; rfl) ?_
    simp -implicitDefEqProofs only [vmp,↓vmd,Env.get,putD,argEnv,List.map,x00,x01,x02,x03,x04,x05,x06,x07,List.take,List.drop,x08,x09,x0a,x0b,List.isEmpty,↓reduceIte,reduceCtorEq,Nat.reduceEqDiff,Nat.reduceAdd,Nat.reduceLeDiff,x0c,Int.reduceNeg,Nat.reduceMul,Nat.reduceSub,x0d,x0e,x0f,x0g,x0h,x0i,x0j,x0k,Int.reduceEq,Int.reduceLT,Int.reduceLE,Int.reduceToNat,Int.cast_ofNat_Int,List.reduceReplicate]
    refine onC_q (same29_q _ _) rfl ?_
    first | refine envO (by simp -implicitDefEqProofs only [vmp,↓vmd,Env.get,putD,argEnv,List.map,x00,x01,x02,x03,x04,x05,x06,x07,List.take,List.drop,x08,x09,x0a,x0b,List.isEmpty,↓reduceIte,reduceCtorEq,Nat.reduceEqDiff,Nat.reduceAdd,Nat.reduceLeDiff,x0c,Int.reduceNeg,Nat.reduceMul,Nat.reduceSub,x0d,x0e,x0f,x0g,x0h,x0i,x0j,x0k,Int.reduceEq,Int.reduceLT,Int.reduceLE,Int.reduceToNat,Int.cast_ofNat_Int,List.reduceReplicate]; rfl) ?_ | refine envQ (by simp -implicitDefEqProofs only [vmp,↓vmd,Env.get,putD,argEnv,List.map,x00,x01,x02,x03,x04,x05,x06,x07,List.take,List.drop,x08,x09,x0a,x0b,List.isEmpty,↓reduceIte,reduceCtorEq,Nat.reduceEqDiff,Nat.reduceAdd,Nat.reduceLeDiff,x0c,Int.reduceNeg,Nat.reduceMul,Nat.reduceSub,x0d,x0e,x0f,x0g,x0h,x0i,x0j,x0k,Int.reduceEq,Int.reduceLT,Int.reduceLE,Int.reduceToNat,Int.cast_ofNat_Int,List.reduceReplicate]; rfl) ?_
    simp -implicitDefEqProofs only [vmp,↓vmd,Env.get,putD,argEnv,List.map,x00,x01,x02,x03,x04,x05,x06,x07,List.take,List.drop,x08,x09,x0a,x0b,List.isEmpty,↓reduceIte,reduceCtorEq,Nat.reduceEqDiff,Nat.reduceAdd,Nat.reduceLeDiff,x0c,Int.reduceNeg,Nat.reduceMul,Nat.reduceSub,x0d,x0e,x0f,x0g,x0h,x0i,x0j,x0k,Int.reduceEq,Int.reduceLT,Int.reduceLE,Int.reduceToNat,Int.cast_ofNat_Int,List.reduceReplicate]
    refine onC_q (places_q ls hl) rfl ?_
    first | refine envO (by simp -implicitDefEqProofs only [vmp,↓vmd,Env.get,putD,argEnv,List.map,x00,x01,x02,x03,x04,x05,x06,x07,List.take,List.drop,x08,x09,x0a,x0b,List.isEmpty,↓reduceIte,reduceCtorEq,Nat.reduceEqDiff,Nat.reduceAdd,Nat.reduceLeDiff,x0c,Int.reduceNeg,Nat.reduceMul,Nat.reduceSub,x0d,x0e,x0f,x0g,x0h,x0i,x0j,x0k,Int.reduceEq,Int.reduceLT,Int.reduceLE,Int.reduceToNat,Int.cast_ofNat_Int,List.reduceReplicate]; rfl) ?_ | refine envQ (by simp -implicitDefEqProofs only [vmp,↓vmd,Env.get,putD,argEnv,List.map,x00,x01,x02,x03,x04,x05,x06,x07,List.take,List.drop,x08,x09,x0a,x0b,List.isEmpty,↓reduceIte,reduceCtorEq,Nat.reduceEqDiff,Nat.reduceAdd,Nat.reduceLeDiff,x0c,Int.reduceNeg,Nat.reduceMul,Nat.reduceSub,x0d,x0e,x0f,x0g,x0h,x0i,x0j,x0k,Int.reduceEq,Int.reduceLT,Int.reduceLE,Int.reduceToNat,Int.cast_ofNat_Int,List.reduceReplicate]; rfl) ?_
    simp -implicitDefEqProofs only [vmp,↓vmd,Env.get,putD,argEnv,List.map,x00,x01,x02,x03,x04,x05,x06,x07,List.take,List.drop,x08,x09,x0a,x0b,List.isEmpty,↓reduceIte,reduceCtorEq,Nat.reduceEqDiff,Nat.reduceAdd,Nat.reduceLeDiff,x0c,Int.reduceNeg,Nat.reduceMul,Nat.reduceSub,x0d,x0e,x0f,x0g,x0h,x0i,x0j,x0k,Int.reduceEq,Int.reduceLT,Int.reduceLE,Int.reduceToNat,Int.cast_ofNat_Int,List.reduceReplicate]
    refine onC_q (rplaces_q ls hl) rfl ?_
    first | refine envO (by simp -implicitDefEqProofs only [vmp,↓vmd,Env.get,putD,argEnv,List.map,x00,x01,x02,x03,x04,x05,x06,x07,List.take,List.drop,x08,x09,x0a,x0b,List.isEmpty,↓reduceIte,reduceCtorEq,Nat.reduceEqDiff,Nat.reduceAdd,Nat.reduceLeDiff,x0c,Int.reduceNeg,Nat.reduceMul,Nat.reduceSub,x0d,x0e,x0f,x0g,x0h,x0i,x0j,x0k,Int.reduceEq,Int.reduceLT,Int.reduceLE,Int.reduceToNat,Int.cast_ofNat_Int,List.reduceReplicate]; rfl) ?_ | refine envQ (by simp -implicitDefEqProofs only [vmp,↓vmd,Env.get,putD,argEnv,List.map,x00,x01,x02,x03,x04,x05,x06,x07,List.take,List.drop,x08,x09,x0a,x0b,List.isEmpty,↓reduceIte,reduceCtorEq,Nat.reduceEqDiff,Nat.reduceAdd,Nat.reduceLeDiff,x0c,Int.reduceNeg,Nat.reduceMul,Nat.reduceSub,x0d,x0e,x0f,x0g,x0h,x0i,x0j,x0k,Int.reduceEq,Int.reduceLT,Int.reduceLE,Int.reduceToNat,Int.cast_ofNat_Int,List.reduceReplicate]; rfl) ?_
    simp -implicitDefEqProofs only [vmp,↓vmd,Env.get,putD,argEnv,List.map,x00,x01,x02,x03,x04,x05,x06,x07,List.take,List.drop,x08,x09,x0a,x0b,List.isEmpty,↓reduceIte,reduceCtorEq,Nat.reduceEqDiff,Nat.reduceAdd,Nat.reduceLeDiff,x0c,Int.reduceNeg,Nat.reduceMul,Nat.reduceSub,x0d,x0e,x0f,x0g,x0h,x0i,x0j,x0k,Int.reduceEq,Int.reduceLT,Int.reduceLE,Int.reduceToNat,Int.cast_ofNat_Int,List.reduceReplicate]
    refine onC_q (same35_q _) rfl ?_
    first | refine envO (by simp -implicitDefEqProofs only [vmp,↓vmd,Env.get,putD,argEnv,List.map,x00,x01,x02,x03,x04,x05,x06,x07,List.take,List.drop,x08,x09,x0a,x0b,List.isEmpty,↓reduceIte,reduceCtorEq,Nat.reduceEqDiff,Nat.reduceAdd,Nat.reduceLeDiff,x0c,Int.reduceNeg,Nat.reduceMul,Nat.reduceSub,x0d,x0e,x0f,x0g,x0h,x0i,x0j,x0k,Int.reduceEq,Int.reduceLT,Int.reduceLE,Int.reduceToNat,Int.cast_ofNat_Int,List.reduceReplicate]; rfl) ?_ | refine envQ (by simp -implicitDefEqProofs only [vmp,↓vmd,Env.get,putD,argEnv,List.map,x00,x01,x02,x03,x04,x05,x06,x07,List.take,List.drop,x08,x09,x0a,x0b,List.isEmpty,↓reduceIte,reduceCtorEq,Nat.reduceEqDiff,Nat.reduceAdd,Nat.reduceLeDiff,x0c,Int.reduceNeg,Nat.reduceMul,Nat.reduceSub,x0d,x0e,x0f,x0g,x0h,x0i,x0j,x0k,Int.reduceEq,Int.reduceLT,Int.reduceLE,Int.reduceToNat,Int.cast_ofNat_Int,List.reduceReplicate]; rfl) ?_
    simp -implicitDefEqProofs only [vmp,↓vmd,Env.get,putD,argEnv,List.map,x00,x01,x02,x03,x04,x05,x06,x07,List.take,List.drop,x08,x09,x0a,x0b,List.isEmpty,↓reduceIte,reduceCtorEq,Nat.reduceEqDiff,Nat.reduceAdd,Nat.reduceLeDiff,x0c,Int.reduceNeg,Nat.reduceMul,Nat.reduceSub,x0d,x0e,x0f,x0g,x0h,x0i,x0j,x0k,Int.reduceEq,Int.reduceLT,Int.reduceLE,Int.reduceToNat,Int.cast_ofNat_Int,List.reduceReplicate]
    exact gives_pure
  · have hn' : nearF ls = false := by simpa using hn
    simp -implicitDefEqProofs only [hn', vmp,↓vmd,Env.get,putD,argEnv,List.map,x00,x01,x02,x03,x04,x05,x06,x07,List.take,List.drop,x08,x09,x0a,x0b,List.isEmpty,↓reduceIte,reduceCtorEq,Nat.reduceEqDiff,Nat.reduceAdd,Nat.reduceLeDiff,x0c,Int.reduceNeg,Nat.reduceMul,Nat.reduceSub,x0d,x0e,x0f,x0g,x0h,x0i,x0j,x0k,Int.reduceEq,Int.reduceLT,Int.reduceLE,Int.reduceToNat,Int.cast_ofNat_Int,List.reduceReplicate]
    exact gives_pure
theorem ty_gls : tyC Try.prog 20 74 = some (false, [.sl true (List.replicate 10 (.int .i64))]) := by kernel_rfl
theorem ps_all (vs : List V) (h : OkTs Try.prog Try.f11.params.toList vs) : FnQ Try.prog 11 vs [.bool true] := by
  rw [Try.params11] at h
  match vs, h with
  | [x], h =>
    obtain ⟨h1, _⟩ := h
    obtain ⟨l, rfl, _⟩ := gls_of (cell_of (h1 _ _ _ ty_gls))
    exact ps_law l
end Go.Proofs.Ytjgodncjlffhjaa.W
