/-
  Where a subtable of a context stands: what the functions do, for every input. No condition.
-/
import Derived.Test.YtbllbkhkmngclaaRow
import Derived.Test.YtbllbkhkmngclaaSame
namespace Go.Proofs.Ytbllbkhkmngclaa.W
open Go Go.Vm Go.Proofs
set_option maxRecDepth 100000
set_option linter.unusedSimpArgs false
set_option maxHeartbeats 1000000
/-! typecase/typecaselaw29.wide -/
def c63_0 : AC :=
  (.seq (.reg [⟨some 2, none, .mov (.c (.pure (.bool false)))⟩])
  .ret)
def c63_1 : AC :=
  (.seq (.seq (.reg [⟨some 7, none, .mov (.s 3)⟩,
    ⟨some 8, none, .mov (.s 0)⟩,
    ⟨some 9, none, .len (.s 8)⟩,
    ⟨some 10, none, .bin .lss (.s 7) (.s 9)⟩])
  (.cond (.s 10)
  .skip
  (.exit 0)))
  (.seq (.block 1
  (.seq (.reg [⟨some 13, none, .mov (.s 0)⟩,
    ⟨some 14, none, .mov (.s 3)⟩,
    ⟨some 15, none, .idxA 1 (.s 13) (.s 14)⟩,
    ⟨some 16, none, .load false 1 (.s 15)⟩,
    ⟨some 17, none, .len (.s 16)⟩,
    ⟨some 18, none, .bin .gtr (.s 17) (.c (.pure (.int .i64 20)))⟩])
  (.cond (.s 18)
  (.seq (.reg [⟨some 2, none, .mov (.c (.pure (.bool true)))⟩])
  .ret)
  .skip)))
  (.reg [⟨some 11, none, .mov (.s 3)⟩,
    ⟨some 12, none, .bin .add (.s 11) (.c (.pure (.int .i64 1)))⟩,
    ⟨some 3, none, .mov (.s 12)⟩])))
def c63 : AC :=
  (.seq (.reg [⟨some 2, none, .mov (.c (.pure (.bool false)))⟩])
  (.seq (.seq (.reg [⟨some 4, none, .mov (.s 0)⟩,
    ⟨some 5, none, .len (.s 4)⟩,
    ⟨some 6, none, .bin .gtr (.s 5) (.c (.pure (.int .i64 6)))⟩])
  (.cond (.s 6)
  (.seq (.reg [⟨some 2, none, .mov (.c (.pure (.bool true)))⟩])
  .ret)
  .skip))
  (.seq (.seq (.reg [⟨some 3, none, .mov (.c (.pure (.int .i64 0)))⟩])
  (.block 0
  (.loop c63_1)))
  c63_0)))
theorem k63 : (Try.f63.body.bind fun c => cCode Try.prog Try.f63.ntmps RCs c) = some c63 := by kernel_rfl
theorem h63 : (Try.f63.name == "runtime.NumGoroutine") = false := by kernel_rfl
theorem r63 : resC Try.prog Try.f63.results.toList = some [.t 2] := by kernel_rfl
theorem a63 {args : List S} {H : Heap} {K : S → Heap → Prop} (hn : args.length ≤ 19) (h : aWx Try.prog H.length c63 (PostX [.t 2] K) (argEnv 0 args) H) : CallA Try.prog 63 args H K :=
  callA_of_x mixed Try.func63 h63 k63 r63 (by rw [Try.ntmps63]; exact hn) h
theorem q63 {vs ds : List V} (hn : vs.length ≤ 19) (h : aWx Try.prog 0 c63 (PostX [.t 2] (Gives ds)) (argEnv 0 (vs.map .pure)) []) : FnQ Try.prog 63 vs ds :=
  fnQ_of_call (a63 (by simpa using hn) h)
/-! typecase/typecaselaw29.great -/
def c23_0 : AC :=
  (.seq (.reg [⟨some 6, none, .mov (.c (.pure (.bool false)))⟩])
  .ret)
def c23_1 : AC :=
  (.seq (.seq (.reg [⟨some 29, none, .mov (.s 7)⟩,
    ⟨some 30, none, .fldA 3 (.s 4)⟩,
    ⟨some 31, none, .load false 1 (.s 30)⟩,
    ⟨some 32, none, .len (.s 31)⟩,
    ⟨some 33, none, .bin .lss (.s 29) (.s 32)⟩])
  (.cond (.s 33)
  .skip
  (.exit 0)))
  (.seq (.block 1
  (.seq (.reg [⟨some 36, none, .fldA 3 (.s 4)⟩,
    ⟨some 37, none, .load false 1 (.s 36)⟩,
    ⟨some 38, none, .mov (.s 7)⟩,
    ⟨some 39, none, .idxA 12 (.s 37) (.s 38)⟩,
    ⟨some 40, none, .load true 12 (.s 39)⟩,
    ⟨some 8, none, .box (.c (.agg [.empty, .empty, .empty, .empty, .empty, .empty, .empty, .empty, .empty, .empty, .empty, .empty]))⟩,
    ⟨none, none, .store 12 (.s 8) (.s 40)⟩])
  (.seq (.reg [⟨some 41, none, .fldA 3 (.s 8)⟩,
    ⟨some 42, none, .load false 1 (.s 41)⟩,
    ⟨some 43, none, .call 63 [(.s 42)]⟩,
    ⟨some 44, none, .mov (.s 43)⟩,
    ⟨some 45, some (44, false), .fldA 4 (.s 8)⟩,
    ⟨some 46, some (44, false), .load false 1 (.s 45)⟩,
    ⟨some 47, some (44, false), .call 63 [(.s 46)]⟩,
    ⟨some 48, none, .pick (.s 44) (.c (.pure (.bool true))) (.s 47)⟩,
    ⟨some 49, none, .mov (.s 48)⟩,
    ⟨some 50, some (49, false), .fldA 5 (.s 8)⟩,
    ⟨some 51, some (49, false), .load false 1 (.s 50)⟩,
    ⟨some 52, some (49, false), .call 63 [(.s 51)]⟩,
    ⟨some 53, none, .pick (.s 49) (.c (.pure (.bool true))) (.s 52)⟩,
    ⟨some 54, none, .mov (.s 53)⟩,
    ⟨some 55, some (54, false), .fldA 6 (.s 8)⟩,
    ⟨some 56, some (54, false), .load false 1 (.s 55)⟩,
    ⟨some 57, some (54, false), .len (.s 56)⟩,
    ⟨some 58, some (54, false), .bin .gtr (.s 57) (.c (.pure (.int .i64 8)))⟩,
    ⟨some 59, none, .pick (.s 54) (.c (.pure (.bool true))) (.s 58)⟩])
  (.cond (.s 59)
  (.seq (.reg [⟨some 6, none, .mov (.c (.pure (.bool true)))⟩])
  .ret)
  .skip))))
  (.reg [⟨some 34, none, .mov (.s 7)⟩,
    ⟨some 35, none, .bin .add (.s 34) (.c (.pure (.int .i64 1)))⟩,
    ⟨some 7, none, .mov (.s 35)⟩])))
def c23 : AC :=
  (.seq (.reg [⟨some 3, none, .box (.s 0)⟩,
    ⟨some 4, none, .box (.s 1)⟩,
    ⟨some 6, none, .mov (.c (.pure (.bool false)))⟩])
  (.seq (.seq (.reg [⟨some 9, none, .fldA 1 (.s 3)⟩,
    ⟨some 10, none, .load false 1 (.s 9)⟩,
    ⟨some 11, none, .len (.s 10)⟩,
    ⟨some 12, none, .bin .gtr (.s 11) (.c (.pure (.int .i64 60)))⟩,
    ⟨some 13, none, .mov (.s 12)⟩,
    ⟨some 14, some (13, false), .fldA 5 (.s 3)⟩,
    ⟨some 15, some (13, false), .load false 1 (.s 14)⟩,
    ⟨some 16, some (13, false), .call 63 [(.s 15)]⟩,
    ⟨some 17, none, .pick (.s 13) (.c (.pure (.bool true))) (.s 16)⟩,
    ⟨some 18, none, .mov (.s 17)⟩,
    ⟨some 19, some (18, false), .fldA 3 (.s 4)⟩,
    ⟨some 20, some (18, false), .load false 1 (.s 19)⟩,
    ⟨some 21, some (18, false), .len (.s 20)⟩,
    ⟨some 22, some (18, false), .bin .gtr (.s 21) (.c (.pure (.int .i64 6)))⟩,
    ⟨some 23, none, .pick (.s 18) (.c (.pure (.bool true))) (.s 22)⟩,
    ⟨some 24, none, .mov (.s 23)⟩,
    ⟨some 25, some (24, false), .mov (.s 2)⟩,
    ⟨some 26, some (24, false), .len (.s 25)⟩,
    ⟨some 27, some (24, false), .bin .gtr (.s 26) (.c (.pure (.int .i64 30)))⟩,
    ⟨some 28, none, .pick (.s 24) (.c (.pure (.bool true))) (.s 27)⟩])
  (.cond (.s 28)
  (.seq (.reg [⟨some 6, none, .mov (.c (.pure (.bool true)))⟩])
  .ret)
  .skip))
  (.seq (.seq (.reg [⟨some 7, none, .mov (.c (.pure (.int .i64 0)))⟩])
  (.block 0
  (.loop c23_1)))
  c23_0)))
theorem k23 : (Try.f23.body.bind fun c => cCode Try.prog Try.f23.ntmps RCs c) = some c23 := by kernel_rfl
theorem h23 : (Try.f23.name == "runtime.NumGoroutine") = false := by kernel_rfl
theorem r23 : resC Try.prog Try.f23.results.toList = some [.t 6] := by kernel_rfl
theorem a23 {args : List S} {H : Heap} {K : S → Heap → Prop} (hn : args.length ≤ 60) (h : aWx Try.prog H.length c23 (PostX [.t 6] K) (argEnv 0 args) H) : CallA Try.prog 23 args H K :=
  callA_of_x mixed Try.func23 h23 k23 r23 (by rw [Try.ntmps23]; exact hn) h
theorem q23 {vs ds : List V} (hn : vs.length ≤ 60) (h : aWx Try.prog 0 c23 (PostX [.t 6] (Gives ds)) (argEnv 0 (vs.map .pure)) []) : FnQ Try.prog 23 vs ds :=
  fnQ_of_call (a23 (by simpa using hn) h)
/-! typecase/typecaseref29.stands -/
def c89 : AC :=
  (.seq (.reg [⟨some 5, none, .box (.s 0)⟩,
    ⟨some 6, none, .box (.s 1)⟩,
    ⟨some 7, none, .box (.s 2)⟩,
    ⟨some 10, none, .mov (.c .empty)⟩,
    ⟨some 11, none, .mov (.c (.pure (.bool false)))⟩])
  (.seq (.seq (.regq [⟨some 19, none, .fldA 4 (.s 7)⟩,
    ⟨some 20, none, .load false 1 (.s 19)⟩,
    ⟨some 21, none, .len (.s 20)⟩,
    ⟨some 22, none, .bin .eql (.s 21) (.c (.pure (.int .i64 0)))⟩,
    ⟨some 23, none, .mov (.s 22)⟩,
    ⟨some 24, some (23, false), .fldA 4 (.s 7)⟩,
    ⟨some 25, some (23, false), .load false 1 (.s 24)⟩,
    ⟨some 26, some (23, false), .idxA 1 (.s 25) (.c (.pure (.int .i64 0)))⟩,
    ⟨some 27, some (23, false), .load false 1 (.s 26)⟩,
    ⟨some 28, some (23, false), .mov (.s 3)⟩,
    ⟨some 29, some (23, false), .mov (.s 4)⟩,
    ⟨some 30, some (23, false), .idxA 10 (.s 28) (.s 29)⟩,
    ⟨some 31, some (23, false), .fldA 0 (.s 30)⟩,
    ⟨some 32, some (23, false), .load false 1 (.s 31)⟩]
    [⟨some 33, some (23, false), .call 85 [(.s 27), (.s 32)]⟩,
    ⟨some 34, some (23, false), .un .not (.s 33)⟩,
    ⟨some 35, none, .pick (.s 23) (.c (.pure (.bool true))) (.s 34)⟩])
  (.cond (.s 35)
  (.seq (.reg [⟨some 10, none, .mov (.c .empty)⟩,
    ⟨some 11, none, .mov (.c (.pure (.bool false)))⟩])
  .ret)
  .skip))
  (.seq (.regq [⟨some 37, none, .load true 6 (.s 5)⟩,
    ⟨some 38, none, .load true 4 (.s 6)⟩,
    ⟨some 39, none, .mov (.s 3)⟩,
    ⟨some 40, none, .mov (.s 4)⟩,
    ⟨some 41, none, .fldA 4 (.s 7)⟩,
    ⟨some 42, none, .load false 1 (.s 41)⟩,
    ⟨some 43, none, .slc 1 (.s 42) (some (.c (.pure (.int .i64 1)))) none none⟩,
    ⟨some 44, none, .call 102 [(.s 37), (.s 38), (.s 39), (.s 40), (.s 43)]⟩,
    ⟨some 36, none, .mov (.s 44)⟩,
    ⟨some 45, none, .ext 0 (.s 36)⟩,
    ⟨some 46, none, .ext 1 (.s 36)⟩,
    ⟨some 12, none, .mov (.s 45)⟩]
    [⟨some 13, none, .mov (.s 46)⟩])
  (.seq (.seq (.reg [⟨some 47, none, .mov (.s 13)⟩,
    ⟨some 48, none, .un .not (.s 47)⟩])
  (.cond (.s 48)
  (.seq (.reg [⟨some 10, none, .mov (.c .empty)⟩,
    ⟨some 11, none, .mov (.c (.pure (.bool false)))⟩])
  .ret)
  .skip))
  (.seq (.reg [⟨some 49, none, .mov (.s 4)⟩,
    ⟨some 50, none, .bslice 1 [(.s 49)]⟩,
    ⟨some 14, none, .mov (.s 50)⟩])
  (.seq (.reg [⟨some 51, none, .mov (.s 14)⟩,
    ⟨some 52, none, .mov (.s 12)⟩,
    ⟨some 53, none, .app 1 8 (.s 51) (.s 52)⟩,
    ⟨some 14, none, .mov (.s 53)⟩])
  (.seq (.seq (.reg [⟨some 55, none, .load true 6 (.s 5)⟩,
    ⟨some 56, none, .load true 4 (.s 6)⟩,
    ⟨some 57, none, .mov (.s 3)⟩,
    ⟨some 58, none, .mov (.s 4)⟩,
    ⟨some 59, none, .fldA 3 (.s 7)⟩,
    ⟨some 60, none, .load false 1 (.s 59)⟩,
    ⟨some 61, none, .call 103 [(.s 55), (.s 56), (.s 57), (.s 58), (.s 60)]⟩,
    ⟨some 54, none, .mov (.s 61)⟩,
    ⟨some 62, none, .ext 0 (.s 54)⟩,
    ⟨some 63, none, .ext 1 (.s 54)⟩,
    ⟨some 15, none, .mov (.s 62)⟩,
    ⟨some 16, none, .mov (.s 63)⟩])
  (.seq (.reg [⟨some 64, none, .mov (.s 16)⟩,
    ⟨some 65, none, .un .not (.s 64)⟩])
  (.cond (.s 65)
  (.seq (.reg [⟨some 10, none, .mov (.c .empty)⟩,
    ⟨some 11, none, .mov (.c (.pure (.bool false)))⟩])
  .ret)
  .skip)))
  (.seq (.seq (.regq [⟨some 67, none, .load true 6 (.s 5)⟩,
    ⟨some 68, none, .load true 4 (.s 6)⟩,
    ⟨some 69, none, .mov (.s 3)⟩,
    ⟨some 70, none, .mov (.s 14)⟩,
    ⟨some 71, none, .mov (.s 14)⟩,
    ⟨some 72, none, .len (.s 71)⟩,
    ⟨some 73, none, .bin .sub (.s 72) (.c (.pure (.int .i64 1)))⟩,
    ⟨some 74, none, .idxA 1 (.s 70) (.s 73)⟩,
    ⟨some 75, none, .load false 1 (.s 74)⟩,
    ⟨some 76, none, .fldA 5 (.s 7)⟩,
    ⟨some 77, none, .load false 1 (.s 76)⟩,
    ⟨some 78, none, .call 102 [(.s 67), (.s 68), (.s 69), (.s 75), (.s 77)]⟩,
    ⟨some 66, none, .mov (.s 78)⟩,
    ⟨some 79, none, .ext 0 (.s 66)⟩,
    ⟨some 80, none, .ext 1 (.s 66)⟩,
    ⟨some 17, none, .mov (.s 79)⟩]
    [⟨some 18, none, .mov (.s 80)⟩])
  (.seq (.reg [⟨some 81, none, .mov (.s 18)⟩,
    ⟨some 82, none, .un .not (.s 81)⟩])
  (.cond (.s 82)
  (.seq (.reg [⟨some 10, none, .mov (.c .empty)⟩,
    ⟨some 11, none, .mov (.c (.pure (.bool false)))⟩])
  .ret)
  .skip)))
  (.seq (.reg [⟨some 83, none, .mov (.s 14)⟩,
    ⟨some 10, none, .mov (.s 83)⟩,
    ⟨some 11, none, .mov (.c (.pure (.bool true)))⟩])
  .ret)))))))))
theorem k89 : (Try.f89.body.bind fun c => cCode Try.prog Try.f89.ntmps RCs c) = some c89 := by kernel_rfl
theorem h89 : (Try.f89.name == "runtime.NumGoroutine") = false := by kernel_rfl
theorem r89 : resC Try.prog Try.f89.results.toList = some [.t 10, .t 11] := by kernel_rfl
theorem a89 {args : List S} {H : Heap} {K : S → Heap → Prop} (hn : args.length ≤ 84) (h : aWx Try.prog H.length c89 (PostX [.t 10, .t 11] K) (argEnv 0 args) H) : CallA Try.prog 89 args H K :=
  callA_of_x mixed Try.func89 h89 k89 r89 (by rw [Try.ntmps89]; exact hn) h
theorem q89 {vs ds : List V} (hn : vs.length ≤ 84) (h : aWx Try.prog 0 c89 (PostX [.t 10, .t 11] (Gives ds)) (argEnv 0 (vs.map .pure)) []) : FnQ Try.prog 89 vs ds :=
  fnQ_of_call (a89 (by simpa using hn) h)

def wide6 (l : List (List Int)) : Bool := decide (6 < l.length) || l.any fun s => decide (20 < s.length)
theorem wide6_q (l : List (List Int)) : FnQ Try.prog 63 [LL l] [.bool (wide6 l)] := by
  refine q63 (by simp) ?_
  unfold c63
  simp -implicitDefEqProofs only [*, vmp,↓vmd,Env.get,putD,argEnv,List.map,x00,x01,x02,x03,x04,x05,x06,x07,List.take,List.drop,x08,x09,x0a,x0b,List.isEmpty,↓reduceIte,reduceCtorEq,Nat.reduceEqDiff,Nat.reduceAdd,Nat.reduceLeDiff,x0c,Int.reduceNeg,Nat.reduceMul,Nat.reduceSub,x0d,x0e,x0f,x0g,x0h,x0i,x0j,x0k,Int.reduceEq,Int.reduceLT,Int.reduceLE,Int.reduceToNat,Int.cast_ofNat_Int,List.reduceReplicate]
  refine onIf_intro fun _ => ?_
  simp -implicitDefEqProofs only [*, vmp,↓vmd,Env.get,putD,argEnv,List.map,x00,x01,x02,x03,x04,x05,x06,x07,List.take,List.drop,x08,x09,x0a,x0b,List.isEmpty,↓reduceIte,reduceCtorEq,Nat.reduceEqDiff,Nat.reduceAdd,Nat.reduceLeDiff,x0c,Int.reduceNeg,Nat.reduceMul,Nat.reduceSub,x0d,x0e,x0f,x0g,x0h,x0i,x0j,x0k,Int.reduceEq,Int.reduceLT,Int.reduceLE,Int.reduceToNat,Int.cast_ofNat_Int,List.reduceReplicate]
  refine onB_dec (fun h1 => ?_) (fun h1 => ?_)
  · simp -implicitDefEqProofs only [*, vmp,↓vmd,Env.get,putD,argEnv,List.map,x00,x01,x02,x03,x04,x05,x06,x07,List.take,List.drop,x08,x09,x0a,x0b,List.isEmpty,↓reduceIte,reduceCtorEq,Nat.reduceEqDiff,Nat.reduceAdd,Nat.reduceLeDiff,x0c,Int.reduceNeg,Nat.reduceMul,Nat.reduceSub,x0d,x0e,x0f,x0g,x0h,x0i,x0j,x0k,Int.reduceEq,Int.reduceLT,Int.reduceLE,Int.reduceToNat,Int.cast_ofNat_Int,List.reduceReplicate]
    rw [show wide6 l = true by simp [wide6, show 6 < l.length by omega]]
    exact gives_pure
  simp -implicitDefEqProofs only [*, vmp,↓vmd,Env.get,putD,argEnv,List.map,x00,x01,x02,x03,x04,x05,x06,x07,List.take,List.drop,x08,x09,x0a,x0b,List.isEmpty,↓reduceIte,reduceCtorEq,Nat.reduceEqDiff,Nat.reduceAdd,Nat.reduceLeDiff,x0c,Int.reduceNeg,Nat.reduceMul,Nat.reduceSub,x0d,x0e,x0f,x0g,x0h,x0i,x0j,x0k,Int.reduceEq,Int.reduceLT,Int.reduceLE,Int.reduceToNat,Int.cast_ofNat_Int,List.reduceReplicate]
  refine loop_at (T := Nat) (fun k => [(3, .pure (I k)), (0, .pure (LL l))]) (fun _ => []) (fun k => k ≤ l.length ∧ (l.drop k).any (fun s => decide (20 < s.length)) = l.any (fun s => decide (20 < s.length))) (fun k => l.length - k)
    0 [] (by simp) rfl ⟨by simp, by simp⟩ (by simp -implicitDefEqProofs only [kpp,Env.get,x01,x00,x02,x03,List.map,x08,x09,↓reduceIte,reduceCtorEq,Nat.reduceEqDiff,Nat.reduceLeDiff,Nat.reduceLT,Nat.reduceAdd,x0j,x0l,x0m,x0n,x0o,Int.cast_ofNat_Int,x0p,x0i,x07,x06,x0q,x0r,x0s,x0t,x0d,x0u]) (by simp -implicitDefEqProofs only [kpp,Env.get,x01,x00,x02,x03,List.map,x08,x09,↓reduceIte,reduceCtorEq,Nat.reduceEqDiff,Nat.reduceLeDiff,Nat.reduceLT,Nat.reduceAdd,x0j,x0l,x0m,x0n,x0o,Int.cast_ofNat_Int,x0p,x0i,x07,x06,x0q,x0r,x0s,x0t,x0d,x0u]) ?_
  rintro k ⟨hk, hr⟩
  unfold c63_1
  simp -implicitDefEqProofs only [vmp,↓vmd,Env.get,putD,argEnv,List.map,x00,x01,x02,x03,x04,x05,x06,x07,List.take,List.drop,x08,x09,x0a,x0b,List.isEmpty,↓reduceIte,reduceCtorEq,Nat.reduceEqDiff,Nat.reduceAdd,Nat.reduceLeDiff,x0c,Int.reduceNeg,Nat.reduceMul,Nat.reduceSub,x0d,x0e,x0f,x0g,x0h,x0i,x0j,x0k,Int.reduceEq,Int.reduceLT,Int.reduceLE,Int.reduceToNat,Int.cast_ofNat_Int,List.reduceReplicate]
  refine onIf_intro fun _ => ?_
  simp -implicitDefEqProofs only [vmp,↓vmd,Env.get,putD,argEnv,List.map,x00,x01,x02,x03,x04,x05,x06,x07,List.take,List.drop,x08,x09,x0a,x0b,List.isEmpty,↓reduceIte,reduceCtorEq,Nat.reduceEqDiff,Nat.reduceAdd,Nat.reduceLeDiff,x0c,Int.reduceNeg,Nat.reduceMul,Nat.reduceSub,x0d,x0e,x0f,x0g,x0h,x0i,x0j,x0k,Int.reduceEq,Int.reduceLT,Int.reduceLE,Int.reduceToNat,Int.cast_ofNat_Int,List.reduceReplicate]
  refine onB_dec (fun h4 => ?_) (fun h4 => ?_)
  · have hlt : k < l.length := by omega
    rw [drop_at hlt, List.any_cons] at hr
    simp -implicitDefEqProofs only [h4, map_at hlt, Int.natCast_nonneg, vmp,↓vmd,Env.get,putD,argEnv,List.map,x00,x01,x02,x03,x04,x05,x06,x07,List.take,List.drop,x08,x09,x0a,x0b,List.isEmpty,↓reduceIte,reduceCtorEq,Nat.reduceEqDiff,Nat.reduceAdd,Nat.reduceLeDiff,x0c,Int.reduceNeg,Nat.reduceMul,Nat.reduceSub,x0d,x0e,x0f,x0g,x0h,x0i,x0j,x0k,Int.reduceEq,Int.reduceLT,Int.reduceLE,Int.reduceToNat,Int.cast_ofNat_Int,List.reduceReplicate]
    refine onIf_intro fun _ => ?_
    simp -implicitDefEqProofs only [vmp,↓vmd,Env.get,putD,argEnv,List.map,x00,x01,x02,x03,x04,x05,x06,x07,List.take,List.drop,x08,x09,x0a,x0b,List.isEmpty,↓reduceIte,reduceCtorEq,Nat.reduceEqDiff,Nat.reduceAdd,Nat.reduceLeDiff,x0c,Int.reduceNeg,Nat.reduceMul,Nat.reduceSub,x0d,x0e,x0f,x0g,x0h,x0i,x0j,x0k,Int.reduceEq,Int.reduceLT,Int.reduceLE,Int.reduceToNat,Int.cast_ofNat_Int,List.reduceReplicate]
    refine onB_dec (fun h5 => ?_) (fun h5 => ?_)
    · simp -implicitDefEqProofs only [h5, vmp,↓vmd,Env.get,putD,argEnv,List.map,x00,x01,x02,x03,x04,x05,x06,x07,List.take,List.drop,x08,x09,x0a,x0b,List.isEmpty,↓reduceIte,reduceCtorEq,Nat.reduceEqDiff,Nat.reduceAdd,Nat.reduceLeDiff,x0c,Int.reduceNeg,Nat.reduceMul,Nat.reduceSub,x0d,x0e,x0f,x0g,x0h,x0i,x0j,x0k,Int.reduceEq,Int.reduceLT,Int.reduceLE,Int.reduceToNat,Int.cast_ofNat_Int,List.reduceReplicate]
      rw [show wide6 l = true by rw [wide6, ← hr]; simp [show 20 < l[k].length by omega]]
      exact gives_pure
    · simp -implicitDefEqProofs only [h5, vmp,↓vmd,Env.get,putD,argEnv,List.map,x00,x01,x02,x03,x04,x05,x06,x07,List.take,List.drop,x08,x09,x0a,x0b,List.isEmpty,↓reduceIte,reduceCtorEq,Nat.reduceEqDiff,Nat.reduceAdd,Nat.reduceLeDiff,x0c,Int.reduceNeg,Nat.reduceMul,Nat.reduceSub,x0d,x0e,x0f,x0g,x0h,x0i,x0j,x0k,Int.reduceEq,Int.reduceLT,Int.reduceLE,Int.reduceToNat,Int.cast_ofNat_Int,List.reduceReplicate]
      refine onBk_to (k + 1) [] (by simp) rfl (by omega) ⟨hlt, by rw [← hr, show decide (20 < l[k].length) = false by simp; omega, Bool.false_or]⟩ (by simp -implicitDefEqProofs only [next_at hlt (by omega), kpp,Env.get,x01,x00,x02,x03,List.map,x08,x09,↓reduceIte,reduceCtorEq,Nat.reduceEqDiff,Nat.reduceLeDiff,Nat.reduceLT,Nat.reduceAdd,x0j,x0l,x0m,x0n,x0o,Int.cast_ofNat_Int,x0p,x0i,x07,x06,x0q,x0r,x0s,x0t,x0d,x0u]) (by simp -implicitDefEqProofs only [kpp,Env.get,x01,x00,x02,x03,List.map,x08,x09,↓reduceIte,reduceCtorEq,Nat.reduceEqDiff,Nat.reduceLeDiff,Nat.reduceLT,Nat.reduceAdd,x0j,x0l,x0m,x0n,x0o,Int.cast_ofNat_Int,x0p,x0i,x07,x06,x0q,x0r,x0s,x0t,x0d,x0u])
  · simp -implicitDefEqProofs only [h4, vmp,↓vmd,Env.get,putD,argEnv,List.map,x00,x01,x02,x03,x04,x05,x06,x07,List.take,List.drop,x08,x09,x0a,x0b,List.isEmpty,↓reduceIte,reduceCtorEq,Nat.reduceEqDiff,Nat.reduceAdd,Nat.reduceLeDiff,x0c,Int.reduceNeg,Nat.reduceMul,Nat.reduceSub,x0d,x0e,x0f,x0g,x0h,x0i,x0j,x0k,Int.reduceEq,Int.reduceLT,Int.reduceLE,Int.reduceToNat,Int.cast_ofNat_Int,List.reduceReplicate]
    unfold c63_0
    simp -implicitDefEqProofs only [vmp,↓vmd,Env.get,putD,argEnv,List.map,x00,x01,x02,x03,x04,x05,x06,x07,List.take,List.drop,x08,x09,x0a,x0b,List.isEmpty,↓reduceIte,reduceCtorEq,Nat.reduceEqDiff,Nat.reduceAdd,Nat.reduceLeDiff,x0c,Int.reduceNeg,Nat.reduceMul,Nat.reduceSub,x0d,x0e,x0f,x0g,x0h,x0i,x0j,x0k,Int.reduceEq,Int.reduceLT,Int.reduceLE,Int.reduceToNat,Int.cast_ofNat_Int,List.reduceReplicate]
    rw [List.drop_of_length_le (by omega)] at hr
    rw [show wide6 l = false by rw [wide6, ← hr]; simp; omega]
    exact gives_pure
theorem wide6_not {l : List (List Int)} (h : wide6 l = false) : l.length ≤ 6 := by
  simp only [wide6, Bool.or_eq_false_iff, decide_eq_false_iff_not] at h
  omega
def wideS (s : Sub) : Bool := wide6 s.back || wide6 s.inn || wide6 s.ahead || decide (8 < s.nests.length)
def greatC (f : Fo) (k : Lk) (n : Nat) : Bool := decide (60 < f.gs.length) || wide6 f.sets || decide (6 < k.subs.length) || decide (30 < n) || k.subs.any wideS
theorem greatC_not {f : Fo} {k : Lk} {n : Nat} (h : greatC f k n = false) : n ≤ 30 ∧ k.subs.length ≤ 6 ∧ ∀ s ∈ k.subs, s.back.length ≤ 6 ∧ s.inn.length ≤ 6 ∧ s.ahead.length ≤ 6 := by
  simp only [greatC, Bool.or_eq_false_iff, decide_eq_false_iff_not, List.any_eq_false] at h
  refine ⟨by omega, by omega, fun s hs => ?_⟩
  have := h.2 s hs
  simp only [wideS, Bool.or_eq_true, not_or, Bool.not_eq_true] at this
  exact ⟨wide6_not this.1.1.1, wide6_not this.1.1.2, wide6_not this.1.2⟩
theorem greatc_q (f : Fo) (k : Lk) (ls : List V) : FnQ Try.prog 23 [fo f, lk k, .sl ls] [.bool (greatC f k ls.length)] := by
  refine q23 (by simp) ?_
  unfold c23
  simp -implicitDefEqProofs only [*, vmp,↓vmd,Env.get,putD,argEnv,List.map,x00,x01,x02,x03,x04,x05,x06,x07,List.take,List.drop,x08,x09,x0a,x0b,List.isEmpty,↓reduceIte,reduceCtorEq,Nat.reduceEqDiff,Nat.reduceAdd,Nat.reduceLeDiff,x0c,Int.reduceNeg,Nat.reduceMul,Nat.reduceSub,x0d,x0e,x0f,x0g,x0h,x0i,x0j,x0k,Int.reduceEq,Int.reduceLT,Int.reduceLE,Int.reduceToNat,Int.cast_ofNat_Int,List.reduceReplicate]
  refine onIf_intro fun _ => ?_
  simp -implicitDefEqProofs only [*, vmp,↓vmd,Env.get,putD,argEnv,List.map,x00,x01,x02,x03,x04,x05,x06,x07,List.take,List.drop,x08,x09,x0a,x0b,List.isEmpty,↓reduceIte,reduceCtorEq,Nat.reduceEqDiff,Nat.reduceAdd,Nat.reduceLeDiff,x0c,Int.reduceNeg,Nat.reduceMul,Nat.reduceSub,x0d,x0e,x0f,x0g,x0h,x0i,x0j,x0k,Int.reduceEq,Int.reduceLT,Int.reduceLE,Int.reduceToNat,Int.cast_ofNat_Int,List.reduceReplicate]
  refine onB_dec (fun h1 => ?_) (fun h1 => ?_)
  · simp -implicitDefEqProofs only [*, vmp,↓vmd,Env.get,putD,argEnv,List.map,x00,x01,x02,x03,x04,x05,x06,x07,List.take,List.drop,x08,x09,x0a,x0b,List.isEmpty,↓reduceIte,reduceCtorEq,Nat.reduceEqDiff,Nat.reduceAdd,Nat.reduceLeDiff,x0c,Int.reduceNeg,Nat.reduceMul,Nat.reduceSub,x0d,x0e,x0f,x0g,x0h,x0i,x0j,x0k,Int.reduceEq,Int.reduceLT,Int.reduceLE,Int.reduceToNat,Int.cast_ofNat_Int,List.reduceReplicate]
    rw [show greatC f k ls.length = true by simp [greatC, show 60 < f.gs.length by omega]]
    exact gives_pure
  simp -implicitDefEqProofs only [*, vmp,↓vmd,Env.get,putD,argEnv,List.map,x00,x01,x02,x03,x04,x05,x06,x07,List.take,List.drop,x08,x09,x0a,x0b,List.isEmpty,↓reduceIte,reduceCtorEq,Nat.reduceEqDiff,Nat.reduceAdd,Nat.reduceLeDiff,x0c,Int.reduceNeg,Nat.reduceMul,Nat.reduceSub,x0d,x0e,x0f,x0g,x0h,x0i,x0j,x0k,Int.reduceEq,Int.reduceLT,Int.reduceLE,Int.reduceToNat,Int.cast_ofNat_Int,List.reduceReplicate]
  refine onC_q (wide6_q _) rfl ?_
  simp -implicitDefEqProofs only [*, vmp,↓vmd,Env.get,putD,argEnv,List.map,x00,x01,x02,x03,x04,x05,x06,x07,List.take,List.drop,x08,x09,x0a,x0b,List.isEmpty,↓reduceIte,reduceCtorEq,Nat.reduceEqDiff,Nat.reduceAdd,Nat.reduceLeDiff,x0c,Int.reduceNeg,Nat.reduceMul,Nat.reduceSub,x0d,x0e,x0f,x0g,x0h,x0i,x0j,x0k,Int.reduceEq,Int.reduceLT,Int.reduceLE,Int.reduceToNat,Int.cast_ofNat_Int,List.reduceReplicate]
  refine onB_intro (fun h2 => ?_) (fun h2 => ?_)
  · simp -implicitDefEqProofs only [*, vmp,↓vmd,Env.get,putD,argEnv,List.map,x00,x01,x02,x03,x04,x05,x06,x07,List.take,List.drop,x08,x09,x0a,x0b,List.isEmpty,↓reduceIte,reduceCtorEq,Nat.reduceEqDiff,Nat.reduceAdd,Nat.reduceLeDiff,x0c,Int.reduceNeg,Nat.reduceMul,Nat.reduceSub,x0d,x0e,x0f,x0g,x0h,x0i,x0j,x0k,Int.reduceEq,Int.reduceLT,Int.reduceLE,Int.reduceToNat,Int.cast_ofNat_Int,List.reduceReplicate]
    rw [show greatC f k ls.length = true by simp [greatC, h2]]
    exact gives_pure
  simp -implicitDefEqProofs only [*, vmp,↓vmd,Env.get,putD,argEnv,List.map,x00,x01,x02,x03,x04,x05,x06,x07,List.take,List.drop,x08,x09,x0a,x0b,List.isEmpty,↓reduceIte,reduceCtorEq,Nat.reduceEqDiff,Nat.reduceAdd,Nat.reduceLeDiff,x0c,Int.reduceNeg,Nat.reduceMul,Nat.reduceSub,x0d,x0e,x0f,x0g,x0h,x0i,x0j,x0k,Int.reduceEq,Int.reduceLT,Int.reduceLE,Int.reduceToNat,Int.cast_ofNat_Int,List.reduceReplicate]
  refine onIf_intro fun _ => ?_
  simp -implicitDefEqProofs only [*, vmp,↓vmd,Env.get,putD,argEnv,List.map,x00,x01,x02,x03,x04,x05,x06,x07,List.take,List.drop,x08,x09,x0a,x0b,List.isEmpty,↓reduceIte,reduceCtorEq,Nat.reduceEqDiff,Nat.reduceAdd,Nat.reduceLeDiff,x0c,Int.reduceNeg,Nat.reduceMul,Nat.reduceSub,x0d,x0e,x0f,x0g,x0h,x0i,x0j,x0k,Int.reduceEq,Int.reduceLT,Int.reduceLE,Int.reduceToNat,Int.cast_ofNat_Int,List.reduceReplicate]
  refine onB_dec (fun h3 => ?_) (fun h3 => ?_)
  · simp -implicitDefEqProofs only [*, vmp,↓vmd,Env.get,putD,argEnv,List.map,x00,x01,x02,x03,x04,x05,x06,x07,List.take,List.drop,x08,x09,x0a,x0b,List.isEmpty,↓reduceIte,reduceCtorEq,Nat.reduceEqDiff,Nat.reduceAdd,Nat.reduceLeDiff,x0c,Int.reduceNeg,Nat.reduceMul,Nat.reduceSub,x0d,x0e,x0f,x0g,x0h,x0i,x0j,x0k,Int.reduceEq,Int.reduceLT,Int.reduceLE,Int.reduceToNat,Int.cast_ofNat_Int,List.reduceReplicate]
    rw [show greatC f k ls.length = true by simp [greatC, show 6 < k.subs.length by omega]]
    exact gives_pure
  simp -implicitDefEqProofs only [*, vmp,↓vmd,Env.get,putD,argEnv,List.map,x00,x01,x02,x03,x04,x05,x06,x07,List.take,List.drop,x08,x09,x0a,x0b,List.isEmpty,↓reduceIte,reduceCtorEq,Nat.reduceEqDiff,Nat.reduceAdd,Nat.reduceLeDiff,x0c,Int.reduceNeg,Nat.reduceMul,Nat.reduceSub,x0d,x0e,x0f,x0g,x0h,x0i,x0j,x0k,Int.reduceEq,Int.reduceLT,Int.reduceLE,Int.reduceToNat,Int.cast_ofNat_Int,List.reduceReplicate]
  refine onIf_intro fun _ => ?_
  simp -implicitDefEqProofs only [*, vmp,↓vmd,Env.get,putD,argEnv,List.map,x00,x01,x02,x03,x04,x05,x06,x07,List.take,List.drop,x08,x09,x0a,x0b,List.isEmpty,↓reduceIte,reduceCtorEq,Nat.reduceEqDiff,Nat.reduceAdd,Nat.reduceLeDiff,x0c,Int.reduceNeg,Nat.reduceMul,Nat.reduceSub,x0d,x0e,x0f,x0g,x0h,x0i,x0j,x0k,Int.reduceEq,Int.reduceLT,Int.reduceLE,Int.reduceToNat,Int.cast_ofNat_Int,List.reduceReplicate]
  refine onB_dec (fun h4 => ?_) (fun h4 => ?_)
  · simp -implicitDefEqProofs only [*, vmp,↓vmd,Env.get,putD,argEnv,List.map,x00,x01,x02,x03,x04,x05,x06,x07,List.take,List.drop,x08,x09,x0a,x0b,List.isEmpty,↓reduceIte,reduceCtorEq,Nat.reduceEqDiff,Nat.reduceAdd,Nat.reduceLeDiff,x0c,Int.reduceNeg,Nat.reduceMul,Nat.reduceSub,x0d,x0e,x0f,x0g,x0h,x0i,x0j,x0k,Int.reduceEq,Int.reduceLT,Int.reduceLE,Int.reduceToNat,Int.cast_ofNat_Int,List.reduceReplicate]
    rw [show greatC f k ls.length = true by simp [greatC, show 30 < ls.length by omega]]
    exact gives_pure
  simp -implicitDefEqProofs only [*, vmp,↓vmd,Env.get,putD,argEnv,List.map,x00,x01,x02,x03,x04,x05,x06,x07,List.take,List.drop,x08,x09,x0a,x0b,List.isEmpty,↓reduceIte,reduceCtorEq,Nat.reduceEqDiff,Nat.reduceAdd,Nat.reduceLeDiff,x0c,Int.reduceNeg,Nat.reduceMul,Nat.reduceSub,x0d,x0e,x0f,x0g,x0h,x0i,x0j,x0k,Int.reduceEq,Int.reduceLT,Int.reduceLE,Int.reduceToNat,Int.cast_ofNat_Int,List.reduceReplicate]
  refine loop_at (T := Nat) (fun i => [(7, .pure (I i)), (4, .ptr 0 0 0)]) (fun _ => [⟨[.pure (lk k)], 4, .live⟩]) (fun i => i ≤ k.subs.length ∧ (k.subs.drop i).any wideS = k.subs.any wideS) (fun i => k.subs.length - i)
    0 [1] (by simp) rfl ⟨by simp, by simp⟩ (by simp -implicitDefEqProofs only [kpp,Env.get,x01,x00,x02,x03,List.map,x08,x09,↓reduceIte,reduceCtorEq,Nat.reduceEqDiff,Nat.reduceLeDiff,Nat.reduceLT,Nat.reduceAdd,x0j,x0l,x0m,x0n,x0o,Int.cast_ofNat_Int,x0p,x0i,x07,x06,x0q,x0r,x0s,x0t,x0d,x0u]) (by simp -implicitDefEqProofs only [kpp,Env.get,x01,x00,x02,x03,List.map,x08,x09,↓reduceIte,reduceCtorEq,Nat.reduceEqDiff,Nat.reduceLeDiff,Nat.reduceLT,Nat.reduceAdd,x0j,x0l,x0m,x0n,x0o,Int.cast_ofNat_Int,x0p,x0i,x07,x06,x0q,x0r,x0s,x0t,x0d,x0u]) ?_
  rintro i ⟨hi, hr⟩
  unfold c23_1
  simp -implicitDefEqProofs only [vmp,↓vmd,Env.get,putD,argEnv,List.map,x00,x01,x02,x03,x04,x05,x06,x07,List.take,List.drop,x08,x09,x0a,x0b,List.isEmpty,↓reduceIte,reduceCtorEq,Nat.reduceEqDiff,Nat.reduceAdd,Nat.reduceLeDiff,x0c,Int.reduceNeg,Nat.reduceMul,Nat.reduceSub,x0d,x0e,x0f,x0g,x0h,x0i,x0j,x0k,Int.reduceEq,Int.reduceLT,Int.reduceLE,Int.reduceToNat,Int.cast_ofNat_Int,List.reduceReplicate]
  refine onIf_intro fun _ => ?_
  simp -implicitDefEqProofs only [vmp,↓vmd,Env.get,putD,argEnv,List.map,x00,x01,x02,x03,x04,x05,x06,x07,List.take,List.drop,x08,x09,x0a,x0b,List.isEmpty,↓reduceIte,reduceCtorEq,Nat.reduceEqDiff,Nat.reduceAdd,Nat.reduceLeDiff,x0c,Int.reduceNeg,Nat.reduceMul,Nat.reduceSub,x0d,x0e,x0f,x0g,x0h,x0i,x0j,x0k,Int.reduceEq,Int.reduceLT,Int.reduceLE,Int.reduceToNat,Int.cast_ofNat_Int,List.reduceReplicate]
  refine onB_dec (fun h5 => ?_) (fun h5 => ?_)
  · have hlt : i < k.subs.length := by omega
    rw [drop_at hlt, List.any_cons] at hr
    have yes : wideS k.subs[i] = true → greatC f k ls.length = true := fun e => by rw [greatC, ← hr, e]; simp
    simp -implicitDefEqProofs only [h5, map_at hlt, Int.natCast_nonneg, vmp,↓vmd,Env.get,putD,argEnv,List.map,x00,x01,x02,x03,x04,x05,x06,x07,List.take,List.drop,x08,x09,x0a,x0b,List.isEmpty,↓reduceIte,reduceCtorEq,Nat.reduceEqDiff,Nat.reduceAdd,Nat.reduceLeDiff,x0c,Int.reduceNeg,Nat.reduceMul,Nat.reduceSub,x0d,x0e,x0f,x0g,x0h,x0i,x0j,x0k,Int.reduceEq,Int.reduceLT,Int.reduceLE,Int.reduceToNat,Int.cast_ofNat_Int,List.reduceReplicate]
    refine onC_q (wide6_q _) rfl ?_
    simp -implicitDefEqProofs only [vmp,↓vmd,Env.get,putD,argEnv,List.map,x00,x01,x02,x03,x04,x05,x06,x07,List.take,List.drop,x08,x09,x0a,x0b,List.isEmpty,↓reduceIte,reduceCtorEq,Nat.reduceEqDiff,Nat.reduceAdd,Nat.reduceLeDiff,x0c,Int.reduceNeg,Nat.reduceMul,Nat.reduceSub,x0d,x0e,x0f,x0g,x0h,x0i,x0j,x0k,Int.reduceEq,Int.reduceLT,Int.reduceLE,Int.reduceToNat,Int.cast_ofNat_Int,List.reduceReplicate]
    refine onB_intro (fun w1 => ?_) (fun w1 => ?_)
    · simp -implicitDefEqProofs only [w1, vmp,↓vmd,Env.get,putD,argEnv,List.map,x00,x01,x02,x03,x04,x05,x06,x07,List.take,List.drop,x08,x09,x0a,x0b,List.isEmpty,↓reduceIte,reduceCtorEq,Nat.reduceEqDiff,Nat.reduceAdd,Nat.reduceLeDiff,x0c,Int.reduceNeg,Nat.reduceMul,Nat.reduceSub,x0d,x0e,x0f,x0g,x0h,x0i,x0j,x0k,Int.reduceEq,Int.reduceLT,Int.reduceLE,Int.reduceToNat,Int.cast_ofNat_Int,List.reduceReplicate]
      rw [yes (by simp [wideS, w1])]
      exact gives_pure
    simp -implicitDefEqProofs only [w1, vmp,↓vmd,Env.get,putD,argEnv,List.map,x00,x01,x02,x03,x04,x05,x06,x07,List.take,List.drop,x08,x09,x0a,x0b,List.isEmpty,↓reduceIte,reduceCtorEq,Nat.reduceEqDiff,Nat.reduceAdd,Nat.reduceLeDiff,x0c,Int.reduceNeg,Nat.reduceMul,Nat.reduceSub,x0d,x0e,x0f,x0g,x0h,x0i,x0j,x0k,Int.reduceEq,Int.reduceLT,Int.reduceLE,Int.reduceToNat,Int.cast_ofNat_Int,List.reduceReplicate]
    refine onC_q (wide6_q _) rfl ?_
    simp -implicitDefEqProofs only [w1, vmp,↓vmd,Env.get,putD,argEnv,List.map,x00,x01,x02,x03,x04,x05,x06,x07,List.take,List.drop,x08,x09,x0a,x0b,List.isEmpty,↓reduceIte,reduceCtorEq,Nat.reduceEqDiff,Nat.reduceAdd,Nat.reduceLeDiff,x0c,Int.reduceNeg,Nat.reduceMul,Nat.reduceSub,x0d,x0e,x0f,x0g,x0h,x0i,x0j,x0k,Int.reduceEq,Int.reduceLT,Int.reduceLE,Int.reduceToNat,Int.cast_ofNat_Int,List.reduceReplicate]
    refine onB_intro (fun w2 => ?_) (fun w2 => ?_)
    · simp -implicitDefEqProofs only [w2, vmp,↓vmd,Env.get,putD,argEnv,List.map,x00,x01,x02,x03,x04,x05,x06,x07,List.take,List.drop,x08,x09,x0a,x0b,List.isEmpty,↓reduceIte,reduceCtorEq,Nat.reduceEqDiff,Nat.reduceAdd,Nat.reduceLeDiff,x0c,Int.reduceNeg,Nat.reduceMul,Nat.reduceSub,x0d,x0e,x0f,x0g,x0h,x0i,x0j,x0k,Int.reduceEq,Int.reduceLT,Int.reduceLE,Int.reduceToNat,Int.cast_ofNat_Int,List.reduceReplicate]
      rw [yes (by simp [wideS, w2])]
      exact gives_pure
    simp -implicitDefEqProofs only [w2, vmp,↓vmd,Env.get,putD,argEnv,List.map,x00,x01,x02,x03,x04,x05,x06,x07,List.take,List.drop,x08,x09,x0a,x0b,List.isEmpty,↓reduceIte,reduceCtorEq,Nat.reduceEqDiff,Nat.reduceAdd,Nat.reduceLeDiff,x0c,Int.reduceNeg,Nat.reduceMul,Nat.reduceSub,x0d,x0e,x0f,x0g,x0h,x0i,x0j,x0k,Int.reduceEq,Int.reduceLT,Int.reduceLE,Int.reduceToNat,Int.cast_ofNat_Int,List.reduceReplicate]
    refine onC_q (wide6_q _) rfl ?_
    simp -implicitDefEqProofs only [w2, vmp,↓vmd,Env.get,putD,argEnv,List.map,x00,x01,x02,x03,x04,x05,x06,x07,List.take,List.drop,x08,x09,x0a,x0b,List.isEmpty,↓reduceIte,reduceCtorEq,Nat.reduceEqDiff,Nat.reduceAdd,Nat.reduceLeDiff,x0c,Int.reduceNeg,Nat.reduceMul,Nat.reduceSub,x0d,x0e,x0f,x0g,x0h,x0i,x0j,x0k,Int.reduceEq,Int.reduceLT,Int.reduceLE,Int.reduceToNat,Int.cast_ofNat_Int,List.reduceReplicate]
    refine onB_intro (fun w3 => ?_) (fun w3 => ?_)
    · simp -implicitDefEqProofs only [w3, vmp,↓vmd,Env.get,putD,argEnv,List.map,x00,x01,x02,x03,x04,x05,x06,x07,List.take,List.drop,x08,x09,x0a,x0b,List.isEmpty,↓reduceIte,reduceCtorEq,Nat.reduceEqDiff,Nat.reduceAdd,Nat.reduceLeDiff,x0c,Int.reduceNeg,Nat.reduceMul,Nat.reduceSub,x0d,x0e,x0f,x0g,x0h,x0i,x0j,x0k,Int.reduceEq,Int.reduceLT,Int.reduceLE,Int.reduceToNat,Int.cast_ofNat_Int,List.reduceReplicate]
      rw [yes (by simp [wideS, w3])]
      exact gives_pure
    simp -implicitDefEqProofs only [w3, vmp,↓vmd,Env.get,putD,argEnv,List.map,x00,x01,x02,x03,x04,x05,x06,x07,List.take,List.drop,x08,x09,x0a,x0b,List.isEmpty,↓reduceIte,reduceCtorEq,Nat.reduceEqDiff,Nat.reduceAdd,Nat.reduceLeDiff,x0c,Int.reduceNeg,Nat.reduceMul,Nat.reduceSub,x0d,x0e,x0f,x0g,x0h,x0i,x0j,x0k,Int.reduceEq,Int.reduceLT,Int.reduceLE,Int.reduceToNat,Int.cast_ofNat_Int,List.reduceReplicate]
    refine onIf_intro fun _ => ?_
    simp -implicitDefEqProofs only [w3, vmp,↓vmd,Env.get,putD,argEnv,List.map,x00,x01,x02,x03,x04,x05,x06,x07,List.take,List.drop,x08,x09,x0a,x0b,List.isEmpty,↓reduceIte,reduceCtorEq,Nat.reduceEqDiff,Nat.reduceAdd,Nat.reduceLeDiff,x0c,Int.reduceNeg,Nat.reduceMul,Nat.reduceSub,x0d,x0e,x0f,x0g,x0h,x0i,x0j,x0k,Int.reduceEq,Int.reduceLT,Int.reduceLE,Int.reduceToNat,Int.cast_ofNat_Int,List.reduceReplicate]
    refine onB_dec (fun w4 => ?_) (fun w4 => ?_)
    · simp -implicitDefEqProofs only [w4, vmp,↓vmd,Env.get,putD,argEnv,List.map,x00,x01,x02,x03,x04,x05,x06,x07,List.take,List.drop,x08,x09,x0a,x0b,List.isEmpty,↓reduceIte,reduceCtorEq,Nat.reduceEqDiff,Nat.reduceAdd,Nat.reduceLeDiff,x0c,Int.reduceNeg,Nat.reduceMul,Nat.reduceSub,x0d,x0e,x0f,x0g,x0h,x0i,x0j,x0k,Int.reduceEq,Int.reduceLT,Int.reduceLE,Int.reduceToNat,Int.cast_ofNat_Int,List.reduceReplicate]
      rw [yes (by simp [wideS, show 8 < k.subs[i].nests.length by omega])]
      exact gives_pure
    · simp -implicitDefEqProofs only [w4, vmp,↓vmd,Env.get,putD,argEnv,List.map,x00,x01,x02,x03,x04,x05,x06,x07,List.take,List.drop,x08,x09,x0a,x0b,List.isEmpty,↓reduceIte,reduceCtorEq,Nat.reduceEqDiff,Nat.reduceAdd,Nat.reduceLeDiff,x0c,Int.reduceNeg,Nat.reduceMul,Nat.reduceSub,x0d,x0e,x0f,x0g,x0h,x0i,x0j,x0k,Int.reduceEq,Int.reduceLT,Int.reduceLE,Int.reduceToNat,Int.cast_ofNat_Int,List.reduceReplicate]
      refine onBk_to (i + 1) [0] (by simp) rfl (by omega) ⟨hlt, by rw [← hr, show wideS k.subs[i] = false by simp [wideS, w1, w2, w3]; omega, Bool.false_or]⟩ (by simp -implicitDefEqProofs only [next_at hlt (by omega), kpp,Env.get,x01,x00,x02,x03,List.map,x08,x09,↓reduceIte,reduceCtorEq,Nat.reduceEqDiff,Nat.reduceLeDiff,Nat.reduceLT,Nat.reduceAdd,x0j,x0l,x0m,x0n,x0o,Int.cast_ofNat_Int,x0p,x0i,x07,x06,x0q,x0r,x0s,x0t,x0d,x0u]) (by simp -implicitDefEqProofs only [kpp,Env.get,x01,x00,x02,x03,List.map,x08,x09,↓reduceIte,reduceCtorEq,Nat.reduceEqDiff,Nat.reduceLeDiff,Nat.reduceLT,Nat.reduceAdd,x0j,x0l,x0m,x0n,x0o,Int.cast_ofNat_Int,x0p,x0i,x07,x06,x0q,x0r,x0s,x0t,x0d,x0u])
  · simp -implicitDefEqProofs only [h5, vmp,↓vmd,Env.get,putD,argEnv,List.map,x00,x01,x02,x03,x04,x05,x06,x07,List.take,List.drop,x08,x09,x0a,x0b,List.isEmpty,↓reduceIte,reduceCtorEq,Nat.reduceEqDiff,Nat.reduceAdd,Nat.reduceLeDiff,x0c,Int.reduceNeg,Nat.reduceMul,Nat.reduceSub,x0d,x0e,x0f,x0g,x0h,x0i,x0j,x0k,Int.reduceEq,Int.reduceLT,Int.reduceLE,Int.reduceToNat,Int.cast_ofNat_Int,List.reduceReplicate]
    unfold c23_0
    simp -implicitDefEqProofs only [vmp,↓vmd,Env.get,putD,argEnv,List.map,x00,x01,x02,x03,x04,x05,x06,x07,List.take,List.drop,x08,x09,x0a,x0b,List.isEmpty,↓reduceIte,reduceCtorEq,Nat.reduceEqDiff,Nat.reduceAdd,Nat.reduceLeDiff,x0c,Int.reduceNeg,Nat.reduceMul,Nat.reduceSub,x0d,x0e,x0f,x0g,x0h,x0i,x0j,x0k,Int.reduceEq,Int.reduceLT,Int.reduceLE,Int.reduceToNat,Int.cast_ofNat_Int,List.reduceReplicate]
    rw [List.drop_of_length_le (by omega)] at hr
    rw [show greatC f k ls.length = false by rw [greatC, ← hr, h2]; simp; omega]
    exact gives_pure
def lastF (x : Int) (r : List Int) : Int := (x :: r).getD r.length 0
/-- where a subtable stands -/
def stF (f : Fo) (b n : Int) (ls : List Gl) (x : Int) (s : Sub) : Option (List Int) :=
  match s.inn with
  | [] => none
  | z :: zs => if idAt ls x ∉ z then none else match rowF (nextF (seesF f b n ls) ls.length) ls zs x with
    | none => none
    | some r => match rowF (prevF (seesF f b n ls) ls.length) ls s.back x with
      | none => none
      | some _ => match rowF (nextF (seesF f b n ls) ls.length) ls s.ahead (lastF x r) with
        | none => none
        | some _ => some (x :: r)
theorem inn_cons {l : List (List Int)} {z : List Int} {zs : List (List Int)} (h : l = z :: zs) : (l.map LI)[0]? = some (LI z) ∧ ((l.length : Int) = 0) = False ∧ slcP 1 (l.map LI) false (some 1) (some (l.length : Int)) (some (l.length : Int)) = some (.pure (LL zs)) := by
  subst h
  refine ⟨rfl, by simp; omega, ?_⟩
  rw [slcP_from (f := LI) (fun _ => rfl) (by omega) (by simp; omega)]
  rfl
theorem rowF_len {g : Int → Int} {ls : List Gl} : ∀ {sets : List (List Int)} {x : Int} {l : List Int}, rowF g ls sets x = some l → l.length = sets.length
  | [], x, l, h => by simp [rowF] at h; subst h; rfl
  | st :: r, x, l, h => by
    rw [rowF] at h
    split at h
    · cases h
    · obtain ⟨q, h1, rfl⟩ := Option.map_eq_some_iff.1 h
      simp [rowF_len h1]
theorem toV_row1 {lv : Bool} {H : Heap} {x : Int} {r : List Int} {b m n : Nat} {st : RowSt} (h : H[b]? = some ⟨.pure (I x) :: (r.map I).map S.pure, m, st⟩) (hst : st = .frozen ∨ (lv = true ∧ st = .live)) (hn : n = r.length + 1) : toV lv H (.rsl b 0 n) = some (LI (x :: r)) := by
  subst hn
  exact toV_row (X := x :: r) (f := I) h hst
theorem last_at {x : Int} {r : List Int} : (S.pure (I x) :: (r.map I).map S.pure)[r.length]? = some (.pure (I (lastF x r))) := by
  have : (((x :: r).map I).map S.pure)[r.length]? = some (.pure (I (x :: r)[r.length])) := row_at (by simp)
  rw [lastF, List.getD_eq_getElem?_getD, show (x :: r)[r.length]? = some (x :: r)[r.length] from List.getElem?_eq_getElem (by simp)]
  exact this
theorem rstands_q (f : Fo) (k : Lk) (ls : List Gl) (hl : ls.length ≤ 1000) (x : Int) (h0 : 0 ≤ x) (h1 : x < ls.length) (s : Sub) (hs : s.back.length ≤ 6 ∧ s.inn.length ≤ 6 ∧ s.ahead.length ≤ 6) :
    FnQ Try.prog 89 [fo f, lk k, sub s, .sl (ls.map gl), I x] (rowR (stF f k.flags k.set ls x s)) := by
  obtain ⟨hb, hi, ha⟩ := hs
  obtain ⟨q, hq1, hq2⟩ := at_id h0 h1
  refine q89 (by simp) ?_
  unfold c89
  simp -implicitDefEqProofs only [*, vmp,↓vmd,Env.get,putD,argEnv,List.map,x00,x01,x02,x03,x04,x05,x06,x07,List.take,List.drop,x08,x09,x0a,x0b,List.isEmpty,↓reduceIte,reduceCtorEq,Nat.reduceEqDiff,Nat.reduceAdd,Nat.reduceLeDiff,x0c,Int.reduceNeg,Nat.reduceMul,Nat.reduceSub,x0d,x0e,x0f,x0g,x0h,x0i,x0j,x0k,Int.reduceEq,Int.reduceLT,Int.reduceLE,Int.reduceToNat,Int.cast_ofNat_Int,List.reduceReplicate]
  obtain hz | ⟨z, zs, hz⟩ : s.inn = [] ∨ ∃ z zs, s.inn = z :: zs := by cases s.inn <;> simp
  · simp -implicitDefEqProofs only [hz, vmp,↓vmd,Env.get,putD,argEnv,List.map,x00,x01,x02,x03,x04,x05,x06,x07,List.take,List.drop,x08,x09,x0a,x0b,List.isEmpty,↓reduceIte,reduceCtorEq,Nat.reduceEqDiff,Nat.reduceAdd,Nat.reduceLeDiff,x0c,Int.reduceNeg,Nat.reduceMul,Nat.reduceSub,x0d,x0e,x0f,x0g,x0h,x0i,x0j,x0k,Int.reduceEq,Int.reduceLT,Int.reduceLE,Int.reduceToNat,Int.cast_ofNat_Int,List.reduceReplicate]
    rw [show stF f k.flags k.set ls x s = none by rw [stF, hz]]
    exact gives_tup rfl (by simp)
  · rw [hz] at hi
    simp only [List.length_cons] at hi
    obtain ⟨e0, en, es⟩ := inn_cons hz
    have hst : stF f k.flags k.set ls x s = if idAt ls x ∉ z then none else match rowF (nextF (seesF f k.flags k.set ls) ls.length) ls zs x with
        | none => none
        | some r => match rowF (prevF (seesF f k.flags k.set ls) ls.length) ls s.back x with
          | none => none
          | some _ => match rowF (nextF (seesF f k.flags k.set ls) ls.length) ls s.ahead (lastF x r) with
            | none => none
            | some _ => some (x :: r) := by rw [stF, hz] <;> rfl
    rw [hst]
    simp -implicitDefEqProofs only [e0, en, hq1, h0, h1, vmp,↓vmd,Env.get,putD,argEnv,List.map,x00,x01,x02,x03,x04,x05,x06,x07,List.take,List.drop,x08,x09,x0a,x0b,List.isEmpty,↓reduceIte,reduceCtorEq,Nat.reduceEqDiff,Nat.reduceAdd,Nat.reduceLeDiff,x0c,Int.reduceNeg,Nat.reduceMul,Nat.reduceSub,x0d,x0e,x0f,x0g,x0h,x0i,x0j,x0k,Int.reduceEq,Int.reduceLT,Int.reduceLE,Int.reduceToNat,Int.cast_ofNat_Int,List.reduceReplicate]
    refine onC_q (in_q _ _) rfl ?_
    rw [hq2]
    by_cases hm : idAt ls x ∈ z
    · rw [if_neg (by simp [hm])]
      simp -implicitDefEqProofs only [hm, es, en, vmp,↓vmd,Env.get,putD,argEnv,List.map,x00,x01,x02,x03,x04,x05,x06,x07,List.take,List.drop,x08,x09,x0a,x0b,List.isEmpty,↓reduceIte,reduceCtorEq,Nat.reduceEqDiff,Nat.reduceAdd,Nat.reduceLeDiff,x0c,Int.reduceNeg,Nat.reduceMul,Nat.reduceSub,x0d,x0e,x0f,x0g,x0h,x0i,x0j,x0k,Int.reduceEq,Int.reduceLT,Int.reduceLE,Int.reduceToNat,Int.cast_ofNat_Int,List.reduceReplicate]
      have hr1 := rrowf_q f k.kind k.flags k.set (.sl (k.subs.map sub)) ls hl x zs (by omega)
      have hr2 := rrowb_q f k.kind k.flags k.set (.sl (k.subs.map sub)) ls hl x s.back (by omega)
      cases hc1 : rowF (nextF (seesF f k.flags k.set ls) ls.length) ls zs x with
      | none =>
        rw [hc1] at hr1
        have hr1' : FnQ Try.prog 102 [fo f, lk k, .sl (ls.map gl), I x, LL zs] [LI [], .bool false] := hr1
        refine onQ_q hr1' rfl ?_
        first | refine envO (by simp -implicitDefEqProofs only [vmp,↓vmd,Env.get,putD,argEnv,List.map,x00,x01,x02,x03,x04,x05,x06,x07,List.take,List.drop,x08,x09,x0a,x0b,List.isEmpty,↓reduceIte,reduceCtorEq,Nat.reduceEqDiff,Nat.reduceAdd,Nat.reduceLeDiff,x0c,Int.reduceNeg,Nat.reduceMul,Nat.reduceSub,x0d,x0e,x0f,x0g,x0h,x0i,x0j,x0k,Int.reduceEq,Int.reduceLT,Int.reduceLE,Int.reduceToNat,Int.cast_ofNat_Int,List.reduceReplicate]; rfl) ?_ | refine envQ (by simp -implicitDefEqProofs only [vmp,↓vmd,Env.get,putD,argEnv,List.map,x00,x01,x02,x03,x04,x05,x06,x07,List.take,List.drop,x08,x09,x0a,x0b,List.isEmpty,↓reduceIte,reduceCtorEq,Nat.reduceEqDiff,Nat.reduceAdd,Nat.reduceLeDiff,x0c,Int.reduceNeg,Nat.reduceMul,Nat.reduceSub,x0d,x0e,x0f,x0g,x0h,x0i,x0j,x0k,Int.reduceEq,Int.reduceLT,Int.reduceLE,Int.reduceToNat,Int.cast_ofNat_Int,List.reduceReplicate]; rfl) ?_
        simp -implicitDefEqProofs only [vmp,↓vmd,Env.get,putD,argEnv,List.map,x00,x01,x02,x03,x04,x05,x06,x07,List.take,List.drop,x08,x09,x0a,x0b,List.isEmpty,↓reduceIte,reduceCtorEq,Nat.reduceEqDiff,Nat.reduceAdd,Nat.reduceLeDiff,x0c,Int.reduceNeg,Nat.reduceMul,Nat.reduceSub,x0d,x0e,x0f,x0g,x0h,x0i,x0j,x0k,Int.reduceEq,Int.reduceLT,Int.reduceLE,Int.reduceToNat,Int.cast_ofNat_Int,List.reduceReplicate]
        exact gives_tup rfl (by simp)
      | some r =>
        rw [hc1] at hr1
        have hrl := rowF_len hc1
        have hr1' : FnQ Try.prog 102 [fo f, lk k, .sl (ls.map gl), I x, LL zs] [LI r, .bool true] := hr1
        refine onQ_q hr1' rfl ?_
        first | refine envO (by simp -implicitDefEqProofs only [vmp,↓vmd,Env.get,putD,argEnv,List.map,x00,x01,x02,x03,x04,x05,x06,x07,List.take,List.drop,x08,x09,x0a,x0b,List.isEmpty,↓reduceIte,reduceCtorEq,Nat.reduceEqDiff,Nat.reduceAdd,Nat.reduceLeDiff,x0c,Int.reduceNeg,Nat.reduceMul,Nat.reduceSub,x0d,x0e,x0f,x0g,x0h,x0i,x0j,x0k,Int.reduceEq,Int.reduceLT,Int.reduceLE,Int.reduceToNat,Int.cast_ofNat_Int,List.reduceReplicate]; rfl) ?_ | refine envQ (by simp -implicitDefEqProofs only [vmp,↓vmd,Env.get,putD,argEnv,List.map,x00,x01,x02,x03,x04,x05,x06,x07,List.take,List.drop,x08,x09,x0a,x0b,List.isEmpty,↓reduceIte,reduceCtorEq,Nat.reduceEqDiff,Nat.reduceAdd,Nat.reduceLeDiff,x0c,Int.reduceNeg,Nat.reduceMul,Nat.reduceSub,x0d,x0e,x0f,x0g,x0h,x0i,x0j,x0k,Int.reduceEq,Int.reduceLT,Int.reduceLE,Int.reduceToNat,Int.cast_ofNat_Int,List.reduceReplicate]; rfl) ?_
        simp -implicitDefEqProofs only [vmp,↓vmd,Env.get,putD,argEnv,List.map,x00,x01,x02,x03,x04,x05,x06,x07,List.take,List.drop,x08,x09,x0a,x0b,List.isEmpty,↓reduceIte,reduceCtorEq,Nat.reduceEqDiff,Nat.reduceAdd,Nat.reduceLeDiff,x0c,Int.reduceNeg,Nat.reduceMul,Nat.reduceSub,x0d,x0e,x0f,x0g,x0h,x0i,x0j,x0k,Int.reduceEq,Int.reduceLT,Int.reduceLE,Int.reduceToNat,Int.cast_ofNat_Int,List.reduceReplicate]
        refine onIf'_intro (appOk_map (fun _ => rfl) rfl (by simp) (by omega) (by simp [maxLen]; omega)) ?_
        simp -implicitDefEqProofs only [vmp,↓vmd,Env.get,putD,argEnv,List.map,x00,x01,x02,x03,x04,x05,x06,x07,List.take,List.drop,x08,x09,x0a,x0b,List.isEmpty,↓reduceIte,reduceCtorEq,Nat.reduceEqDiff,Nat.reduceAdd,Nat.reduceLeDiff,x0c,Int.reduceNeg,Nat.reduceMul,Nat.reduceSub,x0d,x0e,x0f,x0g,x0h,x0i,x0j,x0k,Int.reduceEq,Int.reduceLT,Int.reduceLE,Int.reduceToNat,Int.cast_ofNat_Int,List.reduceReplicate]
        cases hc2 : rowF (prevF (seesF f k.flags k.set ls) ls.length) ls s.back x with
        | none =>
          rw [hc2] at hr2
          have hr2' : FnQ Try.prog 103 [fo f, lk k, .sl (ls.map gl), I x, LL s.back] [LI [], .bool false] := hr2
          refine onC_q hr2' rfl ?_
          first | refine envO (by simp -implicitDefEqProofs only [vmp,↓vmd,Env.get,putD,argEnv,List.map,x00,x01,x02,x03,x04,x05,x06,x07,List.take,List.drop,x08,x09,x0a,x0b,List.isEmpty,↓reduceIte,reduceCtorEq,Nat.reduceEqDiff,Nat.reduceAdd,Nat.reduceLeDiff,x0c,Int.reduceNeg,Nat.reduceMul,Nat.reduceSub,x0d,x0e,x0f,x0g,x0h,x0i,x0j,x0k,Int.reduceEq,Int.reduceLT,Int.reduceLE,Int.reduceToNat,Int.cast_ofNat_Int,List.reduceReplicate]; rfl) ?_ | refine envQ (by simp -implicitDefEqProofs only [vmp,↓vmd,Env.get,putD,argEnv,List.map,x00,x01,x02,x03,x04,x05,x06,x07,List.take,List.drop,x08,x09,x0a,x0b,List.isEmpty,↓reduceIte,reduceCtorEq,Nat.reduceEqDiff,Nat.reduceAdd,Nat.reduceLeDiff,x0c,Int.reduceNeg,Nat.reduceMul,Nat.reduceSub,x0d,x0e,x0f,x0g,x0h,x0i,x0j,x0k,Int.reduceEq,Int.reduceLT,Int.reduceLE,Int.reduceToNat,Int.cast_ofNat_Int,List.reduceReplicate]; rfl) ?_
          simp -implicitDefEqProofs only [vmp,↓vmd,Env.get,putD,argEnv,List.map,x00,x01,x02,x03,x04,x05,x06,x07,List.take,List.drop,x08,x09,x0a,x0b,List.isEmpty,↓reduceIte,reduceCtorEq,Nat.reduceEqDiff,Nat.reduceAdd,Nat.reduceLeDiff,x0c,Int.reduceNeg,Nat.reduceMul,Nat.reduceSub,x0d,x0e,x0f,x0g,x0h,x0i,x0j,x0k,Int.reduceEq,Int.reduceLT,Int.reduceLE,Int.reduceToNat,Int.cast_ofNat_Int,List.reduceReplicate]
          exact gives_tup rfl (by simp)
        | some r2 =>
          rw [hc2] at hr2
          have hr2' : FnQ Try.prog 103 [fo f, lk k, .sl (ls.map gl), I x, LL s.back] [LI r2, .bool true] := hr2
          refine onC_q hr2' rfl ?_
          first | refine envO (by simp -implicitDefEqProofs only [vmp,↓vmd,Env.get,putD,argEnv,List.map,x00,x01,x02,x03,x04,x05,x06,x07,List.take,List.drop,x08,x09,x0a,x0b,List.isEmpty,↓reduceIte,reduceCtorEq,Nat.reduceEqDiff,Nat.reduceAdd,Nat.reduceLeDiff,x0c,Int.reduceNeg,Nat.reduceMul,Nat.reduceSub,x0d,x0e,x0f,x0g,x0h,x0i,x0j,x0k,Int.reduceEq,Int.reduceLT,Int.reduceLE,Int.reduceToNat,Int.cast_ofNat_Int,List.reduceReplicate]; rfl) ?_ | refine envQ (by simp -implicitDefEqProofs only [vmp,↓vmd,Env.get,putD,argEnv,List.map,x00,x01,x02,x03,x04,x05,x06,x07,List.take,List.drop,x08,x09,x0a,x0b,List.isEmpty,↓reduceIte,reduceCtorEq,Nat.reduceEqDiff,Nat.reduceAdd,Nat.reduceLeDiff,x0c,Int.reduceNeg,Nat.reduceMul,Nat.reduceSub,x0d,x0e,x0f,x0g,x0h,x0i,x0j,x0k,Int.reduceEq,Int.reduceLT,Int.reduceLE,Int.reduceToNat,Int.cast_ofNat_Int,List.reduceReplicate]; rfl) ?_
          have hwL : IntKind.wrap .i64 (((1 + r.length : Nat) : Int) - 1) = (r.length : Int) := by rw [wrap_id (by omega) (by omega)]; omega
          simp -implicitDefEqProofs only [hwL, last_at, Int.natCast_nonneg, show (r.length : Int) < ((1 + r.length : Nat) : Int) by omega, vmp,↓vmd,Env.get,putD,argEnv,List.map,x00,x01,x02,x03,x04,x05,x06,x07,List.take,List.drop,x08,x09,x0a,x0b,List.isEmpty,↓reduceIte,reduceCtorEq,Nat.reduceEqDiff,Nat.reduceAdd,Nat.reduceLeDiff,x0c,Int.reduceNeg,Nat.reduceMul,Nat.reduceSub,x0d,x0e,x0f,x0g,x0h,x0i,x0j,x0k,Int.reduceEq,Int.reduceLT,Int.reduceLE,Int.reduceToNat,Int.cast_ofNat_Int,List.reduceReplicate]
          have hr3 := rrowf_q f k.kind k.flags k.set (.sl (k.subs.map sub)) ls hl (lastF x r) s.ahead (by omega)
          cases hc3 : rowF (nextF (seesF f k.flags k.set ls) ls.length) ls s.ahead (lastF x r) with
          | none =>
            rw [hc3] at hr3
            have hr3' : FnQ Try.prog 102 [fo f, lk k, .sl (ls.map gl), I (lastF x r), LL s.ahead] [LI [], .bool false] := hr3
            refine onQ_q hr3' rfl ?_
            first | refine envO (by simp -implicitDefEqProofs only [vmp,↓vmd,Env.get,putD,argEnv,List.map,x00,x01,x02,x03,x04,x05,x06,x07,List.take,List.drop,x08,x09,x0a,x0b,List.isEmpty,↓reduceIte,reduceCtorEq,Nat.reduceEqDiff,Nat.reduceAdd,Nat.reduceLeDiff,x0c,Int.reduceNeg,Nat.reduceMul,Nat.reduceSub,x0d,x0e,x0f,x0g,x0h,x0i,x0j,x0k,Int.reduceEq,Int.reduceLT,Int.reduceLE,Int.reduceToNat,Int.cast_ofNat_Int,List.reduceReplicate]; rfl) ?_ | refine envQ (by simp -implicitDefEqProofs only [vmp,↓vmd,Env.get,putD,argEnv,List.map,x00,x01,x02,x03,x04,x05,x06,x07,List.take,List.drop,x08,x09,x0a,x0b,List.isEmpty,↓reduceIte,reduceCtorEq,Nat.reduceEqDiff,Nat.reduceAdd,Nat.reduceLeDiff,x0c,Int.reduceNeg,Nat.reduceMul,Nat.reduceSub,x0d,x0e,x0f,x0g,x0h,x0i,x0j,x0k,Int.reduceEq,Int.reduceLT,Int.reduceLE,Int.reduceToNat,Int.cast_ofNat_Int,List.reduceReplicate]; rfl) ?_
            simp -implicitDefEqProofs only [vmp,↓vmd,Env.get,putD,argEnv,List.map,x00,x01,x02,x03,x04,x05,x06,x07,List.take,List.drop,x08,x09,x0a,x0b,List.isEmpty,↓reduceIte,reduceCtorEq,Nat.reduceEqDiff,Nat.reduceAdd,Nat.reduceLeDiff,x0c,Int.reduceNeg,Nat.reduceMul,Nat.reduceSub,x0d,x0e,x0f,x0g,x0h,x0i,x0j,x0k,Int.reduceEq,Int.reduceLT,Int.reduceLE,Int.reduceToNat,Int.cast_ofNat_Int,List.reduceReplicate]
            rw [hc3]
            exact gives_tup rfl (by simp)
          | some r3 =>
            rw [hc3] at hr3
            have hr3' : FnQ Try.prog 102 [fo f, lk k, .sl (ls.map gl), I (lastF x r), LL s.ahead] [LI r3, .bool true] := hr3
            refine onQ_q hr3' rfl ?_
            first | refine envO (by simp -implicitDefEqProofs only [vmp,↓vmd,Env.get,putD,argEnv,List.map,x00,x01,x02,x03,x04,x05,x06,x07,List.take,List.drop,x08,x09,x0a,x0b,List.isEmpty,↓reduceIte,reduceCtorEq,Nat.reduceEqDiff,Nat.reduceAdd,Nat.reduceLeDiff,x0c,Int.reduceNeg,Nat.reduceMul,Nat.reduceSub,x0d,x0e,x0f,x0g,x0h,x0i,x0j,x0k,Int.reduceEq,Int.reduceLT,Int.reduceLE,Int.reduceToNat,Int.cast_ofNat_Int,List.reduceReplicate]; rfl) ?_ | refine envQ (by simp -implicitDefEqProofs only [vmp,↓vmd,Env.get,putD,argEnv,List.map,x00,x01,x02,x03,x04,x05,x06,x07,List.take,List.drop,x08,x09,x0a,x0b,List.isEmpty,↓reduceIte,reduceCtorEq,Nat.reduceEqDiff,Nat.reduceAdd,Nat.reduceLeDiff,x0c,Int.reduceNeg,Nat.reduceMul,Nat.reduceSub,x0d,x0e,x0f,x0g,x0h,x0i,x0j,x0k,Int.reduceEq,Int.reduceLT,Int.reduceLE,Int.reduceToNat,Int.cast_ofNat_Int,List.reduceReplicate]; rfl) ?_
            simp -implicitDefEqProofs only [vmp,↓vmd,Env.get,putD,argEnv,List.map,x00,x01,x02,x03,x04,x05,x06,x07,List.take,List.drop,x08,x09,x0a,x0b,List.isEmpty,↓reduceIte,reduceCtorEq,Nat.reduceEqDiff,Nat.reduceAdd,Nat.reduceLeDiff,x0c,Int.reduceNeg,Nat.reduceMul,Nat.reduceSub,x0d,x0e,x0f,x0g,x0h,x0i,x0j,x0k,Int.reduceEq,Int.reduceLT,Int.reduceLE,Int.reduceToNat,Int.cast_ofNat_Int,List.reduceReplicate]
            rw [hc3]
            exact gives_tup (toVs_of (toV_row1 rfl (.inr ⟨rfl, rfl⟩) (by omega)) rfl) (by simp)
    · rw [if_pos hm]
      simp -implicitDefEqProofs only [hm, en, vmp,↓vmd,Env.get,putD,argEnv,List.map,x00,x01,x02,x03,x04,x05,x06,x07,List.take,List.drop,x08,x09,x0a,x0b,List.isEmpty,↓reduceIte,reduceCtorEq,Nat.reduceEqDiff,Nat.reduceAdd,Nat.reduceLeDiff,x0c,Int.reduceNeg,Nat.reduceMul,Nat.reduceSub,x0d,x0e,x0f,x0g,x0h,x0i,x0j,x0k,Int.reduceEq,Int.reduceLT,Int.reduceLE,Int.reduceToNat,Int.cast_ofNat_Int,List.reduceReplicate]
      exact gives_tup rfl (by simp)
end Go.Proofs.Ytbllbkhkmngclaa.W
