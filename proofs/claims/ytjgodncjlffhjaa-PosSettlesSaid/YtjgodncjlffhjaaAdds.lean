/-
  The law AdjustAdds: what its function does, and what all that it calls does, for every input. No condition.
-/
import Derived.Test.YtjgodncjlffhjaaBase
namespace Go.Proofs.Ytjgodncjlffhjaa.W
open Go Go.Vm Go.Proofs
set_option maxRecDepth 100000
set_option linter.unusedSimpArgs false
/-! typecase/typecaselaw32.far -/
def c20 : AC :=
  (.seq (.reg [⟨some 2, none, .mov (.c (.pure (.bool false)))⟩])
  (.seq (.reg [⟨some 3, none, .mov (.s 0)⟩,
    ⟨some 4, none, .bin .lss (.s 3) (.c (.pure (.int .i64 (-1099511627776))))⟩,
    ⟨some 5, none, .mov (.s 4)⟩,
    ⟨some 6, some (5, false), .mov (.s 0)⟩,
    ⟨some 7, some (5, false), .bin .gtr (.s 6) (.c (.pure (.int .i64 1099511627776)))⟩,
    ⟨some 8, none, .pick (.s 5) (.c (.pure (.bool true))) (.s 7)⟩,
    ⟨some 2, none, .mov (.s 8)⟩])
  .ret))
theorem k20 : (Try.f20.body.bind fun c => cCode Try.prog Try.f20.ntmps RCs c) = some c20 := by kernel_rfl
theorem h20 : (Try.f20.name == "runtime.NumGoroutine") = false := by kernel_rfl
theorem r20 : resC Try.prog Try.f20.results.toList = some [.t 2] := by kernel_rfl
theorem a20 {args : List S} {H : Heap} {K : S → Heap → Prop} (hn : args.length ≤ 9) (h : aWx Try.prog H.length c20 (PostX [.t 2] K) (argEnv 0 args) H) : CallA Try.prog 20 args H K :=
  callA_of_x mixed Try.func20 h20 k20 r20 (by rw [Try.ntmps20]; exact hn) h
theorem q20 {vs ds : List V} (hn : vs.length ≤ 9) (h : aWx Try.prog 0 c20 (PostX [.t 2] (Gives ds)) (argEnv 0 (vs.map .pure)) []) : FnQ Try.prog 20 vs ds :=
  fnQ_of_call (a20 (by simpa using hn) h)
/-! typecase/typecaselaw32.fars -/
def c21 : AC :=
  (.seq (.reg [⟨some 1, none, .box (.s 0)⟩,
    ⟨some 2, none, .mov (.c (.pure (.bool false)))⟩])
  (.seq (.reg [⟨some 3, none, .fldA 0 (.s 1)⟩,
    ⟨some 4, none, .load false 1 (.s 3)⟩,
    ⟨some 5, none, .call 20 [(.s 4)]⟩,
    ⟨some 6, none, .mov (.s 5)⟩,
    ⟨some 7, some (6, false), .fldA 1 (.s 1)⟩,
    ⟨some 8, some (6, false), .load false 1 (.s 7)⟩,
    ⟨some 9, some (6, false), .call 20 [(.s 8)]⟩,
    ⟨some 10, none, .pick (.s 6) (.c (.pure (.bool true))) (.s 9)⟩,
    ⟨some 11, none, .mov (.s 10)⟩,
    ⟨some 12, some (11, false), .fldA 2 (.s 1)⟩,
    ⟨some 13, some (11, false), .load false 1 (.s 12)⟩,
    ⟨some 14, some (11, false), .call 20 [(.s 13)]⟩,
    ⟨some 15, none, .pick (.s 11) (.c (.pure (.bool true))) (.s 14)⟩,
    ⟨some 2, none, .mov (.s 15)⟩])
  .ret))
theorem k21 : (Try.f21.body.bind fun c => cCode Try.prog Try.f21.ntmps RCs c) = some c21 := by kernel_rfl
theorem h21 : (Try.f21.name == "runtime.NumGoroutine") = false := by kernel_rfl
theorem r21 : resC Try.prog Try.f21.results.toList = some [.t 2] := by kernel_rfl
theorem a21 {args : List S} {H : Heap} {K : S → Heap → Prop} (hn : args.length ≤ 16) (h : aWx Try.prog H.length c21 (PostX [.t 2] K) (argEnv 0 args) H) : CallA Try.prog 21 args H K :=
  callA_of_x mixed Try.func21 h21 k21 r21 (by rw [Try.ntmps21]; exact hn) h
theorem q21 {vs ds : List V} (hn : vs.length ≤ 16) (h : aWx Try.prog 0 c21 (PostX [.t 2] (Gives ds)) (argEnv 0 (vs.map .pure)) []) : FnQ Try.prog 21 vs ds :=
  fnQ_of_call (a21 (by simpa using hn) h)
/-! typecase/adjust.Add -/
def c22 : AC :=
  (.seq (.reg [⟨some 2, none, .box (.s 0)⟩,
    ⟨some 3, none, .box (.s 1)⟩,
    ⟨some 4, none, .box (.c (.pure (.agg [(.int .i64 0), (.int .i64 0), (.int .i64 0), (.int .i64 0), (.int .i64 0), (.int .i64 0), (.int .i64 0), (.int .i64 0), (.int .i64 0), (.int .i64 0)])))⟩])
  (.seq (.reg [⟨some 5, none, .fldA 2 (.s 2)⟩,
    ⟨some 6, none, .load false 1 (.s 5)⟩,
    ⟨some 7, none, .fldA 0 (.s 3)⟩,
    ⟨some 8, none, .load false 1 (.s 7)⟩,
    ⟨some 9, none, .bin .add (.s 6) (.s 8)⟩,
    ⟨some 10, none, .fldA 2 (.s 2)⟩,
    ⟨none, none, .store 1 (.s 10) (.s 9)⟩])
  (.seq (.reg [⟨some 11, none, .fldA 3 (.s 2)⟩,
    ⟨some 12, none, .load false 1 (.s 11)⟩,
    ⟨some 13, none, .fldA 1 (.s 3)⟩,
    ⟨some 14, none, .load false 1 (.s 13)⟩,
    ⟨some 15, none, .bin .add (.s 12) (.s 14)⟩,
    ⟨some 16, none, .fldA 3 (.s 2)⟩,
    ⟨none, none, .store 1 (.s 16) (.s 15)⟩])
  (.seq (.reg [⟨some 17, none, .fldA 4 (.s 2)⟩,
    ⟨some 18, none, .load false 1 (.s 17)⟩,
    ⟨some 19, none, .fldA 2 (.s 3)⟩,
    ⟨some 20, none, .load false 1 (.s 19)⟩,
    ⟨some 21, none, .bin .add (.s 18) (.s 20)⟩,
    ⟨some 22, none, .fldA 4 (.s 2)⟩,
    ⟨none, none, .store 1 (.s 22) (.s 21)⟩])
  (.seq (.reg [⟨some 23, none, .load true 10 (.s 2)⟩,
    ⟨none, none, .store 10 (.s 4) (.s 23)⟩])
  .ret)))))
theorem k22 : (Try.f22.body.bind fun c => cCode Try.prog Try.f22.ntmps RCs c) = some c22 := by kernel_rfl
theorem h22 : (Try.f22.name == "runtime.NumGoroutine") = false := by kernel_rfl
theorem r22 : resC Try.prog Try.f22.results.toList = some [.c 4 true 10] := by kernel_rfl
theorem a22 {args : List S} {H : Heap} {K : S → Heap → Prop} (hn : args.length ≤ 24) (h : aWx Try.prog H.length c22 (PostX [.c 4 true 10] K) (argEnv 0 args) H) : CallA Try.prog 22 args H K :=
  callA_of_x mixed Try.func22 h22 k22 r22 (by rw [Try.ntmps22]; exact hn) h
theorem q22 {vs ds : List V} (hn : vs.length ≤ 24) (h : aWx Try.prog 0 c22 (PostX [.c 4 true 10] (Gives ds)) (argEnv 0 (vs.map .pure)) []) : FnQ Try.prog 22 vs ds :=
  fnQ_of_call (a22 (by simpa using hn) h)
/-! typecase/typecaseref32.Add -/
def c23 : AC :=
  (.seq (.reg [⟨some 2, none, .box (.s 0)⟩,
    ⟨some 3, none, .box (.s 1)⟩,
    ⟨some 4, none, .box (.c (.pure (.agg [(.int .i64 0), (.int .i64 0), (.int .i64 0), (.int .i64 0), (.int .i64 0), (.int .i64 0), (.int .i64 0), (.int .i64 0), (.int .i64 0), (.int .i64 0)])))⟩])
  (.seq (.reg [⟨some 5, none, .fldA 2 (.s 2)⟩,
    ⟨some 6, none, .load false 1 (.s 5)⟩,
    ⟨some 7, none, .fldA 0 (.s 3)⟩,
    ⟨some 8, none, .load false 1 (.s 7)⟩,
    ⟨some 9, none, .bin .add (.s 6) (.s 8)⟩,
    ⟨some 10, none, .fldA 2 (.s 2)⟩,
    ⟨none, none, .store 1 (.s 10) (.s 9)⟩])
  (.seq (.reg [⟨some 11, none, .fldA 3 (.s 2)⟩,
    ⟨some 12, none, .load false 1 (.s 11)⟩,
    ⟨some 13, none, .fldA 1 (.s 3)⟩,
    ⟨some 14, none, .load false 1 (.s 13)⟩,
    ⟨some 15, none, .bin .add (.s 12) (.s 14)⟩,
    ⟨some 16, none, .fldA 3 (.s 2)⟩,
    ⟨none, none, .store 1 (.s 16) (.s 15)⟩])
  (.seq (.reg [⟨some 17, none, .fldA 4 (.s 2)⟩,
    ⟨some 18, none, .load false 1 (.s 17)⟩,
    ⟨some 19, none, .fldA 2 (.s 3)⟩,
    ⟨some 20, none, .load false 1 (.s 19)⟩,
    ⟨some 21, none, .bin .add (.s 18) (.s 20)⟩,
    ⟨some 22, none, .fldA 4 (.s 2)⟩,
    ⟨none, none, .store 1 (.s 22) (.s 21)⟩])
  (.seq (.reg [⟨some 23, none, .load true 10 (.s 2)⟩,
    ⟨none, none, .store 10 (.s 4) (.s 23)⟩])
  .ret)))))
theorem k23 : (Try.f23.body.bind fun c => cCode Try.prog Try.f23.ntmps RCs c) = some c23 := by kernel_rfl
theorem h23 : (Try.f23.name == "runtime.NumGoroutine") = false := by kernel_rfl
theorem r23 : resC Try.prog Try.f23.results.toList = some [.c 4 true 10] := by kernel_rfl
theorem a23 {args : List S} {H : Heap} {K : S → Heap → Prop} (hn : args.length ≤ 24) (h : aWx Try.prog H.length c23 (PostX [.c 4 true 10] K) (argEnv 0 args) H) : CallA Try.prog 23 args H K :=
  callA_of_x mixed Try.func23 h23 k23 r23 (by rw [Try.ntmps23]; exact hn) h
theorem q23 {vs ds : List V} (hn : vs.length ≤ 24) (h : aWx Try.prog 0 c23 (PostX [.c 4 true 10] (Gives ds)) (argEnv 0 (vs.map .pure)) []) : FnQ Try.prog 23 vs ds :=
  fnQ_of_call (a23 (by simpa using hn) h)
/-! typecase/typecaselaw32.AdjustAdds -/
def c3 : AC :=
  (.seq (.reg [⟨some 3, none, .box (.s 0)⟩,
    ⟨some 4, none, .box (.s 1)⟩,
    ⟨some 5, none, .box (.s 2)⟩,
    ⟨some 6, none, .mov (.c (.pure (.bool false)))⟩])
  (.seq (.seq (.reg [⟨some 7, none, .fldA 2 (.s 3)⟩,
    ⟨some 8, none, .load false 1 (.s 7)⟩,
    ⟨some 9, none, .call 20 [(.s 8)]⟩,
    ⟨some 10, none, .mov (.s 9)⟩,
    ⟨some 11, some (10, false), .fldA 3 (.s 3)⟩,
    ⟨some 12, some (10, false), .load false 1 (.s 11)⟩,
    ⟨some 13, some (10, false), .call 20 [(.s 12)]⟩,
    ⟨some 14, none, .pick (.s 10) (.c (.pure (.bool true))) (.s 13)⟩,
    ⟨some 15, none, .mov (.s 14)⟩,
    ⟨some 16, some (15, false), .fldA 4 (.s 3)⟩,
    ⟨some 17, some (15, false), .load false 1 (.s 16)⟩,
    ⟨some 18, some (15, false), .call 20 [(.s 17)]⟩,
    ⟨some 19, none, .pick (.s 15) (.c (.pure (.bool true))) (.s 18)⟩,
    ⟨some 20, none, .mov (.s 19)⟩,
    ⟨some 21, some (20, false), .load true 3 (.s 4)⟩,
    ⟨some 22, some (20, false), .call 21 [(.s 21)]⟩,
    ⟨some 23, none, .pick (.s 20) (.c (.pure (.bool true))) (.s 22)⟩,
    ⟨some 24, none, .mov (.s 23)⟩,
    ⟨some 25, some (24, false), .load true 3 (.s 5)⟩,
    ⟨some 26, some (24, false), .call 21 [(.s 25)]⟩,
    ⟨some 27, none, .pick (.s 24) (.c (.pure (.bool true))) (.s 26)⟩])
  (.cond (.s 27)
  (.seq (.reg [⟨some 6, none, .mov (.c (.pure (.bool true)))⟩])
  .ret)
  .skip))
  (.seq (.regq [⟨some 28, none, .load true 10 (.s 3)⟩,
    ⟨some 29, none, .load true 3 (.s 4)⟩,
    ⟨some 30, none, .call 22 [(.s 28), (.s 29)]⟩,
    ⟨some 31, none, .load true 10 (.s 3)⟩,
    ⟨some 32, none, .load true 3 (.s 4)⟩,
    ⟨some 33, none, .call 23 [(.s 31), (.s 32)]⟩,
    ⟨some 34, none, .eqv false [.i, .i, .i, .i, .i, .i, .i, .i, .i, .i] (.s 30) (.s 33)⟩,
    ⟨some 35, none, .mov (.s 34)⟩,
    ⟨some 36, some (35, true), .load true 10 (.s 3)⟩,
    ⟨some 37, some (35, true), .load true 3 (.s 4)⟩,
    ⟨some 38, some (35, true), .call 22 [(.s 36), (.s 37)]⟩,
    ⟨some 39, some (35, true), .load true 3 (.s 5)⟩,
    ⟨some 40, some (35, true), .call 22 [(.s 38), (.s 39)]⟩,
    ⟨some 41, some (35, true), .load true 10 (.s 3)⟩,
    ⟨some 42, some (35, true), .fldA 0 (.s 4)⟩,
    ⟨some 43, some (35, true), .load false 1 (.s 42)⟩,
    ⟨some 44, some (35, true), .fldA 0 (.s 5)⟩,
    ⟨some 45, some (35, true), .load false 1 (.s 44)⟩,
    ⟨some 46, some (35, true), .bin .add (.s 43) (.s 45)⟩,
    ⟨some 47, some (35, true), .fldA 1 (.s 4)⟩,
    ⟨some 48, some (35, true), .load false 1 (.s 47)⟩,
    ⟨some 49, some (35, true), .fldA 1 (.s 5)⟩,
    ⟨some 50, some (35, true), .load false 1 (.s 49)⟩,
    ⟨some 51, some (35, true), .bin .add (.s 48) (.s 50)⟩,
    ⟨some 52, some (35, true), .fldA 2 (.s 4)⟩,
    ⟨some 53, some (35, true), .load false 1 (.s 52)⟩,
    ⟨some 54, some (35, true), .fldA 2 (.s 5)⟩,
    ⟨some 55, some (35, true), .load false 1 (.s 54)⟩,
    ⟨some 56, some (35, true), .bin .add (.s 53) (.s 55)⟩,
    ⟨some 57, some (35, true), .build [(.pure (.int .i64 0)), (.pure (.int .i64 0)), (.pure (.int .i64 0))] [(0, 1, (.s 46)), (1, 1, (.s 51)), (2, 1, (.s 56))]⟩]
    [⟨some 58, some (35, true), .call 22 [(.s 41), (.s 57)]⟩,
    ⟨some 59, some (35, true), .eqv false [.i, .i, .i, .i, .i, .i, .i, .i, .i, .i] (.s 40) (.s 58)⟩,
    ⟨some 60, none, .pick (.s 35) (.s 59) (.c (.pure (.bool false)))⟩,
    ⟨some 6, none, .mov (.s 60)⟩])
  .ret)))
theorem k3 : (Try.f3.body.bind fun c => cCode Try.prog Try.f3.ntmps RCs c) = some c3 := by kernel_rfl
theorem h3 : (Try.f3.name == "runtime.NumGoroutine") = false := by kernel_rfl
theorem r3 : resC Try.prog Try.f3.results.toList = some [.t 6] := by kernel_rfl
theorem a3 {args : List S} {H : Heap} {K : S → Heap → Prop} (hn : args.length ≤ 61) (h : aWx Try.prog H.length c3 (PostX [.t 6] K) (argEnv 0 args) H) : CallA Try.prog 3 args H K :=
  callA_of_x mixed Try.func3 h3 k3 r3 (by rw [Try.ntmps3]; exact hn) h
theorem q3 {vs ds : List V} (hn : vs.length ≤ 61) (h : aWx Try.prog 0 c3 (PostX [.t 6] (Gives ds)) (argEnv 0 (vs.map .pure)) []) : FnQ Try.prog 3 vs ds :=
  fnQ_of_call (a3 (by simpa using hn) h)

def far (n : Int) : Bool := decide (n < -1099511627776) || decide (1099511627776 < n)
theorem far_q (n : Int) : FnQ Try.prog 20 [I n] [.bool (far n)] := by
  refine q20 (by simp) ?_
  unfold c20
  simp -implicitDefEqProofs only [vmp,↓vmd,Env.get,putD,argEnv,List.map,x00,x01,x02,x03,x04,x05,x06,x07,List.take,List.drop,x08,x09,x0a,x0b,List.isEmpty,↓reduceIte,reduceCtorEq,Nat.reduceEqDiff,Nat.reduceAdd,Nat.reduceLeDiff,x0c,Int.reduceNeg,Nat.reduceMul,Nat.reduceSub,x0d,x0e,x0f,x0g,x0h,x0i,x0j,x0k,Int.reduceEq,Int.reduceLT,Int.reduceLE,Int.reduceToNat,Int.cast_ofNat_Int,List.reduceReplicate]
  refine onB_dec (fun h => ?_) (fun h => ?_)
  · simp -implicitDefEqProofs only [h, vmp,↓vmd,Env.get,putD,argEnv,List.map,x00,x01,x02,x03,x04,x05,x06,x07,List.take,List.drop,x08,x09,x0a,x0b,List.isEmpty,↓reduceIte,reduceCtorEq,Nat.reduceEqDiff,Nat.reduceAdd,Nat.reduceLeDiff,x0c,Int.reduceNeg,Nat.reduceMul,Nat.reduceSub,x0d,x0e,x0f,x0g,x0h,x0i,x0j,x0k,Int.reduceEq,Int.reduceLT,Int.reduceLE,Int.reduceToNat,Int.cast_ofNat_Int,List.reduceReplicate]
    rw [show far n = true by simp [far, h]]
    exact gives_pure
  · simp -implicitDefEqProofs only [h, vmp,↓vmd,Env.get,putD,argEnv,List.map,x00,x01,x02,x03,x04,x05,x06,x07,List.take,List.drop,x08,x09,x0a,x0b,List.isEmpty,↓reduceIte,reduceCtorEq,Nat.reduceEqDiff,Nat.reduceAdd,Nat.reduceLeDiff,x0c,Int.reduceNeg,Nat.reduceMul,Nat.reduceSub,x0d,x0e,x0f,x0g,x0h,x0i,x0j,x0k,Int.reduceEq,Int.reduceLT,Int.reduceLE,Int.reduceToNat,Int.cast_ofNat_Int,List.reduceReplicate]
    rw [show far n = decide (1099511627776 < n) by simp [far, h]]
    exact gives_pure
def fars (a b c : Int) : Bool := far a || far b || far c
theorem fars_q (a b c : Int) : FnQ Try.prog 21 [.agg [I a, I b, I c]] [.bool (fars a b c)] := by
  refine q21 (by simp) ?_
  unfold c21
  simp -implicitDefEqProofs only [*, vmp,↓vmd,Env.get,putD,argEnv,List.map,x00,x01,x02,x03,x04,x05,x06,x07,List.take,List.drop,x08,x09,x0a,x0b,List.isEmpty,↓reduceIte,reduceCtorEq,Nat.reduceEqDiff,Nat.reduceAdd,Nat.reduceLeDiff,x0c,Int.reduceNeg,Nat.reduceMul,Nat.reduceSub,x0d,x0e,x0f,x0g,x0h,x0i,x0j,x0k,Int.reduceEq,Int.reduceLT,Int.reduceLE,Int.reduceToNat,Int.cast_ofNat_Int,List.reduceReplicate]
  refine onC_q (far_q _) rfl ?_
  simp -implicitDefEqProofs only [*, vmp,↓vmd,Env.get,putD,argEnv,List.map,x00,x01,x02,x03,x04,x05,x06,x07,List.take,List.drop,x08,x09,x0a,x0b,List.isEmpty,↓reduceIte,reduceCtorEq,Nat.reduceEqDiff,Nat.reduceAdd,Nat.reduceLeDiff,x0c,Int.reduceNeg,Nat.reduceMul,Nat.reduceSub,x0d,x0e,x0f,x0g,x0h,x0i,x0j,x0k,Int.reduceEq,Int.reduceLT,Int.reduceLE,Int.reduceToNat,Int.cast_ofNat_Int,List.reduceReplicate]
  refine onB_intro (fun h => ?_) (fun h => ?_)
  · simp -implicitDefEqProofs only [*, vmp,↓vmd,Env.get,putD,argEnv,List.map,x00,x01,x02,x03,x04,x05,x06,x07,List.take,List.drop,x08,x09,x0a,x0b,List.isEmpty,↓reduceIte,reduceCtorEq,Nat.reduceEqDiff,Nat.reduceAdd,Nat.reduceLeDiff,x0c,Int.reduceNeg,Nat.reduceMul,Nat.reduceSub,x0d,x0e,x0f,x0g,x0h,x0i,x0j,x0k,Int.reduceEq,Int.reduceLT,Int.reduceLE,Int.reduceToNat,Int.cast_ofNat_Int,List.reduceReplicate]
    rw [show fars a b c = true by simp [fars, h]]
    exact gives_pure
  simp -implicitDefEqProofs only [*, vmp,↓vmd,Env.get,putD,argEnv,List.map,x00,x01,x02,x03,x04,x05,x06,x07,List.take,List.drop,x08,x09,x0a,x0b,List.isEmpty,↓reduceIte,reduceCtorEq,Nat.reduceEqDiff,Nat.reduceAdd,Nat.reduceLeDiff,x0c,Int.reduceNeg,Nat.reduceMul,Nat.reduceSub,x0d,x0e,x0f,x0g,x0h,x0i,x0j,x0k,Int.reduceEq,Int.reduceLT,Int.reduceLE,Int.reduceToNat,Int.cast_ofNat_Int,List.reduceReplicate]
  refine onC_q (far_q _) rfl ?_
  simp -implicitDefEqProofs only [*, vmp,↓vmd,Env.get,putD,argEnv,List.map,x00,x01,x02,x03,x04,x05,x06,x07,List.take,List.drop,x08,x09,x0a,x0b,List.isEmpty,↓reduceIte,reduceCtorEq,Nat.reduceEqDiff,Nat.reduceAdd,Nat.reduceLeDiff,x0c,Int.reduceNeg,Nat.reduceMul,Nat.reduceSub,x0d,x0e,x0f,x0g,x0h,x0i,x0j,x0k,Int.reduceEq,Int.reduceLT,Int.reduceLE,Int.reduceToNat,Int.cast_ofNat_Int,List.reduceReplicate]
  refine onB_intro (fun h2 => ?_) (fun h2 => ?_)
  · simp -implicitDefEqProofs only [*, vmp,↓vmd,Env.get,putD,argEnv,List.map,x00,x01,x02,x03,x04,x05,x06,x07,List.take,List.drop,x08,x09,x0a,x0b,List.isEmpty,↓reduceIte,reduceCtorEq,Nat.reduceEqDiff,Nat.reduceAdd,Nat.reduceLeDiff,x0c,Int.reduceNeg,Nat.reduceMul,Nat.reduceSub,x0d,x0e,x0f,x0g,x0h,x0i,x0j,x0k,Int.reduceEq,Int.reduceLT,Int.reduceLE,Int.reduceToNat,Int.cast_ofNat_Int,List.reduceReplicate]
    rw [show fars a b c = true by simp [fars, h2]]
    exact gives_pure
  simp -implicitDefEqProofs only [*, vmp,↓vmd,Env.get,putD,argEnv,List.map,x00,x01,x02,x03,x04,x05,x06,x07,List.take,List.drop,x08,x09,x0a,x0b,List.isEmpty,↓reduceIte,reduceCtorEq,Nat.reduceEqDiff,Nat.reduceAdd,Nat.reduceLeDiff,x0c,Int.reduceNeg,Nat.reduceMul,Nat.reduceSub,x0d,x0e,x0f,x0g,x0h,x0i,x0j,x0k,Int.reduceEq,Int.reduceLT,Int.reduceLE,Int.reduceToNat,Int.cast_ofNat_Int,List.reduceReplicate]
  refine onC_q (far_q _) rfl ?_
  simp -implicitDefEqProofs only [*, vmp,↓vmd,Env.get,putD,argEnv,List.map,x00,x01,x02,x03,x04,x05,x06,x07,List.take,List.drop,x08,x09,x0a,x0b,List.isEmpty,↓reduceIte,reduceCtorEq,Nat.reduceEqDiff,Nat.reduceAdd,Nat.reduceLeDiff,x0c,Int.reduceNeg,Nat.reduceMul,Nat.reduceSub,x0d,x0e,x0f,x0g,x0h,x0i,x0j,x0k,Int.reduceEq,Int.reduceLT,Int.reduceLE,Int.reduceToNat,Int.cast_ofNat_Int,List.reduceReplicate]
  rw [show fars a b c = far c by simp [fars, h, h2]]
  exact gives_pure
abbrev gla (a0 a1 a2 a3 a4 a5 a6 a7 a8 a9 : Int) : V := .agg [I a0, I a1, I a2, I a3, I a4, I a5, I a6, I a7, I a8, I a9]
theorem add_q (a0 a1 a2 a3 a4 a5 a6 a7 a8 a9 b0 b1 b2 : Int) : FnQ Try.prog 22 [gla a0 a1 a2 a3 a4 a5 a6 a7 a8 a9, .agg [I b0, I b1, I b2]] [gla a0 a1 (IntKind.wrap .i64 (a2 + b0)) (IntKind.wrap .i64 (a3 + b1)) (IntKind.wrap .i64 (a4 + b2)) a5 a6 a7 a8 a9] := by
  refine q22 (by simp) ?_
  unfold c22
  simp -implicitDefEqProofs only [*, vmp,↓vmd,Env.get,putD,argEnv,List.map,x00,x01,x02,x03,x04,x05,x06,x07,List.take,List.drop,x08,x09,x0a,x0b,List.isEmpty,↓reduceIte,reduceCtorEq,Nat.reduceEqDiff,Nat.reduceAdd,Nat.reduceLeDiff,x0c,Int.reduceNeg,Nat.reduceMul,Nat.reduceSub,x0d,x0e,x0f,x0g,x0h,x0i,x0j,x0k,Int.reduceEq,Int.reduceLT,Int.reduceLE,Int.reduceToNat,Int.cast_ofNat_Int,List.reduceReplicate]
  exact gives_pure
theorem radd_q (a0 a1 a2 a3 a4 a5 a6 a7 a8 a9 b0 b1 b2 : Int) : FnQ Try.prog 23 [gla a0 a1 a2 a3 a4 a5 a6 a7 a8 a9, .agg [I b0, I b1, I b2]] [gla a0 a1 (IntKind.wrap .i64 (a2 + b0)) (IntKind.wrap .i64 (a3 + b1)) (IntKind.wrap .i64 (a4 + b2)) a5 a6 a7 a8 a9] := by
  refine q23 (by simp) ?_
  unfold c23
  simp -implicitDefEqProofs only [*, vmp,↓vmd,Env.get,putD,argEnv,List.map,x00,x01,x02,x03,x04,x05,x06,x07,List.take,List.drop,x08,x09,x0a,x0b,List.isEmpty,↓reduceIte,reduceCtorEq,Nat.reduceEqDiff,Nat.reduceAdd,Nat.reduceLeDiff,x0c,Int.reduceNeg,Nat.reduceMul,Nat.reduceSub,x0d,x0e,x0f,x0g,x0h,x0i,x0j,x0k,Int.reduceEq,Int.reduceLT,Int.reduceLE,Int.reduceToNat,Int.cast_ofNat_Int,List.reduceReplicate]
  exact gives_pure
theorem far_not {n : Int} (h : far n = false) : -1099511627776 ≤ n ∧ n ≤ 1099511627776 := by
  simp [far] at h
  omega
theorem fars_not {a b c : Int} (h : fars a b c = false) : far a = false ∧ far b = false ∧ far c = false := by
  simp [fars] at h
  exact ⟨h.1.1, h.1.2, h.2⟩
theorem twice {a b c : Int} (ha : far a = false) (hb : far b = false) (hc : far c = false) : IntKind.wrap .i64 (IntKind.wrap .i64 (a + b) + c) = IntKind.wrap .i64 (a + IntKind.wrap .i64 (b + c)) := by
  have := far_not ha
  have := far_not hb
  have := far_not hc
  rw [wrap_id (n := a + b) (by omega) (by omega), wrap_id (n := b + c) (by omega) (by omega), Int.add_assoc]
theorem adds_law (a0 a1 a2 a3 a4 a5 a6 a7 a8 a9 b0 b1 b2 c0 c1 c2 : Int) : FnQ Try.prog 3 [gla a0 a1 a2 a3 a4 a5 a6 a7 a8 a9, .agg [I b0, I b1, I b2], .agg [I c0, I c1, I c2]] [.bool true] := by
  refine q3 (by simp) ?_
  unfold c3
  simp -implicitDefEqProofs only [*, vmp,↓vmd,Env.get,putD,argEnv,List.map,x00,x01,x02,x03,x04,x05,x06,x07,List.take,List.drop,x08,x09,x0a,x0b,List.isEmpty,↓reduceIte,reduceCtorEq,Nat.reduceEqDiff,Nat.reduceAdd,Nat.reduceLeDiff,x0c,Int.reduceNeg,Nat.reduceMul,Nat.reduceSub,x0d,x0e,x0f,x0g,x0h,x0i,x0j,x0k,Int.reduceEq,Int.reduceLT,Int.reduceLE,Int.reduceToNat,Int.cast_ofNat_Int,List.reduceReplicate]
  refine onC_q (far_q _) rfl ?_
  simp -implicitDefEqProofs only [*, vmp,↓vmd,Env.get,putD,argEnv,List.map,x00,x01,x02,x03,x04,x05,x06,x07,List.take,List.drop,x08,x09,x0a,x0b,List.isEmpty,↓reduceIte,reduceCtorEq,Nat.reduceEqDiff,Nat.reduceAdd,Nat.reduceLeDiff,x0c,Int.reduceNeg,Nat.reduceMul,Nat.reduceSub,x0d,x0e,x0f,x0g,x0h,x0i,x0j,x0k,Int.reduceEq,Int.reduceLT,Int.reduceLE,Int.reduceToNat,Int.cast_ofNat_Int,List.reduceReplicate]
  refine onB_intro (fun h1 => ?_) (fun h1 => ?_)
  · simp -implicitDefEqProofs only [*, vmp,↓vmd,Env.get,putD,argEnv,List.map,x00,x01,x02,x03,x04,x05,x06,x07,List.take,List.drop,x08,x09,x0a,x0b,List.isEmpty,↓reduceIte,reduceCtorEq,Nat.reduceEqDiff,Nat.reduceAdd,Nat.reduceLeDiff,x0c,Int.reduceNeg,Nat.reduceMul,Nat.reduceSub,x0d,x0e,x0f,x0g,x0h,x0i,x0j,x0k,Int.reduceEq,Int.reduceLT,Int.reduceLE,Int.reduceToNat,Int.cast_ofNat_Int,List.reduceReplicate]
    exact gives_pure
  simp -implicitDefEqProofs only [*, vmp,↓vmd,Env.get,putD,argEnv,List.map,x00,x01,x02,x03,x04,x05,x06,x07,List.take,List.drop,x08,x09,x0a,x0b,List.isEmpty,↓reduceIte,reduceCtorEq,Nat.reduceEqDiff,Nat.reduceAdd,Nat.reduceLeDiff,x0c,Int.reduceNeg,Nat.reduceMul,Nat.reduceSub,x0d,x0e,x0f,x0g,x0h,x0i,x0j,x0k,Int.reduceEq,Int.reduceLT,Int.reduceLE,Int.reduceToNat,Int.cast_ofNat_Int,List.reduceReplicate]
  refine onC_q (far_q _) rfl ?_
  simp -implicitDefEqProofs only [*, vmp,↓vmd,Env.get,putD,argEnv,List.map,x00,x01,x02,x03,x04,x05,x06,x07,List.take,List.drop,x08,x09,x0a,x0b,List.isEmpty,↓reduceIte,reduceCtorEq,Nat.reduceEqDiff,Nat.reduceAdd,Nat.reduceLeDiff,x0c,Int.reduceNeg,Nat.reduceMul,Nat.reduceSub,x0d,x0e,x0f,x0g,x0h,x0i,x0j,x0k,Int.reduceEq,Int.reduceLT,Int.reduceLE,Int.reduceToNat,Int.cast_ofNat_Int,List.reduceReplicate]
  refine onB_intro (fun h2 => ?_) (fun h2 => ?_)
  · simp -implicitDefEqProofs only [*, vmp,↓vmd,Env.get,putD,argEnv,List.map,x00,x01,x02,x03,x04,x05,x06,x07,List.take,List.drop,x08,x09,x0a,x0b,List.isEmpty,↓reduceIte,reduceCtorEq,Nat.reduceEqDiff,Nat.reduceAdd,Nat.reduceLeDiff,x0c,Int.reduceNeg,Nat.reduceMul,Nat.reduceSub,x0d,x0e,x0f,x0g,x0h,x0i,x0j,x0k,Int.reduceEq,Int.reduceLT,Int.reduceLE,Int.reduceToNat,Int.cast_ofNat_Int,List.reduceReplicate]
    exact gives_pure
  simp -implicitDefEqProofs only [*, vmp,↓vmd,Env.get,putD,argEnv,List.map,x00,x01,x02,x03,x04,x05,x06,x07,List.take,List.drop,x08,x09,x0a,x0b,List.isEmpty,↓reduceIte,reduceCtorEq,Nat.reduceEqDiff,Nat.reduceAdd,Nat.reduceLeDiff,x0c,Int.reduceNeg,Nat.reduceMul,Nat.reduceSub,x0d,x0e,x0f,x0g,x0h,x0i,x0j,x0k,Int.reduceEq,Int.reduceLT,Int.reduceLE,Int.reduceToNat,Int.cast_ofNat_Int,List.reduceReplicate]
  refine onC_q (far_q _) rfl ?_
  simp -implicitDefEqProofs only [*, vmp,↓vmd,Env.get,putD,argEnv,List.map,x00,x01,x02,x03,x04,x05,x06,x07,List.take,List.drop,x08,x09,x0a,x0b,List.isEmpty,↓reduceIte,reduceCtorEq,Nat.reduceEqDiff,Nat.reduceAdd,Nat.reduceLeDiff,x0c,Int.reduceNeg,Nat.reduceMul,Nat.reduceSub,x0d,x0e,x0f,x0g,x0h,x0i,x0j,x0k,Int.reduceEq,Int.reduceLT,Int.reduceLE,Int.reduceToNat,Int.cast_ofNat_Int,List.reduceReplicate]
  refine onB_intro (fun h3 => ?_) (fun h3 => ?_)
  · simp -implicitDefEqProofs only [*, vmp,↓vmd,Env.get,putD,argEnv,List.map,x00,x01,x02,x03,x04,x05,x06,x07,List.take,List.drop,x08,x09,x0a,x0b,List.isEmpty,↓reduceIte,reduceCtorEq,Nat.reduceEqDiff,Nat.reduceAdd,Nat.reduceLeDiff,x0c,Int.reduceNeg,Nat.reduceMul,Nat.reduceSub,x0d,x0e,x0f,x0g,x0h,x0i,x0j,x0k,Int.reduceEq,Int.reduceLT,Int.reduceLE,Int.reduceToNat,Int.cast_ofNat_Int,List.reduceReplicate]
    exact gives_pure
  simp -implicitDefEqProofs only [*, vmp,↓vmd,Env.get,putD,argEnv,List.map,x00,x01,x02,x03,x04,x05,x06,x07,List.take,List.drop,x08,x09,x0a,x0b,List.isEmpty,↓reduceIte,reduceCtorEq,Nat.reduceEqDiff,Nat.reduceAdd,Nat.reduceLeDiff,x0c,Int.reduceNeg,Nat.reduceMul,Nat.reduceSub,x0d,x0e,x0f,x0g,x0h,x0i,x0j,x0k,Int.reduceEq,Int.reduceLT,Int.reduceLE,Int.reduceToNat,Int.cast_ofNat_Int,List.reduceReplicate]
  refine onC_q (fars_q _ _ _) rfl ?_
  simp -implicitDefEqProofs only [*, vmp,↓vmd,Env.get,putD,argEnv,List.map,x00,x01,x02,x03,x04,x05,x06,x07,List.take,List.drop,x08,x09,x0a,x0b,List.isEmpty,↓reduceIte,reduceCtorEq,Nat.reduceEqDiff,Nat.reduceAdd,Nat.reduceLeDiff,x0c,Int.reduceNeg,Nat.reduceMul,Nat.reduceSub,x0d,x0e,x0f,x0g,x0h,x0i,x0j,x0k,Int.reduceEq,Int.reduceLT,Int.reduceLE,Int.reduceToNat,Int.cast_ofNat_Int,List.reduceReplicate]
  refine onB_intro (fun h4 => ?_) (fun h4 => ?_)
  · simp -implicitDefEqProofs only [*, vmp,↓vmd,Env.get,putD,argEnv,List.map,x00,x01,x02,x03,x04,x05,x06,x07,List.take,List.drop,x08,x09,x0a,x0b,List.isEmpty,↓reduceIte,reduceCtorEq,Nat.reduceEqDiff,Nat.reduceAdd,Nat.reduceLeDiff,x0c,Int.reduceNeg,Nat.reduceMul,Nat.reduceSub,x0d,x0e,x0f,x0g,x0h,x0i,x0j,x0k,Int.reduceEq,Int.reduceLT,Int.reduceLE,Int.reduceToNat,Int.cast_ofNat_Int,List.reduceReplicate]
    exact gives_pure
  simp -implicitDefEqProofs only [*, vmp,↓vmd,Env.get,putD,argEnv,List.map,x00,x01,x02,x03,x04,x05,x06,x07,List.take,List.drop,x08,x09,x0a,x0b,List.isEmpty,↓reduceIte,reduceCtorEq,Nat.reduceEqDiff,Nat.reduceAdd,Nat.reduceLeDiff,x0c,Int.reduceNeg,Nat.reduceMul,Nat.reduceSub,x0d,x0e,x0f,x0g,x0h,x0i,x0j,x0k,Int.reduceEq,Int.reduceLT,Int.reduceLE,Int.reduceToNat,Int.cast_ofNat_Int,List.reduceReplicate]
  refine onC_q (fars_q _ _ _) rfl ?_
  simp -implicitDefEqProofs only [*, vmp,↓vmd,Env.get,putD,argEnv,List.map,x00,x01,x02,x03,x04,x05,x06,x07,List.take,List.drop,x08,x09,x0a,x0b,List.isEmpty,↓reduceIte,reduceCtorEq,Nat.reduceEqDiff,Nat.reduceAdd,Nat.reduceLeDiff,x0c,Int.reduceNeg,Nat.reduceMul,Nat.reduceSub,x0d,x0e,x0f,x0g,x0h,x0i,x0j,x0k,Int.reduceEq,Int.reduceLT,Int.reduceLE,Int.reduceToNat,Int.cast_ofNat_Int,List.reduceReplicate]
  refine onB_intro (fun h5 => ?_) (fun h5 => ?_)
  · simp -implicitDefEqProofs only [*, vmp,↓vmd,Env.get,putD,argEnv,List.map,x00,x01,x02,x03,x04,x05,x06,x07,List.take,List.drop,x08,x09,x0a,x0b,List.isEmpty,↓reduceIte,reduceCtorEq,Nat.reduceEqDiff,Nat.reduceAdd,Nat.reduceLeDiff,x0c,Int.reduceNeg,Nat.reduceMul,Nat.reduceSub,x0d,x0e,x0f,x0g,x0h,x0i,x0j,x0k,Int.reduceEq,Int.reduceLT,Int.reduceLE,Int.reduceToNat,Int.cast_ofNat_Int,List.reduceReplicate]
    exact gives_pure
  simp -implicitDefEqProofs only [*, vmp,↓vmd,Env.get,putD,argEnv,List.map,x00,x01,x02,x03,x04,x05,x06,x07,List.take,List.drop,x08,x09,x0a,x0b,List.isEmpty,↓reduceIte,reduceCtorEq,Nat.reduceEqDiff,Nat.reduceAdd,Nat.reduceLeDiff,x0c,Int.reduceNeg,Nat.reduceMul,Nat.reduceSub,x0d,x0e,x0f,x0g,x0h,x0i,x0j,x0k,Int.reduceEq,Int.reduceLT,Int.reduceLE,Int.reduceToNat,Int.cast_ofNat_Int,List.reduceReplicate]
  refine onQ_q (add_q _ _ _ _ _ _ _ _ _ _ _ _ _) rfl ?_
  simp -implicitDefEqProofs only [*, vmp,↓vmd,Env.get,putD,argEnv,List.map,x00,x01,x02,x03,x04,x05,x06,x07,List.take,List.drop,x08,x09,x0a,x0b,List.isEmpty,↓reduceIte,reduceCtorEq,Nat.reduceEqDiff,Nat.reduceAdd,Nat.reduceLeDiff,x0c,Int.reduceNeg,Nat.reduceMul,Nat.reduceSub,x0d,x0e,x0f,x0g,x0h,x0i,x0j,x0k,Int.reduceEq,Int.reduceLT,Int.reduceLE,Int.reduceToNat,Int.cast_ofNat_Int,List.reduceReplicate]
  refine onQ_q (radd_q _ _ _ _ _ _ _ _ _ _ _ _ _) rfl ?_
  simp -implicitDefEqProofs only [*, vmp,↓vmd,Env.get,putD,argEnv,List.map,x00,x01,x02,x03,x04,x05,x06,x07,List.take,List.drop,x08,x09,x0a,x0b,List.isEmpty,↓reduceIte,reduceCtorEq,Nat.reduceEqDiff,Nat.reduceAdd,Nat.reduceLeDiff,x0c,Int.reduceNeg,Nat.reduceMul,Nat.reduceSub,x0d,x0e,x0f,x0g,x0h,x0i,x0j,x0k,Int.reduceEq,Int.reduceLT,Int.reduceLE,Int.reduceToNat,Int.cast_ofNat_Int,List.reduceReplicate]
  refine onQ_q (add_q _ _ _ _ _ _ _ _ _ _ _ _ _) rfl ?_
  simp -implicitDefEqProofs only [*, vmp,↓vmd,Env.get,putD,argEnv,List.map,x00,x01,x02,x03,x04,x05,x06,x07,List.take,List.drop,x08,x09,x0a,x0b,List.isEmpty,↓reduceIte,reduceCtorEq,Nat.reduceEqDiff,Nat.reduceAdd,Nat.reduceLeDiff,x0c,Int.reduceNeg,Nat.reduceMul,Nat.reduceSub,x0d,x0e,x0f,x0g,x0h,x0i,x0j,x0k,Int.reduceEq,Int.reduceLT,Int.reduceLE,Int.reduceToNat,Int.cast_ofNat_Int,List.reduceReplicate]
  refine onQ_q (add_q _ _ _ _ _ _ _ _ _ _ _ _ _) rfl ?_
  simp -implicitDefEqProofs only [*, vmp,↓vmd,Env.get,putD,argEnv,List.map,x00,x01,x02,x03,x04,x05,x06,x07,List.take,List.drop,x08,x09,x0a,x0b,List.isEmpty,↓reduceIte,reduceCtorEq,Nat.reduceEqDiff,Nat.reduceAdd,Nat.reduceLeDiff,x0c,Int.reduceNeg,Nat.reduceMul,Nat.reduceSub,x0d,x0e,x0f,x0g,x0h,x0i,x0j,x0k,Int.reduceEq,Int.reduceLT,Int.reduceLE,Int.reduceToNat,Int.cast_ofNat_Int,List.reduceReplicate]
  refine onC_q (add_q _ _ _ _ _ _ _ _ _ _ _ _ _) rfl ?_
  simp -implicitDefEqProofs only [*, vmp,↓vmd,Env.get,putD,argEnv,List.map,x00,x01,x02,x03,x04,x05,x06,x07,List.take,List.drop,x08,x09,x0a,x0b,List.isEmpty,↓reduceIte,reduceCtorEq,Nat.reduceEqDiff,Nat.reduceAdd,Nat.reduceLeDiff,x0c,Int.reduceNeg,Nat.reduceMul,Nat.reduceSub,x0d,x0e,x0f,x0g,x0h,x0i,x0j,x0k,Int.reduceEq,Int.reduceLT,Int.reduceLE,Int.reduceToNat,Int.cast_ofNat_Int,List.reduceReplicate]
  have h4' := fars_not h4
  have h5' := fars_not h5
  rw [twice h1 h4'.1 h5'.1, twice h2 h4'.2.1 h5'.2.1, twice h3 h4'.2.2 h5'.2.2]
  simp -implicitDefEqProofs only [*, vmp,↓vmd,Env.get,putD,argEnv,List.map,x00,x01,x02,x03,x04,x05,x06,x07,List.take,List.drop,x08,x09,x0a,x0b,List.isEmpty,↓reduceIte,reduceCtorEq,Nat.reduceEqDiff,Nat.reduceAdd,Nat.reduceLeDiff,x0c,Int.reduceNeg,Nat.reduceMul,Nat.reduceSub,x0d,x0e,x0f,x0g,x0h,x0i,x0j,x0k,Int.reduceEq,Int.reduceLT,Int.reduceLE,Int.reduceToNat,Int.cast_ofNat_Int,List.reduceReplicate]
  exact gives_pure

theorem ty8 : tyC Try.prog 20 23 = some (true, List.replicate 10 (.int .i64)) := by kernel_rfl
theorem ty9 : tyC Try.prog 20 25 = some (true, List.replicate 3 (.int .i64)) := by kernel_rfl
theorem adds_q (vs : List V) (h : OkTs Try.prog Try.f3.params.toList vs) : FnQ Try.prog 3 vs [.bool true] := by
  rw [Try.params3] at h
  match vs, h with
  | [g, v, w], h =>
    obtain ⟨h1, h2, h3, _⟩ := h
    obtain ⟨l, hl, rfl⟩ := ints_of (h1 _ _ _ ty8)
    obtain ⟨m, hm, rfl⟩ := ints_of (h2 _ _ _ ty9)
    obtain ⟨n, hn, rfl⟩ := ints_of (h3 _ _ _ ty9)
    match l, hl, m, hm, n, hn with
    | [a0, a1, a2, a3, a4, a5, a6, a7, a8, a9], _, [b0, b1, b2], _, [c0, c1, c2], _ => exact adds_law a0 a1 a2 a3 a4 a5 a6 a7 a8 a9 b0 b1 b2 c0 c1 c2
end Go.Proofs.Ytjgodncjlffhjaa.W
