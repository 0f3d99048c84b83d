/-
  The glyph that is moved (law 32's example): its function gives true.
-/
import Derived.Test.YtjgodncjlffhjaaSums
namespace Go.Proofs.Ytjgodncjlffhjaa.W
open Go Go.Vm Go.Proofs
set_option maxRecDepth 100000
set_option linter.unusedSimpArgs false
set_option maxHeartbeats 1000000
/-! typecase/typecaselaw32.alive -/
def c78 : AC :=
  (.seq (.reg [⟨some 0, none, .mov (.c (.pure (.bool false)))⟩])
  (.seq (.reg [⟨some 5, none, .build [(.pure (.int .i64 0)), .empty, .empty, .empty, .empty, .empty] []⟩,
    ⟨some 6, none, .bslice 1 [(.c (.pure (.int .i64 3)))]⟩,
    ⟨some 7, none, .build [(.pure (.int .i64 0)), (.pure (.int .i64 0)), (.pure (.int .i64 0))] [(0, 1, (.c (.pure (.int .i64 1))))]⟩,
    ⟨some 8, none, .bslice 3 [(.s 7)]⟩,
    ⟨some 9, none, .build [.empty, .empty, .empty, .empty, .empty, .empty, .empty, .empty, .empty, .empty, .empty, .empty] [(0, 1, (.s 6)), (7, 1, (.s 8))]⟩,
    ⟨some 10, none, .bslice 12 [(.s 9)]⟩,
    ⟨some 11, none, .build [(.pure (.int .i64 0)), (.pure (.int .i64 0)), (.pure (.int .i64 0)), .empty] [(0, 1, (.c (.pure (.int .i64 6)))), (3, 1, (.s 10))]⟩,
    ⟨some 12, none, .build [(.pure (.int .i64 0)), (.pure (.int .i64 0)), (.pure (.int .i64 0)), (.pure (.int .i64 0)), (.pure (.int .i64 0)), (.pure (.int .i64 0)), (.pure (.int .i64 0)), (.pure (.int .i64 0)), (.pure (.int .i64 0)), (.pure (.int .i64 0))] [(0, 1, (.c (.pure (.int .i64 3))))]⟩,
    ⟨some 13, none, .bslice 10 [(.s 12)]⟩,
    ⟨some 14, none, .call 76 [(.s 5), (.s 11), (.s 13), (.c (.pure (.int .i64 0)))]⟩,
    ⟨some 4, none, .mov (.s 14)⟩,
    ⟨some 15, none, .ext 0 (.s 4)⟩,
    ⟨some 16, none, .ext 1 (.s 4)⟩,
    ⟨some 17, none, .ext 2 (.s 4)⟩,
    ⟨some 1, none, .mov (.s 15)⟩,
    ⟨some 2, none, .mov (.s 16)⟩,
    ⟨some 3, none, .mov (.s 17)⟩])
  (.seq (.reg [⟨some 18, none, .mov (.s 3)⟩,
    ⟨some 19, none, .mov (.s 18)⟩,
    ⟨some 20, some (19, true), .mov (.s 2)⟩,
    ⟨some 21, some (19, true), .bin .eql (.s 20) (.c (.pure (.int .i64 1)))⟩,
    ⟨some 22, none, .pick (.s 19) (.s 21) (.c (.pure (.bool false)))⟩,
    ⟨some 23, none, .mov (.s 22)⟩,
    ⟨some 24, some (23, true), .mov (.s 1)⟩,
    ⟨some 25, some (23, true), .len (.s 24)⟩,
    ⟨some 26, some (23, true), .bin .eql (.s 25) (.c (.pure (.int .i64 1)))⟩,
    ⟨some 27, none, .pick (.s 23) (.s 26) (.c (.pure (.bool false)))⟩,
    ⟨some 28, none, .mov (.s 27)⟩,
    ⟨some 29, some (28, true), .mov (.s 1)⟩,
    ⟨some 30, some (28, true), .idxA 10 (.s 29) (.c (.pure (.int .i64 0)))⟩,
    ⟨some 31, some (28, true), .fldA 2 (.s 30)⟩,
    ⟨some 32, some (28, true), .load false 1 (.s 31)⟩,
    ⟨some 33, some (28, true), .bin .eql (.s 32) (.c (.pure (.int .i64 1)))⟩,
    ⟨some 34, none, .pick (.s 28) (.s 33) (.c (.pure (.bool false)))⟩,
    ⟨some 0, none, .mov (.s 34)⟩])
  .ret)))
theorem k78 : (Try.f78.body.bind fun c => cCode Try.prog Try.f78.ntmps RCs c) = some c78 := by kernel_rfl
theorem h78 : (Try.f78.name == "runtime.NumGoroutine") = false := by kernel_rfl
theorem r78 : resC Try.prog Try.f78.results.toList = some [.t 0] := by kernel_rfl
theorem a78 {args : List S} {H : Heap} {K : S → Heap → Prop} (hn : args.length ≤ 35) (h : aWx Try.prog H.length c78 (PostX [.t 0] K) (argEnv 0 args) H) : CallA Try.prog 78 args H K :=
  callA_of_x mixed Try.func78 h78 k78 r78 (by rw [Try.ntmps78]; exact hn) h
theorem q78 {vs ds : List V} (hn : vs.length ≤ 35) (h : aWx Try.prog 0 c78 (PostX [.t 0] (Gives ds)) (argEnv 0 (vs.map .pure)) []) : FnQ Try.prog 78 vs ds :=
  fnQ_of_call (a78 (by simpa using hn) h)
/-! typecase/typecaselaw32.AdjustKeeps -/
def c19_0 : AC :=
  (.seq (.reg [⟨some 126, none, .mov (.s 10)⟩,
    ⟨some 127, none, .bin .eql (.s 126) (.c (.pure (.int .i64 0)))⟩,
    ⟨some 128, none, .mov (.s 127)⟩,
    ⟨some 129, some (128, false), .mov (.s 10)⟩,
    ⟨some 130, some (128, false), .bin .eql (.s 129) (.c (.pure (.int .i64 1)))⟩,
    ⟨some 131, none, .pick (.s 128) (.c (.pure (.bool true))) (.s 130)⟩,
    ⟨some 132, none, .mov (.s 131)⟩,
    ⟨some 133, some (132, false), .mov (.s 10)⟩,
    ⟨some 134, some (132, false), .bin .eql (.s 133) (.c (.pure (.int .i64 2)))⟩,
    ⟨some 135, some (132, false), .mov (.s 134)⟩,
    ⟨some 136, some (135, true), .fldA 0 (.s 4)⟩,
    ⟨some 137, some (135, true), .load false 1 (.s 136)⟩,
    ⟨some 138, some (135, true), .bin .eql (.s 137) (.c (.pure (.int .i64 7)))⟩,
    ⟨some 139, some (132, false), .pick (.s 135) (.s 138) (.c (.pure (.bool false)))⟩,
    ⟨some 140, none, .pick (.s 132) (.c (.pure (.bool true))) (.s 139)⟩,
    ⟨some 6, none, .mov (.s 140)⟩])
  .ret)
def c19_1 : AC :=
  (.seq (.seq (.reg [⟨some 70, none, .mov (.s 11)⟩,
    ⟨some 71, none, .mov (.s 7)⟩,
    ⟨some 72, none, .len (.s 71)⟩,
    ⟨some 73, none, .bin .lss (.s 70) (.s 72)⟩])
  (.cond (.s 73)
  .skip
  (.exit 0)))
  (.seq (.block 1
  (.seq (.seq (.regq [⟨some 76, none, .mov (.s 7)⟩,
    ⟨some 77, none, .mov (.s 11)⟩,
    ⟨some 78, none, .idxA 10 (.s 76) (.s 77)⟩,
    ⟨some 79, none, .load true 10 (.s 78)⟩,
    ⟨some 80, none, .fldA 0 (.s 5)⟩,
    ⟨some 81, none, .load false 1 (.s 80)⟩,
    ⟨some 82, none, .mov (.s 11)⟩,
    ⟨some 83, none, .idxA 10 (.s 81) (.s 82)⟩,
    ⟨some 84, none, .load true 10 (.s 83)⟩]
    [⟨some 85, none, .eqv false [.i, .i, .i, .i, .i, .i, .i, .i, .i, .i] (.s 79) (.s 84)⟩])
  (.cond (.s 85)
  (.exit 1)
  .skip))
  (.seq (.reg [⟨some 86, none, .mov (.s 10)⟩,
    ⟨some 87, none, .bin .add (.s 86) (.c (.pure (.int .i64 1)))⟩,
    ⟨some 10, none, .mov (.s 87)⟩])
  (.seq (.reg [⟨some 88, none, .mov (.s 7)⟩,
    ⟨some 89, none, .mov (.s 11)⟩,
    ⟨some 90, none, .idxA 10 (.s 88) (.s 89)⟩,
    ⟨some 91, none, .load true 10 (.s 90)⟩,
    ⟨some 12, none, .box (.c (.pure (.agg [(.int .i64 0), (.int .i64 0), (.int .i64 0), (.int .i64 0), (.int .i64 0), (.int .i64 0), (.int .i64 0), (.int .i64 0), (.int .i64 0), (.int .i64 0)])))⟩,
    ⟨none, none, .store 10 (.s 12) (.s 91)⟩])
  (.seq (.reg [⟨some 92, none, .fldA 0 (.s 5)⟩,
    ⟨some 93, none, .load false 1 (.s 92)⟩,
    ⟨some 94, none, .mov (.s 11)⟩,
    ⟨some 95, none, .idxA 10 (.s 93) (.s 94)⟩,
    ⟨some 96, none, .fldA 2 (.s 95)⟩,
    ⟨some 97, none, .load false 1 (.s 96)⟩,
    ⟨some 98, none, .fldA 2 (.s 12)⟩,
    ⟨none, none, .store 1 (.s 98) (.s 97)⟩])
  (.seq (.reg [⟨some 99, none, .fldA 0 (.s 5)⟩,
    ⟨some 100, none, .load false 1 (.s 99)⟩,
    ⟨some 101, none, .mov (.s 11)⟩,
    ⟨some 102, none, .idxA 10 (.s 100) (.s 101)⟩,
    ⟨some 103, none, .fldA 3 (.s 102)⟩,
    ⟨some 104, none, .load false 1 (.s 103)⟩,
    ⟨some 105, none, .fldA 3 (.s 12)⟩,
    ⟨none, none, .store 1 (.s 105) (.s 104)⟩])
  (.seq (.reg [⟨some 106, none, .fldA 0 (.s 5)⟩,
    ⟨some 107, none, .load false 1 (.s 106)⟩,
    ⟨some 108, none, .mov (.s 11)⟩,
    ⟨some 109, none, .idxA 10 (.s 107) (.s 108)⟩,
    ⟨some 110, none, .fldA 4 (.s 109)⟩,
    ⟨some 111, none, .load false 1 (.s 110)⟩,
    ⟨some 112, none, .fldA 4 (.s 12)⟩,
    ⟨none, none, .store 1 (.s 112) (.s 111)⟩])
  (.seq (.regq [⟨some 113, none, .load true 10 (.s 12)⟩,
    ⟨some 114, none, .fldA 0 (.s 5)⟩,
    ⟨some 115, none, .load false 1 (.s 114)⟩,
    ⟨some 116, none, .mov (.s 11)⟩,
    ⟨some 117, none, .idxA 10 (.s 115) (.s 116)⟩,
    ⟨some 118, none, .load true 10 (.s 117)⟩,
    ⟨some 119, none, .eqv true [.i, .i, .i, .i, .i, .i, .i, .i, .i, .i] (.s 113) (.s 118)⟩,
    ⟨some 120, none, .mov (.s 119)⟩,
    ⟨some 121, some (120, false), .mov (.s 11)⟩,
    ⟨some 122, some (120, false), .fldA 1 (.s 5)⟩,
    ⟨some 123, some (120, false), .load false 1 (.s 122)⟩]
    [⟨some 124, some (120, false), .bin .lss (.s 121) (.s 123)⟩,
    ⟨some 125, none, .pick (.s 120) (.c (.pure (.bool true))) (.s 124)⟩])
  (.cond (.s 125)
  (.seq (.reg [⟨some 6, none, .mov (.c (.pure (.bool false)))⟩])
  .ret)
  .skip)))))))))
  (.reg [⟨some 74, none, .mov (.s 11)⟩,
    ⟨some 75, none, .bin .add (.s 74) (.c (.pure (.int .i64 1)))⟩,
    ⟨some 11, none, .mov (.s 75)⟩])))
def c19 : AC :=
  (.seq (.reg [⟨some 3, none, .box (.s 0)⟩,
    ⟨some 4, none, .box (.s 1)⟩,
    ⟨some 5, none, .box (.s 2)⟩,
    ⟨some 6, none, .mov (.c (.pure (.bool false)))⟩])
  (.seq (.seq (.reg [⟨some 13, none, .load true 6 (.s 3)⟩,
    ⟨some 14, none, .load true 4 (.s 4)⟩,
    ⟨some 15, none, .fldA 0 (.s 5)⟩,
    ⟨some 16, none, .load false 1 (.s 15)⟩,
    ⟨some 17, none, .call 24 [(.s 13), (.s 14), (.s 16)]⟩,
    ⟨some 18, none, .mov (.s 17)⟩,
    ⟨some 19, some (18, false), .load true 4 (.s 4)⟩,
    ⟨some 20, some (18, false), .fldA 0 (.s 5)⟩,
    ⟨some 21, some (18, false), .load false 1 (.s 20)⟩,
    ⟨some 22, some (18, false), .call 75 [(.s 19), (.s 21)]⟩,
    ⟨some 23, some (18, false), .un .not (.s 22)⟩,
    ⟨some 24, none, .pick (.s 18) (.c (.pure (.bool true))) (.s 23)⟩])
  (.cond (.s 24)
  (.seq (.reg [⟨some 6, none, .mov (.c (.pure (.bool true)))⟩])
  .ret)
  .skip))
  (.seq (.reg [⟨some 26, none, .load true 6 (.s 3)⟩,
    ⟨some 27, none, .load true 4 (.s 4)⟩,
    ⟨some 28, none, .fldA 0 (.s 5)⟩,
    ⟨some 29, none, .load false 1 (.s 28)⟩,
    ⟨some 30, none, .fldA 1 (.s 5)⟩,
    ⟨some 31, none, .load false 1 (.s 30)⟩,
    ⟨some 32, none, .call 76 [(.s 26), (.s 27), (.s 29), (.s 31)]⟩,
    ⟨some 25, none, .mov (.s 32)⟩,
    ⟨some 33, none, .ext 0 (.s 25)⟩,
    ⟨some 34, none, .ext 1 (.s 25)⟩,
    ⟨some 35, none, .ext 2 (.s 25)⟩,
    ⟨some 7, none, .mov (.s 33)⟩,
    ⟨some 8, none, .mov (.s 34)⟩,
    ⟨some 9, none, .mov (.s 35)⟩])
  (.seq (.seq (.reg [⟨some 36, none, .mov (.s 9)⟩,
    ⟨some 37, none, .un .not (.s 36)⟩])
  (.cond (.s 37)
  (.seq (.reg [⟨some 38, none, .call 78 []⟩,
    ⟨some 39, none, .mov (.s 38)⟩,
    ⟨some 40, some (39, true), .mov (.s 7)⟩,
    ⟨some 41, some (39, true), .len (.s 40)⟩,
    ⟨some 42, some (39, true), .bin .eql (.s 41) (.c (.pure (.int .i64 0)))⟩,
    ⟨some 43, none, .pick (.s 39) (.s 42) (.c (.pure (.bool false)))⟩,
    ⟨some 44, none, .mov (.s 43)⟩,
    ⟨some 45, some (44, true), .mov (.s 8)⟩,
    ⟨some 46, some (44, true), .bin .eql (.s 45) (.c (.pure (.int .i64 0)))⟩,
    ⟨some 47, none, .pick (.s 44) (.s 46) (.c (.pure (.bool false)))⟩,
    ⟨some 6, none, .mov (.s 47)⟩])
  .ret)
  .skip))
  (.seq (.seq (.reg [⟨some 48, none, .mov (.s 7)⟩,
    ⟨some 49, none, .len (.s 48)⟩,
    ⟨some 50, none, .fldA 0 (.s 5)⟩,
    ⟨some 51, none, .load false 1 (.s 50)⟩,
    ⟨some 52, none, .len (.s 51)⟩,
    ⟨some 53, none, .bin .neq (.s 49) (.s 52)⟩,
    ⟨some 54, none, .mov (.s 53)⟩,
    ⟨some 55, some (54, false), .mov (.s 8)⟩,
    ⟨some 56, some (54, false), .fldA 1 (.s 5)⟩,
    ⟨some 57, some (54, false), .load false 1 (.s 56)⟩,
    ⟨some 58, some (54, false), .bin .leq (.s 55) (.s 57)⟩,
    ⟨some 59, none, .pick (.s 54) (.c (.pure (.bool true))) (.s 58)⟩,
    ⟨some 60, none, .mov (.s 59)⟩,
    ⟨some 61, some (60, false), .mov (.s 8)⟩,
    ⟨some 62, some (60, false), .mov (.s 7)⟩,
    ⟨some 63, some (60, false), .len (.s 62)⟩,
    ⟨some 64, some (60, false), .bin .gtr (.s 61) (.s 63)⟩,
    ⟨some 65, none, .pick (.s 60) (.c (.pure (.bool true))) (.s 64)⟩,
    ⟨some 66, none, .mov (.s 65)⟩,
    ⟨some 67, some (66, false), .call 78 []⟩,
    ⟨some 68, some (66, false), .un .not (.s 67)⟩,
    ⟨some 69, none, .pick (.s 66) (.c (.pure (.bool true))) (.s 68)⟩])
  (.cond (.s 69)
  (.seq (.reg [⟨some 6, none, .mov (.c (.pure (.bool false)))⟩])
  .ret)
  .skip))
  (.seq (.reg [⟨some 10, none, .mov (.c (.pure (.int .i64 0)))⟩])
  (.seq (.seq (.reg [⟨some 11, none, .mov (.c (.pure (.int .i64 0)))⟩])
  (.block 0
  (.loop c19_1)))
  c19_0)))))))
theorem k19 : (Try.f19.body.bind fun c => cCode Try.prog Try.f19.ntmps RCs c) = some c19 := by kernel_rfl
theorem h19 : (Try.f19.name == "runtime.NumGoroutine") = false := by kernel_rfl
theorem r19 : resC Try.prog Try.f19.results.toList = some [.t 6] := by kernel_rfl
theorem a19 {args : List S} {H : Heap} {K : S → Heap → Prop} (hn : args.length ≤ 141) (h : aWx Try.prog H.length c19 (PostX [.t 6] K) (argEnv 0 args) H) : CallA Try.prog 19 args H K :=
  callA_of_x mixed Try.func19 h19 k19 r19 (by rw [Try.ntmps19]; exact hn) h
theorem q19 {vs ds : List V} (hn : vs.length ≤ 141) (h : aWx Try.prog 0 c19 (PostX [.t 6] (Gives ds)) (argEnv 0 (vs.map .pure)) []) : FnQ Try.prog 19 vs ds :=
  fnQ_of_call (a19 (by simpa using hn) h)

def noFo : Fo := ⟨I 0, [], .sl [], .sl [], .sl [], []⟩
def aliveK : Lk := ⟨6, 0, 0, [⟨[3], .sl [], .sl [], [], [], [], [], [⟨1, 0, 0⟩], [], .sl [], .sl [], .sl []⟩]⟩
def aliveL : List Gl := [⟨3, 0, 0, 0, 0, 0, 0, 0, 0, 0⟩]
theorem aliveF : applyF noFo aliveK aliveL 0 = some ([⟨3, 0, 1, 0, 0, 0, 0, 0, 0, 0⟩], 1) := by decide
theorem aliveA_c : FnQ Try.prog 76 [fo noFo, lk aliveK, .sl (aliveL.map gl), I 0] [.sl [gl ⟨3, 0, 1, 0, 0, 0, 0, 0, 0, 0⟩], I 1, .bool true] := by
  have h := apply_q noFo aliveK aliveL (by decide) 0
  rw [aliveF] at h
  exact h
theorem aliveA_q : FnQ Try.prog 78 [] [.bool true] := by
  refine q78 (by simp) ?_
  unfold c78
  simp -implicitDefEqProofs only [*, vmp,↓vmd,Env.get,putD,argEnv,List.map,x00,x01,x02,x03,x04,x05,x06,x07,List.take,List.drop,x08,x09,x0a,x0b,List.isEmpty,↓reduceIte,reduceCtorEq,Nat.reduceEqDiff,Nat.reduceAdd,Nat.reduceLeDiff,x0c,Int.reduceNeg,Nat.reduceMul,Nat.reduceSub,x0d,x0e,x0f,x0g,x0h,x0i,x0j,x0k,Int.reduceEq,Int.reduceLT,Int.reduceLE,Int.reduceToNat,Int.cast_ofNat_Int,List.reduceReplicate]
  refine onC_frz 0 (onC_frz 1 (onC_frz 2 (onC_frz 3 ?_)))
  simp -implicitDefEqProofs only [vmp,↓vmd,Env.get,putD,argEnv,List.map,x00,x01,x02,x03,x04,x05,x06,x07,List.take,List.drop,x08,x09,x0a,x0b,List.isEmpty,↓reduceIte,reduceCtorEq,Nat.reduceEqDiff,Nat.reduceAdd,Nat.reduceLeDiff,x0c,Int.reduceNeg,Nat.reduceMul,Nat.reduceSub,x0d,x0e,x0f,x0g,x0h,x0i,x0j,x0k,Int.reduceEq,Int.reduceLT,Int.reduceLE,Int.reduceToNat,Int.cast_ofNat_Int,List.reduceReplicate]
  refine onC_q aliveA_c rfl ?_
  first | refine envO (by simp -implicitDefEqProofs only [vmp,↓vmd,Env.get,putD,argEnv,List.map,x00,x01,x02,x03,x04,x05,x06,x07,List.take,List.drop,x08,x09,x0a,x0b,List.isEmpty,↓reduceIte,reduceCtorEq,Nat.reduceEqDiff,Nat.reduceAdd,Nat.reduceLeDiff,x0c,Int.reduceNeg,Nat.reduceMul,Nat.reduceSub,x0d,x0e,x0f,x0g,x0h,x0i,x0j,x0k,Int.reduceEq,Int.reduceLT,Int.reduceLE,Int.reduceToNat,Int.cast_ofNat_Int,List.reduceReplicate]; rfl) ?_ | refine envQ (by simp -implicitDefEqProofs only [vmp,↓vmd,Env.get,putD,argEnv,List.map,x00,x01,x02,x03,x04,x05,x06,x07,List.take,List.drop,x08,x09,x0a,x0b,List.isEmpty,↓reduceIte,reduceCtorEq,Nat.reduceEqDiff,Nat.reduceAdd,Nat.reduceLeDiff,x0c,Int.reduceNeg,Nat.reduceMul,Nat.reduceSub,x0d,x0e,x0f,x0g,x0h,x0i,x0j,x0k,Int.reduceEq,Int.reduceLT,Int.reduceLE,Int.reduceToNat,Int.cast_ofNat_Int,List.reduceReplicate]; rfl) ?_
  simp -implicitDefEqProofs only [vmp,↓vmd,Env.get,putD,argEnv,List.map,x00,x01,x02,x03,x04,x05,x06,x07,List.take,List.drop,x08,x09,x0a,x0b,List.isEmpty,↓reduceIte,reduceCtorEq,Nat.reduceEqDiff,Nat.reduceAdd,Nat.reduceLeDiff,x0c,Int.reduceNeg,Nat.reduceMul,Nat.reduceSub,x0d,x0e,x0f,x0g,x0h,x0i,x0j,x0k,Int.reduceEq,Int.reduceLT,Int.reduceLE,Int.reduceToNat,Int.cast_ofNat_Int,List.reduceReplicate]
  exact gives_pure
end Go.Proofs.Ytjgodncjlffhjaa.W
