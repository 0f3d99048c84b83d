/-
  Whether all values of a lookup may be added; whether two rows of glyphs are the same. No condition but on sizes.
-/
import Derived.Test.YtjgodncjlffhjaaApply
namespace Go.Proofs.Ytjgodncjlffhjaa.W
open Go Go.Vm Go.Proofs
set_option maxRecDepth 100000
set_option linter.unusedSimpArgs false
set_option maxHeartbeats 1000000
/-! typecase/typecaselaw32.sums -/
def c75_0 : AC :=
  (.seq (.reg [⟨some 4, none, .mov (.c (.pure (.bool true)))⟩])
  .ret)
def c75_1 : AC :=
  (.reg [⟨some 42, none, .mov (.s 6)⟩,
    ⟨some 43, none, .bin .add (.s 42) (.c (.pure (.int .i64 1)))⟩,
    ⟨some 6, none, .mov (.s 43)⟩])
def c75_2 : AC :=
  (.seq (.seq (.reg [⟨some 65, none, .mov (.s 8)⟩,
    ⟨some 66, none, .fldA 3 (.s 2)⟩,
    ⟨some 67, none, .load false 1 (.s 66)⟩,
    ⟨some 68, none, .mov (.s 6)⟩,
    ⟨some 69, none, .idxA 12 (.s 67) (.s 68)⟩,
    ⟨some 70, none, .fldA 8 (.s 69)⟩,
    ⟨some 71, none, .load false 1 (.s 70)⟩,
    ⟨some 72, none, .len (.s 71)⟩,
    ⟨some 73, none, .bin .lss (.s 65) (.s 72)⟩])
  (.cond (.s 73)
  .skip
  (.exit 6)))
  (.seq (.block 7
  (.seq (.reg [⟨some 76, none, .fldA 3 (.s 2)⟩,
    ⟨some 77, none, .load false 1 (.s 76)⟩,
    ⟨some 78, none, .mov (.s 6)⟩,
    ⟨some 79, none, .idxA 12 (.s 77) (.s 78)⟩,
    ⟨some 80, none, .fldA 8 (.s 79)⟩,
    ⟨some 81, none, .load false 1 (.s 80)⟩,
    ⟨some 82, none, .mov (.s 8)⟩,
    ⟨some 83, none, .idxA 8 (.s 81) (.s 82)⟩,
    ⟨some 84, none, .fldA 2 (.s 83)⟩,
    ⟨some 85, none, .load true 3 (.s 84)⟩,
    ⟨some 86, none, .call 21 [(.s 85)]⟩,
    ⟨some 87, none, .mov (.s 86)⟩,
    ⟨some 88, some (87, false), .fldA 3 (.s 2)⟩,
    ⟨some 89, some (87, false), .load false 1 (.s 88)⟩,
    ⟨some 90, some (87, false), .mov (.s 6)⟩,
    ⟨some 91, some (87, false), .idxA 12 (.s 89) (.s 90)⟩,
    ⟨some 92, some (87, false), .fldA 8 (.s 91)⟩,
    ⟨some 93, some (87, false), .load false 1 (.s 92)⟩,
    ⟨some 94, some (87, false), .mov (.s 8)⟩,
    ⟨some 95, some (87, false), .idxA 8 (.s 93) (.s 94)⟩,
    ⟨some 96, some (87, false), .fldA 5 (.s 95)⟩,
    ⟨some 97, some (87, false), .load true 3 (.s 96)⟩,
    ⟨some 98, some (87, false), .call 21 [(.s 97)]⟩,
    ⟨some 99, none, .pick (.s 87) (.c (.pure (.bool true))) (.s 98)⟩])
  (.cond (.s 99)
  (.seq (.reg [⟨some 4, none, .mov (.c (.pure (.bool false)))⟩])
  .ret)
  .skip)))
  (.reg [⟨some 74, none, .mov (.s 8)⟩,
    ⟨some 75, none, .bin .add (.s 74) (.c (.pure (.int .i64 1)))⟩,
    ⟨some 8, none, .mov (.s 75)⟩])))
def c75_3 : AC :=
  (.seq (.reg [⟨some 8, none, .mov (.c (.pure (.int .i64 0)))⟩])
  (.block 6
  (.loop c75_2)))
def c75_4 : AC :=
  (.seq (.seq (.reg [⟨some 44, none, .mov (.s 7)⟩,
    ⟨some 45, none, .fldA 3 (.s 2)⟩,
    ⟨some 46, none, .load false 1 (.s 45)⟩,
    ⟨some 47, none, .mov (.s 6)⟩,
    ⟨some 48, none, .idxA 12 (.s 46) (.s 47)⟩,
    ⟨some 49, none, .fldA 7 (.s 48)⟩,
    ⟨some 50, none, .load false 1 (.s 49)⟩,
    ⟨some 51, none, .len (.s 50)⟩,
    ⟨some 52, none, .bin .lss (.s 44) (.s 51)⟩])
  (.cond (.s 52)
  .skip
  (.exit 4)))
  (.seq (.block 5
  (.seq (.reg [⟨some 55, none, .fldA 3 (.s 2)⟩,
    ⟨some 56, none, .load false 1 (.s 55)⟩,
    ⟨some 57, none, .mov (.s 6)⟩,
    ⟨some 58, none, .idxA 12 (.s 56) (.s 57)⟩,
    ⟨some 59, none, .fldA 7 (.s 58)⟩,
    ⟨some 60, none, .load false 1 (.s 59)⟩,
    ⟨some 61, none, .mov (.s 7)⟩,
    ⟨some 62, none, .idxA 3 (.s 60) (.s 61)⟩,
    ⟨some 63, none, .load true 3 (.s 62)⟩,
    ⟨some 64, none, .call 21 [(.s 63)]⟩])
  (.cond (.s 64)
  (.seq (.reg [⟨some 4, none, .mov (.c (.pure (.bool false)))⟩])
  .ret)
  .skip)))
  (.reg [⟨some 53, none, .mov (.s 7)⟩,
    ⟨some 54, none, .bin .add (.s 53) (.c (.pure (.int .i64 1)))⟩,
    ⟨some 7, none, .mov (.s 54)⟩])))
def c75_5 : AC :=
  (.seq (.seq (.reg [⟨some 37, none, .mov (.s 6)⟩,
    ⟨some 38, none, .fldA 3 (.s 2)⟩,
    ⟨some 39, none, .load false 1 (.s 38)⟩,
    ⟨some 40, none, .len (.s 39)⟩,
    ⟨some 41, none, .bin .lss (.s 37) (.s 40)⟩])
  (.cond (.s 41)
  .skip
  (.exit 2)))
  (.seq (.block 3
  (.seq (.seq (.reg [⟨some 7, none, .mov (.c (.pure (.int .i64 0)))⟩])
  (.block 4
  (.loop c75_4)))
  c75_3))
  c75_1))
def c75_6 : AC :=
  (.seq (.seq (.reg [⟨some 6, none, .mov (.c (.pure (.int .i64 0)))⟩])
  (.block 2
  (.loop c75_5)))
  c75_0)
def c75_7 : AC :=
  (.seq (.seq (.reg [⟨some 9, none, .mov (.s 5)⟩,
    ⟨some 10, none, .mov (.s 1)⟩,
    ⟨some 11, none, .len (.s 10)⟩,
    ⟨some 12, none, .bin .lss (.s 9) (.s 11)⟩])
  (.cond (.s 12)
  .skip
  (.exit 0)))
  (.seq (.block 1
  (.seq (.reg [⟨some 15, none, .mov (.s 1)⟩,
    ⟨some 16, none, .mov (.s 5)⟩,
    ⟨some 17, none, .idxA 10 (.s 15) (.s 16)⟩,
    ⟨some 18, none, .fldA 2 (.s 17)⟩,
    ⟨some 19, none, .load false 1 (.s 18)⟩,
    ⟨some 20, none, .call 20 [(.s 19)]⟩,
    ⟨some 21, none, .mov (.s 20)⟩,
    ⟨some 22, some (21, false), .mov (.s 1)⟩,
    ⟨some 23, some (21, false), .mov (.s 5)⟩,
    ⟨some 24, some (21, false), .idxA 10 (.s 22) (.s 23)⟩,
    ⟨some 25, some (21, false), .fldA 3 (.s 24)⟩,
    ⟨some 26, some (21, false), .load false 1 (.s 25)⟩,
    ⟨some 27, some (21, false), .call 20 [(.s 26)]⟩,
    ⟨some 28, none, .pick (.s 21) (.c (.pure (.bool true))) (.s 27)⟩,
    ⟨some 29, none, .mov (.s 28)⟩,
    ⟨some 30, some (29, false), .mov (.s 1)⟩,
    ⟨some 31, some (29, false), .mov (.s 5)⟩,
    ⟨some 32, some (29, false), .idxA 10 (.s 30) (.s 31)⟩,
    ⟨some 33, some (29, false), .fldA 4 (.s 32)⟩,
    ⟨some 34, some (29, false), .load false 1 (.s 33)⟩,
    ⟨some 35, some (29, false), .call 20 [(.s 34)]⟩,
    ⟨some 36, none, .pick (.s 29) (.c (.pure (.bool true))) (.s 35)⟩])
  (.cond (.s 36)
  (.seq (.reg [⟨some 4, none, .mov (.c (.pure (.bool false)))⟩])
  .ret)
  .skip)))
  (.reg [⟨some 13, none, .mov (.s 5)⟩,
    ⟨some 14, none, .bin .add (.s 13) (.c (.pure (.int .i64 1)))⟩,
    ⟨some 5, none, .mov (.s 14)⟩])))
def c75 : AC :=
  (.seq (.reg [⟨some 2, none, .box (.s 0)⟩,
    ⟨some 4, none, .mov (.c (.pure (.bool false)))⟩])
  (.seq (.seq (.reg [⟨some 5, none, .mov (.c (.pure (.int .i64 0)))⟩])
  (.block 0
  (.loop c75_7)))
  c75_6))
theorem k75 : (Try.f75.body.bind fun c => cCode Try.prog Try.f75.ntmps RCs c) = some c75 := by kernel_rfl
theorem h75 : (Try.f75.name == "runtime.NumGoroutine") = false := by kernel_rfl
theorem r75 : resC Try.prog Try.f75.results.toList = some [.t 4] := by kernel_rfl
theorem a75 {args : List S} {H : Heap} {K : S → Heap → Prop} (hn : args.length ≤ 100) (h : aWx Try.prog H.length c75 (PostX [.t 4] K) (argEnv 0 args) H) : CallA Try.prog 75 args H K :=
  callA_of_x mixed Try.func75 h75 k75 r75 (by rw [Try.ntmps75]; exact hn) h
theorem q75 {vs ds : List V} (hn : vs.length ≤ 100) (h : aWx Try.prog 0 c75 (PostX [.t 4] (Gives ds)) (argEnv 0 (vs.map .pure)) []) : FnQ Try.prog 75 vs ds :=
  fnQ_of_call (a75 (by simpa using hn) h)
/-! typecase/typecaseref29.Same -/
def c52_0 : AC :=
  (.seq (.reg [⟨some 4, none, .mov (.c (.pure (.bool true)))⟩])
  .ret)
def c52_1 : AC :=
  (.seq (.seq (.reg [⟨some 11, none, .mov (.s 5)⟩,
    ⟨some 12, none, .mov (.s 0)⟩,
    ⟨some 13, none, .len (.s 12)⟩,
    ⟨some 14, none, .bin .lss (.s 11) (.s 13)⟩])
  (.cond (.s 14)
  .skip
  (.exit 0)))
  (.seq (.block 1
  (.seq (.regq [⟨some 17, none, .mov (.s 0)⟩,
    ⟨some 18, none, .mov (.s 5)⟩,
    ⟨some 19, none, .idxA 10 (.s 17) (.s 18)⟩,
    ⟨some 20, none, .load true 10 (.s 19)⟩,
    ⟨some 21, none, .mov (.s 1)⟩,
    ⟨some 22, none, .mov (.s 5)⟩,
    ⟨some 23, none, .idxA 10 (.s 21) (.s 22)⟩,
    ⟨some 24, none, .load true 10 (.s 23)⟩]
    [⟨some 25, none, .eqv true [.i, .i, .i, .i, .i, .i, .i, .i, .i, .i] (.s 20) (.s 24)⟩])
  (.cond (.s 25)
  (.seq (.reg [⟨some 4, none, .mov (.c (.pure (.bool false)))⟩])
  .ret)
  .skip)))
  (.reg [⟨some 15, none, .mov (.s 5)⟩,
    ⟨some 16, none, .bin .add (.s 15) (.c (.pure (.int .i64 1)))⟩,
    ⟨some 5, none, .mov (.s 16)⟩])))
def c52 : AC :=
  (.seq (.reg [⟨some 4, none, .mov (.c (.pure (.bool false)))⟩])
  (.seq (.seq (.reg [⟨some 6, none, .mov (.s 0)⟩,
    ⟨some 7, none, .len (.s 6)⟩,
    ⟨some 8, none, .mov (.s 1)⟩,
    ⟨some 9, none, .len (.s 8)⟩,
    ⟨some 10, none, .bin .neq (.s 7) (.s 9)⟩])
  (.cond (.s 10)
  (.seq (.reg [⟨some 4, none, .mov (.c (.pure (.bool false)))⟩])
  .ret)
  .skip))
  (.seq (.seq (.reg [⟨some 5, none, .mov (.c (.pure (.int .i64 0)))⟩])
  (.block 0
  (.loop c52_1)))
  c52_0)))
theorem k52 : (Try.f52.body.bind fun c => cCode Try.prog Try.f52.ntmps RCs c) = some c52 := by kernel_rfl
theorem h52 : (Try.f52.name == "runtime.NumGoroutine") = false := by kernel_rfl
theorem r52 : resC Try.prog Try.f52.results.toList = some [.t 4] := by kernel_rfl
theorem a52 {args : List S} {H : Heap} {K : S → Heap → Prop} (hn : args.length ≤ 26) (h : aWx Try.prog H.length c52 (PostX [.t 4] K) (argEnv 0 args) H) : CallA Try.prog 52 args H K :=
  callA_of_x mixed Try.func52 h52 k52 r52 (by rw [Try.ntmps52]; exact hn) h
theorem q52 {vs ds : List V} (hn : vs.length ≤ 26) (h : aWx Try.prog 0 c52 (PostX [.t 4] (Gives ds)) (argEnv 0 (vs.map .pure)) []) : FnQ Try.prog 52 vs ds :=
  fnQ_of_call (a52 (by simpa using hn) h)
/-! typecase/typecaselaw32.AdjustApplies -/
def c18 : AC :=
  (.seq (.reg [⟨some 3, none, .box (.s 0)⟩,
    ⟨some 4, none, .box (.s 1)⟩,
    ⟨some 5, none, .box (.s 2)⟩,
    ⟨some 6, none, .mov (.c (.pure (.bool false)))⟩])
  (.seq (.seq (.reg [⟨some 13, none, .load true 6 (.s 3)⟩,
    ⟨some 14, none, .load true 4 (.s 4)⟩,
    ⟨some 15, none, .fldA 0 (.s 5)⟩,
    ⟨some 16, none, .load false 1 (.s 15)⟩,
    ⟨some 17, none, .call 24 [(.s 13), (.s 14), (.s 16)]⟩,
    ⟨some 18, none, .mov (.s 17)⟩,
    ⟨some 19, some (18, false), .load true 4 (.s 4)⟩,
    ⟨some 20, some (18, false), .fldA 0 (.s 5)⟩,
    ⟨some 21, some (18, false), .load false 1 (.s 20)⟩,
    ⟨some 22, some (18, false), .call 75 [(.s 19), (.s 21)]⟩,
    ⟨some 23, some (18, false), .un .not (.s 22)⟩,
    ⟨some 24, none, .pick (.s 18) (.c (.pure (.bool true))) (.s 23)⟩])
  (.cond (.s 24)
  (.seq (.reg [⟨some 6, none, .mov (.c (.pure (.bool true)))⟩])
  .ret)
  .skip))
  (.seq (.reg [⟨some 26, none, .load true 6 (.s 3)⟩,
    ⟨some 27, none, .load true 4 (.s 4)⟩,
    ⟨some 28, none, .fldA 0 (.s 5)⟩,
    ⟨some 29, none, .load false 1 (.s 28)⟩,
    ⟨some 30, none, .fldA 1 (.s 5)⟩,
    ⟨some 31, none, .load false 1 (.s 30)⟩,
    ⟨some 32, none, .call 76 [(.s 26), (.s 27), (.s 29), (.s 31)]⟩,
    ⟨some 25, none, .mov (.s 32)⟩,
    ⟨some 33, none, .ext 0 (.s 25)⟩,
    ⟨some 34, none, .ext 1 (.s 25)⟩,
    ⟨some 35, none, .ext 2 (.s 25)⟩,
    ⟨some 7, none, .mov (.s 33)⟩,
    ⟨some 8, none, .mov (.s 34)⟩,
    ⟨some 9, none, .mov (.s 35)⟩])
  (.seq (.reg [⟨some 37, none, .load true 6 (.s 3)⟩,
    ⟨some 38, none, .load true 4 (.s 4)⟩,
    ⟨some 39, none, .fldA 0 (.s 5)⟩,
    ⟨some 40, none, .load false 1 (.s 39)⟩,
    ⟨some 41, none, .fldA 1 (.s 5)⟩,
    ⟨some 42, none, .load false 1 (.s 41)⟩,
    ⟨some 43, none, .call 77 [(.s 37), (.s 38), (.s 40), (.s 42)]⟩,
    ⟨some 36, none, .mov (.s 43)⟩,
    ⟨some 44, none, .ext 0 (.s 36)⟩,
    ⟨some 45, none, .ext 1 (.s 36)⟩,
    ⟨some 46, none, .ext 2 (.s 36)⟩,
    ⟨some 10, none, .mov (.s 44)⟩,
    ⟨some 11, none, .mov (.s 45)⟩,
    ⟨some 12, none, .mov (.s 46)⟩])
  (.seq (.reg [⟨some 47, none, .mov (.s 7)⟩,
    ⟨some 48, none, .mov (.s 10)⟩,
    ⟨some 49, none, .call 52 [(.s 47), (.s 48)]⟩,
    ⟨some 50, none, .mov (.s 49)⟩,
    ⟨some 51, some (50, true), .mov (.s 8)⟩,
    ⟨some 52, some (50, true), .mov (.s 11)⟩,
    ⟨some 53, some (50, true), .bin .eql (.s 51) (.s 52)⟩,
    ⟨some 54, none, .pick (.s 50) (.s 53) (.c (.pure (.bool false)))⟩,
    ⟨some 55, none, .mov (.s 54)⟩,
    ⟨some 56, some (55, true), .mov (.s 9)⟩,
    ⟨some 57, some (55, true), .mov (.s 12)⟩,
    ⟨some 58, some (55, true), .eqb false (.s 56) (.s 57)⟩,
    ⟨some 59, none, .pick (.s 55) (.s 58) (.c (.pure (.bool false)))⟩,
    ⟨some 6, none, .mov (.s 59)⟩])
  .ret)))))
theorem k18 : (Try.f18.body.bind fun c => cCode Try.prog Try.f18.ntmps RCs c) = some c18 := by kernel_rfl
theorem h18 : (Try.f18.name == "runtime.NumGoroutine") = false := by kernel_rfl
theorem r18 : resC Try.prog Try.f18.results.toList = some [.t 6] := by kernel_rfl
theorem a18 {args : List S} {H : Heap} {K : S → Heap → Prop} (hn : args.length ≤ 60) (h : aWx Try.prog H.length c18 (PostX [.t 6] K) (argEnv 0 args) H) : CallA Try.prog 18 args H K :=
  callA_of_x mixed Try.func18 h18 k18 r18 (by rw [Try.ntmps18]; exact hn) h
theorem q18 {vs ds : List V} (hn : vs.length ≤ 60) (h : aWx Try.prog 0 c18 (PostX [.t 6] (Gives ds)) (argEnv 0 (vs.map .pure)) []) : FnQ Try.prog 18 vs ds :=
  fnQ_of_call (a18 (by simpa using hn) h)

def farG (g : Gl) : Bool := far g.adv || far g.dx || far g.dy
def farsS (v : Sp) : Bool := fars v.f v.t v.v
def farsP (p : Pr) : Bool := farsS p.x || farsS p.y
def farSub (s : Sub) : Bool := s.values.any farsS || s.pairs.any farsP
def sumsF (k : Lk) (ls : List Gl) : Bool := !(ls.any farG || k.subs.any farSub)
theorem farsS_q (v : Sp) : FnQ Try.prog 21 [sp v] [.bool (farsS v)] := fars_q v.f v.t v.v
theorem sums_q (k : Lk) (ls : List Gl) : FnQ Try.prog 75 [lk k, .sl (ls.map gl)] [.bool (sumsF k ls)] := by
  refine q75 (by simp) ?_
  unfold c75
  simp -implicitDefEqProofs only [*, vmp,↓vmd,Env.get,putD,argEnv,List.map,x00,x01,x02,x03,x04,x05,x06,x07,List.take,List.drop,x08,x09,x0a,x0b,List.isEmpty,↓reduceIte,reduceCtorEq,Nat.reduceEqDiff,Nat.reduceAdd,Nat.reduceLeDiff,x0c,Int.reduceNeg,Nat.reduceMul,Nat.reduceSub,x0d,x0e,x0f,x0g,x0h,x0i,x0j,x0k,Int.reduceEq,Int.reduceLT,Int.reduceLE,Int.reduceToNat,Int.cast_ofNat_Int,List.reduceReplicate]
  refine loop_at (T := Nat) (fun i => [(5, .pure (I i)), (1, .pure (.sl (ls.map gl))), (2, .ptr 0 0 0)]) (fun _ => [⟨[.pure (lk k)], 4, .live⟩]) (fun i => i ≤ ls.length ∧ (ls.drop i).any farG = ls.any farG) (fun i => ls.length - i)
    0 [0] (by simp) rfl ⟨by simp, by simp⟩ (by simp -implicitDefEqProofs only [kpp,Env.get,x01,x00,x02,x03,List.map,x08,x09,↓reduceIte,reduceCtorEq,Nat.reduceEqDiff,Nat.reduceLeDiff,Nat.reduceLT,Nat.reduceAdd,x0j,x0l,x0m,x0n,x0o,Int.cast_ofNat_Int,x0p,x0i,x07,x06,x0q,x0r,x0s,x0t,x0d,x0u]) (by simp -implicitDefEqProofs only [kpp,Env.get,x01,x00,x02,x03,List.map,x08,x09,↓reduceIte,reduceCtorEq,Nat.reduceEqDiff,Nat.reduceLeDiff,Nat.reduceLT,Nat.reduceAdd,x0j,x0l,x0m,x0n,x0o,Int.cast_ofNat_Int,x0p,x0i,x07,x06,x0q,x0r,x0s,x0t,x0d,x0u]) ?_
  rintro i ⟨hi, hr⟩
  unfold c75_7
  simp -implicitDefEqProofs only [vmp,↓vmd,Env.get,putD,argEnv,List.map,x00,x01,x02,x03,x04,x05,x06,x07,List.take,List.drop,x08,x09,x0a,x0b,List.isEmpty,↓reduceIte,reduceCtorEq,Nat.reduceEqDiff,Nat.reduceAdd,Nat.reduceLeDiff,x0c,Int.reduceNeg,Nat.reduceMul,Nat.reduceSub,x0d,x0e,x0f,x0g,x0h,x0i,x0j,x0k,Int.reduceEq,Int.reduceLT,Int.reduceLE,Int.reduceToNat,Int.cast_ofNat_Int,List.reduceReplicate]
  refine onIf_intro fun hlen => ?_
  simp -implicitDefEqProofs only [vmp,↓vmd,Env.get,putD,argEnv,List.map,x00,x01,x02,x03,x04,x05,x06,x07,List.take,List.drop,x08,x09,x0a,x0b,List.isEmpty,↓reduceIte,reduceCtorEq,Nat.reduceEqDiff,Nat.reduceAdd,Nat.reduceLeDiff,x0c,Int.reduceNeg,Nat.reduceMul,Nat.reduceSub,x0d,x0e,x0f,x0g,x0h,x0i,x0j,x0k,Int.reduceEq,Int.reduceLT,Int.reduceLE,Int.reduceToNat,Int.cast_ofNat_Int,List.reduceReplicate]
  refine onB_dec (fun h1 => ?_) (fun h1 => ?_)
  · have hlt : i < ls.length := by omega
    rw [drop_at hlt, List.any_cons] at hr
    have yes : farG ls[i] = true → sumsF k ls = false := fun e => by rw [sumsF, ← hr, e]; simp
    simp -implicitDefEqProofs only [h1, map_at hlt, Int.natCast_nonneg, vmp,↓vmd,Env.get,putD,argEnv,List.map,x00,x01,x02,x03,x04,x05,x06,x07,List.take,List.drop,x08,x09,x0a,x0b,List.isEmpty,↓reduceIte,reduceCtorEq,Nat.reduceEqDiff,Nat.reduceAdd,Nat.reduceLeDiff,x0c,Int.reduceNeg,Nat.reduceMul,Nat.reduceSub,x0d,x0e,x0f,x0g,x0h,x0i,x0j,x0k,Int.reduceEq,Int.reduceLT,Int.reduceLE,Int.reduceToNat,Int.cast_ofNat_Int,List.reduceReplicate]
    refine onC_q (far_q _) rfl ?_
    first | refine envO (by simp -implicitDefEqProofs only [vmp,↓vmd,Env.get,putD,argEnv,List.map,x00,x01,x02,x03,x04,x05,x06,x07,List.take,List.drop,x08,x09,x0a,x0b,List.isEmpty,↓reduceIte,reduceCtorEq,Nat.reduceEqDiff,Nat.reduceAdd,Nat.reduceLeDiff,x0c,Int.reduceNeg,Nat.reduceMul,Nat.reduceSub,x0d,x0e,x0f,x0g,x0h,x0i,x0j,x0k,Int.reduceEq,Int.reduceLT,Int.reduceLE,Int.reduceToNat,Int.cast_ofNat_Int,List.reduceReplicate]; rfl) ?_ | refine envQ (by simp -implicitDefEqProofs only [vmp,↓vmd,Env.get,putD,argEnv,List.map,x00,x01,x02,x03,x04,x05,x06,x07,List.take,List.drop,x08,x09,x0a,x0b,List.isEmpty,↓reduceIte,reduceCtorEq,Nat.reduceEqDiff,Nat.reduceAdd,Nat.reduceLeDiff,x0c,Int.reduceNeg,Nat.reduceMul,Nat.reduceSub,x0d,x0e,x0f,x0g,x0h,x0i,x0j,x0k,Int.reduceEq,Int.reduceLT,Int.reduceLE,Int.reduceToNat,Int.cast_ofNat_Int,List.reduceReplicate]; rfl) ?_
    simp -implicitDefEqProofs only [vmp,↓vmd,Env.get,putD,argEnv,List.map,x00,x01,x02,x03,x04,x05,x06,x07,List.take,List.drop,x08,x09,x0a,x0b,List.isEmpty,↓reduceIte,reduceCtorEq,Nat.reduceEqDiff,Nat.reduceAdd,Nat.reduceLeDiff,x0c,Int.reduceNeg,Nat.reduceMul,Nat.reduceSub,x0d,x0e,x0f,x0g,x0h,x0i,x0j,x0k,Int.reduceEq,Int.reduceLT,Int.reduceLE,Int.reduceToNat,Int.cast_ofNat_Int,List.reduceReplicate]
    refine onB_intro (fun w1 => ?_) (fun w1 => ?_)
    · simp -implicitDefEqProofs only [w1, vmp,↓vmd,Env.get,putD,argEnv,List.map,x00,x01,x02,x03,x04,x05,x06,x07,List.take,List.drop,x08,x09,x0a,x0b,List.isEmpty,↓reduceIte,reduceCtorEq,Nat.reduceEqDiff,Nat.reduceAdd,Nat.reduceLeDiff,x0c,Int.reduceNeg,Nat.reduceMul,Nat.reduceSub,x0d,x0e,x0f,x0g,x0h,x0i,x0j,x0k,Int.reduceEq,Int.reduceLT,Int.reduceLE,Int.reduceToNat,Int.cast_ofNat_Int,List.reduceReplicate]
      rw [yes (by simp [farG, w1])]
      exact gives_pure
    simp -implicitDefEqProofs only [w1, map_at hlt, Int.natCast_nonneg, vmp,↓vmd,Env.get,putD,argEnv,List.map,x00,x01,x02,x03,x04,x05,x06,x07,List.take,List.drop,x08,x09,x0a,x0b,List.isEmpty,↓reduceIte,reduceCtorEq,Nat.reduceEqDiff,Nat.reduceAdd,Nat.reduceLeDiff,x0c,Int.reduceNeg,Nat.reduceMul,Nat.reduceSub,x0d,x0e,x0f,x0g,x0h,x0i,x0j,x0k,Int.reduceEq,Int.reduceLT,Int.reduceLE,Int.reduceToNat,Int.cast_ofNat_Int,List.reduceReplicate]
    refine onC_q (far_q _) rfl ?_
    first | refine envO (by simp -implicitDefEqProofs only [vmp,↓vmd,Env.get,putD,argEnv,List.map,x00,x01,x02,x03,x04,x05,x06,x07,List.take,List.drop,x08,x09,x0a,x0b,List.isEmpty,↓reduceIte,reduceCtorEq,Nat.reduceEqDiff,Nat.reduceAdd,Nat.reduceLeDiff,x0c,Int.reduceNeg,Nat.reduceMul,Nat.reduceSub,x0d,x0e,x0f,x0g,x0h,x0i,x0j,x0k,Int.reduceEq,Int.reduceLT,Int.reduceLE,Int.reduceToNat,Int.cast_ofNat_Int,List.reduceReplicate]; rfl) ?_ | refine envQ (by simp -implicitDefEqProofs only [vmp,↓vmd,Env.get,putD,argEnv,List.map,x00,x01,x02,x03,x04,x05,x06,x07,List.take,List.drop,x08,x09,x0a,x0b,List.isEmpty,↓reduceIte,reduceCtorEq,Nat.reduceEqDiff,Nat.reduceAdd,Nat.reduceLeDiff,x0c,Int.reduceNeg,Nat.reduceMul,Nat.reduceSub,x0d,x0e,x0f,x0g,x0h,x0i,x0j,x0k,Int.reduceEq,Int.reduceLT,Int.reduceLE,Int.reduceToNat,Int.cast_ofNat_Int,List.reduceReplicate]; rfl) ?_
    simp -implicitDefEqProofs only [w1, vmp,↓vmd,Env.get,putD,argEnv,List.map,x00,x01,x02,x03,x04,x05,x06,x07,List.take,List.drop,x08,x09,x0a,x0b,List.isEmpty,↓reduceIte,reduceCtorEq,Nat.reduceEqDiff,Nat.reduceAdd,Nat.reduceLeDiff,x0c,Int.reduceNeg,Nat.reduceMul,Nat.reduceSub,x0d,x0e,x0f,x0g,x0h,x0i,x0j,x0k,Int.reduceEq,Int.reduceLT,Int.reduceLE,Int.reduceToNat,Int.cast_ofNat_Int,List.reduceReplicate]
    refine onB_intro (fun w2 => ?_) (fun w2 => ?_)
    · simp -implicitDefEqProofs only [w2, vmp,↓vmd,Env.get,putD,argEnv,List.map,x00,x01,x02,x03,x04,x05,x06,x07,List.take,List.drop,x08,x09,x0a,x0b,List.isEmpty,↓reduceIte,reduceCtorEq,Nat.reduceEqDiff,Nat.reduceAdd,Nat.reduceLeDiff,x0c,Int.reduceNeg,Nat.reduceMul,Nat.reduceSub,x0d,x0e,x0f,x0g,x0h,x0i,x0j,x0k,Int.reduceEq,Int.reduceLT,Int.reduceLE,Int.reduceToNat,Int.cast_ofNat_Int,List.reduceReplicate]
      rw [yes (by simp [farG, w2])]
      exact gives_pure
    simp -implicitDefEqProofs only [w2, map_at hlt, Int.natCast_nonneg, vmp,↓vmd,Env.get,putD,argEnv,List.map,x00,x01,x02,x03,x04,x05,x06,x07,List.take,List.drop,x08,x09,x0a,x0b,List.isEmpty,↓reduceIte,reduceCtorEq,Nat.reduceEqDiff,Nat.reduceAdd,Nat.reduceLeDiff,x0c,Int.reduceNeg,Nat.reduceMul,Nat.reduceSub,x0d,x0e,x0f,x0g,x0h,x0i,x0j,x0k,Int.reduceEq,Int.reduceLT,Int.reduceLE,Int.reduceToNat,Int.cast_ofNat_Int,List.reduceReplicate]
    refine onC_q (far_q _) rfl ?_
    first | refine envO (by simp -implicitDefEqProofs only [vmp,↓vmd,Env.get,putD,argEnv,List.map,x00,x01,x02,x03,x04,x05,x06,x07,List.take,List.drop,x08,x09,x0a,x0b,List.isEmpty,↓reduceIte,reduceCtorEq,Nat.reduceEqDiff,Nat.reduceAdd,Nat.reduceLeDiff,x0c,Int.reduceNeg,Nat.reduceMul,Nat.reduceSub,x0d,x0e,x0f,x0g,x0h,x0i,x0j,x0k,Int.reduceEq,Int.reduceLT,Int.reduceLE,Int.reduceToNat,Int.cast_ofNat_Int,List.reduceReplicate]; rfl) ?_ | refine envQ (by simp -implicitDefEqProofs only [vmp,↓vmd,Env.get,putD,argEnv,List.map,x00,x01,x02,x03,x04,x05,x06,x07,List.take,List.drop,x08,x09,x0a,x0b,List.isEmpty,↓reduceIte,reduceCtorEq,Nat.reduceEqDiff,Nat.reduceAdd,Nat.reduceLeDiff,x0c,Int.reduceNeg,Nat.reduceMul,Nat.reduceSub,x0d,x0e,x0f,x0g,x0h,x0i,x0j,x0k,Int.reduceEq,Int.reduceLT,Int.reduceLE,Int.reduceToNat,Int.cast_ofNat_Int,List.reduceReplicate]; rfl) ?_
    simp -implicitDefEqProofs only [w2, vmp,↓vmd,Env.get,putD,argEnv,List.map,x00,x01,x02,x03,x04,x05,x06,x07,List.take,List.drop,x08,x09,x0a,x0b,List.isEmpty,↓reduceIte,reduceCtorEq,Nat.reduceEqDiff,Nat.reduceAdd,Nat.reduceLeDiff,x0c,Int.reduceNeg,Nat.reduceMul,Nat.reduceSub,x0d,x0e,x0f,x0g,x0h,x0i,x0j,x0k,Int.reduceEq,Int.reduceLT,Int.reduceLE,Int.reduceToNat,Int.cast_ofNat_Int,List.reduceReplicate]
    refine onB_intro (fun w3 => ?_) (fun w3 => ?_)
    · simp -implicitDefEqProofs only [w3, vmp,↓vmd,Env.get,putD,argEnv,List.map,x00,x01,x02,x03,x04,x05,x06,x07,List.take,List.drop,x08,x09,x0a,x0b,List.isEmpty,↓reduceIte,reduceCtorEq,Nat.reduceEqDiff,Nat.reduceAdd,Nat.reduceLeDiff,x0c,Int.reduceNeg,Nat.reduceMul,Nat.reduceSub,x0d,x0e,x0f,x0g,x0h,x0i,x0j,x0k,Int.reduceEq,Int.reduceLT,Int.reduceLE,Int.reduceToNat,Int.cast_ofNat_Int,List.reduceReplicate]
      rw [yes (by simp [farG, w3])]
      exact gives_pure
    · simp -implicitDefEqProofs only [w3, vmp,↓vmd,Env.get,putD,argEnv,List.map,x00,x01,x02,x03,x04,x05,x06,x07,List.take,List.drop,x08,x09,x0a,x0b,List.isEmpty,↓reduceIte,reduceCtorEq,Nat.reduceEqDiff,Nat.reduceAdd,Nat.reduceLeDiff,x0c,Int.reduceNeg,Nat.reduceMul,Nat.reduceSub,x0d,x0e,x0f,x0g,x0h,x0i,x0j,x0k,Int.reduceEq,Int.reduceLT,Int.reduceLE,Int.reduceToNat,Int.cast_ofNat_Int,List.reduceReplicate]
      refine onBk_to (i + 1) [0] (by simp) rfl (by omega) ⟨hlt, by rw [← hr, show farG ls[i] = false by simp [farG, w1, w2, w3], Bool.false_or]⟩ (by simp -implicitDefEqProofs only [next_at hlt (by omega), kpp,Env.get,x01,x00,x02,x03,List.map,x08,x09,↓reduceIte,reduceCtorEq,Nat.reduceEqDiff,Nat.reduceLeDiff,Nat.reduceLT,Nat.reduceAdd,x0j,x0l,x0m,x0n,x0o,Int.cast_ofNat_Int,x0p,x0i,x07,x06,x0q,x0r,x0s,x0t,x0d,x0u]) (by simp -implicitDefEqProofs only [kpp,Env.get,x01,x00,x02,x03,List.map,x08,x09,↓reduceIte,reduceCtorEq,Nat.reduceEqDiff,Nat.reduceLeDiff,Nat.reduceLT,Nat.reduceAdd,x0j,x0l,x0m,x0n,x0o,Int.cast_ofNat_Int,x0p,x0i,x07,x06,x0q,x0r,x0s,x0t,x0d,x0u])
  · simp -implicitDefEqProofs only [h1, vmp,↓vmd,Env.get,putD,argEnv,List.map,x00,x01,x02,x03,x04,x05,x06,x07,List.take,List.drop,x08,x09,x0a,x0b,List.isEmpty,↓reduceIte,reduceCtorEq,Nat.reduceEqDiff,Nat.reduceAdd,Nat.reduceLeDiff,x0c,Int.reduceNeg,Nat.reduceMul,Nat.reduceSub,x0d,x0e,x0f,x0g,x0h,x0i,x0j,x0k,Int.reduceEq,Int.reduceLT,Int.reduceLE,Int.reduceToNat,Int.cast_ofNat_Int,List.reduceReplicate]
    rw [List.drop_of_length_le (by omega)] at hr
    unfold c75_6
    simp -implicitDefEqProofs only [vmp,↓vmd,Env.get,putD,argEnv,List.map,x00,x01,x02,x03,x04,x05,x06,x07,List.take,List.drop,x08,x09,x0a,x0b,List.isEmpty,↓reduceIte,reduceCtorEq,Nat.reduceEqDiff,Nat.reduceAdd,Nat.reduceLeDiff,x0c,Int.reduceNeg,Nat.reduceMul,Nat.reduceSub,x0d,x0e,x0f,x0g,x0h,x0i,x0j,x0k,Int.reduceEq,Int.reduceLT,Int.reduceLE,Int.reduceToNat,Int.cast_ofNat_Int,List.reduceReplicate]
    refine loop_at (T := Nat) (fun j => [(6, .pure (I j)), (2, .ptr 0 0 0)]) (fun _ => [⟨[.pure (lk k)], 4, .live⟩]) (fun j => j ≤ k.subs.length ∧ (k.subs.drop j).any farSub = k.subs.any farSub) (fun j => k.subs.length - j)
      0 [0] (by simp) rfl ⟨by simp, by simp⟩ (by simp -implicitDefEqProofs only [kpp,Env.get,x01,x00,x02,x03,List.map,x08,x09,↓reduceIte,reduceCtorEq,Nat.reduceEqDiff,Nat.reduceLeDiff,Nat.reduceLT,Nat.reduceAdd,x0j,x0l,x0m,x0n,x0o,Int.cast_ofNat_Int,x0p,x0i,x07,x06,x0q,x0r,x0s,x0t,x0d,x0u]) (by simp -implicitDefEqProofs only [kpp,Env.get,x01,x00,x02,x03,List.map,x08,x09,↓reduceIte,reduceCtorEq,Nat.reduceEqDiff,Nat.reduceLeDiff,Nat.reduceLT,Nat.reduceAdd,x0j,x0l,x0m,x0n,x0o,Int.cast_ofNat_Int,x0p,x0i,x07,x06,x0q,x0r,x0s,x0t,x0d,x0u]) ?_
    rintro j ⟨hj, hq⟩
    unfold c75_5
    simp -implicitDefEqProofs only [vmp,↓vmd,Env.get,putD,argEnv,List.map,x00,x01,x02,x03,x04,x05,x06,x07,List.take,List.drop,x08,x09,x0a,x0b,List.isEmpty,↓reduceIte,reduceCtorEq,Nat.reduceEqDiff,Nat.reduceAdd,Nat.reduceLeDiff,x0c,Int.reduceNeg,Nat.reduceMul,Nat.reduceSub,x0d,x0e,x0f,x0g,x0h,x0i,x0j,x0k,Int.reduceEq,Int.reduceLT,Int.reduceLE,Int.reduceToNat,Int.cast_ofNat_Int,List.reduceReplicate]
    refine onIf_intro fun _ => ?_
    simp -implicitDefEqProofs only [vmp,↓vmd,Env.get,putD,argEnv,List.map,x00,x01,x02,x03,x04,x05,x06,x07,List.take,List.drop,x08,x09,x0a,x0b,List.isEmpty,↓reduceIte,reduceCtorEq,Nat.reduceEqDiff,Nat.reduceAdd,Nat.reduceLeDiff,x0c,Int.reduceNeg,Nat.reduceMul,Nat.reduceSub,x0d,x0e,x0f,x0g,x0h,x0i,x0j,x0k,Int.reduceEq,Int.reduceLT,Int.reduceLE,Int.reduceToNat,Int.cast_ofNat_Int,List.reduceReplicate]
    refine onB_dec (fun h2 => ?_) (fun h2 => ?_)
    · have hlt : j < k.subs.length := by omega
      rw [drop_at hlt, List.any_cons] at hq
      have yes : farSub k.subs[j] = true → sumsF k ls = false := fun e => by rw [sumsF, ← hq, e]; simp
      simp -implicitDefEqProofs only [h2, vmp,↓vmd,Env.get,putD,argEnv,List.map,x00,x01,x02,x03,x04,x05,x06,x07,List.take,List.drop,x08,x09,x0a,x0b,List.isEmpty,↓reduceIte,reduceCtorEq,Nat.reduceEqDiff,Nat.reduceAdd,Nat.reduceLeDiff,x0c,Int.reduceNeg,Nat.reduceMul,Nat.reduceSub,x0d,x0e,x0f,x0g,x0h,x0i,x0j,x0k,Int.reduceEq,Int.reduceLT,Int.reduceLE,Int.reduceToNat,Int.cast_ofNat_Int,List.reduceReplicate]
      refine loop_at (T := Nat) (fun n => [(7, .pure (I n)), (6, .pure (I j)), (2, .ptr 0 0 0)]) (fun _ => [⟨[.pure (lk k)], 4, .live⟩]) (fun n => n ≤ k.subs[j].values.length ∧ (k.subs[j].values.drop n).any farsS = k.subs[j].values.any farsS) (fun n => k.subs[j].values.length - n)
        0 [0] (by simp) rfl ⟨by simp, by simp⟩ (by simp -implicitDefEqProofs only [kpp,Env.get,x01,x00,x02,x03,List.map,x08,x09,↓reduceIte,reduceCtorEq,Nat.reduceEqDiff,Nat.reduceLeDiff,Nat.reduceLT,Nat.reduceAdd,x0j,x0l,x0m,x0n,x0o,Int.cast_ofNat_Int,x0p,x0i,x07,x06,x0q,x0r,x0s,x0t,x0d,x0u]) (by simp -implicitDefEqProofs only [kpp,Env.get,x01,x00,x02,x03,List.map,x08,x09,↓reduceIte,reduceCtorEq,Nat.reduceEqDiff,Nat.reduceLeDiff,Nat.reduceLT,Nat.reduceAdd,x0j,x0l,x0m,x0n,x0o,Int.cast_ofNat_Int,x0p,x0i,x07,x06,x0q,x0r,x0s,x0t,x0d,x0u]) ?_
      rintro n ⟨hn, hv⟩
      unfold c75_4
      simp -implicitDefEqProofs only [map_at hlt, Int.natCast_nonneg, vmp,↓vmd,Env.get,putD,argEnv,List.map,x00,x01,x02,x03,x04,x05,x06,x07,List.take,List.drop,x08,x09,x0a,x0b,List.isEmpty,↓reduceIte,reduceCtorEq,Nat.reduceEqDiff,Nat.reduceAdd,Nat.reduceLeDiff,x0c,Int.reduceNeg,Nat.reduceMul,Nat.reduceSub,x0d,x0e,x0f,x0g,x0h,x0i,x0j,x0k,Int.reduceEq,Int.reduceLT,Int.reduceLE,Int.reduceToNat,Int.cast_ofNat_Int,List.reduceReplicate]
      refine onIf_intro fun _ => ?_
      simp -implicitDefEqProofs only [vmp,↓vmd,Env.get,putD,argEnv,List.map,x00,x01,x02,x03,x04,x05,x06,x07,List.take,List.drop,x08,x09,x0a,x0b,List.isEmpty,↓reduceIte,reduceCtorEq,Nat.reduceEqDiff,Nat.reduceAdd,Nat.reduceLeDiff,x0c,Int.reduceNeg,Nat.reduceMul,Nat.reduceSub,x0d,x0e,x0f,x0g,x0h,x0i,x0j,x0k,Int.reduceEq,Int.reduceLT,Int.reduceLE,Int.reduceToNat,Int.cast_ofNat_Int,List.reduceReplicate]
      refine onB_dec (fun h3 => ?_) (fun h3 => ?_)
      · have hlt2 : n < k.subs[j].values.length := by omega
        rw [drop_at hlt2, List.any_cons] at hv
        simp -implicitDefEqProofs only [h3, map_at hlt, map_at hlt2, Int.natCast_nonneg, vmp,↓vmd,Env.get,putD,argEnv,List.map,x00,x01,x02,x03,x04,x05,x06,x07,List.take,List.drop,x08,x09,x0a,x0b,List.isEmpty,↓reduceIte,reduceCtorEq,Nat.reduceEqDiff,Nat.reduceAdd,Nat.reduceLeDiff,x0c,Int.reduceNeg,Nat.reduceMul,Nat.reduceSub,x0d,x0e,x0f,x0g,x0h,x0i,x0j,x0k,Int.reduceEq,Int.reduceLT,Int.reduceLE,Int.reduceToNat,Int.cast_ofNat_Int,List.reduceReplicate]
        refine onC_q (farsS_q _) rfl ?_
        first | refine envO (by simp -implicitDefEqProofs only [vmp,↓vmd,Env.get,putD,argEnv,List.map,x00,x01,x02,x03,x04,x05,x06,x07,List.take,List.drop,x08,x09,x0a,x0b,List.isEmpty,↓reduceIte,reduceCtorEq,Nat.reduceEqDiff,Nat.reduceAdd,Nat.reduceLeDiff,x0c,Int.reduceNeg,Nat.reduceMul,Nat.reduceSub,x0d,x0e,x0f,x0g,x0h,x0i,x0j,x0k,Int.reduceEq,Int.reduceLT,Int.reduceLE,Int.reduceToNat,Int.cast_ofNat_Int,List.reduceReplicate]; rfl) ?_ | refine envQ (by simp -implicitDefEqProofs only [vmp,↓vmd,Env.get,putD,argEnv,List.map,x00,x01,x02,x03,x04,x05,x06,x07,List.take,List.drop,x08,x09,x0a,x0b,List.isEmpty,↓reduceIte,reduceCtorEq,Nat.reduceEqDiff,Nat.reduceAdd,Nat.reduceLeDiff,x0c,Int.reduceNeg,Nat.reduceMul,Nat.reduceSub,x0d,x0e,x0f,x0g,x0h,x0i,x0j,x0k,Int.reduceEq,Int.reduceLT,Int.reduceLE,Int.reduceToNat,Int.cast_ofNat_Int,List.reduceReplicate]; rfl) ?_
        simp -implicitDefEqProofs only [vmp,↓vmd,Env.get,putD,argEnv,List.map,x00,x01,x02,x03,x04,x05,x06,x07,List.take,List.drop,x08,x09,x0a,x0b,List.isEmpty,↓reduceIte,reduceCtorEq,Nat.reduceEqDiff,Nat.reduceAdd,Nat.reduceLeDiff,x0c,Int.reduceNeg,Nat.reduceMul,Nat.reduceSub,x0d,x0e,x0f,x0g,x0h,x0i,x0j,x0k,Int.reduceEq,Int.reduceLT,Int.reduceLE,Int.reduceToNat,Int.cast_ofNat_Int,List.reduceReplicate]
        refine onB_intro (fun w1 => ?_) (fun w1 => ?_)
        · simp -implicitDefEqProofs only [w1, vmp,↓vmd,Env.get,putD,argEnv,List.map,x00,x01,x02,x03,x04,x05,x06,x07,List.take,List.drop,x08,x09,x0a,x0b,List.isEmpty,↓reduceIte,reduceCtorEq,Nat.reduceEqDiff,Nat.reduceAdd,Nat.reduceLeDiff,x0c,Int.reduceNeg,Nat.reduceMul,Nat.reduceSub,x0d,x0e,x0f,x0g,x0h,x0i,x0j,x0k,Int.reduceEq,Int.reduceLT,Int.reduceLE,Int.reduceToNat,Int.cast_ofNat_Int,List.reduceReplicate]
          rw [yes (by rw [farSub, ← hv, w1]; simp)]
          exact gives_pure
        · simp -implicitDefEqProofs only [w1, vmp,↓vmd,Env.get,putD,argEnv,List.map,x00,x01,x02,x03,x04,x05,x06,x07,List.take,List.drop,x08,x09,x0a,x0b,List.isEmpty,↓reduceIte,reduceCtorEq,Nat.reduceEqDiff,Nat.reduceAdd,Nat.reduceLeDiff,x0c,Int.reduceNeg,Nat.reduceMul,Nat.reduceSub,x0d,x0e,x0f,x0g,x0h,x0i,x0j,x0k,Int.reduceEq,Int.reduceLT,Int.reduceLE,Int.reduceToNat,Int.cast_ofNat_Int,List.reduceReplicate]
          refine onBk_to (n + 1) [0] (by simp) rfl (by omega) ⟨hlt2, by rw [← hv, w1, Bool.false_or]⟩ (by simp -implicitDefEqProofs only [next_at hlt2 (by omega), kpp,Env.get,x01,x00,x02,x03,List.map,x08,x09,↓reduceIte,reduceCtorEq,Nat.reduceEqDiff,Nat.reduceLeDiff,Nat.reduceLT,Nat.reduceAdd,x0j,x0l,x0m,x0n,x0o,Int.cast_ofNat_Int,x0p,x0i,x07,x06,x0q,x0r,x0s,x0t,x0d,x0u]) (by simp -implicitDefEqProofs only [kpp,Env.get,x01,x00,x02,x03,List.map,x08,x09,↓reduceIte,reduceCtorEq,Nat.reduceEqDiff,Nat.reduceLeDiff,Nat.reduceLT,Nat.reduceAdd,x0j,x0l,x0m,x0n,x0o,Int.cast_ofNat_Int,x0p,x0i,x07,x06,x0q,x0r,x0s,x0t,x0d,x0u])
      · simp -implicitDefEqProofs only [h3, vmp,↓vmd,Env.get,putD,argEnv,List.map,x00,x01,x02,x03,x04,x05,x06,x07,List.take,List.drop,x08,x09,x0a,x0b,List.isEmpty,↓reduceIte,reduceCtorEq,Nat.reduceEqDiff,Nat.reduceAdd,Nat.reduceLeDiff,x0c,Int.reduceNeg,Nat.reduceMul,Nat.reduceSub,x0d,x0e,x0f,x0g,x0h,x0i,x0j,x0k,Int.reduceEq,Int.reduceLT,Int.reduceLE,Int.reduceToNat,Int.cast_ofNat_Int,List.reduceReplicate]
        rw [List.drop_of_length_le (by omega)] at hv
        unfold c75_3
        simp -implicitDefEqProofs only [vmp,↓vmd,Env.get,putD,argEnv,List.map,x00,x01,x02,x03,x04,x05,x06,x07,List.take,List.drop,x08,x09,x0a,x0b,List.isEmpty,↓reduceIte,reduceCtorEq,Nat.reduceEqDiff,Nat.reduceAdd,Nat.reduceLeDiff,x0c,Int.reduceNeg,Nat.reduceMul,Nat.reduceSub,x0d,x0e,x0f,x0g,x0h,x0i,x0j,x0k,Int.reduceEq,Int.reduceLT,Int.reduceLE,Int.reduceToNat,Int.cast_ofNat_Int,List.reduceReplicate]
        refine loop_at (T := Nat) (fun n => [(8, .pure (I n)), (6, .pure (I j)), (2, .ptr 0 0 0)]) (fun _ => [⟨[.pure (lk k)], 4, .live⟩]) (fun n => n ≤ k.subs[j].pairs.length ∧ (k.subs[j].pairs.drop n).any farsP = k.subs[j].pairs.any farsP) (fun n => k.subs[j].pairs.length - n)
          0 [0] (by simp) rfl ⟨by simp, by simp⟩ (by simp -implicitDefEqProofs only [kpp,Env.get,x01,x00,x02,x03,List.map,x08,x09,↓reduceIte,reduceCtorEq,Nat.reduceEqDiff,Nat.reduceLeDiff,Nat.reduceLT,Nat.reduceAdd,x0j,x0l,x0m,x0n,x0o,Int.cast_ofNat_Int,x0p,x0i,x07,x06,x0q,x0r,x0s,x0t,x0d,x0u]) (by simp -implicitDefEqProofs only [kpp,Env.get,x01,x00,x02,x03,List.map,x08,x09,↓reduceIte,reduceCtorEq,Nat.reduceEqDiff,Nat.reduceLeDiff,Nat.reduceLT,Nat.reduceAdd,x0j,x0l,x0m,x0n,x0o,Int.cast_ofNat_Int,x0p,x0i,x07,x06,x0q,x0r,x0s,x0t,x0d,x0u]) ?_
        rintro m ⟨hm, hp⟩
        unfold c75_2
        simp -implicitDefEqProofs only [map_at hlt, Int.natCast_nonneg, vmp,↓vmd,Env.get,putD,argEnv,List.map,x00,x01,x02,x03,x04,x05,x06,x07,List.take,List.drop,x08,x09,x0a,x0b,List.isEmpty,↓reduceIte,reduceCtorEq,Nat.reduceEqDiff,Nat.reduceAdd,Nat.reduceLeDiff,x0c,Int.reduceNeg,Nat.reduceMul,Nat.reduceSub,x0d,x0e,x0f,x0g,x0h,x0i,x0j,x0k,Int.reduceEq,Int.reduceLT,Int.reduceLE,Int.reduceToNat,Int.cast_ofNat_Int,List.reduceReplicate]
        refine onIf_intro fun _ => ?_
        simp -implicitDefEqProofs only [vmp,↓vmd,Env.get,putD,argEnv,List.map,x00,x01,x02,x03,x04,x05,x06,x07,List.take,List.drop,x08,x09,x0a,x0b,List.isEmpty,↓reduceIte,reduceCtorEq,Nat.reduceEqDiff,Nat.reduceAdd,Nat.reduceLeDiff,x0c,Int.reduceNeg,Nat.reduceMul,Nat.reduceSub,x0d,x0e,x0f,x0g,x0h,x0i,x0j,x0k,Int.reduceEq,Int.reduceLT,Int.reduceLE,Int.reduceToNat,Int.cast_ofNat_Int,List.reduceReplicate]
        refine onB_dec (fun h4 => ?_) (fun h4 => ?_)
        · have hlt2 : m < k.subs[j].pairs.length := by omega
          rw [drop_at hlt2, List.any_cons] at hp
          simp -implicitDefEqProofs only [h4, map_at hlt, map_at hlt2, Int.natCast_nonneg, vmp,↓vmd,Env.get,putD,argEnv,List.map,x00,x01,x02,x03,x04,x05,x06,x07,List.take,List.drop,x08,x09,x0a,x0b,List.isEmpty,↓reduceIte,reduceCtorEq,Nat.reduceEqDiff,Nat.reduceAdd,Nat.reduceLeDiff,x0c,Int.reduceNeg,Nat.reduceMul,Nat.reduceSub,x0d,x0e,x0f,x0g,x0h,x0i,x0j,x0k,Int.reduceEq,Int.reduceLT,Int.reduceLE,Int.reduceToNat,Int.cast_ofNat_Int,List.reduceReplicate]
          refine onC_q (farsS_q k.subs[j].pairs[m].x) rfl ?_
          first | refine envO (by simp -implicitDefEqProofs only [vmp,↓vmd,Env.get,putD,argEnv,List.map,x00,x01,x02,x03,x04,x05,x06,x07,List.take,List.drop,x08,x09,x0a,x0b,List.isEmpty,↓reduceIte,reduceCtorEq,Nat.reduceEqDiff,Nat.reduceAdd,Nat.reduceLeDiff,x0c,Int.reduceNeg,Nat.reduceMul,Nat.reduceSub,x0d,x0e,x0f,x0g,x0h,x0i,x0j,x0k,Int.reduceEq,Int.reduceLT,Int.reduceLE,Int.reduceToNat,Int.cast_ofNat_Int,List.reduceReplicate]; rfl) ?_ | refine envQ (by simp -implicitDefEqProofs only [vmp,↓vmd,Env.get,putD,argEnv,List.map,x00,x01,x02,x03,x04,x05,x06,x07,List.take,List.drop,x08,x09,x0a,x0b,List.isEmpty,↓reduceIte,reduceCtorEq,Nat.reduceEqDiff,Nat.reduceAdd,Nat.reduceLeDiff,x0c,Int.reduceNeg,Nat.reduceMul,Nat.reduceSub,x0d,x0e,x0f,x0g,x0h,x0i,x0j,x0k,Int.reduceEq,Int.reduceLT,Int.reduceLE,Int.reduceToNat,Int.cast_ofNat_Int,List.reduceReplicate]; rfl) ?_
          simp -implicitDefEqProofs only [vmp,↓vmd,Env.get,putD,argEnv,List.map,x00,x01,x02,x03,x04,x05,x06,x07,List.take,List.drop,x08,x09,x0a,x0b,List.isEmpty,↓reduceIte,reduceCtorEq,Nat.reduceEqDiff,Nat.reduceAdd,Nat.reduceLeDiff,x0c,Int.reduceNeg,Nat.reduceMul,Nat.reduceSub,x0d,x0e,x0f,x0g,x0h,x0i,x0j,x0k,Int.reduceEq,Int.reduceLT,Int.reduceLE,Int.reduceToNat,Int.cast_ofNat_Int,List.reduceReplicate]
          refine onB_intro (fun w1 => ?_) (fun w1 => ?_)
          · simp -implicitDefEqProofs only [w1, vmp,↓vmd,Env.get,putD,argEnv,List.map,x00,x01,x02,x03,x04,x05,x06,x07,List.take,List.drop,x08,x09,x0a,x0b,List.isEmpty,↓reduceIte,reduceCtorEq,Nat.reduceEqDiff,Nat.reduceAdd,Nat.reduceLeDiff,x0c,Int.reduceNeg,Nat.reduceMul,Nat.reduceSub,x0d,x0e,x0f,x0g,x0h,x0i,x0j,x0k,Int.reduceEq,Int.reduceLT,Int.reduceLE,Int.reduceToNat,Int.cast_ofNat_Int,List.reduceReplicate]
            rw [yes (by rw [farSub, ← hp, farsP, w1]; simp)]
            exact gives_pure
          simp -implicitDefEqProofs only [w1, map_at hlt, map_at hlt2, Int.natCast_nonneg, vmp,↓vmd,Env.get,putD,argEnv,List.map,x00,x01,x02,x03,x04,x05,x06,x07,List.take,List.drop,x08,x09,x0a,x0b,List.isEmpty,↓reduceIte,reduceCtorEq,Nat.reduceEqDiff,Nat.reduceAdd,Nat.reduceLeDiff,x0c,Int.reduceNeg,Nat.reduceMul,Nat.reduceSub,x0d,x0e,x0f,x0g,x0h,x0i,x0j,x0k,Int.reduceEq,Int.reduceLT,Int.reduceLE,Int.reduceToNat,Int.cast_ofNat_Int,List.reduceReplicate]
          refine onC_q (farsS_q k.subs[j].pairs[m].y) rfl ?_
          first | refine envO (by simp -implicitDefEqProofs only [vmp,↓vmd,Env.get,putD,argEnv,List.map,x00,x01,x02,x03,x04,x05,x06,x07,List.take,List.drop,x08,x09,x0a,x0b,List.isEmpty,↓reduceIte,reduceCtorEq,Nat.reduceEqDiff,Nat.reduceAdd,Nat.reduceLeDiff,x0c,Int.reduceNeg,Nat.reduceMul,Nat.reduceSub,x0d,x0e,x0f,x0g,x0h,x0i,x0j,x0k,Int.reduceEq,Int.reduceLT,Int.reduceLE,Int.reduceToNat,Int.cast_ofNat_Int,List.reduceReplicate]; rfl) ?_ | refine envQ (by simp -implicitDefEqProofs only [vmp,↓vmd,Env.get,putD,argEnv,List.map,x00,x01,x02,x03,x04,x05,x06,x07,List.take,List.drop,x08,x09,x0a,x0b,List.isEmpty,↓reduceIte,reduceCtorEq,Nat.reduceEqDiff,Nat.reduceAdd,Nat.reduceLeDiff,x0c,Int.reduceNeg,Nat.reduceMul,Nat.reduceSub,x0d,x0e,x0f,x0g,x0h,x0i,x0j,x0k,Int.reduceEq,Int.reduceLT,Int.reduceLE,Int.reduceToNat,Int.cast_ofNat_Int,List.reduceReplicate]; rfl) ?_
          simp -implicitDefEqProofs only [w1, vmp,↓vmd,Env.get,putD,argEnv,List.map,x00,x01,x02,x03,x04,x05,x06,x07,List.take,List.drop,x08,x09,x0a,x0b,List.isEmpty,↓reduceIte,reduceCtorEq,Nat.reduceEqDiff,Nat.reduceAdd,Nat.reduceLeDiff,x0c,Int.reduceNeg,Nat.reduceMul,Nat.reduceSub,x0d,x0e,x0f,x0g,x0h,x0i,x0j,x0k,Int.reduceEq,Int.reduceLT,Int.reduceLE,Int.reduceToNat,Int.cast_ofNat_Int,List.reduceReplicate]
          refine onB_intro (fun w2 => ?_) (fun w2 => ?_)
          · simp -implicitDefEqProofs only [w2, vmp,↓vmd,Env.get,putD,argEnv,List.map,x00,x01,x02,x03,x04,x05,x06,x07,List.take,List.drop,x08,x09,x0a,x0b,List.isEmpty,↓reduceIte,reduceCtorEq,Nat.reduceEqDiff,Nat.reduceAdd,Nat.reduceLeDiff,x0c,Int.reduceNeg,Nat.reduceMul,Nat.reduceSub,x0d,x0e,x0f,x0g,x0h,x0i,x0j,x0k,Int.reduceEq,Int.reduceLT,Int.reduceLE,Int.reduceToNat,Int.cast_ofNat_Int,List.reduceReplicate]
            rw [yes (by rw [farSub, ← hp, farsP, w2]; simp)]
            exact gives_pure
          · simp -implicitDefEqProofs only [w2, vmp,↓vmd,Env.get,putD,argEnv,List.map,x00,x01,x02,x03,x04,x05,x06,x07,List.take,List.drop,x08,x09,x0a,x0b,List.isEmpty,↓reduceIte,reduceCtorEq,Nat.reduceEqDiff,Nat.reduceAdd,Nat.reduceLeDiff,x0c,Int.reduceNeg,Nat.reduceMul,Nat.reduceSub,x0d,x0e,x0f,x0g,x0h,x0i,x0j,x0k,Int.reduceEq,Int.reduceLT,Int.reduceLE,Int.reduceToNat,Int.cast_ofNat_Int,List.reduceReplicate]
            refine onBk_to (m + 1) [0] (by simp) rfl (by omega) ⟨hlt2, by rw [← hp, farsP, w1, w2]; rfl⟩ (by simp -implicitDefEqProofs only [next_at hlt2 (by omega), kpp,Env.get,x01,x00,x02,x03,List.map,x08,x09,↓reduceIte,reduceCtorEq,Nat.reduceEqDiff,Nat.reduceLeDiff,Nat.reduceLT,Nat.reduceAdd,x0j,x0l,x0m,x0n,x0o,Int.cast_ofNat_Int,x0p,x0i,x07,x06,x0q,x0r,x0s,x0t,x0d,x0u]) (by simp -implicitDefEqProofs only [kpp,Env.get,x01,x00,x02,x03,List.map,x08,x09,↓reduceIte,reduceCtorEq,Nat.reduceEqDiff,Nat.reduceLeDiff,Nat.reduceLT,Nat.reduceAdd,x0j,x0l,x0m,x0n,x0o,Int.cast_ofNat_Int,x0p,x0i,x07,x06,x0q,x0r,x0s,x0t,x0d,x0u])
        · simp -implicitDefEqProofs only [h4, vmp,↓vmd,Env.get,putD,argEnv,List.map,x00,x01,x02,x03,x04,x05,x06,x07,List.take,List.drop,x08,x09,x0a,x0b,List.isEmpty,↓reduceIte,reduceCtorEq,Nat.reduceEqDiff,Nat.reduceAdd,Nat.reduceLeDiff,x0c,Int.reduceNeg,Nat.reduceMul,Nat.reduceSub,x0d,x0e,x0f,x0g,x0h,x0i,x0j,x0k,Int.reduceEq,Int.reduceLT,Int.reduceLE,Int.reduceToNat,Int.cast_ofNat_Int,List.reduceReplicate]
          rw [List.drop_of_length_le (by omega)] at hp
          unfold c75_1
          simp -implicitDefEqProofs only [vmp,↓vmd,Env.get,putD,argEnv,List.map,x00,x01,x02,x03,x04,x05,x06,x07,List.take,List.drop,x08,x09,x0a,x0b,List.isEmpty,↓reduceIte,reduceCtorEq,Nat.reduceEqDiff,Nat.reduceAdd,Nat.reduceLeDiff,x0c,Int.reduceNeg,Nat.reduceMul,Nat.reduceSub,x0d,x0e,x0f,x0g,x0h,x0i,x0j,x0k,Int.reduceEq,Int.reduceLT,Int.reduceLE,Int.reduceToNat,Int.cast_ofNat_Int,List.reduceReplicate]
          refine onBk_to (j + 1) [0] (by simp) rfl (by omega) ⟨hlt, by rw [← hq, farSub, ← hv, ← hp]; rfl⟩ (by simp -implicitDefEqProofs only [next_at hlt (by omega), kpp,Env.get,x01,x00,x02,x03,List.map,x08,x09,↓reduceIte,reduceCtorEq,Nat.reduceEqDiff,Nat.reduceLeDiff,Nat.reduceLT,Nat.reduceAdd,x0j,x0l,x0m,x0n,x0o,Int.cast_ofNat_Int,x0p,x0i,x07,x06,x0q,x0r,x0s,x0t,x0d,x0u]) (by simp -implicitDefEqProofs only [kpp,Env.get,x01,x00,x02,x03,List.map,x08,x09,↓reduceIte,reduceCtorEq,Nat.reduceEqDiff,Nat.reduceLeDiff,Nat.reduceLT,Nat.reduceAdd,x0j,x0l,x0m,x0n,x0o,Int.cast_ofNat_Int,x0p,x0i,x07,x06,x0q,x0r,x0s,x0t,x0d,x0u])
    · simp -implicitDefEqProofs only [h2, vmp,↓vmd,Env.get,putD,argEnv,List.map,x00,x01,x02,x03,x04,x05,x06,x07,List.take,List.drop,x08,x09,x0a,x0b,List.isEmpty,↓reduceIte,reduceCtorEq,Nat.reduceEqDiff,Nat.reduceAdd,Nat.reduceLeDiff,x0c,Int.reduceNeg,Nat.reduceMul,Nat.reduceSub,x0d,x0e,x0f,x0g,x0h,x0i,x0j,x0k,Int.reduceEq,Int.reduceLT,Int.reduceLE,Int.reduceToNat,Int.cast_ofNat_Int,List.reduceReplicate]
      unfold c75_0
      simp -implicitDefEqProofs only [vmp,↓vmd,Env.get,putD,argEnv,List.map,x00,x01,x02,x03,x04,x05,x06,x07,List.take,List.drop,x08,x09,x0a,x0b,List.isEmpty,↓reduceIte,reduceCtorEq,Nat.reduceEqDiff,Nat.reduceAdd,Nat.reduceLeDiff,x0c,Int.reduceNeg,Nat.reduceMul,Nat.reduceSub,x0d,x0e,x0f,x0g,x0h,x0i,x0j,x0k,Int.reduceEq,Int.reduceLT,Int.reduceLE,Int.reduceToNat,Int.cast_ofNat_Int,List.reduceReplicate]
      rw [List.drop_of_length_le (by omega)] at hq
      rw [show sumsF k ls = true by rw [sumsF, ← hr, ← hq]; rfl]
      exact gives_pure
deriving instance DecidableEq for Gl
theorem gl_b (a b : Gl) : (decide (a.id = b.id) && (decide (a.cl = b.cl) && (decide (a.adv = b.adv) && (decide (a.dx = b.dx) && (decide (a.dy = b.dy) && (decide (a.to = b.to) && (decide (a.hang = b.hang) && (decide (a.lig = b.lig) && (decide (a.comp = b.comp) && decide (a.mask = b.mask)))))))))) = decide (a = b) := by
  cases a
  cases b
  simp
theorem same29_q (a b : List Gl) : FnQ Try.prog 52 [.sl (a.map gl), .sl (b.map gl)] [.bool (decide (a = b))] := by
  refine q52 (by simp) ?_
  unfold c52
  simp -implicitDefEqProofs only [*, vmp,↓vmd,Env.get,putD,argEnv,List.map,x00,x01,x02,x03,x04,x05,x06,x07,List.take,List.drop,x08,x09,x0a,x0b,List.isEmpty,↓reduceIte,reduceCtorEq,Nat.reduceEqDiff,Nat.reduceAdd,Nat.reduceLeDiff,x0c,Int.reduceNeg,Nat.reduceMul,Nat.reduceSub,x0d,x0e,x0f,x0g,x0h,x0i,x0j,x0k,Int.reduceEq,Int.reduceLT,Int.reduceLE,Int.reduceToNat,Int.cast_ofNat_Int,List.reduceReplicate]
  refine onIf_intro fun hl1 => ?_
  simp -implicitDefEqProofs only [*, vmp,↓vmd,Env.get,putD,argEnv,List.map,x00,x01,x02,x03,x04,x05,x06,x07,List.take,List.drop,x08,x09,x0a,x0b,List.isEmpty,↓reduceIte,reduceCtorEq,Nat.reduceEqDiff,Nat.reduceAdd,Nat.reduceLeDiff,x0c,Int.reduceNeg,Nat.reduceMul,Nat.reduceSub,x0d,x0e,x0f,x0g,x0h,x0i,x0j,x0k,Int.reduceEq,Int.reduceLT,Int.reduceLE,Int.reduceToNat,Int.cast_ofNat_Int,List.reduceReplicate]
  refine onIf_intro fun hl2 => ?_
  simp -implicitDefEqProofs only [*, vmp,↓vmd,Env.get,putD,argEnv,List.map,x00,x01,x02,x03,x04,x05,x06,x07,List.take,List.drop,x08,x09,x0a,x0b,List.isEmpty,↓reduceIte,reduceCtorEq,Nat.reduceEqDiff,Nat.reduceAdd,Nat.reduceLeDiff,x0c,Int.reduceNeg,Nat.reduceMul,Nat.reduceSub,x0d,x0e,x0f,x0g,x0h,x0i,x0j,x0k,Int.reduceEq,Int.reduceLT,Int.reduceLE,Int.reduceToNat,Int.cast_ofNat_Int,List.reduceReplicate]
  by_cases hn : a.length = b.length
  · simp -implicitDefEqProofs only [hn, vmp,↓vmd,Env.get,putD,argEnv,List.map,x00,x01,x02,x03,x04,x05,x06,x07,List.take,List.drop,x08,x09,x0a,x0b,List.isEmpty,↓reduceIte,reduceCtorEq,Nat.reduceEqDiff,Nat.reduceAdd,Nat.reduceLeDiff,x0c,Int.reduceNeg,Nat.reduceMul,Nat.reduceSub,x0d,x0e,x0f,x0g,x0h,x0i,x0j,x0k,Int.reduceEq,Int.reduceLT,Int.reduceLE,Int.reduceToNat,Int.cast_ofNat_Int,List.reduceReplicate]
    refine loop_at (T := Nat) (fun i => [(5, .pure (I i)), (0, .pure (.sl (a.map gl))), (1, .pure (.sl (b.map gl)))]) (fun _ => []) (fun i => i ≤ a.length ∧ decide (a.drop i = b.drop i) = decide (a = b)) (fun i => a.length - i)
      0 [] (by simp) rfl ⟨by simp, by simp⟩ (by simp -implicitDefEqProofs only [kpp,Env.get,x01,x00,x02,x03,List.map,x08,x09,↓reduceIte,reduceCtorEq,Nat.reduceEqDiff,Nat.reduceLeDiff,Nat.reduceLT,Nat.reduceAdd,x0j,x0l,x0m,x0n,x0o,Int.cast_ofNat_Int,x0p,x0i,x07,x06,x0q,x0r,x0s,x0t,x0d,x0u]) (by simp -implicitDefEqProofs only [kpp,Env.get,x01,x00,x02,x03,List.map,x08,x09,↓reduceIte,reduceCtorEq,Nat.reduceEqDiff,Nat.reduceLeDiff,Nat.reduceLT,Nat.reduceAdd,x0j,x0l,x0m,x0n,x0o,Int.cast_ofNat_Int,x0p,x0i,x07,x06,x0q,x0r,x0s,x0t,x0d,x0u]) ?_
    rintro i ⟨hi, hr⟩
    unfold c52_1
    simp -implicitDefEqProofs only [vmp,↓vmd,Env.get,putD,argEnv,List.map,x00,x01,x02,x03,x04,x05,x06,x07,List.take,List.drop,x08,x09,x0a,x0b,List.isEmpty,↓reduceIte,reduceCtorEq,Nat.reduceEqDiff,Nat.reduceAdd,Nat.reduceLeDiff,x0c,Int.reduceNeg,Nat.reduceMul,Nat.reduceSub,x0d,x0e,x0f,x0g,x0h,x0i,x0j,x0k,Int.reduceEq,Int.reduceLT,Int.reduceLE,Int.reduceToNat,Int.cast_ofNat_Int,List.reduceReplicate]
    refine onIf_intro fun _ => ?_
    simp -implicitDefEqProofs only [vmp,↓vmd,Env.get,putD,argEnv,List.map,x00,x01,x02,x03,x04,x05,x06,x07,List.take,List.drop,x08,x09,x0a,x0b,List.isEmpty,↓reduceIte,reduceCtorEq,Nat.reduceEqDiff,Nat.reduceAdd,Nat.reduceLeDiff,x0c,Int.reduceNeg,Nat.reduceMul,Nat.reduceSub,x0d,x0e,x0f,x0g,x0h,x0i,x0j,x0k,Int.reduceEq,Int.reduceLT,Int.reduceLE,Int.reduceToNat,Int.cast_ofNat_Int,List.reduceReplicate]
    refine onB_dec (fun h1 => ?_) (fun h1 => ?_)
    · have hlt : i < a.length := by omega
      have hlt2 : i < b.length := by omega
      rw [drop_at hlt, drop_at hlt2] at hr
      simp -implicitDefEqProofs only [h1, map_at hlt, map_at hlt2, Int.natCast_nonneg, vmp,↓vmd,Env.get,putD,argEnv,List.map,x00,x01,x02,x03,x04,x05,x06,x07,List.take,List.drop,x08,x09,x0a,x0b,List.isEmpty,↓reduceIte,reduceCtorEq,Nat.reduceEqDiff,Nat.reduceAdd,Nat.reduceLeDiff,x0c,Int.reduceNeg,Nat.reduceMul,Nat.reduceSub,x0d,x0e,x0f,x0g,x0h,x0i,x0j,x0k,Int.reduceEq,Int.reduceLT,Int.reduceLE,Int.reduceToNat,Int.cast_ofNat_Int,List.reduceReplicate]
      rw [gl_b]
      by_cases he : a[i] = b[i]
      · simp -implicitDefEqProofs only [he, vmp,↓vmd,Env.get,putD,argEnv,List.map,x00,x01,x02,x03,x04,x05,x06,x07,List.take,List.drop,x08,x09,x0a,x0b,List.isEmpty,↓reduceIte,reduceCtorEq,Nat.reduceEqDiff,Nat.reduceAdd,Nat.reduceLeDiff,x0c,Int.reduceNeg,Nat.reduceMul,Nat.reduceSub,x0d,x0e,x0f,x0g,x0h,x0i,x0j,x0k,Int.reduceEq,Int.reduceLT,Int.reduceLE,Int.reduceToNat,Int.cast_ofNat_Int,List.reduceReplicate]
        refine onBk_to (i + 1) [] (by simp) rfl (by omega) ⟨hlt, by rw [← hr, he]; simp only [List.cons.injEq, true_and]⟩ (by simp -implicitDefEqProofs only [next_at hlt (by omega), kpp,Env.get,x01,x00,x02,x03,List.map,x08,x09,↓reduceIte,reduceCtorEq,Nat.reduceEqDiff,Nat.reduceLeDiff,Nat.reduceLT,Nat.reduceAdd,x0j,x0l,x0m,x0n,x0o,Int.cast_ofNat_Int,x0p,x0i,x07,x06,x0q,x0r,x0s,x0t,x0d,x0u]) (by simp -implicitDefEqProofs only [kpp,Env.get,x01,x00,x02,x03,List.map,x08,x09,↓reduceIte,reduceCtorEq,Nat.reduceEqDiff,Nat.reduceLeDiff,Nat.reduceLT,Nat.reduceAdd,x0j,x0l,x0m,x0n,x0o,Int.cast_ofNat_Int,x0p,x0i,x07,x06,x0q,x0r,x0s,x0t,x0d,x0u])
      · simp -implicitDefEqProofs only [he, vmp,↓vmd,Env.get,putD,argEnv,List.map,x00,x01,x02,x03,x04,x05,x06,x07,List.take,List.drop,x08,x09,x0a,x0b,List.isEmpty,↓reduceIte,reduceCtorEq,Nat.reduceEqDiff,Nat.reduceAdd,Nat.reduceLeDiff,x0c,Int.reduceNeg,Nat.reduceMul,Nat.reduceSub,x0d,x0e,x0f,x0g,x0h,x0i,x0j,x0k,Int.reduceEq,Int.reduceLT,Int.reduceLE,Int.reduceToNat,Int.cast_ofNat_Int,List.reduceReplicate]
        rw [show decide (a = b) = false by rw [← hr]; simp only [List.cons.injEq, he, false_and, decide_false]]
        exact gives_pure
    · simp -implicitDefEqProofs only [h1, vmp,↓vmd,Env.get,putD,argEnv,List.map,x00,x01,x02,x03,x04,x05,x06,x07,List.take,List.drop,x08,x09,x0a,x0b,List.isEmpty,↓reduceIte,reduceCtorEq,Nat.reduceEqDiff,Nat.reduceAdd,Nat.reduceLeDiff,x0c,Int.reduceNeg,Nat.reduceMul,Nat.reduceSub,x0d,x0e,x0f,x0g,x0h,x0i,x0j,x0k,Int.reduceEq,Int.reduceLT,Int.reduceLE,Int.reduceToNat,Int.cast_ofNat_Int,List.reduceReplicate]
      unfold c52_0
      simp -implicitDefEqProofs only [vmp,↓vmd,Env.get,putD,argEnv,List.map,x00,x01,x02,x03,x04,x05,x06,x07,List.take,List.drop,x08,x09,x0a,x0b,List.isEmpty,↓reduceIte,reduceCtorEq,Nat.reduceEqDiff,Nat.reduceAdd,Nat.reduceLeDiff,x0c,Int.reduceNeg,Nat.reduceMul,Nat.reduceSub,x0d,x0e,x0f,x0g,x0h,x0i,x0j,x0k,Int.reduceEq,Int.reduceLT,Int.reduceLE,Int.reduceToNat,Int.cast_ofNat_Int,List.reduceReplicate]
      rw [List.drop_of_length_le (by omega), List.drop_of_length_le (by omega)] at hr
      rw [← hr]
      exact gives_pure
  · have hn' : ¬ ((a.length : Int) = (b.length : Int)) := by omega
    simp -implicitDefEqProofs only [hn', vmp,↓vmd,Env.get,putD,argEnv,List.map,x00,x01,x02,x03,x04,x05,x06,x07,List.take,List.drop,x08,x09,x0a,x0b,List.isEmpty,↓reduceIte,reduceCtorEq,Nat.reduceEqDiff,Nat.reduceAdd,Nat.reduceLeDiff,x0c,Int.reduceNeg,Nat.reduceMul,Nat.reduceSub,x0d,x0e,x0f,x0g,x0h,x0i,x0j,x0k,Int.reduceEq,Int.reduceLT,Int.reduceLE,Int.reduceToNat,Int.cast_ofNat_Int,List.reduceReplicate]
    rw [show decide (a = b) = false by simp; rintro rfl; exact hn rfl]
    exact gives_pure
end Go.Proofs.Ytjgodncjlffhjaa.W
