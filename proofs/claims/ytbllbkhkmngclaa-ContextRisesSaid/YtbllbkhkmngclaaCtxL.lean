/-
  The law ContextApplies: what its function does, and what all that it calls does, for every input. No condition.
-/
import Derived.Test.YtbllbkhkmngclaaCtxA
import Derived.Test.YtbllbkhkmngclaaCtxD
namespace Go.Proofs.Ytbllbkhkmngclaa.W
open Go Go.Vm Go.Proofs
set_option maxRecDepth 100000
set_option linter.unusedSimpArgs false
set_option maxHeartbeats 4000000
/-! typecase/typecaseref29.Apply -/
def c26_0 : AC :=
  (.seq (.reg [⟨some 105, none, .mov (.s 2)⟩,
    ⟨some 106, none, .mov (.s 2)⟩,
    ⟨some 107, none, .len (.s 106)⟩,
    ⟨some 108, none, .mov (.s 14)⟩,
    ⟨some 109, none, .bin .sub (.s 107) (.s 108)⟩,
    ⟨some 110, none, .mov (.s 3)⟩,
    ⟨some 111, none, .mx (.s 109) (.s 110)⟩,
    ⟨some 8, none, .mov (.s 105)⟩,
    ⟨some 9, none, .mov (.s 111)⟩,
    ⟨some 10, none, .mov (.c (.pure (.bool true)))⟩])
  .ret)
def c26_1 : AC :=
  (.seq (.seq (.reg [⟨some 47, none, .mov (.s 16)⟩,
    ⟨some 48, none, .mov (.s 15)⟩,
    ⟨some 49, none, .len (.s 48)⟩,
    ⟨some 50, none, .bin .lss (.s 47) (.s 49)⟩])
  (.cond (.s 50)
  .skip
  (.exit 0)))
  (.seq (.block 1
  (.seq (.seq (.reg [⟨some 53, none, .mov (.s 15)⟩,
    ⟨some 54, none, .mov (.s 16)⟩,
    ⟨some 55, none, .idxA 2 (.s 53) (.s 54)⟩,
    ⟨some 56, none, .fldA 0 (.s 55)⟩,
    ⟨some 57, none, .load false 1 (.s 56)⟩,
    ⟨some 58, none, .bin .lss (.s 57) (.c (.pure (.int .i64 0)))⟩,
    ⟨some 59, none, .mov (.s 58)⟩,
    ⟨some 60, some (59, false), .mov (.s 15)⟩,
    ⟨some 61, some (59, false), .mov (.s 16)⟩,
    ⟨some 62, some (59, false), .idxA 2 (.s 60) (.s 61)⟩,
    ⟨some 63, some (59, false), .fldA 0 (.s 62)⟩,
    ⟨some 64, some (59, false), .load false 1 (.s 63)⟩,
    ⟨some 65, some (59, false), .mov (.s 12)⟩,
    ⟨some 66, some (59, false), .len (.s 65)⟩,
    ⟨some 67, some (59, false), .bin .geq (.s 64) (.s 66)⟩,
    ⟨some 68, none, .pick (.s 59) (.c (.pure (.bool true))) (.s 67)⟩])
  (.cond (.s 68)
  (.exit 1)
  .skip))
  (.seq (.reg [⟨some 69, none, .mov (.s 12)⟩,
    ⟨some 70, none, .mov (.s 15)⟩,
    ⟨some 71, none, .mov (.s 16)⟩,
    ⟨some 72, none, .idxA 2 (.s 70) (.s 71)⟩,
    ⟨some 73, none, .fldA 0 (.s 72)⟩,
    ⟨some 74, none, .load false 1 (.s 73)⟩,
    ⟨some 75, none, .idxA 1 (.s 69) (.s 74)⟩,
    ⟨some 76, none, .load false 1 (.s 75)⟩,
    ⟨some 17, none, .mov (.s 76)⟩])
  (.seq (.seq (.reg [⟨some 77, none, .mov (.s 17)⟩,
    ⟨some 78, none, .bin .lss (.s 77) (.c (.pure (.int .i64 0)))⟩,
    ⟨some 79, none, .mov (.s 78)⟩,
    ⟨some 80, some (79, false), .mov (.s 17)⟩,
    ⟨some 81, some (79, false), .mov (.s 2)⟩,
    ⟨some 82, some (79, false), .len (.s 81)⟩,
    ⟨some 83, some (79, false), .bin .geq (.s 80) (.s 82)⟩,
    ⟨some 84, none, .pick (.s 79) (.c (.pure (.bool true))) (.s 83)⟩])
  (.cond (.s 84)
  (.exit 1)
  .skip))
  (.seq (.reg [⟨some 86, none, .mov (.s 2)⟩,
    ⟨some 87, none, .mov (.s 15)⟩,
    ⟨some 88, none, .mov (.s 16)⟩,
    ⟨some 89, none, .idxA 2 (.s 87) (.s 88)⟩,
    ⟨some 90, none, .fldA 1 (.s 89)⟩,
    ⟨some 91, none, .load false 1 (.s 90)⟩,
    ⟨some 92, none, .mov (.s 17)⟩,
    ⟨some 93, none, .call 25 [(.s 86), (.s 91), (.s 92)]⟩,
    ⟨some 85, none, .mov (.s 93)⟩,
    ⟨some 94, none, .ext 0 (.s 85)⟩,
    ⟨some 95, none, .ext 1 (.s 85)⟩,
    ⟨some 18, none, .mov (.s 94)⟩,
    ⟨some 19, none, .mov (.s 95)⟩])
  (.seq (.reg [⟨some 96, none, .mov (.s 19)⟩])
  (.cond (.s 96)
  (.seq (.reg [⟨some 97, none, .mov (.s 12)⟩,
    ⟨some 98, none, .mov (.s 17)⟩,
    ⟨some 99, none, .mov (.s 2)⟩,
    ⟨some 100, none, .len (.s 99)⟩,
    ⟨some 101, none, .mov (.s 18)⟩,
    ⟨some 102, none, .len (.s 101)⟩,
    ⟨some 103, none, .call 66 [(.s 97), (.s 98), (.s 100), (.s 102)]⟩,
    ⟨some 12, none, .mov (.s 103)⟩])
  (.reg [⟨some 104, none, .mov (.s 18)⟩,
    ⟨some 2, none, .mov (.s 104)⟩]))
  .skip)))))))
  (.reg [⟨some 51, none, .mov (.s 16)⟩,
    ⟨some 52, none, .bin .add (.s 51) (.c (.pure (.int .i64 1)))⟩,
    ⟨some 16, none, .mov (.s 52)⟩])))
def c26 : AC :=
  (.seq (.reg [⟨some 4, none, .box (.s 0)⟩,
    ⟨some 5, none, .box (.s 1)⟩,
    ⟨some 8, none, .mov (.c .empty)⟩,
    ⟨some 9, none, .mov (.c (.pure (.int .i64 0)))⟩,
    ⟨some 10, none, .mov (.c (.pure (.bool false)))⟩])
  (.seq (.reg [⟨some 21, none, .load true 6 (.s 4)⟩,
    ⟨some 22, none, .load true 4 (.s 5)⟩,
    ⟨some 23, none, .mov (.s 2)⟩,
    ⟨some 24, none, .mov (.s 3)⟩,
    ⟨some 25, none, .call 65 [(.s 21), (.s 22), (.s 23), (.s 24)]⟩,
    ⟨some 20, none, .mov (.s 25)⟩,
    ⟨some 26, none, .ext 0 (.s 20)⟩,
    ⟨some 27, none, .ext 1 (.s 20)⟩,
    ⟨some 28, none, .ext 2 (.s 20)⟩,
    ⟨some 11, none, .mov (.s 26)⟩,
    ⟨some 12, none, .mov (.s 27)⟩,
    ⟨some 13, none, .mov (.s 28)⟩])
  (.seq (.seq (.reg [⟨some 29, none, .mov (.s 13)⟩,
    ⟨some 30, none, .un .not (.s 29)⟩])
  (.cond (.s 30)
  (.seq (.reg [⟨some 8, none, .mov (.c .empty)⟩,
    ⟨some 9, none, .mov (.c (.pure (.int .i64 0)))⟩,
    ⟨some 10, none, .mov (.c (.pure (.bool false)))⟩])
  .ret)
  .skip))
  (.seq (.reg [⟨some 31, none, .mov (.s 2)⟩,
    ⟨some 32, none, .len (.s 31)⟩,
    ⟨some 33, none, .mov (.s 12)⟩,
    ⟨some 34, none, .mov (.s 12)⟩,
    ⟨some 35, none, .len (.s 34)⟩,
    ⟨some 36, none, .bin .sub (.s 35) (.c (.pure (.int .i64 1)))⟩,
    ⟨some 37, none, .idxA 1 (.s 33) (.s 36)⟩,
    ⟨some 38, none, .load false 1 (.s 37)⟩,
    ⟨some 39, none, .bin .sub (.s 32) (.s 38)⟩,
    ⟨some 40, none, .bin .sub (.s 39) (.c (.pure (.int .i64 1)))⟩,
    ⟨some 14, none, .mov (.s 40)⟩])
  (.seq (.reg [⟨some 41, none, .fldA 3 (.s 5)⟩,
    ⟨some 42, none, .load false 1 (.s 41)⟩,
    ⟨some 43, none, .mov (.s 11)⟩,
    ⟨some 44, none, .idxA 12 (.s 42) (.s 43)⟩,
    ⟨some 45, none, .fldA 6 (.s 44)⟩,
    ⟨some 46, none, .load false 1 (.s 45)⟩,
    ⟨some 15, none, .mov (.s 46)⟩])
  (.seq (.seq (.reg [⟨some 16, none, .mov (.c (.pure (.int .i64 0)))⟩])
  (.block 0
  (.loop c26_1)))
  c26_0))))))
theorem k26 : (Try.f26.body.bind fun c => cCode Try.prog Try.f26.ntmps RCs c) = some c26 := by kernel_rfl
theorem h26 : (Try.f26.name == "runtime.NumGoroutine") = false := by kernel_rfl
theorem r26 : resC Try.prog Try.f26.results.toList = some [.t 8, .t 9, .t 10] := by kernel_rfl
theorem a26 {args : List S} {H : Heap} {K : S → Heap → Prop} (hn : args.length ≤ 112) (h : aWx Try.prog H.length c26 (PostX [.t 8, .t 9, .t 10] K) (argEnv 0 args) H) : CallA Try.prog 26 args H K :=
  callA_of_x mixed Try.func26 h26 k26 r26 (by rw [Try.ntmps26]; exact hn) h
theorem q26 {vs ds : List V} (hn : vs.length ≤ 112) (h : aWx Try.prog 0 c26 (PostX [.t 8, .t 9, .t 10] (Gives ds)) (argEnv 0 (vs.map .pure)) []) : FnQ Try.prog 26 vs ds :=
  fnQ_of_call (a26 (by simpa using hn) h)
/-! typecase/typecaselaw29.ContextApplies -/
def c7 : AC :=
  (.seq (.reg [⟨some 3, none, .box (.s 0)⟩,
    ⟨some 4, none, .box (.s 1)⟩,
    ⟨some 5, none, .box (.s 2)⟩,
    ⟨some 6, none, .mov (.c (.pure (.bool false)))⟩])
  (.seq (.seq (.reg [⟨some 13, none, .load true 6 (.s 3)⟩,
    ⟨some 14, none, .load true 4 (.s 4)⟩,
    ⟨some 15, none, .fldA 0 (.s 5)⟩,
    ⟨some 16, none, .load false 1 (.s 15)⟩,
    ⟨some 17, none, .call 23 [(.s 13), (.s 14), (.s 16)]⟩])
  (.cond (.s 17)
  (.seq (.reg [⟨some 6, none, .mov (.c (.pure (.bool true)))⟩])
  .ret)
  .skip))
  (.seq (.reg [⟨some 19, none, .load true 6 (.s 3)⟩,
    ⟨some 20, none, .load true 4 (.s 4)⟩,
    ⟨some 21, none, .fldA 0 (.s 5)⟩,
    ⟨some 22, none, .load false 1 (.s 21)⟩,
    ⟨some 23, none, .fldA 1 (.s 5)⟩,
    ⟨some 24, none, .load false 1 (.s 23)⟩,
    ⟨some 25, none, .call 24 [(.s 19), (.s 20), (.s 22), (.s 24), (.c (.pure (.func (.func 25) [] [])))]⟩,
    ⟨some 18, none, .mov (.s 25)⟩,
    ⟨some 26, none, .ext 0 (.s 18)⟩,
    ⟨some 27, none, .ext 1 (.s 18)⟩,
    ⟨some 28, none, .ext 2 (.s 18)⟩,
    ⟨some 7, none, .mov (.s 26)⟩,
    ⟨some 8, none, .mov (.s 27)⟩,
    ⟨some 9, none, .mov (.s 28)⟩])
  (.seq (.reg [⟨some 30, none, .load true 6 (.s 3)⟩,
    ⟨some 31, none, .load true 4 (.s 4)⟩,
    ⟨some 32, none, .fldA 0 (.s 5)⟩,
    ⟨some 33, none, .load false 1 (.s 32)⟩,
    ⟨some 34, none, .fldA 1 (.s 5)⟩,
    ⟨some 35, none, .load false 1 (.s 34)⟩,
    ⟨some 36, none, .call 26 [(.s 30), (.s 31), (.s 33), (.s 35)]⟩,
    ⟨some 29, none, .mov (.s 36)⟩,
    ⟨some 37, none, .ext 0 (.s 29)⟩,
    ⟨some 38, none, .ext 1 (.s 29)⟩,
    ⟨some 39, none, .ext 2 (.s 29)⟩,
    ⟨some 10, none, .mov (.s 37)⟩,
    ⟨some 11, none, .mov (.s 38)⟩,
    ⟨some 12, none, .mov (.s 39)⟩])
  (.seq (.reg [⟨some 40, none, .mov (.s 7)⟩,
    ⟨some 41, none, .mov (.s 10)⟩,
    ⟨some 42, none, .call 27 [(.s 40), (.s 41)]⟩,
    ⟨some 43, none, .mov (.s 42)⟩,
    ⟨some 44, some (43, true), .mov (.s 8)⟩,
    ⟨some 45, some (43, true), .mov (.s 11)⟩,
    ⟨some 46, some (43, true), .bin .eql (.s 44) (.s 45)⟩,
    ⟨some 47, none, .pick (.s 43) (.s 46) (.c (.pure (.bool false)))⟩,
    ⟨some 48, none, .mov (.s 47)⟩,
    ⟨some 49, some (48, true), .mov (.s 9)⟩,
    ⟨some 50, some (48, true), .mov (.s 12)⟩,
    ⟨some 51, some (48, true), .eqb false (.s 49) (.s 50)⟩,
    ⟨some 52, none, .pick (.s 48) (.s 51) (.c (.pure (.bool false)))⟩,
    ⟨some 6, none, .mov (.s 52)⟩])
  .ret)))))
theorem k7 : (Try.f7.body.bind fun c => cCode Try.prog Try.f7.ntmps RCs c) = some c7 := by kernel_rfl
theorem h7 : (Try.f7.name == "runtime.NumGoroutine") = false := by kernel_rfl
theorem r7 : resC Try.prog Try.f7.results.toList = some [.t 6] := by kernel_rfl
theorem a7 {args : List S} {H : Heap} {K : S → Heap → Prop} (hn : args.length ≤ 53) (h : aWx Try.prog H.length c7 (PostX [.t 6] K) (argEnv 0 args) H) : CallA Try.prog 7 args H K :=
  callA_of_x mixed Try.func7 h7 k7 r7 (by rw [Try.ntmps7]; exact hn) h
theorem q7 {vs ds : List V} (hn : vs.length ≤ 53) (h : aWx Try.prog 0 c7 (PostX [.t 6] (Gives ds)) (argEnv 0 (vs.map .pure)) []) : FnQ Try.prog 7 vs ds :=
  fnQ_of_call (a7 (by simpa using hn) h)

theorem rctx_q (f : Fo) (k : Lk) (ls : List Gl) (hl : ls.length ≤ 100) (x : Int) (hs : ∀ s ∈ k.subs, s.back.length ≤ 6 ∧ s.inn.length ≤ 6 ∧ s.ahead.length ≤ 6) (hn : ∀ s ∈ k.subs, s.nests.length ≤ 8) :
    FnQ Try.prog 26 [fo f, lk k, .sl (ls.map gl), I x] (ctxR (ctxF nestF f k ls x)) := by
  refine q26 (by simp) ?_
  unfold c26
  simp -implicitDefEqProofs only [*, vmp,↓vmd,Env.get,putD,argEnv,List.map,x00,x01,x02,x03,x04,x05,x06,x07,List.take,List.drop,x08,x09,x0a,x0b,List.isEmpty,↓reduceIte,reduceCtorEq,Nat.reduceEqDiff,Nat.reduceAdd,Nat.reduceLeDiff,x0c,Int.reduceNeg,Nat.reduceMul,Nat.reduceSub,x0d,x0e,x0f,x0g,x0h,x0i,x0j,x0k,Int.reduceEq,Int.reduceLT,Int.reduceLE,Int.reduceToNat,Int.cast_ofNat_Int,List.reduceReplicate]
  have hm := rmatch_q f k ls (by omega) x hs
  rw [ctxF]
  cases hc : matchF f k ls x with
  | none =>
    rw [hc] at hm
    have hm' : FnQ Try.prog 65 [fo f, lk k, .sl (ls.map gl), I x] [I 0, LI [], .bool false] := hm
    refine onC_q hm' rfl ?_
    first | refine envO (by simp -implicitDefEqProofs only [vmp,↓vmd,Env.get,putD,argEnv,List.map,x00,x01,x02,x03,x04,x05,x06,x07,List.take,List.drop,x08,x09,x0a,x0b,List.isEmpty,↓reduceIte,reduceCtorEq,Nat.reduceEqDiff,Nat.reduceAdd,Nat.reduceLeDiff,x0c,Int.reduceNeg,Nat.reduceMul,Nat.reduceSub,x0d,x0e,x0f,x0g,x0h,x0i,x0j,x0k,Int.reduceEq,Int.reduceLT,Int.reduceLE,Int.reduceToNat,Int.cast_ofNat_Int,List.reduceReplicate]; rfl) ?_ | refine envQ (by simp -implicitDefEqProofs only [vmp,↓vmd,Env.get,putD,argEnv,List.map,x00,x01,x02,x03,x04,x05,x06,x07,List.take,List.drop,x08,x09,x0a,x0b,List.isEmpty,↓reduceIte,reduceCtorEq,Nat.reduceEqDiff,Nat.reduceAdd,Nat.reduceLeDiff,x0c,Int.reduceNeg,Nat.reduceMul,Nat.reduceSub,x0d,x0e,x0f,x0g,x0h,x0i,x0j,x0k,Int.reduceEq,Int.reduceLT,Int.reduceLE,Int.reduceToNat,Int.cast_ofNat_Int,List.reduceReplicate]; rfl) ?_
    simp -implicitDefEqProofs only [vmp,↓vmd,Env.get,putD,argEnv,List.map,x00,x01,x02,x03,x04,x05,x06,x07,List.take,List.drop,x08,x09,x0a,x0b,List.isEmpty,↓reduceIte,reduceCtorEq,Nat.reduceEqDiff,Nat.reduceAdd,Nat.reduceLeDiff,x0c,Int.reduceNeg,Nat.reduceMul,Nat.reduceSub,x0d,x0e,x0f,x0g,x0h,x0i,x0j,x0k,Int.reduceEq,Int.reduceLT,Int.reduceLE,Int.reduceToNat,Int.cast_ofNat_Int,List.reduceReplicate]
    exact gives_tup rfl (by simp)
  | some q =>
    rw [hc] at hm
    obtain ⟨i, p⟩ := q
    have M := matchF_in hc
    obtain ⟨s, hsi, hpl⟩ := M.sub
    have hsm := List.mem_of_getElem? hsi
    have hil := (List.getElem?_eq_some_iff.1 hsi).1
    obtain ⟨g0, g1, g2⟩ := M.last
    have hp6 := (hs s hsm).2.1
    have hn8 := hn s hsm
    have hm' : FnQ Try.prog 65 [fo f, lk k, .sl (ls.map gl), I x] [I (i : Int), LI p, .bool true] := hm
    refine onC_q hm' rfl ?_
    first | refine envO (by simp -implicitDefEqProofs only [vmp,↓vmd,Env.get,putD,argEnv,List.map,x00,x01,x02,x03,x04,x05,x06,x07,List.take,List.drop,x08,x09,x0a,x0b,List.isEmpty,↓reduceIte,reduceCtorEq,Nat.reduceEqDiff,Nat.reduceAdd,Nat.reduceLeDiff,x0c,Int.reduceNeg,Nat.reduceMul,Nat.reduceSub,x0d,x0e,x0f,x0g,x0h,x0i,x0j,x0k,Int.reduceEq,Int.reduceLT,Int.reduceLE,Int.reduceToNat,Int.cast_ofNat_Int,List.reduceReplicate]; rfl) ?_ | refine envQ (by simp -implicitDefEqProofs only [vmp,↓vmd,Env.get,putD,argEnv,List.map,x00,x01,x02,x03,x04,x05,x06,x07,List.take,List.drop,x08,x09,x0a,x0b,List.isEmpty,↓reduceIte,reduceCtorEq,Nat.reduceEqDiff,Nat.reduceAdd,Nat.reduceLeDiff,x0c,Int.reduceNeg,Nat.reduceMul,Nat.reduceSub,x0d,x0e,x0f,x0g,x0h,x0i,x0j,x0k,Int.reduceEq,Int.reduceLT,Int.reduceLE,Int.reduceToNat,Int.cast_ofNat_Int,List.reduceReplicate]; rfl) ?_
    simp only [hsi]
    simp -implicitDefEqProofs only [vmp,↓vmd,Env.get,putD,argEnv,List.map,x00,x01,x02,x03,x04,x05,x06,x07,List.take,List.drop,x08,x09,x0a,x0b,List.isEmpty,↓reduceIte,reduceCtorEq,Nat.reduceEqDiff,Nat.reduceAdd,Nat.reduceLeDiff,x0c,Int.reduceNeg,Nat.reduceMul,Nat.reduceSub,x0d,x0e,x0f,x0g,x0h,x0i,x0j,x0k,Int.reduceEq,Int.reduceLT,Int.reduceLE,Int.reduceToNat,Int.cast_ofNat_Int,List.reduceReplicate]
    refine onIf_intro fun _ => ?_
    simp -implicitDefEqProofs only [vmp,↓vmd,Env.get,putD,argEnv,List.map,x00,x01,x02,x03,x04,x05,x06,x07,List.take,List.drop,x08,x09,x0a,x0b,List.isEmpty,↓reduceIte,reduceCtorEq,Nat.reduceEqDiff,Nat.reduceAdd,Nat.reduceLeDiff,x0c,Int.reduceNeg,Nat.reduceMul,Nat.reduceSub,x0d,x0e,x0f,x0g,x0h,x0i,x0j,x0k,Int.reduceEq,Int.reduceLT,Int.reduceLE,Int.reduceToNat,Int.cast_ofNat_Int,List.reduceReplicate]
    refine onIf_intro fun _ => ?_
    have hw : IntKind.wrap .i64 ((p.length : Int) - 1) = (p.length : Int) - 1 := wrap_id (by omega) (by omega)
    have hlast := intAt_map (ps := p) (y := (p.length : Int) - 1) (by omega) (by omega)
    have hsub : (k.subs.map sub)[i]? = some (sub s) := by rw [List.getElem?_map, hsi]; rfl
    have w0 : 0 ≤ (p.length : Int) - 1 := by omega
    simp -implicitDefEqProofs only [hw, hlast, w0, hsub, Int.natCast_nonneg, vmp,↓vmd,Env.get,putD,argEnv,List.map,x00,x01,x02,x03,x04,x05,x06,x07,List.take,List.drop,x08,x09,x0a,x0b,List.isEmpty,↓reduceIte,reduceCtorEq,Nat.reduceEqDiff,Nat.reduceAdd,Nat.reduceLeDiff,x0c,Int.reduceNeg,Nat.reduceMul,Nat.reduceSub,x0d,x0e,x0f,x0g,x0h,x0i,x0j,x0k,Int.reduceEq,Int.reduceLT,Int.reduceLE,Int.reduceToNat,Int.cast_ofNat_Int,List.reduceReplicate]
    refine loop_at (T := Nat) (fun j => [(16, .pure (I j)), (15, .pure (.sl (s.nests.map ns))), (12, .pure (LI (runN nestF (ls, p) (s.nests.take j)).2)), (2, .pure (.sl ((runN nestF (ls, p) (s.nests.take j)).1.map gl))), (14, .pure (I (wr (wr ((ls.length : Int) - lastI p) - 1)))), (3, .pure (I x))])
      (fun _ => []) (fun j => j ≤ s.nests.length) (fun j => s.nests.length - j)
      0 [] (by simp) rfl (by simp) (by simp -implicitDefEqProofs only [show runN nestF (ls, p) [] = (ls, p) from rfl, List.take_zero, kpp,Env.get,x01,x00,x02,x03,List.map,x08,x09,↓reduceIte,reduceCtorEq,Nat.reduceEqDiff,Nat.reduceLeDiff,Nat.reduceLT,Nat.reduceAdd,x0j,x0l,x0m,x0n,x0o,Int.cast_ofNat_Int,x0p,x0i,x07,x06,x0q,x0r,x0s,x0t,x0d,x0u]; first | rfl | exact ⟨rfl, rfl⟩) (by simp -implicitDefEqProofs only [kpp,Env.get,x01,x00,x02,x03,List.map,x08,x09,↓reduceIte,reduceCtorEq,Nat.reduceEqDiff,Nat.reduceLeDiff,Nat.reduceLT,Nat.reduceAdd,x0j,x0l,x0m,x0n,x0o,Int.cast_ofNat_Int,x0p,x0i,x07,x06,x0q,x0r,x0s,x0t,x0d,x0u]) ?_
    intro j hj
    unfold c26_1
    simp -implicitDefEqProofs only [vmp,↓vmd,Env.get,putD,argEnv,List.map,x00,x01,x02,x03,x04,x05,x06,x07,List.take,List.drop,x08,x09,x0a,x0b,List.isEmpty,↓reduceIte,reduceCtorEq,Nat.reduceEqDiff,Nat.reduceAdd,Nat.reduceLeDiff,x0c,Int.reduceNeg,Nat.reduceMul,Nat.reduceSub,x0d,x0e,x0f,x0g,x0h,x0i,x0j,x0k,Int.reduceEq,Int.reduceLT,Int.reduceLE,Int.reduceToNat,Int.cast_ofNat_Int,List.reduceReplicate]
    refine onIf_intro fun _ => ?_
    simp -implicitDefEqProofs only [vmp,↓vmd,Env.get,putD,argEnv,List.map,x00,x01,x02,x03,x04,x05,x06,x07,List.take,List.drop,x08,x09,x0a,x0b,List.isEmpty,↓reduceIte,reduceCtorEq,Nat.reduceEqDiff,Nat.reduceAdd,Nat.reduceLeDiff,x0c,Int.reduceNeg,Nat.reduceMul,Nat.reduceSub,x0d,x0e,x0f,x0g,x0h,x0i,x0j,x0k,Int.reduceEq,Int.reduceLT,Int.reduceLE,Int.reduceToNat,Int.cast_ofNat_Int,List.reduceReplicate]
    have hr1 := runN_len nest_d.len (s.nests.take j) (ls, p)
    simp only [List.length_take] at hr1
    refine onB_dec (fun b1 => ?_) (fun b1 => ?_)
    · have hlt : j < s.nests.length := by omega
      have hsuc := runN_succ (D := nestF) (w := (ls, p)) hlt
      generalize hwj : runN nestF (ls, p) (s.nests.take j) = w at *
      obtain ⟨l, ps⟩ := w
      simp only at hr1
      simp -implicitDefEqProofs only [b1, map_at hlt, Int.natCast_nonneg, vmp,↓vmd,Env.get,putD,argEnv,List.map,x00,x01,x02,x03,x04,x05,x06,x07,List.take,List.drop,x08,x09,x0a,x0b,List.isEmpty,↓reduceIte,reduceCtorEq,Nat.reduceEqDiff,Nat.reduceAdd,Nat.reduceLeDiff,x0c,Int.reduceNeg,Nat.reduceMul,Nat.reduceSub,x0d,x0e,x0f,x0g,x0h,x0i,x0j,x0k,Int.reduceEq,Int.reduceLT,Int.reduceLE,Int.reduceToNat,Int.cast_ofNat_Int,List.reduceReplicate]
      generalize hn' : s.nests[j] = n at *
      rw [stepN] at hsuc
      by_cases n0 : n.at_ < 0
      · rw [if_pos (.inl n0)] at hsuc
        simp -implicitDefEqProofs only [n0, vmp,↓vmd,Env.get,putD,argEnv,List.map,x00,x01,x02,x03,x04,x05,x06,x07,List.take,List.drop,x08,x09,x0a,x0b,List.isEmpty,↓reduceIte,reduceCtorEq,Nat.reduceEqDiff,Nat.reduceAdd,Nat.reduceLeDiff,x0c,Int.reduceNeg,Nat.reduceMul,Nat.reduceSub,x0d,x0e,x0f,x0g,x0h,x0i,x0j,x0k,Int.reduceEq,Int.reduceLT,Int.reduceLE,Int.reduceToNat,Int.cast_ofNat_Int,List.reduceReplicate]
        refine onBk_to (j + 1) [] (by simp) rfl (by omega) hlt (by simp -implicitDefEqProofs only [next_at hlt (by omega), hsuc, kpp,Env.get,x01,x00,x02,x03,List.map,x08,x09,↓reduceIte,reduceCtorEq,Nat.reduceEqDiff,Nat.reduceLeDiff,Nat.reduceLT,Nat.reduceAdd,x0j,x0l,x0m,x0n,x0o,Int.cast_ofNat_Int,x0p,x0i,x07,x06,x0q,x0r,x0s,x0t,x0d,x0u]) (by simp -implicitDefEqProofs only [kpp,Env.get,x01,x00,x02,x03,List.map,x08,x09,↓reduceIte,reduceCtorEq,Nat.reduceEqDiff,Nat.reduceLeDiff,Nat.reduceLT,Nat.reduceAdd,x0j,x0l,x0m,x0n,x0o,Int.cast_ofNat_Int,x0p,x0i,x07,x06,x0q,x0r,x0s,x0t,x0d,x0u])
      simp -implicitDefEqProofs only [n0, map_at hlt, hn', Int.natCast_nonneg, vmp,↓vmd,Env.get,putD,argEnv,List.map,x00,x01,x02,x03,x04,x05,x06,x07,List.take,List.drop,x08,x09,x0a,x0b,List.isEmpty,↓reduceIte,reduceCtorEq,Nat.reduceEqDiff,Nat.reduceAdd,Nat.reduceLeDiff,x0c,Int.reduceNeg,Nat.reduceMul,Nat.reduceSub,x0d,x0e,x0f,x0g,x0h,x0i,x0j,x0k,Int.reduceEq,Int.reduceLT,Int.reduceLE,Int.reduceToNat,Int.cast_ofNat_Int,List.reduceReplicate]
      refine onIf_intro fun _ => ?_
      first | refine envO (by simp -implicitDefEqProofs only [vmp,↓vmd,Env.get,putD,argEnv,List.map,x00,x01,x02,x03,x04,x05,x06,x07,List.take,List.drop,x08,x09,x0a,x0b,List.isEmpty,↓reduceIte,reduceCtorEq,Nat.reduceEqDiff,Nat.reduceAdd,Nat.reduceLeDiff,x0c,Int.reduceNeg,Nat.reduceMul,Nat.reduceSub,x0d,x0e,x0f,x0g,x0h,x0i,x0j,x0k,Int.reduceEq,Int.reduceLT,Int.reduceLE,Int.reduceToNat,Int.cast_ofNat_Int,List.reduceReplicate]; rfl) ?_ | refine envQ (by simp -implicitDefEqProofs only [vmp,↓vmd,Env.get,putD,argEnv,List.map,x00,x01,x02,x03,x04,x05,x06,x07,List.take,List.drop,x08,x09,x0a,x0b,List.isEmpty,↓reduceIte,reduceCtorEq,Nat.reduceEqDiff,Nat.reduceAdd,Nat.reduceLeDiff,x0c,Int.reduceNeg,Nat.reduceMul,Nat.reduceSub,x0d,x0e,x0f,x0g,x0h,x0i,x0j,x0k,Int.reduceEq,Int.reduceLT,Int.reduceLE,Int.reduceToNat,Int.cast_ofNat_Int,List.reduceReplicate]; rfl) ?_
      by_cases n1 : (ps.length : Int) ≤ n.at_
      · rw [if_pos (.inr n1)] at hsuc
        simp -implicitDefEqProofs only [n0, n1, vmp,↓vmd,Env.get,putD,argEnv,List.map,x00,x01,x02,x03,x04,x05,x06,x07,List.take,List.drop,x08,x09,x0a,x0b,List.isEmpty,↓reduceIte,reduceCtorEq,Nat.reduceEqDiff,Nat.reduceAdd,Nat.reduceLeDiff,x0c,Int.reduceNeg,Nat.reduceMul,Nat.reduceSub,x0d,x0e,x0f,x0g,x0h,x0i,x0j,x0k,Int.reduceEq,Int.reduceLT,Int.reduceLE,Int.reduceToNat,Int.cast_ofNat_Int,List.reduceReplicate]
        refine onBk_to (j + 1) [] (by simp) rfl (by omega) hlt (by simp -implicitDefEqProofs only [next_at hlt (by omega), hsuc, kpp,Env.get,x01,x00,x02,x03,List.map,x08,x09,↓reduceIte,reduceCtorEq,Nat.reduceEqDiff,Nat.reduceLeDiff,Nat.reduceLT,Nat.reduceAdd,x0j,x0l,x0m,x0n,x0o,Int.cast_ofNat_Int,x0p,x0i,x07,x06,x0q,x0r,x0s,x0t,x0d,x0u]) (by simp -implicitDefEqProofs only [kpp,Env.get,x01,x00,x02,x03,List.map,x08,x09,↓reduceIte,reduceCtorEq,Nat.reduceEqDiff,Nat.reduceLeDiff,Nat.reduceLT,Nat.reduceAdd,x0j,x0l,x0m,x0n,x0o,Int.cast_ofNat_Int,x0p,x0i,x07,x06,x0q,x0r,x0s,x0t,x0d,x0u])
      have m0 : 0 ≤ n.at_ := by omega
      have m1 : n.at_ < ps.length := by omega
      have hp := intAt_map m0 m1
      rw [if_neg (by simp only; omega)] at hsuc
      simp only at hsuc
      simp -implicitDefEqProofs only [n0, n1, m0, m1, hp, map_at hlt, hn', Int.natCast_nonneg, vmp,↓vmd,Env.get,putD,argEnv,List.map,x00,x01,x02,x03,x04,x05,x06,x07,List.take,List.drop,x08,x09,x0a,x0b,List.isEmpty,↓reduceIte,reduceCtorEq,Nat.reduceEqDiff,Nat.reduceAdd,Nat.reduceLeDiff,x0c,Int.reduceNeg,Nat.reduceMul,Nat.reduceSub,x0d,x0e,x0f,x0g,x0h,x0i,x0j,x0k,Int.reduceEq,Int.reduceLT,Int.reduceLE,Int.reduceToNat,Int.cast_ofNat_Int,List.reduceReplicate]
      generalize intAt ps n.at_ = y at *
      by_cases p0 : y < 0
      · rw [if_pos (.inl p0)] at hsuc
        simp -implicitDefEqProofs only [p0, vmp,↓vmd,Env.get,putD,argEnv,List.map,x00,x01,x02,x03,x04,x05,x06,x07,List.take,List.drop,x08,x09,x0a,x0b,List.isEmpty,↓reduceIte,reduceCtorEq,Nat.reduceEqDiff,Nat.reduceAdd,Nat.reduceLeDiff,x0c,Int.reduceNeg,Nat.reduceMul,Nat.reduceSub,x0d,x0e,x0f,x0g,x0h,x0i,x0j,x0k,Int.reduceEq,Int.reduceLT,Int.reduceLE,Int.reduceToNat,Int.cast_ofNat_Int,List.reduceReplicate]
        refine onBk_to (j + 1) [] (by simp) rfl (by omega) hlt (by simp -implicitDefEqProofs only [next_at hlt (by omega), hsuc, kpp,Env.get,x01,x00,x02,x03,List.map,x08,x09,↓reduceIte,reduceCtorEq,Nat.reduceEqDiff,Nat.reduceLeDiff,Nat.reduceLT,Nat.reduceAdd,x0j,x0l,x0m,x0n,x0o,Int.cast_ofNat_Int,x0p,x0i,x07,x06,x0q,x0r,x0s,x0t,x0d,x0u]) (by simp -implicitDefEqProofs only [kpp,Env.get,x01,x00,x02,x03,List.map,x08,x09,↓reduceIte,reduceCtorEq,Nat.reduceEqDiff,Nat.reduceLeDiff,Nat.reduceLT,Nat.reduceAdd,x0j,x0l,x0m,x0n,x0o,Int.cast_ofNat_Int,x0p,x0i,x07,x06,x0q,x0r,x0s,x0t,x0d,x0u])
      simp -implicitDefEqProofs only [p0, vmp,↓vmd,Env.get,putD,argEnv,List.map,x00,x01,x02,x03,x04,x05,x06,x07,List.take,List.drop,x08,x09,x0a,x0b,List.isEmpty,↓reduceIte,reduceCtorEq,Nat.reduceEqDiff,Nat.reduceAdd,Nat.reduceLeDiff,x0c,Int.reduceNeg,Nat.reduceMul,Nat.reduceSub,x0d,x0e,x0f,x0g,x0h,x0i,x0j,x0k,Int.reduceEq,Int.reduceLT,Int.reduceLE,Int.reduceToNat,Int.cast_ofNat_Int,List.reduceReplicate]
      refine onIf_intro fun _ => ?_
      first | refine envO (by simp -implicitDefEqProofs only [vmp,↓vmd,Env.get,putD,argEnv,List.map,x00,x01,x02,x03,x04,x05,x06,x07,List.take,List.drop,x08,x09,x0a,x0b,List.isEmpty,↓reduceIte,reduceCtorEq,Nat.reduceEqDiff,Nat.reduceAdd,Nat.reduceLeDiff,x0c,Int.reduceNeg,Nat.reduceMul,Nat.reduceSub,x0d,x0e,x0f,x0g,x0h,x0i,x0j,x0k,Int.reduceEq,Int.reduceLT,Int.reduceLE,Int.reduceToNat,Int.cast_ofNat_Int,List.reduceReplicate]; rfl) ?_ | refine envQ (by simp -implicitDefEqProofs only [vmp,↓vmd,Env.get,putD,argEnv,List.map,x00,x01,x02,x03,x04,x05,x06,x07,List.take,List.drop,x08,x09,x0a,x0b,List.isEmpty,↓reduceIte,reduceCtorEq,Nat.reduceEqDiff,Nat.reduceAdd,Nat.reduceLeDiff,x0c,Int.reduceNeg,Nat.reduceMul,Nat.reduceSub,x0d,x0e,x0f,x0g,x0h,x0i,x0j,x0k,Int.reduceEq,Int.reduceLT,Int.reduceLE,Int.reduceToNat,Int.cast_ofNat_Int,List.reduceReplicate]; rfl) ?_
      by_cases p1 : (l.length : Int) ≤ y
      · rw [if_pos (.inr p1)] at hsuc
        simp -implicitDefEqProofs only [p0, p1, vmp,↓vmd,Env.get,putD,argEnv,List.map,x00,x01,x02,x03,x04,x05,x06,x07,List.take,List.drop,x08,x09,x0a,x0b,List.isEmpty,↓reduceIte,reduceCtorEq,Nat.reduceEqDiff,Nat.reduceAdd,Nat.reduceLeDiff,x0c,Int.reduceNeg,Nat.reduceMul,Nat.reduceSub,x0d,x0e,x0f,x0g,x0h,x0i,x0j,x0k,Int.reduceEq,Int.reduceLT,Int.reduceLE,Int.reduceToNat,Int.cast_ofNat_Int,List.reduceReplicate]
        refine onBk_to (j + 1) [] (by simp) rfl (by omega) hlt (by simp -implicitDefEqProofs only [next_at hlt (by omega), hsuc, kpp,Env.get,x01,x00,x02,x03,List.map,x08,x09,↓reduceIte,reduceCtorEq,Nat.reduceEqDiff,Nat.reduceLeDiff,Nat.reduceLT,Nat.reduceAdd,x0j,x0l,x0m,x0n,x0o,Int.cast_ofNat_Int,x0p,x0i,x07,x06,x0q,x0r,x0s,x0t,x0d,x0u]) (by simp -implicitDefEqProofs only [kpp,Env.get,x01,x00,x02,x03,List.map,x08,x09,↓reduceIte,reduceCtorEq,Nat.reduceEqDiff,Nat.reduceLeDiff,Nat.reduceLT,Nat.reduceAdd,x0j,x0l,x0m,x0n,x0o,Int.cast_ofNat_Int,x0p,x0i,x07,x06,x0q,x0r,x0s,x0t,x0d,x0u])
      rw [if_neg (by omega)] at hsuc
      simp -implicitDefEqProofs only [p0, p1, map_at hlt, hn', Int.natCast_nonneg, vmp,↓vmd,Env.get,putD,argEnv,List.map,x00,x01,x02,x03,x04,x05,x06,x07,List.take,List.drop,x08,x09,x0a,x0b,List.isEmpty,↓reduceIte,reduceCtorEq,Nat.reduceEqDiff,Nat.reduceAdd,Nat.reduceLeDiff,x0c,Int.reduceNeg,Nat.reduceMul,Nat.reduceSub,x0d,x0e,x0f,x0g,x0h,x0i,x0j,x0k,Int.reduceEq,Int.reduceLT,Int.reduceLE,Int.reduceToNat,Int.cast_ofNat_Int,List.reduceReplicate]
      have two := nest_d.two l n.lookup y (by omega)
      rcases two with ⟨hq', hc2⟩ | ⟨l', hq', hc2, hl'⟩
      · rw [hc2] at hsuc
        simp only at hsuc
        refine onC_q hq' rfl ?_
        first | refine envO (by simp -implicitDefEqProofs only [vmp,↓vmd,Env.get,putD,argEnv,List.map,x00,x01,x02,x03,x04,x05,x06,x07,List.take,List.drop,x08,x09,x0a,x0b,List.isEmpty,↓reduceIte,reduceCtorEq,Nat.reduceEqDiff,Nat.reduceAdd,Nat.reduceLeDiff,x0c,Int.reduceNeg,Nat.reduceMul,Nat.reduceSub,x0d,x0e,x0f,x0g,x0h,x0i,x0j,x0k,Int.reduceEq,Int.reduceLT,Int.reduceLE,Int.reduceToNat,Int.cast_ofNat_Int,List.reduceReplicate]; rfl) ?_ | refine envQ (by simp -implicitDefEqProofs only [vmp,↓vmd,Env.get,putD,argEnv,List.map,x00,x01,x02,x03,x04,x05,x06,x07,List.take,List.drop,x08,x09,x0a,x0b,List.isEmpty,↓reduceIte,reduceCtorEq,Nat.reduceEqDiff,Nat.reduceAdd,Nat.reduceLeDiff,x0c,Int.reduceNeg,Nat.reduceMul,Nat.reduceSub,x0d,x0e,x0f,x0g,x0h,x0i,x0j,x0k,Int.reduceEq,Int.reduceLT,Int.reduceLE,Int.reduceToNat,Int.cast_ofNat_Int,List.reduceReplicate]; rfl) ?_
        simp -implicitDefEqProofs only [vmp,↓vmd,Env.get,putD,argEnv,List.map,x00,x01,x02,x03,x04,x05,x06,x07,List.take,List.drop,x08,x09,x0a,x0b,List.isEmpty,↓reduceIte,reduceCtorEq,Nat.reduceEqDiff,Nat.reduceAdd,Nat.reduceLeDiff,x0c,Int.reduceNeg,Nat.reduceMul,Nat.reduceSub,x0d,x0e,x0f,x0g,x0h,x0i,x0j,x0k,Int.reduceEq,Int.reduceLT,Int.reduceLE,Int.reduceToNat,Int.cast_ofNat_Int,List.reduceReplicate]
        refine onBk_to (j + 1) [] (by simp) rfl (by omega) hlt (by simp -implicitDefEqProofs only [next_at hlt (by omega), hsuc, kpp,Env.get,x01,x00,x02,x03,List.map,x08,x09,↓reduceIte,reduceCtorEq,Nat.reduceEqDiff,Nat.reduceLeDiff,Nat.reduceLT,Nat.reduceAdd,x0j,x0l,x0m,x0n,x0o,Int.cast_ofNat_Int,x0p,x0i,x07,x06,x0q,x0r,x0s,x0t,x0d,x0u]) (by simp -implicitDefEqProofs only [kpp,Env.get,x01,x00,x02,x03,List.map,x08,x09,↓reduceIte,reduceCtorEq,Nat.reduceEqDiff,Nat.reduceLeDiff,Nat.reduceLT,Nat.reduceAdd,x0j,x0l,x0m,x0n,x0o,Int.cast_ofNat_Int,x0p,x0i,x07,x06,x0q,x0r,x0s,x0t,x0d,x0u])
      · rw [hc2] at hsuc
        simp only at hsuc
        refine onC_q hq' rfl ?_
        first | refine envO (by simp -implicitDefEqProofs only [vmp,↓vmd,Env.get,putD,argEnv,List.map,x00,x01,x02,x03,x04,x05,x06,x07,List.take,List.drop,x08,x09,x0a,x0b,List.isEmpty,↓reduceIte,reduceCtorEq,Nat.reduceEqDiff,Nat.reduceAdd,Nat.reduceLeDiff,x0c,Int.reduceNeg,Nat.reduceMul,Nat.reduceSub,x0d,x0e,x0f,x0g,x0h,x0i,x0j,x0k,Int.reduceEq,Int.reduceLT,Int.reduceLE,Int.reduceToNat,Int.cast_ofNat_Int,List.reduceReplicate]; rfl) ?_ | refine envQ (by simp -implicitDefEqProofs only [vmp,↓vmd,Env.get,putD,argEnv,List.map,x00,x01,x02,x03,x04,x05,x06,x07,List.take,List.drop,x08,x09,x0a,x0b,List.isEmpty,↓reduceIte,reduceCtorEq,Nat.reduceEqDiff,Nat.reduceAdd,Nat.reduceLeDiff,x0c,Int.reduceNeg,Nat.reduceMul,Nat.reduceSub,x0d,x0e,x0f,x0g,x0h,x0i,x0j,x0k,Int.reduceEq,Int.reduceLT,Int.reduceLE,Int.reduceToNat,Int.cast_ofNat_Int,List.reduceReplicate]; rfl) ?_
        simp -implicitDefEqProofs only [vmp,↓vmd,Env.get,putD,argEnv,List.map,x00,x01,x02,x03,x04,x05,x06,x07,List.take,List.drop,x08,x09,x0a,x0b,List.isEmpty,↓reduceIte,reduceCtorEq,Nat.reduceEqDiff,Nat.reduceAdd,Nat.reduceLeDiff,x0c,Int.reduceNeg,Nat.reduceMul,Nat.reduceSub,x0d,x0e,x0f,x0g,x0h,x0i,x0j,x0k,Int.reduceEq,Int.reduceLT,Int.reduceLE,Int.reduceToNat,Int.cast_ofNat_Int,List.reduceReplicate]
        refine onIf_intro fun _ => ?_
        simp -implicitDefEqProofs only [vmp,↓vmd,Env.get,putD,argEnv,List.map,x00,x01,x02,x03,x04,x05,x06,x07,List.take,List.drop,x08,x09,x0a,x0b,List.isEmpty,↓reduceIte,reduceCtorEq,Nat.reduceEqDiff,Nat.reduceAdd,Nat.reduceLeDiff,x0c,Int.reduceNeg,Nat.reduceMul,Nat.reduceSub,x0d,x0e,x0f,x0g,x0h,x0i,x0j,x0k,Int.reduceEq,Int.reduceLT,Int.reduceLE,Int.reduceToNat,Int.cast_ofNat_Int,List.reduceReplicate]
        refine onIf_intro fun _ => ?_
        simp -implicitDefEqProofs only [vmp,↓vmd,Env.get,putD,argEnv,List.map,x00,x01,x02,x03,x04,x05,x06,x07,List.take,List.drop,x08,x09,x0a,x0b,List.isEmpty,↓reduceIte,reduceCtorEq,Nat.reduceEqDiff,Nat.reduceAdd,Nat.reduceLeDiff,x0c,Int.reduceNeg,Nat.reduceMul,Nat.reduceSub,x0d,x0e,x0f,x0g,x0h,x0i,x0j,x0k,Int.reduceEq,Int.reduceLT,Int.reduceLE,Int.reduceToNat,Int.cast_ofNat_Int,List.reduceReplicate]
        refine onC_q (rmoved_q ps y l.length l'.length (by omega)) rfl ?_
        first | refine envO (by simp -implicitDefEqProofs only [vmp,↓vmd,Env.get,putD,argEnv,List.map,x00,x01,x02,x03,x04,x05,x06,x07,List.take,List.drop,x08,x09,x0a,x0b,List.isEmpty,↓reduceIte,reduceCtorEq,Nat.reduceEqDiff,Nat.reduceAdd,Nat.reduceLeDiff,x0c,Int.reduceNeg,Nat.reduceMul,Nat.reduceSub,x0d,x0e,x0f,x0g,x0h,x0i,x0j,x0k,Int.reduceEq,Int.reduceLT,Int.reduceLE,Int.reduceToNat,Int.cast_ofNat_Int,List.reduceReplicate]; rfl) ?_ | refine envQ (by simp -implicitDefEqProofs only [vmp,↓vmd,Env.get,putD,argEnv,List.map,x00,x01,x02,x03,x04,x05,x06,x07,List.take,List.drop,x08,x09,x0a,x0b,List.isEmpty,↓reduceIte,reduceCtorEq,Nat.reduceEqDiff,Nat.reduceAdd,Nat.reduceLeDiff,x0c,Int.reduceNeg,Nat.reduceMul,Nat.reduceSub,x0d,x0e,x0f,x0g,x0h,x0i,x0j,x0k,Int.reduceEq,Int.reduceLT,Int.reduceLE,Int.reduceToNat,Int.cast_ofNat_Int,List.reduceReplicate]; rfl) ?_
        simp -implicitDefEqProofs only [vmp,↓vmd,Env.get,putD,argEnv,List.map,x00,x01,x02,x03,x04,x05,x06,x07,List.take,List.drop,x08,x09,x0a,x0b,List.isEmpty,↓reduceIte,reduceCtorEq,Nat.reduceEqDiff,Nat.reduceAdd,Nat.reduceLeDiff,x0c,Int.reduceNeg,Nat.reduceMul,Nat.reduceSub,x0d,x0e,x0f,x0g,x0h,x0i,x0j,x0k,Int.reduceEq,Int.reduceLT,Int.reduceLE,Int.reduceToNat,Int.cast_ofNat_Int,List.reduceReplicate]
        refine onBk_to (j + 1) [] (by simp) rfl (by omega) hlt (by simp -implicitDefEqProofs only [next_at hlt (by omega), hsuc, kpp,Env.get,x01,x00,x02,x03,List.map,x08,x09,↓reduceIte,reduceCtorEq,Nat.reduceEqDiff,Nat.reduceLeDiff,Nat.reduceLT,Nat.reduceAdd,x0j,x0l,x0m,x0n,x0o,Int.cast_ofNat_Int,x0p,x0i,x07,x06,x0q,x0r,x0s,x0t,x0d,x0u]) (by simp -implicitDefEqProofs only [kpp,Env.get,x01,x00,x02,x03,List.map,x08,x09,↓reduceIte,reduceCtorEq,Nat.reduceEqDiff,Nat.reduceLeDiff,Nat.reduceLT,Nat.reduceAdd,x0j,x0l,x0m,x0n,x0o,Int.cast_ofNat_Int,x0p,x0i,x07,x06,x0q,x0r,x0s,x0t,x0d,x0u])
    · obtain rfl : j = s.nests.length := by omega
      rw [List.take_length] at hr1 ⊢
      generalize hwj : runN nestF (ls, p) s.nests = w at *
      simp -implicitDefEqProofs only [b1, vmp,↓vmd,Env.get,putD,argEnv,List.map,x00,x01,x02,x03,x04,x05,x06,x07,List.take,List.drop,x08,x09,x0a,x0b,List.isEmpty,↓reduceIte,reduceCtorEq,Nat.reduceEqDiff,Nat.reduceAdd,Nat.reduceLeDiff,x0c,Int.reduceNeg,Nat.reduceMul,Nat.reduceSub,x0d,x0e,x0f,x0g,x0h,x0i,x0j,x0k,Int.reduceEq,Int.reduceLT,Int.reduceLE,Int.reduceToNat,Int.cast_ofNat_Int,List.reduceReplicate]
      unfold c26_0
      simp -implicitDefEqProofs only [vmp,↓vmd,Env.get,putD,argEnv,List.map,x00,x01,x02,x03,x04,x05,x06,x07,List.take,List.drop,x08,x09,x0a,x0b,List.isEmpty,↓reduceIte,reduceCtorEq,Nat.reduceEqDiff,Nat.reduceAdd,Nat.reduceLeDiff,x0c,Int.reduceNeg,Nat.reduceMul,Nat.reduceSub,x0d,x0e,x0f,x0g,x0h,x0i,x0j,x0k,Int.reduceEq,Int.reduceLT,Int.reduceLE,Int.reduceToNat,Int.cast_ofNat_Int,List.reduceReplicate]
      refine onIf_intro fun _ => ?_
      simp -implicitDefEqProofs only [vmp,↓vmd,Env.get,putD,argEnv,List.map,x00,x01,x02,x03,x04,x05,x06,x07,List.take,List.drop,x08,x09,x0a,x0b,List.isEmpty,↓reduceIte,reduceCtorEq,Nat.reduceEqDiff,Nat.reduceAdd,Nat.reduceLeDiff,x0c,Int.reduceNeg,Nat.reduceMul,Nat.reduceSub,x0d,x0e,x0f,x0g,x0h,x0i,x0j,x0k,Int.reduceEq,Int.reduceLT,Int.reduceLE,Int.reduceToNat,Int.cast_ofNat_Int,List.reduceReplicate]
      exact gives_tup rfl (by simp)
theorem greatC_nests {f : Fo} {k : Lk} {n : Nat} (h : greatC f k n = false) : ∀ s ∈ k.subs, s.nests.length ≤ 8 := by
  intro s hs
  simp only [greatC, Bool.or_eq_false_iff, List.any_eq_false] at h
  have := h.2 s hs
  simp only [wideS, Bool.or_eq_true, not_or, decide_eq_true_eq] at this
  omega
theorem ca_law (f : Fo) (k : Lk) (ls : List Gl) (x : Int) : FnQ Try.prog 7 [fo f, lk k, .agg [.sl (ls.map gl), I x]] [.bool true] := by
  refine q7 (by simp) ?_
  unfold c7
  simp -implicitDefEqProofs only [*, vmp,↓vmd,Env.get,putD,argEnv,List.map,x00,x01,x02,x03,x04,x05,x06,x07,List.take,List.drop,x08,x09,x0a,x0b,List.isEmpty,↓reduceIte,reduceCtorEq,Nat.reduceEqDiff,Nat.reduceAdd,Nat.reduceLeDiff,x0c,Int.reduceNeg,Nat.reduceMul,Nat.reduceSub,x0d,x0e,x0f,x0g,x0h,x0i,x0j,x0k,Int.reduceEq,Int.reduceLT,Int.reduceLE,Int.reduceToNat,Int.cast_ofNat_Int,List.reduceReplicate]
  refine onC_q (greatc_q f k (ls.map gl)) rfl ?_
  first | refine envO (by simp -implicitDefEqProofs only [vmp,↓vmd,Env.get,putD,argEnv,List.map,x00,x01,x02,x03,x04,x05,x06,x07,List.take,List.drop,x08,x09,x0a,x0b,List.isEmpty,↓reduceIte,reduceCtorEq,Nat.reduceEqDiff,Nat.reduceAdd,Nat.reduceLeDiff,x0c,Int.reduceNeg,Nat.reduceMul,Nat.reduceSub,x0d,x0e,x0f,x0g,x0h,x0i,x0j,x0k,Int.reduceEq,Int.reduceLT,Int.reduceLE,Int.reduceToNat,Int.cast_ofNat_Int,List.reduceReplicate]; rfl) ?_ | refine envQ (by simp -implicitDefEqProofs only [vmp,↓vmd,Env.get,putD,argEnv,List.map,x00,x01,x02,x03,x04,x05,x06,x07,List.take,List.drop,x08,x09,x0a,x0b,List.isEmpty,↓reduceIte,reduceCtorEq,Nat.reduceEqDiff,Nat.reduceAdd,Nat.reduceLeDiff,x0c,Int.reduceNeg,Nat.reduceMul,Nat.reduceSub,x0d,x0e,x0f,x0g,x0h,x0i,x0j,x0k,Int.reduceEq,Int.reduceLT,Int.reduceLE,Int.reduceToNat,Int.cast_ofNat_Int,List.reduceReplicate]; rfl) ?_
  simp -implicitDefEqProofs only [vmp,↓vmd,Env.get,putD,argEnv,List.map,x00,x01,x02,x03,x04,x05,x06,x07,List.take,List.drop,x08,x09,x0a,x0b,List.isEmpty,↓reduceIte,reduceCtorEq,Nat.reduceEqDiff,Nat.reduceAdd,Nat.reduceLeDiff,x0c,Int.reduceNeg,Nat.reduceMul,Nat.reduceSub,x0d,x0e,x0f,x0g,x0h,x0i,x0j,x0k,Int.reduceEq,Int.reduceLT,Int.reduceLE,Int.reduceToNat,Int.cast_ofNat_Int,List.reduceReplicate]
  refine onB_intro (fun h => ?_) (fun h => ?_)
  · simp -implicitDefEqProofs only [h, vmp,↓vmd,Env.get,putD,argEnv,List.map,x00,x01,x02,x03,x04,x05,x06,x07,List.take,List.drop,x08,x09,x0a,x0b,List.isEmpty,↓reduceIte,reduceCtorEq,Nat.reduceEqDiff,Nat.reduceAdd,Nat.reduceLeDiff,x0c,Int.reduceNeg,Nat.reduceMul,Nat.reduceSub,x0d,x0e,x0f,x0g,x0h,x0i,x0j,x0k,Int.reduceEq,Int.reduceLT,Int.reduceLE,Int.reduceToNat,Int.cast_ofNat_Int,List.reduceReplicate]
    exact gives_pure
  obtain ⟨g1, g2, g3⟩ := greatC_not h
  have g4 := greatC_nests h
  simp -implicitDefEqProofs only [h, vmp,↓vmd,Env.get,putD,argEnv,List.map,x00,x01,x02,x03,x04,x05,x06,x07,List.take,List.drop,x08,x09,x0a,x0b,List.isEmpty,↓reduceIte,reduceCtorEq,Nat.reduceEqDiff,Nat.reduceAdd,Nat.reduceLeDiff,x0c,Int.reduceNeg,Nat.reduceMul,Nat.reduceSub,x0d,x0e,x0f,x0g,x0h,x0i,x0j,x0k,Int.reduceEq,Int.reduceLT,Int.reduceLE,Int.reduceToNat,Int.cast_ofNat_Int,List.reduceReplicate]
  have h1 := apply_q _ _ nest_d f k ls (by omega) x g3 g4
  have h2 := rctx_q f k ls (by omega) x g3 g4
  cases hc : ctxF nestF f k ls x with
  | none =>
    rw [hc] at h1 h2
    have h1' : FnQ Try.prog 24 [fo f, lk k, .sl (ls.map gl), I x, .func (.func 25) [] []] [.sl (([] : List Gl).map gl), I 0, .bool false] := h1
    have h2' : FnQ Try.prog 26 [fo f, lk k, .sl (ls.map gl), I x] [.sl (([] : List Gl).map gl), I 0, .bool false] := h2
    refine onC_q h1' rfl ?_
    first | refine envO (by simp -implicitDefEqProofs only [vmp,↓vmd,Env.get,putD,argEnv,List.map,x00,x01,x02,x03,x04,x05,x06,x07,List.take,List.drop,x08,x09,x0a,x0b,List.isEmpty,↓reduceIte,reduceCtorEq,Nat.reduceEqDiff,Nat.reduceAdd,Nat.reduceLeDiff,x0c,Int.reduceNeg,Nat.reduceMul,Nat.reduceSub,x0d,x0e,x0f,x0g,x0h,x0i,x0j,x0k,Int.reduceEq,Int.reduceLT,Int.reduceLE,Int.reduceToNat,Int.cast_ofNat_Int,List.reduceReplicate]; rfl) ?_ | refine envQ (by simp -implicitDefEqProofs only [vmp,↓vmd,Env.get,putD,argEnv,List.map,x00,x01,x02,x03,x04,x05,x06,x07,List.take,List.drop,x08,x09,x0a,x0b,List.isEmpty,↓reduceIte,reduceCtorEq,Nat.reduceEqDiff,Nat.reduceAdd,Nat.reduceLeDiff,x0c,Int.reduceNeg,Nat.reduceMul,Nat.reduceSub,x0d,x0e,x0f,x0g,x0h,x0i,x0j,x0k,Int.reduceEq,Int.reduceLT,Int.reduceLE,Int.reduceToNat,Int.cast_ofNat_Int,List.reduceReplicate]; rfl) ?_
    simp -implicitDefEqProofs only [vmp,↓vmd,Env.get,putD,argEnv,List.map,x00,x01,x02,x03,x04,x05,x06,x07,List.take,List.drop,x08,x09,x0a,x0b,List.isEmpty,↓reduceIte,reduceCtorEq,Nat.reduceEqDiff,Nat.reduceAdd,Nat.reduceLeDiff,x0c,Int.reduceNeg,Nat.reduceMul,Nat.reduceSub,x0d,x0e,x0f,x0g,x0h,x0i,x0j,x0k,Int.reduceEq,Int.reduceLT,Int.reduceLE,Int.reduceToNat,Int.cast_ofNat_Int,List.reduceReplicate]
    refine onC_q h2' rfl ?_
    first | refine envO (by simp -implicitDefEqProofs only [vmp,↓vmd,Env.get,putD,argEnv,List.map,x00,x01,x02,x03,x04,x05,x06,x07,List.take,List.drop,x08,x09,x0a,x0b,List.isEmpty,↓reduceIte,reduceCtorEq,Nat.reduceEqDiff,Nat.reduceAdd,Nat.reduceLeDiff,x0c,Int.reduceNeg,Nat.reduceMul,Nat.reduceSub,x0d,x0e,x0f,x0g,x0h,x0i,x0j,x0k,Int.reduceEq,Int.reduceLT,Int.reduceLE,Int.reduceToNat,Int.cast_ofNat_Int,List.reduceReplicate]; rfl) ?_ | refine envQ (by simp -implicitDefEqProofs only [vmp,↓vmd,Env.get,putD,argEnv,List.map,x00,x01,x02,x03,x04,x05,x06,x07,List.take,List.drop,x08,x09,x0a,x0b,List.isEmpty,↓reduceIte,reduceCtorEq,Nat.reduceEqDiff,Nat.reduceAdd,Nat.reduceLeDiff,x0c,Int.reduceNeg,Nat.reduceMul,Nat.reduceSub,x0d,x0e,x0f,x0g,x0h,x0i,x0j,x0k,Int.reduceEq,Int.reduceLT,Int.reduceLE,Int.reduceToNat,Int.cast_ofNat_Int,List.reduceReplicate]; rfl) ?_
    simp -implicitDefEqProofs only [vmp,↓vmd,Env.get,putD,argEnv,List.map,x00,x01,x02,x03,x04,x05,x06,x07,List.take,List.drop,x08,x09,x0a,x0b,List.isEmpty,↓reduceIte,reduceCtorEq,Nat.reduceEqDiff,Nat.reduceAdd,Nat.reduceLeDiff,x0c,Int.reduceNeg,Nat.reduceMul,Nat.reduceSub,x0d,x0e,x0f,x0g,x0h,x0i,x0j,x0k,Int.reduceEq,Int.reduceLT,Int.reduceLE,Int.reduceToNat,Int.cast_ofNat_Int,List.reduceReplicate]
    refine onC_q (same29_q [] []) rfl ?_
    simp -implicitDefEqProofs only [vmp,↓vmd,Env.get,putD,argEnv,List.map,x00,x01,x02,x03,x04,x05,x06,x07,List.take,List.drop,x08,x09,x0a,x0b,List.isEmpty,↓reduceIte,reduceCtorEq,Nat.reduceEqDiff,Nat.reduceAdd,Nat.reduceLeDiff,x0c,Int.reduceNeg,Nat.reduceMul,Nat.reduceSub,x0d,x0e,x0f,x0g,x0h,x0i,x0j,x0k,Int.reduceEq,Int.reduceLT,Int.reduceLE,Int.reduceToNat,Int.cast_ofNat_Int,List.reduceReplicate]
    exact gives_pure
  | some q =>
    rw [hc] at h1 h2
    have h1' : FnQ Try.prog 24 [fo f, lk k, .sl (ls.map gl), I x, .func (.func 25) [] []] [.sl (q.1.map gl), I q.2, .bool true] := h1
    have h2' : FnQ Try.prog 26 [fo f, lk k, .sl (ls.map gl), I x] [.sl (q.1.map gl), I q.2, .bool true] := h2
    refine onC_q h1' rfl ?_
    first | refine envO (by simp -implicitDefEqProofs only [vmp,↓vmd,Env.get,putD,argEnv,List.map,x00,x01,x02,x03,x04,x05,x06,x07,List.take,List.drop,x08,x09,x0a,x0b,List.isEmpty,↓reduceIte,reduceCtorEq,Nat.reduceEqDiff,Nat.reduceAdd,Nat.reduceLeDiff,x0c,Int.reduceNeg,Nat.reduceMul,Nat.reduceSub,x0d,x0e,x0f,x0g,x0h,x0i,x0j,x0k,Int.reduceEq,Int.reduceLT,Int.reduceLE,Int.reduceToNat,Int.cast_ofNat_Int,List.reduceReplicate]; rfl) ?_ | refine envQ (by simp -implicitDefEqProofs only [vmp,↓vmd,Env.get,putD,argEnv,List.map,x00,x01,x02,x03,x04,x05,x06,x07,List.take,List.drop,x08,x09,x0a,x0b,List.isEmpty,↓reduceIte,reduceCtorEq,Nat.reduceEqDiff,Nat.reduceAdd,Nat.reduceLeDiff,x0c,Int.reduceNeg,Nat.reduceMul,Nat.reduceSub,x0d,x0e,x0f,x0g,x0h,x0i,x0j,x0k,Int.reduceEq,Int.reduceLT,Int.reduceLE,Int.reduceToNat,Int.cast_ofNat_Int,List.reduceReplicate]; rfl) ?_
    simp -implicitDefEqProofs only [vmp,↓vmd,Env.get,putD,argEnv,List.map,x00,x01,x02,x03,x04,x05,x06,x07,List.take,List.drop,x08,x09,x0a,x0b,List.isEmpty,↓reduceIte,reduceCtorEq,Nat.reduceEqDiff,Nat.reduceAdd,Nat.reduceLeDiff,x0c,Int.reduceNeg,Nat.reduceMul,Nat.reduceSub,x0d,x0e,x0f,x0g,x0h,x0i,x0j,x0k,Int.reduceEq,Int.reduceLT,Int.reduceLE,Int.reduceToNat,Int.cast_ofNat_Int,List.reduceReplicate]
    refine onC_q h2' rfl ?_
    first | refine envO (by simp -implicitDefEqProofs only [vmp,↓vmd,Env.get,putD,argEnv,List.map,x00,x01,x02,x03,x04,x05,x06,x07,List.take,List.drop,x08,x09,x0a,x0b,List.isEmpty,↓reduceIte,reduceCtorEq,Nat.reduceEqDiff,Nat.reduceAdd,Nat.reduceLeDiff,x0c,Int.reduceNeg,Nat.reduceMul,Nat.reduceSub,x0d,x0e,x0f,x0g,x0h,x0i,x0j,x0k,Int.reduceEq,Int.reduceLT,Int.reduceLE,Int.reduceToNat,Int.cast_ofNat_Int,List.reduceReplicate]; rfl) ?_ | refine envQ (by simp -implicitDefEqProofs only [vmp,↓vmd,Env.get,putD,argEnv,List.map,x00,x01,x02,x03,x04,x05,x06,x07,List.take,List.drop,x08,x09,x0a,x0b,List.isEmpty,↓reduceIte,reduceCtorEq,Nat.reduceEqDiff,Nat.reduceAdd,Nat.reduceLeDiff,x0c,Int.reduceNeg,Nat.reduceMul,Nat.reduceSub,x0d,x0e,x0f,x0g,x0h,x0i,x0j,x0k,Int.reduceEq,Int.reduceLT,Int.reduceLE,Int.reduceToNat,Int.cast_ofNat_Int,List.reduceReplicate]; rfl) ?_
    simp -implicitDefEqProofs only [vmp,↓vmd,Env.get,putD,argEnv,List.map,x00,x01,x02,x03,x04,x05,x06,x07,List.take,List.drop,x08,x09,x0a,x0b,List.isEmpty,↓reduceIte,reduceCtorEq,Nat.reduceEqDiff,Nat.reduceAdd,Nat.reduceLeDiff,x0c,Int.reduceNeg,Nat.reduceMul,Nat.reduceSub,x0d,x0e,x0f,x0g,x0h,x0i,x0j,x0k,Int.reduceEq,Int.reduceLT,Int.reduceLE,Int.reduceToNat,Int.cast_ofNat_Int,List.reduceReplicate]
    refine onC_q (same29_q q.1 q.1) rfl ?_
    simp -implicitDefEqProofs only [vmp,↓vmd,Env.get,putD,argEnv,List.map,x00,x01,x02,x03,x04,x05,x06,x07,List.take,List.drop,x08,x09,x0a,x0b,List.isEmpty,↓reduceIte,reduceCtorEq,Nat.reduceEqDiff,Nat.reduceAdd,Nat.reduceLeDiff,x0c,Int.reduceNeg,Nat.reduceMul,Nat.reduceSub,x0d,x0e,x0f,x0g,x0h,x0i,x0j,x0k,Int.reduceEq,Int.reduceLT,Int.reduceLE,Int.reduceToNat,Int.cast_ofNat_Int,List.reduceReplicate]
    exact gives_pure
theorem ca_all (vs : List V) (h : OkTs Try.prog Try.f7.params.toList vs) : FnQ Try.prog 7 vs [.bool true] := by
  rw [Try.params7] at h
  match vs, h with
  | [x, y, z], h =>
    obtain ⟨h1, h2, h3, _⟩ := h
    obtain ⟨f, rfl⟩ := font_of h1
    obtain ⟨k, rfl⟩ := lookup_of' h2
    obtain ⟨l, p, rfl⟩ := place29_of (h3 _ _ _ ty_place29)
    exact ca_law f k l p
end Go.Proofs.Ytbllbkhkmngclaa.W
