/-
  The law ContextMatch: what its function does, and what all that it calls does, for every input. No condition.
-/
import Derived.Test.YtbllbkhkmngclaaStand
namespace Go.Proofs.Ytbllbkhkmngclaa.W
open Go Go.Vm Go.Proofs
set_option maxRecDepth 100000
set_option linter.unusedSimpArgs false
set_option maxHeartbeats 1000000
/-! typecase/context.Match -/
def c28_0 : AC :=
  (.seq (.reg [⟨some 8, none, .mov (.c (.pure (.int .i64 0)))⟩,
    ⟨some 9, none, .mov (.c .empty)⟩,
    ⟨some 10, none, .mov (.c (.pure (.bool false)))⟩])
  .ret)
def c28_1 : AC :=
  (.seq (.reg [⟨some 32, none, .bin .lss (.s 31) (.s 30)⟩])
  (.seq (.cond (.s 32)
  .skip
  (.exit 0))
  (.seq (.block 1
  (.seq (.reg [⟨some 33, none, .mov (.s 31)⟩,
    ⟨some 34, none, .idxA 12 (.s 29) (.s 31)⟩,
    ⟨some 35, none, .load true 12 (.s 34)⟩,
    ⟨some 12, none, .box (.c (.agg [.empty, .empty, .empty, .empty, .empty, .empty, .empty, .empty, .empty, .empty, .empty, .empty]))⟩,
    ⟨some 11, none, .mov (.s 33)⟩,
    ⟨none, none, .store 12 (.s 12) (.s 35)⟩])
  (.seq (.seq (.regq [⟨some 36, none, .fldA 4 (.s 12)⟩,
    ⟨some 37, none, .load false 1 (.s 36)⟩,
    ⟨some 38, none, .len (.s 37)⟩,
    ⟨some 39, none, .bin .eql (.s 38) (.c (.pure (.int .i64 0)))⟩,
    ⟨some 40, none, .mov (.s 39)⟩,
    ⟨some 41, some (40, false), .fldA 4 (.s 12)⟩,
    ⟨some 42, some (40, false), .load false 1 (.s 41)⟩,
    ⟨some 43, some (40, false), .idxA 1 (.s 42) (.c (.pure (.int .i64 0)))⟩,
    ⟨some 44, some (40, false), .load false 1 (.s 43)⟩,
    ⟨some 45, some (40, false), .mov (.s 2)⟩,
    ⟨some 46, some (40, false), .mov (.s 3)⟩,
    ⟨some 47, some (40, false), .idxA 10 (.s 45) (.s 46)⟩,
    ⟨some 48, some (40, false), .fldA 0 (.s 47)⟩,
    ⟨some 49, some (40, false), .load false 1 (.s 48)⟩]
    [⟨some 50, some (40, false), .call 67 [(.s 44), (.s 49)]⟩,
    ⟨some 51, some (40, false), .un .not (.s 50)⟩,
    ⟨some 52, none, .pick (.s 40) (.c (.pure (.bool true))) (.s 51)⟩])
  (.cond (.s 52)
  (.exit 1)
  .skip))
  (.seq (.regq [⟨some 54, none, .load true 6 (.s 4)⟩,
    ⟨some 55, none, .load true 4 (.s 5)⟩,
    ⟨some 56, none, .mov (.s 2)⟩,
    ⟨some 57, none, .mov (.s 3)⟩,
    ⟨some 58, none, .fldA 4 (.s 12)⟩,
    ⟨some 59, none, .load false 1 (.s 58)⟩,
    ⟨some 60, none, .slc 1 (.s 59) (some (.c (.pure (.int .i64 1)))) none none⟩,
    ⟨some 61, none, .call 68 [(.s 54), (.s 55), (.s 56), (.s 57), (.s 60)]⟩,
    ⟨some 53, none, .mov (.s 61)⟩,
    ⟨some 62, none, .ext 0 (.s 53)⟩,
    ⟨some 63, none, .ext 1 (.s 53)⟩,
    ⟨some 13, none, .mov (.s 62)⟩]
    [⟨some 14, none, .mov (.s 63)⟩])
  (.seq (.seq (.reg [⟨some 64, none, .mov (.s 14)⟩,
    ⟨some 65, none, .un .not (.s 64)⟩])
  (.cond (.s 65)
  (.exit 1)
  .skip))
  (.seq (.reg [⟨some 66, none, .mov (.s 3)⟩,
    ⟨some 67, none, .bslice 1 [(.s 66)]⟩,
    ⟨some 68, none, .mov (.s 13)⟩,
    ⟨some 69, none, .app 1 8 (.s 67) (.s 68)⟩,
    ⟨some 15, none, .mov (.s 69)⟩])
  (.seq (.seq (.reg [⟨some 71, none, .load true 6 (.s 4)⟩,
    ⟨some 72, none, .load true 4 (.s 5)⟩,
    ⟨some 73, none, .mov (.s 2)⟩,
    ⟨some 74, none, .mov (.s 3)⟩,
    ⟨some 75, none, .fldA 3 (.s 12)⟩,
    ⟨some 76, none, .load false 1 (.s 75)⟩,
    ⟨some 77, none, .call 69 [(.s 71), (.s 72), (.s 73), (.s 74), (.s 76)]⟩,
    ⟨some 70, none, .mov (.s 77)⟩,
    ⟨some 78, none, .ext 0 (.s 70)⟩,
    ⟨some 79, none, .ext 1 (.s 70)⟩,
    ⟨some 16, none, .mov (.s 78)⟩,
    ⟨some 17, none, .mov (.s 79)⟩])
  (.seq (.reg [⟨some 80, none, .mov (.s 17)⟩,
    ⟨some 81, none, .un .not (.s 80)⟩])
  (.cond (.s 81)
  (.exit 1)
  .skip)))
  (.seq (.regq [⟨some 83, none, .load true 6 (.s 4)⟩,
    ⟨some 84, none, .load true 4 (.s 5)⟩,
    ⟨some 85, none, .mov (.s 2)⟩,
    ⟨some 86, none, .mov (.s 15)⟩,
    ⟨some 87, none, .mov (.s 15)⟩,
    ⟨some 88, none, .len (.s 87)⟩,
    ⟨some 89, none, .bin .sub (.s 88) (.c (.pure (.int .i64 1)))⟩,
    ⟨some 90, none, .idxA 1 (.s 86) (.s 89)⟩,
    ⟨some 91, none, .load false 1 (.s 90)⟩,
    ⟨some 92, none, .fldA 5 (.s 12)⟩,
    ⟨some 93, none, .load false 1 (.s 92)⟩,
    ⟨some 94, none, .call 68 [(.s 83), (.s 84), (.s 85), (.s 91), (.s 93)]⟩,
    ⟨some 82, none, .mov (.s 94)⟩,
    ⟨some 95, none, .ext 0 (.s 82)⟩,
    ⟨some 96, none, .ext 1 (.s 82)⟩,
    ⟨some 18, none, .mov (.s 95)⟩]
    [⟨some 19, none, .mov (.s 96)⟩])
  (.seq (.reg [⟨some 97, none, .mov (.s 19)⟩])
  (.cond (.s 97)
  (.seq (.reg [⟨some 98, none, .mov (.s 11)⟩,
    ⟨some 99, none, .mov (.s 15)⟩,
    ⟨some 8, none, .mov (.s 98)⟩,
    ⟨some 9, none, .mov (.s 99)⟩,
    ⟨some 10, none, .mov (.c (.pure (.bool true)))⟩])
  .ret)
  .skip))))))))))
  (.reg [⟨some 100, none, .bin .add (.s 31) (.c (.pure (.int .i64 1)))⟩,
    ⟨some 31, none, .mov (.s 100)⟩]))))
def c28 : AC :=
  (.seq (.reg [⟨some 4, none, .box (.s 0)⟩,
    ⟨some 5, none, .box (.s 1)⟩,
    ⟨some 8, none, .mov (.c (.pure (.int .i64 0)))⟩,
    ⟨some 9, none, .mov (.c .empty)⟩,
    ⟨some 10, none, .mov (.c (.pure (.bool false)))⟩])
  (.seq (.seq (.reg [⟨some 20, none, .mov (.s 3)⟩,
    ⟨some 21, none, .bin .lss (.s 20) (.c (.pure (.int .i64 0)))⟩,
    ⟨some 22, none, .mov (.s 21)⟩,
    ⟨some 23, some (22, false), .mov (.s 3)⟩,
    ⟨some 24, some (22, false), .mov (.s 2)⟩,
    ⟨some 25, some (22, false), .len (.s 24)⟩,
    ⟨some 26, some (22, false), .bin .geq (.s 23) (.s 25)⟩,
    ⟨some 27, none, .pick (.s 22) (.c (.pure (.bool true))) (.s 26)⟩])
  (.cond (.s 27)
  (.seq (.reg [⟨some 8, none, .mov (.c (.pure (.int .i64 0)))⟩,
    ⟨some 9, none, .mov (.c .empty)⟩,
    ⟨some 10, none, .mov (.c (.pure (.bool false)))⟩])
  .ret)
  .skip))
  (.seq (.seq (.reg [⟨some 28, none, .fldA 3 (.s 5)⟩,
    ⟨some 29, none, .load false 1 (.s 28)⟩,
    ⟨some 30, none, .len (.s 29)⟩,
    ⟨some 31, none, .mov (.c (.pure (.int .i64 0)))⟩])
  (.block 0
  (.loop c28_1)))
  c28_0)))
theorem k28 : (Try.f28.body.bind fun c => cCode Try.prog Try.f28.ntmps RCs c) = some c28 := by kernel_rfl
theorem h28 : (Try.f28.name == "runtime.NumGoroutine") = false := by kernel_rfl
theorem r28 : resC Try.prog Try.f28.results.toList = some [.t 8, .t 9, .t 10] := by kernel_rfl
theorem a28 {args : List S} {H : Heap} {K : S → Heap → Prop} (hn : args.length ≤ 101) (h : aWx Try.prog H.length c28 (PostX [.t 8, .t 9, .t 10] K) (argEnv 0 args) H) : CallA Try.prog 28 args H K :=
  callA_of_x mixed Try.func28 h28 k28 r28 (by rw [Try.ntmps28]; exact hn) h
theorem q28 {vs ds : List V} (hn : vs.length ≤ 101) (h : aWx Try.prog 0 c28 (PostX [.t 8, .t 9, .t 10] (Gives ds)) (argEnv 0 (vs.map .pure)) []) : FnQ Try.prog 28 vs ds :=
  fnQ_of_call (a28 (by simpa using hn) h)
/-! typecase/typecaseref29.Match -/
def c65_0 : AC :=
  (.seq (.reg [⟨some 8, none, .mov (.c (.pure (.int .i64 0)))⟩,
    ⟨some 9, none, .mov (.c .empty)⟩,
    ⟨some 10, none, .mov (.c (.pure (.bool false)))⟩])
  .ret)
def c65_1 : AC :=
  (.seq (.seq (.reg [⟨some 22, none, .mov (.s 11)⟩,
    ⟨some 23, none, .fldA 3 (.s 5)⟩,
    ⟨some 24, none, .load false 1 (.s 23)⟩,
    ⟨some 25, none, .len (.s 24)⟩,
    ⟨some 26, none, .bin .lss (.s 22) (.s 25)⟩])
  (.cond (.s 26)
  .skip
  (.exit 0)))
  (.seq (.block 1
  (.seq (.regq [⟨some 30, none, .load true 6 (.s 4)⟩,
    ⟨some 31, none, .load true 4 (.s 5)⟩,
    ⟨some 32, none, .fldA 3 (.s 5)⟩,
    ⟨some 33, none, .load false 1 (.s 32)⟩,
    ⟨some 34, none, .mov (.s 11)⟩,
    ⟨some 35, none, .idxA 12 (.s 33) (.s 34)⟩,
    ⟨some 36, none, .load true 12 (.s 35)⟩,
    ⟨some 37, none, .mov (.s 2)⟩,
    ⟨some 38, none, .mov (.s 3)⟩,
    ⟨some 39, none, .call 89 [(.s 30), (.s 31), (.s 36), (.s 37), (.s 38)]⟩,
    ⟨some 29, none, .mov (.s 39)⟩,
    ⟨some 40, none, .ext 0 (.s 29)⟩,
    ⟨some 41, none, .ext 1 (.s 29)⟩,
    ⟨some 12, none, .mov (.s 40)⟩]
    [⟨some 13, none, .mov (.s 41)⟩])
  (.seq (.reg [⟨some 42, none, .mov (.s 13)⟩])
  (.cond (.s 42)
  (.seq (.reg [⟨some 43, none, .mov (.s 11)⟩,
    ⟨some 44, none, .mov (.s 12)⟩,
    ⟨some 8, none, .mov (.s 43)⟩,
    ⟨some 9, none, .mov (.s 44)⟩,
    ⟨some 10, none, .mov (.c (.pure (.bool true)))⟩])
  .ret)
  .skip))))
  (.reg [⟨some 27, none, .mov (.s 11)⟩,
    ⟨some 28, none, .bin .add (.s 27) (.c (.pure (.int .i64 1)))⟩,
    ⟨some 11, none, .mov (.s 28)⟩])))
def c65 : AC :=
  (.seq (.reg [⟨some 4, none, .box (.s 0)⟩,
    ⟨some 5, none, .box (.s 1)⟩,
    ⟨some 8, none, .mov (.c (.pure (.int .i64 0)))⟩,
    ⟨some 9, none, .mov (.c .empty)⟩,
    ⟨some 10, none, .mov (.c (.pure (.bool false)))⟩])
  (.seq (.seq (.reg [⟨some 14, none, .mov (.s 3)⟩,
    ⟨some 15, none, .bin .lss (.s 14) (.c (.pure (.int .i64 0)))⟩,
    ⟨some 16, none, .mov (.s 15)⟩,
    ⟨some 17, some (16, false), .mov (.s 3)⟩,
    ⟨some 18, some (16, false), .mov (.s 2)⟩,
    ⟨some 19, some (16, false), .len (.s 18)⟩,
    ⟨some 20, some (16, false), .bin .geq (.s 17) (.s 19)⟩,
    ⟨some 21, none, .pick (.s 16) (.c (.pure (.bool true))) (.s 20)⟩])
  (.cond (.s 21)
  (.seq (.reg [⟨some 8, none, .mov (.c (.pure (.int .i64 0)))⟩,
    ⟨some 9, none, .mov (.c .empty)⟩,
    ⟨some 10, none, .mov (.c (.pure (.bool false)))⟩])
  .ret)
  .skip))
  (.seq (.seq (.reg [⟨some 11, none, .mov (.c (.pure (.int .i64 0)))⟩])
  (.block 0
  (.loop c65_1)))
  c65_0)))
theorem k65 : (Try.f65.body.bind fun c => cCode Try.prog Try.f65.ntmps RCs c) = some c65 := by kernel_rfl
theorem h65 : (Try.f65.name == "runtime.NumGoroutine") = false := by kernel_rfl
theorem r65 : resC Try.prog Try.f65.results.toList = some [.t 8, .t 9, .t 10] := by kernel_rfl
theorem a65 {args : List S} {H : Heap} {K : S → Heap → Prop} (hn : args.length ≤ 45) (h : aWx Try.prog H.length c65 (PostX [.t 8, .t 9, .t 10] K) (argEnv 0 args) H) : CallA Try.prog 65 args H K :=
  callA_of_x mixed Try.func65 h65 k65 r65 (by rw [Try.ntmps65]; exact hn) h
theorem q65 {vs ds : List V} (hn : vs.length ≤ 45) (h : aWx Try.prog 0 c65 (PostX [.t 8, .t 9, .t 10] (Gives ds)) (argEnv 0 (vs.map .pure)) []) : FnQ Try.prog 65 vs ds :=
  fnQ_of_call (a65 (by simpa using hn) h)

/-- the first subtable that stands -/
def matF (g : Sub → Option (List Int)) : Nat → List Sub → Option (Nat × List Int)
  | _, [] => none
  | i, s :: r => match g s with
    | some p => some (i, p)
    | none => matF g (i + 1) r
def matR : Option (Nat × List Int) → List V
  | some q => [I (q.1 : Int), LI q.2, .bool true]
  | none => [I 0, LI [], .bool false]
def matchF (f : Fo) (k : Lk) (ls : List Gl) (x : Int) : Option (Nat × List Int) := if x < 0 ∨ (ls.length : Int) ≤ x then none else matF (stF f k.flags k.set ls x) 0 k.subs
theorem rmatch_q (f : Fo) (k : Lk) (ls : List Gl) (hl : ls.length ≤ 1000) (x : Int) (hs : ∀ s ∈ k.subs, s.back.length ≤ 6 ∧ s.inn.length ≤ 6 ∧ s.ahead.length ≤ 6) :
    FnQ Try.prog 65 [fo f, lk k, .sl (ls.map gl), I x] (matR (matchF f k ls x)) := by
  refine q65 (by simp) ?_
  unfold c65
  simp -implicitDefEqProofs only [*, vmp,↓vmd,Env.get,putD,argEnv,List.map,x00,x01,x02,x03,x04,x05,x06,x07,List.take,List.drop,x08,x09,x0a,x0b,List.isEmpty,↓reduceIte,reduceCtorEq,Nat.reduceEqDiff,Nat.reduceAdd,Nat.reduceLeDiff,x0c,Int.reduceNeg,Nat.reduceMul,Nat.reduceSub,x0d,x0e,x0f,x0g,x0h,x0i,x0j,x0k,Int.reduceEq,Int.reduceLT,Int.reduceLE,Int.reduceToNat,Int.cast_ofNat_Int,List.reduceReplicate]
  by_cases h0 : x < 0
  · simp -implicitDefEqProofs only [h0, vmp,↓vmd,Env.get,putD,argEnv,List.map,x00,x01,x02,x03,x04,x05,x06,x07,List.take,List.drop,x08,x09,x0a,x0b,List.isEmpty,↓reduceIte,reduceCtorEq,Nat.reduceEqDiff,Nat.reduceAdd,Nat.reduceLeDiff,x0c,Int.reduceNeg,Nat.reduceMul,Nat.reduceSub,x0d,x0e,x0f,x0g,x0h,x0i,x0j,x0k,Int.reduceEq,Int.reduceLT,Int.reduceLE,Int.reduceToNat,Int.cast_ofNat_Int,List.reduceReplicate]
    rw [matchF, if_pos (.inl h0)]
    exact gives_tup rfl (by simp)
  simp -implicitDefEqProofs only [h0, vmp,↓vmd,Env.get,putD,argEnv,List.map,x00,x01,x02,x03,x04,x05,x06,x07,List.take,List.drop,x08,x09,x0a,x0b,List.isEmpty,↓reduceIte,reduceCtorEq,Nat.reduceEqDiff,Nat.reduceAdd,Nat.reduceLeDiff,x0c,Int.reduceNeg,Nat.reduceMul,Nat.reduceSub,x0d,x0e,x0f,x0g,x0h,x0i,x0j,x0k,Int.reduceEq,Int.reduceLT,Int.reduceLE,Int.reduceToNat,Int.cast_ofNat_Int,List.reduceReplicate]
  refine onIf_intro fun _ => ?_
  simp -implicitDefEqProofs only [h0, vmp,↓vmd,Env.get,putD,argEnv,List.map,x00,x01,x02,x03,x04,x05,x06,x07,List.take,List.drop,x08,x09,x0a,x0b,List.isEmpty,↓reduceIte,reduceCtorEq,Nat.reduceEqDiff,Nat.reduceAdd,Nat.reduceLeDiff,x0c,Int.reduceNeg,Nat.reduceMul,Nat.reduceSub,x0d,x0e,x0f,x0g,x0h,x0i,x0j,x0k,Int.reduceEq,Int.reduceLT,Int.reduceLE,Int.reduceToNat,Int.cast_ofNat_Int,List.reduceReplicate]
  by_cases h1 : (ls.length : Int) ≤ x
  · simp -implicitDefEqProofs only [h1, vmp,↓vmd,Env.get,putD,argEnv,List.map,x00,x01,x02,x03,x04,x05,x06,x07,List.take,List.drop,x08,x09,x0a,x0b,List.isEmpty,↓reduceIte,reduceCtorEq,Nat.reduceEqDiff,Nat.reduceAdd,Nat.reduceLeDiff,x0c,Int.reduceNeg,Nat.reduceMul,Nat.reduceSub,x0d,x0e,x0f,x0g,x0h,x0i,x0j,x0k,Int.reduceEq,Int.reduceLT,Int.reduceLE,Int.reduceToNat,Int.cast_ofNat_Int,List.reduceReplicate]
    rw [matchF, if_pos (.inr h1)]
    exact gives_tup rfl (by simp)
  simp -implicitDefEqProofs only [h1, vmp,↓vmd,Env.get,putD,argEnv,List.map,x00,x01,x02,x03,x04,x05,x06,x07,List.take,List.drop,x08,x09,x0a,x0b,List.isEmpty,↓reduceIte,reduceCtorEq,Nat.reduceEqDiff,Nat.reduceAdd,Nat.reduceLeDiff,x0c,Int.reduceNeg,Nat.reduceMul,Nat.reduceSub,x0d,x0e,x0f,x0g,x0h,x0i,x0j,x0k,Int.reduceEq,Int.reduceLT,Int.reduceLE,Int.reduceToNat,Int.cast_ofNat_Int,List.reduceReplicate]
  rw [matchF, if_neg (by omega)]
  refine loop_at (T := Nat) (fun i => [(11, .pure (I i)), (2, .pure (.sl (ls.map gl))), (3, .pure (I x)), (4, .ptr 0 0 0), (5, .ptr 1 0 0)]) (fun _ => [⟨[.pure (fo f)], 6, .live⟩, ⟨[.pure (lk k)], 4, .live⟩]) (fun i => i ≤ k.subs.length ∧ matF (stF f k.flags k.set ls x) i (k.subs.drop i) = matF (stF f k.flags k.set ls x) 0 k.subs) (fun i => k.subs.length - i)
    0 [0, 1] (by simp) rfl ⟨by simp, by simp⟩ (by simp -implicitDefEqProofs only [kpp,Env.get,x01,x00,x02,x03,List.map,x08,x09,↓reduceIte,reduceCtorEq,Nat.reduceEqDiff,Nat.reduceLeDiff,Nat.reduceLT,Nat.reduceAdd,x0j,x0l,x0m,x0n,x0o,Int.cast_ofNat_Int,x0p,x0i,x07,x06,x0q,x0r,x0s,x0t,x0d,x0u]) (by simp -implicitDefEqProofs only [kpp,Env.get,x01,x00,x02,x03,List.map,x08,x09,↓reduceIte,reduceCtorEq,Nat.reduceEqDiff,Nat.reduceLeDiff,Nat.reduceLT,Nat.reduceAdd,x0j,x0l,x0m,x0n,x0o,Int.cast_ofNat_Int,x0p,x0i,x07,x06,x0q,x0r,x0s,x0t,x0d,x0u]) ?_
  rintro i ⟨hi, hr⟩
  unfold c65_1
  simp -implicitDefEqProofs only [vmp,↓vmd,Env.get,putD,argEnv,List.map,x00,x01,x02,x03,x04,x05,x06,x07,List.take,List.drop,x08,x09,x0a,x0b,List.isEmpty,↓reduceIte,reduceCtorEq,Nat.reduceEqDiff,Nat.reduceAdd,Nat.reduceLeDiff,x0c,Int.reduceNeg,Nat.reduceMul,Nat.reduceSub,x0d,x0e,x0f,x0g,x0h,x0i,x0j,x0k,Int.reduceEq,Int.reduceLT,Int.reduceLE,Int.reduceToNat,Int.cast_ofNat_Int,List.reduceReplicate]
  refine onIf_intro fun _ => ?_
  simp -implicitDefEqProofs only [vmp,↓vmd,Env.get,putD,argEnv,List.map,x00,x01,x02,x03,x04,x05,x06,x07,List.take,List.drop,x08,x09,x0a,x0b,List.isEmpty,↓reduceIte,reduceCtorEq,Nat.reduceEqDiff,Nat.reduceAdd,Nat.reduceLeDiff,x0c,Int.reduceNeg,Nat.reduceMul,Nat.reduceSub,x0d,x0e,x0f,x0g,x0h,x0i,x0j,x0k,Int.reduceEq,Int.reduceLT,Int.reduceLE,Int.reduceToNat,Int.cast_ofNat_Int,List.reduceReplicate]
  by_cases h2 : (i : Int) < (k.subs.length : Int)
  · have hlt : i < k.subs.length := by omega
    rw [drop_at hlt, matF] at hr
    have hq := rstands_q f k ls hl x (by omega) (by omega) k.subs[i] (hs _ (List.getElem_mem hlt))
    simp -implicitDefEqProofs only [h2, map_at hlt, Int.natCast_nonneg, vmp,↓vmd,Env.get,putD,argEnv,List.map,x00,x01,x02,x03,x04,x05,x06,x07,List.take,List.drop,x08,x09,x0a,x0b,List.isEmpty,↓reduceIte,reduceCtorEq,Nat.reduceEqDiff,Nat.reduceAdd,Nat.reduceLeDiff,x0c,Int.reduceNeg,Nat.reduceMul,Nat.reduceSub,x0d,x0e,x0f,x0g,x0h,x0i,x0j,x0k,Int.reduceEq,Int.reduceLT,Int.reduceLE,Int.reduceToNat,Int.cast_ofNat_Int,List.reduceReplicate]
    cases hc : stF f k.flags k.set ls x k.subs[i] with
    | some p =>
      rw [hc] at hr hq
      have hq' : FnQ Try.prog 89 [fo f, lk k, sub k.subs[i], .sl (ls.map gl), I x] [LI p, .bool true] := hq
      refine onQ_q hq' rfl ?_
      simp -implicitDefEqProofs only [vmp,↓vmd,Env.get,putD,argEnv,List.map,x00,x01,x02,x03,x04,x05,x06,x07,List.take,List.drop,x08,x09,x0a,x0b,List.isEmpty,↓reduceIte,reduceCtorEq,Nat.reduceEqDiff,Nat.reduceAdd,Nat.reduceLeDiff,x0c,Int.reduceNeg,Nat.reduceMul,Nat.reduceSub,x0d,x0e,x0f,x0g,x0h,x0i,x0j,x0k,Int.reduceEq,Int.reduceLT,Int.reduceLE,Int.reduceToNat,Int.cast_ofNat_Int,List.reduceReplicate]
      rw [← hr]
      exact gives_tup rfl (by simp)
    | none =>
      rw [hc] at hr hq
      have hq' : FnQ Try.prog 89 [fo f, lk k, sub k.subs[i], .sl (ls.map gl), I x] [LI [], .bool false] := hq
      refine onQ_q hq' rfl ?_
      simp -implicitDefEqProofs only [vmp,↓vmd,Env.get,putD,argEnv,List.map,x00,x01,x02,x03,x04,x05,x06,x07,List.take,List.drop,x08,x09,x0a,x0b,List.isEmpty,↓reduceIte,reduceCtorEq,Nat.reduceEqDiff,Nat.reduceAdd,Nat.reduceLeDiff,x0c,Int.reduceNeg,Nat.reduceMul,Nat.reduceSub,x0d,x0e,x0f,x0g,x0h,x0i,x0j,x0k,Int.reduceEq,Int.reduceLT,Int.reduceLE,Int.reduceToNat,Int.cast_ofNat_Int,List.reduceReplicate]
      refine onBk_to (i + 1) [0, 1] (by simp) rfl (by omega) ⟨hlt, hr⟩ (by simp -implicitDefEqProofs only [next_at hlt (by omega), kpp,Env.get,x01,x00,x02,x03,List.map,x08,x09,↓reduceIte,reduceCtorEq,Nat.reduceEqDiff,Nat.reduceLeDiff,Nat.reduceLT,Nat.reduceAdd,x0j,x0l,x0m,x0n,x0o,Int.cast_ofNat_Int,x0p,x0i,x07,x06,x0q,x0r,x0s,x0t,x0d,x0u]) (by simp -implicitDefEqProofs only [kpp,Env.get,x01,x00,x02,x03,List.map,x08,x09,↓reduceIte,reduceCtorEq,Nat.reduceEqDiff,Nat.reduceLeDiff,Nat.reduceLT,Nat.reduceAdd,x0j,x0l,x0m,x0n,x0o,Int.cast_ofNat_Int,x0p,x0i,x07,x06,x0q,x0r,x0s,x0t,x0d,x0u])
  · simp -implicitDefEqProofs only [h2, vmp,↓vmd,Env.get,putD,argEnv,List.map,x00,x01,x02,x03,x04,x05,x06,x07,List.take,List.drop,x08,x09,x0a,x0b,List.isEmpty,↓reduceIte,reduceCtorEq,Nat.reduceEqDiff,Nat.reduceAdd,Nat.reduceLeDiff,x0c,Int.reduceNeg,Nat.reduceMul,Nat.reduceSub,x0d,x0e,x0f,x0g,x0h,x0i,x0j,x0k,Int.reduceEq,Int.reduceLT,Int.reduceLE,Int.reduceToNat,Int.cast_ofNat_Int,List.reduceReplicate]
    unfold c65_0
    simp -implicitDefEqProofs only [vmp,↓vmd,Env.get,putD,argEnv,List.map,x00,x01,x02,x03,x04,x05,x06,x07,List.take,List.drop,x08,x09,x0a,x0b,List.isEmpty,↓reduceIte,reduceCtorEq,Nat.reduceEqDiff,Nat.reduceAdd,Nat.reduceLeDiff,x0c,Int.reduceNeg,Nat.reduceMul,Nat.reduceSub,x0d,x0e,x0f,x0g,x0h,x0i,x0j,x0k,Int.reduceEq,Int.reduceLT,Int.reduceLE,Int.reduceToNat,Int.cast_ofNat_Int,List.reduceReplicate]
    rw [List.drop_of_length_le (by omega)] at hr
    rw [← hr]
    exact gives_tup rfl (by simp)
theorem match_q (f : Fo) (k : Lk) (ls : List Gl) (hl : ls.length ≤ 1000) (x : Int) (hs : ∀ s ∈ k.subs, s.back.length ≤ 6 ∧ s.inn.length ≤ 6 ∧ s.ahead.length ≤ 6) :
    FnQ Try.prog 28 [fo f, lk k, .sl (ls.map gl), I x] (matR (matchF f k ls x)) := by
  refine q28 (by simp) ?_
  unfold c28
  simp -implicitDefEqProofs only [*, vmp,↓vmd,Env.get,putD,argEnv,List.map,x00,x01,x02,x03,x04,x05,x06,x07,List.take,List.drop,x08,x09,x0a,x0b,List.isEmpty,↓reduceIte,reduceCtorEq,Nat.reduceEqDiff,Nat.reduceAdd,Nat.reduceLeDiff,x0c,Int.reduceNeg,Nat.reduceMul,Nat.reduceSub,x0d,x0e,x0f,x0g,x0h,x0i,x0j,x0k,Int.reduceEq,Int.reduceLT,Int.reduceLE,Int.reduceToNat,Int.cast_ofNat_Int,List.reduceReplicate]
  by_cases h0 : x < 0
  · simp -implicitDefEqProofs only [h0, vmp,↓vmd,Env.get,putD,argEnv,List.map,x00,x01,x02,x03,x04,x05,x06,x07,List.take,List.drop,x08,x09,x0a,x0b,List.isEmpty,↓reduceIte,reduceCtorEq,Nat.reduceEqDiff,Nat.reduceAdd,Nat.reduceLeDiff,x0c,Int.reduceNeg,Nat.reduceMul,Nat.reduceSub,x0d,x0e,x0f,x0g,x0h,x0i,x0j,x0k,Int.reduceEq,Int.reduceLT,Int.reduceLE,Int.reduceToNat,Int.cast_ofNat_Int,List.reduceReplicate]
    rw [matchF, if_pos (.inl h0)]
    exact gives_tup rfl (by simp)
  simp -implicitDefEqProofs only [h0, vmp,↓vmd,Env.get,putD,argEnv,List.map,x00,x01,x02,x03,x04,x05,x06,x07,List.take,List.drop,x08,x09,x0a,x0b,List.isEmpty,↓reduceIte,reduceCtorEq,Nat.reduceEqDiff,Nat.reduceAdd,Nat.reduceLeDiff,x0c,Int.reduceNeg,Nat.reduceMul,Nat.reduceSub,x0d,x0e,x0f,x0g,x0h,x0i,x0j,x0k,Int.reduceEq,Int.reduceLT,Int.reduceLE,Int.reduceToNat,Int.cast_ofNat_Int,List.reduceReplicate]
  refine onIf_intro fun _ => ?_
  simp -implicitDefEqProofs only [h0, vmp,↓vmd,Env.get,putD,argEnv,List.map,x00,x01,x02,x03,x04,x05,x06,x07,List.take,List.drop,x08,x09,x0a,x0b,List.isEmpty,↓reduceIte,reduceCtorEq,Nat.reduceEqDiff,Nat.reduceAdd,Nat.reduceLeDiff,x0c,Int.reduceNeg,Nat.reduceMul,Nat.reduceSub,x0d,x0e,x0f,x0g,x0h,x0i,x0j,x0k,Int.reduceEq,Int.reduceLT,Int.reduceLE,Int.reduceToNat,Int.cast_ofNat_Int,List.reduceReplicate]
  by_cases h1 : (ls.length : Int) ≤ x
  · simp -implicitDefEqProofs only [h1, vmp,↓vmd,Env.get,putD,argEnv,List.map,x00,x01,x02,x03,x04,x05,x06,x07,List.take,List.drop,x08,x09,x0a,x0b,List.isEmpty,↓reduceIte,reduceCtorEq,Nat.reduceEqDiff,Nat.reduceAdd,Nat.reduceLeDiff,x0c,Int.reduceNeg,Nat.reduceMul,Nat.reduceSub,x0d,x0e,x0f,x0g,x0h,x0i,x0j,x0k,Int.reduceEq,Int.reduceLT,Int.reduceLE,Int.reduceToNat,Int.cast_ofNat_Int,List.reduceReplicate]
    rw [matchF, if_pos (.inr h1)]
    exact gives_tup rfl (by simp)
  simp -implicitDefEqProofs only [h1, vmp,↓vmd,Env.get,putD,argEnv,List.map,x00,x01,x02,x03,x04,x05,x06,x07,List.take,List.drop,x08,x09,x0a,x0b,List.isEmpty,↓reduceIte,reduceCtorEq,Nat.reduceEqDiff,Nat.reduceAdd,Nat.reduceLeDiff,x0c,Int.reduceNeg,Nat.reduceMul,Nat.reduceSub,x0d,x0e,x0f,x0g,x0h,x0i,x0j,x0k,Int.reduceEq,Int.reduceLT,Int.reduceLE,Int.reduceToNat,Int.cast_ofNat_Int,List.reduceReplicate]
  refine onIf_intro fun _ => ?_
  simp -implicitDefEqProofs only [vmp,↓vmd,Env.get,putD,argEnv,List.map,x00,x01,x02,x03,x04,x05,x06,x07,List.take,List.drop,x08,x09,x0a,x0b,List.isEmpty,↓reduceIte,reduceCtorEq,Nat.reduceEqDiff,Nat.reduceAdd,Nat.reduceLeDiff,x0c,Int.reduceNeg,Nat.reduceMul,Nat.reduceSub,x0d,x0e,x0f,x0g,x0h,x0i,x0j,x0k,Int.reduceEq,Int.reduceLT,Int.reduceLE,Int.reduceToNat,Int.cast_ofNat_Int,List.reduceReplicate]
  rw [matchF, if_neg (by omega)]
  refine loop_at (T := Nat) (fun i => [(31, .pure (I i)), (30, .pure (I k.subs.length)), (29, .pure (.sl (k.subs.map sub))), (2, .pure (.sl (ls.map gl))), (3, .pure (I x)), (4, .ptr 0 0 0), (5, .ptr 1 0 0)]) (fun _ => [⟨[.pure (fo f)], 6, .live⟩, ⟨[.pure (lk k)], 4, .live⟩]) (fun i => i ≤ k.subs.length ∧ matF (stF f k.flags k.set ls x) i (k.subs.drop i) = matF (stF f k.flags k.set ls x) 0 k.subs) (fun i => k.subs.length - i)
    0 [0, 1] (by simp) rfl ⟨by simp, by simp⟩ (by simp -implicitDefEqProofs only [kpp,Env.get,x01,x00,x02,x03,List.map,x08,x09,↓reduceIte,reduceCtorEq,Nat.reduceEqDiff,Nat.reduceLeDiff,Nat.reduceLT,Nat.reduceAdd,x0j,x0l,x0m,x0n,x0o,Int.cast_ofNat_Int,x0p,x0i,x07,x06,x0q,x0r,x0s,x0t,x0d,x0u]) (by simp -implicitDefEqProofs only [kpp,Env.get,x01,x00,x02,x03,List.map,x08,x09,↓reduceIte,reduceCtorEq,Nat.reduceEqDiff,Nat.reduceLeDiff,Nat.reduceLT,Nat.reduceAdd,x0j,x0l,x0m,x0n,x0o,Int.cast_ofNat_Int,x0p,x0i,x07,x06,x0q,x0r,x0s,x0t,x0d,x0u]) ?_
  rintro i ⟨hi, hr⟩
  unfold c28_1
  simp -implicitDefEqProofs only [vmp,↓vmd,Env.get,putD,argEnv,List.map,x00,x01,x02,x03,x04,x05,x06,x07,List.take,List.drop,x08,x09,x0a,x0b,List.isEmpty,↓reduceIte,reduceCtorEq,Nat.reduceEqDiff,Nat.reduceAdd,Nat.reduceLeDiff,x0c,Int.reduceNeg,Nat.reduceMul,Nat.reduceSub,x0d,x0e,x0f,x0g,x0h,x0i,x0j,x0k,Int.reduceEq,Int.reduceLT,Int.reduceLE,Int.reduceToNat,Int.cast_ofNat_Int,List.reduceReplicate]
  by_cases h2 : (i : Int) < (k.subs.length : Int)
  · have hlt : i < k.subs.length := by omega
    rw [drop_at hlt, matF] at hr
    obtain ⟨hb, hin, ha⟩ := hs _ (List.getElem_mem hlt)
    obtain ⟨s, hs'⟩ : ∃ s, s = k.subs[i] := ⟨_, rfl⟩
    have hmap : (k.subs.map sub)[i]? = some (sub s) := by rw [map_at hlt, hs']
    rw [← hs'] at hr hb hin ha
    obtain ⟨q, hq1, hq2⟩ := at_id (ls := ls) (y := x) (by omega) (by omega)
    have hx0 : 0 ≤ x := by omega
    have hx1 : x < ls.length := by omega
    have back : ∀ {o : Option (List Int)}, stF f k.flags k.set ls x s = o → o = none → matF (stF f k.flags k.set ls x) (i + 1) (k.subs.drop (i + 1)) = matF (stF f k.flags k.set ls x) 0 k.subs := fun e1 e2 => by rw [e1, e2] at hr; exact hr
    simp -implicitDefEqProofs only [h2, hmap, Int.natCast_nonneg, vmp,↓vmd,Env.get,putD,argEnv,List.map,x00,x01,x02,x03,x04,x05,x06,x07,List.take,List.drop,x08,x09,x0a,x0b,List.isEmpty,↓reduceIte,reduceCtorEq,Nat.reduceEqDiff,Nat.reduceAdd,Nat.reduceLeDiff,x0c,Int.reduceNeg,Nat.reduceMul,Nat.reduceSub,x0d,x0e,x0f,x0g,x0h,x0i,x0j,x0k,Int.reduceEq,Int.reduceLT,Int.reduceLE,Int.reduceToNat,Int.cast_ofNat_Int,List.reduceReplicate]
    obtain hz | ⟨z, zs, hz⟩ : s.inn = [] ∨ ∃ z zs, s.inn = z :: zs := by cases s.inn <;> simp
    · simp -implicitDefEqProofs only [hz, vmp,↓vmd,Env.get,putD,argEnv,List.map,x00,x01,x02,x03,x04,x05,x06,x07,List.take,List.drop,x08,x09,x0a,x0b,List.isEmpty,↓reduceIte,reduceCtorEq,Nat.reduceEqDiff,Nat.reduceAdd,Nat.reduceLeDiff,x0c,Int.reduceNeg,Nat.reduceMul,Nat.reduceSub,x0d,x0e,x0f,x0g,x0h,x0i,x0j,x0k,Int.reduceEq,Int.reduceLT,Int.reduceLE,Int.reduceToNat,Int.cast_ofNat_Int,List.reduceReplicate]
      refine onBk_to (i + 1) [0, 1] (by simp) rfl (by omega) ⟨hlt, back (o := none) (by rw [stF, hz]) rfl⟩ (by simp -implicitDefEqProofs only [next_at hlt (by omega), kpp,Env.get,x01,x00,x02,x03,List.map,x08,x09,↓reduceIte,reduceCtorEq,Nat.reduceEqDiff,Nat.reduceLeDiff,Nat.reduceLT,Nat.reduceAdd,x0j,x0l,x0m,x0n,x0o,Int.cast_ofNat_Int,x0p,x0i,x07,x06,x0q,x0r,x0s,x0t,x0d,x0u]) (by simp -implicitDefEqProofs only [kpp,Env.get,x01,x00,x02,x03,List.map,x08,x09,↓reduceIte,reduceCtorEq,Nat.reduceEqDiff,Nat.reduceLeDiff,Nat.reduceLT,Nat.reduceAdd,x0j,x0l,x0m,x0n,x0o,Int.cast_ofNat_Int,x0p,x0i,x07,x06,x0q,x0r,x0s,x0t,x0d,x0u])
    · rw [hz] at hin
      simp only [List.length_cons] at hin
      obtain ⟨e0, en, es⟩ := inn_cons hz
      have hst : stF f k.flags k.set ls x s = if idAt ls x ∉ z then none else match rowF (nextF (seesF f k.flags k.set ls) ls.length) ls zs x with
          | none => none
          | some r => match rowF (prevF (seesF f k.flags k.set ls) ls.length) ls s.back x with
            | none => none
            | some _ => match rowF (nextF (seesF f k.flags k.set ls) ls.length) ls s.ahead (lastF x r) with
              | none => none
              | some _ => some (x :: r) := by rw [stF, hz] <;> rfl
      simp -implicitDefEqProofs only [e0, en, hq1, hx0, hx1, vmp,↓vmd,Env.get,putD,argEnv,List.map,x00,x01,x02,x03,x04,x05,x06,x07,List.take,List.drop,x08,x09,x0a,x0b,List.isEmpty,↓reduceIte,reduceCtorEq,Nat.reduceEqDiff,Nat.reduceAdd,Nat.reduceLeDiff,x0c,Int.reduceNeg,Nat.reduceMul,Nat.reduceSub,x0d,x0e,x0f,x0g,x0h,x0i,x0j,x0k,Int.reduceEq,Int.reduceLT,Int.reduceLE,Int.reduceToNat,Int.cast_ofNat_Int,List.reduceReplicate]
      refine onC_q (contains_q _ _) rfl ?_
      rw [hq2]
      first | refine envO (by simp -implicitDefEqProofs only [vmp,↓vmd,Env.get,putD,argEnv,List.map,x00,x01,x02,x03,x04,x05,x06,x07,List.take,List.drop,x08,x09,x0a,x0b,List.isEmpty,↓reduceIte,reduceCtorEq,Nat.reduceEqDiff,Nat.reduceAdd,Nat.reduceLeDiff,x0c,Int.reduceNeg,Nat.reduceMul,Nat.reduceSub,x0d,x0e,x0f,x0g,x0h,x0i,x0j,x0k,Int.reduceEq,Int.reduceLT,Int.reduceLE,Int.reduceToNat,Int.cast_ofNat_Int,List.reduceReplicate]; rfl) ?_ | refine envQ (by simp -implicitDefEqProofs only [vmp,↓vmd,Env.get,putD,argEnv,List.map,x00,x01,x02,x03,x04,x05,x06,x07,List.take,List.drop,x08,x09,x0a,x0b,List.isEmpty,↓reduceIte,reduceCtorEq,Nat.reduceEqDiff,Nat.reduceAdd,Nat.reduceLeDiff,x0c,Int.reduceNeg,Nat.reduceMul,Nat.reduceSub,x0d,x0e,x0f,x0g,x0h,x0i,x0j,x0k,Int.reduceEq,Int.reduceLT,Int.reduceLE,Int.reduceToNat,Int.cast_ofNat_Int,List.reduceReplicate]; rfl) ?_
      by_cases hm : idAt ls x ∈ z
      · rw [if_neg (by simp [hm])] at hst
        simp -implicitDefEqProofs only [hm, es, en, vmp,↓vmd,Env.get,putD,argEnv,List.map,x00,x01,x02,x03,x04,x05,x06,x07,List.take,List.drop,x08,x09,x0a,x0b,List.isEmpty,↓reduceIte,reduceCtorEq,Nat.reduceEqDiff,Nat.reduceAdd,Nat.reduceLeDiff,x0c,Int.reduceNeg,Nat.reduceMul,Nat.reduceSub,x0d,x0e,x0f,x0g,x0h,x0i,x0j,x0k,Int.reduceEq,Int.reduceLT,Int.reduceLE,Int.reduceToNat,Int.cast_ofNat_Int,List.reduceReplicate]
        have hr1 := row_q f k.kind k.flags k.set (.sl (k.subs.map sub)) ls hl x zs (by omega)
        have hr2 := back_q f k.kind k.flags k.set (.sl (k.subs.map sub)) ls hl x s.back (by omega)
        cases hc1 : rowF (nextF (seesF f k.flags k.set ls) ls.length) ls zs x with
        | none =>
          rw [hc1] at hr1 hst
          have hr1' : FnQ Try.prog 68 [fo f, lk k, .sl (ls.map gl), I x, LL zs] [LI [], .bool false] := hr1
          refine onQ_q hr1' rfl ?_
          first | refine envO (by simp -implicitDefEqProofs only [vmp,↓vmd,Env.get,putD,argEnv,List.map,x00,x01,x02,x03,x04,x05,x06,x07,List.take,List.drop,x08,x09,x0a,x0b,List.isEmpty,↓reduceIte,reduceCtorEq,Nat.reduceEqDiff,Nat.reduceAdd,Nat.reduceLeDiff,x0c,Int.reduceNeg,Nat.reduceMul,Nat.reduceSub,x0d,x0e,x0f,x0g,x0h,x0i,x0j,x0k,Int.reduceEq,Int.reduceLT,Int.reduceLE,Int.reduceToNat,Int.cast_ofNat_Int,List.reduceReplicate]; rfl) ?_ | refine envQ (by simp -implicitDefEqProofs only [vmp,↓vmd,Env.get,putD,argEnv,List.map,x00,x01,x02,x03,x04,x05,x06,x07,List.take,List.drop,x08,x09,x0a,x0b,List.isEmpty,↓reduceIte,reduceCtorEq,Nat.reduceEqDiff,Nat.reduceAdd,Nat.reduceLeDiff,x0c,Int.reduceNeg,Nat.reduceMul,Nat.reduceSub,x0d,x0e,x0f,x0g,x0h,x0i,x0j,x0k,Int.reduceEq,Int.reduceLT,Int.reduceLE,Int.reduceToNat,Int.cast_ofNat_Int,List.reduceReplicate]; rfl) ?_
          simp -implicitDefEqProofs only [vmp,↓vmd,Env.get,putD,argEnv,List.map,x00,x01,x02,x03,x04,x05,x06,x07,List.take,List.drop,x08,x09,x0a,x0b,List.isEmpty,↓reduceIte,reduceCtorEq,Nat.reduceEqDiff,Nat.reduceAdd,Nat.reduceLeDiff,x0c,Int.reduceNeg,Nat.reduceMul,Nat.reduceSub,x0d,x0e,x0f,x0g,x0h,x0i,x0j,x0k,Int.reduceEq,Int.reduceLT,Int.reduceLE,Int.reduceToNat,Int.cast_ofNat_Int,List.reduceReplicate]
          refine onBk_to (i + 1) [0, 1] (by simp) rfl (by omega) ⟨hlt, back hst rfl⟩ (by simp -implicitDefEqProofs only [next_at hlt (by omega), kpp,Env.get,x01,x00,x02,x03,List.map,x08,x09,↓reduceIte,reduceCtorEq,Nat.reduceEqDiff,Nat.reduceLeDiff,Nat.reduceLT,Nat.reduceAdd,x0j,x0l,x0m,x0n,x0o,Int.cast_ofNat_Int,x0p,x0i,x07,x06,x0q,x0r,x0s,x0t,x0d,x0u]) (by simp -implicitDefEqProofs only [kpp,Env.get,x01,x00,x02,x03,List.map,x08,x09,↓reduceIte,reduceCtorEq,Nat.reduceEqDiff,Nat.reduceLeDiff,Nat.reduceLT,Nat.reduceAdd,x0j,x0l,x0m,x0n,x0o,Int.cast_ofNat_Int,x0p,x0i,x07,x06,x0q,x0r,x0s,x0t,x0d,x0u])
        | some r =>
          rw [hc1] at hr1 hst
          have hrl := rowF_len hc1
          have hr1' : FnQ Try.prog 68 [fo f, lk k, .sl (ls.map gl), I x, LL zs] [LI r, .bool true] := hr1
          refine onQ_q hr1' rfl ?_
          first | refine envO (by simp -implicitDefEqProofs only [vmp,↓vmd,Env.get,putD,argEnv,List.map,x00,x01,x02,x03,x04,x05,x06,x07,List.take,List.drop,x08,x09,x0a,x0b,List.isEmpty,↓reduceIte,reduceCtorEq,Nat.reduceEqDiff,Nat.reduceAdd,Nat.reduceLeDiff,x0c,Int.reduceNeg,Nat.reduceMul,Nat.reduceSub,x0d,x0e,x0f,x0g,x0h,x0i,x0j,x0k,Int.reduceEq,Int.reduceLT,Int.reduceLE,Int.reduceToNat,Int.cast_ofNat_Int,List.reduceReplicate]; rfl) ?_ | refine envQ (by simp -implicitDefEqProofs only [vmp,↓vmd,Env.get,putD,argEnv,List.map,x00,x01,x02,x03,x04,x05,x06,x07,List.take,List.drop,x08,x09,x0a,x0b,List.isEmpty,↓reduceIte,reduceCtorEq,Nat.reduceEqDiff,Nat.reduceAdd,Nat.reduceLeDiff,x0c,Int.reduceNeg,Nat.reduceMul,Nat.reduceSub,x0d,x0e,x0f,x0g,x0h,x0i,x0j,x0k,Int.reduceEq,Int.reduceLT,Int.reduceLE,Int.reduceToNat,Int.cast_ofNat_Int,List.reduceReplicate]; rfl) ?_
          simp -implicitDefEqProofs only [vmp,↓vmd,Env.get,putD,argEnv,List.map,x00,x01,x02,x03,x04,x05,x06,x07,List.take,List.drop,x08,x09,x0a,x0b,List.isEmpty,↓reduceIte,reduceCtorEq,Nat.reduceEqDiff,Nat.reduceAdd,Nat.reduceLeDiff,x0c,Int.reduceNeg,Nat.reduceMul,Nat.reduceSub,x0d,x0e,x0f,x0g,x0h,x0i,x0j,x0k,Int.reduceEq,Int.reduceLT,Int.reduceLE,Int.reduceToNat,Int.cast_ofNat_Int,List.reduceReplicate]
          refine onIf'_intro (appOk_map (fun _ => rfl) rfl (by simp) (by omega) (by simp [maxLen]; omega)) ?_
          simp -implicitDefEqProofs only [vmp,↓vmd,Env.get,putD,argEnv,List.map,x00,x01,x02,x03,x04,x05,x06,x07,List.take,List.drop,x08,x09,x0a,x0b,List.isEmpty,↓reduceIte,reduceCtorEq,Nat.reduceEqDiff,Nat.reduceAdd,Nat.reduceLeDiff,x0c,Int.reduceNeg,Nat.reduceMul,Nat.reduceSub,x0d,x0e,x0f,x0g,x0h,x0i,x0j,x0k,Int.reduceEq,Int.reduceLT,Int.reduceLE,Int.reduceToNat,Int.cast_ofNat_Int,List.reduceReplicate]
          cases hc2 : rowF (prevF (seesF f k.flags k.set ls) ls.length) ls s.back x with
          | none =>
            rw [hc2] at hr2
            have hst2 : stF f k.flags k.set ls x s = none := by rw [hst]; simp only [hc2]
            have hr2' : FnQ Try.prog 69 [fo f, lk k, .sl (ls.map gl), I x, LL s.back] [LI [], .bool false] := hr2
            refine onC_q hr2' rfl ?_
            first | refine envO (by simp -implicitDefEqProofs only [vmp,↓vmd,Env.get,putD,argEnv,List.map,x00,x01,x02,x03,x04,x05,x06,x07,List.take,List.drop,x08,x09,x0a,x0b,List.isEmpty,↓reduceIte,reduceCtorEq,Nat.reduceEqDiff,Nat.reduceAdd,Nat.reduceLeDiff,x0c,Int.reduceNeg,Nat.reduceMul,Nat.reduceSub,x0d,x0e,x0f,x0g,x0h,x0i,x0j,x0k,Int.reduceEq,Int.reduceLT,Int.reduceLE,Int.reduceToNat,Int.cast_ofNat_Int,List.reduceReplicate]; rfl) ?_ | refine envQ (by simp -implicitDefEqProofs only [vmp,↓vmd,Env.get,putD,argEnv,List.map,x00,x01,x02,x03,x04,x05,x06,x07,List.take,List.drop,x08,x09,x0a,x0b,List.isEmpty,↓reduceIte,reduceCtorEq,Nat.reduceEqDiff,Nat.reduceAdd,Nat.reduceLeDiff,x0c,Int.reduceNeg,Nat.reduceMul,Nat.reduceSub,x0d,x0e,x0f,x0g,x0h,x0i,x0j,x0k,Int.reduceEq,Int.reduceLT,Int.reduceLE,Int.reduceToNat,Int.cast_ofNat_Int,List.reduceReplicate]; rfl) ?_
            simp -implicitDefEqProofs only [vmp,↓vmd,Env.get,putD,argEnv,List.map,x00,x01,x02,x03,x04,x05,x06,x07,List.take,List.drop,x08,x09,x0a,x0b,List.isEmpty,↓reduceIte,reduceCtorEq,Nat.reduceEqDiff,Nat.reduceAdd,Nat.reduceLeDiff,x0c,Int.reduceNeg,Nat.reduceMul,Nat.reduceSub,x0d,x0e,x0f,x0g,x0h,x0i,x0j,x0k,Int.reduceEq,Int.reduceLT,Int.reduceLE,Int.reduceToNat,Int.cast_ofNat_Int,List.reduceReplicate]
            refine onBk_to (i + 1) [0, 1] (by simp) rfl (by omega) ⟨hlt, back hst2 rfl⟩ (by simp -implicitDefEqProofs only [next_at hlt (by omega), kpp,Env.get,x01,x00,x02,x03,List.map,x08,x09,↓reduceIte,reduceCtorEq,Nat.reduceEqDiff,Nat.reduceLeDiff,Nat.reduceLT,Nat.reduceAdd,x0j,x0l,x0m,x0n,x0o,Int.cast_ofNat_Int,x0p,x0i,x07,x06,x0q,x0r,x0s,x0t,x0d,x0u]) (by simp -implicitDefEqProofs only [kpp,Env.get,x01,x00,x02,x03,List.map,x08,x09,↓reduceIte,reduceCtorEq,Nat.reduceEqDiff,Nat.reduceLeDiff,Nat.reduceLT,Nat.reduceAdd,x0j,x0l,x0m,x0n,x0o,Int.cast_ofNat_Int,x0p,x0i,x07,x06,x0q,x0r,x0s,x0t,x0d,x0u])
          | some r2 =>
            rw [hc2] at hr2
            have hr2' : FnQ Try.prog 69 [fo f, lk k, .sl (ls.map gl), I x, LL s.back] [LI r2, .bool true] := hr2
            refine onC_q hr2' rfl ?_
            first | refine envO (by simp -implicitDefEqProofs only [vmp,↓vmd,Env.get,putD,argEnv,List.map,x00,x01,x02,x03,x04,x05,x06,x07,List.take,List.drop,x08,x09,x0a,x0b,List.isEmpty,↓reduceIte,reduceCtorEq,Nat.reduceEqDiff,Nat.reduceAdd,Nat.reduceLeDiff,x0c,Int.reduceNeg,Nat.reduceMul,Nat.reduceSub,x0d,x0e,x0f,x0g,x0h,x0i,x0j,x0k,Int.reduceEq,Int.reduceLT,Int.reduceLE,Int.reduceToNat,Int.cast_ofNat_Int,List.reduceReplicate]; rfl) ?_ | refine envQ (by simp -implicitDefEqProofs only [vmp,↓vmd,Env.get,putD,argEnv,List.map,x00,x01,x02,x03,x04,x05,x06,x07,List.take,List.drop,x08,x09,x0a,x0b,List.isEmpty,↓reduceIte,reduceCtorEq,Nat.reduceEqDiff,Nat.reduceAdd,Nat.reduceLeDiff,x0c,Int.reduceNeg,Nat.reduceMul,Nat.reduceSub,x0d,x0e,x0f,x0g,x0h,x0i,x0j,x0k,Int.reduceEq,Int.reduceLT,Int.reduceLE,Int.reduceToNat,Int.cast_ofNat_Int,List.reduceReplicate]; rfl) ?_
            have hwL : IntKind.wrap .i64 (((1 + r.length : Nat) : Int) - 1) = (r.length : Int) := by rw [wrap_id (by omega) (by omega)]; omega
            simp -implicitDefEqProofs only [hwL, last_at, Int.natCast_nonneg, show (r.length : Int) < ((1 + r.length : Nat) : Int) by omega, vmp,↓vmd,Env.get,putD,argEnv,List.map,x00,x01,x02,x03,x04,x05,x06,x07,List.take,List.drop,x08,x09,x0a,x0b,List.isEmpty,↓reduceIte,reduceCtorEq,Nat.reduceEqDiff,Nat.reduceAdd,Nat.reduceLeDiff,x0c,Int.reduceNeg,Nat.reduceMul,Nat.reduceSub,x0d,x0e,x0f,x0g,x0h,x0i,x0j,x0k,Int.reduceEq,Int.reduceLT,Int.reduceLE,Int.reduceToNat,Int.cast_ofNat_Int,List.reduceReplicate]
            have hr3 := row_q f k.kind k.flags k.set (.sl (k.subs.map sub)) ls hl (lastF x r) s.ahead (by omega)
            cases hc3 : rowF (nextF (seesF f k.flags k.set ls) ls.length) ls s.ahead (lastF x r) with
            | none =>
              rw [hc3] at hr3
              have hst2 : stF f k.flags k.set ls x s = none := by rw [hst]; simp only [hc2, hc3]
              have hr3' : FnQ Try.prog 68 [fo f, lk k, .sl (ls.map gl), I (lastF x r), LL s.ahead] [LI [], .bool false] := hr3
              refine onQ_q hr3' rfl ?_
              first | refine envO (by simp -implicitDefEqProofs only [vmp,↓vmd,Env.get,putD,argEnv,List.map,x00,x01,x02,x03,x04,x05,x06,x07,List.take,List.drop,x08,x09,x0a,x0b,List.isEmpty,↓reduceIte,reduceCtorEq,Nat.reduceEqDiff,Nat.reduceAdd,Nat.reduceLeDiff,x0c,Int.reduceNeg,Nat.reduceMul,Nat.reduceSub,x0d,x0e,x0f,x0g,x0h,x0i,x0j,x0k,Int.reduceEq,Int.reduceLT,Int.reduceLE,Int.reduceToNat,Int.cast_ofNat_Int,List.reduceReplicate]; rfl) ?_ | refine envQ (by simp -implicitDefEqProofs only [vmp,↓vmd,Env.get,putD,argEnv,List.map,x00,x01,x02,x03,x04,x05,x06,x07,List.take,List.drop,x08,x09,x0a,x0b,List.isEmpty,↓reduceIte,reduceCtorEq,Nat.reduceEqDiff,Nat.reduceAdd,Nat.reduceLeDiff,x0c,Int.reduceNeg,Nat.reduceMul,Nat.reduceSub,x0d,x0e,x0f,x0g,x0h,x0i,x0j,x0k,Int.reduceEq,Int.reduceLT,Int.reduceLE,Int.reduceToNat,Int.cast_ofNat_Int,List.reduceReplicate]; rfl) ?_
              simp -implicitDefEqProofs only [vmp,↓vmd,Env.get,putD,argEnv,List.map,x00,x01,x02,x03,x04,x05,x06,x07,List.take,List.drop,x08,x09,x0a,x0b,List.isEmpty,↓reduceIte,reduceCtorEq,Nat.reduceEqDiff,Nat.reduceAdd,Nat.reduceLeDiff,x0c,Int.reduceNeg,Nat.reduceMul,Nat.reduceSub,x0d,x0e,x0f,x0g,x0h,x0i,x0j,x0k,Int.reduceEq,Int.reduceLT,Int.reduceLE,Int.reduceToNat,Int.cast_ofNat_Int,List.reduceReplicate]
              refine onBk_to (i + 1) [0, 1] (by simp) rfl (by omega) ⟨hlt, back hst2 rfl⟩ (by simp -implicitDefEqProofs only [next_at hlt (by omega), kpp,Env.get,x01,x00,x02,x03,List.map,x08,x09,↓reduceIte,reduceCtorEq,Nat.reduceEqDiff,Nat.reduceLeDiff,Nat.reduceLT,Nat.reduceAdd,x0j,x0l,x0m,x0n,x0o,Int.cast_ofNat_Int,x0p,x0i,x07,x06,x0q,x0r,x0s,x0t,x0d,x0u]) (by simp -implicitDefEqProofs only [kpp,Env.get,x01,x00,x02,x03,List.map,x08,x09,↓reduceIte,reduceCtorEq,Nat.reduceEqDiff,Nat.reduceLeDiff,Nat.reduceLT,Nat.reduceAdd,x0j,x0l,x0m,x0n,x0o,Int.cast_ofNat_Int,x0p,x0i,x07,x06,x0q,x0r,x0s,x0t,x0d,x0u])
            | some r3 =>
              rw [hc3] at hr3
              have hst2 : stF f k.flags k.set ls x s = some (x :: r) := by rw [hst]; simp only [hc2, hc3]
              have hr3' : FnQ Try.prog 68 [fo f, lk k, .sl (ls.map gl), I (lastF x r), LL s.ahead] [LI r3, .bool true] := hr3
              refine onQ_q hr3' rfl ?_
              first | refine envO (by simp -implicitDefEqProofs only [vmp,↓vmd,Env.get,putD,argEnv,List.map,x00,x01,x02,x03,x04,x05,x06,x07,List.take,List.drop,x08,x09,x0a,x0b,List.isEmpty,↓reduceIte,reduceCtorEq,Nat.reduceEqDiff,Nat.reduceAdd,Nat.reduceLeDiff,x0c,Int.reduceNeg,Nat.reduceMul,Nat.reduceSub,x0d,x0e,x0f,x0g,x0h,x0i,x0j,x0k,Int.reduceEq,Int.reduceLT,Int.reduceLE,Int.reduceToNat,Int.cast_ofNat_Int,List.reduceReplicate]; rfl) ?_ | refine envQ (by simp -implicitDefEqProofs only [vmp,↓vmd,Env.get,putD,argEnv,List.map,x00,x01,x02,x03,x04,x05,x06,x07,List.take,List.drop,x08,x09,x0a,x0b,List.isEmpty,↓reduceIte,reduceCtorEq,Nat.reduceEqDiff,Nat.reduceAdd,Nat.reduceLeDiff,x0c,Int.reduceNeg,Nat.reduceMul,Nat.reduceSub,x0d,x0e,x0f,x0g,x0h,x0i,x0j,x0k,Int.reduceEq,Int.reduceLT,Int.reduceLE,Int.reduceToNat,Int.cast_ofNat_Int,List.reduceReplicate]; rfl) ?_
              simp -implicitDefEqProofs only [vmp,↓vmd,Env.get,putD,argEnv,List.map,x00,x01,x02,x03,x04,x05,x06,x07,List.take,List.drop,x08,x09,x0a,x0b,List.isEmpty,↓reduceIte,reduceCtorEq,Nat.reduceEqDiff,Nat.reduceAdd,Nat.reduceLeDiff,x0c,Int.reduceNeg,Nat.reduceMul,Nat.reduceSub,x0d,x0e,x0f,x0g,x0h,x0i,x0j,x0k,Int.reduceEq,Int.reduceLT,Int.reduceLE,Int.reduceToNat,Int.cast_ofNat_Int,List.reduceReplicate]
              rw [hst2] at hr
              rw [← hr]
              exact gives_tup (toVs_of rfl (toVs_of (toV_row1 rfl (.inr ⟨rfl, rfl⟩) (by omega)) rfl)) (by simp)
      · rw [if_pos hm] at hst
        simp -implicitDefEqProofs only [hm, en, vmp,↓vmd,Env.get,putD,argEnv,List.map,x00,x01,x02,x03,x04,x05,x06,x07,List.take,List.drop,x08,x09,x0a,x0b,List.isEmpty,↓reduceIte,reduceCtorEq,Nat.reduceEqDiff,Nat.reduceAdd,Nat.reduceLeDiff,x0c,Int.reduceNeg,Nat.reduceMul,Nat.reduceSub,x0d,x0e,x0f,x0g,x0h,x0i,x0j,x0k,Int.reduceEq,Int.reduceLT,Int.reduceLE,Int.reduceToNat,Int.cast_ofNat_Int,List.reduceReplicate]
        refine onBk_to (i + 1) [0, 1] (by simp) rfl (by omega) ⟨hlt, back hst rfl⟩ (by simp -implicitDefEqProofs only [next_at hlt (by omega), kpp,Env.get,x01,x00,x02,x03,List.map,x08,x09,↓reduceIte,reduceCtorEq,Nat.reduceEqDiff,Nat.reduceLeDiff,Nat.reduceLT,Nat.reduceAdd,x0j,x0l,x0m,x0n,x0o,Int.cast_ofNat_Int,x0p,x0i,x07,x06,x0q,x0r,x0s,x0t,x0d,x0u]) (by simp -implicitDefEqProofs only [kpp,Env.get,x01,x00,x02,x03,List.map,x08,x09,↓reduceIte,reduceCtorEq,Nat.reduceEqDiff,Nat.reduceLeDiff,Nat.reduceLT,Nat.reduceAdd,x0j,x0l,x0m,x0n,x0o,Int.cast_ofNat_Int,x0p,x0i,x07,x06,x0q,x0r,x0s,x0t,x0d,x0u])
  · simp -implicitDefEqProofs only [h2, vmp,↓vmd,Env.get,putD,argEnv,List.map,x00,x01,x02,x03,x04,x05,x06,x07,List.take,List.drop,x08,x09,x0a,x0b,List.isEmpty,↓reduceIte,reduceCtorEq,Nat.reduceEqDiff,Nat.reduceAdd,Nat.reduceLeDiff,x0c,Int.reduceNeg,Nat.reduceMul,Nat.reduceSub,x0d,x0e,x0f,x0g,x0h,x0i,x0j,x0k,Int.reduceEq,Int.reduceLT,Int.reduceLE,Int.reduceToNat,Int.cast_ofNat_Int,List.reduceReplicate]
    unfold c28_0
    simp -implicitDefEqProofs only [vmp,↓vmd,Env.get,putD,argEnv,List.map,x00,x01,x02,x03,x04,x05,x06,x07,List.take,List.drop,x08,x09,x0a,x0b,List.isEmpty,↓reduceIte,reduceCtorEq,Nat.reduceEqDiff,Nat.reduceAdd,Nat.reduceLeDiff,x0c,Int.reduceNeg,Nat.reduceMul,Nat.reduceSub,x0d,x0e,x0f,x0g,x0h,x0i,x0j,x0k,Int.reduceEq,Int.reduceLT,Int.reduceLE,Int.reduceToNat,Int.cast_ofNat_Int,List.reduceReplicate]
    rw [List.drop_of_length_le (by omega)] at hr
    rw [← hr]
    exact gives_tup rfl (by simp)
theorem ty_place29 : tyC Try.prog 20 53 = some (true, [.sl true (List.replicate 10 (.int .i64)), .int .i64]) := by kernel_rfl
theorem place29_of {v : V} (h : OkE true [.sl true (List.replicate 10 (.int .i64)), .int .i64] v) : ∃ (l : List Gl) (x : Int), v = .agg [.sl (l.map gl), I x] := by
  obtain ⟨cs, rfl, hc⟩ := agg_of h
  clear h
  match cs, hc with
  | [a, b], ⟨h1, h2, _⟩ =>
    obtain ⟨l, rfl, _⟩ := gls_of h1
    obtain ⟨x, rfl, _⟩ := okN_of h2
    exact ⟨l, x, rfl⟩
end Go.Proofs.Ytbllbkhkmngclaa.W
