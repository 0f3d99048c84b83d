/-
  Marks: the sizes that the laws ask for, and whether anchors are near. No condition.
-/
import Derived.Test.YtbllbkhkmngclaaMarksP
namespace Go.Proofs.Ytbllbkhkmngclaa.W
open Go Go.Vm Go.Proofs
set_option maxRecDepth 100000
set_option linter.unusedSimpArgs false
set_option maxHeartbeats 4000000
/-! typecase/typecaselaw34.light -/
def c13_0 : AC :=
  (.seq (.reg [⟨some 4, none, .mov (.c (.pure (.bool true)))⟩])
  .ret)
def c13_1 : AC :=
  (.seq (.reg [⟨some 20, none, .bin .lss (.s 19) (.s 18)⟩])
  (.seq (.cond (.s 20)
  .skip
  (.exit 0))
  (.seq (.block 1
  (.seq (.reg [⟨some 21, none, .idxA 12 (.s 17) (.s 19)⟩,
    ⟨some 22, none, .load true 12 (.s 21)⟩,
    ⟨some 6, none, .box (.c (.agg [.empty, .empty, .empty, .empty, .empty, .empty, .empty, .empty, .empty, .empty, .empty, .empty]))⟩,
    ⟨none, none, .store 12 (.s 6) (.s 22)⟩])
  (.seq (.reg [⟨some 23, none, .fldA 10 (.s 6)⟩,
    ⟨some 24, none, .load false 1 (.s 23)⟩,
    ⟨some 25, none, .len (.s 24)⟩,
    ⟨some 26, none, .bin .gtr (.s 25) (.c (.pure (.int .i64 60)))⟩,
    ⟨some 27, none, .mov (.s 26)⟩,
    ⟨some 28, some (27, false), .fldA 11 (.s 6)⟩,
    ⟨some 29, some (27, false), .load false 1 (.s 28)⟩,
    ⟨some 30, some (27, false), .len (.s 29)⟩,
    ⟨some 31, some (27, false), .bin .gtr (.s 30) (.c (.pure (.int .i64 60)))⟩,
    ⟨some 32, none, .pick (.s 27) (.c (.pure (.bool true))) (.s 31)⟩])
  (.cond (.s 32)
  (.seq (.reg [⟨some 4, none, .mov (.c (.pure (.bool false)))⟩])
  .ret)
  .skip))))
  (.reg [⟨some 33, none, .bin .add (.s 19) (.c (.pure (.int .i64 1)))⟩,
    ⟨some 19, none, .mov (.s 33)⟩]))))
def c13 : AC :=
  (.seq (.reg [⟨some 2, none, .box (.s 0)⟩,
    ⟨some 4, none, .mov (.c (.pure (.bool false)))⟩])
  (.seq (.seq (.reg [⟨some 7, none, .mov (.s 1)⟩,
    ⟨some 8, none, .len (.s 7)⟩,
    ⟨some 9, none, .bin .gtr (.s 8) (.c (.pure (.int .i64 40)))⟩,
    ⟨some 10, none, .mov (.s 9)⟩,
    ⟨some 11, some (10, false), .fldA 3 (.s 2)⟩,
    ⟨some 12, some (10, false), .load false 1 (.s 11)⟩,
    ⟨some 13, some (10, false), .len (.s 12)⟩,
    ⟨some 14, some (10, false), .bin .gtr (.s 13) (.c (.pure (.int .i64 20)))⟩,
    ⟨some 15, none, .pick (.s 10) (.c (.pure (.bool true))) (.s 14)⟩])
  (.cond (.s 15)
  (.seq (.reg [⟨some 4, none, .mov (.c (.pure (.bool false)))⟩])
  .ret)
  .skip))
  (.seq (.seq (.reg [⟨some 16, none, .fldA 3 (.s 2)⟩,
    ⟨some 17, none, .load false 1 (.s 16)⟩,
    ⟨some 18, none, .len (.s 17)⟩,
    ⟨some 19, none, .mov (.c (.pure (.int .i64 0)))⟩])
  (.block 0
  (.loop c13_1)))
  c13_0)))
theorem k13 : (Try.f13.body.bind fun c => cCode Try.prog Try.f13.ntmps RCs c) = some c13 := by kernel_rfl
theorem h13 : (Try.f13.name == "runtime.NumGoroutine") = false := by kernel_rfl
theorem r13 : resC Try.prog Try.f13.results.toList = some [.t 4] := by kernel_rfl
theorem a13 {args : List S} {H : Heap} {K : S → Heap → Prop} (hn : args.length ≤ 34) (h : aWx Try.prog H.length c13 (PostX [.t 4] K) (argEnv 0 args) H) : CallA Try.prog 13 args H K :=
  callA_of_x mixed Try.func13 h13 k13 r13 (by rw [Try.ntmps13]; exact hn) h
theorem q13 {vs ds : List V} (hn : vs.length ≤ 34) (h : aWx Try.prog 0 c13 (PostX [.t 4] (Gives ds)) (argEnv 0 (vs.map .pure)) []) : FnQ Try.prog 13 vs ds :=
  fnQ_of_call (a13 (by simpa using hn) h)
/-! typecase/typecaselaw34.near -/
def c19_0 : AC :=
  (.seq (.reg [⟨some 2, none, .mov (.c (.pure (.bool true)))⟩])
  .ret)
def c19_1 : AC :=
  (.reg [⟨some 60, none, .bin .add (.s 17) (.c (.pure (.int .i64 1)))⟩,
    ⟨some 17, none, .mov (.s 60)⟩])
def c19_2 : AC :=
  (.reg [⟨some 59, none, .bin .add (.s 36) (.c (.pure (.int .i64 1)))⟩,
    ⟨some 36, none, .mov (.s 59)⟩])
def c19_3 : AC :=
  (.reg [⟨some 58, none, .bin .add (.s 43) (.c (.pure (.int .i64 1)))⟩,
    ⟨some 43, none, .mov (.s 58)⟩])
def c19_4 : AC :=
  (.seq (.reg [⟨some 50, none, .bin .lss (.s 49) (.s 48)⟩])
  (.seq (.cond (.s 50)
  .skip
  (.exit 8))
  (.seq (.block 9
  (.seq (.reg [⟨some 51, none, .idxA 3 (.s 47) (.s 49)⟩,
    ⟨some 52, none, .load true 3 (.s 51)⟩,
    ⟨some 13, none, .box (.c (.pure (.agg [(.bool false), (.int .i64 0), (.int .i64 0)])))⟩,
    ⟨none, none, .store 3 (.s 13) (.s 52)⟩])
  (.seq (.reg [⟨some 53, none, .mov (.s 3)⟩,
    ⟨some 54, none, .fldA 1 (.s 13)⟩,
    ⟨some 55, none, .load true 2 (.s 54)⟩,
    ⟨some 56, none, .callv (.s 53) [(.s 55)]⟩])
  (.cond (.s 56)
  (.seq (.reg [⟨some 2, none, .mov (.c (.pure (.bool false)))⟩])
  .ret)
  .skip))))
  (.reg [⟨some 57, none, .bin .add (.s 49) (.c (.pure (.int .i64 1)))⟩,
    ⟨some 49, none, .mov (.s 57)⟩]))))
def c19_5 : AC :=
  (.seq (.reg [⟨some 44, none, .bin .lss (.s 43) (.s 42)⟩])
  (.seq (.cond (.s 44)
  .skip
  (.exit 6))
  (.seq (.block 7
  (.seq (.reg [⟨some 45, none, .idxA 1 (.s 41) (.s 43)⟩,
    ⟨some 46, none, .load false 1 (.s 45)⟩,
    ⟨some 11, none, .mov (.s 46)⟩])
  (.seq (.reg [⟨some 47, none, .mov (.s 11)⟩,
    ⟨some 48, none, .len (.s 47)⟩,
    ⟨some 49, none, .mov (.c (.pure (.int .i64 0)))⟩])
  (.block 8
  (.loop c19_4)))))
  c19_3)))
def c19_6 : AC :=
  (.seq (.reg [⟨some 37, none, .bin .lss (.s 36) (.s 35)⟩])
  (.seq (.cond (.s 37)
  .skip
  (.exit 4))
  (.seq (.block 5
  (.seq (.reg [⟨some 38, none, .idxA 2 (.s 34) (.s 36)⟩,
    ⟨some 39, none, .load true 2 (.s 38)⟩,
    ⟨some 9, none, .box (.c (.agg [(.pure (.int .i64 0)), .empty]))⟩,
    ⟨none, none, .store 2 (.s 9) (.s 39)⟩])
  (.seq (.reg [⟨some 40, none, .fldA 1 (.s 9)⟩,
    ⟨some 41, none, .load false 1 (.s 40)⟩,
    ⟨some 42, none, .len (.s 41)⟩,
    ⟨some 43, none, .mov (.c (.pure (.int .i64 0)))⟩])
  (.block 6
  (.loop c19_5)))))
  c19_2)))
def c19_7 : AC :=
  (.seq (.reg [⟨some 33, none, .fldA 11 (.s 5)⟩,
    ⟨some 34, none, .load false 1 (.s 33)⟩,
    ⟨some 35, none, .len (.s 34)⟩,
    ⟨some 36, none, .mov (.c (.pure (.int .i64 0)))⟩])
  (.block 4
  (.loop c19_6)))
def c19_8 : AC :=
  (.seq (.reg [⟨some 25, none, .bin .lss (.s 24) (.s 23)⟩])
  (.seq (.cond (.s 25)
  .skip
  (.exit 2))
  (.seq (.block 3
  (.seq (.reg [⟨some 26, none, .idxA 4 (.s 22) (.s 24)⟩,
    ⟨some 27, none, .load true 4 (.s 26)⟩,
    ⟨some 7, none, .box (.c (.pure (.agg [(.int .i64 0), (.int .i64 0), (.int .i64 0), (.int .i64 0)])))⟩,
    ⟨none, none, .store 4 (.s 7) (.s 27)⟩])
  (.seq (.reg [⟨some 28, none, .mov (.s 3)⟩,
    ⟨some 29, none, .fldA 2 (.s 7)⟩,
    ⟨some 30, none, .load true 2 (.s 29)⟩,
    ⟨some 31, none, .callv (.s 28) [(.s 30)]⟩])
  (.cond (.s 31)
  (.seq (.reg [⟨some 2, none, .mov (.c (.pure (.bool false)))⟩])
  .ret)
  .skip))))
  (.reg [⟨some 32, none, .bin .add (.s 24) (.c (.pure (.int .i64 1)))⟩,
    ⟨some 24, none, .mov (.s 32)⟩]))))
def c19_9 : AC :=
  (.seq (.reg [⟨some 18, none, .bin .lss (.s 17) (.s 16)⟩])
  (.seq (.cond (.s 18)
  .skip
  (.exit 0))
  (.seq (.block 1
  (.seq (.reg [⟨some 19, none, .idxA 12 (.s 15) (.s 17)⟩,
    ⟨some 20, none, .load true 12 (.s 19)⟩,
    ⟨some 5, none, .box (.c (.agg [.empty, .empty, .empty, .empty, .empty, .empty, .empty, .empty, .empty, .empty, .empty, .empty]))⟩,
    ⟨none, none, .store 12 (.s 5) (.s 20)⟩])
  (.seq (.seq (.reg [⟨some 21, none, .fldA 10 (.s 5)⟩,
    ⟨some 22, none, .load false 1 (.s 21)⟩,
    ⟨some 23, none, .len (.s 22)⟩,
    ⟨some 24, none, .mov (.c (.pure (.int .i64 0)))⟩])
  (.block 2
  (.loop c19_8)))
  c19_7)))
  c19_1)))
def c19 : AC :=
  (.seq (.reg [⟨some 1, none, .box (.s 0)⟩,
    ⟨some 2, none, .mov (.c (.pure (.bool false)))⟩])
  (.seq (.reg [⟨some 3, none, .mov (.c (.pure (.func (.func 58) [] [])))⟩])
  (.seq (.seq (.reg [⟨some 14, none, .fldA 3 (.s 1)⟩,
    ⟨some 15, none, .load false 1 (.s 14)⟩,
    ⟨some 16, none, .len (.s 15)⟩,
    ⟨some 17, none, .mov (.c (.pure (.int .i64 0)))⟩])
  (.block 0
  (.loop c19_9)))
  c19_0)))
theorem k19 : (Try.f19.body.bind fun c => cCode Try.prog Try.f19.ntmps RCs c) = some c19 := by kernel_rfl
theorem h19 : (Try.f19.name == "runtime.NumGoroutine") = false := by kernel_rfl
theorem r19 : resC Try.prog Try.f19.results.toList = some [.t 2] := by kernel_rfl
theorem a19 {args : List S} {H : Heap} {K : S → Heap → Prop} (hn : args.length ≤ 61) (h : aWx Try.prog H.length c19 (PostX [.t 2] K) (argEnv 0 args) H) : CallA Try.prog 19 args H K :=
  callA_of_x mixed Try.func19 h19 k19 r19 (by rw [Try.ntmps19]; exact hn) h
theorem q19 {vs ds : List V} (hn : vs.length ≤ 61) (h : aWx Try.prog 0 c19 (PostX [.t 2] (Gives ds)) (argEnv 0 (vs.map .pure)) []) : FnQ Try.prog 19 vs ds :=
  fnQ_of_call (a19 (by simpa using hn) h)
/-! typecase/typecaselaw34.near$1 -/
def c58 : AC :=
  (.seq (.reg [⟨some 1, none, .box (.s 0)⟩,
    ⟨some 2, none, .mov (.c (.pure (.bool false)))⟩])
  (.seq (.reg [⟨some 3, none, .fldA 0 (.s 1)⟩,
    ⟨some 4, none, .load false 1 (.s 3)⟩,
    ⟨some 5, none, .bin .lss (.s 4) (.c (.pure (.int .i64 (-1099511627776))))⟩,
    ⟨some 6, none, .mov (.s 5)⟩,
    ⟨some 7, some (6, false), .fldA 0 (.s 1)⟩,
    ⟨some 8, some (6, false), .load false 1 (.s 7)⟩,
    ⟨some 9, some (6, false), .bin .gtr (.s 8) (.c (.pure (.int .i64 1099511627776)))⟩,
    ⟨some 10, none, .pick (.s 6) (.c (.pure (.bool true))) (.s 9)⟩,
    ⟨some 11, none, .mov (.s 10)⟩,
    ⟨some 12, some (11, false), .fldA 1 (.s 1)⟩,
    ⟨some 13, some (11, false), .load false 1 (.s 12)⟩,
    ⟨some 14, some (11, false), .bin .lss (.s 13) (.c (.pure (.int .i64 (-1099511627776))))⟩,
    ⟨some 15, none, .pick (.s 11) (.c (.pure (.bool true))) (.s 14)⟩,
    ⟨some 16, none, .mov (.s 15)⟩,
    ⟨some 17, some (16, false), .fldA 1 (.s 1)⟩,
    ⟨some 18, some (16, false), .load false 1 (.s 17)⟩,
    ⟨some 19, some (16, false), .bin .gtr (.s 18) (.c (.pure (.int .i64 1099511627776)))⟩,
    ⟨some 20, none, .pick (.s 16) (.c (.pure (.bool true))) (.s 19)⟩,
    ⟨some 2, none, .mov (.s 20)⟩])
  .ret))
theorem k58 : (Try.f58.body.bind fun c => cCode Try.prog Try.f58.ntmps RCs c) = some c58 := by kernel_rfl
theorem h58 : (Try.f58.name == "runtime.NumGoroutine") = false := by kernel_rfl
theorem r58 : resC Try.prog Try.f58.results.toList = some [.t 2] := by kernel_rfl
theorem a58 {args : List S} {H : Heap} {K : S → Heap → Prop} (hn : args.length ≤ 21) (h : aWx Try.prog H.length c58 (PostX [.t 2] K) (argEnv 0 args) H) : CallA Try.prog 58 args H K :=
  callA_of_x mixed Try.func58 h58 k58 r58 (by rw [Try.ntmps58]; exact hn) h
theorem q58 {vs ds : List V} (hn : vs.length ≤ 21) (h : aWx Try.prog 0 c58 (PostX [.t 2] (Gives ds)) (argEnv 0 (vs.map .pure)) []) : FnQ Try.prog 58 vs ds :=
  fnQ_of_call (a58 (by simpa using hn) h)

def bigM (s : Sub) : Bool := decide (60 < s.marks.length) || decide (60 < s.hosts.length)
def lightM (k : Lk) (n : Nat) : Bool := !(decide (40 < n) || decide (20 < k.subs.length) || k.subs.any bigM)
theorem lightM_of {k : Lk} {n : Nat} (h : lightM k n = true) : n ≤ 40 ∧ k.subs.length ≤ 20 ∧ ∀ s ∈ k.subs, s.marks.length ≤ 60 ∧ s.hosts.length ≤ 60 := by
  simp only [lightM, Bool.not_eq_true', Bool.or_eq_false_iff, decide_eq_false_iff_not, List.any_eq_false] at h
  refine ⟨by omega, by omega, fun s hs => ?_⟩
  have := h.2 s hs
  simp only [bigM, Bool.or_eq_true, decide_eq_true_eq, not_or] at this
  omega
theorem lightm_q (k : Lk) (ls : List V) : FnQ Try.prog 13 [lk k, .sl ls] [.bool (lightM k ls.length)] := by
  refine q13 (by simp) ?_
  unfold c13
  simp -implicitDefEqProofs only [*, vmp,↓vmd,Env.get,putD,argEnv,List.map,x00,x01,x02,x03,x04,x05,x06,x07,List.take,List.drop,x08,x09,x0a,x0b,List.isEmpty,↓reduceIte,reduceCtorEq,Nat.reduceEqDiff,Nat.reduceAdd,Nat.reduceLeDiff,x0c,Int.reduceNeg,Nat.reduceMul,Nat.reduceSub,x0d,x0e,x0f,x0g,x0h,x0i,x0j,x0k,Int.reduceEq,Int.reduceLT,Int.reduceLE,Int.reduceToNat,Int.cast_ofNat_Int,List.reduceReplicate]
  refine onIf_intro fun _ => ?_
  simp -implicitDefEqProofs only [*, vmp,↓vmd,Env.get,putD,argEnv,List.map,x00,x01,x02,x03,x04,x05,x06,x07,List.take,List.drop,x08,x09,x0a,x0b,List.isEmpty,↓reduceIte,reduceCtorEq,Nat.reduceEqDiff,Nat.reduceAdd,Nat.reduceLeDiff,x0c,Int.reduceNeg,Nat.reduceMul,Nat.reduceSub,x0d,x0e,x0f,x0g,x0h,x0i,x0j,x0k,Int.reduceEq,Int.reduceLT,Int.reduceLE,Int.reduceToNat,Int.cast_ofNat_Int,List.reduceReplicate]
  refine onB_dec (fun h1 => ?_) (fun h1 => ?_)
  · simp -implicitDefEqProofs only [*, vmp,↓vmd,Env.get,putD,argEnv,List.map,x00,x01,x02,x03,x04,x05,x06,x07,List.take,List.drop,x08,x09,x0a,x0b,List.isEmpty,↓reduceIte,reduceCtorEq,Nat.reduceEqDiff,Nat.reduceAdd,Nat.reduceLeDiff,x0c,Int.reduceNeg,Nat.reduceMul,Nat.reduceSub,x0d,x0e,x0f,x0g,x0h,x0i,x0j,x0k,Int.reduceEq,Int.reduceLT,Int.reduceLE,Int.reduceToNat,Int.cast_ofNat_Int,List.reduceReplicate]
    rw [show lightM k ls.length = false by simp [lightM]; intro h; omega]
    exact gives_pure
  simp -implicitDefEqProofs only [*, vmp,↓vmd,Env.get,putD,argEnv,List.map,x00,x01,x02,x03,x04,x05,x06,x07,List.take,List.drop,x08,x09,x0a,x0b,List.isEmpty,↓reduceIte,reduceCtorEq,Nat.reduceEqDiff,Nat.reduceAdd,Nat.reduceLeDiff,x0c,Int.reduceNeg,Nat.reduceMul,Nat.reduceSub,x0d,x0e,x0f,x0g,x0h,x0i,x0j,x0k,Int.reduceEq,Int.reduceLT,Int.reduceLE,Int.reduceToNat,Int.cast_ofNat_Int,List.reduceReplicate]
  refine onIf_intro fun _ => ?_
  simp -implicitDefEqProofs only [*, vmp,↓vmd,Env.get,putD,argEnv,List.map,x00,x01,x02,x03,x04,x05,x06,x07,List.take,List.drop,x08,x09,x0a,x0b,List.isEmpty,↓reduceIte,reduceCtorEq,Nat.reduceEqDiff,Nat.reduceAdd,Nat.reduceLeDiff,x0c,Int.reduceNeg,Nat.reduceMul,Nat.reduceSub,x0d,x0e,x0f,x0g,x0h,x0i,x0j,x0k,Int.reduceEq,Int.reduceLT,Int.reduceLE,Int.reduceToNat,Int.cast_ofNat_Int,List.reduceReplicate]
  refine onB_dec (fun h2 => ?_) (fun h2 => ?_)
  · simp -implicitDefEqProofs only [*, vmp,↓vmd,Env.get,putD,argEnv,List.map,x00,x01,x02,x03,x04,x05,x06,x07,List.take,List.drop,x08,x09,x0a,x0b,List.isEmpty,↓reduceIte,reduceCtorEq,Nat.reduceEqDiff,Nat.reduceAdd,Nat.reduceLeDiff,x0c,Int.reduceNeg,Nat.reduceMul,Nat.reduceSub,x0d,x0e,x0f,x0g,x0h,x0i,x0j,x0k,Int.reduceEq,Int.reduceLT,Int.reduceLE,Int.reduceToNat,Int.cast_ofNat_Int,List.reduceReplicate]
    rw [show lightM k ls.length = false by simp [lightM]; intro h3 h4; omega]
    exact gives_pure
  simp -implicitDefEqProofs only [*, vmp,↓vmd,Env.get,putD,argEnv,List.map,x00,x01,x02,x03,x04,x05,x06,x07,List.take,List.drop,x08,x09,x0a,x0b,List.isEmpty,↓reduceIte,reduceCtorEq,Nat.reduceEqDiff,Nat.reduceAdd,Nat.reduceLeDiff,x0c,Int.reduceNeg,Nat.reduceMul,Nat.reduceSub,x0d,x0e,x0f,x0g,x0h,x0i,x0j,x0k,Int.reduceEq,Int.reduceLT,Int.reduceLE,Int.reduceToNat,Int.cast_ofNat_Int,List.reduceReplicate]
  refine loop_at (T := Nat) (fun i => [(19, .pure (I i)), (18, .pure (I k.subs.length)), (17, .pure (.sl (k.subs.map sub)))]) (fun _ => []) (fun i => i ≤ k.subs.length ∧ (k.subs.drop i).any bigM = k.subs.any bigM) (fun i => k.subs.length - i)
    0 [] (by simp) rfl ⟨by simp, by simp⟩ (by simp -implicitDefEqProofs only [kpp,Env.get,x01,x00,x02,x03,List.map,x08,x09,↓reduceIte,reduceCtorEq,Nat.reduceEqDiff,Nat.reduceLeDiff,Nat.reduceLT,Nat.reduceAdd,x0j,x0l,x0m,x0n,x0o,Int.cast_ofNat_Int,x0p,x0i,x07,x06,x0q,x0r,x0s,x0t,x0d,x0u]) (by simp -implicitDefEqProofs only [kpp,Env.get,x01,x00,x02,x03,List.map,x08,x09,↓reduceIte,reduceCtorEq,Nat.reduceEqDiff,Nat.reduceLeDiff,Nat.reduceLT,Nat.reduceAdd,x0j,x0l,x0m,x0n,x0o,Int.cast_ofNat_Int,x0p,x0i,x07,x06,x0q,x0r,x0s,x0t,x0d,x0u]) ?_
  rintro i ⟨hi, hr⟩
  unfold c13_1
  simp -implicitDefEqProofs only [vmp,↓vmd,Env.get,putD,argEnv,List.map,x00,x01,x02,x03,x04,x05,x06,x07,List.take,List.drop,x08,x09,x0a,x0b,List.isEmpty,↓reduceIte,reduceCtorEq,Nat.reduceEqDiff,Nat.reduceAdd,Nat.reduceLeDiff,x0c,Int.reduceNeg,Nat.reduceMul,Nat.reduceSub,x0d,x0e,x0f,x0g,x0h,x0i,x0j,x0k,Int.reduceEq,Int.reduceLT,Int.reduceLE,Int.reduceToNat,Int.cast_ofNat_Int,List.reduceReplicate]
  refine onB_dec (fun h5 => ?_) (fun h5 => ?_)
  · have hlt : i < k.subs.length := by omega
    rw [drop_at hlt, List.any_cons] at hr
    have yes : bigM k.subs[i] = true → lightM k ls.length = false := fun e => by rw [lightM, ← hr, e]; simp
    simp -implicitDefEqProofs only [h5, map_at hlt, Int.natCast_nonneg, vmp,↓vmd,Env.get,putD,argEnv,List.map,x00,x01,x02,x03,x04,x05,x06,x07,List.take,List.drop,x08,x09,x0a,x0b,List.isEmpty,↓reduceIte,reduceCtorEq,Nat.reduceEqDiff,Nat.reduceAdd,Nat.reduceLeDiff,x0c,Int.reduceNeg,Nat.reduceMul,Nat.reduceSub,x0d,x0e,x0f,x0g,x0h,x0i,x0j,x0k,Int.reduceEq,Int.reduceLT,Int.reduceLE,Int.reduceToNat,Int.cast_ofNat_Int,List.reduceReplicate]
    refine onIf_intro fun _ => ?_
    simp -implicitDefEqProofs only [vmp,↓vmd,Env.get,putD,argEnv,List.map,x00,x01,x02,x03,x04,x05,x06,x07,List.take,List.drop,x08,x09,x0a,x0b,List.isEmpty,↓reduceIte,reduceCtorEq,Nat.reduceEqDiff,Nat.reduceAdd,Nat.reduceLeDiff,x0c,Int.reduceNeg,Nat.reduceMul,Nat.reduceSub,x0d,x0e,x0f,x0g,x0h,x0i,x0j,x0k,Int.reduceEq,Int.reduceLT,Int.reduceLE,Int.reduceToNat,Int.cast_ofNat_Int,List.reduceReplicate]
    refine onB_dec (fun h6 => ?_) (fun h6 => ?_)
    · simp -implicitDefEqProofs only [h6, vmp,↓vmd,Env.get,putD,argEnv,List.map,x00,x01,x02,x03,x04,x05,x06,x07,List.take,List.drop,x08,x09,x0a,x0b,List.isEmpty,↓reduceIte,reduceCtorEq,Nat.reduceEqDiff,Nat.reduceAdd,Nat.reduceLeDiff,x0c,Int.reduceNeg,Nat.reduceMul,Nat.reduceSub,x0d,x0e,x0f,x0g,x0h,x0i,x0j,x0k,Int.reduceEq,Int.reduceLT,Int.reduceLE,Int.reduceToNat,Int.cast_ofNat_Int,List.reduceReplicate]
      rw [yes (by simp [bigM]; omega)]
      exact gives_pure
    simp -implicitDefEqProofs only [h6, vmp,↓vmd,Env.get,putD,argEnv,List.map,x00,x01,x02,x03,x04,x05,x06,x07,List.take,List.drop,x08,x09,x0a,x0b,List.isEmpty,↓reduceIte,reduceCtorEq,Nat.reduceEqDiff,Nat.reduceAdd,Nat.reduceLeDiff,x0c,Int.reduceNeg,Nat.reduceMul,Nat.reduceSub,x0d,x0e,x0f,x0g,x0h,x0i,x0j,x0k,Int.reduceEq,Int.reduceLT,Int.reduceLE,Int.reduceToNat,Int.cast_ofNat_Int,List.reduceReplicate]
    refine onIf_intro fun _ => ?_
    simp -implicitDefEqProofs only [h6, vmp,↓vmd,Env.get,putD,argEnv,List.map,x00,x01,x02,x03,x04,x05,x06,x07,List.take,List.drop,x08,x09,x0a,x0b,List.isEmpty,↓reduceIte,reduceCtorEq,Nat.reduceEqDiff,Nat.reduceAdd,Nat.reduceLeDiff,x0c,Int.reduceNeg,Nat.reduceMul,Nat.reduceSub,x0d,x0e,x0f,x0g,x0h,x0i,x0j,x0k,Int.reduceEq,Int.reduceLT,Int.reduceLE,Int.reduceToNat,Int.cast_ofNat_Int,List.reduceReplicate]
    refine onB_dec (fun h7 => ?_) (fun h7 => ?_)
    · simp -implicitDefEqProofs only [h7, vmp,↓vmd,Env.get,putD,argEnv,List.map,x00,x01,x02,x03,x04,x05,x06,x07,List.take,List.drop,x08,x09,x0a,x0b,List.isEmpty,↓reduceIte,reduceCtorEq,Nat.reduceEqDiff,Nat.reduceAdd,Nat.reduceLeDiff,x0c,Int.reduceNeg,Nat.reduceMul,Nat.reduceSub,x0d,x0e,x0f,x0g,x0h,x0i,x0j,x0k,Int.reduceEq,Int.reduceLT,Int.reduceLE,Int.reduceToNat,Int.cast_ofNat_Int,List.reduceReplicate]
      rw [yes (by simp [bigM]; omega)]
      exact gives_pure
    · simp -implicitDefEqProofs only [h7, vmp,↓vmd,Env.get,putD,argEnv,List.map,x00,x01,x02,x03,x04,x05,x06,x07,List.take,List.drop,x08,x09,x0a,x0b,List.isEmpty,↓reduceIte,reduceCtorEq,Nat.reduceEqDiff,Nat.reduceAdd,Nat.reduceLeDiff,x0c,Int.reduceNeg,Nat.reduceMul,Nat.reduceSub,x0d,x0e,x0f,x0g,x0h,x0i,x0j,x0k,Int.reduceEq,Int.reduceLT,Int.reduceLE,Int.reduceToNat,Int.cast_ofNat_Int,List.reduceReplicate]
      refine onBk_to (i + 1) [] (by simp) rfl (by omega) ⟨hlt, by rw [← hr, show bigM k.subs[i] = false by simp [bigM]; omega, Bool.false_or]⟩ (by simp -implicitDefEqProofs only [next_at hlt (by omega), kpp,Env.get,x01,x00,x02,x03,List.map,x08,x09,↓reduceIte,reduceCtorEq,Nat.reduceEqDiff,Nat.reduceLeDiff,Nat.reduceLT,Nat.reduceAdd,x0j,x0l,x0m,x0n,x0o,Int.cast_ofNat_Int,x0p,x0i,x07,x06,x0q,x0r,x0s,x0t,x0d,x0u]) (by simp -implicitDefEqProofs only [kpp,Env.get,x01,x00,x02,x03,List.map,x08,x09,↓reduceIte,reduceCtorEq,Nat.reduceEqDiff,Nat.reduceLeDiff,Nat.reduceLT,Nat.reduceAdd,x0j,x0l,x0m,x0n,x0o,Int.cast_ofNat_Int,x0p,x0i,x07,x06,x0q,x0r,x0s,x0t,x0d,x0u])
  · simp -implicitDefEqProofs only [h5, vmp,↓vmd,Env.get,putD,argEnv,List.map,x00,x01,x02,x03,x04,x05,x06,x07,List.take,List.drop,x08,x09,x0a,x0b,List.isEmpty,↓reduceIte,reduceCtorEq,Nat.reduceEqDiff,Nat.reduceAdd,Nat.reduceLeDiff,x0c,Int.reduceNeg,Nat.reduceMul,Nat.reduceSub,x0d,x0e,x0f,x0g,x0h,x0i,x0j,x0k,Int.reduceEq,Int.reduceLT,Int.reduceLE,Int.reduceToNat,Int.cast_ofNat_Int,List.reduceReplicate]
    unfold c13_0
    simp -implicitDefEqProofs only [vmp,↓vmd,Env.get,putD,argEnv,List.map,x00,x01,x02,x03,x04,x05,x06,x07,List.take,List.drop,x08,x09,x0a,x0b,List.isEmpty,↓reduceIte,reduceCtorEq,Nat.reduceEqDiff,Nat.reduceAdd,Nat.reduceLeDiff,x0c,Int.reduceNeg,Nat.reduceMul,Nat.reduceSub,x0d,x0e,x0f,x0g,x0h,x0i,x0j,x0k,Int.reduceEq,Int.reduceLT,Int.reduceLE,Int.reduceToNat,Int.cast_ofNat_Int,List.reduceReplicate]
    rw [List.drop_of_length_le (by omega)] at hr
    rw [show lightM k ls.length = true by rw [lightM, ← hr]; simp; omega]
    exact gives_pure
def farB (x y : Int) : Bool := decide (x < -1099511627776) || decide (1099511627776 < x) || decide (y < -1099511627776) || decide (1099511627776 < y)
theorem far_q (x y : Int) : FnQ Try.prog 58 [.agg [I x, I y]] [.bool (farB x y)] := by
  refine q58 (by simp) ?_
  unfold c58
  simp -implicitDefEqProofs only [*, vmp,↓vmd,Env.get,putD,argEnv,List.map,x00,x01,x02,x03,x04,x05,x06,x07,List.take,List.drop,x08,x09,x0a,x0b,List.isEmpty,↓reduceIte,reduceCtorEq,Nat.reduceEqDiff,Nat.reduceAdd,Nat.reduceLeDiff,x0c,Int.reduceNeg,Nat.reduceMul,Nat.reduceSub,x0d,x0e,x0f,x0g,x0h,x0i,x0j,x0k,Int.reduceEq,Int.reduceLT,Int.reduceLE,Int.reduceToNat,Int.cast_ofNat_Int,List.reduceReplicate]
  refine onB_dec (fun h1 => ?_) (fun h1 => ?_)
  · simp -implicitDefEqProofs only [h1, vmp,↓vmd,Env.get,putD,argEnv,List.map,x00,x01,x02,x03,x04,x05,x06,x07,List.take,List.drop,x08,x09,x0a,x0b,List.isEmpty,↓reduceIte,reduceCtorEq,Nat.reduceEqDiff,Nat.reduceAdd,Nat.reduceLeDiff,x0c,Int.reduceNeg,Nat.reduceMul,Nat.reduceSub,x0d,x0e,x0f,x0g,x0h,x0i,x0j,x0k,Int.reduceEq,Int.reduceLT,Int.reduceLE,Int.reduceToNat,Int.cast_ofNat_Int,List.reduceReplicate]
    rw [show farB x y = true by simp [farB]; omega]
    exact gives_pure
  simp -implicitDefEqProofs only [h1, vmp,↓vmd,Env.get,putD,argEnv,List.map,x00,x01,x02,x03,x04,x05,x06,x07,List.take,List.drop,x08,x09,x0a,x0b,List.isEmpty,↓reduceIte,reduceCtorEq,Nat.reduceEqDiff,Nat.reduceAdd,Nat.reduceLeDiff,x0c,Int.reduceNeg,Nat.reduceMul,Nat.reduceSub,x0d,x0e,x0f,x0g,x0h,x0i,x0j,x0k,Int.reduceEq,Int.reduceLT,Int.reduceLE,Int.reduceToNat,Int.cast_ofNat_Int,List.reduceReplicate]
  refine onB_dec (fun h2 => ?_) (fun h2 => ?_)
  · simp -implicitDefEqProofs only [h2, vmp,↓vmd,Env.get,putD,argEnv,List.map,x00,x01,x02,x03,x04,x05,x06,x07,List.take,List.drop,x08,x09,x0a,x0b,List.isEmpty,↓reduceIte,reduceCtorEq,Nat.reduceEqDiff,Nat.reduceAdd,Nat.reduceLeDiff,x0c,Int.reduceNeg,Nat.reduceMul,Nat.reduceSub,x0d,x0e,x0f,x0g,x0h,x0i,x0j,x0k,Int.reduceEq,Int.reduceLT,Int.reduceLE,Int.reduceToNat,Int.cast_ofNat_Int,List.reduceReplicate]
    rw [show farB x y = true by simp [farB]; omega]
    exact gives_pure
  simp -implicitDefEqProofs only [h1, h2, vmp,↓vmd,Env.get,putD,argEnv,List.map,x00,x01,x02,x03,x04,x05,x06,x07,List.take,List.drop,x08,x09,x0a,x0b,List.isEmpty,↓reduceIte,reduceCtorEq,Nat.reduceEqDiff,Nat.reduceAdd,Nat.reduceLeDiff,x0c,Int.reduceNeg,Nat.reduceMul,Nat.reduceSub,x0d,x0e,x0f,x0g,x0h,x0i,x0j,x0k,Int.reduceEq,Int.reduceLT,Int.reduceLE,Int.reduceToNat,Int.cast_ofNat_Int,List.reduceReplicate]
  refine onB_dec (fun h3 => ?_) (fun h3 => ?_)
  · simp -implicitDefEqProofs only [h3, vmp,↓vmd,Env.get,putD,argEnv,List.map,x00,x01,x02,x03,x04,x05,x06,x07,List.take,List.drop,x08,x09,x0a,x0b,List.isEmpty,↓reduceIte,reduceCtorEq,Nat.reduceEqDiff,Nat.reduceAdd,Nat.reduceLeDiff,x0c,Int.reduceNeg,Nat.reduceMul,Nat.reduceSub,x0d,x0e,x0f,x0g,x0h,x0i,x0j,x0k,Int.reduceEq,Int.reduceLT,Int.reduceLE,Int.reduceToNat,Int.cast_ofNat_Int,List.reduceReplicate]
    rw [show farB x y = true by simp [farB]; omega]
    exact gives_pure
  · simp -implicitDefEqProofs only [h1, h2, h3, vmp,↓vmd,Env.get,putD,argEnv,List.map,x00,x01,x02,x03,x04,x05,x06,x07,List.take,List.drop,x08,x09,x0a,x0b,List.isEmpty,↓reduceIte,reduceCtorEq,Nat.reduceEqDiff,Nat.reduceAdd,Nat.reduceLeDiff,x0c,Int.reduceNeg,Nat.reduceMul,Nat.reduceSub,x0d,x0e,x0f,x0g,x0h,x0i,x0j,x0k,Int.reduceEq,Int.reduceLT,Int.reduceLE,Int.reduceToNat,Int.cast_ofNat_Int,List.reduceReplicate]
    rw [show farB x y = decide (1099511627776 < y) by rw [farB, decide_eq_false (by omega), decide_eq_false (by omega), decide_eq_false (by omega)]; simp]
    exact gives_pure
def farM (m : Mk) : Bool := farB m.x m.y
def farP (s : Spt) : Bool := farB s.x s.y
def farH (h : Ho) : Bool := h.spots.any fun l => l.any farP
def farS (s : Sub) : Bool := s.marks.any farM || s.hosts.any farH
def nearM (k : Lk) : Bool := !(k.subs.any farS)
theorem near_q (k : Lk) (hs : ∀ s ∈ k.subs, s.marks.length ≤ 60 ∧ s.hosts.length ≤ 60) (hk : k.subs.length ≤ 20) : FnQ Try.prog 19 [lk k] [.bool (nearM k)] := by
  refine q19 (by simp) ?_
  unfold c19
  simp -implicitDefEqProofs only [*, vmp,↓vmd,Env.get,putD,argEnv,List.map,x00,x01,x02,x03,x04,x05,x06,x07,List.take,List.drop,x08,x09,x0a,x0b,List.isEmpty,↓reduceIte,reduceCtorEq,Nat.reduceEqDiff,Nat.reduceAdd,Nat.reduceLeDiff,x0c,Int.reduceNeg,Nat.reduceMul,Nat.reduceSub,x0d,x0e,x0f,x0g,x0h,x0i,x0j,x0k,Int.reduceEq,Int.reduceLT,Int.reduceLE,Int.reduceToNat,Int.cast_ofNat_Int,List.reduceReplicate]
  refine onIf_intro fun _ => ?_
  simp -implicitDefEqProofs only [*, vmp,↓vmd,Env.get,putD,argEnv,List.map,x00,x01,x02,x03,x04,x05,x06,x07,List.take,List.drop,x08,x09,x0a,x0b,List.isEmpty,↓reduceIte,reduceCtorEq,Nat.reduceEqDiff,Nat.reduceAdd,Nat.reduceLeDiff,x0c,Int.reduceNeg,Nat.reduceMul,Nat.reduceSub,x0d,x0e,x0f,x0g,x0h,x0i,x0j,x0k,Int.reduceEq,Int.reduceLT,Int.reduceLE,Int.reduceToNat,Int.cast_ofNat_Int,List.reduceReplicate]
  refine loop_at (T := Nat) (fun i => [(17, .pure (I i)), (16, .pure (I k.subs.length)), (15, .pure (.sl (k.subs.map sub))), (3, .pure (.func (.func 58) [] []))]) (fun _ => []) (fun i => i ≤ k.subs.length ∧ (k.subs.drop i).any farS = k.subs.any farS) (fun i => k.subs.length - i)
    0 [] (by simp) rfl ⟨by simp, by simp⟩ (by simp -implicitDefEqProofs only [kpp,Env.get,x01,x00,x02,x03,List.map,x08,x09,↓reduceIte,reduceCtorEq,Nat.reduceEqDiff,Nat.reduceLeDiff,Nat.reduceLT,Nat.reduceAdd,x0j,x0l,x0m,x0n,x0o,Int.cast_ofNat_Int,x0p,x0i,x07,x06,x0q,x0r,x0s,x0t,x0d,x0u]) (by simp -implicitDefEqProofs only [kpp,Env.get,x01,x00,x02,x03,List.map,x08,x09,↓reduceIte,reduceCtorEq,Nat.reduceEqDiff,Nat.reduceLeDiff,Nat.reduceLT,Nat.reduceAdd,x0j,x0l,x0m,x0n,x0o,Int.cast_ofNat_Int,x0p,x0i,x07,x06,x0q,x0r,x0s,x0t,x0d,x0u]) ?_
  rintro i ⟨hi, hr⟩
  unfold c19_9
  simp -implicitDefEqProofs only [vmp,↓vmd,Env.get,putD,argEnv,List.map,x00,x01,x02,x03,x04,x05,x06,x07,List.take,List.drop,x08,x09,x0a,x0b,List.isEmpty,↓reduceIte,reduceCtorEq,Nat.reduceEqDiff,Nat.reduceAdd,Nat.reduceLeDiff,x0c,Int.reduceNeg,Nat.reduceMul,Nat.reduceSub,x0d,x0e,x0f,x0g,x0h,x0i,x0j,x0k,Int.reduceEq,Int.reduceLT,Int.reduceLE,Int.reduceToNat,Int.cast_ofNat_Int,List.reduceReplicate]
  refine onB_dec (fun h5 => ?_) (fun h5 => ?_)
  · have hlt : i < k.subs.length := by omega
    rw [drop_at hlt, List.any_cons] at hr
    have hsi := hs k.subs[i] (List.getElem_mem _)
    obtain ⟨s, he⟩ : ∃ s, s = k.subs[i] := ⟨_, rfl⟩
    have hm : (k.subs.map sub)[i]? = some (sub s) := by rw [he]; exact map_at hlt
    rw [← he] at hr hsi
    have yes : farS s = true → nearM k = false := fun e => by rw [nearM, ← hr, e]; rfl
    simp -implicitDefEqProofs only [h5, hm, Int.natCast_nonneg, vmp,↓vmd,Env.get,putD,argEnv,List.map,x00,x01,x02,x03,x04,x05,x06,x07,List.take,List.drop,x08,x09,x0a,x0b,List.isEmpty,↓reduceIte,reduceCtorEq,Nat.reduceEqDiff,Nat.reduceAdd,Nat.reduceLeDiff,x0c,Int.reduceNeg,Nat.reduceMul,Nat.reduceSub,x0d,x0e,x0f,x0g,x0h,x0i,x0j,x0k,Int.reduceEq,Int.reduceLT,Int.reduceLE,Int.reduceToNat,Int.cast_ofNat_Int,List.reduceReplicate]
    refine onIf_intro fun _ => ?_
    simp -implicitDefEqProofs only [h5, vmp,↓vmd,Env.get,putD,argEnv,List.map,x00,x01,x02,x03,x04,x05,x06,x07,List.take,List.drop,x08,x09,x0a,x0b,List.isEmpty,↓reduceIte,reduceCtorEq,Nat.reduceEqDiff,Nat.reduceAdd,Nat.reduceLeDiff,x0c,Int.reduceNeg,Nat.reduceMul,Nat.reduceSub,x0d,x0e,x0f,x0g,x0h,x0i,x0j,x0k,Int.reduceEq,Int.reduceLT,Int.reduceLE,Int.reduceToNat,Int.cast_ofNat_Int,List.reduceReplicate]
    refine loop_at (T := Nat) (fun j => [(24, .pure (I j)), (23, .pure (I s.marks.length)), (22, .pure (.sl (s.marks.map mk))), (5, .ptr 0 0 0), (17, .pure (I i)), (16, .pure (I k.subs.length)), (15, .pure (.sl (k.subs.map sub))), (3, .pure (.func (.func 58) [] []))]) (fun _ => [⟨[.pure (sub s)], 12, .live⟩]) (fun j => j ≤ s.marks.length ∧ (s.marks.drop j).any farM = s.marks.any farM) (fun j => s.marks.length - j)
      0 [0] (by simp) rfl ⟨by simp, by simp⟩ (by simp -implicitDefEqProofs only [kpp,Env.get,x01,x00,x02,x03,List.map,x08,x09,↓reduceIte,reduceCtorEq,Nat.reduceEqDiff,Nat.reduceLeDiff,Nat.reduceLT,Nat.reduceAdd,x0j,x0l,x0m,x0n,x0o,Int.cast_ofNat_Int,x0p,x0i,x07,x06,x0q,x0r,x0s,x0t,x0d,x0u]) (by simp -implicitDefEqProofs only [kpp,Env.get,x01,x00,x02,x03,List.map,x08,x09,↓reduceIte,reduceCtorEq,Nat.reduceEqDiff,Nat.reduceLeDiff,Nat.reduceLT,Nat.reduceAdd,x0j,x0l,x0m,x0n,x0o,Int.cast_ofNat_Int,x0p,x0i,x07,x06,x0q,x0r,x0s,x0t,x0d,x0u]) ?_
    rintro j ⟨hj, hrj⟩
    unfold c19_8
    simp -implicitDefEqProofs only [vmp,↓vmd,Env.get,putD,argEnv,List.map,x00,x01,x02,x03,x04,x05,x06,x07,List.take,List.drop,x08,x09,x0a,x0b,List.isEmpty,↓reduceIte,reduceCtorEq,Nat.reduceEqDiff,Nat.reduceAdd,Nat.reduceLeDiff,x0c,Int.reduceNeg,Nat.reduceMul,Nat.reduceSub,x0d,x0e,x0f,x0g,x0h,x0i,x0j,x0k,Int.reduceEq,Int.reduceLT,Int.reduceLE,Int.reduceToNat,Int.cast_ofNat_Int,List.reduceReplicate]
    refine onB_dec (fun h6 => ?_) (fun h6 => ?_)
    · have hltj : j < s.marks.length := by omega
      rw [drop_at hltj, List.any_cons] at hrj
      simp -implicitDefEqProofs only [h6, map_at hltj, Int.natCast_nonneg, vmp,↓vmd,Env.get,putD,argEnv,List.map,x00,x01,x02,x03,x04,x05,x06,x07,List.take,List.drop,x08,x09,x0a,x0b,List.isEmpty,↓reduceIte,reduceCtorEq,Nat.reduceEqDiff,Nat.reduceAdd,Nat.reduceLeDiff,x0c,Int.reduceNeg,Nat.reduceMul,Nat.reduceSub,x0d,x0e,x0f,x0g,x0h,x0i,x0j,x0k,Int.reduceEq,Int.reduceLT,Int.reduceLE,Int.reduceToNat,Int.cast_ofNat_Int,List.reduceReplicate]
      refine onC_q (far_q _ _) rfl ?_
      first | refine envO (by simp -implicitDefEqProofs only [vmp,↓vmd,Env.get,putD,argEnv,List.map,x00,x01,x02,x03,x04,x05,x06,x07,List.take,List.drop,x08,x09,x0a,x0b,List.isEmpty,↓reduceIte,reduceCtorEq,Nat.reduceEqDiff,Nat.reduceAdd,Nat.reduceLeDiff,x0c,Int.reduceNeg,Nat.reduceMul,Nat.reduceSub,x0d,x0e,x0f,x0g,x0h,x0i,x0j,x0k,Int.reduceEq,Int.reduceLT,Int.reduceLE,Int.reduceToNat,Int.cast_ofNat_Int,List.reduceReplicate]; rfl) ?_ | refine envQ (by simp -implicitDefEqProofs only [vmp,↓vmd,Env.get,putD,argEnv,List.map,x00,x01,x02,x03,x04,x05,x06,x07,List.take,List.drop,x08,x09,x0a,x0b,List.isEmpty,↓reduceIte,reduceCtorEq,Nat.reduceEqDiff,Nat.reduceAdd,Nat.reduceLeDiff,x0c,Int.reduceNeg,Nat.reduceMul,Nat.reduceSub,x0d,x0e,x0f,x0g,x0h,x0i,x0j,x0k,Int.reduceEq,Int.reduceLT,Int.reduceLE,Int.reduceToNat,Int.cast_ofNat_Int,List.reduceReplicate]; rfl) ?_
      simp -implicitDefEqProofs only [vmp,↓vmd,Env.get,putD,argEnv,List.map,x00,x01,x02,x03,x04,x05,x06,x07,List.take,List.drop,x08,x09,x0a,x0b,List.isEmpty,↓reduceIte,reduceCtorEq,Nat.reduceEqDiff,Nat.reduceAdd,Nat.reduceLeDiff,x0c,Int.reduceNeg,Nat.reduceMul,Nat.reduceSub,x0d,x0e,x0f,x0g,x0h,x0i,x0j,x0k,Int.reduceEq,Int.reduceLT,Int.reduceLE,Int.reduceToNat,Int.cast_ofNat_Int,List.reduceReplicate]
      refine onB_intro (fun h7 => ?_) (fun h7 => ?_)
      · simp -implicitDefEqProofs only [h7, vmp,↓vmd,Env.get,putD,argEnv,List.map,x00,x01,x02,x03,x04,x05,x06,x07,List.take,List.drop,x08,x09,x0a,x0b,List.isEmpty,↓reduceIte,reduceCtorEq,Nat.reduceEqDiff,Nat.reduceAdd,Nat.reduceLeDiff,x0c,Int.reduceNeg,Nat.reduceMul,Nat.reduceSub,x0d,x0e,x0f,x0g,x0h,x0i,x0j,x0k,Int.reduceEq,Int.reduceLT,Int.reduceLE,Int.reduceToNat,Int.cast_ofNat_Int,List.reduceReplicate]
        rw [yes (by rw [farS, ← hrj, farM, h7]; rfl)]
        exact gives_pure
      · simp -implicitDefEqProofs only [h7, vmp,↓vmd,Env.get,putD,argEnv,List.map,x00,x01,x02,x03,x04,x05,x06,x07,List.take,List.drop,x08,x09,x0a,x0b,List.isEmpty,↓reduceIte,reduceCtorEq,Nat.reduceEqDiff,Nat.reduceAdd,Nat.reduceLeDiff,x0c,Int.reduceNeg,Nat.reduceMul,Nat.reduceSub,x0d,x0e,x0f,x0g,x0h,x0i,x0j,x0k,Int.reduceEq,Int.reduceLT,Int.reduceLE,Int.reduceToNat,Int.cast_ofNat_Int,List.reduceReplicate]
        refine onBk_to (j + 1) [0] (by simp) rfl (by omega) ⟨hltj, by rw [← hrj, farM, h7, Bool.false_or]⟩ (by simp -implicitDefEqProofs only [next_at hltj (by omega), kpp,Env.get,x01,x00,x02,x03,List.map,x08,x09,↓reduceIte,reduceCtorEq,Nat.reduceEqDiff,Nat.reduceLeDiff,Nat.reduceLT,Nat.reduceAdd,x0j,x0l,x0m,x0n,x0o,Int.cast_ofNat_Int,x0p,x0i,x07,x06,x0q,x0r,x0s,x0t,x0d,x0u]) (by simp -implicitDefEqProofs only [kpp,Env.get,x01,x00,x02,x03,List.map,x08,x09,↓reduceIte,reduceCtorEq,Nat.reduceEqDiff,Nat.reduceLeDiff,Nat.reduceLT,Nat.reduceAdd,x0j,x0l,x0m,x0n,x0o,Int.cast_ofNat_Int,x0p,x0i,x07,x06,x0q,x0r,x0s,x0t,x0d,x0u])
    · rw [List.drop_of_length_le (by omega)] at hrj
      simp -implicitDefEqProofs only [h6, vmp,↓vmd,Env.get,putD,argEnv,List.map,x00,x01,x02,x03,x04,x05,x06,x07,List.take,List.drop,x08,x09,x0a,x0b,List.isEmpty,↓reduceIte,reduceCtorEq,Nat.reduceEqDiff,Nat.reduceAdd,Nat.reduceLeDiff,x0c,Int.reduceNeg,Nat.reduceMul,Nat.reduceSub,x0d,x0e,x0f,x0g,x0h,x0i,x0j,x0k,Int.reduceEq,Int.reduceLT,Int.reduceLE,Int.reduceToNat,Int.cast_ofNat_Int,List.reduceReplicate]
      unfold c19_7
      simp -implicitDefEqProofs only [vmp,↓vmd,Env.get,putD,argEnv,List.map,x00,x01,x02,x03,x04,x05,x06,x07,List.take,List.drop,x08,x09,x0a,x0b,List.isEmpty,↓reduceIte,reduceCtorEq,Nat.reduceEqDiff,Nat.reduceAdd,Nat.reduceLeDiff,x0c,Int.reduceNeg,Nat.reduceMul,Nat.reduceSub,x0d,x0e,x0f,x0g,x0h,x0i,x0j,x0k,Int.reduceEq,Int.reduceLT,Int.reduceLE,Int.reduceToNat,Int.cast_ofNat_Int,List.reduceReplicate]
      refine onIf_intro fun _ => ?_
      simp -implicitDefEqProofs only [vmp,↓vmd,Env.get,putD,argEnv,List.map,x00,x01,x02,x03,x04,x05,x06,x07,List.take,List.drop,x08,x09,x0a,x0b,List.isEmpty,↓reduceIte,reduceCtorEq,Nat.reduceEqDiff,Nat.reduceAdd,Nat.reduceLeDiff,x0c,Int.reduceNeg,Nat.reduceMul,Nat.reduceSub,x0d,x0e,x0f,x0g,x0h,x0i,x0j,x0k,Int.reduceEq,Int.reduceLT,Int.reduceLE,Int.reduceToNat,Int.cast_ofNat_Int,List.reduceReplicate]
      refine loop_at (T := Nat) (fun j => [(36, .pure (I j)), (35, .pure (I s.hosts.length)), (34, .pure (.sl (s.hosts.map ho))), (17, .pure (I i)), (16, .pure (I k.subs.length)), (15, .pure (.sl (k.subs.map sub))), (3, .pure (.func (.func 58) [] []))]) (fun _ => []) (fun j => j ≤ s.hosts.length ∧ (s.hosts.drop j).any farH = s.hosts.any farH) (fun j => s.hosts.length - j)
        0 [] (by simp) rfl ⟨by simp, by simp⟩ (by simp -implicitDefEqProofs only [kpp,Env.get,x01,x00,x02,x03,List.map,x08,x09,↓reduceIte,reduceCtorEq,Nat.reduceEqDiff,Nat.reduceLeDiff,Nat.reduceLT,Nat.reduceAdd,x0j,x0l,x0m,x0n,x0o,Int.cast_ofNat_Int,x0p,x0i,x07,x06,x0q,x0r,x0s,x0t,x0d,x0u]) (by simp -implicitDefEqProofs only [kpp,Env.get,x01,x00,x02,x03,List.map,x08,x09,↓reduceIte,reduceCtorEq,Nat.reduceEqDiff,Nat.reduceLeDiff,Nat.reduceLT,Nat.reduceAdd,x0j,x0l,x0m,x0n,x0o,Int.cast_ofNat_Int,x0p,x0i,x07,x06,x0q,x0r,x0s,x0t,x0d,x0u]) ?_
      clear h6 hj j
      rintro j ⟨hj, hrh⟩
      unfold c19_6
      simp -implicitDefEqProofs only [vmp,↓vmd,Env.get,putD,argEnv,List.map,x00,x01,x02,x03,x04,x05,x06,x07,List.take,List.drop,x08,x09,x0a,x0b,List.isEmpty,↓reduceIte,reduceCtorEq,Nat.reduceEqDiff,Nat.reduceAdd,Nat.reduceLeDiff,x0c,Int.reduceNeg,Nat.reduceMul,Nat.reduceSub,x0d,x0e,x0f,x0g,x0h,x0i,x0j,x0k,Int.reduceEq,Int.reduceLT,Int.reduceLE,Int.reduceToNat,Int.cast_ofNat_Int,List.reduceReplicate]
      refine onB_dec (fun h6 => ?_) (fun h6 => ?_)
      · have hltj : j < s.hosts.length := by omega
        rw [drop_at hltj, List.any_cons] at hrh
        obtain ⟨g, hge⟩ : ∃ g, g = s.hosts[j] := ⟨_, rfl⟩
        have hgm : (s.hosts.map ho)[j]? = some (ho g) := by rw [hge]; exact map_at hltj
        rw [← hge] at hrh
        have yes2 : farH g = true → nearM k = false := fun e => yes (by rw [farS, ← hrh, e]; simp)
        simp -implicitDefEqProofs only [h6, hgm, Int.natCast_nonneg, vmp,↓vmd,Env.get,putD,argEnv,List.map,x00,x01,x02,x03,x04,x05,x06,x07,List.take,List.drop,x08,x09,x0a,x0b,List.isEmpty,↓reduceIte,reduceCtorEq,Nat.reduceEqDiff,Nat.reduceAdd,Nat.reduceLeDiff,x0c,Int.reduceNeg,Nat.reduceMul,Nat.reduceSub,x0d,x0e,x0f,x0g,x0h,x0i,x0j,x0k,Int.reduceEq,Int.reduceLT,Int.reduceLE,Int.reduceToNat,Int.cast_ofNat_Int,List.reduceReplicate]
        refine onIf_intro fun hgl => ?_
        simp -implicitDefEqProofs only [h6, vmp,↓vmd,Env.get,putD,argEnv,List.map,x00,x01,x02,x03,x04,x05,x06,x07,List.take,List.drop,x08,x09,x0a,x0b,List.isEmpty,↓reduceIte,reduceCtorEq,Nat.reduceEqDiff,Nat.reduceAdd,Nat.reduceLeDiff,x0c,Int.reduceNeg,Nat.reduceMul,Nat.reduceSub,x0d,x0e,x0f,x0g,x0h,x0i,x0j,x0k,Int.reduceEq,Int.reduceLT,Int.reduceLE,Int.reduceToNat,Int.cast_ofNat_Int,List.reduceReplicate]
        refine loop_at (T := Nat) (fun q => [(43, .pure (I q)), (42, .pure (I g.spots.length)), (41, .pure (.sl (g.spots.map spr))), (36, .pure (I j)), (35, .pure (I s.hosts.length)), (34, .pure (.sl (s.hosts.map ho))), (17, .pure (I i)), (16, .pure (I k.subs.length)), (15, .pure (.sl (k.subs.map sub))), (3, .pure (.func (.func 58) [] []))]) (fun _ => []) (fun q => q ≤ g.spots.length ∧ (g.spots.drop q).any (fun l => l.any farP) = farH g) (fun q => g.spots.length - q)
          0 [] (by simp) rfl ⟨by simp, by simp [farH]⟩ (by simp -implicitDefEqProofs only [kpp,Env.get,x01,x00,x02,x03,List.map,x08,x09,↓reduceIte,reduceCtorEq,Nat.reduceEqDiff,Nat.reduceLeDiff,Nat.reduceLT,Nat.reduceAdd,x0j,x0l,x0m,x0n,x0o,Int.cast_ofNat_Int,x0p,x0i,x07,x06,x0q,x0r,x0s,x0t,x0d,x0u]) (by simp -implicitDefEqProofs only [kpp,Env.get,x01,x00,x02,x03,List.map,x08,x09,↓reduceIte,reduceCtorEq,Nat.reduceEqDiff,Nat.reduceLeDiff,Nat.reduceLT,Nat.reduceAdd,x0j,x0l,x0m,x0n,x0o,Int.cast_ofNat_Int,x0p,x0i,x07,x06,x0q,x0r,x0s,x0t,x0d,x0u]) ?_
        rintro q ⟨hq, hrq⟩
        unfold c19_5
        simp -implicitDefEqProofs only [vmp,↓vmd,Env.get,putD,argEnv,List.map,x00,x01,x02,x03,x04,x05,x06,x07,List.take,List.drop,x08,x09,x0a,x0b,List.isEmpty,↓reduceIte,reduceCtorEq,Nat.reduceEqDiff,Nat.reduceAdd,Nat.reduceLeDiff,x0c,Int.reduceNeg,Nat.reduceMul,Nat.reduceSub,x0d,x0e,x0f,x0g,x0h,x0i,x0j,x0k,Int.reduceEq,Int.reduceLT,Int.reduceLE,Int.reduceToNat,Int.cast_ofNat_Int,List.reduceReplicate]
        refine onB_dec (fun h7 => ?_) (fun h7 => ?_)
        · have hltq : q < g.spots.length := by omega
          rw [drop_at hltq, List.any_cons] at hrq
          obtain ⟨l, hle⟩ : ∃ l, l = g.spots[q] := ⟨_, rfl⟩
          have hlm : (g.spots.map spr)[q]? = some (spr l) := by rw [hle]; exact map_at hltq
          rw [← hle] at hrq
          simp -implicitDefEqProofs only [h7, hlm, Int.natCast_nonneg, vmp,↓vmd,Env.get,putD,argEnv,List.map,x00,x01,x02,x03,x04,x05,x06,x07,List.take,List.drop,x08,x09,x0a,x0b,List.isEmpty,↓reduceIte,reduceCtorEq,Nat.reduceEqDiff,Nat.reduceAdd,Nat.reduceLeDiff,x0c,Int.reduceNeg,Nat.reduceMul,Nat.reduceSub,x0d,x0e,x0f,x0g,x0h,x0i,x0j,x0k,Int.reduceEq,Int.reduceLT,Int.reduceLE,Int.reduceToNat,Int.cast_ofNat_Int,List.reduceReplicate]
          refine onIf_intro fun hll => ?_
          simp -implicitDefEqProofs only [h7, vmp,↓vmd,Env.get,putD,argEnv,List.map,x00,x01,x02,x03,x04,x05,x06,x07,List.take,List.drop,x08,x09,x0a,x0b,List.isEmpty,↓reduceIte,reduceCtorEq,Nat.reduceEqDiff,Nat.reduceAdd,Nat.reduceLeDiff,x0c,Int.reduceNeg,Nat.reduceMul,Nat.reduceSub,x0d,x0e,x0f,x0g,x0h,x0i,x0j,x0k,Int.reduceEq,Int.reduceLT,Int.reduceLE,Int.reduceToNat,Int.cast_ofNat_Int,List.reduceReplicate]
          refine loop_at (T := Nat) (fun r => [(49, .pure (I r)), (48, .pure (I l.length)), (47, .pure (spr l)), (43, .pure (I q)), (42, .pure (I g.spots.length)), (41, .pure (.sl (g.spots.map spr))), (36, .pure (I j)), (35, .pure (I s.hosts.length)), (34, .pure (.sl (s.hosts.map ho))), (17, .pure (I i)), (16, .pure (I k.subs.length)), (15, .pure (.sl (k.subs.map sub))), (3, .pure (.func (.func 58) [] []))]) (fun _ => []) (fun r => r ≤ l.length ∧ (l.drop r).any farP = l.any farP) (fun r => l.length - r)
            0 [] (by simp) rfl ⟨by simp, by simp⟩ (by simp -implicitDefEqProofs only [kpp,Env.get,x01,x00,x02,x03,List.map,x08,x09,↓reduceIte,reduceCtorEq,Nat.reduceEqDiff,Nat.reduceLeDiff,Nat.reduceLT,Nat.reduceAdd,x0j,x0l,x0m,x0n,x0o,Int.cast_ofNat_Int,x0p,x0i,x07,x06,x0q,x0r,x0s,x0t,x0d,x0u]) (by simp -implicitDefEqProofs only [kpp,Env.get,x01,x00,x02,x03,List.map,x08,x09,↓reduceIte,reduceCtorEq,Nat.reduceEqDiff,Nat.reduceLeDiff,Nat.reduceLT,Nat.reduceAdd,x0j,x0l,x0m,x0n,x0o,Int.cast_ofNat_Int,x0p,x0i,x07,x06,x0q,x0r,x0s,x0t,x0d,x0u]) ?_
          rintro r ⟨hr0, hrr⟩
          unfold c19_4
          simp -implicitDefEqProofs only [vmp,↓vmd,Env.get,putD,argEnv,List.map,x00,x01,x02,x03,x04,x05,x06,x07,List.take,List.drop,x08,x09,x0a,x0b,List.isEmpty,↓reduceIte,reduceCtorEq,Nat.reduceEqDiff,Nat.reduceAdd,Nat.reduceLeDiff,x0c,Int.reduceNeg,Nat.reduceMul,Nat.reduceSub,x0d,x0e,x0f,x0g,x0h,x0i,x0j,x0k,Int.reduceEq,Int.reduceLT,Int.reduceLE,Int.reduceToNat,Int.cast_ofNat_Int,List.reduceReplicate]
          refine onB_dec (fun h8 => ?_) (fun h8 => ?_)
          · have hltr : r < l.length := by omega
            rw [drop_at hltr, List.any_cons] at hrr
            simp -implicitDefEqProofs only [h8, map_at hltr, Int.natCast_nonneg, vmp,↓vmd,Env.get,putD,argEnv,List.map,x00,x01,x02,x03,x04,x05,x06,x07,List.take,List.drop,x08,x09,x0a,x0b,List.isEmpty,↓reduceIte,reduceCtorEq,Nat.reduceEqDiff,Nat.reduceAdd,Nat.reduceLeDiff,x0c,Int.reduceNeg,Nat.reduceMul,Nat.reduceSub,x0d,x0e,x0f,x0g,x0h,x0i,x0j,x0k,Int.reduceEq,Int.reduceLT,Int.reduceLE,Int.reduceToNat,Int.cast_ofNat_Int,List.reduceReplicate]
            refine onC_q (far_q _ _) rfl ?_
            first | refine envO (by simp -implicitDefEqProofs only [vmp,↓vmd,Env.get,putD,argEnv,List.map,x00,x01,x02,x03,x04,x05,x06,x07,List.take,List.drop,x08,x09,x0a,x0b,List.isEmpty,↓reduceIte,reduceCtorEq,Nat.reduceEqDiff,Nat.reduceAdd,Nat.reduceLeDiff,x0c,Int.reduceNeg,Nat.reduceMul,Nat.reduceSub,x0d,x0e,x0f,x0g,x0h,x0i,x0j,x0k,Int.reduceEq,Int.reduceLT,Int.reduceLE,Int.reduceToNat,Int.cast_ofNat_Int,List.reduceReplicate]; rfl) ?_ | refine envQ (by simp -implicitDefEqProofs only [vmp,↓vmd,Env.get,putD,argEnv,List.map,x00,x01,x02,x03,x04,x05,x06,x07,List.take,List.drop,x08,x09,x0a,x0b,List.isEmpty,↓reduceIte,reduceCtorEq,Nat.reduceEqDiff,Nat.reduceAdd,Nat.reduceLeDiff,x0c,Int.reduceNeg,Nat.reduceMul,Nat.reduceSub,x0d,x0e,x0f,x0g,x0h,x0i,x0j,x0k,Int.reduceEq,Int.reduceLT,Int.reduceLE,Int.reduceToNat,Int.cast_ofNat_Int,List.reduceReplicate]; rfl) ?_
            simp -implicitDefEqProofs only [vmp,↓vmd,Env.get,putD,argEnv,List.map,x00,x01,x02,x03,x04,x05,x06,x07,List.take,List.drop,x08,x09,x0a,x0b,List.isEmpty,↓reduceIte,reduceCtorEq,Nat.reduceEqDiff,Nat.reduceAdd,Nat.reduceLeDiff,x0c,Int.reduceNeg,Nat.reduceMul,Nat.reduceSub,x0d,x0e,x0f,x0g,x0h,x0i,x0j,x0k,Int.reduceEq,Int.reduceLT,Int.reduceLE,Int.reduceToNat,Int.cast_ofNat_Int,List.reduceReplicate]
            refine onB_intro (fun h9 => ?_) (fun h9 => ?_)
            · simp -implicitDefEqProofs only [h9, vmp,↓vmd,Env.get,putD,argEnv,List.map,x00,x01,x02,x03,x04,x05,x06,x07,List.take,List.drop,x08,x09,x0a,x0b,List.isEmpty,↓reduceIte,reduceCtorEq,Nat.reduceEqDiff,Nat.reduceAdd,Nat.reduceLeDiff,x0c,Int.reduceNeg,Nat.reduceMul,Nat.reduceSub,x0d,x0e,x0f,x0g,x0h,x0i,x0j,x0k,Int.reduceEq,Int.reduceLT,Int.reduceLE,Int.reduceToNat,Int.cast_ofNat_Int,List.reduceReplicate]
              rw [yes2 (by rw [← hrq, ← hrr, farP, h9]; rfl)]
              exact gives_pure
            · simp -implicitDefEqProofs only [h9, vmp,↓vmd,Env.get,putD,argEnv,List.map,x00,x01,x02,x03,x04,x05,x06,x07,List.take,List.drop,x08,x09,x0a,x0b,List.isEmpty,↓reduceIte,reduceCtorEq,Nat.reduceEqDiff,Nat.reduceAdd,Nat.reduceLeDiff,x0c,Int.reduceNeg,Nat.reduceMul,Nat.reduceSub,x0d,x0e,x0f,x0g,x0h,x0i,x0j,x0k,Int.reduceEq,Int.reduceLT,Int.reduceLE,Int.reduceToNat,Int.cast_ofNat_Int,List.reduceReplicate]
              refine onBk_to (r + 1) [] (by simp) rfl (by omega) ⟨hltr, by rw [← hrr, farP, h9, Bool.false_or]⟩ (by simp -implicitDefEqProofs only [next_at hltr (by omega), kpp,Env.get,x01,x00,x02,x03,List.map,x08,x09,↓reduceIte,reduceCtorEq,Nat.reduceEqDiff,Nat.reduceLeDiff,Nat.reduceLT,Nat.reduceAdd,x0j,x0l,x0m,x0n,x0o,Int.cast_ofNat_Int,x0p,x0i,x07,x06,x0q,x0r,x0s,x0t,x0d,x0u]) (by simp -implicitDefEqProofs only [kpp,Env.get,x01,x00,x02,x03,List.map,x08,x09,↓reduceIte,reduceCtorEq,Nat.reduceEqDiff,Nat.reduceLeDiff,Nat.reduceLT,Nat.reduceAdd,x0j,x0l,x0m,x0n,x0o,Int.cast_ofNat_Int,x0p,x0i,x07,x06,x0q,x0r,x0s,x0t,x0d,x0u])
          · rw [List.drop_of_length_le (by omega)] at hrr
            simp -implicitDefEqProofs only [h8, vmp,↓vmd,Env.get,putD,argEnv,List.map,x00,x01,x02,x03,x04,x05,x06,x07,List.take,List.drop,x08,x09,x0a,x0b,List.isEmpty,↓reduceIte,reduceCtorEq,Nat.reduceEqDiff,Nat.reduceAdd,Nat.reduceLeDiff,x0c,Int.reduceNeg,Nat.reduceMul,Nat.reduceSub,x0d,x0e,x0f,x0g,x0h,x0i,x0j,x0k,Int.reduceEq,Int.reduceLT,Int.reduceLE,Int.reduceToNat,Int.cast_ofNat_Int,List.reduceReplicate]
            unfold c19_3
            simp -implicitDefEqProofs only [vmp,↓vmd,Env.get,putD,argEnv,List.map,x00,x01,x02,x03,x04,x05,x06,x07,List.take,List.drop,x08,x09,x0a,x0b,List.isEmpty,↓reduceIte,reduceCtorEq,Nat.reduceEqDiff,Nat.reduceAdd,Nat.reduceLeDiff,x0c,Int.reduceNeg,Nat.reduceMul,Nat.reduceSub,x0d,x0e,x0f,x0g,x0h,x0i,x0j,x0k,Int.reduceEq,Int.reduceLT,Int.reduceLE,Int.reduceToNat,Int.cast_ofNat_Int,List.reduceReplicate]
            refine onBk_to (q + 1) [] (by simp) rfl (by omega) ⟨hltq, by rw [← hrq, ← hrr]; rfl⟩ (by simp -implicitDefEqProofs only [next_at hltq (by omega), kpp,Env.get,x01,x00,x02,x03,List.map,x08,x09,↓reduceIte,reduceCtorEq,Nat.reduceEqDiff,Nat.reduceLeDiff,Nat.reduceLT,Nat.reduceAdd,x0j,x0l,x0m,x0n,x0o,Int.cast_ofNat_Int,x0p,x0i,x07,x06,x0q,x0r,x0s,x0t,x0d,x0u]) (by simp -implicitDefEqProofs only [kpp,Env.get,x01,x00,x02,x03,List.map,x08,x09,↓reduceIte,reduceCtorEq,Nat.reduceEqDiff,Nat.reduceLeDiff,Nat.reduceLT,Nat.reduceAdd,x0j,x0l,x0m,x0n,x0o,Int.cast_ofNat_Int,x0p,x0i,x07,x06,x0q,x0r,x0s,x0t,x0d,x0u])
        · rw [List.drop_of_length_le (by omega)] at hrq
          simp -implicitDefEqProofs only [h7, vmp,↓vmd,Env.get,putD,argEnv,List.map,x00,x01,x02,x03,x04,x05,x06,x07,List.take,List.drop,x08,x09,x0a,x0b,List.isEmpty,↓reduceIte,reduceCtorEq,Nat.reduceEqDiff,Nat.reduceAdd,Nat.reduceLeDiff,x0c,Int.reduceNeg,Nat.reduceMul,Nat.reduceSub,x0d,x0e,x0f,x0g,x0h,x0i,x0j,x0k,Int.reduceEq,Int.reduceLT,Int.reduceLE,Int.reduceToNat,Int.cast_ofNat_Int,List.reduceReplicate]
          unfold c19_2
          simp -implicitDefEqProofs only [vmp,↓vmd,Env.get,putD,argEnv,List.map,x00,x01,x02,x03,x04,x05,x06,x07,List.take,List.drop,x08,x09,x0a,x0b,List.isEmpty,↓reduceIte,reduceCtorEq,Nat.reduceEqDiff,Nat.reduceAdd,Nat.reduceLeDiff,x0c,Int.reduceNeg,Nat.reduceMul,Nat.reduceSub,x0d,x0e,x0f,x0g,x0h,x0i,x0j,x0k,Int.reduceEq,Int.reduceLT,Int.reduceLE,Int.reduceToNat,Int.cast_ofNat_Int,List.reduceReplicate]
          refine onBk_to (j + 1) [] (by simp) rfl (by omega) ⟨hltj, by rw [← hrh, ← hrq]; rfl⟩ (by simp -implicitDefEqProofs only [next_at hltj (by omega), kpp,Env.get,x01,x00,x02,x03,List.map,x08,x09,↓reduceIte,reduceCtorEq,Nat.reduceEqDiff,Nat.reduceLeDiff,Nat.reduceLT,Nat.reduceAdd,x0j,x0l,x0m,x0n,x0o,Int.cast_ofNat_Int,x0p,x0i,x07,x06,x0q,x0r,x0s,x0t,x0d,x0u]) (by simp -implicitDefEqProofs only [kpp,Env.get,x01,x00,x02,x03,List.map,x08,x09,↓reduceIte,reduceCtorEq,Nat.reduceEqDiff,Nat.reduceLeDiff,Nat.reduceLT,Nat.reduceAdd,x0j,x0l,x0m,x0n,x0o,Int.cast_ofNat_Int,x0p,x0i,x07,x06,x0q,x0r,x0s,x0t,x0d,x0u])
      · rw [List.drop_of_length_le (by omega)] at hrh
        simp -implicitDefEqProofs only [h6, vmp,↓vmd,Env.get,putD,argEnv,List.map,x00,x01,x02,x03,x04,x05,x06,x07,List.take,List.drop,x08,x09,x0a,x0b,List.isEmpty,↓reduceIte,reduceCtorEq,Nat.reduceEqDiff,Nat.reduceAdd,Nat.reduceLeDiff,x0c,Int.reduceNeg,Nat.reduceMul,Nat.reduceSub,x0d,x0e,x0f,x0g,x0h,x0i,x0j,x0k,Int.reduceEq,Int.reduceLT,Int.reduceLE,Int.reduceToNat,Int.cast_ofNat_Int,List.reduceReplicate]
        unfold c19_1
        simp -implicitDefEqProofs only [vmp,↓vmd,Env.get,putD,argEnv,List.map,x00,x01,x02,x03,x04,x05,x06,x07,List.take,List.drop,x08,x09,x0a,x0b,List.isEmpty,↓reduceIte,reduceCtorEq,Nat.reduceEqDiff,Nat.reduceAdd,Nat.reduceLeDiff,x0c,Int.reduceNeg,Nat.reduceMul,Nat.reduceSub,x0d,x0e,x0f,x0g,x0h,x0i,x0j,x0k,Int.reduceEq,Int.reduceLT,Int.reduceLE,Int.reduceToNat,Int.cast_ofNat_Int,List.reduceReplicate]
        refine onBk_to (i + 1) [] (by simp) rfl (by omega) ⟨hlt, by rw [← hr, farS, ← hrj, ← hrh]; rfl⟩ (by simp -implicitDefEqProofs only [next_at hlt (by omega), kpp,Env.get,x01,x00,x02,x03,List.map,x08,x09,↓reduceIte,reduceCtorEq,Nat.reduceEqDiff,Nat.reduceLeDiff,Nat.reduceLT,Nat.reduceAdd,x0j,x0l,x0m,x0n,x0o,Int.cast_ofNat_Int,x0p,x0i,x07,x06,x0q,x0r,x0s,x0t,x0d,x0u]) (by simp -implicitDefEqProofs only [kpp,Env.get,x01,x00,x02,x03,List.map,x08,x09,↓reduceIte,reduceCtorEq,Nat.reduceEqDiff,Nat.reduceLeDiff,Nat.reduceLT,Nat.reduceAdd,x0j,x0l,x0m,x0n,x0o,Int.cast_ofNat_Int,x0p,x0i,x07,x06,x0q,x0r,x0s,x0t,x0d,x0u])
  · simp -implicitDefEqProofs only [h5, vmp,↓vmd,Env.get,putD,argEnv,List.map,x00,x01,x02,x03,x04,x05,x06,x07,List.take,List.drop,x08,x09,x0a,x0b,List.isEmpty,↓reduceIte,reduceCtorEq,Nat.reduceEqDiff,Nat.reduceAdd,Nat.reduceLeDiff,x0c,Int.reduceNeg,Nat.reduceMul,Nat.reduceSub,x0d,x0e,x0f,x0g,x0h,x0i,x0j,x0k,Int.reduceEq,Int.reduceLT,Int.reduceLE,Int.reduceToNat,Int.cast_ofNat_Int,List.reduceReplicate]
    unfold c19_0
    simp -implicitDefEqProofs only [vmp,↓vmd,Env.get,putD,argEnv,List.map,x00,x01,x02,x03,x04,x05,x06,x07,List.take,List.drop,x08,x09,x0a,x0b,List.isEmpty,↓reduceIte,reduceCtorEq,Nat.reduceEqDiff,Nat.reduceAdd,Nat.reduceLeDiff,x0c,Int.reduceNeg,Nat.reduceMul,Nat.reduceSub,x0d,x0e,x0f,x0g,x0h,x0i,x0j,x0k,Int.reduceEq,Int.reduceLT,Int.reduceLE,Int.reduceToNat,Int.cast_ofNat_Int,List.reduceReplicate]
    rw [List.drop_of_length_le (by omega)] at hr
    rw [show nearM k = true by rw [nearM, ← hr]; rfl]
    exact gives_pure
end Go.Proofs.Ytbllbkhkmngclaa.W
