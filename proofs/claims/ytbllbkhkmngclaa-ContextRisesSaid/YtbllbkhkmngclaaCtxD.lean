/-
  What does a lookup, as the statements hand one in: three functions. No condition but on sizes.
-/
import Derived.Test.YtbllbkhkmngclaaCtx
namespace Go.Proofs.Ytbllbkhkmngclaa.W
open Go Go.Vm Go.Proofs
set_option maxRecDepth 100000
set_option linter.unusedSimpArgs false
set_option maxHeartbeats 4000000
/-! typecase/typecaseref29.Nest -/
def c25 : AC :=
  (.seq (.reg [⟨some 6, none, .mov (.c .empty)⟩,
    ⟨some 7, none, .mov (.c (.pure (.bool false)))⟩])
  (.seq (.seq (.reg [⟨some 11, none, .mov (.s 2)⟩,
    ⟨some 12, none, .bin .lss (.s 11) (.c (.pure (.int .i64 0)))⟩,
    ⟨some 13, none, .mov (.s 12)⟩,
    ⟨some 14, some (13, false), .mov (.s 2)⟩,
    ⟨some 15, some (13, false), .mov (.s 0)⟩,
    ⟨some 16, some (13, false), .len (.s 15)⟩,
    ⟨some 17, some (13, false), .bin .geq (.s 14) (.s 16)⟩,
    ⟨some 18, none, .pick (.s 13) (.c (.pure (.bool true))) (.s 17)⟩])
  (.cond (.s 18)
  (.seq (.reg [⟨some 6, none, .mov (.c .empty)⟩,
    ⟨some 7, none, .mov (.c (.pure (.bool false)))⟩])
  .ret)
  .skip))
  (.seq (.reg [⟨some 8, none, .mov (.c .empty)⟩])
  (.seq (.reg [⟨some 19, none, .mov (.s 8)⟩,
    ⟨some 20, none, .mov (.s 0)⟩,
    ⟨some 21, none, .mov (.s 2)⟩,
    ⟨some 22, none, .slc 10 (.s 20) none (some (.s 21)) none⟩,
    ⟨some 23, none, .app 10 80 (.s 19) (.s 22)⟩,
    ⟨some 8, none, .mov (.s 23)⟩])
  (.seq (.reg [⟨some 24, none, .mov (.s 0)⟩,
    ⟨some 25, none, .mov (.s 2)⟩,
    ⟨some 26, none, .idxA 10 (.s 24) (.s 25)⟩,
    ⟨some 27, none, .load true 10 (.s 26)⟩,
    ⟨some 9, none, .box (.c (.pure (.agg [(.int .i64 0), (.int .i64 0), (.int .i64 0), (.int .i64 0), (.int .i64 0), (.int .i64 0), (.int .i64 0), (.int .i64 0), (.int .i64 0), (.int .i64 0)])))⟩,
    ⟨none, none, .store 10 (.s 9) (.s 27)⟩])
  (.seq (.reg [⟨some 28, none, .fldA 2 (.s 9)⟩,
    ⟨some 29, none, .load false 1 (.s 28)⟩,
    ⟨some 30, none, .bin .add (.s 29) (.c (.pure (.int .i64 1)))⟩,
    ⟨some 31, none, .fldA 2 (.s 9)⟩,
    ⟨none, none, .store 1 (.s 31) (.s 30)⟩])
  (.seq (.reg [⟨some 32, none, .mov (.s 2)⟩,
    ⟨some 33, none, .bin .add (.s 32) (.c (.pure (.int .i64 1)))⟩,
    ⟨some 10, none, .mov (.s 33)⟩])
  (.seq (.seq (.reg [⟨some 34, none, .mov (.s 1)⟩,
    ⟨some 35, none, .bin .and (.s 34) (.c (.pure (.int .i64 7)))⟩])
  (.block 0
  (.seq (.reg [⟨some 37, none, .bin .eql (.s 35) (.c (.pure (.int .i64 1)))⟩,
    ⟨some 36, none, .mov (.s 37)⟩])
  (.cond (.s 36)
  (.reg [⟨some 38, none, .mov (.s 8)⟩,
    ⟨some 39, none, .load true 10 (.s 9)⟩,
    ⟨some 40, none, .bslice 10 [(.s 39)]⟩,
    ⟨some 41, none, .app 10 80 (.s 38) (.s 40)⟩,
    ⟨some 8, none, .mov (.s 41)⟩])
  (.seq (.reg [⟨some 43, none, .bin .eql (.s 35) (.c (.pure (.int .i64 2)))⟩,
    ⟨some 42, none, .mov (.s 43)⟩])
  (.cond (.s 42)
  (.reg [⟨some 44, none, .mov (.s 8)⟩,
    ⟨some 45, none, .load true 10 (.s 9)⟩,
    ⟨some 46, none, .load true 10 (.s 9)⟩,
    ⟨some 47, none, .bslice 10 [(.s 45), (.s 46)]⟩,
    ⟨some 48, none, .app 10 80 (.s 44) (.s 47)⟩,
    ⟨some 8, none, .mov (.s 48)⟩])
  (.seq (.reg [⟨some 50, none, .bin .eql (.s 35) (.c (.pure (.int .i64 3)))⟩,
    ⟨some 49, none, .mov (.s 50)⟩])
  (.cond (.s 49)
  (.seq (.seq (.reg [⟨some 51, none, .mov (.s 10)⟩,
    ⟨some 52, none, .mov (.s 0)⟩,
    ⟨some 53, none, .len (.s 52)⟩,
    ⟨some 54, none, .bin .eql (.s 51) (.s 53)⟩])
  (.cond (.s 54)
  (.seq (.reg [⟨some 6, none, .mov (.c .empty)⟩,
    ⟨some 7, none, .mov (.c (.pure (.bool false)))⟩])
  .ret)
  .skip))
  (.seq (.reg [⟨some 55, none, .mov (.s 8)⟩,
    ⟨some 56, none, .load true 10 (.s 9)⟩,
    ⟨some 57, none, .bslice 10 [(.s 56)]⟩,
    ⟨some 58, none, .app 10 80 (.s 55) (.s 57)⟩,
    ⟨some 8, none, .mov (.s 58)⟩])
  (.reg [⟨some 59, none, .mov (.s 10)⟩,
    ⟨some 60, none, .bin .add (.s 59) (.c (.pure (.int .i64 1)))⟩,
    ⟨some 10, none, .mov (.s 60)⟩])))
  (.seq (.reg [⟨some 62, none, .bin .eql (.s 35) (.c (.pure (.int .i64 4)))⟩,
    ⟨some 61, none, .mov (.s 62)⟩])
  (.cond (.s 61)
  .skip
  (.seq (.reg [⟨some 64, none, .bin .eql (.s 35) (.c (.pure (.int .i64 5)))⟩,
    ⟨some 63, none, .mov (.s 64)⟩])
  (.cond (.s 63)
  (.reg [⟨some 65, none, .mov (.s 8)⟩,
    ⟨some 66, none, .load true 10 (.s 9)⟩,
    ⟨some 67, none, .load true 10 (.s 9)⟩,
    ⟨some 68, none, .load true 10 (.s 9)⟩,
    ⟨some 69, none, .bslice 10 [(.s 66), (.s 67), (.s 68)]⟩,
    ⟨some 70, none, .app 10 80 (.s 65) (.s 69)⟩,
    ⟨some 8, none, .mov (.s 70)⟩])
  (.seq (.reg [⟨some 72, none, .bin .eql (.s 35) (.c (.pure (.int .i64 6)))⟩,
    ⟨some 71, none, .mov (.s 72)⟩])
  (.cond (.s 71)
  (.seq (.seq (.reg [⟨some 73, none, .mov (.s 10)⟩,
    ⟨some 74, none, .bin .add (.s 73) (.c (.pure (.int .i64 1)))⟩,
    ⟨some 75, none, .mov (.s 0)⟩,
    ⟨some 76, none, .len (.s 75)⟩,
    ⟨some 77, none, .bin .geq (.s 74) (.s 76)⟩])
  (.cond (.s 77)
  (.seq (.reg [⟨some 6, none, .mov (.c .empty)⟩,
    ⟨some 7, none, .mov (.c (.pure (.bool false)))⟩])
  .ret)
  .skip))
  (.seq (.reg [⟨some 78, none, .mov (.s 8)⟩,
    ⟨some 79, none, .load true 10 (.s 9)⟩,
    ⟨some 80, none, .bslice 10 [(.s 79)]⟩,
    ⟨some 81, none, .app 10 80 (.s 78) (.s 80)⟩,
    ⟨some 8, none, .mov (.s 81)⟩])
  (.reg [⟨some 82, none, .mov (.s 10)⟩,
    ⟨some 83, none, .bin .add (.s 82) (.c (.pure (.int .i64 2)))⟩,
    ⟨some 10, none, .mov (.s 83)⟩])))
  (.seq (.reg [⟨some 6, none, .mov (.c .empty)⟩,
    ⟨some 7, none, .mov (.c (.pure (.bool false)))⟩])
  .ret)))))))))))))))
  (.seq (.reg [⟨some 84, none, .mov (.s 8)⟩,
    ⟨some 85, none, .mov (.s 0)⟩,
    ⟨some 86, none, .mov (.s 10)⟩,
    ⟨some 87, none, .slc 10 (.s 85) (some (.s 86)) none none⟩,
    ⟨some 88, none, .app 10 80 (.s 84) (.s 87)⟩,
    ⟨some 8, none, .mov (.s 88)⟩])
  (.seq (.reg [⟨some 89, none, .mov (.s 8)⟩,
    ⟨some 6, none, .mov (.s 89)⟩,
    ⟨some 7, none, .mov (.c (.pure (.bool true)))⟩])
  .ret))))))))))
theorem k25 : (Try.f25.body.bind fun c => cCode Try.prog Try.f25.ntmps RCs c) = some c25 := by kernel_rfl
theorem h25 : (Try.f25.name == "runtime.NumGoroutine") = false := by kernel_rfl
theorem r25 : resC Try.prog Try.f25.results.toList = some [.t 6, .t 7] := by kernel_rfl
theorem a25 {args : List S} {H : Heap} {K : S → Heap → Prop} (hn : args.length ≤ 90) (h : aWx Try.prog H.length c25 (PostX [.t 6, .t 7] K) (argEnv 0 args) H) : CallA Try.prog 25 args H K :=
  callA_of_x mixed Try.func25 h25 k25 r25 (by rw [Try.ntmps25]; exact hn) h
theorem q25 {vs ds : List V} (hn : vs.length ≤ 90) (h : aWx Try.prog 0 c25 (PostX [.t 6, .t 7] (Gives ds)) (argEnv 0 (vs.map .pure)) []) : FnQ Try.prog 25 vs ds :=
  fnQ_of_call (a25 (by simpa using hn) h)
/-! typecase/typecaselaw29.never -/
def c29 : AC :=
  (.seq (.reg [⟨some 6, none, .mov (.c .empty)⟩,
    ⟨some 7, none, .mov (.c (.pure (.bool false)))⟩])
  (.seq (.reg [⟨some 6, none, .mov (.c .empty)⟩,
    ⟨some 7, none, .mov (.c (.pure (.bool false)))⟩])
  .ret))
theorem k29 : (Try.f29.body.bind fun c => cCode Try.prog Try.f29.ntmps RCs c) = some c29 := by kernel_rfl
theorem h29 : (Try.f29.name == "runtime.NumGoroutine") = false := by kernel_rfl
theorem r29 : resC Try.prog Try.f29.results.toList = some [.t 6, .t 7] := by kernel_rfl
theorem a29 {args : List S} {H : Heap} {K : S → Heap → Prop} (hn : args.length ≤ 8) (h : aWx Try.prog H.length c29 (PostX [.t 6, .t 7] K) (argEnv 0 args) H) : CallA Try.prog 29 args H K :=
  callA_of_x mixed Try.func29 h29 k29 r29 (by rw [Try.ntmps29]; exact hn) h
theorem q29 {vs ds : List V} (hn : vs.length ≤ 8) (h : aWx Try.prog 0 c29 (PostX [.t 6, .t 7] (Gives ds)) (argEnv 0 (vs.map .pure)) []) : FnQ Try.prog 29 vs ds :=
  fnQ_of_call (a29 (by simpa using hn) h)
/-! typecase/typecaselaw29.other -/
def c30 : AC :=
  (.seq (.reg [⟨some 6, none, .mov (.c .empty)⟩,
    ⟨some 7, none, .mov (.c (.pure (.bool false)))⟩])
  (.seq (.seq (.reg [⟨some 9, none, .mov (.s 2)⟩,
    ⟨some 10, none, .bin .lss (.s 9) (.c (.pure (.int .i64 0)))⟩,
    ⟨some 11, none, .mov (.s 10)⟩,
    ⟨some 12, some (11, false), .mov (.s 2)⟩,
    ⟨some 13, some (11, false), .mov (.s 0)⟩,
    ⟨some 14, some (11, false), .len (.s 13)⟩,
    ⟨some 15, some (11, false), .bin .geq (.s 12) (.s 14)⟩,
    ⟨some 16, none, .pick (.s 11) (.c (.pure (.bool true))) (.s 15)⟩])
  (.cond (.s 16)
  (.seq (.reg [⟨some 6, none, .mov (.c .empty)⟩,
    ⟨some 7, none, .mov (.c (.pure (.bool false)))⟩])
  .ret)
  .skip))
  (.seq (.reg [⟨some 8, none, .mov (.c .empty)⟩])
  (.seq (.reg [⟨some 17, none, .mov (.s 8)⟩,
    ⟨some 18, none, .mov (.s 0)⟩,
    ⟨some 19, none, .app 10 80 (.s 17) (.s 18)⟩,
    ⟨some 8, none, .mov (.s 19)⟩])
  (.seq (.reg [⟨some 20, none, .mov (.s 8)⟩,
    ⟨some 21, none, .mov (.s 2)⟩,
    ⟨some 22, none, .mov (.s 1)⟩,
    ⟨some 23, none, .idxA 10 (.s 20) (.s 21)⟩,
    ⟨some 24, none, .fldA 0 (.s 23)⟩,
    ⟨none, none, .store 1 (.s 24) (.s 22)⟩])
  (.seq (.reg [⟨some 25, none, .mov (.s 8)⟩,
    ⟨some 6, none, .mov (.s 25)⟩,
    ⟨some 7, none, .mov (.c (.pure (.bool true)))⟩])
  .ret))))))
theorem k30 : (Try.f30.body.bind fun c => cCode Try.prog Try.f30.ntmps RCs c) = some c30 := by kernel_rfl
theorem h30 : (Try.f30.name == "runtime.NumGoroutine") = false := by kernel_rfl
theorem r30 : resC Try.prog Try.f30.results.toList = some [.t 6, .t 7] := by kernel_rfl
theorem a30 {args : List S} {H : Heap} {K : S → Heap → Prop} (hn : args.length ≤ 26) (h : aWx Try.prog H.length c30 (PostX [.t 6, .t 7] K) (argEnv 0 args) H) : CallA Try.prog 30 args H K :=
  callA_of_x mixed Try.func30 h30 k30 r30 (by rw [Try.ntmps30]; exact hn) h
theorem q30 {vs ds : List V} (hn : vs.length ≤ 26) (h : aWx Try.prog 0 c30 (PostX [.t 6, .t 7] (Gives ds)) (argEnv 0 (vs.map .pure)) []) : FnQ Try.prog 30 vs ds :=
  fnQ_of_call (a30 (by simpa using hn) h)

theorem slc_to {l : List Gl} {b : Int} (h0 : 0 ≤ b) (h1 : b ≤ l.length) : slcP 10 (l.map gl) false (some 0) (some b) (some (l.length : Int)) = some (.pure (.sl ((l.take b.toNat).map gl))) := by
  have := slcP_map (f := gl) (X := l) (n := 10) (l := 0) (h := b) (fun _ => rfl) (by omega) h0 h1
  simpa using this
theorem slc_from {l : List Gl} {b : Int} (h0 : 0 ≤ b) (h1 : b ≤ l.length) : slcP 10 (l.map gl) false (some b) (some (l.length : Int)) (some (l.length : Int)) = some (.pure (.sl ((l.drop b.toNat).map gl))) :=
  slcP_from (fun _ => rfl) h0 h1
def neverF : Doing := fun _ _ _ => none
theorem never_d : DoingQ 29 neverF := by
  refine ⟨fun l a b hl => ?_, fun l a b l' h => by cases h⟩
  refine q29 (by simp) ?_
  unfold c29
  simp -implicitDefEqProofs only [*, vmp,↓vmd,Env.get,putD,argEnv,List.map,x00,x01,x02,x03,x04,x05,x06,x07,List.take,List.drop,x08,x09,x0a,x0b,List.isEmpty,↓reduceIte,reduceCtorEq,Nat.reduceEqDiff,Nat.reduceAdd,Nat.reduceLeDiff,x0c,Int.reduceNeg,Nat.reduceMul,Nat.reduceSub,x0d,x0e,x0f,x0g,x0h,x0i,x0j,x0k,Int.reduceEq,Int.reduceLT,Int.reduceLE,Int.reduceToNat,Int.cast_ofNat_Int,List.reduceReplicate]
  exact gives_tup rfl (by simp)
def otherF : Doing := fun l a b => if b < 0 ∨ (l.length : Int) ≤ b then none else some (l.set b.toNat ⟨a, (glAt l b).cl, (glAt l b).adv, (glAt l b).dx, (glAt l b).dy, (glAt l b).to, (glAt l b).hang, (glAt l b).lig, (glAt l b).comp, (glAt l b).mask⟩)
theorem other_d : DoingQ 30 otherF := by
  refine ⟨fun l a b hl => ?_, fun l a b l' h => ?_⟩
  · refine q30 (by simp) ?_
    unfold c30
    generalize hv : otherF l a b = v
    rw [otherF] at hv
    simp -implicitDefEqProofs only [*, vmp,↓vmd,Env.get,putD,argEnv,List.map,x00,x01,x02,x03,x04,x05,x06,x07,List.take,List.drop,x08,x09,x0a,x0b,List.isEmpty,↓reduceIte,reduceCtorEq,Nat.reduceEqDiff,Nat.reduceAdd,Nat.reduceLeDiff,x0c,Int.reduceNeg,Nat.reduceMul,Nat.reduceSub,x0d,x0e,x0f,x0g,x0h,x0i,x0j,x0k,Int.reduceEq,Int.reduceLT,Int.reduceLE,Int.reduceToNat,Int.cast_ofNat_Int,List.reduceReplicate]
    by_cases h0 : b < 0
    · rw [if_pos (.inl h0)] at hv
      subst hv
      simp -implicitDefEqProofs only [h0, vmp,↓vmd,Env.get,putD,argEnv,List.map,x00,x01,x02,x03,x04,x05,x06,x07,List.take,List.drop,x08,x09,x0a,x0b,List.isEmpty,↓reduceIte,reduceCtorEq,Nat.reduceEqDiff,Nat.reduceAdd,Nat.reduceLeDiff,x0c,Int.reduceNeg,Nat.reduceMul,Nat.reduceSub,x0d,x0e,x0f,x0g,x0h,x0i,x0j,x0k,Int.reduceEq,Int.reduceLT,Int.reduceLE,Int.reduceToNat,Int.cast_ofNat_Int,List.reduceReplicate]
      exact gives_tup rfl (by simp)
    simp -implicitDefEqProofs only [h0, vmp,↓vmd,Env.get,putD,argEnv,List.map,x00,x01,x02,x03,x04,x05,x06,x07,List.take,List.drop,x08,x09,x0a,x0b,List.isEmpty,↓reduceIte,reduceCtorEq,Nat.reduceEqDiff,Nat.reduceAdd,Nat.reduceLeDiff,x0c,Int.reduceNeg,Nat.reduceMul,Nat.reduceSub,x0d,x0e,x0f,x0g,x0h,x0i,x0j,x0k,Int.reduceEq,Int.reduceLT,Int.reduceLE,Int.reduceToNat,Int.cast_ofNat_Int,List.reduceReplicate]
    refine onIf_intro fun _ => ?_
    by_cases h1 : (l.length : Int) ≤ b
    · rw [if_pos (.inr h1)] at hv
      subst hv
      simp -implicitDefEqProofs only [h0, h1, vmp,↓vmd,Env.get,putD,argEnv,List.map,x00,x01,x02,x03,x04,x05,x06,x07,List.take,List.drop,x08,x09,x0a,x0b,List.isEmpty,↓reduceIte,reduceCtorEq,Nat.reduceEqDiff,Nat.reduceAdd,Nat.reduceLeDiff,x0c,Int.reduceNeg,Nat.reduceMul,Nat.reduceSub,x0d,x0e,x0f,x0g,x0h,x0i,x0j,x0k,Int.reduceEq,Int.reduceLT,Int.reduceLE,Int.reduceToNat,Int.cast_ofNat_Int,List.reduceReplicate]
      exact gives_tup rfl (by simp)
    rw [if_neg (by omega)] at hv
    have b0 : 0 ≤ b := by omega
    have b1 : b < l.length := by omega
    simp -implicitDefEqProofs only [h0, h1, vmp,↓vmd,Env.get,putD,argEnv,List.map,x00,x01,x02,x03,x04,x05,x06,x07,List.take,List.drop,x08,x09,x0a,x0b,List.isEmpty,↓reduceIte,reduceCtorEq,Nat.reduceEqDiff,Nat.reduceAdd,Nat.reduceLeDiff,x0c,Int.reduceNeg,Nat.reduceMul,Nat.reduceSub,x0d,x0e,x0f,x0g,x0h,x0i,x0j,x0k,Int.reduceEq,Int.reduceLT,Int.reduceLE,Int.reduceToNat,Int.cast_ofNat_Int,List.reduceReplicate]
    refine onIf'_intro (appOk0_map (fun _ => rfl) (by omega) (by simp [maxLen]; omega)) ?_
    have hr := glAt_row b0 b1
    simp -implicitDefEqProofs only [b0, b1, hr, vmp,↓vmd,Env.get,putD,argEnv,List.map,x00,x01,x02,x03,x04,x05,x06,x07,List.take,List.drop,x08,x09,x0a,x0b,List.isEmpty,↓reduceIte,reduceCtorEq,Nat.reduceEqDiff,Nat.reduceAdd,Nat.reduceLeDiff,x0c,Int.reduceNeg,Nat.reduceMul,Nat.reduceSub,x0d,x0e,x0f,x0g,x0h,x0i,x0j,x0k,Int.reduceEq,Int.reduceLT,Int.reduceLE,Int.reduceToNat,Int.cast_ofNat_Int,List.reduceReplicate]
    rw [row_set (f := gl) (a := ⟨a, (glAt l b).cl, (glAt l b).adv, (glAt l b).dx, (glAt l b).dy, (glAt l b).to, (glAt l b).hang, (glAt l b).lig, (glAt l b).comp, (glAt l b).mask⟩)]
    subst hv
    exact gives_tup (toVs_of (toV_rowN rfl (.inr ⟨rfl, rfl⟩) (by simp)) rfl) (by simp)
  · rw [otherF] at h
    split at h
    · cases h
    · cases h
      simp
theorem row_fin {P xs Q : List Gl} : List.take (P.length + xs.length) ((P.map gl).map S.pure ++ (xs.map gl).map S.pure) ++ (Q.map gl).map S.pure = ((P ++ xs ++ Q).map gl).map S.pure := by
  rw [List.take_of_length_le (by simp)]
  simp
def upG (g : Gl) : Gl := ⟨g.id, g.cl, wr (g.adv + 1), g.dx, g.dy, g.to, g.hang, g.lig, g.comp, g.mask⟩
def putN (l xs : List Gl) (b n : Int) : List Gl := l.take b.toNat ++ xs ++ l.drop n.toNat
def nestF : Doing := fun l a b =>
  if b < 0 ∨ (l.length : Int) ≤ b then none
  else if andE a 7 = 1 then some (putN l [upG (glAt l b)] b (b + 1))
  else if andE a 7 = 2 then some (putN l [upG (glAt l b), upG (glAt l b)] b (b + 1))
  else if andE a 7 = 3 then (if b + 1 = l.length then none else some (putN l [upG (glAt l b)] b (b + 2)))
  else if andE a 7 = 4 then some (putN l [] b (b + 1))
  else if andE a 7 = 5 then some (putN l [upG (glAt l b), upG (glAt l b), upG (glAt l b)] b (b + 1))
  else if andE a 7 = 6 then (if (l.length : Int) ≤ b + 2 then none else some (putN l [upG (glAt l b)] b (b + 3)))
  else none
theorem nest_d : DoingQ 25 nestF := by
  refine ⟨fun l a b hl => ?_, fun l a b l' h => ?_⟩
  · refine q25 (by simp) ?_
    unfold c25
    generalize hv : nestF l a b = v
    rw [nestF] at hv
    simp -implicitDefEqProofs only [*, vmp,↓vmd,Env.get,putD,argEnv,List.map,x00,x01,x02,x03,x04,x05,x06,x07,List.take,List.drop,x08,x09,x0a,x0b,List.isEmpty,↓reduceIte,reduceCtorEq,Nat.reduceEqDiff,Nat.reduceAdd,Nat.reduceLeDiff,x0c,Int.reduceNeg,Nat.reduceMul,Nat.reduceSub,x0d,x0e,x0f,x0g,x0h,x0i,x0j,x0k,Int.reduceEq,Int.reduceLT,Int.reduceLE,Int.reduceToNat,Int.cast_ofNat_Int,List.reduceReplicate]
    by_cases h0 : b < 0
    · rw [if_pos (.inl h0)] at hv
      subst hv
      simp -implicitDefEqProofs only [h0, vmp,↓vmd,Env.get,putD,argEnv,List.map,x00,x01,x02,x03,x04,x05,x06,x07,List.take,List.drop,x08,x09,x0a,x0b,List.isEmpty,↓reduceIte,reduceCtorEq,Nat.reduceEqDiff,Nat.reduceAdd,Nat.reduceLeDiff,x0c,Int.reduceNeg,Nat.reduceMul,Nat.reduceSub,x0d,x0e,x0f,x0g,x0h,x0i,x0j,x0k,Int.reduceEq,Int.reduceLT,Int.reduceLE,Int.reduceToNat,Int.cast_ofNat_Int,List.reduceReplicate]
      exact gives_tup rfl (by simp)
    simp -implicitDefEqProofs only [h0, vmp,↓vmd,Env.get,putD,argEnv,List.map,x00,x01,x02,x03,x04,x05,x06,x07,List.take,List.drop,x08,x09,x0a,x0b,List.isEmpty,↓reduceIte,reduceCtorEq,Nat.reduceEqDiff,Nat.reduceAdd,Nat.reduceLeDiff,x0c,Int.reduceNeg,Nat.reduceMul,Nat.reduceSub,x0d,x0e,x0f,x0g,x0h,x0i,x0j,x0k,Int.reduceEq,Int.reduceLT,Int.reduceLE,Int.reduceToNat,Int.cast_ofNat_Int,List.reduceReplicate]
    refine onIf_intro fun _ => ?_
    by_cases h1 : (l.length : Int) ≤ b
    · rw [if_pos (.inr h1)] at hv
      subst hv
      simp -implicitDefEqProofs only [h0, h1, vmp,↓vmd,Env.get,putD,argEnv,List.map,x00,x01,x02,x03,x04,x05,x06,x07,List.take,List.drop,x08,x09,x0a,x0b,List.isEmpty,↓reduceIte,reduceCtorEq,Nat.reduceEqDiff,Nat.reduceAdd,Nat.reduceLeDiff,x0c,Int.reduceNeg,Nat.reduceMul,Nat.reduceSub,x0d,x0e,x0f,x0g,x0h,x0i,x0j,x0k,Int.reduceEq,Int.reduceLT,Int.reduceLE,Int.reduceToNat,Int.cast_ofNat_Int,List.reduceReplicate]
      exact gives_tup rfl (by simp)
    rw [if_neg (by omega)] at hv
    have b0 : 0 ≤ b := by omega
    have b1 : b < l.length := by omega
    have hto := slc_to (l := l) b0 (by omega)
    have hw1 : IntKind.wrap .i64 (b + 1) = b + 1 := wrap_id (by omega) (by omega)
    have hlt : (l.take b.toNat).length = b.toNat := by rw [List.length_take]; omega
    simp -implicitDefEqProofs only [h0, h1, hto, vmp,↓vmd,Env.get,putD,argEnv,List.map,x00,x01,x02,x03,x04,x05,x06,x07,List.take,List.drop,x08,x09,x0a,x0b,List.isEmpty,↓reduceIte,reduceCtorEq,Nat.reduceEqDiff,Nat.reduceAdd,Nat.reduceLeDiff,x0c,Int.reduceNeg,Nat.reduceMul,Nat.reduceSub,x0d,x0e,x0f,x0g,x0h,x0i,x0j,x0k,Int.reduceEq,Int.reduceLT,Int.reduceLE,Int.reduceToNat,Int.cast_ofNat_Int,List.reduceReplicate]
    refine onIf'_intro (appOk0_map (fun _ => rfl) (by omega) (by simp only [maxLen]; omega)) ?_
    first | refine envO (by simp -implicitDefEqProofs only [vmp,↓vmd,Env.get,putD,argEnv,List.map,x00,x01,x02,x03,x04,x05,x06,x07,List.take,List.drop,x08,x09,x0a,x0b,List.isEmpty,↓reduceIte,reduceCtorEq,Nat.reduceEqDiff,Nat.reduceAdd,Nat.reduceLeDiff,x0c,Int.reduceNeg,Nat.reduceMul,Nat.reduceSub,x0d,x0e,x0f,x0g,x0h,x0i,x0j,x0k,Int.reduceEq,Int.reduceLT,Int.reduceLE,Int.reduceToNat,Int.cast_ofNat_Int,List.reduceReplicate]; rfl) ?_ | refine envQ (by simp -implicitDefEqProofs only [vmp,↓vmd,Env.get,putD,argEnv,List.map,x00,x01,x02,x03,x04,x05,x06,x07,List.take,List.drop,x08,x09,x0a,x0b,List.isEmpty,↓reduceIte,reduceCtorEq,Nat.reduceEqDiff,Nat.reduceAdd,Nat.reduceLeDiff,x0c,Int.reduceNeg,Nat.reduceMul,Nat.reduceSub,x0d,x0e,x0f,x0g,x0h,x0i,x0j,x0k,Int.reduceEq,Int.reduceLT,Int.reduceLE,Int.reduceToNat,Int.cast_ofNat_Int,List.reduceReplicate]; rfl) ?_
    have hg := glAt_map b0 b1
    simp -implicitDefEqProofs only [b0, b1, hg, hw1, vmp,↓vmd,Env.get,putD,argEnv,List.map,x00,x01,x02,x03,x04,x05,x06,x07,List.take,List.drop,x08,x09,x0a,x0b,List.isEmpty,↓reduceIte,reduceCtorEq,Nat.reduceEqDiff,Nat.reduceAdd,Nat.reduceLeDiff,x0c,Int.reduceNeg,Nat.reduceMul,Nat.reduceSub,x0d,x0e,x0f,x0g,x0h,x0i,x0j,x0k,Int.reduceEq,Int.reduceLT,Int.reduceLE,Int.reduceToNat,Int.cast_ofNat_Int,List.reduceReplicate]
    have wn : ∀ n : Int, 0 ≤ n → n ≤ 10 → IntKind.wrap .i64 (b + n) = b + n := fun n h1 h2 => wrap_id (by omega) (by omega)
    have hw2 : IntKind.wrap .i64 (b + 1 + 1) = b + 2 := by rw [wrap_id (by omega) (by omega)]; omega
    have hw3 : IntKind.wrap .i64 (b + 1 + 2) = b + 3 := by rw [wrap_id (by omega) (by omega)]; omega
    generalize hcc : andE a 7 = c at *
    have hc' : IntKind.wrap .i64 ((BitVec.ofInt (IntKind.bits .i64) a &&& BitVec.ofInt (IntKind.bits .i64) 7).toNat : Int) = c := hcc
    simp -implicitDefEqProofs only [hc', vmp,↓vmd,Env.get,putD,argEnv,List.map,x00,x01,x02,x03,x04,x05,x06,x07,List.take,List.drop,x08,x09,x0a,x0b,List.isEmpty,↓reduceIte,reduceCtorEq,Nat.reduceEqDiff,Nat.reduceAdd,Nat.reduceLeDiff,x0c,Int.reduceNeg,Nat.reduceMul,Nat.reduceSub,x0d,x0e,x0f,x0g,x0h,x0i,x0j,x0k,Int.reduceEq,Int.reduceLT,Int.reduceLE,Int.reduceToNat,Int.cast_ofNat_Int,List.reduceReplicate]
    by_cases c1 : c = 1
    · rw [if_pos c1] at hv
      simp -implicitDefEqProofs only [hc', c1, hw1, vmp,↓vmd,Env.get,putD,argEnv,List.map,x00,x01,x02,x03,x04,x05,x06,x07,List.take,List.drop,x08,x09,x0a,x0b,List.isEmpty,↓reduceIte,reduceCtorEq,Nat.reduceEqDiff,Nat.reduceAdd,Nat.reduceLeDiff,x0c,Int.reduceNeg,Nat.reduceMul,Nat.reduceSub,x0d,x0e,x0f,x0g,x0h,x0i,x0j,x0k,Int.reduceEq,Int.reduceLT,Int.reduceLE,Int.reduceToNat,Int.cast_ofNat_Int,List.reduceReplicate]
      subst hv
      have hf := slc_from (l := l) (b := b + 1) (by omega) (by omega)
      refine onIf'_intro (appOk_one rfl rfl (by simp) (by omega) (by simp only [maxLen]; omega)) ?_
      simp -implicitDefEqProofs only [hc', c1, hw1, hf, vmp,↓vmd,Env.get,putD,argEnv,List.map,x00,x01,x02,x03,x04,x05,x06,x07,List.take,List.drop,x08,x09,x0a,x0b,List.isEmpty,↓reduceIte,reduceCtorEq,Nat.reduceEqDiff,Nat.reduceAdd,Nat.reduceLeDiff,x0c,Int.reduceNeg,Nat.reduceMul,Nat.reduceSub,x0d,x0e,x0f,x0g,x0h,x0i,x0j,x0k,Int.reduceEq,Int.reduceLT,Int.reduceLE,Int.reduceToNat,Int.cast_ofNat_Int,List.reduceReplicate]
      refine onIf'_intro (appOk_map (f := gl) (X := l.drop (b + 1).toNat) (fun _ => rfl) rfl (by simp) (by simp only [List.length_drop]; omega) (by simp only [maxLen, List.length_drop]; omega)) ?_
      simp -implicitDefEqProofs only [vmp,↓vmd,Env.get,putD,argEnv,List.map,x00,x01,x02,x03,x04,x05,x06,x07,List.take,List.drop,x08,x09,x0a,x0b,List.isEmpty,↓reduceIte,reduceCtorEq,Nat.reduceEqDiff,Nat.reduceAdd,Nat.reduceLeDiff,x0c,Int.reduceNeg,Nat.reduceMul,Nat.reduceSub,x0d,x0e,x0f,x0g,x0h,x0i,x0j,x0k,Int.reduceEq,Int.reduceLT,Int.reduceLE,Int.reduceToNat,Int.cast_ofNat_Int,List.reduceReplicate]
      exact gives_tup (toVs_of (toV_rowN (f := gl) (X := putN l [upG (glAt l b)] b (b + 1)) (m := 10) (congrArg (fun e => some (Row.mk e 10 .live)) (row_fin (P := l.take b.toNat) (xs := [upG (glAt l b)]) (Q := l.drop (b + 1).toNat))) (.inr ⟨rfl, rfl⟩) (by simp [putN]; omega)) rfl) (by simp)
    rw [if_neg c1] at hv
    by_cases c2 : c = 2
    · rw [if_pos c2] at hv
      simp -implicitDefEqProofs only [hc', c1, c2, hw1, vmp,↓vmd,Env.get,putD,argEnv,List.map,x00,x01,x02,x03,x04,x05,x06,x07,List.take,List.drop,x08,x09,x0a,x0b,List.isEmpty,↓reduceIte,reduceCtorEq,Nat.reduceEqDiff,Nat.reduceAdd,Nat.reduceLeDiff,x0c,Int.reduceNeg,Nat.reduceMul,Nat.reduceSub,x0d,x0e,x0f,x0g,x0h,x0i,x0j,x0k,Int.reduceEq,Int.reduceLT,Int.reduceLE,Int.reduceToNat,Int.cast_ofNat_Int,List.reduceReplicate]
      subst hv
      have hf := slc_from (l := l) (b := b + 1) (by omega) (by omega)
      refine onIf'_intro (appOk_map (f := gl) (X := [upG (glAt l b), upG (glAt l b)]) (fun _ => rfl) rfl (by simp) (by simp only [List.length_cons, List.length_nil]; omega) (by simp only [maxLen, List.length_cons, List.length_nil]; omega)) ?_
      simp -implicitDefEqProofs only [hc', c1, c2, hw1, hf, vmp,↓vmd,Env.get,putD,argEnv,List.map,x00,x01,x02,x03,x04,x05,x06,x07,List.take,List.drop,x08,x09,x0a,x0b,List.isEmpty,↓reduceIte,reduceCtorEq,Nat.reduceEqDiff,Nat.reduceAdd,Nat.reduceLeDiff,x0c,Int.reduceNeg,Nat.reduceMul,Nat.reduceSub,x0d,x0e,x0f,x0g,x0h,x0i,x0j,x0k,Int.reduceEq,Int.reduceLT,Int.reduceLE,Int.reduceToNat,Int.cast_ofNat_Int,List.reduceReplicate]
      refine onIf'_intro (appOk_map (f := gl) (X := l.drop (b + 1).toNat) (fun _ => rfl) rfl (by simp) (by simp only [List.length_drop]; omega) (by simp only [maxLen, List.length_drop]; omega)) ?_
      simp -implicitDefEqProofs only [vmp,↓vmd,Env.get,putD,argEnv,List.map,x00,x01,x02,x03,x04,x05,x06,x07,List.take,List.drop,x08,x09,x0a,x0b,List.isEmpty,↓reduceIte,reduceCtorEq,Nat.reduceEqDiff,Nat.reduceAdd,Nat.reduceLeDiff,x0c,Int.reduceNeg,Nat.reduceMul,Nat.reduceSub,x0d,x0e,x0f,x0g,x0h,x0i,x0j,x0k,Int.reduceEq,Int.reduceLT,Int.reduceLE,Int.reduceToNat,Int.cast_ofNat_Int,List.reduceReplicate]
      exact gives_tup (toVs_of (toV_rowN (f := gl) (X := putN l [upG (glAt l b), upG (glAt l b)] b (b + 1)) (m := 10) (congrArg (fun e => some (Row.mk e 10 .live)) (row_fin (P := l.take b.toNat) (xs := [upG (glAt l b), upG (glAt l b)]) (Q := l.drop (b + 1).toNat))) (.inr ⟨rfl, rfl⟩) (by simp [putN]; omega)) rfl) (by simp)
    rw [if_neg c2] at hv
    by_cases c3 : c = 3
    · rw [if_pos c3] at hv
      simp -implicitDefEqProofs only [hc', c1, c2, c3, hw1, vmp,↓vmd,Env.get,putD,argEnv,List.map,x00,x01,x02,x03,x04,x05,x06,x07,List.take,List.drop,x08,x09,x0a,x0b,List.isEmpty,↓reduceIte,reduceCtorEq,Nat.reduceEqDiff,Nat.reduceAdd,Nat.reduceLeDiff,x0c,Int.reduceNeg,Nat.reduceMul,Nat.reduceSub,x0d,x0e,x0f,x0g,x0h,x0i,x0j,x0k,Int.reduceEq,Int.reduceLT,Int.reduceLE,Int.reduceToNat,Int.cast_ofNat_Int,List.reduceReplicate]
      refine onIf_intro fun _ => ?_
      by_cases e1 : b + 1 = (l.length : Int)
      · rw [if_pos e1] at hv
        subst hv
        simp -implicitDefEqProofs only [hc', c1, c2, c3, hw1, e1, vmp,↓vmd,Env.get,putD,argEnv,List.map,x00,x01,x02,x03,x04,x05,x06,x07,List.take,List.drop,x08,x09,x0a,x0b,List.isEmpty,↓reduceIte,reduceCtorEq,Nat.reduceEqDiff,Nat.reduceAdd,Nat.reduceLeDiff,x0c,Int.reduceNeg,Nat.reduceMul,Nat.reduceSub,x0d,x0e,x0f,x0g,x0h,x0i,x0j,x0k,Int.reduceEq,Int.reduceLT,Int.reduceLE,Int.reduceToNat,Int.cast_ofNat_Int,List.reduceReplicate]
        exact gives_tup rfl (by simp)
      rw [if_neg e1] at hv
      subst hv
      simp -implicitDefEqProofs only [hc', c1, c2, c3, hw1, e1, vmp,↓vmd,Env.get,putD,argEnv,List.map,x00,x01,x02,x03,x04,x05,x06,x07,List.take,List.drop,x08,x09,x0a,x0b,List.isEmpty,↓reduceIte,reduceCtorEq,Nat.reduceEqDiff,Nat.reduceAdd,Nat.reduceLeDiff,x0c,Int.reduceNeg,Nat.reduceMul,Nat.reduceSub,x0d,x0e,x0f,x0g,x0h,x0i,x0j,x0k,Int.reduceEq,Int.reduceLT,Int.reduceLE,Int.reduceToNat,Int.cast_ofNat_Int,List.reduceReplicate]
      have hf := slc_from (l := l) (b := b + 2) (by omega) (by omega)
      refine onIf'_intro (appOk_one rfl rfl (by simp) (by omega) (by simp only [maxLen]; omega)) ?_
      simp -implicitDefEqProofs only [hc', c1, c2, c3, hw1, hw2, hf, vmp,↓vmd,Env.get,putD,argEnv,List.map,x00,x01,x02,x03,x04,x05,x06,x07,List.take,List.drop,x08,x09,x0a,x0b,List.isEmpty,↓reduceIte,reduceCtorEq,Nat.reduceEqDiff,Nat.reduceAdd,Nat.reduceLeDiff,x0c,Int.reduceNeg,Nat.reduceMul,Nat.reduceSub,x0d,x0e,x0f,x0g,x0h,x0i,x0j,x0k,Int.reduceEq,Int.reduceLT,Int.reduceLE,Int.reduceToNat,Int.cast_ofNat_Int,List.reduceReplicate]
      refine onIf'_intro (appOk_map (f := gl) (X := l.drop (b + 2).toNat) (fun _ => rfl) rfl (by simp) (by simp only [List.length_drop]; omega) (by simp only [maxLen, List.length_drop]; omega)) ?_
      simp -implicitDefEqProofs only [vmp,↓vmd,Env.get,putD,argEnv,List.map,x00,x01,x02,x03,x04,x05,x06,x07,List.take,List.drop,x08,x09,x0a,x0b,List.isEmpty,↓reduceIte,reduceCtorEq,Nat.reduceEqDiff,Nat.reduceAdd,Nat.reduceLeDiff,x0c,Int.reduceNeg,Nat.reduceMul,Nat.reduceSub,x0d,x0e,x0f,x0g,x0h,x0i,x0j,x0k,Int.reduceEq,Int.reduceLT,Int.reduceLE,Int.reduceToNat,Int.cast_ofNat_Int,List.reduceReplicate]
      exact gives_tup (toVs_of (toV_rowN (f := gl) (X := putN l [upG (glAt l b)] b (b + 2)) (m := 10) (congrArg (fun e => some (Row.mk e 10 .live)) (row_fin (P := l.take b.toNat) (xs := [upG (glAt l b)]) (Q := l.drop (b + 2).toNat))) (.inr ⟨rfl, rfl⟩) (by simp [putN]; omega)) rfl) (by simp)
    rw [if_neg c3] at hv
    by_cases c4 : c = 4
    · rw [if_pos c4] at hv
      simp -implicitDefEqProofs only [hc', c1, c2, c3, c4, hw1, vmp,↓vmd,Env.get,putD,argEnv,List.map,x00,x01,x02,x03,x04,x05,x06,x07,List.take,List.drop,x08,x09,x0a,x0b,List.isEmpty,↓reduceIte,reduceCtorEq,Nat.reduceEqDiff,Nat.reduceAdd,Nat.reduceLeDiff,x0c,Int.reduceNeg,Nat.reduceMul,Nat.reduceSub,x0d,x0e,x0f,x0g,x0h,x0i,x0j,x0k,Int.reduceEq,Int.reduceLT,Int.reduceLE,Int.reduceToNat,Int.cast_ofNat_Int,List.reduceReplicate]
      subst hv
      have hf := slc_from (l := l) (b := b + 1) (by omega) (by omega)
      simp -implicitDefEqProofs only [hc', c1, c2, c3, c4, hw1, hf, vmp,↓vmd,Env.get,putD,argEnv,List.map,x00,x01,x02,x03,x04,x05,x06,x07,List.take,List.drop,x08,x09,x0a,x0b,List.isEmpty,↓reduceIte,reduceCtorEq,Nat.reduceEqDiff,Nat.reduceAdd,Nat.reduceLeDiff,x0c,Int.reduceNeg,Nat.reduceMul,Nat.reduceSub,x0d,x0e,x0f,x0g,x0h,x0i,x0j,x0k,Int.reduceEq,Int.reduceLT,Int.reduceLE,Int.reduceToNat,Int.cast_ofNat_Int,List.reduceReplicate]
      refine onIf'_intro (appOk_map (f := gl) (X := l.drop (b + 1).toNat) (fun _ => rfl) rfl (by simp) (by simp only [List.length_drop]; omega) (by simp only [maxLen, List.length_drop]; omega)) ?_
      simp -implicitDefEqProofs only [vmp,↓vmd,Env.get,putD,argEnv,List.map,x00,x01,x02,x03,x04,x05,x06,x07,List.take,List.drop,x08,x09,x0a,x0b,List.isEmpty,↓reduceIte,reduceCtorEq,Nat.reduceEqDiff,Nat.reduceAdd,Nat.reduceLeDiff,x0c,Int.reduceNeg,Nat.reduceMul,Nat.reduceSub,x0d,x0e,x0f,x0g,x0h,x0i,x0j,x0k,Int.reduceEq,Int.reduceLT,Int.reduceLE,Int.reduceToNat,Int.cast_ofNat_Int,List.reduceReplicate]
      exact gives_tup (toVs_of (toV_rowN (f := gl) (X := putN l [] b (b + 1)) (m := 10) (by simp [putN]) (.inr ⟨rfl, rfl⟩) (by simp [putN])) rfl) (by simp)
    rw [if_neg c4] at hv
    by_cases c5 : c = 5
    · rw [if_pos c5] at hv
      simp -implicitDefEqProofs only [hc', c1, c2, c3, c4, c5, hw1, vmp,↓vmd,Env.get,putD,argEnv,List.map,x00,x01,x02,x03,x04,x05,x06,x07,List.take,List.drop,x08,x09,x0a,x0b,List.isEmpty,↓reduceIte,reduceCtorEq,Nat.reduceEqDiff,Nat.reduceAdd,Nat.reduceLeDiff,x0c,Int.reduceNeg,Nat.reduceMul,Nat.reduceSub,x0d,x0e,x0f,x0g,x0h,x0i,x0j,x0k,Int.reduceEq,Int.reduceLT,Int.reduceLE,Int.reduceToNat,Int.cast_ofNat_Int,List.reduceReplicate]
      subst hv
      have hf := slc_from (l := l) (b := b + 1) (by omega) (by omega)
      refine onIf'_intro (appOk_map (f := gl) (X := [upG (glAt l b), upG (glAt l b), upG (glAt l b)]) (fun _ => rfl) rfl (by simp) (by simp only [List.length_cons, List.length_nil]; omega) (by simp only [maxLen, List.length_cons, List.length_nil]; omega)) ?_
      simp -implicitDefEqProofs only [hc', c1, c2, c3, c4, c5, hw1, hf, vmp,↓vmd,Env.get,putD,argEnv,List.map,x00,x01,x02,x03,x04,x05,x06,x07,List.take,List.drop,x08,x09,x0a,x0b,List.isEmpty,↓reduceIte,reduceCtorEq,Nat.reduceEqDiff,Nat.reduceAdd,Nat.reduceLeDiff,x0c,Int.reduceNeg,Nat.reduceMul,Nat.reduceSub,x0d,x0e,x0f,x0g,x0h,x0i,x0j,x0k,Int.reduceEq,Int.reduceLT,Int.reduceLE,Int.reduceToNat,Int.cast_ofNat_Int,List.reduceReplicate]
      refine onIf'_intro (appOk_map (f := gl) (X := l.drop (b + 1).toNat) (fun _ => rfl) rfl (by simp) (by simp only [List.length_drop]; omega) (by simp only [maxLen, List.length_drop]; omega)) ?_
      simp -implicitDefEqProofs only [vmp,↓vmd,Env.get,putD,argEnv,List.map,x00,x01,x02,x03,x04,x05,x06,x07,List.take,List.drop,x08,x09,x0a,x0b,List.isEmpty,↓reduceIte,reduceCtorEq,Nat.reduceEqDiff,Nat.reduceAdd,Nat.reduceLeDiff,x0c,Int.reduceNeg,Nat.reduceMul,Nat.reduceSub,x0d,x0e,x0f,x0g,x0h,x0i,x0j,x0k,Int.reduceEq,Int.reduceLT,Int.reduceLE,Int.reduceToNat,Int.cast_ofNat_Int,List.reduceReplicate]
      exact gives_tup (toVs_of (toV_rowN (f := gl) (X := putN l [upG (glAt l b), upG (glAt l b), upG (glAt l b)] b (b + 1)) (m := 10) (congrArg (fun e => some (Row.mk e 10 .live)) (row_fin (P := l.take b.toNat) (xs := [upG (glAt l b), upG (glAt l b), upG (glAt l b)]) (Q := l.drop (b + 1).toNat))) (.inr ⟨rfl, rfl⟩) (by simp [putN]; omega)) rfl) (by simp)
    rw [if_neg c5] at hv
    by_cases c6 : c = 6
    · rw [if_pos c6] at hv
      simp -implicitDefEqProofs only [hc', c1, c2, c3, c4, c5, c6, hw1, vmp,↓vmd,Env.get,putD,argEnv,List.map,x00,x01,x02,x03,x04,x05,x06,x07,List.take,List.drop,x08,x09,x0a,x0b,List.isEmpty,↓reduceIte,reduceCtorEq,Nat.reduceEqDiff,Nat.reduceAdd,Nat.reduceLeDiff,x0c,Int.reduceNeg,Nat.reduceMul,Nat.reduceSub,x0d,x0e,x0f,x0g,x0h,x0i,x0j,x0k,Int.reduceEq,Int.reduceLT,Int.reduceLE,Int.reduceToNat,Int.cast_ofNat_Int,List.reduceReplicate]
      refine onIf_intro fun _ => ?_
      by_cases e1 : (l.length : Int) ≤ b + 2
      · rw [if_pos e1] at hv
        subst hv
        simp -implicitDefEqProofs only [hc', c1, c2, c3, c4, c5, c6, hw1, hw2, e1, vmp,↓vmd,Env.get,putD,argEnv,List.map,x00,x01,x02,x03,x04,x05,x06,x07,List.take,List.drop,x08,x09,x0a,x0b,List.isEmpty,↓reduceIte,reduceCtorEq,Nat.reduceEqDiff,Nat.reduceAdd,Nat.reduceLeDiff,x0c,Int.reduceNeg,Nat.reduceMul,Nat.reduceSub,x0d,x0e,x0f,x0g,x0h,x0i,x0j,x0k,Int.reduceEq,Int.reduceLT,Int.reduceLE,Int.reduceToNat,Int.cast_ofNat_Int,List.reduceReplicate]
        exact gives_tup rfl (by simp)
      rw [if_neg e1] at hv
      subst hv
      simp -implicitDefEqProofs only [hc', c1, c2, c3, c4, c5, c6, hw1, hw2, e1, vmp,↓vmd,Env.get,putD,argEnv,List.map,x00,x01,x02,x03,x04,x05,x06,x07,List.take,List.drop,x08,x09,x0a,x0b,List.isEmpty,↓reduceIte,reduceCtorEq,Nat.reduceEqDiff,Nat.reduceAdd,Nat.reduceLeDiff,x0c,Int.reduceNeg,Nat.reduceMul,Nat.reduceSub,x0d,x0e,x0f,x0g,x0h,x0i,x0j,x0k,Int.reduceEq,Int.reduceLT,Int.reduceLE,Int.reduceToNat,Int.cast_ofNat_Int,List.reduceReplicate]
      have hf := slc_from (l := l) (b := b + 3) (by omega) (by omega)
      refine onIf'_intro (appOk_one rfl rfl (by simp) (by omega) (by simp only [maxLen]; omega)) ?_
      simp -implicitDefEqProofs only [hc', c1, c2, c3, c4, c5, c6, hw1, hw3, hf, vmp,↓vmd,Env.get,putD,argEnv,List.map,x00,x01,x02,x03,x04,x05,x06,x07,List.take,List.drop,x08,x09,x0a,x0b,List.isEmpty,↓reduceIte,reduceCtorEq,Nat.reduceEqDiff,Nat.reduceAdd,Nat.reduceLeDiff,x0c,Int.reduceNeg,Nat.reduceMul,Nat.reduceSub,x0d,x0e,x0f,x0g,x0h,x0i,x0j,x0k,Int.reduceEq,Int.reduceLT,Int.reduceLE,Int.reduceToNat,Int.cast_ofNat_Int,List.reduceReplicate]
      refine onIf'_intro (appOk_map (f := gl) (X := l.drop (b + 3).toNat) (fun _ => rfl) rfl (by simp) (by simp only [List.length_drop]; omega) (by simp only [maxLen, List.length_drop]; omega)) ?_
      simp -implicitDefEqProofs only [vmp,↓vmd,Env.get,putD,argEnv,List.map,x00,x01,x02,x03,x04,x05,x06,x07,List.take,List.drop,x08,x09,x0a,x0b,List.isEmpty,↓reduceIte,reduceCtorEq,Nat.reduceEqDiff,Nat.reduceAdd,Nat.reduceLeDiff,x0c,Int.reduceNeg,Nat.reduceMul,Nat.reduceSub,x0d,x0e,x0f,x0g,x0h,x0i,x0j,x0k,Int.reduceEq,Int.reduceLT,Int.reduceLE,Int.reduceToNat,Int.cast_ofNat_Int,List.reduceReplicate]
      exact gives_tup (toVs_of (toV_rowN (f := gl) (X := putN l [upG (glAt l b)] b (b + 3)) (m := 10) (congrArg (fun e => some (Row.mk e 10 .live)) (row_fin (P := l.take b.toNat) (xs := [upG (glAt l b)]) (Q := l.drop (b + 3).toNat))) (.inr ⟨rfl, rfl⟩) (by simp [putN]; omega)) rfl) (by simp)
    rw [if_neg c6] at hv
    subst hv
    simp -implicitDefEqProofs only [hc', c1, c2, c3, c4, c5, c6, vmp,↓vmd,Env.get,putD,argEnv,List.map,x00,x01,x02,x03,x04,x05,x06,x07,List.take,List.drop,x08,x09,x0a,x0b,List.isEmpty,↓reduceIte,reduceCtorEq,Nat.reduceEqDiff,Nat.reduceAdd,Nat.reduceLeDiff,x0c,Int.reduceNeg,Nat.reduceMul,Nat.reduceSub,x0d,x0e,x0f,x0g,x0h,x0i,x0j,x0k,Int.reduceEq,Int.reduceLT,Int.reduceLE,Int.reduceToNat,Int.cast_ofNat_Int,List.reduceReplicate]
    exact gives_tup rfl (by simp)
  · have put : ∀ (xs : List Gl) (n : Int), xs.length ≤ 3 → b + 1 ≤ n → 0 ≤ b → b < l.length → (putN l xs b n).length ≤ l.length + 2 := by
      intro xs n h1 h2 h3 h4
      simp only [putN, List.length_append, List.length_take, List.length_drop]
      omega
    rw [nestF] at h
    split at h
    · cases h
    · rename_i hb
      repeat' split at h
      all_goals first
        | (cases h; done)
        | (cases h; exact put _ _ (by simp) (by omega) (by omega) (by omega))
end Go.Proofs.Ytbllbkhkmngclaa.W
