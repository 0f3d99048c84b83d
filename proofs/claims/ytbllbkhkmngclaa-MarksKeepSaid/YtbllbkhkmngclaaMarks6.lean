/-
  The chapter's example of marks: its function gives true.
-/
import Derived.Test.YtbllbkhkmngclaaMarks5
import Derived.Test.YtbllbkhkmngclaaSame25
namespace Go.Proofs.Ytbllbkhkmngclaa.W
open Go Go.Vm Go.Proofs
set_option maxRecDepth 100000
set_option linter.unusedSimpArgs false
set_option maxHeartbeats 4000000
/-! typecase/typecaseref25.Fresh -/
def c45 : AC :=
  (.seq (.reg [⟨some 4, none, .box (.c (.pure (.agg [(.int .i64 0), (.int .i64 0), (.int .i64 0), (.int .i64 0), (.int .i64 0), (.int .i64 0), (.int .i64 0), (.int .i64 0), (.int .i64 0), (.int .i64 0)])))⟩])
  (.seq (.reg [⟨some 5, none, .mov (.s 0)⟩,
    ⟨some 6, none, .mov (.s 1)⟩,
    ⟨some 7, none, .build [(.pure (.int .i64 0)), (.pure (.int .i64 0)), (.pure (.int .i64 0)), (.pure (.int .i64 0)), (.pure (.int .i64 0)), (.pure (.int .i64 0)), (.pure (.int .i64 0)), (.pure (.int .i64 0)), (.pure (.int .i64 0)), (.pure (.int .i64 0))] [(0, 1, (.s 5)), (1, 1, (.s 6)), (5, 1, (.c (.pure (.int .i64 (-1))))), (6, 1, (.c (.pure (.int .i64 (-1)))))]⟩,
    ⟨none, none, .store 10 (.s 4) (.s 7)⟩])
  .ret))
theorem k45 : (Try.f45.body.bind fun c => cCode Try.prog Try.f45.ntmps RCs c) = some c45 := by kernel_rfl
theorem h45 : (Try.f45.name == "runtime.NumGoroutine") = false := by kernel_rfl
theorem r45 : resC Try.prog Try.f45.results.toList = some [.c 4 true 10] := by kernel_rfl
theorem a45 {args : List S} {H : Heap} {K : S → Heap → Prop} (hn : args.length ≤ 8) (h : aWx Try.prog H.length c45 (PostX [.c 4 true 10] K) (argEnv 0 args) H) : CallA Try.prog 45 args H K :=
  callA_of_x mixed Try.func45 h45 k45 r45 (by rw [Try.ntmps45]; exact hn) h
theorem q45 {vs ds : List V} (hn : vs.length ≤ 8) (h : aWx Try.prog 0 c45 (PostX [.c 4 true 10] (Gives ds)) (argEnv 0 (vs.map .pure)) []) : FnQ Try.prog 45 vs ds :=
  fnQ_of_call (a45 (by simpa using hn) h)
/-! typecase/typecaselaw34.alive -/
def c14 : AC :=
  (.seq (.reg [⟨some 0, none, .mov (.c (.pure (.bool false)))⟩])
  (.seq (.reg [⟨some 11, none, .build [(.pure (.int .i64 0)), (.pure (.int .i64 0)), (.pure (.int .i64 0)), .empty] []⟩,
    ⟨some 12, none, .build [(.pure (.int .i64 0)), (.pure (.int .i64 0)), (.pure (.int .i64 0)), .empty] [(0, 1, (.c (.pure (.int .i64 9)))), (1, 1, (.c (.pure (.int .i64 1))))]⟩,
    ⟨some 13, none, .build [(.pure (.int .i64 0)), (.pure (.int .i64 0)), (.pure (.int .i64 0)), .empty] [(0, 1, (.c (.pure (.int .i64 5)))), (1, 1, (.c (.pure (.int .i64 3))))]⟩,
    ⟨some 14, none, .build [(.pure (.int .i64 0)), (.pure (.int .i64 0)), (.pure (.int .i64 0)), .empty] [(0, 1, (.c (.pure (.int .i64 9)))), (1, 1, (.c (.pure (.int .i64 2))))]⟩,
    ⟨some 15, none, .bslice 4 [(.s 11), (.s 12), (.s 13), (.s 14)]⟩,
    ⟨some 16, none, .build [(.pure (.int .i64 0)), .empty, .empty, .empty, .empty, .empty] [(0, 1, (.c (.pure (.int .i64 10)))), (1, 1, (.s 15))]⟩,
    ⟨some 1, none, .box (.c (.agg [(.pure (.int .i64 0)), .empty, .empty, .empty, .empty, .empty]))⟩,
    ⟨none, none, .store 6 (.s 1) (.s 16)⟩])
  (.seq (.reg [⟨some 17, none, .build [(.pure (.int .i64 0)), (.pure (.int .i64 0))] [(0, 1, (.c (.pure (.int .i64 3)))), (1, 1, (.c (.pure (.int .i64 4))))]⟩,
    ⟨some 18, none, .build [(.pure (.int .i64 0)), (.pure (.int .i64 0)), (.pure (.int .i64 0)), (.pure (.int .i64 0))] [(0, 1, (.c (.pure (.int .i64 2)))), (2, 2, (.s 17))]⟩,
    ⟨some 19, none, .bslice 4 [(.s 18)]⟩,
    ⟨some 20, none, .build [(.pure (.int .i64 0)), (.pure (.int .i64 0))] [(0, 1, (.c (.pure (.int .i64 10)))), (1, 1, (.c (.pure (.int .i64 20))))]⟩,
    ⟨some 21, none, .build [(.pure (.bool false)), (.pure (.int .i64 0)), (.pure (.int .i64 0))] [(0, 1, (.c (.pure (.bool true)))), (1, 2, (.s 20))]⟩,
    ⟨some 22, none, .bslice 3 [(.s 21)]⟩,
    ⟨some 23, none, .bslice 1 [(.s 22)]⟩,
    ⟨some 24, none, .build [(.pure (.int .i64 0)), .empty] [(0, 1, (.c (.pure (.int .i64 1)))), (1, 1, (.s 23))]⟩,
    ⟨some 25, none, .bslice 2 [(.s 24)]⟩,
    ⟨some 26, none, .build [.empty, .empty, .empty, .empty, .empty, .empty, .empty, .empty, .empty, .empty, .empty, .empty] [(10, 1, (.s 19)), (11, 1, (.s 25))]⟩,
    ⟨some 27, none, .bslice 12 [(.s 26)]⟩,
    ⟨some 28, none, .build [(.pure (.int .i64 0)), (.pure (.int .i64 0)), (.pure (.int .i64 0)), .empty] [(0, 1, (.c (.pure (.int .i64 9)))), (3, 1, (.s 27))]⟩,
    ⟨some 2, none, .box (.c (.agg [(.pure (.int .i64 0)), (.pure (.int .i64 0)), (.pure (.int .i64 0)), .empty]))⟩,
    ⟨none, none, .store 4 (.s 2) (.s 28)⟩])
  (.seq (.regq [⟨some 30, none, .load true 6 (.s 1)⟩,
    ⟨some 31, none, .load true 4 (.s 2)⟩,
    ⟨some 32, none, .call 45 [(.c (.pure (.int .i64 1))), (.c (.pure (.int .i64 0)))]⟩,
    ⟨some 33, none, .call 45 [(.c (.pure (.int .i64 2))), (.c (.pure (.int .i64 0)))]⟩,
    ⟨some 34, none, .bslice 10 [(.s 32), (.s 33)]⟩,
    ⟨some 35, none, .call 20 [(.s 30), (.s 31), (.s 34), (.c (.pure (.int .i64 1)))]⟩,
    ⟨some 29, none, .mov (.s 35)⟩,
    ⟨some 36, none, .ext 0 (.s 29)⟩,
    ⟨some 37, none, .ext 1 (.s 29)⟩,
    ⟨some 3, none, .mov (.s 36)⟩]
    [⟨some 4, none, .mov (.s 37)⟩])
  (.seq (.regq [⟨some 39, none, .load true 6 (.s 1)⟩,
    ⟨some 40, none, .load true 4 (.s 2)⟩,
    ⟨some 41, none, .call 45 [(.c (.pure (.int .i64 1))), (.c (.pure (.int .i64 0)))]⟩,
    ⟨some 42, none, .bslice 10 [(.s 41)]⟩,
    ⟨some 43, none, .call 20 [(.s 39), (.s 40), (.s 42), (.c (.pure (.int .i64 0)))]⟩,
    ⟨some 38, none, .mov (.s 43)⟩,
    ⟨some 44, none, .ext 0 (.s 38)⟩,
    ⟨some 45, none, .ext 1 (.s 38)⟩,
    ⟨some 5, none, .mov (.s 44)⟩]
    [⟨some 6, none, .mov (.s 45)⟩])
  (.seq (.reg [⟨some 46, none, .fldA 0 (.s 2)⟩,
    ⟨none, none, .store 1 (.s 46) (.c (.pure (.int .i64 10)))⟩])
  (.seq (.reg [⟨some 47, none, .fldA 3 (.s 2)⟩,
    ⟨some 48, none, .load false 1 (.s 47)⟩,
    ⟨some 49, none, .build [(.pure (.int .i64 0)), (.pure (.int .i64 0))] [(0, 1, (.c (.pure (.int .i64 5))))]⟩,
    ⟨some 50, none, .build [(.pure (.bool false)), (.pure (.int .i64 0)), (.pure (.int .i64 0))] [(0, 1, (.c (.pure (.bool true)))), (1, 2, (.s 49))]⟩,
    ⟨some 51, none, .bslice 3 [(.s 50)]⟩,
    ⟨some 52, none, .build [(.pure (.int .i64 0)), (.pure (.int .i64 0))] [(0, 1, (.c (.pure (.int .i64 9))))]⟩,
    ⟨some 53, none, .build [(.pure (.bool false)), (.pure (.int .i64 0)), (.pure (.int .i64 0))] [(0, 1, (.c (.pure (.bool true)))), (1, 2, (.s 52))]⟩,
    ⟨some 54, none, .bslice 3 [(.s 53)]⟩,
    ⟨some 55, none, .bslice 1 [(.s 51), (.s 54)]⟩,
    ⟨some 56, none, .build [(.pure (.int .i64 0)), .empty] [(0, 1, (.c (.pure (.int .i64 3)))), (1, 1, (.s 55))]⟩,
    ⟨some 57, none, .bslice 2 [(.s 56)]⟩,
    ⟨some 58, none, .idxA 12 (.s 48) (.c (.pure (.int .i64 0)))⟩,
    ⟨some 59, none, .fldA 11 (.s 58)⟩,
    ⟨none, none, .store 1 (.s 59) (.s 57)⟩])
  (.seq (.reg [⟨some 61, none, .load true 4 (.s 2)⟩,
    ⟨some 62, none, .call 17 [(.s 61), (.c (.pure (.int .i64 0))), (.c (.pure (.int .i64 3))), (.c (.pure (.int .i64 0))), (.c (.pure (.int .i64 0)))]⟩,
    ⟨some 60, none, .mov (.s 62)⟩,
    ⟨some 63, none, .ext 0 (.s 60)⟩,
    ⟨some 64, none, .ext 1 (.s 60)⟩,
    ⟨some 7, none, .box (.c (.pure (.agg [(.int .i64 0), (.int .i64 0)])))⟩,
    ⟨none, none, .store 2 (.s 7) (.s 63)⟩,
    ⟨some 8, none, .mov (.s 64)⟩])
  (.seq (.reg [⟨some 66, none, .load true 4 (.s 2)⟩,
    ⟨some 67, none, .call 17 [(.s 66), (.c (.pure (.int .i64 0))), (.c (.pure (.int .i64 3))), (.c (.pure (.int .i64 0))), (.c (.pure (.int .i64 (-1))))]⟩,
    ⟨some 65, none, .mov (.s 67)⟩,
    ⟨some 68, none, .ext 0 (.s 65)⟩,
    ⟨some 69, none, .ext 1 (.s 65)⟩,
    ⟨some 9, none, .box (.c (.pure (.agg [(.int .i64 0), (.int .i64 0)])))⟩,
    ⟨none, none, .store 2 (.s 9) (.s 68)⟩,
    ⟨some 10, none, .mov (.s 69)⟩])
  (.seq (.reg [⟨some 70, none, .mov (.s 4)⟩,
    ⟨some 71, none, .mov (.s 70)⟩,
    ⟨some 72, some (71, true), .mov (.s 6)⟩,
    ⟨some 73, some (71, true), .un .not (.s 72)⟩,
    ⟨some 74, none, .pick (.s 71) (.s 73) (.c (.pure (.bool false)))⟩,
    ⟨some 75, none, .mov (.s 74)⟩,
    ⟨some 76, some (75, true), .mov (.s 3)⟩,
    ⟨some 77, some (75, true), .len (.s 76)⟩,
    ⟨some 78, some (75, true), .bin .eql (.s 77) (.c (.pure (.int .i64 2)))⟩,
    ⟨some 79, none, .pick (.s 75) (.s 78) (.c (.pure (.bool false)))⟩,
    ⟨some 80, none, .mov (.s 79)⟩,
    ⟨some 81, some (80, true), .mov (.s 3)⟩,
    ⟨some 82, some (80, true), .idxA 10 (.s 81) (.c (.pure (.int .i64 1)))⟩,
    ⟨some 83, some (80, true), .fldA 3 (.s 82)⟩,
    ⟨some 84, some (80, true), .load false 1 (.s 83)⟩,
    ⟨some 85, some (80, true), .bin .eql (.s 84) (.c (.pure (.int .i64 7)))⟩,
    ⟨some 86, none, .pick (.s 80) (.s 85) (.c (.pure (.bool false)))⟩,
    ⟨some 87, none, .mov (.s 86)⟩,
    ⟨some 88, some (87, true), .mov (.s 3)⟩,
    ⟨some 89, some (87, true), .idxA 10 (.s 88) (.c (.pure (.int .i64 1)))⟩,
    ⟨some 90, some (87, true), .fldA 4 (.s 89)⟩,
    ⟨some 91, some (87, true), .load false 1 (.s 90)⟩,
    ⟨some 92, some (87, true), .bin .eql (.s 91) (.c (.pure (.int .i64 16)))⟩,
    ⟨some 93, none, .pick (.s 87) (.s 92) (.c (.pure (.bool false)))⟩,
    ⟨some 94, none, .mov (.s 93)⟩,
    ⟨some 95, some (94, true), .mov (.s 3)⟩,
    ⟨some 96, some (94, true), .idxA 10 (.s 95) (.c (.pure (.int .i64 1)))⟩,
    ⟨some 97, some (94, true), .fldA 5 (.s 96)⟩,
    ⟨some 98, some (94, true), .load false 1 (.s 97)⟩,
    ⟨some 99, some (94, true), .bin .eql (.s 98) (.c (.pure (.int .i64 0)))⟩,
    ⟨some 100, none, .pick (.s 94) (.s 99) (.c (.pure (.bool false)))⟩,
    ⟨some 101, none, .mov (.s 100)⟩,
    ⟨some 102, some (101, true), .mov (.s 3)⟩,
    ⟨some 103, some (101, true), .idxA 10 (.s 102) (.c (.pure (.int .i64 1)))⟩,
    ⟨some 104, some (101, true), .fldA 2 (.s 103)⟩,
    ⟨some 105, some (101, true), .load false 1 (.s 104)⟩,
    ⟨some 106, some (101, true), .bin .eql (.s 105) (.c (.pure (.int .i64 0)))⟩,
    ⟨some 107, none, .pick (.s 101) (.s 106) (.c (.pure (.bool false)))⟩,
    ⟨some 108, none, .mov (.s 107)⟩,
    ⟨some 109, some (108, true), .fldA 0 (.s 7)⟩,
    ⟨some 110, some (108, true), .load false 1 (.s 109)⟩,
    ⟨some 111, some (108, true), .bin .eql (.s 110) (.c (.pure (.int .i64 5)))⟩,
    ⟨some 112, none, .pick (.s 108) (.s 111) (.c (.pure (.bool false)))⟩,
    ⟨some 113, none, .mov (.s 112)⟩,
    ⟨some 114, some (113, true), .mov (.s 8)⟩,
    ⟨some 115, none, .pick (.s 113) (.s 114) (.c (.pure (.bool false)))⟩,
    ⟨some 116, none, .mov (.s 115)⟩,
    ⟨some 117, some (116, true), .fldA 0 (.s 9)⟩,
    ⟨some 118, some (116, true), .load false 1 (.s 117)⟩,
    ⟨some 119, some (116, true), .bin .eql (.s 118) (.c (.pure (.int .i64 9)))⟩,
    ⟨some 120, none, .pick (.s 116) (.s 119) (.c (.pure (.bool false)))⟩,
    ⟨some 121, none, .mov (.s 120)⟩,
    ⟨some 122, some (121, true), .mov (.s 10)⟩,
    ⟨some 123, none, .pick (.s 121) (.s 122) (.c (.pure (.bool false)))⟩,
    ⟨some 0, none, .mov (.s 123)⟩])
  .ret))))))))))
theorem k14 : (Try.f14.body.bind fun c => cCode Try.prog Try.f14.ntmps RCs c) = some c14 := by kernel_rfl
theorem h14 : (Try.f14.name == "runtime.NumGoroutine") = false := by kernel_rfl
theorem r14 : resC Try.prog Try.f14.results.toList = some [.t 0] := by kernel_rfl
theorem a14 {args : List S} {H : Heap} {K : S → Heap → Prop} (hn : args.length ≤ 124) (h : aWx Try.prog H.length c14 (PostX [.t 0] K) (argEnv 0 args) H) : CallA Try.prog 14 args H K :=
  callA_of_x mixed Try.func14 h14 k14 r14 (by rw [Try.ntmps14]; exact hn) h
theorem q14 {vs ds : List V} (hn : vs.length ≤ 124) (h : aWx Try.prog 0 c14 (PostX [.t 0] (Gives ds)) (argEnv 0 (vs.map .pure)) []) : FnQ Try.prog 14 vs ds :=
  fnQ_of_call (a14 (by simpa using hn) h)

def freshG (g c : Int) : Gl := ⟨g, c, 0, 0, 0, -1, -1, 0, 0, 0⟩
theorem fresh_q (g c : Int) : FnQ Try.prog 45 [I g, I c] [gl (freshG g c)] := by
  refine q45 (by simp) ?_
  unfold c45
  simp -implicitDefEqProofs only [*, vmp,↓vmd,Env.get,putD,argEnv,List.map,x00,x01,x02,x03,x04,x05,x06,x07,List.take,List.drop,x08,x09,x0a,x0b,List.isEmpty,↓reduceIte,reduceCtorEq,Nat.reduceEqDiff,Nat.reduceAdd,Nat.reduceLeDiff,x0c,Int.reduceNeg,Nat.reduceMul,Nat.reduceSub,x0d,x0e,x0f,x0g,x0h,x0i,x0j,x0k,Int.reduceEq,Int.reduceLT,Int.reduceLE,Int.reduceToNat,Int.cast_ofNat_Int,List.reduceReplicate]
  exact gives_pure
def aF34 : Fo := ⟨I 10, [⟨0, 0, 0, .sl []⟩, ⟨9, 1, 0, .sl []⟩, ⟨5, 3, 0, .sl []⟩, ⟨9, 2, 0, .sl []⟩], .sl [], .sl [], .sl [], []⟩
def aK34 : Lk := ⟨9, 0, 0, [⟨[], [], [], [], [], [], [], [], [], [], [⟨2, 0, 3, 4⟩], [⟨1, [[⟨true, 10, 20⟩]]⟩]⟩]⟩
def bK34 : Lk := ⟨10, 0, 0, [⟨[], [], [], [], [], [], [], [], [], [], [⟨2, 0, 3, 4⟩], [⟨3, [[⟨true, 5, 0⟩], [⟨true, 9, 0⟩]]⟩]⟩]⟩
theorem a34_1 : markF aF34 aK34 [freshG 1 0, freshG 2 0] 1 = some [freshG 1 0, ⟨2, 0, 0, 7, 16, 0, -1, 0, 0, 0⟩] := by decide
theorem a34_2 : markF aF34 aK34 [freshG 1 0] 0 = none := by decide
theorem a34_3 : anchorF bK34 0 3 0 0 = some (5, 0) := by decide
theorem a34_4 : anchorF bK34 0 3 0 (-1) = some (9, 0) := by decide
theorem c34_1 : FnF Try.prog 20 [fo aF34, lk aK34, .sl ([freshG 1 0, freshG 2 0].map gl), I 1] [.sl [gl (freshG 1 0), gl ⟨2, 0, 0, 7, 16, 0, -1, 0, 0, 0⟩], .bool true] := by
  have h := apply34_f aF34 aK34 [freshG 1 0, freshG 2 0] (by decide) (by decide) 1
  rw [a34_1] at h
  exact h
theorem c34_2 : FnF Try.prog 20 [fo aF34, lk aK34, .sl ([freshG 1 0].map gl), I 0] [.sl [], .bool false] := by
  have h := apply34_f aF34 aK34 [freshG 1 0] (by decide) (by decide) 0
  rw [a34_2] at h
  exact h
theorem c34_3 : FnQ Try.prog 17 [lk bK34, I 0, I 3, I 0, I 0] [.agg [I 5, I 0], .bool true] := by
  have h := anchor_q bK34 (by decide) 0 3 0 0
  rw [a34_3] at h
  exact h
theorem c34_4 : FnQ Try.prog 17 [lk bK34, I 0, I 3, I 0, I (-1)] [.agg [I 9, I 0], .bool true] := by
  have h := anchor_q bK34 (by decide) 0 3 0 (-1)
  rw [a34_4] at h
  exact h
theorem alive34_q : FnQ Try.prog 14 [] [.bool true] := by
  refine q14 (by simp) ?_
  unfold c14
  simp -implicitDefEqProofs only [*, vmp,↓vmd,Env.get,putD,argEnv,List.map,x00,x01,x02,x03,x04,x05,x06,x07,List.take,List.drop,x08,x09,x0a,x0b,List.isEmpty,↓reduceIte,reduceCtorEq,Nat.reduceEqDiff,Nat.reduceAdd,Nat.reduceLeDiff,x0c,Int.reduceNeg,Nat.reduceMul,Nat.reduceSub,x0d,x0e,x0f,x0g,x0h,x0i,x0j,x0k,Int.reduceEq,Int.reduceLT,Int.reduceLE,Int.reduceToNat,Int.cast_ofNat_Int,List.reduceReplicate]
  refine onQ_q (fresh_q 1 0) rfl ?_
  first | refine envO (by simp -implicitDefEqProofs only [vmp,↓vmd,Env.get,putD,argEnv,List.map,x00,x01,x02,x03,x04,x05,x06,x07,List.take,List.drop,x08,x09,x0a,x0b,List.isEmpty,↓reduceIte,reduceCtorEq,Nat.reduceEqDiff,Nat.reduceAdd,Nat.reduceLeDiff,x0c,Int.reduceNeg,Nat.reduceMul,Nat.reduceSub,x0d,x0e,x0f,x0g,x0h,x0i,x0j,x0k,Int.reduceEq,Int.reduceLT,Int.reduceLE,Int.reduceToNat,Int.cast_ofNat_Int,List.reduceReplicate]; rfl) ?_ | refine envQ (by simp -implicitDefEqProofs only [vmp,↓vmd,Env.get,putD,argEnv,List.map,x00,x01,x02,x03,x04,x05,x06,x07,List.take,List.drop,x08,x09,x0a,x0b,List.isEmpty,↓reduceIte,reduceCtorEq,Nat.reduceEqDiff,Nat.reduceAdd,Nat.reduceLeDiff,x0c,Int.reduceNeg,Nat.reduceMul,Nat.reduceSub,x0d,x0e,x0f,x0g,x0h,x0i,x0j,x0k,Int.reduceEq,Int.reduceLT,Int.reduceLE,Int.reduceToNat,Int.cast_ofNat_Int,List.reduceReplicate]; rfl) ?_
  simp -implicitDefEqProofs only [vmp,↓vmd,Env.get,putD,argEnv,List.map,x00,x01,x02,x03,x04,x05,x06,x07,List.take,List.drop,x08,x09,x0a,x0b,List.isEmpty,↓reduceIte,reduceCtorEq,Nat.reduceEqDiff,Nat.reduceAdd,Nat.reduceLeDiff,x0c,Int.reduceNeg,Nat.reduceMul,Nat.reduceSub,x0d,x0e,x0f,x0g,x0h,x0i,x0j,x0k,Int.reduceEq,Int.reduceLT,Int.reduceLE,Int.reduceToNat,Int.cast_ofNat_Int,List.reduceReplicate]
  refine onQ_q (fresh_q 2 0) rfl ?_
  first | refine envO (by simp -implicitDefEqProofs only [vmp,↓vmd,Env.get,putD,argEnv,List.map,x00,x01,x02,x03,x04,x05,x06,x07,List.take,List.drop,x08,x09,x0a,x0b,List.isEmpty,↓reduceIte,reduceCtorEq,Nat.reduceEqDiff,Nat.reduceAdd,Nat.reduceLeDiff,x0c,Int.reduceNeg,Nat.reduceMul,Nat.reduceSub,x0d,x0e,x0f,x0g,x0h,x0i,x0j,x0k,Int.reduceEq,Int.reduceLT,Int.reduceLE,Int.reduceToNat,Int.cast_ofNat_Int,List.reduceReplicate]; rfl) ?_ | refine envQ (by simp -implicitDefEqProofs only [vmp,↓vmd,Env.get,putD,argEnv,List.map,x00,x01,x02,x03,x04,x05,x06,x07,List.take,List.drop,x08,x09,x0a,x0b,List.isEmpty,↓reduceIte,reduceCtorEq,Nat.reduceEqDiff,Nat.reduceAdd,Nat.reduceLeDiff,x0c,Int.reduceNeg,Nat.reduceMul,Nat.reduceSub,x0d,x0e,x0f,x0g,x0h,x0i,x0j,x0k,Int.reduceEq,Int.reduceLT,Int.reduceLE,Int.reduceToNat,Int.cast_ofNat_Int,List.reduceReplicate]; rfl) ?_
  simp -implicitDefEqProofs only [vmp,↓vmd,Env.get,putD,argEnv,List.map,x00,x01,x02,x03,x04,x05,x06,x07,List.take,List.drop,x08,x09,x0a,x0b,List.isEmpty,↓reduceIte,reduceCtorEq,Nat.reduceEqDiff,Nat.reduceAdd,Nat.reduceLeDiff,x0c,Int.reduceNeg,Nat.reduceMul,Nat.reduceSub,x0d,x0e,x0f,x0g,x0h,x0i,x0j,x0k,Int.reduceEq,Int.reduceLT,Int.reduceLE,Int.reduceToNat,Int.cast_ofNat_Int,List.reduceReplicate]
  refine onQ_f c34_1 rfl ?_
  first | refine envO (by simp -implicitDefEqProofs only [vmp,↓vmd,Env.get,putD,argEnv,List.map,x00,x01,x02,x03,x04,x05,x06,x07,List.take,List.drop,x08,x09,x0a,x0b,List.isEmpty,↓reduceIte,reduceCtorEq,Nat.reduceEqDiff,Nat.reduceAdd,Nat.reduceLeDiff,x0c,Int.reduceNeg,Nat.reduceMul,Nat.reduceSub,x0d,x0e,x0f,x0g,x0h,x0i,x0j,x0k,Int.reduceEq,Int.reduceLT,Int.reduceLE,Int.reduceToNat,Int.cast_ofNat_Int,List.reduceReplicate]; rfl) ?_ | refine envQ (by simp -implicitDefEqProofs only [vmp,↓vmd,Env.get,putD,argEnv,List.map,x00,x01,x02,x03,x04,x05,x06,x07,List.take,List.drop,x08,x09,x0a,x0b,List.isEmpty,↓reduceIte,reduceCtorEq,Nat.reduceEqDiff,Nat.reduceAdd,Nat.reduceLeDiff,x0c,Int.reduceNeg,Nat.reduceMul,Nat.reduceSub,x0d,x0e,x0f,x0g,x0h,x0i,x0j,x0k,Int.reduceEq,Int.reduceLT,Int.reduceLE,Int.reduceToNat,Int.cast_ofNat_Int,List.reduceReplicate]; rfl) ?_
  simp -implicitDefEqProofs only [vmp,↓vmd,Env.get,putD,argEnv,List.map,x00,x01,x02,x03,x04,x05,x06,x07,List.take,List.drop,x08,x09,x0a,x0b,List.isEmpty,↓reduceIte,reduceCtorEq,Nat.reduceEqDiff,Nat.reduceAdd,Nat.reduceLeDiff,x0c,Int.reduceNeg,Nat.reduceMul,Nat.reduceSub,x0d,x0e,x0f,x0g,x0h,x0i,x0j,x0k,Int.reduceEq,Int.reduceLT,Int.reduceLE,Int.reduceToNat,Int.cast_ofNat_Int,List.reduceReplicate]
  refine onQ_q (fresh_q 1 0) rfl ?_
  first | refine envO (by simp -implicitDefEqProofs only [vmp,↓vmd,Env.get,putD,argEnv,List.map,x00,x01,x02,x03,x04,x05,x06,x07,List.take,List.drop,x08,x09,x0a,x0b,List.isEmpty,↓reduceIte,reduceCtorEq,Nat.reduceEqDiff,Nat.reduceAdd,Nat.reduceLeDiff,x0c,Int.reduceNeg,Nat.reduceMul,Nat.reduceSub,x0d,x0e,x0f,x0g,x0h,x0i,x0j,x0k,Int.reduceEq,Int.reduceLT,Int.reduceLE,Int.reduceToNat,Int.cast_ofNat_Int,List.reduceReplicate]; rfl) ?_ | refine envQ (by simp -implicitDefEqProofs only [vmp,↓vmd,Env.get,putD,argEnv,List.map,x00,x01,x02,x03,x04,x05,x06,x07,List.take,List.drop,x08,x09,x0a,x0b,List.isEmpty,↓reduceIte,reduceCtorEq,Nat.reduceEqDiff,Nat.reduceAdd,Nat.reduceLeDiff,x0c,Int.reduceNeg,Nat.reduceMul,Nat.reduceSub,x0d,x0e,x0f,x0g,x0h,x0i,x0j,x0k,Int.reduceEq,Int.reduceLT,Int.reduceLE,Int.reduceToNat,Int.cast_ofNat_Int,List.reduceReplicate]; rfl) ?_
  simp -implicitDefEqProofs only [vmp,↓vmd,Env.get,putD,argEnv,List.map,x00,x01,x02,x03,x04,x05,x06,x07,List.take,List.drop,x08,x09,x0a,x0b,List.isEmpty,↓reduceIte,reduceCtorEq,Nat.reduceEqDiff,Nat.reduceAdd,Nat.reduceLeDiff,x0c,Int.reduceNeg,Nat.reduceMul,Nat.reduceSub,x0d,x0e,x0f,x0g,x0h,x0i,x0j,x0k,Int.reduceEq,Int.reduceLT,Int.reduceLE,Int.reduceToNat,Int.cast_ofNat_Int,List.reduceReplicate]
  refine onQ_f c34_2 rfl ?_
  first | refine envO (by simp -implicitDefEqProofs only [vmp,↓vmd,Env.get,putD,argEnv,List.map,x00,x01,x02,x03,x04,x05,x06,x07,List.take,List.drop,x08,x09,x0a,x0b,List.isEmpty,↓reduceIte,reduceCtorEq,Nat.reduceEqDiff,Nat.reduceAdd,Nat.reduceLeDiff,x0c,Int.reduceNeg,Nat.reduceMul,Nat.reduceSub,x0d,x0e,x0f,x0g,x0h,x0i,x0j,x0k,Int.reduceEq,Int.reduceLT,Int.reduceLE,Int.reduceToNat,Int.cast_ofNat_Int,List.reduceReplicate]; rfl) ?_ | refine envQ (by simp -implicitDefEqProofs only [vmp,↓vmd,Env.get,putD,argEnv,List.map,x00,x01,x02,x03,x04,x05,x06,x07,List.take,List.drop,x08,x09,x0a,x0b,List.isEmpty,↓reduceIte,reduceCtorEq,Nat.reduceEqDiff,Nat.reduceAdd,Nat.reduceLeDiff,x0c,Int.reduceNeg,Nat.reduceMul,Nat.reduceSub,x0d,x0e,x0f,x0g,x0h,x0i,x0j,x0k,Int.reduceEq,Int.reduceLT,Int.reduceLE,Int.reduceToNat,Int.cast_ofNat_Int,List.reduceReplicate]; rfl) ?_
  simp -implicitDefEqProofs only [vmp,↓vmd,Env.get,putD,argEnv,List.map,x00,x01,x02,x03,x04,x05,x06,x07,List.take,List.drop,x08,x09,x0a,x0b,List.isEmpty,↓reduceIte,reduceCtorEq,Nat.reduceEqDiff,Nat.reduceAdd,Nat.reduceLeDiff,x0c,Int.reduceNeg,Nat.reduceMul,Nat.reduceSub,x0d,x0e,x0f,x0g,x0h,x0i,x0j,x0k,Int.reduceEq,Int.reduceLT,Int.reduceLE,Int.reduceToNat,Int.cast_ofNat_Int,List.reduceReplicate]
  refine onC_r c34_3 rfl (by simp [V.flat, V.flat.V.flats]) ?_
  first | refine envO (by simp -implicitDefEqProofs only [vmp,↓vmd,Env.get,putD,argEnv,List.map,x00,x01,x02,x03,x04,x05,x06,x07,List.take,List.drop,x08,x09,x0a,x0b,List.isEmpty,↓reduceIte,reduceCtorEq,Nat.reduceEqDiff,Nat.reduceAdd,Nat.reduceLeDiff,x0c,Int.reduceNeg,Nat.reduceMul,Nat.reduceSub,x0d,x0e,x0f,x0g,x0h,x0i,x0j,x0k,Int.reduceEq,Int.reduceLT,Int.reduceLE,Int.reduceToNat,Int.cast_ofNat_Int,List.reduceReplicate]; rfl) ?_ | refine envQ (by simp -implicitDefEqProofs only [vmp,↓vmd,Env.get,putD,argEnv,List.map,x00,x01,x02,x03,x04,x05,x06,x07,List.take,List.drop,x08,x09,x0a,x0b,List.isEmpty,↓reduceIte,reduceCtorEq,Nat.reduceEqDiff,Nat.reduceAdd,Nat.reduceLeDiff,x0c,Int.reduceNeg,Nat.reduceMul,Nat.reduceSub,x0d,x0e,x0f,x0g,x0h,x0i,x0j,x0k,Int.reduceEq,Int.reduceLT,Int.reduceLE,Int.reduceToNat,Int.cast_ofNat_Int,List.reduceReplicate]; rfl) ?_
  simp -implicitDefEqProofs only [vmp,↓vmd,Env.get,putD,argEnv,List.map,x00,x01,x02,x03,x04,x05,x06,x07,List.take,List.drop,x08,x09,x0a,x0b,List.isEmpty,↓reduceIte,reduceCtorEq,Nat.reduceEqDiff,Nat.reduceAdd,Nat.reduceLeDiff,x0c,Int.reduceNeg,Nat.reduceMul,Nat.reduceSub,x0d,x0e,x0f,x0g,x0h,x0i,x0j,x0k,Int.reduceEq,Int.reduceLT,Int.reduceLE,Int.reduceToNat,Int.cast_ofNat_Int,List.reduceReplicate]
  refine onC_r c34_4 rfl (by simp [V.flat, V.flat.V.flats]) ?_
  first | refine envO (by simp -implicitDefEqProofs only [vmp,↓vmd,Env.get,putD,argEnv,List.map,x00,x01,x02,x03,x04,x05,x06,x07,List.take,List.drop,x08,x09,x0a,x0b,List.isEmpty,↓reduceIte,reduceCtorEq,Nat.reduceEqDiff,Nat.reduceAdd,Nat.reduceLeDiff,x0c,Int.reduceNeg,Nat.reduceMul,Nat.reduceSub,x0d,x0e,x0f,x0g,x0h,x0i,x0j,x0k,Int.reduceEq,Int.reduceLT,Int.reduceLE,Int.reduceToNat,Int.cast_ofNat_Int,List.reduceReplicate]; rfl) ?_ | refine envQ (by simp -implicitDefEqProofs only [vmp,↓vmd,Env.get,putD,argEnv,List.map,x00,x01,x02,x03,x04,x05,x06,x07,List.take,List.drop,x08,x09,x0a,x0b,List.isEmpty,↓reduceIte,reduceCtorEq,Nat.reduceEqDiff,Nat.reduceAdd,Nat.reduceLeDiff,x0c,Int.reduceNeg,Nat.reduceMul,Nat.reduceSub,x0d,x0e,x0f,x0g,x0h,x0i,x0j,x0k,Int.reduceEq,Int.reduceLT,Int.reduceLE,Int.reduceToNat,Int.cast_ofNat_Int,List.reduceReplicate]; rfl) ?_
  simp -implicitDefEqProofs only [vmp,↓vmd,Env.get,putD,argEnv,List.map,x00,x01,x02,x03,x04,x05,x06,x07,List.take,List.drop,x08,x09,x0a,x0b,List.isEmpty,↓reduceIte,reduceCtorEq,Nat.reduceEqDiff,Nat.reduceAdd,Nat.reduceLeDiff,x0c,Int.reduceNeg,Nat.reduceMul,Nat.reduceSub,x0d,x0e,x0f,x0g,x0h,x0i,x0j,x0k,Int.reduceEq,Int.reduceLT,Int.reduceLE,Int.reduceToNat,Int.cast_ofNat_Int,List.reduceReplicate]
  exact gives_pure
end Go.Proofs.Ytbllbkhkmngclaa.W
