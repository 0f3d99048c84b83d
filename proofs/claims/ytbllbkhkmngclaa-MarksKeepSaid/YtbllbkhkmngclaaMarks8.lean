/-
  The law MarksKeep: what its function does, for every input. No condition.
-/
import Derived.Test.YtbllbkhkmngclaaMarks7
import Derived.Test.YtbllbkhkmngclaaStops
namespace Go.Proofs.Ytbllbkhkmngclaa.W
open Go Go.Vm Go.Proofs
set_option maxRecDepth 100000
set_option linter.unusedSimpArgs false
set_option maxHeartbeats 4000000
/-! typecase/typecaselaw34.MarksKeep -/
def c6_0 : AC :=
  (.seq (.reg [⟨some 160, none, .load true 6 (.s 4)⟩,
    ⟨some 161, none, .load true 4 (.s 5)⟩,
    ⟨some 162, none, .mov (.s 2)⟩,
    ⟨some 163, none, .mov (.s 3)⟩,
    ⟨some 164, none, .call 15 [(.s 160), (.s 161), (.s 162), (.s 163)]⟩,
    ⟨some 159, none, .mov (.s 164)⟩,
    ⟨some 165, none, .ext 0 (.s 159)⟩,
    ⟨some 166, none, .ext 1 (.s 159)⟩,
    ⟨some 13, none, .mov (.s 165)⟩,
    ⟨some 14, none, .mov (.s 166)⟩])
  (.seq (.reg [⟨some 168, none, .load true 6 (.s 4)⟩,
    ⟨some 169, none, .load true 4 (.s 5)⟩,
    ⟨some 170, none, .mov (.s 9)⟩,
    ⟨some 171, none, .mov (.s 3)⟩,
    ⟨some 172, none, .call 20 [(.s 168), (.s 169), (.s 170), (.s 171)]⟩,
    ⟨some 167, none, .mov (.s 172)⟩,
    ⟨some 173, none, .ext 0 (.s 167)⟩,
    ⟨some 174, none, .ext 1 (.s 167)⟩,
    ⟨some 15, none, .mov (.s 173)⟩,
    ⟨some 16, none, .mov (.s 174)⟩])
  (.seq (.reg [⟨some 175, none, .mov (.s 14)⟩,
    ⟨some 176, none, .mov (.s 175)⟩,
    ⟨some 177, some (176, true), .mov (.s 9)⟩,
    ⟨some 178, some (176, true), .mov (.s 3)⟩,
    ⟨some 179, some (176, true), .idxA 10 (.s 177) (.s 178)⟩,
    ⟨some 180, some (176, true), .fldA 5 (.s 179)⟩,
    ⟨some 181, some (176, true), .load false 1 (.s 180)⟩,
    ⟨some 182, some (176, true), .mov (.s 13)⟩,
    ⟨some 183, some (176, true), .bin .eql (.s 181) (.s 182)⟩,
    ⟨some 184, none, .pick (.s 176) (.s 183) (.c (.pure (.bool false)))⟩,
    ⟨some 185, none, .mov (.s 184)⟩,
    ⟨some 186, some (185, true), .mov (.s 13)⟩,
    ⟨some 187, some (185, true), .bin .geq (.s 186) (.c (.pure (.int .i64 0)))⟩,
    ⟨some 188, none, .pick (.s 185) (.s 187) (.c (.pure (.bool false)))⟩,
    ⟨some 189, none, .mov (.s 188)⟩,
    ⟨some 190, some (189, true), .mov (.s 13)⟩,
    ⟨some 191, some (189, true), .mov (.s 3)⟩,
    ⟨some 192, some (189, true), .bin .lss (.s 190) (.s 191)⟩,
    ⟨some 193, none, .pick (.s 189) (.s 192) (.c (.pure (.bool false)))⟩,
    ⟨some 194, none, .mov (.s 193)⟩,
    ⟨some 195, some (194, true), .mov (.s 9)⟩,
    ⟨some 196, some (194, true), .mov (.s 3)⟩,
    ⟨some 197, some (194, true), .idxA 10 (.s 195) (.s 196)⟩,
    ⟨some 198, some (194, true), .fldA 2 (.s 197)⟩,
    ⟨some 199, some (194, true), .load false 1 (.s 198)⟩,
    ⟨some 200, some (194, true), .bin .eql (.s 199) (.c (.pure (.int .i64 0)))⟩,
    ⟨some 201, none, .pick (.s 194) (.s 200) (.c (.pure (.bool false)))⟩,
    ⟨some 202, none, .mov (.s 201)⟩,
    ⟨some 203, some (202, true), .mov (.s 9)⟩,
    ⟨some 204, some (202, true), .mov (.s 3)⟩,
    ⟨some 205, some (202, true), .idxA 10 (.s 203) (.s 204)⟩,
    ⟨some 206, some (202, true), .fldA 6 (.s 205)⟩,
    ⟨some 207, some (202, true), .load false 1 (.s 206)⟩,
    ⟨some 208, some (202, true), .bin .eql (.s 207) (.c (.pure (.int .i64 (-1))))⟩,
    ⟨some 209, none, .pick (.s 202) (.s 208) (.c (.pure (.bool false)))⟩,
    ⟨some 210, none, .mov (.s 209)⟩,
    ⟨some 211, some (210, true), .mov (.s 16)⟩,
    ⟨some 212, none, .pick (.s 210) (.s 211) (.c (.pure (.bool false)))⟩,
    ⟨some 213, none, .mov (.s 212)⟩,
    ⟨some 214, some (213, true), .mov (.s 9)⟩,
    ⟨some 215, some (213, true), .mov (.s 15)⟩,
    ⟨some 216, some (213, true), .call 22 [(.s 214), (.s 215)]⟩,
    ⟨some 217, none, .pick (.s 213) (.s 216) (.c (.pure (.bool false)))⟩,
    ⟨some 218, none, .mov (.s 217)⟩,
    ⟨some 219, some (218, true), .call 14 []⟩,
    ⟨some 220, none, .pick (.s 218) (.s 219) (.c (.pure (.bool false)))⟩,
    ⟨some 8, none, .mov (.s 220)⟩])
  .ret)))
def c6_1 : AC :=
  (.seq (.reg [⟨some 93, none, .bin .lss (.s 92) (.s 91)⟩])
  (.seq (.cond (.s 93)
  .skip
  (.exit 0))
  (.seq (.block 1
  (.seq (.reg [⟨some 94, none, .mov (.s 92)⟩,
    ⟨some 95, none, .idxA 10 (.s 90) (.s 92)⟩,
    ⟨some 96, none, .load true 10 (.s 95)⟩,
    ⟨some 12, none, .box (.c (.pure (.agg [(.int .i64 0), (.int .i64 0), (.int .i64 0), (.int .i64 0), (.int .i64 0), (.int .i64 0), (.int .i64 0), (.int .i64 0), (.int .i64 0), (.int .i64 0)])))⟩,
    ⟨some 11, none, .mov (.s 94)⟩,
    ⟨none, none, .store 10 (.s 12) (.s 96)⟩])
  (.seq (.regq [⟨some 97, none, .mov (.s 11)⟩,
    ⟨some 98, none, .mov (.s 3)⟩,
    ⟨some 99, none, .bin .neq (.s 97) (.s 98)⟩,
    ⟨some 100, none, .mov (.s 99)⟩,
    ⟨some 101, some (100, true), .mov (.s 9)⟩,
    ⟨some 102, some (100, true), .mov (.s 11)⟩,
    ⟨some 103, some (100, true), .idxA 10 (.s 101) (.s 102)⟩,
    ⟨some 104, some (100, true), .load true 10 (.s 103)⟩,
    ⟨some 105, some (100, true), .load true 10 (.s 12)⟩,
    ⟨some 106, some (100, true), .eqv true [.i, .i, .i, .i, .i, .i, .i, .i, .i, .i] (.s 104) (.s 105)⟩,
    ⟨some 107, none, .pick (.s 100) (.s 106) (.c (.pure (.bool false)))⟩,
    ⟨some 108, none, .mov (.s 107)⟩,
    ⟨some 109, some (108, false), .mov (.s 9)⟩,
    ⟨some 110, some (108, false), .mov (.s 11)⟩,
    ⟨some 111, some (108, false), .idxA 10 (.s 109) (.s 110)⟩,
    ⟨some 112, some (108, false), .fldA 0 (.s 111)⟩,
    ⟨some 113, some (108, false), .load false 1 (.s 112)⟩,
    ⟨some 114, some (108, false), .fldA 0 (.s 12)⟩,
    ⟨some 115, some (108, false), .load false 1 (.s 114)⟩,
    ⟨some 116, some (108, false), .bin .neq (.s 113) (.s 115)⟩,
    ⟨some 117, none, .pick (.s 108) (.c (.pure (.bool true))) (.s 116)⟩,
    ⟨some 118, none, .mov (.s 117)⟩,
    ⟨some 119, some (118, false), .mov (.s 9)⟩,
    ⟨some 120, some (118, false), .mov (.s 11)⟩,
    ⟨some 121, some (118, false), .idxA 10 (.s 119) (.s 120)⟩,
    ⟨some 122, some (118, false), .fldA 1 (.s 121)⟩,
    ⟨some 123, some (118, false), .load false 1 (.s 122)⟩,
    ⟨some 124, some (118, false), .fldA 1 (.s 12)⟩,
    ⟨some 125, some (118, false), .load false 1 (.s 124)⟩,
    ⟨some 126, some (118, false), .bin .neq (.s 123) (.s 125)⟩,
    ⟨some 127, none, .pick (.s 118) (.c (.pure (.bool true))) (.s 126)⟩,
    ⟨some 128, none, .mov (.s 127)⟩,
    ⟨some 129, some (128, false), .mov (.s 9)⟩,
    ⟨some 130, some (128, false), .mov (.s 11)⟩,
    ⟨some 131, some (128, false), .idxA 10 (.s 129) (.s 130)⟩,
    ⟨some 132, some (128, false), .fldA 9 (.s 131)⟩,
    ⟨some 133, some (128, false), .load false 1 (.s 132)⟩,
    ⟨some 134, some (128, false), .fldA 9 (.s 12)⟩,
    ⟨some 135, some (128, false), .load false 1 (.s 134)⟩,
    ⟨some 136, some (128, false), .bin .neq (.s 133) (.s 135)⟩,
    ⟨some 137, none, .pick (.s 128) (.c (.pure (.bool true))) (.s 136)⟩,
    ⟨some 138, none, .mov (.s 137)⟩,
    ⟨some 139, some (138, false), .mov (.s 9)⟩,
    ⟨some 140, some (138, false), .mov (.s 11)⟩,
    ⟨some 141, some (138, false), .idxA 10 (.s 139) (.s 140)⟩,
    ⟨some 142, some (138, false), .fldA 7 (.s 141)⟩,
    ⟨some 143, some (138, false), .load false 1 (.s 142)⟩,
    ⟨some 144, some (138, false), .fldA 7 (.s 12)⟩,
    ⟨some 145, some (138, false), .load false 1 (.s 144)⟩,
    ⟨some 146, some (138, false), .bin .neq (.s 143) (.s 145)⟩,
    ⟨some 147, none, .pick (.s 138) (.c (.pure (.bool true))) (.s 146)⟩,
    ⟨some 148, none, .mov (.s 147)⟩,
    ⟨some 149, some (148, false), .mov (.s 9)⟩,
    ⟨some 150, some (148, false), .mov (.s 11)⟩,
    ⟨some 151, some (148, false), .idxA 10 (.s 149) (.s 150)⟩,
    ⟨some 152, some (148, false), .fldA 8 (.s 151)⟩,
    ⟨some 153, some (148, false), .load false 1 (.s 152)⟩,
    ⟨some 154, some (148, false), .fldA 8 (.s 12)⟩,
    ⟨some 155, some (148, false), .load false 1 (.s 154)⟩]
    [⟨some 156, some (148, false), .bin .neq (.s 153) (.s 155)⟩,
    ⟨some 157, none, .pick (.s 148) (.c (.pure (.bool true))) (.s 156)⟩])
  (.cond (.s 157)
  (.seq (.reg [⟨some 8, none, .mov (.c (.pure (.bool false)))⟩])
  .ret)
  .skip))))
  (.reg [⟨some 158, none, .bin .add (.s 92) (.c (.pure (.int .i64 1)))⟩,
    ⟨some 92, none, .mov (.s 158)⟩]))))
def c6 : AC :=
  (.seq (.reg [⟨some 4, none, .box (.s 0)⟩,
    ⟨some 5, none, .box (.s 1)⟩,
    ⟨some 8, none, .mov (.c (.pure (.bool false)))⟩])
  (.seq (.seq (.reg [⟨some 17, none, .load true 4 (.s 5)⟩,
    ⟨some 18, none, .mov (.s 2)⟩,
    ⟨some 19, none, .call 13 [(.s 17), (.s 18)]⟩,
    ⟨some 20, none, .un .not (.s 19)⟩,
    ⟨some 21, none, .mov (.s 20)⟩,
    ⟨some 22, some (21, false), .load true 4 (.s 5)⟩,
    ⟨some 23, some (21, false), .call 19 [(.s 22)]⟩,
    ⟨some 24, some (21, false), .un .not (.s 23)⟩,
    ⟨some 25, none, .pick (.s 21) (.c (.pure (.bool true))) (.s 24)⟩])
  (.cond (.s 25)
  (.seq (.reg [⟨some 26, none, .call 14 []⟩,
    ⟨some 8, none, .mov (.s 26)⟩])
  .ret)
  .skip))
  (.seq (.reg [⟨some 28, none, .load true 6 (.s 4)⟩,
    ⟨some 29, none, .load true 4 (.s 5)⟩,
    ⟨some 30, none, .mov (.s 2)⟩,
    ⟨some 31, none, .mov (.s 3)⟩,
    ⟨some 32, none, .call 20 [(.s 28), (.s 29), (.s 30), (.s 31)]⟩,
    ⟨some 27, none, .mov (.s 32)⟩,
    ⟨some 33, none, .ext 0 (.s 27)⟩,
    ⟨some 34, none, .ext 1 (.s 27)⟩,
    ⟨some 9, none, .mov (.s 33)⟩,
    ⟨some 10, none, .mov (.s 34)⟩])
  (.seq (.seq (.reg [⟨some 35, none, .mov (.s 10)⟩,
    ⟨some 36, none, .un .not (.s 35)⟩])
  (.cond (.s 36)
  (.seq (.reg [⟨some 37, none, .mov (.s 9)⟩,
    ⟨some 38, none, .len (.s 37)⟩,
    ⟨some 39, none, .bin .eql (.s 38) (.c (.pure (.int .i64 0)))⟩,
    ⟨some 40, none, .mov (.s 39)⟩,
    ⟨some 41, some (40, true), .call 14 []⟩,
    ⟨some 42, none, .pick (.s 40) (.s 41) (.c (.pure (.bool false)))⟩,
    ⟨some 8, none, .mov (.s 42)⟩])
  .ret)
  .skip))
  (.seq (.seq (.regq [⟨some 43, none, .mov (.s 9)⟩,
    ⟨some 44, none, .len (.s 43)⟩,
    ⟨some 45, none, .mov (.s 2)⟩,
    ⟨some 46, none, .len (.s 45)⟩,
    ⟨some 47, none, .bin .neq (.s 44) (.s 46)⟩,
    ⟨some 48, none, .mov (.s 47)⟩,
    ⟨some 49, some (48, false), .mov (.s 3)⟩,
    ⟨some 50, some (48, false), .bin .lss (.s 49) (.c (.pure (.int .i64 0)))⟩,
    ⟨some 51, none, .pick (.s 48) (.c (.pure (.bool true))) (.s 50)⟩,
    ⟨some 52, none, .mov (.s 51)⟩,
    ⟨some 53, some (52, false), .mov (.s 3)⟩,
    ⟨some 54, some (52, false), .mov (.s 2)⟩,
    ⟨some 55, some (52, false), .len (.s 54)⟩,
    ⟨some 56, some (52, false), .bin .geq (.s 53) (.s 55)⟩,
    ⟨some 57, none, .pick (.s 52) (.c (.pure (.bool true))) (.s 56)⟩,
    ⟨some 58, none, .mov (.s 57)⟩,
    ⟨some 59, some (58, false), .mov (.s 2)⟩,
    ⟨some 60, some (58, false), .mov (.s 3)⟩,
    ⟨some 61, some (58, false), .idxA 10 (.s 59) (.s 60)⟩,
    ⟨some 62, some (58, false), .fldA 0 (.s 61)⟩,
    ⟨some 63, some (58, false), .load false 1 (.s 62)⟩,
    ⟨some 64, some (58, false), .bin .lss (.s 63) (.c (.pure (.int .i64 0)))⟩,
    ⟨some 65, none, .pick (.s 58) (.c (.pure (.bool true))) (.s 64)⟩,
    ⟨some 66, none, .mov (.s 65)⟩,
    ⟨some 67, some (66, false), .mov (.s 2)⟩,
    ⟨some 68, some (66, false), .mov (.s 3)⟩,
    ⟨some 69, some (66, false), .idxA 10 (.s 67) (.s 68)⟩,
    ⟨some 70, some (66, false), .fldA 0 (.s 69)⟩,
    ⟨some 71, some (66, false), .load false 1 (.s 70)⟩,
    ⟨some 72, some (66, false), .fldA 1 (.s 4)⟩,
    ⟨some 73, some (66, false), .load false 1 (.s 72)⟩,
    ⟨some 74, some (66, false), .len (.s 73)⟩,
    ⟨some 75, some (66, false), .bin .geq (.s 71) (.s 74)⟩,
    ⟨some 76, none, .pick (.s 66) (.c (.pure (.bool true))) (.s 75)⟩,
    ⟨some 77, none, .mov (.s 76)⟩,
    ⟨some 78, some (77, false), .fldA 1 (.s 4)⟩,
    ⟨some 79, some (77, false), .load false 1 (.s 78)⟩,
    ⟨some 80, some (77, false), .mov (.s 2)⟩,
    ⟨some 81, some (77, false), .mov (.s 3)⟩,
    ⟨some 82, some (77, false), .idxA 10 (.s 80) (.s 81)⟩,
    ⟨some 83, some (77, false), .fldA 0 (.s 82)⟩,
    ⟨some 84, some (77, false), .load false 1 (.s 83)⟩]
    [⟨some 85, some (77, false), .idxA 4 (.s 79) (.s 84)⟩,
    ⟨some 86, some (77, false), .fldA 1 (.s 85)⟩,
    ⟨some 87, some (77, false), .load false 1 (.s 86)⟩,
    ⟨some 88, some (77, false), .bin .neq (.s 87) (.c (.pure (.int .i64 3)))⟩,
    ⟨some 89, none, .pick (.s 77) (.c (.pure (.bool true))) (.s 88)⟩])
  (.cond (.s 89)
  (.seq (.reg [⟨some 8, none, .mov (.c (.pure (.bool false)))⟩])
  .ret)
  .skip))
  (.seq (.seq (.reg [⟨some 90, none, .mov (.s 2)⟩,
    ⟨some 91, none, .len (.s 90)⟩,
    ⟨some 92, none, .mov (.c (.pure (.int .i64 0)))⟩])
  (.block 0
  (.loop c6_1)))
  c6_0))))))
theorem k6 : (Try.f6.body.bind fun c => cCode Try.prog Try.f6.ntmps RCs c) = some c6 := by kernel_rfl
theorem h6 : (Try.f6.name == "runtime.NumGoroutine") = false := by kernel_rfl
theorem r6 : resC Try.prog Try.f6.results.toList = some [.t 8] := by kernel_rfl
theorem a6 {args : List S} {H : Heap} {K : S → Heap → Prop} (hn : args.length ≤ 221) (h : aWx Try.prog H.length c6 (PostX [.t 8] K) (argEnv 0 args) H) : CallA Try.prog 6 args H K :=
  callA_of_x mixed Try.func6 h6 k6 r6 (by rw [Try.ntmps6]; exact hn) h
theorem q6 {vs ds : List V} (hn : vs.length ≤ 221) (h : aWx Try.prog 0 c6 (PostX [.t 8] (Gives ds)) (argEnv 0 (vs.map .pure)) []) : FnQ Try.prog 6 vs ds :=
  fnQ_of_call (a6 (by simpa using hn) h)

theorem markF_some {f : Fo} {k : Lk} {ls a : List Gl} {y : Int} (h : markF f k ls y = some a) : ∃ p m q, hostF f k ls y = some p ∧ a = ls.set y.toNat (hangG (glAt ls y) m q p) := by
  rw [markF] at h
  split at h
  · cases h
  · rename_i p hp
    split at h
    · cases h
    · rename_i q hq
      cases h
      exact ⟨p, q.1, q.2, hp, rfl⟩
theorem kAt_in {f : Fo} {ls : List Gl} {y : Int} (h : kAt f ls y = 3) : 0 ≤ (glAt ls y).id ∧ (glAt ls y).id < f.gs.length ∧ ∃ i, f.gs[(glAt ls y).id.toNat]? = some i ∧ i.kind = 3 := by
  rw [kAt, infoF] at h
  split at h
  · simp at h
  · rename_i hc
    refine ⟨by omega, by omega, f.gs[(glAt ls y).id.toNat]'(by omega), List.getElem?_eq_getElem (by omega), ?_⟩
    rw [List.getD_eq_getElem?_getD, List.getElem?_eq_getElem (by omega)] at h
    exact h
theorem mk_law (f : Fo) (k : Lk) (ls : List Gl) (y : Int) : FnQ Try.prog 6 [fo f, lk k, .sl (ls.map gl), I y] [.bool true] := by
  refine q6 (by simp) ?_
  unfold c6
  have hlt := lightM_of (k := k) (n := (ls.map gl).length)
  simp -implicitDefEqProofs only [*, vmp,↓vmd,Env.get,putD,argEnv,List.map,x00,x01,x02,x03,x04,x05,x06,x07,List.take,List.drop,x08,x09,x0a,x0b,List.isEmpty,↓reduceIte,reduceCtorEq,Nat.reduceEqDiff,Nat.reduceAdd,Nat.reduceLeDiff,x0c,Int.reduceNeg,Nat.reduceMul,Nat.reduceSub,x0d,x0e,x0f,x0g,x0h,x0i,x0j,x0k,Int.reduceEq,Int.reduceLT,Int.reduceLE,Int.reduceToNat,Int.cast_ofNat_Int,List.reduceReplicate]
  refine onC_q (lightm_q k (ls.map gl)) rfl ?_
  generalize lightM k (ls.map gl).length = b at hlt
  rw [List.length_map] at hlt
  first | refine envO (by simp -implicitDefEqProofs only [vmp,↓vmd,Env.get,putD,argEnv,List.map,x00,x01,x02,x03,x04,x05,x06,x07,List.take,List.drop,x08,x09,x0a,x0b,List.isEmpty,↓reduceIte,reduceCtorEq,Nat.reduceEqDiff,Nat.reduceAdd,Nat.reduceLeDiff,x0c,Int.reduceNeg,Nat.reduceMul,Nat.reduceSub,x0d,x0e,x0f,x0g,x0h,x0i,x0j,x0k,Int.reduceEq,Int.reduceLT,Int.reduceLE,Int.reduceToNat,Int.cast_ofNat_Int,List.reduceReplicate]; rfl) ?_ | refine envQ (by simp -implicitDefEqProofs only [vmp,↓vmd,Env.get,putD,argEnv,List.map,x00,x01,x02,x03,x04,x05,x06,x07,List.take,List.drop,x08,x09,x0a,x0b,List.isEmpty,↓reduceIte,reduceCtorEq,Nat.reduceEqDiff,Nat.reduceAdd,Nat.reduceLeDiff,x0c,Int.reduceNeg,Nat.reduceMul,Nat.reduceSub,x0d,x0e,x0f,x0g,x0h,x0i,x0j,x0k,Int.reduceEq,Int.reduceLT,Int.reduceLE,Int.reduceToNat,Int.cast_ofNat_Int,List.reduceReplicate]; rfl) ?_
  simp -implicitDefEqProofs only [vmp,↓vmd,Env.get,putD,argEnv,List.map,x00,x01,x02,x03,x04,x05,x06,x07,List.take,List.drop,x08,x09,x0a,x0b,List.isEmpty,↓reduceIte,reduceCtorEq,Nat.reduceEqDiff,Nat.reduceAdd,Nat.reduceLeDiff,x0c,Int.reduceNeg,Nat.reduceMul,Nat.reduceSub,x0d,x0e,x0f,x0g,x0h,x0i,x0j,x0k,Int.reduceEq,Int.reduceLT,Int.reduceLE,Int.reduceToNat,Int.cast_ofNat_Int,List.reduceReplicate]
  cases b with
  | false =>
    simp -implicitDefEqProofs only [vmp,↓vmd,Env.get,putD,argEnv,List.map,x00,x01,x02,x03,x04,x05,x06,x07,List.take,List.drop,x08,x09,x0a,x0b,List.isEmpty,↓reduceIte,reduceCtorEq,Nat.reduceEqDiff,Nat.reduceAdd,Nat.reduceLeDiff,x0c,Int.reduceNeg,Nat.reduceMul,Nat.reduceSub,x0d,x0e,x0f,x0g,x0h,x0i,x0j,x0k,Int.reduceEq,Int.reduceLT,Int.reduceLE,Int.reduceToNat,Int.cast_ofNat_Int,List.reduceReplicate]
    refine onC_q alive34_q rfl ?_
    first | refine envO (by simp -implicitDefEqProofs only [vmp,↓vmd,Env.get,putD,argEnv,List.map,x00,x01,x02,x03,x04,x05,x06,x07,List.take,List.drop,x08,x09,x0a,x0b,List.isEmpty,↓reduceIte,reduceCtorEq,Nat.reduceEqDiff,Nat.reduceAdd,Nat.reduceLeDiff,x0c,Int.reduceNeg,Nat.reduceMul,Nat.reduceSub,x0d,x0e,x0f,x0g,x0h,x0i,x0j,x0k,Int.reduceEq,Int.reduceLT,Int.reduceLE,Int.reduceToNat,Int.cast_ofNat_Int,List.reduceReplicate]; rfl) ?_ | refine envQ (by simp -implicitDefEqProofs only [vmp,↓vmd,Env.get,putD,argEnv,List.map,x00,x01,x02,x03,x04,x05,x06,x07,List.take,List.drop,x08,x09,x0a,x0b,List.isEmpty,↓reduceIte,reduceCtorEq,Nat.reduceEqDiff,Nat.reduceAdd,Nat.reduceLeDiff,x0c,Int.reduceNeg,Nat.reduceMul,Nat.reduceSub,x0d,x0e,x0f,x0g,x0h,x0i,x0j,x0k,Int.reduceEq,Int.reduceLT,Int.reduceLE,Int.reduceToNat,Int.cast_ofNat_Int,List.reduceReplicate]; rfl) ?_
    simp -implicitDefEqProofs only [vmp,↓vmd,Env.get,putD,argEnv,List.map,x00,x01,x02,x03,x04,x05,x06,x07,List.take,List.drop,x08,x09,x0a,x0b,List.isEmpty,↓reduceIte,reduceCtorEq,Nat.reduceEqDiff,Nat.reduceAdd,Nat.reduceLeDiff,x0c,Int.reduceNeg,Nat.reduceMul,Nat.reduceSub,x0d,x0e,x0f,x0g,x0h,x0i,x0j,x0k,Int.reduceEq,Int.reduceLT,Int.reduceLE,Int.reduceToNat,Int.cast_ofNat_Int,List.reduceReplicate]
    exact gives_pure
  | true =>
    obtain ⟨g1, g2, g3⟩ := hlt rfl
    simp -implicitDefEqProofs only [vmp,↓vmd,Env.get,putD,argEnv,List.map,x00,x01,x02,x03,x04,x05,x06,x07,List.take,List.drop,x08,x09,x0a,x0b,List.isEmpty,↓reduceIte,reduceCtorEq,Nat.reduceEqDiff,Nat.reduceAdd,Nat.reduceLeDiff,x0c,Int.reduceNeg,Nat.reduceMul,Nat.reduceSub,x0d,x0e,x0f,x0g,x0h,x0i,x0j,x0k,Int.reduceEq,Int.reduceLT,Int.reduceLE,Int.reduceToNat,Int.cast_ofNat_Int,List.reduceReplicate]
    refine onC_q (near_q k g3 g2) rfl ?_
    generalize nearM k = b2
    first | refine envO (by simp -implicitDefEqProofs only [vmp,↓vmd,Env.get,putD,argEnv,List.map,x00,x01,x02,x03,x04,x05,x06,x07,List.take,List.drop,x08,x09,x0a,x0b,List.isEmpty,↓reduceIte,reduceCtorEq,Nat.reduceEqDiff,Nat.reduceAdd,Nat.reduceLeDiff,x0c,Int.reduceNeg,Nat.reduceMul,Nat.reduceSub,x0d,x0e,x0f,x0g,x0h,x0i,x0j,x0k,Int.reduceEq,Int.reduceLT,Int.reduceLE,Int.reduceToNat,Int.cast_ofNat_Int,List.reduceReplicate]; rfl) ?_ | refine envQ (by simp -implicitDefEqProofs only [vmp,↓vmd,Env.get,putD,argEnv,List.map,x00,x01,x02,x03,x04,x05,x06,x07,List.take,List.drop,x08,x09,x0a,x0b,List.isEmpty,↓reduceIte,reduceCtorEq,Nat.reduceEqDiff,Nat.reduceAdd,Nat.reduceLeDiff,x0c,Int.reduceNeg,Nat.reduceMul,Nat.reduceSub,x0d,x0e,x0f,x0g,x0h,x0i,x0j,x0k,Int.reduceEq,Int.reduceLT,Int.reduceLE,Int.reduceToNat,Int.cast_ofNat_Int,List.reduceReplicate]; rfl) ?_
    simp -implicitDefEqProofs only [vmp,↓vmd,Env.get,putD,argEnv,List.map,x00,x01,x02,x03,x04,x05,x06,x07,List.take,List.drop,x08,x09,x0a,x0b,List.isEmpty,↓reduceIte,reduceCtorEq,Nat.reduceEqDiff,Nat.reduceAdd,Nat.reduceLeDiff,x0c,Int.reduceNeg,Nat.reduceMul,Nat.reduceSub,x0d,x0e,x0f,x0g,x0h,x0i,x0j,x0k,Int.reduceEq,Int.reduceLT,Int.reduceLE,Int.reduceToNat,Int.cast_ofNat_Int,List.reduceReplicate]
    cases b2 with
    | false =>
      simp -implicitDefEqProofs only [vmp,↓vmd,Env.get,putD,argEnv,List.map,x00,x01,x02,x03,x04,x05,x06,x07,List.take,List.drop,x08,x09,x0a,x0b,List.isEmpty,↓reduceIte,reduceCtorEq,Nat.reduceEqDiff,Nat.reduceAdd,Nat.reduceLeDiff,x0c,Int.reduceNeg,Nat.reduceMul,Nat.reduceSub,x0d,x0e,x0f,x0g,x0h,x0i,x0j,x0k,Int.reduceEq,Int.reduceLT,Int.reduceLE,Int.reduceToNat,Int.cast_ofNat_Int,List.reduceReplicate]
      refine onC_q alive34_q rfl ?_
      first | refine envO (by simp -implicitDefEqProofs only [vmp,↓vmd,Env.get,putD,argEnv,List.map,x00,x01,x02,x03,x04,x05,x06,x07,List.take,List.drop,x08,x09,x0a,x0b,List.isEmpty,↓reduceIte,reduceCtorEq,Nat.reduceEqDiff,Nat.reduceAdd,Nat.reduceLeDiff,x0c,Int.reduceNeg,Nat.reduceMul,Nat.reduceSub,x0d,x0e,x0f,x0g,x0h,x0i,x0j,x0k,Int.reduceEq,Int.reduceLT,Int.reduceLE,Int.reduceToNat,Int.cast_ofNat_Int,List.reduceReplicate]; rfl) ?_ | refine envQ (by simp -implicitDefEqProofs only [vmp,↓vmd,Env.get,putD,argEnv,List.map,x00,x01,x02,x03,x04,x05,x06,x07,List.take,List.drop,x08,x09,x0a,x0b,List.isEmpty,↓reduceIte,reduceCtorEq,Nat.reduceEqDiff,Nat.reduceAdd,Nat.reduceLeDiff,x0c,Int.reduceNeg,Nat.reduceMul,Nat.reduceSub,x0d,x0e,x0f,x0g,x0h,x0i,x0j,x0k,Int.reduceEq,Int.reduceLT,Int.reduceLE,Int.reduceToNat,Int.cast_ofNat_Int,List.reduceReplicate]; rfl) ?_
      simp -implicitDefEqProofs only [vmp,↓vmd,Env.get,putD,argEnv,List.map,x00,x01,x02,x03,x04,x05,x06,x07,List.take,List.drop,x08,x09,x0a,x0b,List.isEmpty,↓reduceIte,reduceCtorEq,Nat.reduceEqDiff,Nat.reduceAdd,Nat.reduceLeDiff,x0c,Int.reduceNeg,Nat.reduceMul,Nat.reduceSub,x0d,x0e,x0f,x0g,x0h,x0i,x0j,x0k,Int.reduceEq,Int.reduceLT,Int.reduceLE,Int.reduceToNat,Int.cast_ofNat_Int,List.reduceReplicate]
      exact gives_pure
    | true =>
      simp -implicitDefEqProofs only [vmp,↓vmd,Env.get,putD,argEnv,List.map,x00,x01,x02,x03,x04,x05,x06,x07,List.take,List.drop,x08,x09,x0a,x0b,List.isEmpty,↓reduceIte,reduceCtorEq,Nat.reduceEqDiff,Nat.reduceAdd,Nat.reduceLeDiff,x0c,Int.reduceNeg,Nat.reduceMul,Nat.reduceSub,x0d,x0e,x0f,x0g,x0h,x0i,x0j,x0k,Int.reduceEq,Int.reduceLT,Int.reduceLE,Int.reduceToNat,Int.cast_ofNat_Int,List.reduceReplicate]
      have hsm : ∀ s ∈ k.subs, s.marks.length ≤ 1000 ∧ s.hosts.length ≤ 1000 := fun s h => by have := g3 s h; omega
      have h1 := apply34_q f k ls (by omega) hsm y
      have hms := @markF_some f k ls
      have hmt := @markF_twice f k ls
      generalize ho : markF f k ls y = o at *
      refine onC_q h1 rfl ?_
      cases o with
      | none =>
        first | refine envO (by simp -implicitDefEqProofs only [vmp,↓vmd,Env.get,putD,argEnv,List.map,x00,x01,x02,x03,x04,x05,x06,x07,List.take,List.drop,x08,x09,x0a,x0b,List.isEmpty,↓reduceIte,reduceCtorEq,Nat.reduceEqDiff,Nat.reduceAdd,Nat.reduceLeDiff,x0c,Int.reduceNeg,Nat.reduceMul,Nat.reduceSub,x0d,x0e,x0f,x0g,x0h,x0i,x0j,x0k,Int.reduceEq,Int.reduceLT,Int.reduceLE,Int.reduceToNat,Int.cast_ofNat_Int,List.reduceReplicate]; rfl) ?_ | refine envQ (by simp -implicitDefEqProofs only [vmp,↓vmd,Env.get,putD,argEnv,List.map,x00,x01,x02,x03,x04,x05,x06,x07,List.take,List.drop,x08,x09,x0a,x0b,List.isEmpty,↓reduceIte,reduceCtorEq,Nat.reduceEqDiff,Nat.reduceAdd,Nat.reduceLeDiff,x0c,Int.reduceNeg,Nat.reduceMul,Nat.reduceSub,x0d,x0e,x0f,x0g,x0h,x0i,x0j,x0k,Int.reduceEq,Int.reduceLT,Int.reduceLE,Int.reduceToNat,Int.cast_ofNat_Int,List.reduceReplicate]; rfl) ?_
        simp -implicitDefEqProofs only [mR, Option.getD_none, Option.isSome_none, vmp,↓vmd,Env.get,putD,argEnv,List.map,x00,x01,x02,x03,x04,x05,x06,x07,List.take,List.drop,x08,x09,x0a,x0b,List.isEmpty,↓reduceIte,reduceCtorEq,Nat.reduceEqDiff,Nat.reduceAdd,Nat.reduceLeDiff,x0c,Int.reduceNeg,Nat.reduceMul,Nat.reduceSub,x0d,x0e,x0f,x0g,x0h,x0i,x0j,x0k,Int.reduceEq,Int.reduceLT,Int.reduceLE,Int.reduceToNat,Int.cast_ofNat_Int,List.reduceReplicate]
        refine onC_q alive34_q rfl ?_
        first | refine envO (by simp -implicitDefEqProofs only [vmp,↓vmd,Env.get,putD,argEnv,List.map,x00,x01,x02,x03,x04,x05,x06,x07,List.take,List.drop,x08,x09,x0a,x0b,List.isEmpty,↓reduceIte,reduceCtorEq,Nat.reduceEqDiff,Nat.reduceAdd,Nat.reduceLeDiff,x0c,Int.reduceNeg,Nat.reduceMul,Nat.reduceSub,x0d,x0e,x0f,x0g,x0h,x0i,x0j,x0k,Int.reduceEq,Int.reduceLT,Int.reduceLE,Int.reduceToNat,Int.cast_ofNat_Int,List.reduceReplicate]; rfl) ?_ | refine envQ (by simp -implicitDefEqProofs only [vmp,↓vmd,Env.get,putD,argEnv,List.map,x00,x01,x02,x03,x04,x05,x06,x07,List.take,List.drop,x08,x09,x0a,x0b,List.isEmpty,↓reduceIte,reduceCtorEq,Nat.reduceEqDiff,Nat.reduceAdd,Nat.reduceLeDiff,x0c,Int.reduceNeg,Nat.reduceMul,Nat.reduceSub,x0d,x0e,x0f,x0g,x0h,x0i,x0j,x0k,Int.reduceEq,Int.reduceLT,Int.reduceLE,Int.reduceToNat,Int.cast_ofNat_Int,List.reduceReplicate]; rfl) ?_
        simp -implicitDefEqProofs only [vmp,↓vmd,Env.get,putD,argEnv,List.map,x00,x01,x02,x03,x04,x05,x06,x07,List.take,List.drop,x08,x09,x0a,x0b,List.isEmpty,↓reduceIte,reduceCtorEq,Nat.reduceEqDiff,Nat.reduceAdd,Nat.reduceLeDiff,x0c,Int.reduceNeg,Nat.reduceMul,Nat.reduceSub,x0d,x0e,x0f,x0g,x0h,x0i,x0j,x0k,Int.reduceEq,Int.reduceLT,Int.reduceLE,Int.reduceToNat,Int.cast_ofNat_Int,List.reduceReplicate]
        exact gives_pure
      | some a =>
        obtain ⟨p, m, q, hp, ha⟩ := hms ho
        obtain ⟨ht, hh⟩ := hmt ho
        have hin := hostF_in hp
        obtain ⟨y0, y1, k3, p0, p1⟩ := hin
        obtain ⟨i0, i1, i, hi, hi3⟩ := kAt_in k3
        have hal : a.length = ls.length := by rw [ha, List.length_set]
        have hinf : (f.gs.map inf)[(glAt ls y).id.toNat]? = some (inf i) := by rw [List.getElem?_map, hi]; rfl
        have hgy := glAt_map y0 y1
        have e1 : glAt a y = hangG (glAt ls y) m q p := by rw [ha, glAt_set, if_pos ⟨rfl, by omega⟩]
        have hga : (a.map gl)[y.toNat]? = some (gl (hangG (glAt ls y) m q p)) := by rw [← e1]; exact glAt_map y0 (by rw [hal]; exact y1)
        have hal' : (a.length : Int) = ls.length := by omega
        have n1 : ¬ y < 0 := by omega
        have n2 : ¬ (ls.length : Int) ≤ y := by omega
        have n3 : ¬ (glAt ls y).id < 0 := by omega
        have n4 : ¬ (f.gs.length : Int) ≤ (glAt ls y).id := by omega
        first | refine envO (by simp -implicitDefEqProofs only [vmp,↓vmd,Env.get,putD,argEnv,List.map,x00,x01,x02,x03,x04,x05,x06,x07,List.take,List.drop,x08,x09,x0a,x0b,List.isEmpty,↓reduceIte,reduceCtorEq,Nat.reduceEqDiff,Nat.reduceAdd,Nat.reduceLeDiff,x0c,Int.reduceNeg,Nat.reduceMul,Nat.reduceSub,x0d,x0e,x0f,x0g,x0h,x0i,x0j,x0k,Int.reduceEq,Int.reduceLT,Int.reduceLE,Int.reduceToNat,Int.cast_ofNat_Int,List.reduceReplicate]; rfl) ?_ | refine envQ (by simp -implicitDefEqProofs only [vmp,↓vmd,Env.get,putD,argEnv,List.map,x00,x01,x02,x03,x04,x05,x06,x07,List.take,List.drop,x08,x09,x0a,x0b,List.isEmpty,↓reduceIte,reduceCtorEq,Nat.reduceEqDiff,Nat.reduceAdd,Nat.reduceLeDiff,x0c,Int.reduceNeg,Nat.reduceMul,Nat.reduceSub,x0d,x0e,x0f,x0g,x0h,x0i,x0j,x0k,Int.reduceEq,Int.reduceLT,Int.reduceLE,Int.reduceToNat,Int.cast_ofNat_Int,List.reduceReplicate]; rfl) ?_
        simp -implicitDefEqProofs only [mR, Option.getD_some, Option.isSome_some, vmp,↓vmd,Env.get,putD,argEnv,List.map,x00,x01,x02,x03,x04,x05,x06,x07,List.take,List.drop,x08,x09,x0a,x0b,List.isEmpty,↓reduceIte,reduceCtorEq,Nat.reduceEqDiff,Nat.reduceAdd,Nat.reduceLeDiff,x0c,Int.reduceNeg,Nat.reduceMul,Nat.reduceSub,x0d,x0e,x0f,x0g,x0h,x0i,x0j,x0k,Int.reduceEq,Int.reduceLT,Int.reduceLE,Int.reduceToNat,Int.cast_ofNat_Int,List.reduceReplicate]
        refine onB_neg (fun h => h hal') ?_
        first | refine envO (by simp -implicitDefEqProofs only [hal', vmp,↓vmd,Env.get,putD,argEnv,List.map,x00,x01,x02,x03,x04,x05,x06,x07,List.take,List.drop,x08,x09,x0a,x0b,List.isEmpty,↓reduceIte,reduceCtorEq,Nat.reduceEqDiff,Nat.reduceAdd,Nat.reduceLeDiff,x0c,Int.reduceNeg,Nat.reduceMul,Nat.reduceSub,x0d,x0e,x0f,x0g,x0h,x0i,x0j,x0k,Int.reduceEq,Int.reduceLT,Int.reduceLE,Int.reduceToNat,Int.cast_ofNat_Int,List.reduceReplicate]; rfl) ?_ | refine envQ (by simp -implicitDefEqProofs only [hal', vmp,↓vmd,Env.get,putD,argEnv,List.map,x00,x01,x02,x03,x04,x05,x06,x07,List.take,List.drop,x08,x09,x0a,x0b,List.isEmpty,↓reduceIte,reduceCtorEq,Nat.reduceEqDiff,Nat.reduceAdd,Nat.reduceLeDiff,x0c,Int.reduceNeg,Nat.reduceMul,Nat.reduceSub,x0d,x0e,x0f,x0g,x0h,x0i,x0j,x0k,Int.reduceEq,Int.reduceLT,Int.reduceLE,Int.reduceToNat,Int.cast_ofNat_Int,List.reduceReplicate]; rfl) ?_
        simp -implicitDefEqProofs only [vmp,↓vmd,Env.get,putD,argEnv,List.map,x00,x01,x02,x03,x04,x05,x06,x07,List.take,List.drop,x08,x09,x0a,x0b,List.isEmpty,↓reduceIte,reduceCtorEq,Nat.reduceEqDiff,Nat.reduceAdd,Nat.reduceLeDiff,x0c,Int.reduceNeg,Nat.reduceMul,Nat.reduceSub,x0d,x0e,x0f,x0g,x0h,x0i,x0j,x0k,Int.reduceEq,Int.reduceLT,Int.reduceLE,Int.reduceToNat,Int.cast_ofNat_Int,List.reduceReplicate]
        refine onB_neg n1 ?_
        first | refine envO (by simp -implicitDefEqProofs only [n1, vmp,↓vmd,Env.get,putD,argEnv,List.map,x00,x01,x02,x03,x04,x05,x06,x07,List.take,List.drop,x08,x09,x0a,x0b,List.isEmpty,↓reduceIte,reduceCtorEq,Nat.reduceEqDiff,Nat.reduceAdd,Nat.reduceLeDiff,x0c,Int.reduceNeg,Nat.reduceMul,Nat.reduceSub,x0d,x0e,x0f,x0g,x0h,x0i,x0j,x0k,Int.reduceEq,Int.reduceLT,Int.reduceLE,Int.reduceToNat,Int.cast_ofNat_Int,List.reduceReplicate]; rfl) ?_ | refine envQ (by simp -implicitDefEqProofs only [n1, vmp,↓vmd,Env.get,putD,argEnv,List.map,x00,x01,x02,x03,x04,x05,x06,x07,List.take,List.drop,x08,x09,x0a,x0b,List.isEmpty,↓reduceIte,reduceCtorEq,Nat.reduceEqDiff,Nat.reduceAdd,Nat.reduceLeDiff,x0c,Int.reduceNeg,Nat.reduceMul,Nat.reduceSub,x0d,x0e,x0f,x0g,x0h,x0i,x0j,x0k,Int.reduceEq,Int.reduceLT,Int.reduceLE,Int.reduceToNat,Int.cast_ofNat_Int,List.reduceReplicate]; rfl) ?_
        simp -implicitDefEqProofs only [vmp,↓vmd,Env.get,putD,argEnv,List.map,x00,x01,x02,x03,x04,x05,x06,x07,List.take,List.drop,x08,x09,x0a,x0b,List.isEmpty,↓reduceIte,reduceCtorEq,Nat.reduceEqDiff,Nat.reduceAdd,Nat.reduceLeDiff,x0c,Int.reduceNeg,Nat.reduceMul,Nat.reduceSub,x0d,x0e,x0f,x0g,x0h,x0i,x0j,x0k,Int.reduceEq,Int.reduceLT,Int.reduceLE,Int.reduceToNat,Int.cast_ofNat_Int,List.reduceReplicate]
        refine onB_neg n2 ?_
        first | refine envO (by simp -implicitDefEqProofs only [n2, vmp,↓vmd,Env.get,putD,argEnv,List.map,x00,x01,x02,x03,x04,x05,x06,x07,List.take,List.drop,x08,x09,x0a,x0b,List.isEmpty,↓reduceIte,reduceCtorEq,Nat.reduceEqDiff,Nat.reduceAdd,Nat.reduceLeDiff,x0c,Int.reduceNeg,Nat.reduceMul,Nat.reduceSub,x0d,x0e,x0f,x0g,x0h,x0i,x0j,x0k,Int.reduceEq,Int.reduceLT,Int.reduceLE,Int.reduceToNat,Int.cast_ofNat_Int,List.reduceReplicate]; rfl) ?_ | refine envQ (by simp -implicitDefEqProofs only [n2, vmp,↓vmd,Env.get,putD,argEnv,List.map,x00,x01,x02,x03,x04,x05,x06,x07,List.take,List.drop,x08,x09,x0a,x0b,List.isEmpty,↓reduceIte,reduceCtorEq,Nat.reduceEqDiff,Nat.reduceAdd,Nat.reduceLeDiff,x0c,Int.reduceNeg,Nat.reduceMul,Nat.reduceSub,x0d,x0e,x0f,x0g,x0h,x0i,x0j,x0k,Int.reduceEq,Int.reduceLT,Int.reduceLE,Int.reduceToNat,Int.cast_ofNat_Int,List.reduceReplicate]; rfl) ?_
        simp -implicitDefEqProofs only [y0, hgy, vmp,↓vmd,Env.get,putD,argEnv,List.map,x00,x01,x02,x03,x04,x05,x06,x07,List.take,List.drop,x08,x09,x0a,x0b,List.isEmpty,↓reduceIte,reduceCtorEq,Nat.reduceEqDiff,Nat.reduceAdd,Nat.reduceLeDiff,x0c,Int.reduceNeg,Nat.reduceMul,Nat.reduceSub,x0d,x0e,x0f,x0g,x0h,x0i,x0j,x0k,Int.reduceEq,Int.reduceLT,Int.reduceLE,Int.reduceToNat,Int.cast_ofNat_Int,List.reduceReplicate]
        refine onB_neg n3 ?_
        first | refine envO (by simp -implicitDefEqProofs only [n3, vmp,↓vmd,Env.get,putD,argEnv,List.map,x00,x01,x02,x03,x04,x05,x06,x07,List.take,List.drop,x08,x09,x0a,x0b,List.isEmpty,↓reduceIte,reduceCtorEq,Nat.reduceEqDiff,Nat.reduceAdd,Nat.reduceLeDiff,x0c,Int.reduceNeg,Nat.reduceMul,Nat.reduceSub,x0d,x0e,x0f,x0g,x0h,x0i,x0j,x0k,Int.reduceEq,Int.reduceLT,Int.reduceLE,Int.reduceToNat,Int.cast_ofNat_Int,List.reduceReplicate]; rfl) ?_ | refine envQ (by simp -implicitDefEqProofs only [n3, vmp,↓vmd,Env.get,putD,argEnv,List.map,x00,x01,x02,x03,x04,x05,x06,x07,List.take,List.drop,x08,x09,x0a,x0b,List.isEmpty,↓reduceIte,reduceCtorEq,Nat.reduceEqDiff,Nat.reduceAdd,Nat.reduceLeDiff,x0c,Int.reduceNeg,Nat.reduceMul,Nat.reduceSub,x0d,x0e,x0f,x0g,x0h,x0i,x0j,x0k,Int.reduceEq,Int.reduceLT,Int.reduceLE,Int.reduceToNat,Int.cast_ofNat_Int,List.reduceReplicate]; rfl) ?_
        simp -implicitDefEqProofs only [y0, hgy, vmp,↓vmd,Env.get,putD,argEnv,List.map,x00,x01,x02,x03,x04,x05,x06,x07,List.take,List.drop,x08,x09,x0a,x0b,List.isEmpty,↓reduceIte,reduceCtorEq,Nat.reduceEqDiff,Nat.reduceAdd,Nat.reduceLeDiff,x0c,Int.reduceNeg,Nat.reduceMul,Nat.reduceSub,x0d,x0e,x0f,x0g,x0h,x0i,x0j,x0k,Int.reduceEq,Int.reduceLT,Int.reduceLE,Int.reduceToNat,Int.cast_ofNat_Int,List.reduceReplicate]
        refine onB_neg n4 ?_
        first | refine envO (by simp -implicitDefEqProofs only [n4, vmp,↓vmd,Env.get,putD,argEnv,List.map,x00,x01,x02,x03,x04,x05,x06,x07,List.take,List.drop,x08,x09,x0a,x0b,List.isEmpty,↓reduceIte,reduceCtorEq,Nat.reduceEqDiff,Nat.reduceAdd,Nat.reduceLeDiff,x0c,Int.reduceNeg,Nat.reduceMul,Nat.reduceSub,x0d,x0e,x0f,x0g,x0h,x0i,x0j,x0k,Int.reduceEq,Int.reduceLT,Int.reduceLE,Int.reduceToNat,Int.cast_ofNat_Int,List.reduceReplicate]; rfl) ?_ | refine envQ (by simp -implicitDefEqProofs only [n4, vmp,↓vmd,Env.get,putD,argEnv,List.map,x00,x01,x02,x03,x04,x05,x06,x07,List.take,List.drop,x08,x09,x0a,x0b,List.isEmpty,↓reduceIte,reduceCtorEq,Nat.reduceEqDiff,Nat.reduceAdd,Nat.reduceLeDiff,x0c,Int.reduceNeg,Nat.reduceMul,Nat.reduceSub,x0d,x0e,x0f,x0g,x0h,x0i,x0j,x0k,Int.reduceEq,Int.reduceLT,Int.reduceLE,Int.reduceToNat,Int.cast_ofNat_Int,List.reduceReplicate]; rfl) ?_
        simp -implicitDefEqProofs only [y0, hgy, i0, hinf, vmp,↓vmd,Env.get,putD,argEnv,List.map,x00,x01,x02,x03,x04,x05,x06,x07,List.take,List.drop,x08,x09,x0a,x0b,List.isEmpty,↓reduceIte,reduceCtorEq,Nat.reduceEqDiff,Nat.reduceAdd,Nat.reduceLeDiff,x0c,Int.reduceNeg,Nat.reduceMul,Nat.reduceSub,x0d,x0e,x0f,x0g,x0h,x0i,x0j,x0k,Int.reduceEq,Int.reduceLT,Int.reduceLE,Int.reduceToNat,Int.cast_ofNat_Int,List.reduceReplicate]
        refine onB_neg (fun h => h hi3) ?_
        first | refine envO (by simp -implicitDefEqProofs only [hi3, vmp,↓vmd,Env.get,putD,argEnv,List.map,x00,x01,x02,x03,x04,x05,x06,x07,List.take,List.drop,x08,x09,x0a,x0b,List.isEmpty,↓reduceIte,reduceCtorEq,Nat.reduceEqDiff,Nat.reduceAdd,Nat.reduceLeDiff,x0c,Int.reduceNeg,Nat.reduceMul,Nat.reduceSub,x0d,x0e,x0f,x0g,x0h,x0i,x0j,x0k,Int.reduceEq,Int.reduceLT,Int.reduceLE,Int.reduceToNat,Int.cast_ofNat_Int,List.reduceReplicate]; rfl) ?_ | refine envQ (by simp -implicitDefEqProofs only [hi3, vmp,↓vmd,Env.get,putD,argEnv,List.map,x00,x01,x02,x03,x04,x05,x06,x07,List.take,List.drop,x08,x09,x0a,x0b,List.isEmpty,↓reduceIte,reduceCtorEq,Nat.reduceEqDiff,Nat.reduceAdd,Nat.reduceLeDiff,x0c,Int.reduceNeg,Nat.reduceMul,Nat.reduceSub,x0d,x0e,x0f,x0g,x0h,x0i,x0j,x0k,Int.reduceEq,Int.reduceLT,Int.reduceLE,Int.reduceToNat,Int.cast_ofNat_Int,List.reduceReplicate]; rfl) ?_
        simp -implicitDefEqProofs only [vmp,↓vmd,Env.get,putD,argEnv,List.map,x00,x01,x02,x03,x04,x05,x06,x07,List.take,List.drop,x08,x09,x0a,x0b,List.isEmpty,↓reduceIte,reduceCtorEq,Nat.reduceEqDiff,Nat.reduceAdd,Nat.reduceLeDiff,x0c,Int.reduceNeg,Nat.reduceMul,Nat.reduceSub,x0d,x0e,x0f,x0g,x0h,x0i,x0j,x0k,Int.reduceEq,Int.reduceLT,Int.reduceLE,Int.reduceToNat,Int.cast_ofNat_Int,List.reduceReplicate]
        refine onIf_intro fun _ => ?_
        first | refine envO (by simp -implicitDefEqProofs only [vmp,↓vmd,Env.get,putD,argEnv,List.map,x00,x01,x02,x03,x04,x05,x06,x07,List.take,List.drop,x08,x09,x0a,x0b,List.isEmpty,↓reduceIte,reduceCtorEq,Nat.reduceEqDiff,Nat.reduceAdd,Nat.reduceLeDiff,x0c,Int.reduceNeg,Nat.reduceMul,Nat.reduceSub,x0d,x0e,x0f,x0g,x0h,x0i,x0j,x0k,Int.reduceEq,Int.reduceLT,Int.reduceLE,Int.reduceToNat,Int.cast_ofNat_Int,List.reduceReplicate]; rfl) ?_ | refine envQ (by simp -implicitDefEqProofs only [vmp,↓vmd,Env.get,putD,argEnv,List.map,x00,x01,x02,x03,x04,x05,x06,x07,List.take,List.drop,x08,x09,x0a,x0b,List.isEmpty,↓reduceIte,reduceCtorEq,Nat.reduceEqDiff,Nat.reduceAdd,Nat.reduceLeDiff,x0c,Int.reduceNeg,Nat.reduceMul,Nat.reduceSub,x0d,x0e,x0f,x0g,x0h,x0i,x0j,x0k,Int.reduceEq,Int.reduceLT,Int.reduceLE,Int.reduceToNat,Int.cast_ofNat_Int,List.reduceReplicate]; rfl) ?_
        simp -implicitDefEqProofs only [vmp,↓vmd,Env.get,putD,argEnv,List.map,x00,x01,x02,x03,x04,x05,x06,x07,List.take,List.drop,x08,x09,x0a,x0b,List.isEmpty,↓reduceIte,reduceCtorEq,Nat.reduceEqDiff,Nat.reduceAdd,Nat.reduceLeDiff,x0c,Int.reduceNeg,Nat.reduceMul,Nat.reduceSub,x0d,x0e,x0f,x0g,x0h,x0i,x0j,x0k,Int.reduceEq,Int.reduceLT,Int.reduceLE,Int.reduceToNat,Int.cast_ofNat_Int,List.reduceReplicate]
        refine loop_at (T := Nat) (fun j => [(92, .pure (I j)), (91, .pure (I ls.length)), (90, .pure (.sl (ls.map gl))), (2, .pure (.sl (ls.map gl))), (3, .pure (I y)), (4, .ptr 0 0 0), (5, .ptr 1 0 0), (9, .pure (.sl (a.map gl)))])
          (fun _ => [⟨[.pure (fo f)], 6, .live⟩, ⟨[.pure (lk k)], 4, .live⟩]) (fun j => j ≤ ls.length) (fun j => ls.length - j)
          0 [0, 1] (by simp) rfl (by simp) (by simp -implicitDefEqProofs only [kpp,Env.get,x01,x00,x02,x03,List.map,x08,x09,↓reduceIte,reduceCtorEq,Nat.reduceEqDiff,Nat.reduceLeDiff,Nat.reduceLT,Nat.reduceAdd,x0j,x0l,x0m,x0n,x0o,Int.cast_ofNat_Int,x0p,x0i,x07,x06,x0q,x0r,x0s,x0t,x0d,x0u]) (by simp -implicitDefEqProofs only [kpp,Env.get,x01,x00,x02,x03,List.map,x08,x09,↓reduceIte,reduceCtorEq,Nat.reduceEqDiff,Nat.reduceLeDiff,Nat.reduceLT,Nat.reduceAdd,x0j,x0l,x0m,x0n,x0o,Int.cast_ofNat_Int,x0p,x0i,x07,x06,x0q,x0r,x0s,x0t,x0d,x0u]) ?_
        intro j hj
        unfold c6_1
        simp -implicitDefEqProofs only [vmp,↓vmd,Env.get,putD,argEnv,List.map,x00,x01,x02,x03,x04,x05,x06,x07,List.take,List.drop,x08,x09,x0a,x0b,List.isEmpty,↓reduceIte,reduceCtorEq,Nat.reduceEqDiff,Nat.reduceAdd,Nat.reduceLeDiff,x0c,Int.reduceNeg,Nat.reduceMul,Nat.reduceSub,x0d,x0e,x0f,x0g,x0h,x0i,x0j,x0k,Int.reduceEq,Int.reduceLT,Int.reduceLE,Int.reduceToNat,Int.cast_ofNat_Int,List.reduceReplicate]
        refine onB_dec (fun h5 => ?_) (fun h5 => ?_)
        · have hlt' : j < ls.length := by omega
          have hlj : (ls.map gl)[j]? = some (gl (glAt ls (j : Int))) := glAt_map (ls := ls) (y := (j : Int)) (by omega) h5
          have haj : (a.map gl)[j]? = some (gl (glAt a (j : Int))) := glAt_map (ls := a) (y := (j : Int)) (by omega) (by omega)
          by_cases hjy : (j : Int) = y
          · have e3 : glAt a (j : Int) = hangG (glAt ls (j : Int)) m q p := by rw [hjy, e1]
            rw [e3] at haj
            simp -implicitDefEqProofs only [h5, hlj, Int.natCast_nonneg, vmp,↓vmd,Env.get,putD,argEnv,List.map,x00,x01,x02,x03,x04,x05,x06,x07,List.take,List.drop,x08,x09,x0a,x0b,List.isEmpty,↓reduceIte,reduceCtorEq,Nat.reduceEqDiff,Nat.reduceAdd,Nat.reduceLeDiff,x0c,Int.reduceNeg,Nat.reduceMul,Nat.reduceSub,x0d,x0e,x0f,x0g,x0h,x0i,x0j,x0k,Int.reduceEq,Int.reduceLT,Int.reduceLE,Int.reduceToNat,Int.cast_ofNat_Int,List.reduceReplicate]
            have hjn : decide (¬ (j : Int) = y) = false := by simp [hjy]
            refine onB_neg (fun h => h hjy) ?_
            first | refine envO (by simp -implicitDefEqProofs only [hjn, vmp,↓vmd,Env.get,putD,argEnv,List.map,x00,x01,x02,x03,x04,x05,x06,x07,List.take,List.drop,x08,x09,x0a,x0b,List.isEmpty,↓reduceIte,reduceCtorEq,Nat.reduceEqDiff,Nat.reduceAdd,Nat.reduceLeDiff,x0c,Int.reduceNeg,Nat.reduceMul,Nat.reduceSub,x0d,x0e,x0f,x0g,x0h,x0i,x0j,x0k,Int.reduceEq,Int.reduceLT,Int.reduceLE,Int.reduceToNat,Int.cast_ofNat_Int,List.reduceReplicate]; rfl) ?_ | refine envQ (by simp -implicitDefEqProofs only [hjn, vmp,↓vmd,Env.get,putD,argEnv,List.map,x00,x01,x02,x03,x04,x05,x06,x07,List.take,List.drop,x08,x09,x0a,x0b,List.isEmpty,↓reduceIte,reduceCtorEq,Nat.reduceEqDiff,Nat.reduceAdd,Nat.reduceLeDiff,x0c,Int.reduceNeg,Nat.reduceMul,Nat.reduceSub,x0d,x0e,x0f,x0g,x0h,x0i,x0j,x0k,Int.reduceEq,Int.reduceLT,Int.reduceLE,Int.reduceToNat,Int.cast_ofNat_Int,List.reduceReplicate]; rfl) ?_
            simp -implicitDefEqProofs only [haj, Int.natCast_nonneg, hangG, vmp,↓vmd,Env.get,putD,argEnv,List.map,x00,x01,x02,x03,x04,x05,x06,x07,List.take,List.drop,x08,x09,x0a,x0b,List.isEmpty,↓reduceIte,reduceCtorEq,Nat.reduceEqDiff,Nat.reduceAdd,Nat.reduceLeDiff,x0c,Int.reduceNeg,Nat.reduceMul,Nat.reduceSub,x0d,x0e,x0f,x0g,x0h,x0i,x0j,x0k,Int.reduceEq,Int.reduceLT,Int.reduceLE,Int.reduceToNat,Int.cast_ofNat_Int,List.reduceReplicate]
            refine onBk_to (j + 1) [0, 1] (by simp) rfl (by omega) hlt' (by simp -implicitDefEqProofs only [next_at hlt' (by omega), kpp,Env.get,x01,x00,x02,x03,List.map,x08,x09,↓reduceIte,reduceCtorEq,Nat.reduceEqDiff,Nat.reduceLeDiff,Nat.reduceLT,Nat.reduceAdd,x0j,x0l,x0m,x0n,x0o,Int.cast_ofNat_Int,x0p,x0i,x07,x06,x0q,x0r,x0s,x0t,x0d,x0u]) (by simp -implicitDefEqProofs only [kpp,Env.get,x01,x00,x02,x03,List.map,x08,x09,↓reduceIte,reduceCtorEq,Nat.reduceEqDiff,Nat.reduceLeDiff,Nat.reduceLT,Nat.reduceAdd,x0j,x0l,x0m,x0n,x0o,Int.cast_ofNat_Int,x0p,x0i,x07,x06,x0q,x0r,x0s,x0t,x0d,x0u])
          · have e3 : glAt a (j : Int) = glAt ls (j : Int) := by rw [ha, glAt_set, if_neg (by omega)]
            rw [e3] at haj
            simp -implicitDefEqProofs only [h5, hlj, Int.natCast_nonneg, vmp,↓vmd,Env.get,putD,argEnv,List.map,x00,x01,x02,x03,x04,x05,x06,x07,List.take,List.drop,x08,x09,x0a,x0b,List.isEmpty,↓reduceIte,reduceCtorEq,Nat.reduceEqDiff,Nat.reduceAdd,Nat.reduceLeDiff,x0c,Int.reduceNeg,Nat.reduceMul,Nat.reduceSub,x0d,x0e,x0f,x0g,x0h,x0i,x0j,x0k,Int.reduceEq,Int.reduceLT,Int.reduceLE,Int.reduceToNat,Int.cast_ofNat_Int,List.reduceReplicate]
            refine onB_pos hjy ?_
            first | refine envO (by simp -implicitDefEqProofs only [hjy, vmp,↓vmd,Env.get,putD,argEnv,List.map,x00,x01,x02,x03,x04,x05,x06,x07,List.take,List.drop,x08,x09,x0a,x0b,List.isEmpty,↓reduceIte,reduceCtorEq,Nat.reduceEqDiff,Nat.reduceAdd,Nat.reduceLeDiff,x0c,Int.reduceNeg,Nat.reduceMul,Nat.reduceSub,x0d,x0e,x0f,x0g,x0h,x0i,x0j,x0k,Int.reduceEq,Int.reduceLT,Int.reduceLE,Int.reduceToNat,Int.cast_ofNat_Int,List.reduceReplicate]; rfl) ?_ | refine envQ (by simp -implicitDefEqProofs only [hjy, vmp,↓vmd,Env.get,putD,argEnv,List.map,x00,x01,x02,x03,x04,x05,x06,x07,List.take,List.drop,x08,x09,x0a,x0b,List.isEmpty,↓reduceIte,reduceCtorEq,Nat.reduceEqDiff,Nat.reduceAdd,Nat.reduceLeDiff,x0c,Int.reduceNeg,Nat.reduceMul,Nat.reduceSub,x0d,x0e,x0f,x0g,x0h,x0i,x0j,x0k,Int.reduceEq,Int.reduceLT,Int.reduceLE,Int.reduceToNat,Int.cast_ofNat_Int,List.reduceReplicate]; rfl) ?_
            simp -implicitDefEqProofs only [haj, Int.natCast_nonneg, vmp,↓vmd,Env.get,putD,argEnv,List.map,x00,x01,x02,x03,x04,x05,x06,x07,List.take,List.drop,x08,x09,x0a,x0b,List.isEmpty,↓reduceIte,reduceCtorEq,Nat.reduceEqDiff,Nat.reduceAdd,Nat.reduceLeDiff,x0c,Int.reduceNeg,Nat.reduceMul,Nat.reduceSub,x0d,x0e,x0f,x0g,x0h,x0i,x0j,x0k,Int.reduceEq,Int.reduceLT,Int.reduceLE,Int.reduceToNat,Int.cast_ofNat_Int,List.reduceReplicate]
            refine onBk_to (j + 1) [0, 1] (by simp) rfl (by omega) hlt' (by simp -implicitDefEqProofs only [next_at hlt' (by omega), kpp,Env.get,x01,x00,x02,x03,List.map,x08,x09,↓reduceIte,reduceCtorEq,Nat.reduceEqDiff,Nat.reduceLeDiff,Nat.reduceLT,Nat.reduceAdd,x0j,x0l,x0m,x0n,x0o,Int.cast_ofNat_Int,x0p,x0i,x07,x06,x0q,x0r,x0s,x0t,x0d,x0u]) (by simp -implicitDefEqProofs only [kpp,Env.get,x01,x00,x02,x03,List.map,x08,x09,↓reduceIte,reduceCtorEq,Nat.reduceEqDiff,Nat.reduceLeDiff,Nat.reduceLT,Nat.reduceAdd,x0j,x0l,x0m,x0n,x0o,Int.cast_ofNat_Int,x0p,x0i,x07,x06,x0q,x0r,x0s,x0t,x0d,x0u])
        · simp -implicitDefEqProofs only [h5, vmp,↓vmd,Env.get,putD,argEnv,List.map,x00,x01,x02,x03,x04,x05,x06,x07,List.take,List.drop,x08,x09,x0a,x0b,List.isEmpty,↓reduceIte,reduceCtorEq,Nat.reduceEqDiff,Nat.reduceAdd,Nat.reduceLeDiff,x0c,Int.reduceNeg,Nat.reduceMul,Nat.reduceSub,x0d,x0e,x0f,x0g,x0h,x0i,x0j,x0k,Int.reduceEq,Int.reduceLT,Int.reduceLE,Int.reduceToNat,Int.cast_ofNat_Int,List.reduceReplicate]
          unfold c6_0
          simp -implicitDefEqProofs only [vmp,↓vmd,Env.get,putD,argEnv,List.map,x00,x01,x02,x03,x04,x05,x06,x07,List.take,List.drop,x08,x09,x0a,x0b,List.isEmpty,↓reduceIte,reduceCtorEq,Nat.reduceEqDiff,Nat.reduceAdd,Nat.reduceLeDiff,x0c,Int.reduceNeg,Nat.reduceMul,Nat.reduceSub,x0d,x0e,x0f,x0g,x0h,x0i,x0j,x0k,Int.reduceEq,Int.reduceLT,Int.reduceLE,Int.reduceToNat,Int.cast_ofNat_Int,List.reduceReplicate]
          have h2 := host_q f k ls (by omega) y
          rw [hp] at h2
          have h3 := apply34_q f k a (by omega) hsm y
          rw [ht] at h3
          have hx0 : 0 ≤ p := p0
          refine onC_q h2 rfl ?_
          first | refine envO (by simp -implicitDefEqProofs only [vmp,↓vmd,Env.get,putD,argEnv,List.map,x00,x01,x02,x03,x04,x05,x06,x07,List.take,List.drop,x08,x09,x0a,x0b,List.isEmpty,↓reduceIte,reduceCtorEq,Nat.reduceEqDiff,Nat.reduceAdd,Nat.reduceLeDiff,x0c,Int.reduceNeg,Nat.reduceMul,Nat.reduceSub,x0d,x0e,x0f,x0g,x0h,x0i,x0j,x0k,Int.reduceEq,Int.reduceLT,Int.reduceLE,Int.reduceToNat,Int.cast_ofNat_Int,List.reduceReplicate]; rfl) ?_ | refine envQ (by simp -implicitDefEqProofs only [vmp,↓vmd,Env.get,putD,argEnv,List.map,x00,x01,x02,x03,x04,x05,x06,x07,List.take,List.drop,x08,x09,x0a,x0b,List.isEmpty,↓reduceIte,reduceCtorEq,Nat.reduceEqDiff,Nat.reduceAdd,Nat.reduceLeDiff,x0c,Int.reduceNeg,Nat.reduceMul,Nat.reduceSub,x0d,x0e,x0f,x0g,x0h,x0i,x0j,x0k,Int.reduceEq,Int.reduceLT,Int.reduceLE,Int.reduceToNat,Int.cast_ofNat_Int,List.reduceReplicate]; rfl) ?_
          simp -implicitDefEqProofs only [hostR, Option.getD_some, Option.isSome_some, vmp,↓vmd,Env.get,putD,argEnv,List.map,x00,x01,x02,x03,x04,x05,x06,x07,List.take,List.drop,x08,x09,x0a,x0b,List.isEmpty,↓reduceIte,reduceCtorEq,Nat.reduceEqDiff,Nat.reduceAdd,Nat.reduceLeDiff,x0c,Int.reduceNeg,Nat.reduceMul,Nat.reduceSub,x0d,x0e,x0f,x0g,x0h,x0i,x0j,x0k,Int.reduceEq,Int.reduceLT,Int.reduceLE,Int.reduceToNat,Int.cast_ofNat_Int,List.reduceReplicate]
          refine onC_q h3 rfl ?_
          first | refine envO (by simp -implicitDefEqProofs only [vmp,↓vmd,Env.get,putD,argEnv,List.map,x00,x01,x02,x03,x04,x05,x06,x07,List.take,List.drop,x08,x09,x0a,x0b,List.isEmpty,↓reduceIte,reduceCtorEq,Nat.reduceEqDiff,Nat.reduceAdd,Nat.reduceLeDiff,x0c,Int.reduceNeg,Nat.reduceMul,Nat.reduceSub,x0d,x0e,x0f,x0g,x0h,x0i,x0j,x0k,Int.reduceEq,Int.reduceLT,Int.reduceLE,Int.reduceToNat,Int.cast_ofNat_Int,List.reduceReplicate]; rfl) ?_ | refine envQ (by simp -implicitDefEqProofs only [vmp,↓vmd,Env.get,putD,argEnv,List.map,x00,x01,x02,x03,x04,x05,x06,x07,List.take,List.drop,x08,x09,x0a,x0b,List.isEmpty,↓reduceIte,reduceCtorEq,Nat.reduceEqDiff,Nat.reduceAdd,Nat.reduceLeDiff,x0c,Int.reduceNeg,Nat.reduceMul,Nat.reduceSub,x0d,x0e,x0f,x0g,x0h,x0i,x0j,x0k,Int.reduceEq,Int.reduceLT,Int.reduceLE,Int.reduceToNat,Int.cast_ofNat_Int,List.reduceReplicate]; rfl) ?_
          simp -implicitDefEqProofs only [mR, Option.getD_some, Option.isSome_some, y0, hga, hangG, vmp,↓vmd,Env.get,putD,argEnv,List.map,x00,x01,x02,x03,x04,x05,x06,x07,List.take,List.drop,x08,x09,x0a,x0b,List.isEmpty,↓reduceIte,reduceCtorEq,Nat.reduceEqDiff,Nat.reduceAdd,Nat.reduceLeDiff,x0c,Int.reduceNeg,Nat.reduceMul,Nat.reduceSub,x0d,x0e,x0f,x0g,x0h,x0i,x0j,x0k,Int.reduceEq,Int.reduceLT,Int.reduceLE,Int.reduceToNat,Int.cast_ofNat_Int,List.reduceReplicate]
          refine onB_pos p0 ?_
          first | refine envO (by simp -implicitDefEqProofs only [p0, vmp,↓vmd,Env.get,putD,argEnv,List.map,x00,x01,x02,x03,x04,x05,x06,x07,List.take,List.drop,x08,x09,x0a,x0b,List.isEmpty,↓reduceIte,reduceCtorEq,Nat.reduceEqDiff,Nat.reduceAdd,Nat.reduceLeDiff,x0c,Int.reduceNeg,Nat.reduceMul,Nat.reduceSub,x0d,x0e,x0f,x0g,x0h,x0i,x0j,x0k,Int.reduceEq,Int.reduceLT,Int.reduceLE,Int.reduceToNat,Int.cast_ofNat_Int,List.reduceReplicate]; rfl) ?_ | refine envQ (by simp -implicitDefEqProofs only [p0, vmp,↓vmd,Env.get,putD,argEnv,List.map,x00,x01,x02,x03,x04,x05,x06,x07,List.take,List.drop,x08,x09,x0a,x0b,List.isEmpty,↓reduceIte,reduceCtorEq,Nat.reduceEqDiff,Nat.reduceAdd,Nat.reduceLeDiff,x0c,Int.reduceNeg,Nat.reduceMul,Nat.reduceSub,x0d,x0e,x0f,x0g,x0h,x0i,x0j,x0k,Int.reduceEq,Int.reduceLT,Int.reduceLE,Int.reduceToNat,Int.cast_ofNat_Int,List.reduceReplicate]; rfl) ?_
          simp -implicitDefEqProofs only [y0, hga, hangG, vmp,↓vmd,Env.get,putD,argEnv,List.map,x00,x01,x02,x03,x04,x05,x06,x07,List.take,List.drop,x08,x09,x0a,x0b,List.isEmpty,↓reduceIte,reduceCtorEq,Nat.reduceEqDiff,Nat.reduceAdd,Nat.reduceLeDiff,x0c,Int.reduceNeg,Nat.reduceMul,Nat.reduceSub,x0d,x0e,x0f,x0g,x0h,x0i,x0j,x0k,Int.reduceEq,Int.reduceLT,Int.reduceLE,Int.reduceToNat,Int.cast_ofNat_Int,List.reduceReplicate]
          refine onB_pos p1 ?_
          first | refine envO (by simp -implicitDefEqProofs only [p1, vmp,↓vmd,Env.get,putD,argEnv,List.map,x00,x01,x02,x03,x04,x05,x06,x07,List.take,List.drop,x08,x09,x0a,x0b,List.isEmpty,↓reduceIte,reduceCtorEq,Nat.reduceEqDiff,Nat.reduceAdd,Nat.reduceLeDiff,x0c,Int.reduceNeg,Nat.reduceMul,Nat.reduceSub,x0d,x0e,x0f,x0g,x0h,x0i,x0j,x0k,Int.reduceEq,Int.reduceLT,Int.reduceLE,Int.reduceToNat,Int.cast_ofNat_Int,List.reduceReplicate]; rfl) ?_ | refine envQ (by simp -implicitDefEqProofs only [p1, vmp,↓vmd,Env.get,putD,argEnv,List.map,x00,x01,x02,x03,x04,x05,x06,x07,List.take,List.drop,x08,x09,x0a,x0b,List.isEmpty,↓reduceIte,reduceCtorEq,Nat.reduceEqDiff,Nat.reduceAdd,Nat.reduceLeDiff,x0c,Int.reduceNeg,Nat.reduceMul,Nat.reduceSub,x0d,x0e,x0f,x0g,x0h,x0i,x0j,x0k,Int.reduceEq,Int.reduceLT,Int.reduceLE,Int.reduceToNat,Int.cast_ofNat_Int,List.reduceReplicate]; rfl) ?_
          simp -implicitDefEqProofs only [y0, hga, hangG, vmp,↓vmd,Env.get,putD,argEnv,List.map,x00,x01,x02,x03,x04,x05,x06,x07,List.take,List.drop,x08,x09,x0a,x0b,List.isEmpty,↓reduceIte,reduceCtorEq,Nat.reduceEqDiff,Nat.reduceAdd,Nat.reduceLeDiff,x0c,Int.reduceNeg,Nat.reduceMul,Nat.reduceSub,x0d,x0e,x0f,x0g,x0h,x0i,x0j,x0k,Int.reduceEq,Int.reduceLT,Int.reduceLE,Int.reduceToNat,Int.cast_ofNat_Int,List.reduceReplicate]
          refine onC_q (same25_q a a) rfl ?_
          first | refine envO (by simp -implicitDefEqProofs only [vmp,↓vmd,Env.get,putD,argEnv,List.map,x00,x01,x02,x03,x04,x05,x06,x07,List.take,List.drop,x08,x09,x0a,x0b,List.isEmpty,↓reduceIte,reduceCtorEq,Nat.reduceEqDiff,Nat.reduceAdd,Nat.reduceLeDiff,x0c,Int.reduceNeg,Nat.reduceMul,Nat.reduceSub,x0d,x0e,x0f,x0g,x0h,x0i,x0j,x0k,Int.reduceEq,Int.reduceLT,Int.reduceLE,Int.reduceToNat,Int.cast_ofNat_Int,List.reduceReplicate]; rfl) ?_ | refine envQ (by simp -implicitDefEqProofs only [vmp,↓vmd,Env.get,putD,argEnv,List.map,x00,x01,x02,x03,x04,x05,x06,x07,List.take,List.drop,x08,x09,x0a,x0b,List.isEmpty,↓reduceIte,reduceCtorEq,Nat.reduceEqDiff,Nat.reduceAdd,Nat.reduceLeDiff,x0c,Int.reduceNeg,Nat.reduceMul,Nat.reduceSub,x0d,x0e,x0f,x0g,x0h,x0i,x0j,x0k,Int.reduceEq,Int.reduceLT,Int.reduceLE,Int.reduceToNat,Int.cast_ofNat_Int,List.reduceReplicate]; rfl) ?_
          simp -implicitDefEqProofs only [vmp,↓vmd,Env.get,putD,argEnv,List.map,x00,x01,x02,x03,x04,x05,x06,x07,List.take,List.drop,x08,x09,x0a,x0b,List.isEmpty,↓reduceIte,reduceCtorEq,Nat.reduceEqDiff,Nat.reduceAdd,Nat.reduceLeDiff,x0c,Int.reduceNeg,Nat.reduceMul,Nat.reduceSub,x0d,x0e,x0f,x0g,x0h,x0i,x0j,x0k,Int.reduceEq,Int.reduceLT,Int.reduceLE,Int.reduceToNat,Int.cast_ofNat_Int,List.reduceReplicate]
          refine onC_q alive34_q rfl ?_
          first | refine envO (by simp -implicitDefEqProofs only [vmp,↓vmd,Env.get,putD,argEnv,List.map,x00,x01,x02,x03,x04,x05,x06,x07,List.take,List.drop,x08,x09,x0a,x0b,List.isEmpty,↓reduceIte,reduceCtorEq,Nat.reduceEqDiff,Nat.reduceAdd,Nat.reduceLeDiff,x0c,Int.reduceNeg,Nat.reduceMul,Nat.reduceSub,x0d,x0e,x0f,x0g,x0h,x0i,x0j,x0k,Int.reduceEq,Int.reduceLT,Int.reduceLE,Int.reduceToNat,Int.cast_ofNat_Int,List.reduceReplicate]; rfl) ?_ | refine envQ (by simp -implicitDefEqProofs only [vmp,↓vmd,Env.get,putD,argEnv,List.map,x00,x01,x02,x03,x04,x05,x06,x07,List.take,List.drop,x08,x09,x0a,x0b,List.isEmpty,↓reduceIte,reduceCtorEq,Nat.reduceEqDiff,Nat.reduceAdd,Nat.reduceLeDiff,x0c,Int.reduceNeg,Nat.reduceMul,Nat.reduceSub,x0d,x0e,x0f,x0g,x0h,x0i,x0j,x0k,Int.reduceEq,Int.reduceLT,Int.reduceLE,Int.reduceToNat,Int.cast_ofNat_Int,List.reduceReplicate]; rfl) ?_
          simp -implicitDefEqProofs only [vmp,↓vmd,Env.get,putD,argEnv,List.map,x00,x01,x02,x03,x04,x05,x06,x07,List.take,List.drop,x08,x09,x0a,x0b,List.isEmpty,↓reduceIte,reduceCtorEq,Nat.reduceEqDiff,Nat.reduceAdd,Nat.reduceLeDiff,x0c,Int.reduceNeg,Nat.reduceMul,Nat.reduceSub,x0d,x0e,x0f,x0g,x0h,x0i,x0j,x0k,Int.reduceEq,Int.reduceLT,Int.reduceLE,Int.reduceToNat,Int.cast_ofNat_Int,List.reduceReplicate]
          exact gives_pure
theorem mk_all (vs : List V) (h : OkTs Try.prog Try.f6.params.toList vs) : FnQ Try.prog 6 vs [.bool true] := by
  rw [Try.params6] at h
  match vs, h with
  | [x, y, z, u], h =>
    obtain ⟨h1, h2, h3, h4, _⟩ := h
    obtain ⟨f, rfl⟩ := font_of h1
    obtain ⟨k, rfl⟩ := lookup_of' h2
    obtain ⟨l, rfl, _⟩ := gls_of (cell_of (h3 _ _ _ ty_glyphs))
    obtain ⟨n, rfl, _⟩ := int_of' h4
    exact mk_law f k l n
end Go.Proofs.Ytbllbkhkmngclaa.W
