/-
  The law ContextRises: what its function does, and what all that it calls does, for every input. No condition.
-/
import Derived.Test.YtbllbkhkmngclaaCtxL
namespace Go.Proofs.Ytbllbkhkmngclaa.W
open Go Go.Vm Go.Proofs
set_option maxRecDepth 100000
set_option linter.unusedSimpArgs false
set_option maxHeartbeats 4000000
/-! typecase/typecaselaw29.alive -/
def c31 : AC :=
  (.seq (.reg [⟨some 0, none, .mov (.c (.pure (.bool false)))⟩])
  (.seq (.reg [⟨some 5, none, .build [(.pure (.int .i64 0)), .empty, .empty, .empty, .empty, .empty] []⟩,
    ⟨some 6, none, .bslice 1 [(.c (.pure (.int .i64 4)))]⟩,
    ⟨some 7, none, .bslice 1 [(.s 6)]⟩,
    ⟨some 8, none, .build [.empty, .empty, .empty, .empty, .empty, .empty, .empty, .empty, .empty, .empty, .empty, .empty] [(4, 1, (.s 7))]⟩,
    ⟨some 9, none, .bslice 12 [(.s 8)]⟩,
    ⟨some 10, none, .build [(.pure (.int .i64 0)), (.pure (.int .i64 0)), (.pure (.int .i64 0)), .empty] [(3, 1, (.s 9))]⟩,
    ⟨some 11, none, .build [(.pure (.int .i64 0)), (.pure (.int .i64 0)), (.pure (.int .i64 0)), (.pure (.int .i64 0)), (.pure (.int .i64 0)), (.pure (.int .i64 0)), (.pure (.int .i64 0)), (.pure (.int .i64 0)), (.pure (.int .i64 0)), (.pure (.int .i64 0))] [(0, 1, (.c (.pure (.int .i64 4))))]⟩,
    ⟨some 12, none, .bslice 10 [(.s 11)]⟩,
    ⟨some 13, none, .call 28 [(.s 5), (.s 10), (.s 12), (.c (.pure (.int .i64 0)))]⟩,
    ⟨some 4, none, .mov (.s 13)⟩,
    ⟨some 14, none, .ext 0 (.s 4)⟩,
    ⟨some 15, none, .ext 1 (.s 4)⟩,
    ⟨some 16, none, .ext 2 (.s 4)⟩,
    ⟨some 1, none, .mov (.s 14)⟩,
    ⟨some 2, none, .mov (.s 15)⟩,
    ⟨some 3, none, .mov (.s 16)⟩])
  (.seq (.reg [⟨some 17, none, .mov (.s 3)⟩,
    ⟨some 18, none, .mov (.s 17)⟩,
    ⟨some 19, some (18, true), .mov (.s 2)⟩,
    ⟨some 20, some (18, true), .bslice 1 [(.c (.pure (.int .i64 0)))]⟩,
    ⟨some 21, some (18, true), .call 70 [(.s 19), (.s 20)]⟩,
    ⟨some 22, none, .pick (.s 18) (.s 21) (.c (.pure (.bool false)))⟩,
    ⟨some 0, none, .mov (.s 22)⟩])
  .ret)))
theorem k31 : (Try.f31.body.bind fun c => cCode Try.prog Try.f31.ntmps RCs c) = some c31 := by kernel_rfl
theorem h31 : (Try.f31.name == "runtime.NumGoroutine") = false := by kernel_rfl
theorem r31 : resC Try.prog Try.f31.results.toList = some [.t 0] := by kernel_rfl
theorem a31 {args : List S} {H : Heap} {K : S → Heap → Prop} (hn : args.length ≤ 23) (h : aWx Try.prog H.length c31 (PostX [.t 0] K) (argEnv 0 args) H) : CallA Try.prog 31 args H K :=
  callA_of_x mixed Try.func31 h31 k31 r31 (by rw [Try.ntmps31]; exact hn) h
theorem q31 {vs ds : List V} (hn : vs.length ≤ 23) (h : aWx Try.prog 0 c31 (PostX [.t 0] (Gives ds)) (argEnv 0 (vs.map .pure)) []) : FnQ Try.prog 31 vs ds :=
  fnQ_of_call (a31 (by simpa using hn) h)
/-! typecase/typecaselaw29.ContextRises -/
def c8_0 : AC :=
  (.seq (.reg [⟨some 151, none, .mov (.s 11)⟩,
    ⟨some 152, none, .mov (.s 8)⟩,
    ⟨some 153, none, .mov (.s 8)⟩,
    ⟨some 154, none, .len (.s 153)⟩,
    ⟨some 155, none, .bin .sub (.s 154) (.c (.pure (.int .i64 1)))⟩,
    ⟨some 156, none, .idxA 1 (.s 152) (.s 155)⟩,
    ⟨some 157, none, .load false 1 (.s 156)⟩,
    ⟨some 158, none, .bin .add (.s 157) (.c (.pure (.int .i64 1)))⟩,
    ⟨some 159, none, .bin .eql (.s 151) (.s 158)⟩,
    ⟨some 160, none, .mov (.s 159)⟩,
    ⟨some 161, some (160, true), .mov (.s 14)⟩,
    ⟨some 162, some (160, true), .mov (.s 11)⟩,
    ⟨some 163, some (160, true), .bin .eql (.s 161) (.s 162)⟩,
    ⟨some 164, none, .pick (.s 160) (.s 163) (.c (.pure (.bool false)))⟩,
    ⟨some 6, none, .mov (.s 164)⟩])
  .ret)
def c8_1 : AC :=
  (.seq (.seq (.reg [⟨some 135, none, .mov (.s 16)⟩,
    ⟨some 136, none, .mov (.s 8)⟩,
    ⟨some 137, none, .len (.s 136)⟩,
    ⟨some 138, none, .bin .lss (.s 135) (.s 137)⟩])
  (.cond (.s 138)
  .skip
  (.exit 0)))
  (.seq (.block 1
  (.seq (.regq [⟨some 141, none, .mov (.s 8)⟩,
    ⟨some 142, none, .mov (.s 16)⟩,
    ⟨some 143, none, .idxA 1 (.s 141) (.s 142)⟩,
    ⟨some 144, none, .load false 1 (.s 143)⟩,
    ⟨some 145, none, .mov (.s 8)⟩,
    ⟨some 146, none, .mov (.s 16)⟩,
    ⟨some 147, none, .bin .sub (.s 146) (.c (.pure (.int .i64 1)))⟩,
    ⟨some 148, none, .idxA 1 (.s 145) (.s 147)⟩,
    ⟨some 149, none, .load false 1 (.s 148)⟩]
    [⟨some 150, none, .bin .leq (.s 144) (.s 149)⟩])
  (.cond (.s 150)
  (.seq (.reg [⟨some 6, none, .mov (.c (.pure (.bool false)))⟩])
  .ret)
  .skip)))
  (.reg [⟨some 139, none, .mov (.s 16)⟩,
    ⟨some 140, none, .bin .add (.s 139) (.c (.pure (.int .i64 1)))⟩,
    ⟨some 16, none, .mov (.s 140)⟩])))
def c8 : AC :=
  (.seq (.reg [⟨some 3, none, .box (.s 0)⟩,
    ⟨some 4, none, .box (.s 1)⟩,
    ⟨some 5, none, .box (.s 2)⟩,
    ⟨some 6, none, .mov (.c (.pure (.bool false)))⟩])
  (.seq (.seq (.reg [⟨some 17, none, .load true 6 (.s 3)⟩,
    ⟨some 18, none, .load true 4 (.s 4)⟩,
    ⟨some 19, none, .fldA 0 (.s 5)⟩,
    ⟨some 20, none, .load false 1 (.s 19)⟩,
    ⟨some 21, none, .call 23 [(.s 17), (.s 18), (.s 20)]⟩])
  (.cond (.s 21)
  (.seq (.reg [⟨some 6, none, .mov (.c (.pure (.bool true)))⟩])
  .ret)
  .skip))
  (.seq (.reg [⟨some 23, none, .load true 6 (.s 3)⟩,
    ⟨some 24, none, .load true 4 (.s 4)⟩,
    ⟨some 25, none, .fldA 0 (.s 5)⟩,
    ⟨some 26, none, .load false 1 (.s 25)⟩,
    ⟨some 27, none, .fldA 1 (.s 5)⟩,
    ⟨some 28, none, .load false 1 (.s 27)⟩,
    ⟨some 29, none, .call 28 [(.s 23), (.s 24), (.s 26), (.s 28)]⟩,
    ⟨some 22, none, .mov (.s 29)⟩,
    ⟨some 30, none, .ext 0 (.s 22)⟩,
    ⟨some 31, none, .ext 1 (.s 22)⟩,
    ⟨some 32, none, .ext 2 (.s 22)⟩,
    ⟨some 7, none, .mov (.s 30)⟩,
    ⟨some 8, none, .mov (.s 31)⟩,
    ⟨some 9, none, .mov (.s 32)⟩])
  (.seq (.reg [⟨some 34, none, .load true 6 (.s 3)⟩,
    ⟨some 35, none, .load true 4 (.s 4)⟩,
    ⟨some 36, none, .fldA 0 (.s 5)⟩,
    ⟨some 37, none, .load false 1 (.s 36)⟩,
    ⟨some 38, none, .fldA 1 (.s 5)⟩,
    ⟨some 39, none, .load false 1 (.s 38)⟩,
    ⟨some 40, none, .call 24 [(.s 34), (.s 35), (.s 37), (.s 39), (.c (.pure (.func (.func 29) [] [])))]⟩,
    ⟨some 33, none, .mov (.s 40)⟩,
    ⟨some 41, none, .ext 0 (.s 33)⟩,
    ⟨some 42, none, .ext 1 (.s 33)⟩,
    ⟨some 43, none, .ext 2 (.s 33)⟩,
    ⟨some 10, none, .mov (.s 41)⟩,
    ⟨some 11, none, .mov (.s 42)⟩,
    ⟨some 12, none, .mov (.s 43)⟩])
  (.seq (.reg [⟨some 45, none, .load true 6 (.s 3)⟩,
    ⟨some 46, none, .load true 4 (.s 4)⟩,
    ⟨some 47, none, .fldA 0 (.s 5)⟩,
    ⟨some 48, none, .load false 1 (.s 47)⟩,
    ⟨some 49, none, .fldA 1 (.s 5)⟩,
    ⟨some 50, none, .load false 1 (.s 49)⟩,
    ⟨some 51, none, .call 24 [(.s 45), (.s 46), (.s 48), (.s 50), (.c (.pure (.func (.func 30) [] [])))]⟩,
    ⟨some 44, none, .mov (.s 51)⟩,
    ⟨some 52, none, .ext 0 (.s 44)⟩,
    ⟨some 53, none, .ext 1 (.s 44)⟩,
    ⟨some 54, none, .ext 2 (.s 44)⟩,
    ⟨some 13, none, .mov (.s 52)⟩,
    ⟨some 14, none, .mov (.s 53)⟩,
    ⟨some 15, none, .mov (.s 54)⟩])
  (.seq (.seq (.reg [⟨some 55, none, .mov (.s 12)⟩,
    ⟨some 56, none, .mov (.s 9)⟩,
    ⟨some 57, none, .eqb true (.s 55) (.s 56)⟩,
    ⟨some 58, none, .mov (.s 57)⟩,
    ⟨some 59, some (58, false), .mov (.s 15)⟩,
    ⟨some 60, some (58, false), .mov (.s 9)⟩,
    ⟨some 61, some (58, false), .eqb true (.s 59) (.s 60)⟩,
    ⟨some 62, none, .pick (.s 58) (.c (.pure (.bool true))) (.s 61)⟩,
    ⟨some 63, none, .mov (.s 62)⟩,
    ⟨some 64, some (63, false), .call 31 []⟩,
    ⟨some 65, some (63, false), .un .not (.s 64)⟩,
    ⟨some 66, none, .pick (.s 63) (.c (.pure (.bool true))) (.s 65)⟩])
  (.cond (.s 66)
  (.seq (.reg [⟨some 6, none, .mov (.c (.pure (.bool false)))⟩])
  .ret)
  .skip))
  (.seq (.seq (.reg [⟨some 67, none, .mov (.s 9)⟩,
    ⟨some 68, none, .un .not (.s 67)⟩])
  (.cond (.s 68)
  (.seq (.reg [⟨some 69, none, .mov (.s 7)⟩,
    ⟨some 70, none, .bin .eql (.s 69) (.c (.pure (.int .i64 0)))⟩,
    ⟨some 71, none, .mov (.s 70)⟩,
    ⟨some 72, some (71, true), .mov (.s 8)⟩,
    ⟨some 73, some (71, true), .len (.s 72)⟩,
    ⟨some 74, some (71, true), .bin .eql (.s 73) (.c (.pure (.int .i64 0)))⟩,
    ⟨some 75, none, .pick (.s 71) (.s 74) (.c (.pure (.bool false)))⟩,
    ⟨some 76, none, .mov (.s 75)⟩,
    ⟨some 77, some (76, true), .mov (.s 10)⟩,
    ⟨some 78, some (76, true), .len (.s 77)⟩,
    ⟨some 79, some (76, true), .bin .eql (.s 78) (.c (.pure (.int .i64 0)))⟩,
    ⟨some 80, none, .pick (.s 76) (.s 79) (.c (.pure (.bool false)))⟩,
    ⟨some 81, none, .mov (.s 80)⟩,
    ⟨some 82, some (81, true), .mov (.s 13)⟩,
    ⟨some 83, some (81, true), .len (.s 82)⟩,
    ⟨some 84, some (81, true), .bin .eql (.s 83) (.c (.pure (.int .i64 0)))⟩,
    ⟨some 85, none, .pick (.s 81) (.s 84) (.c (.pure (.bool false)))⟩,
    ⟨some 6, none, .mov (.s 85)⟩])
  .ret)
  .skip))
  (.seq (.seq (.regq [⟨some 86, none, .mov (.s 7)⟩,
    ⟨some 87, none, .bin .lss (.s 86) (.c (.pure (.int .i64 0)))⟩,
    ⟨some 88, none, .mov (.s 87)⟩,
    ⟨some 89, some (88, false), .mov (.s 7)⟩,
    ⟨some 90, some (88, false), .fldA 3 (.s 4)⟩,
    ⟨some 91, some (88, false), .load false 1 (.s 90)⟩,
    ⟨some 92, some (88, false), .len (.s 91)⟩,
    ⟨some 93, some (88, false), .bin .geq (.s 89) (.s 92)⟩,
    ⟨some 94, none, .pick (.s 88) (.c (.pure (.bool true))) (.s 93)⟩,
    ⟨some 95, none, .mov (.s 94)⟩,
    ⟨some 96, some (95, false), .mov (.s 8)⟩,
    ⟨some 97, some (95, false), .len (.s 96)⟩,
    ⟨some 98, some (95, false), .bin .eql (.s 97) (.c (.pure (.int .i64 0)))⟩,
    ⟨some 99, none, .pick (.s 95) (.c (.pure (.bool true))) (.s 98)⟩,
    ⟨some 100, none, .mov (.s 99)⟩,
    ⟨some 101, some (100, false), .mov (.s 8)⟩,
    ⟨some 102, some (100, false), .len (.s 101)⟩,
    ⟨some 103, some (100, false), .fldA 3 (.s 4)⟩,
    ⟨some 104, some (100, false), .load false 1 (.s 103)⟩,
    ⟨some 105, some (100, false), .mov (.s 7)⟩,
    ⟨some 106, some (100, false), .idxA 12 (.s 104) (.s 105)⟩,
    ⟨some 107, some (100, false), .fldA 4 (.s 106)⟩,
    ⟨some 108, some (100, false), .load false 1 (.s 107)⟩,
    ⟨some 109, some (100, false), .len (.s 108)⟩,
    ⟨some 110, some (100, false), .bin .neq (.s 102) (.s 109)⟩,
    ⟨some 111, none, .pick (.s 100) (.c (.pure (.bool true))) (.s 110)⟩,
    ⟨some 112, none, .mov (.s 111)⟩,
    ⟨some 113, some (112, false), .mov (.s 8)⟩,
    ⟨some 114, some (112, false), .idxA 1 (.s 113) (.c (.pure (.int .i64 0)))⟩,
    ⟨some 115, some (112, false), .load false 1 (.s 114)⟩,
    ⟨some 116, some (112, false), .fldA 1 (.s 5)⟩,
    ⟨some 117, some (112, false), .load false 1 (.s 116)⟩,
    ⟨some 118, some (112, false), .bin .neq (.s 115) (.s 117)⟩,
    ⟨some 119, none, .pick (.s 112) (.c (.pure (.bool true))) (.s 118)⟩,
    ⟨some 120, none, .mov (.s 119)⟩,
    ⟨some 121, some (120, false), .mov (.s 10)⟩,
    ⟨some 122, some (120, false), .fldA 0 (.s 5)⟩,
    ⟨some 123, some (120, false), .load false 1 (.s 122)⟩,
    ⟨some 124, some (120, false), .call 27 [(.s 121), (.s 123)]⟩,
    ⟨some 125, some (120, false), .un .not (.s 124)⟩,
    ⟨some 126, none, .pick (.s 120) (.c (.pure (.bool true))) (.s 125)⟩,
    ⟨some 127, none, .mov (.s 126)⟩,
    ⟨some 128, some (127, false), .mov (.s 13)⟩,
    ⟨some 129, some (127, false), .len (.s 128)⟩,
    ⟨some 130, some (127, false), .fldA 0 (.s 5)⟩,
    ⟨some 131, some (127, false), .load false 1 (.s 130)⟩,
    ⟨some 132, some (127, false), .len (.s 131)⟩]
    [⟨some 133, some (127, false), .bin .neq (.s 129) (.s 132)⟩,
    ⟨some 134, none, .pick (.s 127) (.c (.pure (.bool true))) (.s 133)⟩])
  (.cond (.s 134)
  (.seq (.reg [⟨some 6, none, .mov (.c (.pure (.bool false)))⟩])
  .ret)
  .skip))
  (.seq (.seq (.reg [⟨some 16, none, .mov (.c (.pure (.int .i64 1)))⟩])
  (.block 0
  (.loop c8_1)))
  c8_0)))))))))
theorem k8 : (Try.f8.body.bind fun c => cCode Try.prog Try.f8.ntmps RCs c) = some c8 := by kernel_rfl
theorem h8 : (Try.f8.name == "runtime.NumGoroutine") = false := by kernel_rfl
theorem r8 : resC Try.prog Try.f8.results.toList = some [.t 6] := by kernel_rfl
theorem a8 {args : List S} {H : Heap} {K : S → Heap → Prop} (hn : args.length ≤ 165) (h : aWx Try.prog H.length c8 (PostX [.t 6] K) (argEnv 0 args) H) : CallA Try.prog 8 args H K :=
  callA_of_x mixed Try.func8 h8 k8 r8 (by rw [Try.ntmps8]; exact hn) h
theorem q8 {vs ds : List V} (hn : vs.length ≤ 165) (h : aWx Try.prog 0 c8 (PostX [.t 6] (Gives ds)) (argEnv 0 (vs.map .pure)) []) : FnQ Try.prog 8 vs ds :=
  fnQ_of_call (a8 (by simpa using hn) h)

theorem runN_never (w : List Gl × List Int) : ∀ l : List Ns, runN neverF w l = w
  | [] => rfl
  | n :: r => by
    have h : stepN neverF w n = w := by
      rw [stepN]
      split
      · rfl
      · split
        · rfl
        · rfl
    have e : runN neverF w (n :: r) = runN neverF (stepN neverF w n) r := rfl
    rw [e, h, runN_never w r]
/-- what one lookup makes of a glyph keeps the row's length -/
theorem runN_other : ∀ (l : List Ns) (w : List Gl × List Int), (runN otherF w l).1.length = w.1.length
  | [], w => rfl
  | n :: r, w => by
    have h : (stepN otherF w n).1.length = w.1.length := by
      rw [stepN]
      split
      · rfl
      · split
        · rfl
        · split
          · rfl
          · rename_i l' hl
            rw [otherF] at hl
            split at hl
            · cases hl
            · cases hl
              simp
    have e : runN otherF w (n :: r) = runN otherF (stepN otherF w n) r := rfl
    rw [e, runN_other r, h]
theorem ends {f : Fo} {k : Lk} {ls : List Gl} {x : Int} {i : Nat} {p : List Int} (M : Match1 f k ls x i p) (hl : ls.length ≤ 100) : max (wr ((ls.length : Int) - wr (wr ((ls.length : Int) - lastI p) - 1))) x = lastI p + 1 := by
  obtain ⟨_, h1, h2⟩ := M.last
  have := M.x0
  have e1 : wr ((ls.length : Int) - lastI p) = (ls.length : Int) - lastI p := wrap_id (by omega) (by omega)
  have e2 : wr ((ls.length : Int) - lastI p - 1) = (ls.length : Int) - lastI p - 1 := wrap_id (by omega) (by omega)
  rw [e1, e2, show wr ((ls.length : Int) - ((ls.length : Int) - lastI p - 1)) = lastI p + 1 by rw [wr, wrap_id (by omega) (by omega)]; omega]
  omega
theorem ctx_none {D : Doing} {f : Fo} {k : Lk} {ls : List Gl} {x : Int} (h : matchF f k ls x = none) : ctxF D f k ls x = none := by rw [ctxF, h]
theorem ctx_never {f : Fo} {k : Lk} {ls : List Gl} {x : Int} {i : Nat} {p : List Int} (hl : ls.length ≤ 100) (h : matchF f k ls x = some (i, p)) : ctxF neverF f k ls x = some (ls, lastI p + 1) := by
  have M := matchF_in h
  obtain ⟨s, hs, _⟩ := M.sub
  rw [ctxF, h]
  simp only [hs, runN_never]
  rw [ends M hl]
theorem ctx_other {f : Fo} {k : Lk} {ls : List Gl} {x : Int} {i : Nat} {p : List Int} (hl : ls.length ≤ 100) (h : matchF f k ls x = some (i, p)) : ∃ b, ctxF otherF f k ls x = some (b, lastI p + 1) ∧ b.length = ls.length := by
  have M := matchF_in h
  obtain ⟨s, hs, _⟩ := M.sub
  refine ⟨_, ?_, runN_other s.nests (ls, p)⟩
  rw [ctxF, h]
  simp only [hs, runN_other]
  rw [ends M hl]
def noFo : Fo := ⟨I 0, [], .sl [], .sl [], .sl [], []⟩
def aliveK : Lk := ⟨0, 0, 0, [⟨[], [], [], [], [[4]], [], [], [], [], [], [], []⟩]⟩
def aliveL : List Gl := [⟨4, 0, 0, 0, 0, 0, 0, 0, 0, 0⟩]
theorem alive29_m : matchF noFo aliveK aliveL 0 = some (0, [0]) := by decide
theorem alive29_c : FnQ Try.prog 28 [fo noFo, lk aliveK, .sl (aliveL.map gl), I 0] [I 0, LI [0], .bool true] := by
  have h := match_q noFo aliveK aliveL (by decide) 0 (fun s hs => by
    simp only [aliveK, List.mem_singleton] at hs
    subst hs
    decide)
  rw [alive29_m] at h
  exact h
theorem alive29_q : FnQ Try.prog 31 [] [.bool true] := by
  refine q31 (by simp) ?_
  unfold c31
  simp -implicitDefEqProofs only [*, vmp,↓vmd,Env.get,putD,argEnv,List.map,x00,x01,x02,x03,x04,x05,x06,x07,List.take,List.drop,x08,x09,x0a,x0b,List.isEmpty,↓reduceIte,reduceCtorEq,Nat.reduceEqDiff,Nat.reduceAdd,Nat.reduceLeDiff,x0c,Int.reduceNeg,Nat.reduceMul,Nat.reduceSub,x0d,x0e,x0f,x0g,x0h,x0i,x0j,x0k,Int.reduceEq,Int.reduceLT,Int.reduceLE,Int.reduceToNat,Int.cast_ofNat_Int,List.reduceReplicate]
  refine onC_frz 0 (onC_frz 1 (onC_frz 2 (onC_frz 3 ?_)))
  simp -implicitDefEqProofs only [vmp,↓vmd,Env.get,putD,argEnv,List.map,x00,x01,x02,x03,x04,x05,x06,x07,List.take,List.drop,x08,x09,x0a,x0b,List.isEmpty,↓reduceIte,reduceCtorEq,Nat.reduceEqDiff,Nat.reduceAdd,Nat.reduceLeDiff,x0c,Int.reduceNeg,Nat.reduceMul,Nat.reduceSub,x0d,x0e,x0f,x0g,x0h,x0i,x0j,x0k,Int.reduceEq,Int.reduceLT,Int.reduceLE,Int.reduceToNat,Int.cast_ofNat_Int,List.reduceReplicate]
  refine onC_q alive29_c rfl ?_
  first | refine envO (by simp -implicitDefEqProofs only [vmp,↓vmd,Env.get,putD,argEnv,List.map,x00,x01,x02,x03,x04,x05,x06,x07,List.take,List.drop,x08,x09,x0a,x0b,List.isEmpty,↓reduceIte,reduceCtorEq,Nat.reduceEqDiff,Nat.reduceAdd,Nat.reduceLeDiff,x0c,Int.reduceNeg,Nat.reduceMul,Nat.reduceSub,x0d,x0e,x0f,x0g,x0h,x0i,x0j,x0k,Int.reduceEq,Int.reduceLT,Int.reduceLE,Int.reduceToNat,Int.cast_ofNat_Int,List.reduceReplicate]; rfl) ?_ | refine envQ (by simp -implicitDefEqProofs only [vmp,↓vmd,Env.get,putD,argEnv,List.map,x00,x01,x02,x03,x04,x05,x06,x07,List.take,List.drop,x08,x09,x0a,x0b,List.isEmpty,↓reduceIte,reduceCtorEq,Nat.reduceEqDiff,Nat.reduceAdd,Nat.reduceLeDiff,x0c,Int.reduceNeg,Nat.reduceMul,Nat.reduceSub,x0d,x0e,x0f,x0g,x0h,x0i,x0j,x0k,Int.reduceEq,Int.reduceLT,Int.reduceLE,Int.reduceToNat,Int.cast_ofNat_Int,List.reduceReplicate]; rfl) ?_
  simp -implicitDefEqProofs only [vmp,↓vmd,Env.get,putD,argEnv,List.map,x00,x01,x02,x03,x04,x05,x06,x07,List.take,List.drop,x08,x09,x0a,x0b,List.isEmpty,↓reduceIte,reduceCtorEq,Nat.reduceEqDiff,Nat.reduceAdd,Nat.reduceLeDiff,x0c,Int.reduceNeg,Nat.reduceMul,Nat.reduceSub,x0d,x0e,x0f,x0g,x0h,x0i,x0j,x0k,Int.reduceEq,Int.reduceLT,Int.reduceLE,Int.reduceToNat,Int.cast_ofNat_Int,List.reduceReplicate]
  refine onC_r (same_q [0] [0]) rfl (by simp [V.flat]) ?_
  first | refine envO (by simp -implicitDefEqProofs only [vmp,↓vmd,Env.get,putD,argEnv,List.map,x00,x01,x02,x03,x04,x05,x06,x07,List.take,List.drop,x08,x09,x0a,x0b,List.isEmpty,↓reduceIte,reduceCtorEq,Nat.reduceEqDiff,Nat.reduceAdd,Nat.reduceLeDiff,x0c,Int.reduceNeg,Nat.reduceMul,Nat.reduceSub,x0d,x0e,x0f,x0g,x0h,x0i,x0j,x0k,Int.reduceEq,Int.reduceLT,Int.reduceLE,Int.reduceToNat,Int.cast_ofNat_Int,List.reduceReplicate]; rfl) ?_ | refine envQ (by simp -implicitDefEqProofs only [vmp,↓vmd,Env.get,putD,argEnv,List.map,x00,x01,x02,x03,x04,x05,x06,x07,List.take,List.drop,x08,x09,x0a,x0b,List.isEmpty,↓reduceIte,reduceCtorEq,Nat.reduceEqDiff,Nat.reduceAdd,Nat.reduceLeDiff,x0c,Int.reduceNeg,Nat.reduceMul,Nat.reduceSub,x0d,x0e,x0f,x0g,x0h,x0i,x0j,x0k,Int.reduceEq,Int.reduceLT,Int.reduceLE,Int.reduceToNat,Int.cast_ofNat_Int,List.reduceReplicate]; rfl) ?_
  simp -implicitDefEqProofs only [vmp,↓vmd,Env.get,putD,argEnv,List.map,x00,x01,x02,x03,x04,x05,x06,x07,List.take,List.drop,x08,x09,x0a,x0b,List.isEmpty,↓reduceIte,reduceCtorEq,Nat.reduceEqDiff,Nat.reduceAdd,Nat.reduceLeDiff,x0c,Int.reduceNeg,Nat.reduceMul,Nat.reduceSub,x0d,x0e,x0f,x0g,x0h,x0i,x0j,x0k,Int.reduceEq,Int.reduceLT,Int.reduceLE,Int.reduceToNat,Int.cast_ofNat_Int,List.reduceReplicate]
  exact gives_pure
theorem cr_law (f : Fo) (k : Lk) (ls : List Gl) (x : Int) : FnQ Try.prog 8 [fo f, lk k, .agg [.sl (ls.map gl), I x]] [.bool true] := by
  refine q8 (by simp) ?_
  unfold c8
  simp -implicitDefEqProofs only [*, vmp,↓vmd,Env.get,putD,argEnv,List.map,x00,x01,x02,x03,x04,x05,x06,x07,List.take,List.drop,x08,x09,x0a,x0b,List.isEmpty,↓reduceIte,reduceCtorEq,Nat.reduceEqDiff,Nat.reduceAdd,Nat.reduceLeDiff,x0c,Int.reduceNeg,Nat.reduceMul,Nat.reduceSub,x0d,x0e,x0f,x0g,x0h,x0i,x0j,x0k,Int.reduceEq,Int.reduceLT,Int.reduceLE,Int.reduceToNat,Int.cast_ofNat_Int,List.reduceReplicate]
  refine onC_q (greatc_q f k (ls.map gl)) rfl ?_
  first | refine envO (by simp -implicitDefEqProofs only [vmp,↓vmd,Env.get,putD,argEnv,List.map,x00,x01,x02,x03,x04,x05,x06,x07,List.take,List.drop,x08,x09,x0a,x0b,List.isEmpty,↓reduceIte,reduceCtorEq,Nat.reduceEqDiff,Nat.reduceAdd,Nat.reduceLeDiff,x0c,Int.reduceNeg,Nat.reduceMul,Nat.reduceSub,x0d,x0e,x0f,x0g,x0h,x0i,x0j,x0k,Int.reduceEq,Int.reduceLT,Int.reduceLE,Int.reduceToNat,Int.cast_ofNat_Int,List.reduceReplicate]; rfl) ?_ | refine envQ (by simp -implicitDefEqProofs only [vmp,↓vmd,Env.get,putD,argEnv,List.map,x00,x01,x02,x03,x04,x05,x06,x07,List.take,List.drop,x08,x09,x0a,x0b,List.isEmpty,↓reduceIte,reduceCtorEq,Nat.reduceEqDiff,Nat.reduceAdd,Nat.reduceLeDiff,x0c,Int.reduceNeg,Nat.reduceMul,Nat.reduceSub,x0d,x0e,x0f,x0g,x0h,x0i,x0j,x0k,Int.reduceEq,Int.reduceLT,Int.reduceLE,Int.reduceToNat,Int.cast_ofNat_Int,List.reduceReplicate]; rfl) ?_
  simp -implicitDefEqProofs only [vmp,↓vmd,Env.get,putD,argEnv,List.map,x00,x01,x02,x03,x04,x05,x06,x07,List.take,List.drop,x08,x09,x0a,x0b,List.isEmpty,↓reduceIte,reduceCtorEq,Nat.reduceEqDiff,Nat.reduceAdd,Nat.reduceLeDiff,x0c,Int.reduceNeg,Nat.reduceMul,Nat.reduceSub,x0d,x0e,x0f,x0g,x0h,x0i,x0j,x0k,Int.reduceEq,Int.reduceLT,Int.reduceLE,Int.reduceToNat,Int.cast_ofNat_Int,List.reduceReplicate]
  refine onB_intro (fun h => ?_) (fun h => ?_)
  · simp -implicitDefEqProofs only [h, vmp,↓vmd,Env.get,putD,argEnv,List.map,x00,x01,x02,x03,x04,x05,x06,x07,List.take,List.drop,x08,x09,x0a,x0b,List.isEmpty,↓reduceIte,reduceCtorEq,Nat.reduceEqDiff,Nat.reduceAdd,Nat.reduceLeDiff,x0c,Int.reduceNeg,Nat.reduceMul,Nat.reduceSub,x0d,x0e,x0f,x0g,x0h,x0i,x0j,x0k,Int.reduceEq,Int.reduceLT,Int.reduceLE,Int.reduceToNat,Int.cast_ofNat_Int,List.reduceReplicate]
    exact gives_pure
  obtain ⟨g1, g2, g3⟩ := greatC_not h
  have g4 := greatC_nests h
  simp -implicitDefEqProofs only [h, vmp,↓vmd,Env.get,putD,argEnv,List.map,x00,x01,x02,x03,x04,x05,x06,x07,List.take,List.drop,x08,x09,x0a,x0b,List.isEmpty,↓reduceIte,reduceCtorEq,Nat.reduceEqDiff,Nat.reduceAdd,Nat.reduceLeDiff,x0c,Int.reduceNeg,Nat.reduceMul,Nat.reduceSub,x0d,x0e,x0f,x0g,x0h,x0i,x0j,x0k,Int.reduceEq,Int.reduceLT,Int.reduceLE,Int.reduceToNat,Int.cast_ofNat_Int,List.reduceReplicate]
  have hm := match_q f k ls (by omega) x g3
  have h1 := apply_q _ _ never_d f k ls (by omega) x g3 g4
  have h2 := apply_q _ _ other_d f k ls (by omega) x g3 g4
  have two : (matchF f k ls x = none) ∨ ∃ q, matchF f k ls x = some q := by
    cases matchF f k ls x with
    | none => exact .inl rfl
    | some q => exact .inr ⟨q, rfl⟩
  rcases two with hc | ⟨⟨i, p⟩, hc⟩
  · rw [hc] at hm
    rw [ctx_none hc] at h1 h2
    have hm' : FnQ Try.prog 28 [fo f, lk k, .sl (ls.map gl), I x] [I 0, LI [], .bool false] := hm
    have h1' : FnQ Try.prog 24 [fo f, lk k, .sl (ls.map gl), I x, .func (.func 29) [] []] [.sl (([] : List Gl).map gl), I 0, .bool false] := h1
    have h2' : FnQ Try.prog 24 [fo f, lk k, .sl (ls.map gl), I x, .func (.func 30) [] []] [.sl (([] : List Gl).map gl), I 0, .bool false] := h2
    refine onC_q hm' rfl ?_
    first | refine envO (by simp -implicitDefEqProofs only [vmp,↓vmd,Env.get,putD,argEnv,List.map,x00,x01,x02,x03,x04,x05,x06,x07,List.take,List.drop,x08,x09,x0a,x0b,List.isEmpty,↓reduceIte,reduceCtorEq,Nat.reduceEqDiff,Nat.reduceAdd,Nat.reduceLeDiff,x0c,Int.reduceNeg,Nat.reduceMul,Nat.reduceSub,x0d,x0e,x0f,x0g,x0h,x0i,x0j,x0k,Int.reduceEq,Int.reduceLT,Int.reduceLE,Int.reduceToNat,Int.cast_ofNat_Int,List.reduceReplicate]; rfl) ?_ | refine envQ (by simp -implicitDefEqProofs only [vmp,↓vmd,Env.get,putD,argEnv,List.map,x00,x01,x02,x03,x04,x05,x06,x07,List.take,List.drop,x08,x09,x0a,x0b,List.isEmpty,↓reduceIte,reduceCtorEq,Nat.reduceEqDiff,Nat.reduceAdd,Nat.reduceLeDiff,x0c,Int.reduceNeg,Nat.reduceMul,Nat.reduceSub,x0d,x0e,x0f,x0g,x0h,x0i,x0j,x0k,Int.reduceEq,Int.reduceLT,Int.reduceLE,Int.reduceToNat,Int.cast_ofNat_Int,List.reduceReplicate]; rfl) ?_
    simp -implicitDefEqProofs only [vmp,↓vmd,Env.get,putD,argEnv,List.map,x00,x01,x02,x03,x04,x05,x06,x07,List.take,List.drop,x08,x09,x0a,x0b,List.isEmpty,↓reduceIte,reduceCtorEq,Nat.reduceEqDiff,Nat.reduceAdd,Nat.reduceLeDiff,x0c,Int.reduceNeg,Nat.reduceMul,Nat.reduceSub,x0d,x0e,x0f,x0g,x0h,x0i,x0j,x0k,Int.reduceEq,Int.reduceLT,Int.reduceLE,Int.reduceToNat,Int.cast_ofNat_Int,List.reduceReplicate]
    refine onC_q h1' rfl ?_
    first | refine envO (by simp -implicitDefEqProofs only [vmp,↓vmd,Env.get,putD,argEnv,List.map,x00,x01,x02,x03,x04,x05,x06,x07,List.take,List.drop,x08,x09,x0a,x0b,List.isEmpty,↓reduceIte,reduceCtorEq,Nat.reduceEqDiff,Nat.reduceAdd,Nat.reduceLeDiff,x0c,Int.reduceNeg,Nat.reduceMul,Nat.reduceSub,x0d,x0e,x0f,x0g,x0h,x0i,x0j,x0k,Int.reduceEq,Int.reduceLT,Int.reduceLE,Int.reduceToNat,Int.cast_ofNat_Int,List.reduceReplicate]; rfl) ?_ | refine envQ (by simp -implicitDefEqProofs only [vmp,↓vmd,Env.get,putD,argEnv,List.map,x00,x01,x02,x03,x04,x05,x06,x07,List.take,List.drop,x08,x09,x0a,x0b,List.isEmpty,↓reduceIte,reduceCtorEq,Nat.reduceEqDiff,Nat.reduceAdd,Nat.reduceLeDiff,x0c,Int.reduceNeg,Nat.reduceMul,Nat.reduceSub,x0d,x0e,x0f,x0g,x0h,x0i,x0j,x0k,Int.reduceEq,Int.reduceLT,Int.reduceLE,Int.reduceToNat,Int.cast_ofNat_Int,List.reduceReplicate]; rfl) ?_
    simp -implicitDefEqProofs only [vmp,↓vmd,Env.get,putD,argEnv,List.map,x00,x01,x02,x03,x04,x05,x06,x07,List.take,List.drop,x08,x09,x0a,x0b,List.isEmpty,↓reduceIte,reduceCtorEq,Nat.reduceEqDiff,Nat.reduceAdd,Nat.reduceLeDiff,x0c,Int.reduceNeg,Nat.reduceMul,Nat.reduceSub,x0d,x0e,x0f,x0g,x0h,x0i,x0j,x0k,Int.reduceEq,Int.reduceLT,Int.reduceLE,Int.reduceToNat,Int.cast_ofNat_Int,List.reduceReplicate]
    refine onC_q h2' rfl ?_
    first | refine envO (by simp -implicitDefEqProofs only [vmp,↓vmd,Env.get,putD,argEnv,List.map,x00,x01,x02,x03,x04,x05,x06,x07,List.take,List.drop,x08,x09,x0a,x0b,List.isEmpty,↓reduceIte,reduceCtorEq,Nat.reduceEqDiff,Nat.reduceAdd,Nat.reduceLeDiff,x0c,Int.reduceNeg,Nat.reduceMul,Nat.reduceSub,x0d,x0e,x0f,x0g,x0h,x0i,x0j,x0k,Int.reduceEq,Int.reduceLT,Int.reduceLE,Int.reduceToNat,Int.cast_ofNat_Int,List.reduceReplicate]; rfl) ?_ | refine envQ (by simp -implicitDefEqProofs only [vmp,↓vmd,Env.get,putD,argEnv,List.map,x00,x01,x02,x03,x04,x05,x06,x07,List.take,List.drop,x08,x09,x0a,x0b,List.isEmpty,↓reduceIte,reduceCtorEq,Nat.reduceEqDiff,Nat.reduceAdd,Nat.reduceLeDiff,x0c,Int.reduceNeg,Nat.reduceMul,Nat.reduceSub,x0d,x0e,x0f,x0g,x0h,x0i,x0j,x0k,Int.reduceEq,Int.reduceLT,Int.reduceLE,Int.reduceToNat,Int.cast_ofNat_Int,List.reduceReplicate]; rfl) ?_
    simp -implicitDefEqProofs only [show (false != false) = false from rfl, vmp,↓vmd,Env.get,putD,argEnv,List.map,x00,x01,x02,x03,x04,x05,x06,x07,List.take,List.drop,x08,x09,x0a,x0b,List.isEmpty,↓reduceIte,reduceCtorEq,Nat.reduceEqDiff,Nat.reduceAdd,Nat.reduceLeDiff,x0c,Int.reduceNeg,Nat.reduceMul,Nat.reduceSub,x0d,x0e,x0f,x0g,x0h,x0i,x0j,x0k,Int.reduceEq,Int.reduceLT,Int.reduceLE,Int.reduceToNat,Int.cast_ofNat_Int,List.reduceReplicate]
    refine onC_q alive29_q rfl ?_
    first | refine envO (by simp -implicitDefEqProofs only [vmp,↓vmd,Env.get,putD,argEnv,List.map,x00,x01,x02,x03,x04,x05,x06,x07,List.take,List.drop,x08,x09,x0a,x0b,List.isEmpty,↓reduceIte,reduceCtorEq,Nat.reduceEqDiff,Nat.reduceAdd,Nat.reduceLeDiff,x0c,Int.reduceNeg,Nat.reduceMul,Nat.reduceSub,x0d,x0e,x0f,x0g,x0h,x0i,x0j,x0k,Int.reduceEq,Int.reduceLT,Int.reduceLE,Int.reduceToNat,Int.cast_ofNat_Int,List.reduceReplicate]; rfl) ?_ | refine envQ (by simp -implicitDefEqProofs only [vmp,↓vmd,Env.get,putD,argEnv,List.map,x00,x01,x02,x03,x04,x05,x06,x07,List.take,List.drop,x08,x09,x0a,x0b,List.isEmpty,↓reduceIte,reduceCtorEq,Nat.reduceEqDiff,Nat.reduceAdd,Nat.reduceLeDiff,x0c,Int.reduceNeg,Nat.reduceMul,Nat.reduceSub,x0d,x0e,x0f,x0g,x0h,x0i,x0j,x0k,Int.reduceEq,Int.reduceLT,Int.reduceLE,Int.reduceToNat,Int.cast_ofNat_Int,List.reduceReplicate]; rfl) ?_
    simp -implicitDefEqProofs only [show (false != false) = false from rfl, vmp,↓vmd,Env.get,putD,argEnv,List.map,x00,x01,x02,x03,x04,x05,x06,x07,List.take,List.drop,x08,x09,x0a,x0b,List.isEmpty,↓reduceIte,reduceCtorEq,Nat.reduceEqDiff,Nat.reduceAdd,Nat.reduceLeDiff,x0c,Int.reduceNeg,Nat.reduceMul,Nat.reduceSub,x0d,x0e,x0f,x0g,x0h,x0i,x0j,x0k,Int.reduceEq,Int.reduceLT,Int.reduceLE,Int.reduceToNat,Int.cast_ofNat_Int,List.reduceReplicate]
    exact gives_pure
  · have M := matchF_in hc
    obtain ⟨b, hb, hbl⟩ := ctx_other (by omega) hc
    rw [hc] at hm
    rw [ctx_never (by omega) hc] at h1
    rw [hb] at h2
    have hm' : FnQ Try.prog 28 [fo f, lk k, .sl (ls.map gl), I x] [I (i : Int), LI p, .bool true] := hm
    have h1' : FnQ Try.prog 24 [fo f, lk k, .sl (ls.map gl), I x, .func (.func 29) [] []] [.sl (ls.map gl), I (lastI p + 1), .bool true] := h1
    have h2' : FnQ Try.prog 24 [fo f, lk k, .sl (ls.map gl), I x, .func (.func 30) [] []] [.sl (b.map gl), I (lastI p + 1), .bool true] := h2
    obtain ⟨s, hsi, hpl⟩ := M.sub
    have hil := (List.getElem?_eq_some_iff.1 hsi).1
    have hsub : (k.subs.map sub)[i]? = some (sub s) := by rw [List.getElem?_map, hsi]; rfl
    obtain ⟨p0, l0, l1⟩ := M.last
    have f1 : ¬ ((i : Int) < 0) := by omega
    have f2 : ¬ ((k.subs.length : Int) ≤ (i : Int)) := by omega
    have f3 : ¬ ((p.length : Int) = 0) := by omega
    have f4 : (p.length : Int) = (s.inn.length : Int) := by omega
    have f3' : ¬ ((s.inn.length : Int) = 0) := by omega
    have f5 : (b.length : Int) = (ls.length : Int) := by omega
    have hp0 : (p.map I)[0]? = some (I x) := by
      obtain ⟨r, rfl⟩ := M.hd
      rfl
    refine onC_q hm' rfl ?_
    first | refine envO (by simp -implicitDefEqProofs only [vmp,↓vmd,Env.get,putD,argEnv,List.map,x00,x01,x02,x03,x04,x05,x06,x07,List.take,List.drop,x08,x09,x0a,x0b,List.isEmpty,↓reduceIte,reduceCtorEq,Nat.reduceEqDiff,Nat.reduceAdd,Nat.reduceLeDiff,x0c,Int.reduceNeg,Nat.reduceMul,Nat.reduceSub,x0d,x0e,x0f,x0g,x0h,x0i,x0j,x0k,Int.reduceEq,Int.reduceLT,Int.reduceLE,Int.reduceToNat,Int.cast_ofNat_Int,List.reduceReplicate]; rfl) ?_ | refine envQ (by simp -implicitDefEqProofs only [vmp,↓vmd,Env.get,putD,argEnv,List.map,x00,x01,x02,x03,x04,x05,x06,x07,List.take,List.drop,x08,x09,x0a,x0b,List.isEmpty,↓reduceIte,reduceCtorEq,Nat.reduceEqDiff,Nat.reduceAdd,Nat.reduceLeDiff,x0c,Int.reduceNeg,Nat.reduceMul,Nat.reduceSub,x0d,x0e,x0f,x0g,x0h,x0i,x0j,x0k,Int.reduceEq,Int.reduceLT,Int.reduceLE,Int.reduceToNat,Int.cast_ofNat_Int,List.reduceReplicate]; rfl) ?_
    simp -implicitDefEqProofs only [vmp,↓vmd,Env.get,putD,argEnv,List.map,x00,x01,x02,x03,x04,x05,x06,x07,List.take,List.drop,x08,x09,x0a,x0b,List.isEmpty,↓reduceIte,reduceCtorEq,Nat.reduceEqDiff,Nat.reduceAdd,Nat.reduceLeDiff,x0c,Int.reduceNeg,Nat.reduceMul,Nat.reduceSub,x0d,x0e,x0f,x0g,x0h,x0i,x0j,x0k,Int.reduceEq,Int.reduceLT,Int.reduceLE,Int.reduceToNat,Int.cast_ofNat_Int,List.reduceReplicate]
    refine onC_q h1' rfl ?_
    first | refine envO (by simp -implicitDefEqProofs only [vmp,↓vmd,Env.get,putD,argEnv,List.map,x00,x01,x02,x03,x04,x05,x06,x07,List.take,List.drop,x08,x09,x0a,x0b,List.isEmpty,↓reduceIte,reduceCtorEq,Nat.reduceEqDiff,Nat.reduceAdd,Nat.reduceLeDiff,x0c,Int.reduceNeg,Nat.reduceMul,Nat.reduceSub,x0d,x0e,x0f,x0g,x0h,x0i,x0j,x0k,Int.reduceEq,Int.reduceLT,Int.reduceLE,Int.reduceToNat,Int.cast_ofNat_Int,List.reduceReplicate]; rfl) ?_ | refine envQ (by simp -implicitDefEqProofs only [vmp,↓vmd,Env.get,putD,argEnv,List.map,x00,x01,x02,x03,x04,x05,x06,x07,List.take,List.drop,x08,x09,x0a,x0b,List.isEmpty,↓reduceIte,reduceCtorEq,Nat.reduceEqDiff,Nat.reduceAdd,Nat.reduceLeDiff,x0c,Int.reduceNeg,Nat.reduceMul,Nat.reduceSub,x0d,x0e,x0f,x0g,x0h,x0i,x0j,x0k,Int.reduceEq,Int.reduceLT,Int.reduceLE,Int.reduceToNat,Int.cast_ofNat_Int,List.reduceReplicate]; rfl) ?_
    simp -implicitDefEqProofs only [vmp,↓vmd,Env.get,putD,argEnv,List.map,x00,x01,x02,x03,x04,x05,x06,x07,List.take,List.drop,x08,x09,x0a,x0b,List.isEmpty,↓reduceIte,reduceCtorEq,Nat.reduceEqDiff,Nat.reduceAdd,Nat.reduceLeDiff,x0c,Int.reduceNeg,Nat.reduceMul,Nat.reduceSub,x0d,x0e,x0f,x0g,x0h,x0i,x0j,x0k,Int.reduceEq,Int.reduceLT,Int.reduceLE,Int.reduceToNat,Int.cast_ofNat_Int,List.reduceReplicate]
    refine onC_q h2' rfl ?_
    first | refine envO (by simp -implicitDefEqProofs only [vmp,↓vmd,Env.get,putD,argEnv,List.map,x00,x01,x02,x03,x04,x05,x06,x07,List.take,List.drop,x08,x09,x0a,x0b,List.isEmpty,↓reduceIte,reduceCtorEq,Nat.reduceEqDiff,Nat.reduceAdd,Nat.reduceLeDiff,x0c,Int.reduceNeg,Nat.reduceMul,Nat.reduceSub,x0d,x0e,x0f,x0g,x0h,x0i,x0j,x0k,Int.reduceEq,Int.reduceLT,Int.reduceLE,Int.reduceToNat,Int.cast_ofNat_Int,List.reduceReplicate]; rfl) ?_ | refine envQ (by simp -implicitDefEqProofs only [vmp,↓vmd,Env.get,putD,argEnv,List.map,x00,x01,x02,x03,x04,x05,x06,x07,List.take,List.drop,x08,x09,x0a,x0b,List.isEmpty,↓reduceIte,reduceCtorEq,Nat.reduceEqDiff,Nat.reduceAdd,Nat.reduceLeDiff,x0c,Int.reduceNeg,Nat.reduceMul,Nat.reduceSub,x0d,x0e,x0f,x0g,x0h,x0i,x0j,x0k,Int.reduceEq,Int.reduceLT,Int.reduceLE,Int.reduceToNat,Int.cast_ofNat_Int,List.reduceReplicate]; rfl) ?_
    simp -implicitDefEqProofs only [show (true != true) = false from rfl, vmp,↓vmd,Env.get,putD,argEnv,List.map,x00,x01,x02,x03,x04,x05,x06,x07,List.take,List.drop,x08,x09,x0a,x0b,List.isEmpty,↓reduceIte,reduceCtorEq,Nat.reduceEqDiff,Nat.reduceAdd,Nat.reduceLeDiff,x0c,Int.reduceNeg,Nat.reduceMul,Nat.reduceSub,x0d,x0e,x0f,x0g,x0h,x0i,x0j,x0k,Int.reduceEq,Int.reduceLT,Int.reduceLE,Int.reduceToNat,Int.cast_ofNat_Int,List.reduceReplicate]
    refine onC_q alive29_q rfl ?_
    first | refine envO (by simp -implicitDefEqProofs only [vmp,↓vmd,Env.get,putD,argEnv,List.map,x00,x01,x02,x03,x04,x05,x06,x07,List.take,List.drop,x08,x09,x0a,x0b,List.isEmpty,↓reduceIte,reduceCtorEq,Nat.reduceEqDiff,Nat.reduceAdd,Nat.reduceLeDiff,x0c,Int.reduceNeg,Nat.reduceMul,Nat.reduceSub,x0d,x0e,x0f,x0g,x0h,x0i,x0j,x0k,Int.reduceEq,Int.reduceLT,Int.reduceLE,Int.reduceToNat,Int.cast_ofNat_Int,List.reduceReplicate]; rfl) ?_ | refine envQ (by simp -implicitDefEqProofs only [vmp,↓vmd,Env.get,putD,argEnv,List.map,x00,x01,x02,x03,x04,x05,x06,x07,List.take,List.drop,x08,x09,x0a,x0b,List.isEmpty,↓reduceIte,reduceCtorEq,Nat.reduceEqDiff,Nat.reduceAdd,Nat.reduceLeDiff,x0c,Int.reduceNeg,Nat.reduceMul,Nat.reduceSub,x0d,x0e,x0f,x0g,x0h,x0i,x0j,x0k,Int.reduceEq,Int.reduceLT,Int.reduceLE,Int.reduceToNat,Int.cast_ofNat_Int,List.reduceReplicate]; rfl) ?_
    simp -implicitDefEqProofs only [show (true != true) = false from rfl, vmp,↓vmd,Env.get,putD,argEnv,List.map,x00,x01,x02,x03,x04,x05,x06,x07,List.take,List.drop,x08,x09,x0a,x0b,List.isEmpty,↓reduceIte,reduceCtorEq,Nat.reduceEqDiff,Nat.reduceAdd,Nat.reduceLeDiff,x0c,Int.reduceNeg,Nat.reduceMul,Nat.reduceSub,x0d,x0e,x0f,x0g,x0h,x0i,x0j,x0k,Int.reduceEq,Int.reduceLT,Int.reduceLE,Int.reduceToNat,Int.cast_ofNat_Int,List.reduceReplicate]
    simp -implicitDefEqProofs only [show (true != true) = false from rfl, f1, f2, hsub, Int.natCast_nonneg, vmp,↓vmd,Env.get,putD,argEnv,List.map,x00,x01,x02,x03,x04,x05,x06,x07,List.take,List.drop,x08,x09,x0a,x0b,List.isEmpty,↓reduceIte,reduceCtorEq,Nat.reduceEqDiff,Nat.reduceAdd,Nat.reduceLeDiff,x0c,Int.reduceNeg,Nat.reduceMul,Nat.reduceSub,x0d,x0e,x0f,x0g,x0h,x0i,x0j,x0k,Int.reduceEq,Int.reduceLT,Int.reduceLE,Int.reduceToNat,Int.cast_ofNat_Int,List.reduceReplicate]
    refine onB_dec (fun e => absurd e f3) (fun _ => ?_)
    first | refine envO (by simp -implicitDefEqProofs only [vmp,↓vmd,Env.get,putD,argEnv,List.map,x00,x01,x02,x03,x04,x05,x06,x07,List.take,List.drop,x08,x09,x0a,x0b,List.isEmpty,↓reduceIte,reduceCtorEq,Nat.reduceEqDiff,Nat.reduceAdd,Nat.reduceLeDiff,x0c,Int.reduceNeg,Nat.reduceMul,Nat.reduceSub,x0d,x0e,x0f,x0g,x0h,x0i,x0j,x0k,Int.reduceEq,Int.reduceLT,Int.reduceLE,Int.reduceToNat,Int.cast_ofNat_Int,List.reduceReplicate]; rfl) ?_ | refine envQ (by simp -implicitDefEqProofs only [vmp,↓vmd,Env.get,putD,argEnv,List.map,x00,x01,x02,x03,x04,x05,x06,x07,List.take,List.drop,x08,x09,x0a,x0b,List.isEmpty,↓reduceIte,reduceCtorEq,Nat.reduceEqDiff,Nat.reduceAdd,Nat.reduceLeDiff,x0c,Int.reduceNeg,Nat.reduceMul,Nat.reduceSub,x0d,x0e,x0f,x0g,x0h,x0i,x0j,x0k,Int.reduceEq,Int.reduceLT,Int.reduceLE,Int.reduceToNat,Int.cast_ofNat_Int,List.reduceReplicate]; rfl) ?_
    simp -implicitDefEqProofs only [f1, f2, f3, hsub, hp0, Int.natCast_nonneg, vmp,↓vmd,Env.get,putD,argEnv,List.map,x00,x01,x02,x03,x04,x05,x06,x07,List.take,List.drop,x08,x09,x0a,x0b,List.isEmpty,↓reduceIte,reduceCtorEq,Nat.reduceEqDiff,Nat.reduceAdd,Nat.reduceLeDiff,x0c,Int.reduceNeg,Nat.reduceMul,Nat.reduceSub,x0d,x0e,x0f,x0g,x0h,x0i,x0j,x0k,Int.reduceEq,Int.reduceLT,Int.reduceLE,Int.reduceToNat,Int.cast_ofNat_Int,List.reduceReplicate]
    refine onB_ne (fun e => absurd f4 e) (fun _ => ?_)
    first | refine envO (by simp -implicitDefEqProofs only [vmp,↓vmd,Env.get,putD,argEnv,List.map,x00,x01,x02,x03,x04,x05,x06,x07,List.take,List.drop,x08,x09,x0a,x0b,List.isEmpty,↓reduceIte,reduceCtorEq,Nat.reduceEqDiff,Nat.reduceAdd,Nat.reduceLeDiff,x0c,Int.reduceNeg,Nat.reduceMul,Nat.reduceSub,x0d,x0e,x0f,x0g,x0h,x0i,x0j,x0k,Int.reduceEq,Int.reduceLT,Int.reduceLE,Int.reduceToNat,Int.cast_ofNat_Int,List.reduceReplicate]; rfl) ?_ | refine envQ (by simp -implicitDefEqProofs only [vmp,↓vmd,Env.get,putD,argEnv,List.map,x00,x01,x02,x03,x04,x05,x06,x07,List.take,List.drop,x08,x09,x0a,x0b,List.isEmpty,↓reduceIte,reduceCtorEq,Nat.reduceEqDiff,Nat.reduceAdd,Nat.reduceLeDiff,x0c,Int.reduceNeg,Nat.reduceMul,Nat.reduceSub,x0d,x0e,x0f,x0g,x0h,x0i,x0j,x0k,Int.reduceEq,Int.reduceLT,Int.reduceLE,Int.reduceToNat,Int.cast_ofNat_Int,List.reduceReplicate]; rfl) ?_
    simp -implicitDefEqProofs only [f1, f2, f3, f3', f4, hp0, hsub, Int.natCast_nonneg, vmp,↓vmd,Env.get,putD,argEnv,List.map,x00,x01,x02,x03,x04,x05,x06,x07,List.take,List.drop,x08,x09,x0a,x0b,List.isEmpty,↓reduceIte,reduceCtorEq,Nat.reduceEqDiff,Nat.reduceAdd,Nat.reduceLeDiff,x0c,Int.reduceNeg,Nat.reduceMul,Nat.reduceSub,x0d,x0e,x0f,x0g,x0h,x0i,x0j,x0k,Int.reduceEq,Int.reduceLT,Int.reduceLE,Int.reduceToNat,Int.cast_ofNat_Int,List.reduceReplicate]
    refine onQ_q (same29_q ls ls) rfl ?_
    first | refine envO (by simp -implicitDefEqProofs only [vmp,↓vmd,Env.get,putD,argEnv,List.map,x00,x01,x02,x03,x04,x05,x06,x07,List.take,List.drop,x08,x09,x0a,x0b,List.isEmpty,↓reduceIte,reduceCtorEq,Nat.reduceEqDiff,Nat.reduceAdd,Nat.reduceLeDiff,x0c,Int.reduceNeg,Nat.reduceMul,Nat.reduceSub,x0d,x0e,x0f,x0g,x0h,x0i,x0j,x0k,Int.reduceEq,Int.reduceLT,Int.reduceLE,Int.reduceToNat,Int.cast_ofNat_Int,List.reduceReplicate]; rfl) ?_ | refine envQ (by simp -implicitDefEqProofs only [vmp,↓vmd,Env.get,putD,argEnv,List.map,x00,x01,x02,x03,x04,x05,x06,x07,List.take,List.drop,x08,x09,x0a,x0b,List.isEmpty,↓reduceIte,reduceCtorEq,Nat.reduceEqDiff,Nat.reduceAdd,Nat.reduceLeDiff,x0c,Int.reduceNeg,Nat.reduceMul,Nat.reduceSub,x0d,x0e,x0f,x0g,x0h,x0i,x0j,x0k,Int.reduceEq,Int.reduceLT,Int.reduceLE,Int.reduceToNat,Int.cast_ofNat_Int,List.reduceReplicate]; rfl) ?_
    simp -implicitDefEqProofs only [f1, f2, f3, f3', f4, f5, hp0, hsub, Int.natCast_nonneg, vmp,↓vmd,Env.get,putD,argEnv,List.map,x00,x01,x02,x03,x04,x05,x06,x07,List.take,List.drop,x08,x09,x0a,x0b,List.isEmpty,↓reduceIte,reduceCtorEq,Nat.reduceEqDiff,Nat.reduceAdd,Nat.reduceLeDiff,x0c,Int.reduceNeg,Nat.reduceMul,Nat.reduceSub,x0d,x0e,x0f,x0g,x0h,x0i,x0j,x0k,Int.reduceEq,Int.reduceLT,Int.reduceLE,Int.reduceToNat,Int.cast_ofNat_Int,List.reduceReplicate]
    refine loop_at (T := Nat) (fun j => [(16, .pure (I j)), (8, .pure (LI p)), (11, .pure (I (lastI p + 1))), (14, .pure (I (lastI p + 1)))])
      (fun _ => []) (fun j => 1 ≤ j ∧ j ≤ p.length) (fun j => p.length - j)
      1 [] (by simp) rfl ⟨Nat.le_refl _, by omega⟩ (by simp -implicitDefEqProofs only [kpp,Env.get,x01,x00,x02,x03,List.map,x08,x09,↓reduceIte,reduceCtorEq,Nat.reduceEqDiff,Nat.reduceLeDiff,Nat.reduceLT,Nat.reduceAdd,x0j,x0l,x0m,x0n,x0o,Int.cast_ofNat_Int,x0p,x0i,x07,x06,x0q,x0r,x0s,x0t,x0d,x0u]) (by simp -implicitDefEqProofs only [kpp,Env.get,x01,x00,x02,x03,List.map,x08,x09,↓reduceIte,reduceCtorEq,Nat.reduceEqDiff,Nat.reduceLeDiff,Nat.reduceLT,Nat.reduceAdd,x0j,x0l,x0m,x0n,x0o,Int.cast_ofNat_Int,x0p,x0i,x07,x06,x0q,x0r,x0s,x0t,x0d,x0u]) ?_
    rintro j ⟨hj1, hj⟩
    unfold c8_1
    simp -implicitDefEqProofs only [vmp,↓vmd,Env.get,putD,argEnv,List.map,x00,x01,x02,x03,x04,x05,x06,x07,List.take,List.drop,x08,x09,x0a,x0b,List.isEmpty,↓reduceIte,reduceCtorEq,Nat.reduceEqDiff,Nat.reduceAdd,Nat.reduceLeDiff,x0c,Int.reduceNeg,Nat.reduceMul,Nat.reduceSub,x0d,x0e,x0f,x0g,x0h,x0i,x0j,x0k,Int.reduceEq,Int.reduceLT,Int.reduceLE,Int.reduceToNat,Int.cast_ofNat_Int,List.reduceReplicate]
    refine onIf_intro fun _ => ?_
    simp -implicitDefEqProofs only [vmp,↓vmd,Env.get,putD,argEnv,List.map,x00,x01,x02,x03,x04,x05,x06,x07,List.take,List.drop,x08,x09,x0a,x0b,List.isEmpty,↓reduceIte,reduceCtorEq,Nat.reduceEqDiff,Nat.reduceAdd,Nat.reduceLeDiff,x0c,Int.reduceNeg,Nat.reduceMul,Nat.reduceSub,x0d,x0e,x0f,x0g,x0h,x0i,x0j,x0k,Int.reduceEq,Int.reduceLT,Int.reduceLE,Int.reduceToNat,Int.cast_ofNat_Int,List.reduceReplicate]
    refine onB_dec (fun b1 => ?_) (fun b1 => ?_)
    · have hlt : j < p.length := by omega
      obtain ⟨m, rfl⟩ : ∃ m, j = m + 1 := ⟨j - 1, by omega⟩
      have hw : IntKind.wrap .i64 (((m + 1 : Nat) : Int) - 1) = (m : Int) := by rw [wrap_id (by omega) (by omega)]; omega
      have q1 : (p.map I)[m + 1]? = some (I (intAt p ((m + 1 : Nat) : Int))) := by
        have := intAt_map (ps := p) (y := ((m + 1 : Nat) : Int)) (by omega) (by omega)
        rwa [Int.toNat_natCast] at this
      have q2 : (p.map I)[m]? = some (I (intAt p m)) := by
        have := intAt_map (ps := p) (y := (m : Int)) (by omega) (by omega)
        rwa [Int.toNat_natCast] at this
      have hup := (M.up m hlt).1
      have hno : ¬ (intAt p ((m + 1 : Nat) : Int) ≤ intAt p m) := by
        have e : (((m + 1 : Nat) : Int)) = (m : Int) + 1 := by omega
        rw [e]
        omega
      simp -implicitDefEqProofs only [b1, hw, q1, q2, hno, Int.natCast_nonneg, vmp,↓vmd,Env.get,putD,argEnv,List.map,x00,x01,x02,x03,x04,x05,x06,x07,List.take,List.drop,x08,x09,x0a,x0b,List.isEmpty,↓reduceIte,reduceCtorEq,Nat.reduceEqDiff,Nat.reduceAdd,Nat.reduceLeDiff,x0c,Int.reduceNeg,Nat.reduceMul,Nat.reduceSub,x0d,x0e,x0f,x0g,x0h,x0i,x0j,x0k,Int.reduceEq,Int.reduceLT,Int.reduceLE,Int.reduceToNat,Int.cast_ofNat_Int,List.reduceReplicate]
      refine onBk_to (m + 1 + 1) [] (by simp) rfl (by omega) ⟨by omega, hlt⟩ (by simp -implicitDefEqProofs only [next_at hlt (by omega), kpp,Env.get,x01,x00,x02,x03,List.map,x08,x09,↓reduceIte,reduceCtorEq,Nat.reduceEqDiff,Nat.reduceLeDiff,Nat.reduceLT,Nat.reduceAdd,x0j,x0l,x0m,x0n,x0o,Int.cast_ofNat_Int,x0p,x0i,x07,x06,x0q,x0r,x0s,x0t,x0d,x0u]) (by simp -implicitDefEqProofs only [kpp,Env.get,x01,x00,x02,x03,List.map,x08,x09,↓reduceIte,reduceCtorEq,Nat.reduceEqDiff,Nat.reduceLeDiff,Nat.reduceLT,Nat.reduceAdd,x0j,x0l,x0m,x0n,x0o,Int.cast_ofNat_Int,x0p,x0i,x07,x06,x0q,x0r,x0s,x0t,x0d,x0u])
    · simp -implicitDefEqProofs only [b1, vmp,↓vmd,Env.get,putD,argEnv,List.map,x00,x01,x02,x03,x04,x05,x06,x07,List.take,List.drop,x08,x09,x0a,x0b,List.isEmpty,↓reduceIte,reduceCtorEq,Nat.reduceEqDiff,Nat.reduceAdd,Nat.reduceLeDiff,x0c,Int.reduceNeg,Nat.reduceMul,Nat.reduceSub,x0d,x0e,x0f,x0g,x0h,x0i,x0j,x0k,Int.reduceEq,Int.reduceLT,Int.reduceLE,Int.reduceToNat,Int.cast_ofNat_Int,List.reduceReplicate]
      unfold c8_0
      simp -implicitDefEqProofs only [vmp,↓vmd,Env.get,putD,argEnv,List.map,x00,x01,x02,x03,x04,x05,x06,x07,List.take,List.drop,x08,x09,x0a,x0b,List.isEmpty,↓reduceIte,reduceCtorEq,Nat.reduceEqDiff,Nat.reduceAdd,Nat.reduceLeDiff,x0c,Int.reduceNeg,Nat.reduceMul,Nat.reduceSub,x0d,x0e,x0f,x0g,x0h,x0i,x0j,x0k,Int.reduceEq,Int.reduceLT,Int.reduceLE,Int.reduceToNat,Int.cast_ofNat_Int,List.reduceReplicate]
      refine onIf_intro fun _ => ?_
      have hw : IntKind.wrap .i64 ((p.length : Int) - 1) = (p.length : Int) - 1 := wrap_id (by omega) (by omega)
      have hlast := intAt_map (ps := p) (y := (p.length : Int) - 1) (by omega) (by omega)
      have w0 : 0 ≤ (p.length : Int) - 1 := by omega
      have hx0 := M.x0
      have hlw : IntKind.wrap .i64 (intAt p ((p.length : Int) - 1) + 1) = lastI p + 1 := wrap_id (by rw [lastI] at l0 l1; omega) (by rw [lastI] at l0 l1; omega)
      simp -implicitDefEqProofs only [hw, hlast, w0, hlw, vmp,↓vmd,Env.get,putD,argEnv,List.map,x00,x01,x02,x03,x04,x05,x06,x07,List.take,List.drop,x08,x09,x0a,x0b,List.isEmpty,↓reduceIte,reduceCtorEq,Nat.reduceEqDiff,Nat.reduceAdd,Nat.reduceLeDiff,x0c,Int.reduceNeg,Nat.reduceMul,Nat.reduceSub,x0d,x0e,x0f,x0g,x0h,x0i,x0j,x0k,Int.reduceEq,Int.reduceLT,Int.reduceLE,Int.reduceToNat,Int.cast_ofNat_Int,List.reduceReplicate]
      exact gives_pure
theorem cr_all (vs : List V) (h : OkTs Try.prog Try.f8.params.toList vs) : FnQ Try.prog 8 vs [.bool true] := by
  rw [Try.params8] at h
  match vs, h with
  | [x, y, z], h =>
    obtain ⟨h1, h2, h3, _⟩ := h
    obtain ⟨f, rfl⟩ := font_of h1
    obtain ⟨k, rfl⟩ := lookup_of' h2
    obtain ⟨l, p, rfl⟩ := place29_of (h3 _ _ _ ty_place29)
    exact cr_law f k l p
end Go.Proofs.Ytbllbkhkmngclaa.W
