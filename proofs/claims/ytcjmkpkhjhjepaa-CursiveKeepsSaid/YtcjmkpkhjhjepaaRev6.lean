/-
  Whether a row of glyphs is right: the document's function. No condition but on sizes.
-/
import Derived.Test.YtcjmkpkhjhjepaaRightD
import Derived.Test.YtcjmkpkhjhjepaaStops
namespace Go.Proofs.Ytcjmkpkhjhjepaa.W
open Go Go.Vm Go.Proofs
set_option maxRecDepth 100000
set_option linter.unusedSimpArgs false
set_option maxHeartbeats 4000000
/-! typecase/typecaseref25.place -/
def c58 : AC :=
  (.seq (.reg [⟨some 4, none, .mov (.c (.pure (.bool false)))⟩])
  (.seq (.reg [⟨some 5, none, .mov (.s 0)⟩,
    ⟨some 6, none, .bin .eql (.s 5) (.c (.pure (.int .i64 (-1))))⟩,
    ⟨some 7, none, .mov (.s 6)⟩,
    ⟨some 8, some (7, false), .mov (.s 0)⟩,
    ⟨some 9, some (7, false), .bin .geq (.s 8) (.c (.pure (.int .i64 0)))⟩,
    ⟨some 10, some (7, false), .mov (.s 9)⟩,
    ⟨some 11, some (10, true), .mov (.s 0)⟩,
    ⟨some 12, some (10, true), .mov (.s 1)⟩,
    ⟨some 13, some (10, true), .bin .lss (.s 11) (.s 12)⟩,
    ⟨some 14, some (7, false), .pick (.s 10) (.s 13) (.c (.pure (.bool false)))⟩,
    ⟨some 15, none, .pick (.s 7) (.c (.pure (.bool true))) (.s 14)⟩,
    ⟨some 4, none, .mov (.s 15)⟩])
  .ret))
theorem k58 : (Try.f58.body.bind fun c => cCode Try.prog Try.f58.ntmps RCs c) = some c58 := by kernel_rfl
theorem h58 : (Try.f58.name == "runtime.NumGoroutine") = false := by kernel_rfl
theorem r58 : resC Try.prog Try.f58.results.toList = some [.t 4] := by kernel_rfl
theorem a58 {args : List S} {H : Heap} {K : S → Heap → Prop} (hn : args.length ≤ 16) (h : aWx Try.prog H.length c58 (PostX [.t 4] K) (argEnv 0 args) H) : CallA Try.prog 58 args H K :=
  callA_of_x mixed Try.func58 h58 k58 r58 (by rw [Try.ntmps58]; exact hn) h
theorem q58 {vs ds : List V} (hn : vs.length ≤ 16) (h : aWx Try.prog 0 c58 (PostX [.t 4] (Gives ds)) (argEnv 0 (vs.map .pure)) []) : FnQ Try.prog 58 vs ds :=
  fnQ_of_call (a58 (by simpa using hn) h)
/-! typecase/typecaseref25.Right -/
def c34_0 : AC :=
  (.seq (.reg [⟨some 2, none, .mov (.c (.pure (.bool true)))⟩])
  .ret)
def c34_1 : AC :=
  (.seq (.seq (.reg [⟨some 4, none, .mov (.s 3)⟩,
    ⟨some 5, none, .mov (.s 0)⟩,
    ⟨some 6, none, .len (.s 5)⟩,
    ⟨some 7, none, .bin .lss (.s 4) (.s 6)⟩])
  (.cond (.s 7)
  .skip
  (.exit 0)))
  (.seq (.block 1
  (.seq (.regq [⟨some 10, none, .mov (.s 3)⟩,
    ⟨some 11, none, .bin .gtr (.s 10) (.c (.pure (.int .i64 0)))⟩,
    ⟨some 12, none, .mov (.s 11)⟩,
    ⟨some 13, some (12, true), .mov (.s 0)⟩,
    ⟨some 14, some (12, true), .mov (.s 3)⟩,
    ⟨some 15, some (12, true), .idxA 10 (.s 13) (.s 14)⟩,
    ⟨some 16, some (12, true), .fldA 1 (.s 15)⟩,
    ⟨some 17, some (12, true), .load false 1 (.s 16)⟩,
    ⟨some 18, some (12, true), .mov (.s 0)⟩,
    ⟨some 19, some (12, true), .mov (.s 3)⟩,
    ⟨some 20, some (12, true), .bin .sub (.s 19) (.c (.pure (.int .i64 1)))⟩,
    ⟨some 21, some (12, true), .idxA 10 (.s 18) (.s 20)⟩,
    ⟨some 22, some (12, true), .fldA 1 (.s 21)⟩,
    ⟨some 23, some (12, true), .load false 1 (.s 22)⟩,
    ⟨some 24, some (12, true), .bin .lss (.s 17) (.s 23)⟩,
    ⟨some 25, none, .pick (.s 12) (.s 24) (.c (.pure (.bool false)))⟩,
    ⟨some 26, none, .mov (.s 25)⟩,
    ⟨some 27, some (26, false), .mov (.s 0)⟩,
    ⟨some 28, some (26, false), .mov (.s 3)⟩,
    ⟨some 29, some (26, false), .idxA 10 (.s 27) (.s 28)⟩,
    ⟨some 30, some (26, false), .fldA 5 (.s 29)⟩,
    ⟨some 31, some (26, false), .load false 1 (.s 30)⟩,
    ⟨some 32, some (26, false), .mov (.s 0)⟩,
    ⟨some 33, some (26, false), .len (.s 32)⟩,
    ⟨some 34, some (26, false), .call 58 [(.s 31), (.s 33)]⟩,
    ⟨some 35, some (26, false), .un .not (.s 34)⟩,
    ⟨some 36, none, .pick (.s 26) (.c (.pure (.bool true))) (.s 35)⟩,
    ⟨some 37, none, .mov (.s 36)⟩,
    ⟨some 38, some (37, false), .mov (.s 0)⟩,
    ⟨some 39, some (37, false), .mov (.s 3)⟩,
    ⟨some 40, some (37, false), .idxA 10 (.s 38) (.s 39)⟩,
    ⟨some 41, some (37, false), .fldA 6 (.s 40)⟩,
    ⟨some 42, some (37, false), .load false 1 (.s 41)⟩,
    ⟨some 43, some (37, false), .mov (.s 0)⟩,
    ⟨some 44, some (37, false), .len (.s 43)⟩]
    [⟨some 45, some (37, false), .call 58 [(.s 42), (.s 44)]⟩,
    ⟨some 46, some (37, false), .un .not (.s 45)⟩,
    ⟨some 47, none, .pick (.s 37) (.c (.pure (.bool true))) (.s 46)⟩])
  (.cond (.s 47)
  (.seq (.reg [⟨some 2, none, .mov (.c (.pure (.bool false)))⟩])
  .ret)
  .skip)))
  (.reg [⟨some 8, none, .mov (.s 3)⟩,
    ⟨some 9, none, .bin .add (.s 8) (.c (.pure (.int .i64 1)))⟩,
    ⟨some 3, none, .mov (.s 9)⟩])))
def c34 : AC :=
  (.seq (.reg [⟨some 2, none, .mov (.c (.pure (.bool false)))⟩])
  (.seq (.seq (.reg [⟨some 3, none, .mov (.c (.pure (.int .i64 0)))⟩])
  (.block 0
  (.loop c34_1)))
  c34_0))
theorem k34 : (Try.f34.body.bind fun c => cCode Try.prog Try.f34.ntmps RCs c) = some c34 := by kernel_rfl
theorem h34 : (Try.f34.name == "runtime.NumGoroutine") = false := by kernel_rfl
theorem r34 : resC Try.prog Try.f34.results.toList = some [.t 2] := by kernel_rfl
theorem a34 {args : List S} {H : Heap} {K : S → Heap → Prop} (hn : args.length ≤ 48) (h : aWx Try.prog H.length c34 (PostX [.t 2] K) (argEnv 0 args) H) : CallA Try.prog 34 args H K :=
  callA_of_x mixed Try.func34 h34 k34 r34 (by rw [Try.ntmps34]; exact hn) h
theorem q34 {vs ds : List V} (hn : vs.length ≤ 48) (h : aWx Try.prog 0 c34 (PostX [.t 2] (Gives ds)) (argEnv 0 (vs.map .pure)) []) : FnQ Try.prog 34 vs ds :=
  fnQ_of_call (a34 (by simpa using hn) h)

theorem place25_q (n : Int) (m : Nat) : FnQ Try.prog 58 [I n, I (m : Int)] [.bool (placeF n m)] := by
  refine q58 (by simp) ?_
  unfold c58
  have hp : placeF n m = (decide (-1 ≤ n) && decide (n < m)) := rfl
  generalize placeF n m = out at *
  simp -implicitDefEqProofs only [vmp,↓vmd,seval]
  by_cases h1 : n = -1
  · have ho : out = true := by rw [hp, decide_eq_true (show (-1 : Int) ≤ n by omega), decide_eq_true (show n < (m : Int) by omega)]; rfl
    subst ho
    refine onB_pos h1 ?_
    (first | apply envO | apply envQ); simp -implicitDefEqProofs only [h1, vmp,↓vmd,seval]; rfl
    simp -implicitDefEqProofs only [h1, vmp,↓vmd,seval]
    exact gives_pure
  · refine onB_neg h1 ?_
    (first | apply envO | apply envQ); simp -implicitDefEqProofs only [h1, vmp,↓vmd,seval]; rfl
    simp -implicitDefEqProofs only [h1, vmp,↓vmd,seval]
    by_cases h2 : 0 ≤ n
    · rw [decide_eq_true (show (-1 : Int) ≤ n by omega), Bool.true_and] at hp
      subst hp
      refine onB_pos h2 ?_
      (first | apply envO | apply envQ); simp -implicitDefEqProofs only [h2, vmp,↓vmd,seval]; rfl
      simp -implicitDefEqProofs only [h2, vmp,↓vmd,seval]
      exact gives_pure
    · rw [decide_eq_false (show ¬ (-1 : Int) ≤ n by omega), Bool.false_and] at hp
      subst hp
      refine onB_neg h2 ?_
      (first | apply envO | apply envQ); simp -implicitDefEqProofs only [h2, vmp,↓vmd,seval]; rfl
      simp -implicitDefEqProofs only [h2, vmp,↓vmd,seval]
      exact gives_pure
end Go.Proofs.Ytcjmkpkhjhjepaa.W
