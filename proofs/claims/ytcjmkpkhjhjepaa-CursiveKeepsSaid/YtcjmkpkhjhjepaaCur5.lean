/-
  Whether numbers are near 0, and that the laws can fail at all.
-/
import Derived.Test.YtcjmkpkhjhjepaaCur4
namespace Go.Proofs.Ytcjmkpkhjhjepaa.W
open Go Go.Vm Go.Proofs
set_option maxRecDepth 100000
set_option linter.unusedSimpArgs false
set_option maxHeartbeats 4000000
/-! typecase/typecaselaw33.far -/
def c35 : AC :=
  (.seq (.reg [⟨some 2, none, .mov (.c (.pure (.bool false)))⟩])
  (.seq (.reg [⟨some 3, none, .mov (.s 0)⟩,
    ⟨some 4, none, .bin .lss (.s 3) (.c (.pure (.int .i64 (-1099511627776))))⟩,
    ⟨some 5, none, .mov (.s 4)⟩,
    ⟨some 6, some (5, false), .mov (.s 0)⟩,
    ⟨some 7, some (5, false), .bin .gtr (.s 6) (.c (.pure (.int .i64 1099511627776)))⟩,
    ⟨some 8, none, .pick (.s 5) (.c (.pure (.bool true))) (.s 7)⟩,
    ⟨some 2, none, .mov (.s 8)⟩])
  .ret))
theorem k35 : (Try.f35.body.bind fun c => cCode Try.prog Try.f35.ntmps RCs c) = some c35 := by kernel_rfl
theorem h35 : (Try.f35.name == "runtime.NumGoroutine") = false := by kernel_rfl
theorem r35 : resC Try.prog Try.f35.results.toList = some [.t 2] := by kernel_rfl
theorem a35 {args : List S} {H : Heap} {K : S → Heap → Prop} (hn : args.length ≤ 9) (h : aWx Try.prog H.length c35 (PostX [.t 2] K) (argEnv 0 args) H) : CallA Try.prog 35 args H K :=
  callA_of_x mixed Try.func35 h35 k35 r35 (by rw [Try.ntmps35]; exact hn) h
theorem q35 {vs ds : List V} (hn : vs.length ≤ 9) (h : aWx Try.prog 0 c35 (PostX [.t 2] (Gives ds)) (argEnv 0 (vs.map .pure)) []) : FnQ Try.prog 35 vs ds :=
  fnQ_of_call (a35 (by simpa using hn) h)
/-! typecase/typecaselaw33.near -/
def c15_0 : AC :=
  (.seq (.reg [⟨some 2, none, .mov (.c (.pure (.bool true)))⟩])
  .ret)
def c15_1 : AC :=
  (.seq (.seq (.reg [⟨some 4, none, .mov (.s 3)⟩,
    ⟨some 5, none, .mov (.s 0)⟩,
    ⟨some 6, none, .len (.s 5)⟩,
    ⟨some 7, none, .bin .lss (.s 4) (.s 6)⟩])
  (.cond (.s 7)
  .skip
  (.exit 0)))
  (.seq (.block 1
  (.seq (.reg [⟨some 10, none, .mov (.s 0)⟩,
    ⟨some 11, none, .mov (.s 3)⟩,
    ⟨some 12, none, .idxA 10 (.s 10) (.s 11)⟩,
    ⟨some 13, none, .fldA 2 (.s 12)⟩,
    ⟨some 14, none, .load false 1 (.s 13)⟩,
    ⟨some 15, none, .call 35 [(.s 14)]⟩,
    ⟨some 16, none, .mov (.s 15)⟩,
    ⟨some 17, some (16, false), .mov (.s 0)⟩,
    ⟨some 18, some (16, false), .mov (.s 3)⟩,
    ⟨some 19, some (16, false), .idxA 10 (.s 17) (.s 18)⟩,
    ⟨some 20, some (16, false), .fldA 3 (.s 19)⟩,
    ⟨some 21, some (16, false), .load false 1 (.s 20)⟩,
    ⟨some 22, some (16, false), .call 35 [(.s 21)]⟩,
    ⟨some 23, none, .pick (.s 16) (.c (.pure (.bool true))) (.s 22)⟩,
    ⟨some 24, none, .mov (.s 23)⟩,
    ⟨some 25, some (24, false), .mov (.s 0)⟩,
    ⟨some 26, some (24, false), .mov (.s 3)⟩,
    ⟨some 27, some (24, false), .idxA 10 (.s 25) (.s 26)⟩,
    ⟨some 28, some (24, false), .fldA 4 (.s 27)⟩,
    ⟨some 29, some (24, false), .load false 1 (.s 28)⟩,
    ⟨some 30, some (24, false), .call 35 [(.s 29)]⟩,
    ⟨some 31, none, .pick (.s 24) (.c (.pure (.bool true))) (.s 30)⟩])
  (.cond (.s 31)
  (.seq (.reg [⟨some 2, none, .mov (.c (.pure (.bool false)))⟩])
  .ret)
  .skip)))
  (.reg [⟨some 8, none, .mov (.s 3)⟩,
    ⟨some 9, none, .bin .add (.s 8) (.c (.pure (.int .i64 1)))⟩,
    ⟨some 3, none, .mov (.s 9)⟩])))
def c15 : AC :=
  (.seq (.reg [⟨some 2, none, .mov (.c (.pure (.bool false)))⟩])
  (.seq (.seq (.reg [⟨some 3, none, .mov (.c (.pure (.int .i64 0)))⟩])
  (.block 0
  (.loop c15_1)))
  c15_0))
theorem k15 : (Try.f15.body.bind fun c => cCode Try.prog Try.f15.ntmps RCs c) = some c15 := by kernel_rfl
theorem h15 : (Try.f15.name == "runtime.NumGoroutine") = false := by kernel_rfl
theorem r15 : resC Try.prog Try.f15.results.toList = some [.t 2] := by kernel_rfl
theorem a15 {args : List S} {H : Heap} {K : S → Heap → Prop} (hn : args.length ≤ 32) (h : aWx Try.prog H.length c15 (PostX [.t 2] K) (argEnv 0 args) H) : CallA Try.prog 15 args H K :=
  callA_of_x mixed Try.func15 h15 k15 r15 (by rw [Try.ntmps15]; exact hn) h
theorem q15 {vs ds : List V} (hn : vs.length ≤ 32) (h : aWx Try.prog 0 c15 (PostX [.t 2] (Gives ds)) (argEnv 0 (vs.map .pure)) []) : FnQ Try.prog 15 vs ds :=
  fnQ_of_call (a15 (by simpa using hn) h)
/-! typecase/typecaselaw33.alive -/
def c12 : AC :=
  (.seq (.reg [⟨some 0, none, .mov (.c (.pure (.bool false)))⟩])
  (.seq (.reg [⟨some 8, none, .build [(.pure (.int .i64 0)), (.pure (.int .i64 0))] [(0, 1, (.c (.pure (.int .i64 50)))), (1, 1, (.c (.pure (.int .i64 10))))]⟩,
    ⟨some 9, none, .build [(.pure (.int .i64 0)), (.pure (.bool false)), (.pure (.bool false)), (.pure (.int .i64 0)), (.pure (.int .i64 0)), (.pure (.int .i64 0)), (.pure (.int .i64 0))] [(0, 1, (.c (.pure (.int .i64 1)))), (2, 1, (.c (.pure (.bool true)))), (5, 2, (.s 8))]⟩,
    ⟨some 10, none, .build [(.pure (.int .i64 0)), (.pure (.int .i64 0))] [(0, 1, (.c (.pure (.int .i64 5)))), (1, 1, (.c (.pure (.int .i64 30))))]⟩,
    ⟨some 11, none, .build [(.pure (.int .i64 0)), (.pure (.bool false)), (.pure (.bool false)), (.pure (.int .i64 0)), (.pure (.int .i64 0)), (.pure (.int .i64 0)), (.pure (.int .i64 0))] [(0, 1, (.c (.pure (.int .i64 2)))), (1, 1, (.c (.pure (.bool true)))), (3, 2, (.s 10))]⟩,
    ⟨some 12, none, .bslice 7 [(.s 9), (.s 11)]⟩,
    ⟨some 13, none, .build [.empty, .empty, .empty, .empty, .empty, .empty, .empty, .empty, .empty, .empty, .empty, .empty] [(9, 1, (.s 12))]⟩,
    ⟨some 14, none, .bslice 12 [(.s 13)]⟩,
    ⟨some 15, none, .build [(.pure (.int .i64 0)), (.pure (.int .i64 0)), (.pure (.int .i64 0)), .empty] [(0, 1, (.c (.pure (.int .i64 8)))), (3, 1, (.s 14))]⟩,
    ⟨some 1, none, .box (.c (.agg [(.pure (.int .i64 0)), (.pure (.int .i64 0)), (.pure (.int .i64 0)), .empty]))⟩,
    ⟨none, none, .store 4 (.s 1) (.s 15)⟩])
  (.seq (.regq [⟨some 16, none, .mksl 4 48 (.agg [(.pure (.int .i64 0)), (.pure (.int .i64 0)), (.pure (.int .i64 0)), .empty]) (.c (.pure (.int .i64 3))) (.c (.pure (.int .i64 3)))⟩,
    ⟨some 17, none, .load true 4 (.s 1)⟩,
    ⟨some 18, none, .bslice 4 [(.s 17)]⟩,
    ⟨some 19, none, .build [(.pure (.int .i64 0)), .empty, .empty, .empty, .empty, .empty] [(0, 1, (.c (.pure (.int .i64 1)))), (1, 1, (.s 16)), (3, 1, (.s 18))]⟩,
    ⟨some 2, none, .box (.c (.agg [(.pure (.int .i64 0)), .empty, .empty, .empty, .empty, .empty]))⟩]
    [⟨none, none, .store 6 (.s 2) (.s 19)⟩])
  (.seq (.reg [⟨some 20, none, .build [(.pure (.int .i64 0)), (.pure (.int .i64 0)), (.pure (.int .i64 0)), (.pure (.int .i64 0)), (.pure (.int .i64 0)), (.pure (.int .i64 0)), (.pure (.int .i64 0)), (.pure (.int .i64 0)), (.pure (.int .i64 0)), (.pure (.int .i64 0))] [(0, 1, (.c (.pure (.int .i64 1)))), (2, 1, (.c (.pure (.int .i64 60)))), (5, 1, (.c (.pure (.int .i64 (-1))))), (6, 1, (.c (.pure (.int .i64 (-1)))))]⟩,
    ⟨some 21, none, .build [(.pure (.int .i64 0)), (.pure (.int .i64 0)), (.pure (.int .i64 0)), (.pure (.int .i64 0)), (.pure (.int .i64 0)), (.pure (.int .i64 0)), (.pure (.int .i64 0)), (.pure (.int .i64 0)), (.pure (.int .i64 0)), (.pure (.int .i64 0))] [(0, 1, (.c (.pure (.int .i64 2)))), (1, 1, (.c (.pure (.int .i64 1)))), (2, 1, (.c (.pure (.int .i64 40)))), (5, 1, (.c (.pure (.int .i64 (-1))))), (6, 1, (.c (.pure (.int .i64 (-1)))))]⟩,
    ⟨some 22, none, .build [(.pure (.int .i64 0)), (.pure (.int .i64 0)), (.pure (.int .i64 0)), (.pure (.int .i64 0)), (.pure (.int .i64 0)), (.pure (.int .i64 0)), (.pure (.int .i64 0)), (.pure (.int .i64 0)), (.pure (.int .i64 0)), (.pure (.int .i64 0))] [(0, 1, (.c (.pure (.int .i64 1)))), (1, 1, (.c (.pure (.int .i64 2)))), (2, 1, (.c (.pure (.int .i64 60)))), (5, 1, (.c (.pure (.int .i64 (-1))))), (6, 1, (.c (.pure (.int .i64 (-1)))))]⟩,
    ⟨some 23, none, .bslice 10 [(.s 20), (.s 21), (.s 22)]⟩,
    ⟨some 3, none, .mov (.s 23)⟩])
  (.seq (.reg [⟨some 25, none, .load true 6 (.s 2)⟩,
    ⟨some 26, none, .load true 4 (.s 1)⟩,
    ⟨some 27, none, .mov (.s 3)⟩,
    ⟨some 28, none, .call 16 [(.s 25), (.s 26), (.s 27), (.c (.pure (.int .i64 0)))]⟩,
    ⟨some 24, none, .mov (.s 28)⟩,
    ⟨some 29, none, .ext 0 (.s 24)⟩,
    ⟨some 30, none, .ext 1 (.s 24)⟩,
    ⟨some 31, none, .ext 2 (.s 24)⟩,
    ⟨some 4, none, .mov (.s 29)⟩,
    ⟨some 5, none, .mov (.s 30)⟩,
    ⟨some 6, none, .mov (.s 31)⟩])
  (.seq (.reg [⟨some 32, none, .load true 6 (.s 2)⟩,
    ⟨some 33, none, .load true 4 (.s 1)⟩,
    ⟨some 34, none, .mov (.s 3)⟩,
    ⟨some 35, none, .call 18 [(.s 32), (.s 33), (.s 34)]⟩,
    ⟨some 7, none, .mov (.s 35)⟩])
  (.seq (.reg [⟨some 36, none, .mov (.s 6)⟩,
    ⟨some 37, none, .mov (.s 36)⟩,
    ⟨some 38, some (37, true), .mov (.s 5)⟩,
    ⟨some 39, some (37, true), .bin .eql (.s 38) (.c (.pure (.int .i64 1)))⟩,
    ⟨some 40, none, .pick (.s 37) (.s 39) (.c (.pure (.bool false)))⟩,
    ⟨some 41, none, .mov (.s 40)⟩,
    ⟨some 42, some (41, true), .mov (.s 4)⟩,
    ⟨some 43, some (41, true), .len (.s 42)⟩,
    ⟨some 44, some (41, true), .bin .eql (.s 43) (.c (.pure (.int .i64 3)))⟩,
    ⟨some 45, none, .pick (.s 41) (.s 44) (.c (.pure (.bool false)))⟩,
    ⟨some 46, none, .mov (.s 45)⟩,
    ⟨some 47, some (46, true), .mov (.s 4)⟩,
    ⟨some 48, some (46, true), .idxA 10 (.s 47) (.c (.pure (.int .i64 0)))⟩,
    ⟨some 49, some (46, true), .fldA 2 (.s 48)⟩,
    ⟨some 50, some (46, true), .load false 1 (.s 49)⟩,
    ⟨some 51, some (46, true), .bin .eql (.s 50) (.c (.pure (.int .i64 50)))⟩,
    ⟨some 52, none, .pick (.s 46) (.s 51) (.c (.pure (.bool false)))⟩,
    ⟨some 53, none, .mov (.s 52)⟩,
    ⟨some 54, some (53, true), .mov (.s 4)⟩,
    ⟨some 55, some (53, true), .idxA 10 (.s 54) (.c (.pure (.int .i64 1)))⟩,
    ⟨some 56, some (53, true), .fldA 2 (.s 55)⟩,
    ⟨some 57, some (53, true), .load false 1 (.s 56)⟩,
    ⟨some 58, some (53, true), .bin .eql (.s 57) (.c (.pure (.int .i64 35)))⟩,
    ⟨some 59, none, .pick (.s 53) (.s 58) (.c (.pure (.bool false)))⟩,
    ⟨some 60, none, .mov (.s 59)⟩,
    ⟨some 61, some (60, true), .mov (.s 4)⟩,
    ⟨some 62, some (60, true), .idxA 10 (.s 61) (.c (.pure (.int .i64 1)))⟩,
    ⟨some 63, some (60, true), .fldA 3 (.s 62)⟩,
    ⟨some 64, some (60, true), .load false 1 (.s 63)⟩,
    ⟨some 65, some (60, true), .bin .eql (.s 64) (.c (.pure (.int .i64 (-5))))⟩,
    ⟨some 66, none, .pick (.s 60) (.s 65) (.c (.pure (.bool false)))⟩,
    ⟨some 67, none, .mov (.s 66)⟩,
    ⟨some 68, some (67, true), .mov (.s 4)⟩,
    ⟨some 69, some (67, true), .idxA 10 (.s 68) (.c (.pure (.int .i64 1)))⟩,
    ⟨some 70, some (67, true), .fldA 4 (.s 69)⟩,
    ⟨some 71, some (67, true), .load false 1 (.s 70)⟩,
    ⟨some 72, some (67, true), .bin .eql (.s 71) (.c (.pure (.int .i64 (-20))))⟩,
    ⟨some 73, none, .pick (.s 67) (.s 72) (.c (.pure (.bool false)))⟩,
    ⟨some 74, none, .mov (.s 73)⟩,
    ⟨some 75, some (74, true), .mov (.s 4)⟩,
    ⟨some 76, some (74, true), .idxA 10 (.s 75) (.c (.pure (.int .i64 1)))⟩,
    ⟨some 77, some (74, true), .fldA 6 (.s 76)⟩,
    ⟨some 78, some (74, true), .load false 1 (.s 77)⟩,
    ⟨some 79, some (74, true), .bin .eql (.s 78) (.c (.pure (.int .i64 0)))⟩,
    ⟨some 80, none, .pick (.s 74) (.s 79) (.c (.pure (.bool false)))⟩,
    ⟨some 81, none, .mov (.s 80)⟩,
    ⟨some 82, some (81, true), .mov (.s 7)⟩,
    ⟨some 83, some (81, true), .len (.s 82)⟩,
    ⟨some 84, some (81, true), .bin .eql (.s 83) (.c (.pure (.int .i64 1)))⟩,
    ⟨some 85, none, .pick (.s 81) (.s 84) (.c (.pure (.bool false)))⟩,
    ⟨some 86, none, .mov (.s 85)⟩,
    ⟨some 87, some (86, true), .mov (.s 7)⟩,
    ⟨some 88, some (86, true), .idxA 2 (.s 87) (.c (.pure (.int .i64 0)))⟩,
    ⟨some 89, some (86, true), .load true 2 (.s 88)⟩,
    ⟨some 90, some (86, true), .build [(.pure (.int .i64 0)), (.pure (.int .i64 0))] [(1, 1, (.c (.pure (.int .i64 2))))]⟩,
    ⟨some 91, some (86, true), .eqv false [.i, .i] (.s 89) (.s 90)⟩,
    ⟨some 92, none, .pick (.s 86) (.s 91) (.c (.pure (.bool false)))⟩,
    ⟨some 0, none, .mov (.s 92)⟩])
  .ret)))))))
theorem k12 : (Try.f12.body.bind fun c => cCode Try.prog Try.f12.ntmps RCs c) = some c12 := by kernel_rfl
theorem h12 : (Try.f12.name == "runtime.NumGoroutine") = false := by kernel_rfl
theorem r12 : resC Try.prog Try.f12.results.toList = some [.t 0] := by kernel_rfl
theorem a12 {args : List S} {H : Heap} {K : S → Heap → Prop} (hn : args.length ≤ 93) (h : aWx Try.prog H.length c12 (PostX [.t 0] K) (argEnv 0 args) H) : CallA Try.prog 12 args H K :=
  callA_of_x mixed Try.func12 h12 k12 r12 (by rw [Try.ntmps12]; exact hn) h
theorem q12 {vs ds : List V} (hn : vs.length ≤ 93) (h : aWx Try.prog 0 c12 (PostX [.t 0] (Gives ds)) (argEnv 0 (vs.map .pure)) []) : FnQ Try.prog 12 vs ds :=
  fnQ_of_call (a12 (by simpa using hn) h)

def farI (n : Int) : Bool := decide (n < -1099511627776) || decide (n > 1099511627776)
theorem far33_q (n : Int) : FnQ Try.prog 35 [I n] [.bool (farI n)] := by
  refine q35 (by simp) ?_
  unfold c35
  have ho : farI n = (decide (n < -1099511627776) || decide (n > 1099511627776)) := rfl
  generalize farI n = out at *
  simp -implicitDefEqProofs only [vmp,↓vmd,seval]
  refine onB_dec (fun h1 => ?_) (fun h1 => ?_)
  · rw [decide_eq_true h1, Bool.true_or] at ho
    subst ho
    (first | apply envO | apply envQ); simp -implicitDefEqProofs only [h1, vmp,↓vmd,seval]; rfl
    simp -implicitDefEqProofs only [h1, vmp,↓vmd,seval]
    exact gives_pure
  · rw [decide_eq_false h1, Bool.false_or] at ho
    subst ho
    (first | apply envO | apply envQ); simp -implicitDefEqProofs only [h1, vmp,↓vmd,seval]; rfl
    simp -implicitDefEqProofs only [h1, vmp,↓vmd,seval]
    exact gives_pure
def farG (g : Gl) : Bool := farI g.adv || farI g.dx || farI g.dy
def nearL (ls : List Gl) : Bool := !(ls.any farG)
theorem near33_q (ls : List Gl) : FnQ Try.prog 15 [.sl (ls.map gl)] [.bool (nearL ls)] := by
  refine q15 (by simp) ?_
  unfold c15
  have ho : (!(ls.any farG)) = nearL ls := rfl
  generalize nearL ls = out at *
  simp -implicitDefEqProofs only [vmp,↓vmd,seval]
  refine loop_at (T := Nat) (fun i => [(3, .pure (I (i : Int))), (0, .pure (.sl (ls.map gl)))]) (fun _ => []) (fun i => i ≤ ls.length ∧ (!((ls.drop i).any farG)) = out) (fun i => ls.length - i)
    0 [] (by simp) rfl ⟨by simp, by simpa using ho⟩ (by simp -implicitDefEqProofs only [kpp,seval]) (by simp -implicitDefEqProofs only [kpp,seval]) ?_
  rintro i ⟨hi, hr⟩
  unfold c15_1
  simp -implicitDefEqProofs only [vmp,↓vmd,seval]
  refine onIf_intro fun _ => ?_
  (first | apply envO | apply envQ); simp -implicitDefEqProofs only [vmp,↓vmd,seval]; rfl
  simp -implicitDefEqProofs only [vmp,↓vmd,seval]
  refine onB_dec (fun h1 => ?_) (fun h1 => ?_)
  · have hlt : i < ls.length := by omega
    rw [drop_at hlt, List.any_cons, farG] at hr
    have hgi : (ls.map gl)[i]? = some (gl ls[i]) := map_at hlt
    generalize ls[i] = g at hr hgi
    have f1 := far33_q g.adv
    have f2 := far33_q g.dx
    have f3 := far33_q g.dy
    generalize farI g.adv = b1 at *
    generalize farI g.dx = b2 at *
    generalize farI g.dy = b3 at *
    simp -implicitDefEqProofs only [h1, hgi, Int.natCast_nonneg, vmp,↓vmd,seval]
    first | refine onC_q f1 rfl ?_ | refine onQ_q f1 rfl ?_
    cases b1 with
    | true =>
      simp only [Bool.true_or, Bool.not_true] at hr
      subst hr
      (first | apply envO | apply envQ); simp -implicitDefEqProofs only [vmp,↓vmd,seval]; rfl
      simp -implicitDefEqProofs only [vmp,↓vmd,seval]
      exact gives_pure
    | false =>
      (first | apply envO | apply envQ); simp -implicitDefEqProofs only [vmp,↓vmd,seval]; rfl
      simp -implicitDefEqProofs only [hgi, Int.natCast_nonneg, vmp,↓vmd,seval]
      first | refine onC_q f2 rfl ?_ | refine onQ_q f2 rfl ?_
      cases b2 with
      | true =>
        simp only [Bool.true_or, Bool.or_true, Bool.not_true] at hr
        subst hr
        (first | apply envO | apply envQ); simp -implicitDefEqProofs only [vmp,↓vmd,seval]; rfl
        simp -implicitDefEqProofs only [vmp,↓vmd,seval]
        exact gives_pure
      | false =>
        (first | apply envO | apply envQ); simp -implicitDefEqProofs only [vmp,↓vmd,seval]; rfl
        simp -implicitDefEqProofs only [hgi, Int.natCast_nonneg, vmp,↓vmd,seval]
        first | refine onC_q f3 rfl ?_ | refine onQ_q f3 rfl ?_
        cases b3 with
        | true =>
          simp only [Bool.true_or, Bool.or_true, Bool.not_true] at hr
          subst hr
          (first | apply envO | apply envQ); simp -implicitDefEqProofs only [vmp,↓vmd,seval]; rfl
          simp -implicitDefEqProofs only [vmp,↓vmd,seval]
          exact gives_pure
        | false =>
          simp only [Bool.false_or] at hr
          (first | apply envO | apply envQ); simp -implicitDefEqProofs only [vmp,↓vmd,seval]; rfl
          simp -implicitDefEqProofs only [vmp,↓vmd,seval]
          refine onBk_to (i + 1) [] (by simp) rfl (by omega) ⟨hlt, hr⟩ (by simp -implicitDefEqProofs only [next_at hlt (by omega), kpp,seval]) (by simp -implicitDefEqProofs only [kpp,seval])
  · rw [List.drop_of_length_le (by omega)] at hr
    subst hr
    simp -implicitDefEqProofs only [h1, vmp,↓vmd,seval]
    unfold c15_0
    simp -implicitDefEqProofs only [vmp,↓vmd,seval]
    exact gives_pure
def aK33 : Lk := ⟨8, 0, 0, [⟨[], [], [], [], [], [], [], [], [], [⟨1, false, true, 0, 0, 50, 10⟩, ⟨2, true, false, 5, 30, 0, 0⟩], [], []⟩]⟩
def aF33 : Fo := ⟨I 1, [⟨0, 0, 0, .sl []⟩, ⟨0, 0, 0, .sl []⟩, ⟨0, 0, 0, .sl []⟩], .sl [], .sl [lk aK33], .sl [], []⟩
def aL33 : List Gl := [⟨1, 0, 60, 0, 0, -1, -1, 0, 0, 0⟩, ⟨2, 1, 40, 0, 0, -1, -1, 0, 0, 0⟩, ⟨1, 2, 60, 0, 0, -1, -1, 0, 0, 0⟩]
theorem a33_1 : curD aF33 aK33 aL33 0 = some (1, [⟨1, 0, 50, 0, 0, -1, -1, 0, 0, 0⟩, ⟨2, 1, 35, -5, -20, -1, 0, 0, 0, 0⟩, ⟨1, 2, 60, 0, 0, -1, -1, 0, 0, 0⟩]) := by decide
theorem a33_2 : chainF aF33 aK33 aL33 = [⟨0, 2⟩] := by decide
theorem c33_1 : FnQ Try.prog 16 [fo aF33, lk aK33, .sl (aL33.map gl), I 0] [.sl [gl ⟨1, 0, 50, 0, 0, -1, -1, 0, 0, 0⟩, gl ⟨2, 1, 35, -5, -20, -1, 0, 0, 0, 0⟩, gl ⟨1, 2, 60, 0, 0, -1, -1, 0, 0, 0⟩], I 1, .bool true] := by
  have h := capply_q aF33 aK33 aL33 (by decide) 0
  rw [curA, a33_1] at h
  exact h
theorem c33_2 : FnQ Try.prog 18 [fo aF33, lk aK33, .sl (aL33.map gl)] [.sl [ct ⟨0, 2⟩]] := by
  have h := chains_q aF33 aK33 aL33 (by decide)
  rw [a33_2] at h
  exact h
theorem alive33_q : FnQ Try.prog 12 [] [.bool true] := by
  refine q12 (by simp) ?_
  unfold c12
  simp -implicitDefEqProofs only [*, vmp,↓vmd,seval]
  refine onIf'_intro (by simp [maxLen]) ?_
  simp -implicitDefEqProofs only [*, vmp,↓vmd,seval]
  refine onC_frz 0 (onC_frz 1 (onC_frz 2 (onC_frz 3 (onC_frz 4 (onC_frz 5 (onC_frz 6 ?_))))))
  simp -implicitDefEqProofs only [vmp,↓vmd,seval]
  refine onC_q c33_1 rfl ?_
  (first | apply envO | apply envQ); simp -implicitDefEqProofs only [vmp,↓vmd,seval]; rfl
  simp -implicitDefEqProofs only [vmp,↓vmd,seval]
  refine onC_q c33_2 rfl ?_
  (first | apply envO | apply envQ); simp -implicitDefEqProofs only [vmp,↓vmd,seval]; rfl
  simp -implicitDefEqProofs only [vmp,↓vmd,seval]
  exact gives_pure
end Go.Proofs.Ytcjmkpkhjhjepaa.W
