/-
  Ligatures: which lists and ligatures are the same, the sizes that the laws ask for. No condition.
-/
import Derived.Test.YtbllbkhkmngclaaCIndex
import Derived.Test.YtbllbkhkmngclaaMoved
import Derived.Test.YtbllbkhkmngclaaGls
import Derived.Test.YtbllbkhkmngclaaStops
namespace Go.Proofs.Ytbllbkhkmngclaa.W
open Go Go.Vm Go.Proofs
set_option maxRecDepth 100000
set_option linter.unusedSimpArgs false
set_option maxHeartbeats 4000000
/-! typecase/typecaselaw28.numbers -/
def c37_0 : AC :=
  (.seq (.reg [⟨some 4, none, .mov (.c (.pure (.bool true)))⟩])
  .ret)
def c37_1 : AC :=
  (.seq (.reg [⟨some 14, none, .bin .lss (.s 13) (.s 12)⟩])
  (.seq (.cond (.s 14)
  .skip
  (.exit 0))
  (.seq (.block 1
  (.seq (.reg [⟨some 15, none, .mov (.s 13)⟩,
    ⟨some 5, none, .mov (.s 15)⟩])
  (.seq (.regq [⟨some 16, none, .mov (.s 0)⟩,
    ⟨some 17, none, .mov (.s 5)⟩,
    ⟨some 18, none, .idxA 1 (.s 16) (.s 17)⟩,
    ⟨some 19, none, .load false 1 (.s 18)⟩,
    ⟨some 20, none, .mov (.s 1)⟩,
    ⟨some 21, none, .mov (.s 5)⟩,
    ⟨some 22, none, .idxA 1 (.s 20) (.s 21)⟩,
    ⟨some 23, none, .load false 1 (.s 22)⟩]
    [⟨some 24, none, .bin .neq (.s 19) (.s 23)⟩])
  (.cond (.s 24)
  (.seq (.reg [⟨some 4, none, .mov (.c (.pure (.bool false)))⟩])
  .ret)
  .skip))))
  (.reg [⟨some 25, none, .bin .add (.s 13) (.c (.pure (.int .i64 1)))⟩,
    ⟨some 13, none, .mov (.s 25)⟩]))))
def c37 : AC :=
  (.seq (.reg [⟨some 4, none, .mov (.c (.pure (.bool false)))⟩])
  (.seq (.seq (.reg [⟨some 6, none, .mov (.s 0)⟩,
    ⟨some 7, none, .len (.s 6)⟩,
    ⟨some 8, none, .mov (.s 1)⟩,
    ⟨some 9, none, .len (.s 8)⟩,
    ⟨some 10, none, .bin .neq (.s 7) (.s 9)⟩])
  (.cond (.s 10)
  (.seq (.reg [⟨some 4, none, .mov (.c (.pure (.bool false)))⟩])
  .ret)
  .skip))
  (.seq (.seq (.reg [⟨some 11, none, .mov (.s 0)⟩,
    ⟨some 12, none, .len (.s 11)⟩,
    ⟨some 13, none, .mov (.c (.pure (.int .i64 0)))⟩])
  (.block 0
  (.loop c37_1)))
  c37_0)))
theorem k37 : (Try.f37.body.bind fun c => cCode Try.prog Try.f37.ntmps RCs c) = some c37 := by kernel_rfl
theorem h37 : (Try.f37.name == "runtime.NumGoroutine") = false := by kernel_rfl
theorem r37 : resC Try.prog Try.f37.results.toList = some [.t 4] := by kernel_rfl
theorem a37 {args : List S} {H : Heap} {K : S → Heap → Prop} (hn : args.length ≤ 26) (h : aWx Try.prog H.length c37 (PostX [.t 4] K) (argEnv 0 args) H) : CallA Try.prog 37 args H K :=
  callA_of_x mixed Try.func37 h37 k37 r37 (by rw [Try.ntmps37]; exact hn) h
theorem q37 {vs ds : List V} (hn : vs.length ≤ 26) (h : aWx Try.prog 0 c37 (PostX [.t 4] (Gives ds)) (argEnv 0 (vs.map .pure)) []) : FnQ Try.prog 37 vs ds :=
  fnQ_of_call (a37 (by simpa using hn) h)
/-! typecase/typecaselaw28.same -/
def c36 : AC :=
  (.seq (.reg [⟨some 2, none, .box (.s 0)⟩,
    ⟨some 3, none, .box (.s 1)⟩,
    ⟨some 4, none, .mov (.c (.pure (.bool false)))⟩])
  (.seq (.reg [⟨some 5, none, .fldA 1 (.s 2)⟩,
    ⟨some 6, none, .load false 1 (.s 5)⟩,
    ⟨some 7, none, .fldA 1 (.s 3)⟩,
    ⟨some 8, none, .load false 1 (.s 7)⟩,
    ⟨some 9, none, .bin .eql (.s 6) (.s 8)⟩,
    ⟨some 10, none, .mov (.s 9)⟩,
    ⟨some 11, some (10, true), .fldA 0 (.s 2)⟩,
    ⟨some 12, some (10, true), .load false 1 (.s 11)⟩,
    ⟨some 13, some (10, true), .fldA 0 (.s 3)⟩,
    ⟨some 14, some (10, true), .load false 1 (.s 13)⟩,
    ⟨some 15, some (10, true), .call 37 [(.s 12), (.s 14)]⟩,
    ⟨some 16, none, .pick (.s 10) (.s 15) (.c (.pure (.bool false)))⟩,
    ⟨some 4, none, .mov (.s 16)⟩])
  .ret))
theorem k36 : (Try.f36.body.bind fun c => cCode Try.prog Try.f36.ntmps RCs c) = some c36 := by kernel_rfl
theorem h36 : (Try.f36.name == "runtime.NumGoroutine") = false := by kernel_rfl
theorem r36 : resC Try.prog Try.f36.results.toList = some [.t 4] := by kernel_rfl
theorem a36 {args : List S} {H : Heap} {K : S → Heap → Prop} (hn : args.length ≤ 17) (h : aWx Try.prog H.length c36 (PostX [.t 4] K) (argEnv 0 args) H) : CallA Try.prog 36 args H K :=
  callA_of_x mixed Try.func36 h36 k36 r36 (by rw [Try.ntmps36]; exact hn) h
theorem q36 {vs ds : List V} (hn : vs.length ≤ 17) (h : aWx Try.prog 0 c36 (PostX [.t 4] (Gives ds)) (argEnv 0 (vs.map .pure)) []) : FnQ Try.prog 36 vs ds :=
  fnQ_of_call (a36 (by simpa using hn) h)
/-! typecase/typecaselaw28.light -/
def c32_0 : AC :=
  (.seq (.reg [⟨some 4, none, .mov (.c (.pure (.bool true)))⟩])
  .ret)
def c32_1 : AC :=
  (.reg [⟨some 71, none, .bin .add (.s 35) (.c (.pure (.int .i64 1)))⟩,
    ⟨some 35, none, .mov (.s 71)⟩])
def c32_2 : AC :=
  (.reg [⟨some 70, none, .bin .add (.s 52) (.c (.pure (.int .i64 1)))⟩,
    ⟨some 52, none, .mov (.s 70)⟩])
def c32_3 : AC :=
  (.seq (.reg [⟨some 62, none, .bin .lss (.s 61) (.s 60)⟩])
  (.seq (.cond (.s 62)
  .skip
  (.exit 6))
  (.seq (.block 7
  (.seq (.reg [⟨some 63, none, .idxA 2 (.s 59) (.s 61)⟩,
    ⟨some 64, none, .load true 2 (.s 63)⟩,
    ⟨some 12, none, .box (.c (.agg [.empty, (.pure (.int .i64 0))]))⟩,
    ⟨none, none, .store 2 (.s 12) (.s 64)⟩])
  (.seq (.reg [⟨some 65, none, .fldA 0 (.s 12)⟩,
    ⟨some 66, none, .load false 1 (.s 65)⟩,
    ⟨some 67, none, .len (.s 66)⟩,
    ⟨some 68, none, .bin .gtr (.s 67) (.c (.pure (.int .i64 40)))⟩])
  (.cond (.s 68)
  (.seq (.reg [⟨some 4, none, .mov (.c (.pure (.bool false)))⟩])
  .ret)
  .skip))))
  (.reg [⟨some 69, none, .bin .add (.s 61) (.c (.pure (.int .i64 1)))⟩,
    ⟨some 61, none, .mov (.s 69)⟩]))))
def c32_4 : AC :=
  (.seq (.reg [⟨some 53, none, .bin .lss (.s 52) (.s 51)⟩])
  (.seq (.cond (.s 53)
  .skip
  (.exit 4))
  (.seq (.block 5
  (.seq (.reg [⟨some 54, none, .idxA 1 (.s 50) (.s 52)⟩,
    ⟨some 55, none, .load false 1 (.s 54)⟩,
    ⟨some 10, none, .mov (.s 55)⟩])
  (.seq (.seq (.reg [⟨some 56, none, .mov (.s 10)⟩,
    ⟨some 57, none, .len (.s 56)⟩,
    ⟨some 58, none, .bin .gtr (.s 57) (.c (.pure (.int .i64 60)))⟩])
  (.cond (.s 58)
  (.seq (.reg [⟨some 4, none, .mov (.c (.pure (.bool false)))⟩])
  .ret)
  .skip))
  (.seq (.reg [⟨some 59, none, .mov (.s 10)⟩,
    ⟨some 60, none, .len (.s 59)⟩,
    ⟨some 61, none, .mov (.c (.pure (.int .i64 0)))⟩])
  (.block 6
  (.loop c32_3))))))
  c32_2)))
def c32_5 : AC :=
  (.seq (.reg [⟨some 36, none, .bin .lss (.s 35) (.s 34)⟩])
  (.seq (.cond (.s 36)
  .skip
  (.exit 2))
  (.seq (.block 3
  (.seq (.reg [⟨some 37, none, .idxA 12 (.s 33) (.s 35)⟩,
    ⟨some 38, none, .load true 12 (.s 37)⟩,
    ⟨some 8, none, .box (.c (.agg [.empty, .empty, .empty, .empty, .empty, .empty, .empty, .empty, .empty, .empty, .empty, .empty]))⟩,
    ⟨none, none, .store 12 (.s 8) (.s 38)⟩])
  (.seq (.seq (.reg [⟨some 39, none, .fldA 0 (.s 8)⟩,
    ⟨some 40, none, .load false 1 (.s 39)⟩,
    ⟨some 41, none, .len (.s 40)⟩,
    ⟨some 42, none, .bin .gtr (.s 41) (.c (.pure (.int .i64 60)))⟩,
    ⟨some 43, none, .mov (.s 42)⟩,
    ⟨some 44, some (43, false), .fldA 2 (.s 8)⟩,
    ⟨some 45, some (43, false), .load false 1 (.s 44)⟩,
    ⟨some 46, some (43, false), .len (.s 45)⟩,
    ⟨some 47, some (43, false), .bin .gtr (.s 46) (.c (.pure (.int .i64 60)))⟩,
    ⟨some 48, none, .pick (.s 43) (.c (.pure (.bool true))) (.s 47)⟩])
  (.cond (.s 48)
  (.seq (.reg [⟨some 4, none, .mov (.c (.pure (.bool false)))⟩])
  .ret)
  .skip))
  (.seq (.reg [⟨some 49, none, .fldA 2 (.s 8)⟩,
    ⟨some 50, none, .load false 1 (.s 49)⟩,
    ⟨some 51, none, .len (.s 50)⟩,
    ⟨some 52, none, .mov (.c (.pure (.int .i64 0)))⟩])
  (.block 4
  (.loop c32_4))))))
  c32_1)))
def c32_6 : AC :=
  (.seq (.seq (.reg [⟨some 32, none, .fldA 3 (.s 2)⟩,
    ⟨some 33, none, .load false 1 (.s 32)⟩,
    ⟨some 34, none, .len (.s 33)⟩,
    ⟨some 35, none, .mov (.c (.pure (.int .i64 0)))⟩])
  (.block 2
  (.loop c32_5)))
  c32_0)
def c32_7 : AC :=
  (.seq (.reg [⟨some 25, none, .bin .lss (.s 24) (.s 23)⟩])
  (.seq (.cond (.s 25)
  .skip
  (.exit 0))
  (.seq (.block 1
  (.seq (.reg [⟨some 26, none, .idxA 10 (.s 22) (.s 24)⟩,
    ⟨some 27, none, .load true 10 (.s 26)⟩,
    ⟨some 6, none, .box (.c (.pure (.agg [(.int .i64 0), (.int .i64 0), (.int .i64 0), (.int .i64 0), (.int .i64 0), (.int .i64 0), (.int .i64 0), (.int .i64 0), (.int .i64 0), (.int .i64 0)])))⟩,
    ⟨none, none, .store 10 (.s 6) (.s 27)⟩])
  (.seq (.reg [⟨some 28, none, .fldA 7 (.s 6)⟩,
    ⟨some 29, none, .load false 1 (.s 28)⟩,
    ⟨some 30, none, .bin .gtr (.s 29) (.c (.pure (.int .i64 1099511627776)))⟩])
  (.cond (.s 30)
  (.seq (.reg [⟨some 4, none, .mov (.c (.pure (.bool false)))⟩])
  .ret)
  .skip))))
  (.reg [⟨some 31, none, .bin .add (.s 24) (.c (.pure (.int .i64 1)))⟩,
    ⟨some 24, none, .mov (.s 31)⟩]))))
def c32 : AC :=
  (.seq (.reg [⟨some 2, none, .box (.s 0)⟩,
    ⟨some 4, none, .mov (.c (.pure (.bool false)))⟩])
  (.seq (.seq (.reg [⟨some 13, none, .mov (.s 1)⟩,
    ⟨some 14, none, .len (.s 13)⟩,
    ⟨some 15, none, .bin .gtr (.s 14) (.c (.pure (.int .i64 60)))⟩,
    ⟨some 16, none, .mov (.s 15)⟩,
    ⟨some 17, some (16, false), .fldA 3 (.s 2)⟩,
    ⟨some 18, some (16, false), .load false 1 (.s 17)⟩,
    ⟨some 19, some (16, false), .len (.s 18)⟩,
    ⟨some 20, some (16, false), .bin .gtr (.s 19) (.c (.pure (.int .i64 40)))⟩,
    ⟨some 21, none, .pick (.s 16) (.c (.pure (.bool true))) (.s 20)⟩])
  (.cond (.s 21)
  (.seq (.reg [⟨some 4, none, .mov (.c (.pure (.bool false)))⟩])
  .ret)
  .skip))
  (.seq (.seq (.reg [⟨some 22, none, .mov (.s 1)⟩,
    ⟨some 23, none, .len (.s 22)⟩,
    ⟨some 24, none, .mov (.c (.pure (.int .i64 0)))⟩])
  (.block 0
  (.loop c32_7)))
  c32_6)))
theorem k32 : (Try.f32.body.bind fun c => cCode Try.prog Try.f32.ntmps RCs c) = some c32 := by kernel_rfl
theorem h32 : (Try.f32.name == "runtime.NumGoroutine") = false := by kernel_rfl
theorem r32 : resC Try.prog Try.f32.results.toList = some [.t 4] := by kernel_rfl
theorem a32 {args : List S} {H : Heap} {K : S → Heap → Prop} (hn : args.length ≤ 72) (h : aWx Try.prog H.length c32 (PostX [.t 4] K) (argEnv 0 args) H) : CallA Try.prog 32 args H K :=
  callA_of_x mixed Try.func32 h32 k32 r32 (by rw [Try.ntmps32]; exact hn) h
theorem q32 {vs ds : List V} (hn : vs.length ≤ 72) (h : aWx Try.prog 0 c32 (PostX [.t 4] (Gives ds)) (argEnv 0 (vs.map .pure)) []) : FnQ Try.prog 32 vs ds :=
  fnQ_of_call (a32 (by simpa using hn) h)
/-! typecase/typecaseref22.Index -/
def c80_0 : AC :=
  (.seq (.reg [⟨some 4, none, .mov (.c (.pure (.int .i64 0)))⟩,
    ⟨some 5, none, .mov (.c (.pure (.bool false)))⟩])
  .ret)
def c80_1 : AC :=
  (.seq (.seq (.reg [⟨some 7, none, .mov (.s 6)⟩,
    ⟨some 8, none, .mov (.s 0)⟩,
    ⟨some 9, none, .len (.s 8)⟩,
    ⟨some 10, none, .bin .lss (.s 7) (.s 9)⟩])
  (.cond (.s 10)
  .skip
  (.exit 0)))
  (.seq (.block 1
  (.seq (.reg [⟨some 13, none, .mov (.s 0)⟩,
    ⟨some 14, none, .mov (.s 6)⟩,
    ⟨some 15, none, .idxA 1 (.s 13) (.s 14)⟩,
    ⟨some 16, none, .load false 1 (.s 15)⟩,
    ⟨some 17, none, .mov (.s 1)⟩,
    ⟨some 18, none, .bin .eql (.s 16) (.s 17)⟩])
  (.cond (.s 18)
  (.seq (.reg [⟨some 19, none, .mov (.s 6)⟩,
    ⟨some 4, none, .mov (.s 19)⟩,
    ⟨some 5, none, .mov (.c (.pure (.bool true)))⟩])
  .ret)
  .skip)))
  (.reg [⟨some 11, none, .mov (.s 6)⟩,
    ⟨some 12, none, .bin .add (.s 11) (.c (.pure (.int .i64 1)))⟩,
    ⟨some 6, none, .mov (.s 12)⟩])))
def c80 : AC :=
  (.seq (.reg [⟨some 4, none, .mov (.c (.pure (.int .i64 0)))⟩,
    ⟨some 5, none, .mov (.c (.pure (.bool false)))⟩])
  (.seq (.seq (.reg [⟨some 6, none, .mov (.c (.pure (.int .i64 0)))⟩])
  (.block 0
  (.loop c80_1)))
  c80_0))
theorem k80 : (Try.f80.body.bind fun c => cCode Try.prog Try.f80.ntmps RCs c) = some c80 := by kernel_rfl
theorem h80 : (Try.f80.name == "runtime.NumGoroutine") = false := by kernel_rfl
theorem r80 : resC Try.prog Try.f80.results.toList = some [.t 4, .t 5] := by kernel_rfl
theorem a80 {args : List S} {H : Heap} {K : S → Heap → Prop} (hn : args.length ≤ 20) (h : aWx Try.prog H.length c80 (PostX [.t 4, .t 5] K) (argEnv 0 args) H) : CallA Try.prog 80 args H K :=
  callA_of_x mixed Try.func80 h80 k80 r80 (by rw [Try.ntmps80]; exact hn) h
theorem q80 {vs ds : List V} (hn : vs.length ≤ 20) (h : aWx Try.prog 0 c80 (PostX [.t 4, .t 5] (Gives ds)) (argEnv 0 (vs.map .pure)) []) : FnQ Try.prog 80 vs ds :=
  fnQ_of_call (a80 (by simpa using hn) h)

theorem cloneI_q (l : List Int) (hl : l.length ≤ 1000) : FnQ Try.prog 79 [LI l] [LI l] :=
  fnQ_of_call ((clone_c l hl).mono fun s H' h => by obtain ⟨rfl, rfl⟩ := h; exact gives_row' rfl (by simp) rfl)
theorem numbers_q (a b : List Int) : FnQ Try.prog 37 [LI a, LI b] [.bool (decide (a = b))] := by
  refine q37 (by simp) ?_
  unfold c37
  simp -implicitDefEqProofs only [*, vmp,↓vmd,seval]
  refine onIf_intro fun ha => ?_
  simp -implicitDefEqProofs only [*, vmp,↓vmd,seval]
  refine onIf_intro fun hb => ?_
  simp -implicitDefEqProofs only [*, vmp,↓vmd,seval]
  refine onB_dec (fun h0 => ?_) (fun h0 => ?_)
  · simp -implicitDefEqProofs only [*, vmp,↓vmd,seval]
    rw [show decide (a = b) = false by simp; rintro rfl; simp at h0]
    exact gives_pure
  simp -implicitDefEqProofs only [*, vmp,↓vmd,seval]
  have hab : a.length = b.length := by simp at h0; omega
  refine loop_at (T := Nat) (fun k => [(13, .pure (I k)), (12, .pure (I a.length)), (0, .pure (LI a)), (1, .pure (LI b))]) (fun _ => []) (fun k => k ≤ a.length ∧ (a.drop k = b.drop k ↔ a = b)) (fun k => a.length - k)
    0 [] (by simp) rfl ⟨by simp, by simp⟩ (by simp -implicitDefEqProofs only [kpp,seval]) (by simp -implicitDefEqProofs only [kpp,seval]) ?_
  rintro k ⟨hk, hr⟩
  unfold c37_1
  simp -implicitDefEqProofs only [vmp,↓vmd,seval]
  refine onB_dec (fun h1 => ?_) (fun h1 => ?_)
  · have hlt : k < a.length := by simpa using h1
    have hlt' : k < b.length := by omega
    rw [drop_at hlt, drop_at hlt'] at hr
    simp -implicitDefEqProofs only [map_at hlt, map_at hlt', Int.natCast_nonneg, *, vmp,↓vmd,seval]
    refine onB_dec (fun h2 => ?_) (fun h2 => ?_)
    · simp -implicitDefEqProofs only [*, vmp,↓vmd,seval]
      rw [show decide (a = b) = false by rw [decide_eq_false_iff_not]; intro e; subst e; exact h2 rfl]
      exact gives_pure
    · simp -implicitDefEqProofs only [*, vmp,↓vmd,seval]
      refine onBk_to (k + 1) [] (by simp) rfl (by omega) ⟨hlt, by rw [← hr, List.cons.injEq]; exact ⟨fun h => ⟨Classical.not_not.1 h2, h⟩, fun h => h.2⟩⟩ (by simp -implicitDefEqProofs only [next_at hlt (by omega), hab, kpp,seval]) (by simp -implicitDefEqProofs only [kpp,seval])
  · simp -implicitDefEqProofs only [*, vmp,↓vmd,seval]
    unfold c37_0
    simp -implicitDefEqProofs only [*, vmp,↓vmd,seval]
    have hk' : a.length ≤ k := by simp at h1; omega
    rw [List.drop_of_length_le hk', List.drop_of_length_le (by omega)] at hr
    rw [show decide (a = b) = true by simp [← hr]]
    exact gives_pure
theorem lgsame_q (a b : Lg) : FnQ Try.prog 36 [lg a, lg b] [.bool (decide (a = b))] := by
  refine q36 (by simp) ?_
  unfold c36
  simp -implicitDefEqProofs only [*, vmp,↓vmd,seval]
  refine onB_dec (fun h => ?_) (fun h => ?_)
  · simp -implicitDefEqProofs only [h, vmp,↓vmd,seval]
    refine onC_q (numbers_q a.parts b.parts) rfl ?_
    rw [show decide (a = b) = decide (a.parts = b.parts) by cases a; cases b; simp at h; simp [h]]
    simp -implicitDefEqProofs only [h, vmp,↓vmd,seval]
    exact gives_pure
  · simp -implicitDefEqProofs only [h, vmp,↓vmd,seval]
    rw [show decide (a = b) = false by simp; rintro rfl; exact h rfl]
    exact gives_pure
theorem rindex_q (l : List Int) (x : Int) : FnQ Try.prog 80 [LI l, I x] [I (max (idxF x 0 l) 0), .bool (decide (0 ≤ idxF x 0 l))] := by
  refine q80 (by simp) ?_
  unfold c80
  simp -implicitDefEqProofs only [*, vmp,↓vmd,seval]
  refine loop_at (T := Nat) (fun k => [(6, .pure (I k)), (0, .pure (LI l)), (1, .pure (I x))]) (fun _ => []) (fun k => k ≤ l.length ∧ idxF x k (l.drop k) = idxF x 0 l) (fun k => l.length - k)
    0 [] (by simp) rfl ⟨by simp, by simp⟩ (by simp -implicitDefEqProofs only [kpp,seval]) (by simp -implicitDefEqProofs only [kpp,seval]) ?_
  rintro k ⟨hk, hr⟩
  unfold c80_1
  simp -implicitDefEqProofs only [vmp,↓vmd,seval]
  refine onIf_intro fun _ => ?_
  simp -implicitDefEqProofs only [vmp,↓vmd,seval]
  refine onB_dec (fun h1 => ?_) (fun h1 => ?_)
  · have hlt : k < l.length := by omega
    rw [drop_at hlt, idxF] at hr
    simp -implicitDefEqProofs only [h1, map_at hlt, Int.natCast_nonneg, vmp,↓vmd,seval]
    refine onB_dec (fun h2 => ?_) (fun h2 => ?_)
    · rw [if_pos h2.symm] at hr
      simp -implicitDefEqProofs only [h2, vmp,↓vmd,seval]
      rw [← hr]
      have e1 : max ((k : Nat) : Int) 0 = k := by omega
      have e2 : decide ((0 : Int) ≤ (k : Nat)) = true := by simp
      rw [e1, e2]
      exact gives_tup rfl (by simp)
    · simp -implicitDefEqProofs only [h2, vmp,↓vmd,seval]
      refine onBk_to (k + 1) [] (by simp) rfl (by omega) ⟨hlt, by rw [← hr, if_neg (fun e => h2 e.symm)]; rfl⟩ (by simp -implicitDefEqProofs only [next_at hlt (by omega), kpp,seval]) (by simp -implicitDefEqProofs only [kpp,seval])
  · simp -implicitDefEqProofs only [h1, vmp,↓vmd,seval]
    unfold c80_0
    simp -implicitDefEqProofs only [vmp,↓vmd,seval]
    rw [← hr, List.drop_of_length_le (by omega)]
    exact gives_tup rfl (by simp)
/-! sizes -/
def bigG (g : Gl) : Bool := decide (1099511627776 < g.lig)
def bigY (y : Lg) : Bool := decide (40 < y.parts.length)
def bigX (x : List Lg) : Bool := decide (60 < x.length) || x.any bigY
def bigS (s : Sub) : Bool := decide (60 < s.cover.length) || decide (60 < s.ligs.length) || s.ligs.any bigX
def lightL (k : Lk) (ls : List Gl) : Bool := !(decide (60 < ls.length) || decide (40 < k.subs.length) || ls.any bigG || k.subs.any bigS)
structure LightL (k : Lk) (ls : List Gl) : Prop where
  len : ls.length ≤ 60
  subs : k.subs.length ≤ 40
  lig : ∀ g ∈ ls, g.lig ≤ 1099511627776
  cover : ∀ s ∈ k.subs, s.cover.length ≤ 60
  ligs : ∀ s ∈ k.subs, s.ligs.length ≤ 60
  row : ∀ s ∈ k.subs, ∀ x ∈ s.ligs, x.length ≤ 60
  parts : ∀ s ∈ k.subs, ∀ x ∈ s.ligs, ∀ y ∈ x, y.parts.length ≤ 40
theorem lightL_of {k : Lk} {ls : List Gl} (h : lightL k ls = true) : LightL k ls := by
  simp only [lightL, Bool.not_eq_true', Bool.or_eq_false_iff, decide_eq_false_iff_not, List.any_eq_false, bigS, bigX, bigY, bigG, Bool.or_eq_true, List.any_eq_true, decide_eq_true_eq, not_or, not_exists, not_and] at h
  obtain ⟨⟨⟨h1, h2⟩, h3⟩, h4⟩ := h
  exact ⟨by omega, by omega, fun g hg => by have := h3 g hg; omega, fun s hs => by have := (h4 s hs).1.1; omega, fun s hs => by have := (h4 s hs).1.2; omega,
    fun s hs x hx => by have := ((h4 s hs).2 x hx).1; omega, fun s hs x hx y hy => by have := ((h4 s hs).2 x hx).2 y hy; omega⟩
theorem light28_q (k : Lk) (ls : List Gl) : FnQ Try.prog 32 [lk k, .sl (ls.map gl)] [.bool (lightL k ls)] := by
  refine q32 (by simp) ?_
  unfold c32
  simp -implicitDefEqProofs only [*, vmp,↓vmd,seval]
  refine onIf_intro fun _ => ?_
  simp -implicitDefEqProofs only [*, vmp,↓vmd,seval]
  refine onB_dec (fun h1 => ?_) (fun h1 => ?_)
  · simp -implicitDefEqProofs only [*, vmp,↓vmd,seval]
    rw [show lightL k ls = false by simp [lightL]; intro h; omega]
    exact gives_pure
  simp -implicitDefEqProofs only [*, vmp,↓vmd,seval]
  refine onIf_intro fun _ => ?_
  simp -implicitDefEqProofs only [*, vmp,↓vmd,seval]
  refine onB_dec (fun h2 => ?_) (fun h2 => ?_)
  · simp -implicitDefEqProofs only [*, vmp,↓vmd,seval]
    rw [show lightL k ls = false by simp [lightL]; intro h3 h4; omega]
    exact gives_pure
  simp -implicitDefEqProofs only [*, vmp,↓vmd,seval]
  refine loop_at (T := Nat) (fun i => [(24, .pure (I i)), (23, .pure (I ls.length)), (22, .pure (.sl (ls.map gl))), (2, .ptr 0 0 0)]) (fun _ => [⟨[.pure (lk k)], 4, .live⟩]) (fun i => i ≤ ls.length ∧ (ls.drop i).any bigG = ls.any bigG) (fun i => ls.length - i)
    0 [0] (by simp) rfl ⟨by simp, by simp⟩ (by simp -implicitDefEqProofs only [kpp,seval]) (by simp -implicitDefEqProofs only [kpp,seval]) ?_
  rintro i ⟨hi, hr⟩
  unfold c32_7
  simp -implicitDefEqProofs only [vmp,↓vmd,seval]
  refine onB_dec (fun h5 => ?_) (fun h5 => ?_)
  · have hlt : i < ls.length := by omega
    rw [drop_at hlt, List.any_cons] at hr
    simp -implicitDefEqProofs only [h5, map_at hlt, Int.natCast_nonneg, vmp,↓vmd,seval]
    refine onB_dec (fun h6 => ?_) (fun h6 => ?_)
    · simp -implicitDefEqProofs only [h6, vmp,↓vmd,seval]
      rw [show lightL k ls = false by rw [lightL, ← hr, show bigG ls[i] = true by simp [bigG]; omega]; simp]
      exact gives_pure
    · simp -implicitDefEqProofs only [h6, vmp,↓vmd,seval]
      refine onBk_to (i + 1) [0] (by simp) rfl (by omega) ⟨hlt, by rw [← hr, show bigG ls[i] = false by simp [bigG]; omega, Bool.false_or]⟩ (by simp -implicitDefEqProofs only [next_at hlt (by omega), kpp,seval]) (by simp -implicitDefEqProofs only [kpp,seval])
  rw [List.drop_of_length_le (by omega), List.any_nil] at hr
  simp -implicitDefEqProofs only [h5, vmp,↓vmd,seval]
  unfold c32_6
  simp -implicitDefEqProofs only [vmp,↓vmd,seval]
  refine onIf_intro fun _ => ?_
  first | refine envO (by simp -implicitDefEqProofs only [vmp,↓vmd,seval]; rfl) ?_ | refine envQ (by simp -implicitDefEqProofs only [vmp,↓vmd,seval]; rfl) ?_
  simp -implicitDefEqProofs only [vmp,↓vmd,seval]
  have hL : lightL k ls = !(k.subs.any bigS) := by
    rw [lightL, ← hr, decide_eq_false (by omega), decide_eq_false (by omega)]; simp
  rw [hL]
  refine loop_at (T := Nat) (fun i => [(35, .pure (I i)), (34, .pure (I k.subs.length)), (33, .pure (.sl (k.subs.map sub)))]) (fun _ => []) (fun i => i ≤ k.subs.length ∧ (k.subs.drop i).any bigS = k.subs.any bigS) (fun i => k.subs.length - i)
    0 [] (by simp) rfl ⟨by simp, by simp⟩ (by simp -implicitDefEqProofs only [kpp,seval]) (by simp -implicitDefEqProofs only [kpp,seval]) ?_
  rintro i ⟨hi, hs⟩
  unfold c32_5
  generalize k.subs.any bigS = o at hs
  simp -implicitDefEqProofs only [vmp,↓vmd,seval]
  refine onB_dec (fun h6 => ?_) (fun h6 => ?_)
  · have hlt : i < k.subs.length := by omega
    rw [drop_at hlt, List.any_cons] at hs
    have hgi : (k.subs.map sub)[i]? = some (sub k.subs[i]) := map_at hlt
    generalize k.subs[i] = s at hs hgi
    have yes : bigS s = true → o = true := fun e => by rw [← hs, e]; simp
    simp -implicitDefEqProofs only [h6, hgi, Int.natCast_nonneg, vmp,↓vmd,seval]
    refine onIf_intro fun _ => ?_
    first | refine envO (by simp -implicitDefEqProofs only [vmp,↓vmd,seval]; rfl) ?_ | refine envQ (by simp -implicitDefEqProofs only [vmp,↓vmd,seval]; rfl) ?_
    simp -implicitDefEqProofs only [vmp,↓vmd,seval]
    refine onB_dec (fun h7 => ?_) (fun h7 => ?_)
    · simp -implicitDefEqProofs only [h7, vmp,↓vmd,seval]
      rw [yes (by simp [bigS]; omega)]
      exact gives_pure
    simp -implicitDefEqProofs only [h7, vmp,↓vmd,seval]
    refine onIf_intro fun _ => ?_
    first | refine envO (by simp -implicitDefEqProofs only [vmp,↓vmd,seval]; rfl) ?_ | refine envQ (by simp -implicitDefEqProofs only [vmp,↓vmd,seval]; rfl) ?_
    simp -implicitDefEqProofs only [h7, vmp,↓vmd,seval]
    refine onB_dec (fun h8 => ?_) (fun h8 => ?_)
    · simp -implicitDefEqProofs only [h8, vmp,↓vmd,seval]
      rw [yes (by simp [bigS]; omega)]
      exact gives_pure
    simp -implicitDefEqProofs only [h8, vmp,↓vmd,seval]
    refine onIf_intro fun _ => ?_
    first | refine envO (by simp -implicitDefEqProofs only [vmp,↓vmd,seval]; rfl) ?_ | refine envQ (by simp -implicitDefEqProofs only [vmp,↓vmd,seval]; rfl) ?_
    simp -implicitDefEqProofs only [h8, vmp,↓vmd,seval]
    refine loop_at (T := Nat) (fun j => [(52, .pure (I j)), (51, .pure (I s.ligs.length)), (50, .pure (.sl (s.ligs.map lgr))), (35, .pure (I i)), (34, .pure (I k.subs.length)), (33, .pure (.sl (k.subs.map sub)))]) (fun _ => []) (fun j => j ≤ s.ligs.length ∧ (s.ligs.drop j).any bigX = s.ligs.any bigX) (fun j => s.ligs.length - j)
      0 [] (by simp) rfl ⟨by simp, by simp⟩ (by simp -implicitDefEqProofs only [kpp,seval]) (by simp -implicitDefEqProofs only [kpp,seval]) ?_
    rintro j ⟨hj, ht⟩
    unfold c32_4
    simp -implicitDefEqProofs only [vmp,↓vmd,seval]
    refine onB_dec (fun h9 => ?_) (fun h9 => ?_)
    · have hlj : j < s.ligs.length := by omega
      rw [drop_at hlj, List.any_cons] at ht
      have hgj : (s.ligs.map lgr)[j]? = some (lgr s.ligs[j]) := map_at hlj
      generalize s.ligs[j] = x at ht hgj
      have yes2 : bigX x = true → o = true := fun e => yes (by rw [bigS, ← ht, e]; simp)
      simp -implicitDefEqProofs only [h9, hgj, Int.natCast_nonneg, vmp,↓vmd,seval]
      refine onIf_intro fun _ => ?_
      first | refine envO (by simp -implicitDefEqProofs only [vmp,↓vmd,seval]; rfl) ?_ | refine envQ (by simp -implicitDefEqProofs only [vmp,↓vmd,seval]; rfl) ?_
      simp -implicitDefEqProofs only [vmp,↓vmd,seval]
      refine onB_dec (fun h10 => ?_) (fun h10 => ?_)
      · simp -implicitDefEqProofs only [h10, vmp,↓vmd,seval]
        rw [yes2 (by simp [bigX]; omega)]
        exact gives_pure
      simp -implicitDefEqProofs only [h10, vmp,↓vmd,seval]
      refine onIf_intro fun _ => ?_
      first | refine envO (by simp -implicitDefEqProofs only [vmp,↓vmd,seval]; rfl) ?_ | refine envQ (by simp -implicitDefEqProofs only [vmp,↓vmd,seval]; rfl) ?_
      simp -implicitDefEqProofs only [vmp,↓vmd,seval]
      refine loop_at (T := Nat) (fun m => [(61, .pure (I m)), (60, .pure (I x.length)), (59, .pure (.sl (x.map lg))), (52, .pure (I j)), (51, .pure (I s.ligs.length)), (50, .pure (.sl (s.ligs.map lgr))), (35, .pure (I i)), (34, .pure (I k.subs.length)), (33, .pure (.sl (k.subs.map sub)))]) (fun _ => []) (fun m => m ≤ x.length ∧ (x.drop m).any bigY = x.any bigY) (fun m => x.length - m)
        0 [] (by simp) rfl ⟨by simp, by simp⟩ (by simp -implicitDefEqProofs only [kpp,seval]) (by simp -implicitDefEqProofs only [kpp,seval]) ?_
      rintro m ⟨hm, hu⟩
      unfold c32_3
      simp -implicitDefEqProofs only [vmp,↓vmd,seval]
      refine onB_dec (fun h11 => ?_) (fun h11 => ?_)
      · have hlm : m < x.length := by omega
        rw [drop_at hlm, List.any_cons] at hu
        have hgm : (x.map lg)[m]? = some (lg x[m]) := map_at hlm
        generalize x[m] = y at hu hgm
        simp -implicitDefEqProofs only [h11, hgm, Int.natCast_nonneg, vmp,↓vmd,seval]
        refine onIf_intro fun _ => ?_
        first | refine envO (by simp -implicitDefEqProofs only [vmp,↓vmd,seval]; rfl) ?_ | refine envQ (by simp -implicitDefEqProofs only [vmp,↓vmd,seval]; rfl) ?_
        simp -implicitDefEqProofs only [vmp,↓vmd,seval]
        refine onB_dec (fun h12 => ?_) (fun h12 => ?_)
        · simp -implicitDefEqProofs only [h12, vmp,↓vmd,seval]
          rw [yes2 (by rw [bigX, ← hu, show bigY y = true by simp [bigY]; omega]; simp)]
          exact gives_pure
        · simp -implicitDefEqProofs only [h12, vmp,↓vmd,seval]
          refine onBk_to (m + 1) [] (by simp) rfl (by omega) ⟨hlm, by rw [← hu, show bigY y = false by simp [bigY]; omega, Bool.false_or]⟩ (by simp -implicitDefEqProofs only [next_at hlm (by omega), kpp,seval]) (by simp -implicitDefEqProofs only [kpp,seval])
      · rw [List.drop_of_length_le (by omega), List.any_nil] at hu
        simp -implicitDefEqProofs only [h11, vmp,↓vmd,seval]
        unfold c32_2
        simp -implicitDefEqProofs only [vmp,↓vmd,seval]
        refine onBk_to (j + 1) [] (by simp) rfl (by omega) ⟨hlj, by rw [← ht, show bigX x = false by rw [bigX, ← hu]; simp; omega, Bool.false_or]⟩ (by simp -implicitDefEqProofs only [next_at hlj (by omega), kpp,seval]) (by simp -implicitDefEqProofs only [kpp,seval])
    · rw [List.drop_of_length_le (by omega), List.any_nil] at ht
      simp -implicitDefEqProofs only [h9, vmp,↓vmd,seval]
      unfold c32_1
      simp -implicitDefEqProofs only [vmp,↓vmd,seval]
      refine onBk_to (i + 1) [] (by simp) rfl (by omega) ⟨hlt, by rw [← hs, show bigS s = false by rw [bigS, ← ht]; simp; omega, Bool.false_or]⟩ (by simp -implicitDefEqProofs only [next_at hlt (by omega), kpp,seval]) (by simp -implicitDefEqProofs only [kpp,seval])
  · rw [List.drop_of_length_le (by omega), List.any_nil] at hs
    simp -implicitDefEqProofs only [h6, vmp,↓vmd,seval]
    unfold c32_0
    simp -implicitDefEqProofs only [vmp,↓vmd,seval]
    rw [← hs]
    exact gives_pure
end Go.Proofs.Ytbllbkhkmngclaa.W
