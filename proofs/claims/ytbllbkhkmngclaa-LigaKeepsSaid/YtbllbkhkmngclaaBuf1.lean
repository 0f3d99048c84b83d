/-
  Rows of glyphs: copies, the least cluster, stretches merged: two functions each, one answer. No condition but on sizes.
-/
import Derived.Test.YtbllbkhkmngclaaCloneG
import Derived.Test.YtbllbkhkmngclaaGls
import Derived.Test.YtbllbkhkmngclaaStops
namespace Go.Proofs.Ytbllbkhkmngclaa.W
open Go Go.Vm Go.Proofs
set_option maxRecDepth 100000
set_option linter.unusedSimpArgs false
set_option maxHeartbeats 4000000
/-! typecase/buffer.least -/
def c97_0 : AC :=
  (.seq (.reg [⟨some 21, none, .mov (.s 3)⟩,
    ⟨some 2, none, .mov (.s 21)⟩])
  .ret)
def c97_1 : AC :=
  (.seq (.reg [⟨some 13, none, .bin .lss (.s 12) (.s 11)⟩])
  (.seq (.cond (.s 13)
  .skip
  (.exit 0))
  (.seq (.block 1
  (.seq (.reg [⟨some 14, none, .idxA 10 (.s 10) (.s 12)⟩,
    ⟨some 15, none, .load true 10 (.s 14)⟩,
    ⟨some 5, none, .box (.c (.pure (.agg [(.int .i64 0), (.int .i64 0), (.int .i64 0), (.int .i64 0), (.int .i64 0), (.int .i64 0), (.int .i64 0), (.int .i64 0), (.int .i64 0), (.int .i64 0)])))⟩,
    ⟨none, none, .store 10 (.s 5) (.s 15)⟩])
  (.reg [⟨some 16, none, .mov (.s 3)⟩,
    ⟨some 17, none, .fldA 1 (.s 5)⟩,
    ⟨some 18, none, .load false 1 (.s 17)⟩,
    ⟨some 19, none, .mn (.s 16) (.s 18)⟩,
    ⟨some 3, none, .mov (.s 19)⟩])))
  (.reg [⟨some 20, none, .bin .add (.s 12) (.c (.pure (.int .i64 1)))⟩,
    ⟨some 12, none, .mov (.s 20)⟩]))))
def c97 : AC :=
  (.seq (.reg [⟨some 2, none, .mov (.c (.pure (.int .i64 0)))⟩])
  (.seq (.reg [⟨some 6, none, .mov (.s 0)⟩,
    ⟨some 7, none, .idxA 10 (.s 6) (.c (.pure (.int .i64 0)))⟩,
    ⟨some 8, none, .fldA 1 (.s 7)⟩,
    ⟨some 9, none, .load false 1 (.s 8)⟩,
    ⟨some 3, none, .mov (.s 9)⟩])
  (.seq (.seq (.reg [⟨some 10, none, .mov (.s 0)⟩,
    ⟨some 11, none, .len (.s 10)⟩,
    ⟨some 12, none, .mov (.c (.pure (.int .i64 0)))⟩])
  (.block 0
  (.loop c97_1)))
  c97_0)))
theorem k97 : (Try.f97.body.bind fun c => cCode Try.prog Try.f97.ntmps RCs c) = some c97 := by kernel_rfl
theorem h97 : (Try.f97.name == "runtime.NumGoroutine") = false := by kernel_rfl
theorem r97 : resC Try.prog Try.f97.results.toList = some [.t 2] := by kernel_rfl
theorem a97 {args : List S} {H : Heap} {K : S → Heap → Prop} (hn : args.length ≤ 22) (h : aWx Try.prog H.length c97 (PostX [.t 2] K) (argEnv 0 args) H) : CallA Try.prog 97 args H K :=
  callA_of_x mixed Try.func97 h97 k97 r97 (by rw [Try.ntmps97]; exact hn) h
theorem q97 {vs ds : List V} (hn : vs.length ≤ 22) (h : aWx Try.prog 0 c97 (PostX [.t 2] (Gives ds)) (argEnv 0 (vs.map .pure)) []) : FnQ Try.prog 97 vs ds :=
  fnQ_of_call (a97 (by simpa using hn) h)
/-! typecase/typecaseref25.least -/
def c99_0 : AC :=
  (.seq (.reg [⟨some 22, none, .mov (.s 3)⟩,
    ⟨some 2, none, .mov (.s 22)⟩])
  .ret)
def c99_1 : AC :=
  (.seq (.seq (.reg [⟨some 9, none, .mov (.s 4)⟩,
    ⟨some 10, none, .mov (.s 0)⟩,
    ⟨some 11, none, .len (.s 10)⟩,
    ⟨some 12, none, .bin .lss (.s 9) (.s 11)⟩])
  (.cond (.s 12)
  .skip
  (.exit 0)))
  (.seq (.block 1
  (.reg [⟨some 15, none, .mov (.s 3)⟩,
    ⟨some 16, none, .mov (.s 0)⟩,
    ⟨some 17, none, .mov (.s 4)⟩,
    ⟨some 18, none, .idxA 10 (.s 16) (.s 17)⟩,
    ⟨some 19, none, .fldA 1 (.s 18)⟩,
    ⟨some 20, none, .load false 1 (.s 19)⟩,
    ⟨some 21, none, .mn (.s 15) (.s 20)⟩,
    ⟨some 3, none, .mov (.s 21)⟩]))
  (.reg [⟨some 13, none, .mov (.s 4)⟩,
    ⟨some 14, none, .bin .add (.s 13) (.c (.pure (.int .i64 1)))⟩,
    ⟨some 4, none, .mov (.s 14)⟩])))
def c99 : AC :=
  (.seq (.reg [⟨some 2, none, .mov (.c (.pure (.int .i64 0)))⟩])
  (.seq (.reg [⟨some 5, none, .mov (.s 0)⟩,
    ⟨some 6, none, .idxA 10 (.s 5) (.c (.pure (.int .i64 0)))⟩,
    ⟨some 7, none, .fldA 1 (.s 6)⟩,
    ⟨some 8, none, .load false 1 (.s 7)⟩,
    ⟨some 3, none, .mov (.s 8)⟩])
  (.seq (.seq (.reg [⟨some 4, none, .mov (.c (.pure (.int .i64 1)))⟩])
  (.block 0
  (.loop c99_1)))
  c99_0)))
theorem k99 : (Try.f99.body.bind fun c => cCode Try.prog Try.f99.ntmps RCs c) = some c99 := by kernel_rfl
theorem h99 : (Try.f99.name == "runtime.NumGoroutine") = false := by kernel_rfl
theorem r99 : resC Try.prog Try.f99.results.toList = some [.t 2] := by kernel_rfl
theorem a99 {args : List S} {H : Heap} {K : S → Heap → Prop} (hn : args.length ≤ 23) (h : aWx Try.prog H.length c99 (PostX [.t 2] K) (argEnv 0 args) H) : CallA Try.prog 99 args H K :=
  callA_of_x mixed Try.func99 h99 k99 r99 (by rw [Try.ntmps99]; exact hn) h
theorem q99 {vs ds : List V} (hn : vs.length ≤ 23) (h : aWx Try.prog 0 c99 (PostX [.t 2] (Gives ds)) (argEnv 0 (vs.map .pure)) []) : FnQ Try.prog 99 vs ds :=
  fnQ_of_call (a99 (by simpa using hn) h)
/-! typecase/typecaseref25.copied -/
def c98 : AC :=
  (.seq (.reg [⟨some 2, none, .mov (.c .empty)⟩])
  (.seq (.reg [⟨some 3, none, .mov (.c .empty)⟩])
  (.seq (.reg [⟨some 4, none, .mov (.s 3)⟩,
    ⟨some 5, none, .mov (.s 0)⟩,
    ⟨some 6, none, .app 10 80 (.s 4) (.s 5)⟩,
    ⟨some 2, none, .mov (.s 6)⟩])
  .ret)))
theorem k98 : (Try.f98.body.bind fun c => cCode Try.prog Try.f98.ntmps RCs c) = some c98 := by kernel_rfl
theorem h98 : (Try.f98.name == "runtime.NumGoroutine") = false := by kernel_rfl
theorem r98 : resC Try.prog Try.f98.results.toList = some [.t 2] := by kernel_rfl
theorem a98 {args : List S} {H : Heap} {K : S → Heap → Prop} (hn : args.length ≤ 7) (h : aWx Try.prog H.length c98 (PostX [.t 2] K) (argEnv 0 args) H) : CallA Try.prog 98 args H K :=
  callA_of_x mixed Try.func98 h98 k98 r98 (by rw [Try.ntmps98]; exact hn) h
theorem q98 {vs ds : List V} (hn : vs.length ≤ 7) (h : aWx Try.prog 0 c98 (PostX [.t 2] (Gives ds)) (argEnv 0 (vs.map .pure)) []) : FnQ Try.prog 98 vs ds :=
  fnQ_of_call (a98 (by simpa using hn) h)
/-! typecase/buffer.stretch -/
def c96 : AC :=
  (.seq (.reg [⟨some 6, none, .mov (.c (.pure (.bool false)))⟩])
  (.seq (.reg [⟨some 7, none, .mov (.s 1)⟩,
    ⟨some 8, none, .bin .geq (.s 7) (.c (.pure (.int .i64 0)))⟩,
    ⟨some 9, none, .mov (.s 8)⟩,
    ⟨some 10, some (9, true), .mov (.s 1)⟩,
    ⟨some 11, some (9, true), .mov (.s 2)⟩,
    ⟨some 12, some (9, true), .bin .leq (.s 10) (.s 11)⟩,
    ⟨some 13, none, .pick (.s 9) (.s 12) (.c (.pure (.bool false)))⟩,
    ⟨some 14, none, .mov (.s 13)⟩,
    ⟨some 15, some (14, true), .mov (.s 2)⟩,
    ⟨some 16, some (14, true), .mov (.s 0)⟩,
    ⟨some 17, some (14, true), .len (.s 16)⟩,
    ⟨some 18, some (14, true), .bin .leq (.s 15) (.s 17)⟩,
    ⟨some 19, none, .pick (.s 14) (.s 18) (.c (.pure (.bool false)))⟩,
    ⟨some 6, none, .mov (.s 19)⟩])
  .ret))
theorem k96 : (Try.f96.body.bind fun c => cCode Try.prog Try.f96.ntmps RCs c) = some c96 := by kernel_rfl
theorem h96 : (Try.f96.name == "runtime.NumGoroutine") = false := by kernel_rfl
theorem r96 : resC Try.prog Try.f96.results.toList = some [.t 6] := by kernel_rfl
theorem a96 {args : List S} {H : Heap} {K : S → Heap → Prop} (hn : args.length ≤ 20) (h : aWx Try.prog H.length c96 (PostX [.t 6] K) (argEnv 0 args) H) : CallA Try.prog 96 args H K :=
  callA_of_x mixed Try.func96 h96 k96 r96 (by rw [Try.ntmps96]; exact hn) h
theorem q96 {vs ds : List V} (hn : vs.length ≤ 20) (h : aWx Try.prog 0 c96 (PostX [.t 6] (Gives ds)) (argEnv 0 (vs.map .pure)) []) : FnQ Try.prog 96 vs ds :=
  fnQ_of_call (a96 (by simpa using hn) h)

def minC (n : Int) (l : List Gl) : Int := l.foldl (fun n g => min n g.cl) n
/-- the least cluster -/
def leastF : List Gl → Int
  | [] => 0
  | g :: r => minC g.cl r
theorem least_q (l : List Gl) (hn : l ≠ []) : FnQ Try.prog 97 [.sl (l.map gl)] [I (leastF l)] := by
  obtain ⟨g, r, rfl⟩ := List.exists_cons_of_ne_nil hn
  refine q97 (by simp) ?_
  unfold c97
  have hf : minC g.cl (g :: r) = leastF (g :: r) := by
    show minC (min g.cl g.cl) r = minC g.cl r
    rw [Int.min_self]
  have h0 : ((g :: r).map gl)[0]? = some (gl g) := rfl
  generalize leastF (g :: r) = out at *
  generalize hL : g :: r = L at *
  simp -implicitDefEqProofs only [h0, vmp,↓vmd,seval]
  refine onIf_intro fun _ => ?_
  first | refine envO (by simp -implicitDefEqProofs only [vmp,↓vmd,seval]; rfl) ?_ | refine envQ (by simp -implicitDefEqProofs only [vmp,↓vmd,seval]; rfl) ?_
  simp -implicitDefEqProofs only [vmp,↓vmd,seval]
  refine loop_at (T := Nat × Int) (fun y => [(12, .pure (I (y.1 : Int))), (11, .pure (I L.length)), (10, .pure (.sl (L.map gl))), (3, .pure (I y.2))]) (fun _ => []) (fun y => y.1 ≤ L.length ∧ minC y.2 (L.drop y.1) = out) (fun y => L.length - y.1)
    (0, g.cl) [] (by simp) rfl ⟨by simp, hf⟩ (by simp -implicitDefEqProofs only [kpp,seval]) (by simp -implicitDefEqProofs only [kpp,seval]) ?_
  rintro ⟨i, n⟩ ⟨hi, hr⟩
  simp only at hi hr ⊢
  unfold c97_1
  simp -implicitDefEqProofs only [vmp,↓vmd,seval]
  refine onB_dec (fun h1 => ?_) (fun h1 => ?_)
  · have hlt : i < L.length := by omega
    rw [drop_at hlt] at hr
    have hgi : (L.map gl)[i]? = some (gl L[i]) := map_at hlt
    generalize L[i] = u at hr hgi
    simp -implicitDefEqProofs only [h1, hgi, Int.natCast_nonneg, vmp,↓vmd,seval]
    refine onBk_to (i + 1, min n u.cl) [] (by simp) rfl (by simp only; omega) ⟨hlt, hr⟩ (by simp -implicitDefEqProofs only [next_at hlt (by omega), kpp,seval]) (by simp -implicitDefEqProofs only [kpp,seval])
  · rw [List.drop_of_length_le (by omega)] at hr
    subst hr
    simp -implicitDefEqProofs only [h1, vmp,↓vmd,seval]
    unfold c97_0
    simp -implicitDefEqProofs only [vmp,↓vmd,seval]
    exact gives_pure
theorem rleast_q (l : List Gl) (hn : l ≠ []) : FnQ Try.prog 99 [.sl (l.map gl)] [I (leastF l)] := by
  obtain ⟨g, r, rfl⟩ := List.exists_cons_of_ne_nil hn
  refine q99 (by simp) ?_
  unfold c99
  have hf : minC g.cl ((g :: r).drop 1) = leastF (g :: r) := rfl
  have h0 : ((g :: r).map gl)[0]? = some (gl g) := rfl
  have hl1 : 1 ≤ (g :: r).length := by simp
  generalize leastF (g :: r) = out at *
  generalize hL : g :: r = L at *
  simp -implicitDefEqProofs only [h0, vmp,↓vmd,seval]
  refine loop_at (T := Nat × Int) (fun y => [(4, .pure (I (y.1 : Int))), (0, .pure (.sl (L.map gl))), (3, .pure (I y.2))]) (fun _ => []) (fun y => y.1 ≤ L.length ∧ minC y.2 (L.drop y.1) = out) (fun y => L.length - y.1)
    (1, g.cl) [] (by simp) rfl ⟨hl1, hf⟩ (by simp -implicitDefEqProofs only [kpp,seval]) (by simp -implicitDefEqProofs only [kpp,seval]) ?_
  rintro ⟨i, n⟩ ⟨hi, hr⟩
  simp only at hi hr ⊢
  unfold c99_1
  simp -implicitDefEqProofs only [vmp,↓vmd,seval]
  refine onIf_intro fun _ => ?_
  first | refine envO (by simp -implicitDefEqProofs only [vmp,↓vmd,seval]; rfl) ?_ | refine envQ (by simp -implicitDefEqProofs only [vmp,↓vmd,seval]; rfl) ?_
  simp -implicitDefEqProofs only [vmp,↓vmd,seval]
  refine onB_dec (fun h1 => ?_) (fun h1 => ?_)
  · have hlt : i < L.length := by omega
    rw [drop_at hlt] at hr
    have hgi : (L.map gl)[i]? = some (gl L[i]) := map_at hlt
    generalize L[i] = u at hr hgi
    simp -implicitDefEqProofs only [h1, hgi, Int.natCast_nonneg, vmp,↓vmd,seval]
    refine onBk_to (i + 1, min n u.cl) [] (by simp) rfl (by simp only; omega) ⟨hlt, hr⟩ (by simp -implicitDefEqProofs only [next_at hlt (by omega), kpp,seval]) (by simp -implicitDefEqProofs only [kpp,seval])
  · rw [List.drop_of_length_le (by omega)] at hr
    subst hr
    simp -implicitDefEqProofs only [h1, vmp,↓vmd,seval]
    unfold c99_0
    simp -implicitDefEqProofs only [vmp,↓vmd,seval]
    exact gives_pure
theorem copied_c (l : List Gl) (hl : l.length ≤ 1000) : CallA Try.prog 98 [.pure (.sl (l.map gl))] [] fun s H' => s = .rsl 0 0 l.length ∧ H' = [⟨(l.map gl).map .pure, 10, .live⟩] := by
  refine a98 (by simp) ?_
  unfold c98
  simp -implicitDefEqProofs only [*, vmp,↓vmd,seval]
  refine onIf'_intro (appOk0_map (fun _ => rfl) (by omega) (by simp [maxLen]; omega)) ?_
  simp -implicitDefEqProofs only [vmp,↓vmd,seval]
theorem stretch_q (l : List V) (x y : Int) : FnQ Try.prog 96 [.sl l, I x, I y] [.bool (decide (0 ≤ x ∧ x ≤ y ∧ y ≤ l.length))] := by
  refine q96 (by simp) ?_
  unfold c96
  generalize hb : decide (0 ≤ x ∧ x ≤ y ∧ y ≤ (l.length : Int)) = b
  simp -implicitDefEqProofs only [vmp,↓vmd,seval]
  by_cases h1 : 0 ≤ x
  · simp -implicitDefEqProofs only [h1, vmp,↓vmd,seval]
    by_cases h2 : x ≤ y
    · simp -implicitDefEqProofs only [h1, h2, vmp,↓vmd,seval]
      refine onIf_intro fun _ => ?_
      first | refine envO (by simp -implicitDefEqProofs only [h1, h2, vmp,↓vmd,seval]; rfl) ?_ | refine envQ (by simp -implicitDefEqProofs only [h1, h2, vmp,↓vmd,seval]; rfl) ?_
      simp -implicitDefEqProofs only [h1, h2, vmp,↓vmd,seval]
      rw [← hb, show decide (0 ≤ x ∧ x ≤ y ∧ y ≤ (l.length : Int)) = decide (y ≤ (l.length : Int)) by simp [h1, h2]]
      exact gives_pure
    · simp -implicitDefEqProofs only [h1, h2, vmp,↓vmd,seval]
      rw [← hb, show decide (0 ≤ x ∧ x ≤ y ∧ y ≤ (l.length : Int)) = false by simp; omega]
      exact gives_pure
  · simp -implicitDefEqProofs only [h1, vmp,↓vmd,seval]
    rw [← hb, show decide (0 ≤ x ∧ x ≤ y ∧ y ≤ (l.length : Int)) = false by simp; omega]
    exact gives_pure
end Go.Proofs.Ytbllbkhkmngclaa.W
