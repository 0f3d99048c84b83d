/-
  Copies of glyphs, and whether rows of them are the same. No condition but on sizes.
-/
import Derived.Test.YtcjmkpkhjhjepaaGls
import Derived.Test.YtcjmkpkhjhjepaaCloneG
import Derived.Test.YtcjmkpkhjhjepaaStops
namespace Go.Proofs.Ytcjmkpkhjhjepaa.W
open Go Go.Vm Go.Proofs
set_option maxRecDepth 100000
set_option linter.unusedSimpArgs false
set_option maxHeartbeats 4000000
/-! typecase/typecaseref27.Copy -/
def c38_0 : AC :=
  (.seq (.reg [⟨some 18, none, .mov (.s 3)⟩,
    ⟨some 2, none, .mov (.s 18)⟩])
  .ret)
def c38_1 : AC :=
  (.seq (.seq (.reg [⟨some 5, none, .mov (.s 4)⟩,
    ⟨some 6, none, .mov (.s 0)⟩,
    ⟨some 7, none, .len (.s 6)⟩,
    ⟨some 8, none, .bin .lss (.s 5) (.s 7)⟩])
  (.cond (.s 8)
  .skip
  (.exit 0)))
  (.seq (.block 1
  (.reg [⟨some 11, none, .mov (.s 3)⟩,
    ⟨some 12, none, .mov (.s 0)⟩,
    ⟨some 13, none, .mov (.s 4)⟩,
    ⟨some 14, none, .idxA 10 (.s 12) (.s 13)⟩,
    ⟨some 15, none, .load true 10 (.s 14)⟩,
    ⟨some 16, none, .bslice 10 [(.s 15)]⟩,
    ⟨some 17, none, .app 10 80 (.s 11) (.s 16)⟩,
    ⟨some 3, none, .mov (.s 17)⟩]))
  (.reg [⟨some 9, none, .mov (.s 4)⟩,
    ⟨some 10, none, .bin .add (.s 9) (.c (.pure (.int .i64 1)))⟩,
    ⟨some 4, none, .mov (.s 10)⟩])))
def c38 : AC :=
  (.seq (.reg [⟨some 2, none, .mov (.c .empty)⟩])
  (.seq (.reg [⟨some 3, none, .mov (.c .empty)⟩])
  (.seq (.seq (.reg [⟨some 4, none, .mov (.c (.pure (.int .i64 0)))⟩])
  (.block 0
  (.loop c38_1)))
  c38_0)))
theorem k38 : (Try.f38.body.bind fun c => cCode Try.prog Try.f38.ntmps RCs c) = some c38 := by kernel_rfl
theorem h38 : (Try.f38.name == "runtime.NumGoroutine") = false := by kernel_rfl
theorem r38 : resC Try.prog Try.f38.results.toList = some [.t 2] := by kernel_rfl
theorem a38 {args : List S} {H : Heap} {K : S → Heap → Prop} (hn : args.length ≤ 19) (h : aWx Try.prog H.length c38 (PostX [.t 2] K) (argEnv 0 args) H) : CallA Try.prog 38 args H K :=
  callA_of_x mixed Try.func38 h38 k38 r38 (by rw [Try.ntmps38]; exact hn) h
theorem q38 {vs ds : List V} (hn : vs.length ≤ 19) (h : aWx Try.prog 0 c38 (PostX [.t 2] (Gives ds)) (argEnv 0 (vs.map .pure)) []) : FnQ Try.prog 38 vs ds :=
  fnQ_of_call (a38 (by simpa using hn) h)
/-! typecase/typecaseref27.Glyphs2 -/
def c20_0 : AC :=
  (.seq (.reg [⟨some 4, none, .mov (.c (.pure (.bool true)))⟩])
  .ret)
def c20_1 : AC :=
  (.seq (.seq (.reg [⟨some 11, none, .mov (.s 5)⟩,
    ⟨some 12, none, .mov (.s 0)⟩,
    ⟨some 13, none, .len (.s 12)⟩,
    ⟨some 14, none, .bin .lss (.s 11) (.s 13)⟩])
  (.cond (.s 14)
  .skip
  (.exit 0)))
  (.seq (.block 1
  (.seq (.regq [⟨some 17, none, .mov (.s 0)⟩,
    ⟨some 18, none, .mov (.s 5)⟩,
    ⟨some 19, none, .idxA 10 (.s 17) (.s 18)⟩,
    ⟨some 20, none, .load true 10 (.s 19)⟩,
    ⟨some 21, none, .mov (.s 1)⟩,
    ⟨some 22, none, .mov (.s 5)⟩,
    ⟨some 23, none, .idxA 10 (.s 21) (.s 22)⟩,
    ⟨some 24, none, .load true 10 (.s 23)⟩]
    [⟨some 25, none, .eqv true [.i, .i, .i, .i, .i, .i, .i, .i, .i, .i] (.s 20) (.s 24)⟩])
  (.cond (.s 25)
  (.seq (.reg [⟨some 4, none, .mov (.c (.pure (.bool false)))⟩])
  .ret)
  .skip)))
  (.reg [⟨some 15, none, .mov (.s 5)⟩,
    ⟨some 16, none, .bin .add (.s 15) (.c (.pure (.int .i64 1)))⟩,
    ⟨some 5, none, .mov (.s 16)⟩])))
def c20 : AC :=
  (.seq (.reg [⟨some 4, none, .mov (.c (.pure (.bool false)))⟩])
  (.seq (.seq (.reg [⟨some 6, none, .mov (.s 0)⟩,
    ⟨some 7, none, .len (.s 6)⟩,
    ⟨some 8, none, .mov (.s 1)⟩,
    ⟨some 9, none, .len (.s 8)⟩,
    ⟨some 10, none, .bin .neq (.s 7) (.s 9)⟩])
  (.cond (.s 10)
  (.seq (.reg [⟨some 4, none, .mov (.c (.pure (.bool false)))⟩])
  .ret)
  .skip))
  (.seq (.seq (.reg [⟨some 5, none, .mov (.c (.pure (.int .i64 0)))⟩])
  (.block 0
  (.loop c20_1)))
  c20_0)))
theorem k20 : (Try.f20.body.bind fun c => cCode Try.prog Try.f20.ntmps RCs c) = some c20 := by kernel_rfl
theorem h20 : (Try.f20.name == "runtime.NumGoroutine") = false := by kernel_rfl
theorem r20 : resC Try.prog Try.f20.results.toList = some [.t 4] := by kernel_rfl
theorem a20 {args : List S} {H : Heap} {K : S → Heap → Prop} (hn : args.length ≤ 26) (h : aWx Try.prog H.length c20 (PostX [.t 4] K) (argEnv 0 args) H) : CallA Try.prog 20 args H K :=
  callA_of_x mixed Try.func20 h20 k20 r20 (by rw [Try.ntmps20]; exact hn) h
theorem q20 {vs ds : List V} (hn : vs.length ≤ 26) (h : aWx Try.prog 0 c20 (PostX [.t 4] (Gives ds)) (argEnv 0 (vs.map .pure)) []) : FnQ Try.prog 20 vs ds :=
  fnQ_of_call (a20 (by simpa using hn) h)

theorem copy27_c (l : List Gl) (hl : l.length ≤ 1000) : CallA Try.prog 38 [.pure (.sl (l.map gl))] [] fun s H' => s = .rsl 0 0 l.length ∧ H' = [⟨(l.map gl).map .pure, 10, .live⟩] := by
  refine a38 (by simp) ?_
  unfold c38
  simp -implicitDefEqProofs only [*, vmp,↓vmd,seval]
  refine loop_virt 3 10 rfl (by simp) ?_
  refine loop_at (T := Nat) (fun i => [(4, .pure (I (i : Int))), (0, .pure (.sl (l.map gl))), (3, .rsl 0 0 (l.take i).length)]) (fun i => [⟨((l.take i).map gl).map .pure, 10, .live⟩]) (fun i => i ≤ l.length) (fun i => l.length - i)
    0 [0] (by simp) rfl (by simp) (by simp -implicitDefEqProofs only [List.take_zero, kpp,seval]) (by simp -implicitDefEqProofs only [List.take_zero, kpp,seval]) ?_
  intro i hi
  have hi' : (l.take i).length = i := by simp; omega
  unfold c38_1
  simp -implicitDefEqProofs only [vmp,↓vmd,seval]
  refine onIf_intro fun _ => ?_
  (first | apply envO | apply envQ); simp -implicitDefEqProofs only [vmp,↓vmd,seval]; rfl
  simp -implicitDefEqProofs only [vmp,↓vmd,seval]
  refine onB_dec (fun h1 => ?_) (fun h1 => ?_)
  · have hlt : i < l.length := by omega
    have hgi : (l.map gl)[i]? = some (gl l[i]) := map_at hlt
    have hs' := List.take_succ_eq_append_getElem hlt
    generalize l[i] = g at hgi hs'
    simp -implicitDefEqProofs only [h1, hgi, Int.natCast_nonneg, vmp,↓vmd,seval]
    refine onIf'_intro (appOk_one rfl rfl (by simp) (by omega) (by simp [maxLen]; omega)) ?_
    (first | apply envO | apply envQ); simp -implicitDefEqProofs only [vmp,↓vmd,seval]; rfl
    simp -implicitDefEqProofs only [vmp,↓vmd,seval]
    refine onBk_to (i + 1) [2] (by simp) rfl (by omega) hlt (by simp -implicitDefEqProofs only [next_at hlt (by omega), hs', kpp,seval]) (by simp -implicitDefEqProofs only [hs', kpp,seval])
  · rw [List.take_of_length_le (by omega)]
    simp -implicitDefEqProofs only [h1, vmp,↓vmd,seval]
    unfold c38_0
    simp -implicitDefEqProofs only [vmp,↓vmd,seval]
theorem glyphs2_q (a b : List Gl) : FnQ Try.prog 20 [.sl (a.map gl), .sl (b.map gl)] [.bool (decide (a = b))] := by
  refine q20 (by simp) ?_
  unfold c20
  simp -implicitDefEqProofs only [*, vmp,↓vmd,seval]
  refine onIf_intro fun hl1 => ?_
  simp -implicitDefEqProofs only [*, vmp,↓vmd,seval]
  refine onIf_intro fun hl2 => ?_
  simp -implicitDefEqProofs only [*, vmp,↓vmd,seval]
  by_cases hn : a.length = b.length
  · simp -implicitDefEqProofs only [hn, vmp,↓vmd,seval]
    refine loop_at (T := Nat) (fun i => [(5, .pure (I i)), (0, .pure (.sl (a.map gl))), (1, .pure (.sl (b.map gl)))]) (fun _ => []) (fun i => i ≤ a.length ∧ decide (a.drop i = b.drop i) = decide (a = b)) (fun i => a.length - i)
      0 [] (by simp) rfl ⟨by simp, by simp⟩ (by simp -implicitDefEqProofs only [kpp,seval]) (by simp -implicitDefEqProofs only [kpp,seval]) ?_
    rintro i ⟨hi, hr⟩
    unfold c20_1
    simp -implicitDefEqProofs only [vmp,↓vmd,seval]
    refine onIf_intro fun _ => ?_
    simp -implicitDefEqProofs only [vmp,↓vmd,seval]
    refine onB_dec (fun h1 => ?_) (fun h1 => ?_)
    · have hlt : i < a.length := by omega
      have hlt2 : i < b.length := by omega
      rw [drop_at hlt, drop_at hlt2] at hr
      simp -implicitDefEqProofs only [h1, map_at hlt, map_at hlt2, Int.natCast_nonneg, vmp,↓vmd,seval]
      rw [gl_b]
      by_cases he : a[i] = b[i]
      · simp -implicitDefEqProofs only [he, vmp,↓vmd,seval]
        refine onBk_to (i + 1) [] (by simp) rfl (by omega) ⟨hlt, by rw [← hr, he]; simp only [List.cons.injEq, true_and]⟩ (by simp -implicitDefEqProofs only [next_at hlt (by omega), kpp,seval]) (by simp -implicitDefEqProofs only [kpp,seval])
      · simp -implicitDefEqProofs only [he, vmp,↓vmd,seval]
        rw [show decide (a = b) = false by rw [← hr]; simp only [List.cons.injEq, he, false_and, decide_false]]
        exact gives_pure
    · simp -implicitDefEqProofs only [h1, vmp,↓vmd,seval]
      unfold c20_0
      simp -implicitDefEqProofs only [vmp,↓vmd,seval]
      rw [List.drop_of_length_le (by omega), List.drop_of_length_le (by omega)] at hr
      rw [← hr]
      exact gives_pure
  · have hn' : ¬ ((a.length : Int) = (b.length : Int)) := by omega
    simp -implicitDefEqProofs only [hn', vmp,↓vmd,seval]
    rw [show decide (a = b) = false by simp; rintro rfl; exact hn rfl]
    exact gives_pure
theorem copy27_q (l : List Gl) (hl : l.length ≤ 1000) : FnQ Try.prog 38 [.sl (l.map gl)] [.sl (l.map gl)] :=
  fnQ_of_call ((copy27_c l hl).mono fun s H' h => by
    rcases h with ⟨rfl, rfl⟩
    exact gives_row' rfl (by simp) rfl)
theorem cloneG_q (l : List Gl) (hl : l.length ≤ 1000) : FnQ Try.prog 36 [.sl (l.map gl)] [.sl (l.map gl)] :=
  fnQ_of_call ((cloneG_c l hl).mono fun s H' h => by
    rcases h with ⟨rfl, rfl⟩
    exact gives_row' rfl (by simp) rfl)
end Go.Proofs.Ytcjmkpkhjhjepaa.W
