/-
  The numbers of glyphs. No condition but on sizes.
-/
import Derived.Test.YtbllbkhkmngclaaGls
namespace Go.Proofs.Ytbllbkhkmngclaa.W
open Go Go.Vm Go.Proofs
set_option maxRecDepth 100000
set_option linter.unusedSimpArgs false
set_option maxHeartbeats 4000000
/-! typecase/buffer.IDs -/
def c71_0 : AC :=
  (.seq (.reg [⟨some 21, none, .mov (.s 3)⟩,
    ⟨some 2, none, .mov (.s 21)⟩])
  .ret)
def c71_1 : AC :=
  (.seq (.reg [⟨some 12, none, .bin .lss (.s 11) (.s 10)⟩])
  (.seq (.cond (.s 12)
  .skip
  (.exit 0))
  (.seq (.block 1
  (.seq (.reg [⟨some 13, none, .idxA 10 (.s 9) (.s 11)⟩,
    ⟨some 14, none, .load true 10 (.s 13)⟩,
    ⟨some 5, none, .box (.c (.pure (.agg [(.int .i64 0), (.int .i64 0), (.int .i64 0), (.int .i64 0), (.int .i64 0), (.int .i64 0), (.int .i64 0), (.int .i64 0), (.int .i64 0), (.int .i64 0)])))⟩,
    ⟨none, none, .store 10 (.s 5) (.s 14)⟩])
  (.reg [⟨some 15, none, .mov (.s 3)⟩,
    ⟨some 16, none, .fldA 0 (.s 5)⟩,
    ⟨some 17, none, .load false 1 (.s 16)⟩,
    ⟨some 18, none, .bslice 1 [(.s 17)]⟩,
    ⟨some 19, none, .app 1 8 (.s 15) (.s 18)⟩,
    ⟨some 3, none, .mov (.s 19)⟩])))
  (.reg [⟨some 20, none, .bin .add (.s 11) (.c (.pure (.int .i64 1)))⟩,
    ⟨some 11, none, .mov (.s 20)⟩]))))
def c71 : AC :=
  (.seq (.reg [⟨some 2, none, .mov (.c .empty)⟩])
  (.seq (.reg [⟨some 6, none, .mov (.s 0)⟩,
    ⟨some 7, none, .len (.s 6)⟩,
    ⟨some 8, none, .mksl 1 8 (.pure (.int .i64 0)) (.c (.pure (.int .i64 0))) (.s 7)⟩,
    ⟨some 3, none, .mov (.s 8)⟩])
  (.seq (.seq (.reg [⟨some 9, none, .mov (.s 0)⟩,
    ⟨some 10, none, .len (.s 9)⟩,
    ⟨some 11, none, .mov (.c (.pure (.int .i64 0)))⟩])
  (.block 0
  (.loop c71_1)))
  c71_0)))
theorem k71 : (Try.f71.body.bind fun c => cCode Try.prog Try.f71.ntmps RCs c) = some c71 := by kernel_rfl
theorem h71 : (Try.f71.name == "runtime.NumGoroutine") = false := by kernel_rfl
theorem r71 : resC Try.prog Try.f71.results.toList = some [.t 2] := by kernel_rfl
theorem a71 {args : List S} {H : Heap} {K : S → Heap → Prop} (hn : args.length ≤ 22) (h : aWx Try.prog H.length c71 (PostX [.t 2] K) (argEnv 0 args) H) : CallA Try.prog 71 args H K :=
  callA_of_x mixed Try.func71 h71 k71 r71 (by rw [Try.ntmps71]; exact hn) h
theorem q71 {vs ds : List V} (hn : vs.length ≤ 22) (h : aWx Try.prog 0 c71 (PostX [.t 2] (Gives ds)) (argEnv 0 (vs.map .pure)) []) : FnQ Try.prog 71 vs ds :=
  fnQ_of_call (a71 (by simpa using hn) h)

theorem ids_q (l : List Gl) (hl : l.length ≤ 1000) : FnQ Try.prog 71 [.sl (l.map gl)] [LI (l.map (·.id))] := by
  refine q71 (by simp) ?_
  unfold c71
  simp -implicitDefEqProofs only [*, vmp,↓vmd,seval]
  refine onIf_intro fun _ => ?_
  first | refine envO (by simp -implicitDefEqProofs only [vmp,↓vmd,seval]; rfl) ?_ | refine envQ (by simp -implicitDefEqProofs only [vmp,↓vmd,seval]; rfl) ?_
  simp -implicitDefEqProofs only [vmp,↓vmd,seval]
  refine onIf'_intro (by simp [maxLen]; omega) ?_
  refine onIf_intro fun _ => ?_
  first | refine envO (by simp -implicitDefEqProofs only [vmp,↓vmd,seval]; rfl) ?_ | refine envQ (by simp -implicitDefEqProofs only [vmp,↓vmd,seval]; rfl) ?_
  simp -implicitDefEqProofs only [vmp,↓vmd,seval]
  have hrep : (∀ e ∈ List.replicate l.length (S.pure (I 0)), S.inb 1 e = true) = True := by
    simp only [eq_iff_iff, iff_true]
    intro e he
    rw [List.eq_of_mem_replicate he]
    rfl
  refine loop_at (T := Nat × List V) (fun y => [(11, .pure (I (y.1 : Int))), (10, .pure (I l.length)), (9, .pure (.sl (l.map gl))), (3, .rsl 0 0 y.1)]) (fun y => [⟨y.2.map .pure, 1, .live⟩]) (fun y => y.1 ≤ l.length ∧ y.2.take y.1 = (l.take y.1).map (fun g => I g.id) ∧ y.2.length = if y.1 = 0 then l.length else y.1) (fun y => l.length - y.1)
    (0, List.replicate l.length (I 0)) [0] (by simp) rfl ⟨by simp, by simp, by simp⟩ (by simp -implicitDefEqProofs only [Int.toNat_zero, kpp,seval]) (by simp -implicitDefEqProofs only [Int.toNat_natCast, List.map_replicate, hrep, kpp,seval]) ?_
  rintro ⟨i, X⟩ ⟨hi, hr, hX⟩
  simp only at hi hr hX ⊢
  have hXi : i ≤ X.length := by split at hX <;> omega
  unfold c71_1
  simp -implicitDefEqProofs only [vmp,↓vmd,seval]
  refine onB_dec (fun h1 => ?_) (fun h1 => ?_)
  · have hlt : i < l.length := by omega
    have hgi : (l.map gl)[i]? = some (gl l[i]) := map_at hlt
    have hs' := List.take_succ_eq_append_getElem hlt
    generalize l[i] = g at hgi hs'
    simp -implicitDefEqProofs only [h1, hgi, Int.natCast_nonneg, vmp,↓vmd,seval]
    refine onIf'_intro (appOk_one rfl rfl (by simp; omega) (by omega) (by simp [maxLen]; omega)) ?_
    first | refine envO (by simp -implicitDefEqProofs only [vmp,↓vmd,seval]; rfl) ?_ | refine envQ (by simp -implicitDefEqProofs only [vmp,↓vmd,seval]; rfl) ?_
    simp -implicitDefEqProofs only [vmp,↓vmd,seval]
    refine onBk_to (i + 1, X.take i ++ [I g.id]) [3] (by simp) rfl (by simp only; omega) ⟨hlt, by rw [List.take_of_length_le (by simp; omega), hr, hs']; simp, by simp; omega⟩ (by simp -implicitDefEqProofs only [next_at hlt (by omega), kpp,seval]) (by simp -implicitDefEqProofs only [← List.map_take, kpp,seval])
  · obtain rfl : i = l.length := by omega
    have e : X.length = l.length := by rw [hX]; split <;> omega
    rw [List.take_of_length_le (by omega), List.take_of_length_le (by omega)] at hr
    subst hr
    simp -implicitDefEqProofs only [h1, vmp,↓vmd,seval]
    unfold c71_0
    simp -implicitDefEqProofs only [vmp,↓vmd,seval]
    rw [show l.map (fun g => I g.id) = (l.map (·.id)).map I by simp]
    exact gives_row' rfl (by simp) (by simp)
end Go.Proofs.Ytbllbkhkmngclaa.W
