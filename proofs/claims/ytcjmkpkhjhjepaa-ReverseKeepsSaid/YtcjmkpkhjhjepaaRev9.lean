/-
  The law's own row of glyphs.
-/
import Derived.Test.YtcjmkpkhjhjepaaRev4
namespace Go.Proofs.Ytcjmkpkhjhjepaa.W
open Go Go.Vm Go.Proofs
set_option maxRecDepth 100000
set_option linter.unusedSimpArgs false
set_option maxHeartbeats 4000000
/-! typecase/typecaselaw30.row -/
def c42_0 : AC :=
  (.seq (.reg [⟨some 20, none, .mov (.s 3)⟩,
    ⟨some 2, none, .mov (.s 20)⟩])
  .ret)
def c42_1 : AC :=
  (.seq (.seq (.reg [⟨some 5, none, .mov (.s 4)⟩,
    ⟨some 6, none, .mov (.s 0)⟩,
    ⟨some 7, none, .len (.s 6)⟩,
    ⟨some 8, none, .bin .lss (.s 5) (.s 7)⟩])
  (.cond (.s 8)
  .skip
  (.exit 0)))
  (.seq (.block 1
  (.reg [⟨some 11, none, .mov (.s 3)⟩,
    ⟨some 12, none, .mov (.s 0)⟩,
    ⟨some 13, none, .mov (.s 4)⟩,
    ⟨some 14, none, .idxA 1 (.s 12) (.s 13)⟩,
    ⟨some 15, none, .load false 1 (.s 14)⟩,
    ⟨some 16, none, .mov (.s 4)⟩,
    ⟨some 17, none, .build [(.pure (.int .i64 0)), (.pure (.int .i64 0)), (.pure (.int .i64 0)), (.pure (.int .i64 0)), (.pure (.int .i64 0)), (.pure (.int .i64 0)), (.pure (.int .i64 0)), (.pure (.int .i64 0)), (.pure (.int .i64 0)), (.pure (.int .i64 0))] [(0, 1, (.s 15)), (1, 1, (.s 16)), (5, 1, (.c (.pure (.int .i64 (-1))))), (6, 1, (.c (.pure (.int .i64 (-1))))), (9, 1, (.c (.pure (.int .i64 1))))]⟩,
    ⟨some 18, none, .bslice 10 [(.s 17)]⟩,
    ⟨some 19, none, .app 10 80 (.s 11) (.s 18)⟩,
    ⟨some 3, none, .mov (.s 19)⟩]))
  (.reg [⟨some 9, none, .mov (.s 4)⟩,
    ⟨some 10, none, .bin .add (.s 9) (.c (.pure (.int .i64 1)))⟩,
    ⟨some 4, none, .mov (.s 10)⟩])))
def c42 : AC :=
  (.seq (.reg [⟨some 2, none, .mov (.c .empty)⟩])
  (.seq (.reg [⟨some 3, none, .mov (.c .empty)⟩])
  (.seq (.seq (.reg [⟨some 4, none, .mov (.c (.pure (.int .i64 0)))⟩])
  (.block 0
  (.loop c42_1)))
  c42_0)))
theorem k42 : (Try.f42.body.bind fun c => cCode Try.prog Try.f42.ntmps RCs c) = some c42 := by kernel_rfl
theorem h42 : (Try.f42.name == "runtime.NumGoroutine") = false := by kernel_rfl
theorem r42 : resC Try.prog Try.f42.results.toList = some [.t 2] := by kernel_rfl
theorem a42 {args : List S} {H : Heap} {K : S → Heap → Prop} (hn : args.length ≤ 21) (h : aWx Try.prog H.length c42 (PostX [.t 2] K) (argEnv 0 args) H) : CallA Try.prog 42 args H K :=
  callA_of_x mixed Try.func42 h42 k42 r42 (by rw [Try.ntmps42]; exact hn) h
theorem q42 {vs ds : List V} (hn : vs.length ≤ 21) (h : aWx Try.prog 0 c42 (PostX [.t 2] (Gives ds)) (argEnv 0 (vs.map .pure)) []) : FnQ Try.prog 42 vs ds :=
  fnQ_of_call (a42 (by simpa using hn) h)

def rowG : Nat → List Int → List Gl
  | _, [] => []
  | i, g :: r => ⟨g, (i : Int), 0, 0, 0, -1, -1, 0, 0, 1⟩ :: rowG (i + 1) r
theorem row30_f (ids : List Int) (hl : ids.length ≤ 1000) : FnF Try.prog 42 [LI ids] [.sl ((rowG 0 ids).map gl)] := by
  have key : aWx Try.prog 0 c42 (PostX [.t 2] (GivesF [.sl ((rowG 0 ids).map gl)])) (argEnv 0 ([LI ids].map .pure)) [] := ?_
  · exact fnF_of_call (a42 (by simp) key)
  unfold c42
  generalize ho : rowG 0 ids = out
  simp -implicitDefEqProofs only [*, vmp,↓vmd,seval]
  refine loop_virt 3 10 rfl (by simp) ?_
  refine loop_at (T := Nat × List Gl) (fun z => [(4, .pure (I (z.1 : Int))), (0, .pure (LI ids)), (3, .rsl 0 0 z.2.length)]) (fun z => [⟨(z.2.map gl).map .pure, 10, .live⟩]) (fun z => z.1 ≤ ids.length ∧ z.2.length = z.1 ∧ z.2 ++ rowG z.1 (ids.drop z.1) = out) (fun z => ids.length - z.1)
    (0, []) [0] (by simp) rfl ⟨by simp, rfl, by simpa using ho⟩ (by simp -implicitDefEqProofs only [kpp,seval]) (by simp -implicitDefEqProofs only [kpp,seval]) ?_
  rintro ⟨i, acc⟩ ⟨hi, hn, hr⟩
  simp only at hi hn hr
  unfold c42_1
  simp -implicitDefEqProofs only [vmp,↓vmd,seval]
  refine onIf_intro fun _ => ?_
  first | refine envO (by simp -implicitDefEqProofs only [vmp,↓vmd,seval]; rfl) ?_ | refine envQ (by simp -implicitDefEqProofs only [vmp,↓vmd,seval]; rfl) ?_
  simp -implicitDefEqProofs only [vmp,↓vmd,seval]
  refine onB_dec (fun h1 => ?_) (fun h1 => ?_)
  · have hlt : i < ids.length := by omega
    rw [drop_at hlt, rowG] at hr
    have hgi : (ids.map I)[i]? = some (I ids[i]) := map_at hlt
    generalize ids[i] = g at hr hgi
    simp -implicitDefEqProofs only [h1, hgi, Int.natCast_nonneg, vmp,↓vmd,seval]
    refine onIf'_intro (appOk_one rfl rfl (by simp) (by omega) (by simp [maxLen]; omega)) ?_
    first | refine envO (by simp -implicitDefEqProofs only [vmp,↓vmd,seval]; rfl) ?_ | refine envQ (by simp -implicitDefEqProofs only [vmp,↓vmd,seval]; rfl) ?_
    simp -implicitDefEqProofs only [vmp,↓vmd,seval]
    refine onBk_to (i + 1, acc ++ [⟨g, (i : Int), 0, 0, 0, -1, -1, 0, 0, 1⟩]) [2] (by simp) rfl (by simp only; omega) ⟨hlt, by simp [hn], by simpa using hr⟩ (by simp -implicitDefEqProofs only [next_at hlt (by omega), kpp,seval]) (by simp -implicitDefEqProofs only [kpp,seval])
  · rw [List.drop_of_length_le (by omega), rowG, List.append_nil] at hr
    subst hr
    simp -implicitDefEqProofs only [h1, vmp,↓vmd,seval]
    unfold c42_0
    simp -implicitDefEqProofs only [vmp,↓vmd,seval]
    exact givesF_one (toV_rowN rfl (.inr ⟨rfl, rfl⟩) (by simp)) (fresh_row rfl (fun _ => rfl) (by simp))
end Go.Proofs.Ytcjmkpkhjhjepaa.W
