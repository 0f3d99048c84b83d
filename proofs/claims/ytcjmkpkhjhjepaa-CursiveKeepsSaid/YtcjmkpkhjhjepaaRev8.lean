/-
  Of a law's font and glyphs: may they be, and are they small?
-/
import Derived.Test.YtcjmkpkhjhjepaaChk7
import Derived.Test.YtcjmkpkhjhjepaaChk8
import Derived.Test.YtcjmkpkhjhjepaaRev7
namespace Go.Proofs.Ytcjmkpkhjhjepaa.W
open Go Go.Vm Go.Proofs
set_option maxRecDepth 100000
set_option linter.unusedSimpArgs false
set_option maxHeartbeats 4000000
/-! typecase/typecaselaw27.Fine -/
def c11 : AC :=
  (.seq (.reg [⟨some 2, none, .box (.s 0)⟩,
    ⟨some 4, none, .mov (.c (.pure (.bool false)))⟩])
  (.seq (.reg [⟨some 5, none, .load true 6 (.s 2)⟩,
    ⟨some 6, none, .call 32 [(.s 5)]⟩,
    ⟨some 7, none, .mov (.s 6)⟩,
    ⟨some 8, some (7, true), .load true 6 (.s 2)⟩,
    ⟨some 9, some (7, true), .call 33 [(.s 8)]⟩,
    ⟨some 10, some (7, true), .bin .eql (.s 9) (.c (.pure (.int .i64 0)))⟩,
    ⟨some 11, none, .pick (.s 7) (.s 10) (.c (.pure (.bool false)))⟩,
    ⟨some 12, none, .mov (.s 11)⟩,
    ⟨some 13, some (12, true), .mov (.s 1)⟩,
    ⟨some 14, some (12, true), .len (.s 13)⟩,
    ⟨some 15, some (12, true), .bin .leq (.s 14) (.c (.pure (.int .i64 40)))⟩,
    ⟨some 16, none, .pick (.s 12) (.s 15) (.c (.pure (.bool false)))⟩,
    ⟨some 17, none, .mov (.s 16)⟩,
    ⟨some 18, some (17, true), .mov (.s 1)⟩,
    ⟨some 19, some (17, true), .call 34 [(.s 18)]⟩,
    ⟨some 20, none, .pick (.s 17) (.s 19) (.c (.pure (.bool false)))⟩,
    ⟨some 4, none, .mov (.s 20)⟩])
  .ret))
theorem k11 : (Try.f11.body.bind fun c => cCode Try.prog Try.f11.ntmps RCs c) = some c11 := by kernel_rfl
theorem h11 : (Try.f11.name == "runtime.NumGoroutine") = false := by kernel_rfl
theorem r11 : resC Try.prog Try.f11.results.toList = some [.t 4] := by kernel_rfl
theorem a11 {args : List S} {H : Heap} {K : S → Heap → Prop} (hn : args.length ≤ 21) (h : aWx Try.prog H.length c11 (PostX [.t 4] K) (argEnv 0 args) H) : CallA Try.prog 11 args H K :=
  callA_of_x mixed Try.func11 h11 k11 r11 (by rw [Try.ntmps11]; exact hn) h
theorem q11 {vs ds : List V} (hn : vs.length ≤ 21) (h : aWx Try.prog 0 c11 (PostX [.t 4] (Gives ds)) (argEnv 0 (vs.map .pure)) []) : FnQ Try.prog 11 vs ds :=
  fnQ_of_call (a11 (by simpa using hn) h)

def fineF (F : Ff) (ls : List Gl) : Bool := smallB F && decide (checkF F = 0) && decide (ls.length ≤ 40) && rightF ls
theorem fine_q (F : Ff) (ls : List Gl) : FnQ Try.prog 11 [ffV F, .sl (ls.map gl)] [.bool (fineF F ls)] := by
  refine q11 (by simp) ?_
  unfold c11
  have ho : (smallB F && decide (checkF F = 0) && decide (ls.length ≤ 40) && rightF ls) = fineF F ls := rfl
  generalize fineF F ls = out at *
  simp -implicitDefEqProofs only [vmp,↓vmd,seval]
  refine onC_q (small_q F) rfl ?_
  generalize smallB F = b at *
  cases b with
  | false =>
    simp only [Bool.false_and] at ho
    subst ho
    (first | apply envO | apply envQ); simp -implicitDefEqProofs only [vmp,↓vmd,seval]; rfl
    simp -implicitDefEqProofs only [vmp,↓vmd,seval]
    exact gives_pure
  | true =>
    (first | apply envO | apply envQ); simp -implicitDefEqProofs only [vmp,↓vmd,seval]; rfl
    simp -implicitDefEqProofs only [vmp,↓vmd,seval]
    refine onC_q (check_q F) rfl ?_
    generalize checkF F = c at *
    by_cases h1 : c = 0
    · rw [decide_eq_true h1] at ho
      (first | apply envO | apply envQ); simp -implicitDefEqProofs only [h1, vmp,↓vmd,seval]; rfl
      simp -implicitDefEqProofs only [h1, vmp,↓vmd,seval]
      refine onIf_intro fun _ => ?_
      (first | apply envO | apply envQ); simp -implicitDefEqProofs only [h1, vmp,↓vmd,seval]; rfl
      simp -implicitDefEqProofs only [h1, vmp,↓vmd,seval]
      by_cases h2 : ls.length ≤ 40
      · have h2' : (ls.length : Int) ≤ 40 := by omega
        rw [decide_eq_true h2] at ho
        simp only [Bool.true_and] at ho
        refine onB_pos h2' ?_
        (first | apply envO | apply envQ); simp -implicitDefEqProofs only [h2', vmp,↓vmd,seval]; rfl
        simp -implicitDefEqProofs only [h2', vmp,↓vmd,seval]
        refine onC_q (right25_q ls (by omega)) rfl ?_
        rw [ho]
        (first | apply envO | apply envQ); simp -implicitDefEqProofs only [h2', vmp,↓vmd,seval]; rfl
        simp -implicitDefEqProofs only [h2', vmp,↓vmd,seval]
        exact gives_pure
      · have h2' : ¬ (ls.length : Int) ≤ 40 := by omega
        rw [decide_eq_false h2] at ho
        simp only [Bool.and_false, Bool.false_and] at ho
        subst ho
        refine onB_neg h2' ?_
        (first | apply envO | apply envQ); simp -implicitDefEqProofs only [h2', vmp,↓vmd,seval]; rfl
        simp -implicitDefEqProofs only [h2', vmp,↓vmd,seval]
        exact gives_pure
    · rw [decide_eq_false h1] at ho
      simp only [Bool.and_false, Bool.false_and] at ho
      subst ho
      (first | apply envO | apply envQ); simp -implicitDefEqProofs only [h1, vmp,↓vmd,seval]; rfl
      simp -implicitDefEqProofs only [h1, vmp,↓vmd,seval]
      exact gives_pure
end Go.Proofs.Ytcjmkpkhjhjepaa.W
