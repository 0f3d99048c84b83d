/-
  Whether a row of glyphs is right. No condition but on sizes.
-/
import Derived.Test.YtbllbkhkmngclaaGls
import Derived.Test.YtbllbkhkmngclaaStops
namespace Go.Proofs.Ytbllbkhkmngclaa.W
open Go Go.Vm Go.Proofs
set_option maxRecDepth 100000
set_option linter.unusedSimpArgs false
set_option maxHeartbeats 4000000
/-! typecase/buffer.Right -/
def c40_0 : AC :=
  (.seq (.reg [⟨some 2, none, .mov (.c (.pure (.bool true)))⟩])
  .ret)
def c40_1 : AC :=
  (.seq (.reg [⟨some 10, none, .bin .lss (.s 9) (.s 8)⟩])
  (.seq (.cond (.s 10)
  .skip
  (.exit 0))
  (.seq (.block 1
  (.seq (.reg [⟨some 11, none, .mov (.s 9)⟩,
    ⟨some 12, none, .idxA 10 (.s 7) (.s 9)⟩,
    ⟨some 13, none, .load true 10 (.s 12)⟩,
    ⟨some 5, none, .box (.c (.pure (.agg [(.int .i64 0), (.int .i64 0), (.int .i64 0), (.int .i64 0), (.int .i64 0), (.int .i64 0), (.int .i64 0), (.int .i64 0), (.int .i64 0), (.int .i64 0)])))⟩,
    ⟨some 4, none, .mov (.s 11)⟩,
    ⟨none, none, .store 10 (.s 5) (.s 13)⟩])
  (.seq (.regq [⟨some 14, none, .mov (.s 4)⟩,
    ⟨some 15, none, .bin .gtr (.s 14) (.c (.pure (.int .i64 0)))⟩,
    ⟨some 16, none, .mov (.s 15)⟩,
    ⟨some 17, some (16, true), .load false 1 (.s 1)⟩,
    ⟨some 18, some (16, true), .mov (.s 4)⟩,
    ⟨some 19, some (16, true), .bin .sub (.s 18) (.c (.pure (.int .i64 1)))⟩,
    ⟨some 20, some (16, true), .idxA 10 (.s 17) (.s 19)⟩,
    ⟨some 21, some (16, true), .fldA 1 (.s 20)⟩,
    ⟨some 22, some (16, true), .load false 1 (.s 21)⟩,
    ⟨some 23, some (16, true), .fldA 1 (.s 5)⟩,
    ⟨some 24, some (16, true), .load false 1 (.s 23)⟩,
    ⟨some 25, some (16, true), .bin .gtr (.s 22) (.s 24)⟩,
    ⟨some 26, none, .pick (.s 16) (.s 25) (.c (.pure (.bool false)))⟩,
    ⟨some 27, none, .mov (.s 26)⟩,
    ⟨some 28, some (27, false), .mov (.s 3)⟩,
    ⟨some 29, some (27, false), .fldA 5 (.s 5)⟩,
    ⟨some 30, some (27, false), .load false 1 (.s 29)⟩,
    ⟨some 31, some (27, false), .callv (.s 28) [(.s 30)]⟩,
    ⟨some 32, some (27, false), .un .not (.s 31)⟩,
    ⟨some 33, none, .pick (.s 27) (.c (.pure (.bool true))) (.s 32)⟩,
    ⟨some 34, none, .mov (.s 33)⟩,
    ⟨some 35, some (34, false), .mov (.s 3)⟩,
    ⟨some 36, some (34, false), .fldA 6 (.s 5)⟩,
    ⟨some 37, some (34, false), .load false 1 (.s 36)⟩]
    [⟨some 38, some (34, false), .callv (.s 35) [(.s 37)]⟩,
    ⟨some 39, some (34, false), .un .not (.s 38)⟩,
    ⟨some 40, none, .pick (.s 34) (.c (.pure (.bool true))) (.s 39)⟩])
  (.cond (.s 40)
  (.seq (.reg [⟨some 2, none, .mov (.c (.pure (.bool false)))⟩])
  .ret)
  .skip))))
  (.reg [⟨some 41, none, .bin .add (.s 9) (.c (.pure (.int .i64 1)))⟩,
    ⟨some 9, none, .mov (.s 41)⟩]))))
def c40 : AC :=
  (.seq (.reg [⟨some 1, none, .box (.s 0)⟩,
    ⟨some 2, none, .mov (.c (.pure (.bool false)))⟩])
  (.seq (.reg [⟨some 6, none, .mkfn (.func 77) [] [(.s 1)]⟩,
    ⟨some 3, none, .mov (.s 6)⟩])
  (.seq (.seq (.reg [⟨some 7, none, .load false 1 (.s 1)⟩,
    ⟨some 8, none, .len (.s 7)⟩,
    ⟨some 9, none, .mov (.c (.pure (.int .i64 0)))⟩])
  (.block 0
  (.loop c40_1)))
  c40_0)))
theorem k40 : (Try.f40.body.bind fun c => cCode Try.prog Try.f40.ntmps RCs c) = some c40 := by kernel_rfl
theorem h40 : (Try.f40.name == "runtime.NumGoroutine") = false := by kernel_rfl
theorem r40 : resC Try.prog Try.f40.results.toList = some [.t 2] := by kernel_rfl
theorem a40 {args : List S} {H : Heap} {K : S → Heap → Prop} (hn : args.length ≤ 42) (h : aWx Try.prog H.length c40 (PostX [.t 2] K) (argEnv 0 args) H) : CallA Try.prog 40 args H K :=
  callA_of_x mixed Try.func40 h40 k40 r40 (by rw [Try.ntmps40]; exact hn) h
theorem q40 {vs ds : List V} (hn : vs.length ≤ 42) (h : aWx Try.prog 0 c40 (PostX [.t 2] (Gives ds)) (argEnv 0 (vs.map .pure)) []) : FnQ Try.prog 40 vs ds :=
  fnQ_of_call (a40 (by simpa using hn) h)
/-! typecase/buffer.Right$1 -/
def c77 : AC :=
  (.seq (.reg [⟨some 3, none, .mov (.c (.pure (.bool false)))⟩])
  (.seq (.reg [⟨some 4, none, .mov (.s 0)⟩,
    ⟨some 5, none, .bin .geq (.s 4) (.c (.pure (.int .i64 (-1))))⟩,
    ⟨some 6, none, .mov (.s 5)⟩,
    ⟨some 7, some (6, true), .mov (.s 0)⟩,
    ⟨some 8, some (6, true), .load false 1 (.s 1)⟩,
    ⟨some 9, some (6, true), .len (.s 8)⟩,
    ⟨some 10, some (6, true), .bin .lss (.s 7) (.s 9)⟩,
    ⟨some 11, none, .pick (.s 6) (.s 10) (.c (.pure (.bool false)))⟩,
    ⟨some 3, none, .mov (.s 11)⟩])
  .ret))
theorem k77 : (Try.f77.body.bind fun c => cCode Try.prog Try.f77.ntmps RCs c) = some c77 := by kernel_rfl
theorem h77 : (Try.f77.name == "runtime.NumGoroutine") = false := by kernel_rfl
theorem r77 : resC Try.prog Try.f77.results.toList = some [.t 3] := by kernel_rfl
theorem a77 {args : List S} {H : Heap} {K : S → Heap → Prop} (hn : args.length ≤ 12) (h : aWx Try.prog H.length c77 (PostX [.t 3] K) (argEnv 0 args) H) : CallA Try.prog 77 args H K :=
  callA_of_x mixed Try.func77 h77 k77 r77 (by rw [Try.ntmps77]; exact hn) h
theorem q77 {vs ds : List V} (hn : vs.length ≤ 12) (h : aWx Try.prog 0 c77 (PostX [.t 3] (Gives ds)) (argEnv 0 (vs.map .pure)) []) : FnQ Try.prog 77 vs ds :=
  fnQ_of_call (a77 (by simpa using hn) h)

def placeF (n : Int) (m : Nat) : Bool := decide (-1 ≤ n) && decide (n < m)
def okR (ls : List Gl) (i : Nat) : Bool := !(decide (0 < i) && decide ((glAt ls (i : Int)).cl < (glAt ls ((i : Int) - 1)).cl)) && placeF (glAt ls (i : Int)).to ls.length && placeF (glAt ls (i : Int)).hang ls.length
def allR (ls : List Gl) : Nat → Nat → Bool
  | 0, _ => true
  | n + 1, i => okR ls i && allR ls n (i + 1)
def rightF (ls : List Gl) : Bool := allR ls ls.length 0
theorem right1_c (ls : List Gl) (n : Int) (st : RowSt) (hst : st = .live ∨ st = .frozen) : CallA Try.prog 77 [.pure (I n), .ptr 0 0 0] [⟨[.pure (.sl (ls.map gl))], 1, st⟩] fun s H' => s = retS ([.bool (placeF n ls.length)].map .pure) ∧ H' = [⟨[.pure (.sl (ls.map gl))], 1, st⟩] := by
  refine a77 (by simp) ?_
  unfold c77
  generalize hb : placeF n ls.length = b
  rcases hst with rfl | rfl
  all_goals
    simp -implicitDefEqProofs only [vmp,↓vmd,seval]
    refine onB_dec (fun h1 => ?_) (fun h1 => ?_)
    · first | refine envO (by simp -implicitDefEqProofs only [h1, vmp,↓vmd,seval]; rfl) ?_ | refine envQ (by simp -implicitDefEqProofs only [h1, vmp,↓vmd,seval]; rfl) ?_
      simp -implicitDefEqProofs only [h1, vmp,↓vmd,seval]
      refine onIf_intro fun _ => ?_
      first | refine envO (by simp -implicitDefEqProofs only [h1, vmp,↓vmd,seval]; rfl) ?_ | refine envQ (by simp -implicitDefEqProofs only [h1, vmp,↓vmd,seval]; rfl) ?_
      simp -implicitDefEqProofs only [h1, vmp,↓vmd,seval]
      rw [← hb, placeF, decide_eq_true h1]
      rfl
    · first | refine envO (by simp -implicitDefEqProofs only [h1, vmp,↓vmd,seval]; rfl) ?_ | refine envQ (by simp -implicitDefEqProofs only [h1, vmp,↓vmd,seval]; rfl) ?_
      simp -implicitDefEqProofs only [h1, vmp,↓vmd,seval]
      rw [← hb, placeF, decide_eq_false h1]
      rfl
theorem right_q (ls : List Gl) (hl : ls.length ≤ 1000) : FnQ Try.prog 40 [.sl (ls.map gl)] [.bool (rightF ls)] := by
  refine q40 (by simp) ?_
  unfold c40
  have ho : allR ls ls.length 0 = rightF ls := rfl
  generalize rightF ls = out at *
  simp -implicitDefEqProofs only [vmp,↓vmd,seval]
  refine onIf_intro fun _ => ?_
  first | refine envO (by simp -implicitDefEqProofs only [vmp,↓vmd,seval]; rfl) ?_ | refine envQ (by simp -implicitDefEqProofs only [vmp,↓vmd,seval]; rfl) ?_
  simp -implicitDefEqProofs only [vmp,↓vmd,seval]
  refine loop_at (T := Nat) (fun i => [(9, .pure (I (i : Int))), (8, .pure (I ls.length)), (7, .pure (.sl (ls.map gl))), (1, .ptr 0 0 0), (3, .func (.func 77) [] [.ptr 0 0 0])]) (fun _ => [⟨[.pure (.sl (ls.map gl))], 1, .live⟩]) (fun i => i ≤ ls.length ∧ allR ls (ls.length - i) i = out) (fun i => ls.length - i)
    0 [0] (by simp) rfl ⟨by simp, ho⟩ (by simp -implicitDefEqProofs only [kpp,seval]) (by simp -implicitDefEqProofs only [kpp,seval]) ?_
  rintro i ⟨hi, hr⟩
  unfold c40_1
  simp -implicitDefEqProofs only [vmp,↓vmd,seval]
  refine onB_dec (fun h1 => ?_) (fun h1 => ?_)
  · have hlt : i < ls.length := by omega
    rw [show ls.length - i = (ls.length - (i + 1)) + 1 by omega, allR] at hr
    have hgi : (ls.map gl)[i]? = some (gl (glAt ls (i : Int))) := by
      have := glAt_map (ls := ls) (y := (i : Int)) (by omega) (by omega)
      simpa using this
    have hok : okR ls i = (!(decide (0 < i) && decide ((glAt ls (i : Int)).cl < (glAt ls ((i : Int) - 1)).cl)) && placeF (glAt ls (i : Int)).to ls.length && placeF (glAt ls (i : Int)).hang ls.length) := rfl
    have fin : okR ls i = false → out = false := fun e => by rw [← hr, e]; rfl
    simp -implicitDefEqProofs only [h1, hgi, Int.natCast_nonneg, vmp,↓vmd,seval]
    by_cases h2 : 0 < i
    · have h2' : (0 : Int) < (i : Int) := by omega
      have hw : IntKind.wrap .i64 ((i : Int) - 1) = (i : Int) - 1 := wrap_id (by omega) (by omega)
      have i0 : 0 ≤ (i : Int) - 1 := by omega
      have hgp := glAt_map (ls := ls) (y := (i : Int) - 1) (by omega) (by omega)
      refine onB_pos h2' ?_
      first | refine envO (by simp -implicitDefEqProofs only [h2', vmp,↓vmd,seval]; rfl) ?_ | refine envQ (by simp -implicitDefEqProofs only [h2', vmp,↓vmd,seval]; rfl) ?_
      simp -implicitDefEqProofs only [hw, i0, hgp, vmp,↓vmd,seval]
      refine onB_dec (fun h3 => ?_) (fun h3 => ?_)
      · rw [fin (by rw [hok, decide_eq_true h2, decide_eq_true h3]; rfl)]
        first | refine envO (by simp -implicitDefEqProofs only [h3, vmp,↓vmd,seval]; rfl) ?_ | refine envQ (by simp -implicitDefEqProofs only [h3, vmp,↓vmd,seval]; rfl) ?_
        simp -implicitDefEqProofs only [h3, vmp,↓vmd,seval]
        exact gives_pure
      · first | refine envO (by simp -implicitDefEqProofs only [h3, vmp,↓vmd,seval]; rfl) ?_ | refine envQ (by simp -implicitDefEqProofs only [h3, vmp,↓vmd,seval]; rfl) ?_
        simp -implicitDefEqProofs only [h3, vmp,↓vmd,seval]
        refine onQ_p (right1_c ls (glAt ls (i : Int)).to .frozen (.inr rfl)) [0] (by simp) (by simp -implicitDefEqProofs only [Vm.freeze, if_true, sameH_cons, sameH_nil, sameR_some, kpp,seval]) (by simp) rfl rfl (by simp [V.flat]) ?_
        generalize placeF (glAt ls (i : Int)).to ls.length = b1 at hok ⊢
        cases b1 with
        | false =>
          rw [fin (by rw [hok]; simp)]
          first | refine envO (by simp -implicitDefEqProofs only [vmp,↓vmd,seval]; rfl) ?_ | refine envQ (by simp -implicitDefEqProofs only [vmp,↓vmd,seval]; rfl) ?_
          simp -implicitDefEqProofs only [vmp,↓vmd,seval]
          exact gives_pure
        | true =>
          first | refine envO (by simp -implicitDefEqProofs only [vmp,↓vmd,seval]; rfl) ?_ | refine envQ (by simp -implicitDefEqProofs only [vmp,↓vmd,seval]; rfl) ?_
          simp -implicitDefEqProofs only [vmp,↓vmd,seval]
          refine onC_fr (right1_c ls (glAt ls (i : Int)).hang .live (.inl rfl)) [0] (by simp) (by simp -implicitDefEqProofs only [kpp,seval]) rfl rfl (by simp) ?_
          generalize placeF (glAt ls (i : Int)).hang ls.length = b2 at hok ⊢
          cases b2 with
          | false =>
            rw [fin (by rw [hok]; simp)]
            first | refine envO (by simp -implicitDefEqProofs only [vmp,↓vmd,seval]; rfl) ?_ | refine envQ (by simp -implicitDefEqProofs only [vmp,↓vmd,seval]; rfl) ?_
            simp -implicitDefEqProofs only [vmp,↓vmd,seval]
            exact gives_pure
          | true =>
            have yes : okR ls i = true := by rw [hok]; simp; omega
            rw [yes, Bool.true_and] at hr
            first | refine envO (by simp -implicitDefEqProofs only [vmp,↓vmd,seval]; rfl) ?_ | refine envQ (by simp -implicitDefEqProofs only [vmp,↓vmd,seval]; rfl) ?_
            simp -implicitDefEqProofs only [vmp,↓vmd,seval]
            refine onBk_to (i + 1) [0] (by simp) rfl (by omega) ⟨hlt, hr⟩ (by simp -implicitDefEqProofs only [next_at hlt (by omega), kpp,seval]) (by simp -implicitDefEqProofs only [kpp,seval])
    · have h2' : ¬ (0 : Int) < (i : Int) := by omega
      refine onB_neg h2' ?_
      first | refine envO (by simp -implicitDefEqProofs only [h2', vmp,↓vmd,seval]; rfl) ?_ | refine envQ (by simp -implicitDefEqProofs only [h2', vmp,↓vmd,seval]; rfl) ?_
      simp -implicitDefEqProofs only [vmp,↓vmd,seval]
      refine onQ_p (right1_c ls (glAt ls (i : Int)).to .frozen (.inr rfl)) [0] (by simp) (by simp -implicitDefEqProofs only [Vm.freeze, if_true, sameH_cons, sameH_nil, sameR_some, kpp,seval]) (by simp) rfl rfl (by simp [V.flat]) ?_
      generalize placeF (glAt ls (i : Int)).to ls.length = b1 at hok ⊢
      cases b1 with
      | false =>
        rw [fin (by rw [hok]; simp)]
        first | refine envO (by simp -implicitDefEqProofs only [vmp,↓vmd,seval]; rfl) ?_ | refine envQ (by simp -implicitDefEqProofs only [vmp,↓vmd,seval]; rfl) ?_
        simp -implicitDefEqProofs only [vmp,↓vmd,seval]
        exact gives_pure
      | true =>
        first | refine envO (by simp -implicitDefEqProofs only [vmp,↓vmd,seval]; rfl) ?_ | refine envQ (by simp -implicitDefEqProofs only [vmp,↓vmd,seval]; rfl) ?_
        simp -implicitDefEqProofs only [vmp,↓vmd,seval]
        refine onC_fr (right1_c ls (glAt ls (i : Int)).hang .live (.inl rfl)) [0] (by simp) (by simp -implicitDefEqProofs only [kpp,seval]) rfl rfl (by simp) ?_
        generalize placeF (glAt ls (i : Int)).hang ls.length = b2 at hok ⊢
        cases b2 with
        | false =>
          rw [fin (by rw [hok]; simp)]
          first | refine envO (by simp -implicitDefEqProofs only [vmp,↓vmd,seval]; rfl) ?_ | refine envQ (by simp -implicitDefEqProofs only [vmp,↓vmd,seval]; rfl) ?_
          simp -implicitDefEqProofs only [vmp,↓vmd,seval]
          exact gives_pure
        | true =>
          have yes : okR ls i = true := by rw [hok]; simp; omega
          rw [yes, Bool.true_and] at hr
          first | refine envO (by simp -implicitDefEqProofs only [vmp,↓vmd,seval]; rfl) ?_ | refine envQ (by simp -implicitDefEqProofs only [vmp,↓vmd,seval]; rfl) ?_
          simp -implicitDefEqProofs only [vmp,↓vmd,seval]
          refine onBk_to (i + 1) [0] (by simp) rfl (by omega) ⟨hlt, hr⟩ (by simp -implicitDefEqProofs only [next_at hlt (by omega), kpp,seval]) (by simp -implicitDefEqProofs only [kpp,seval])
  · rw [show ls.length - i = 0 by omega, allR] at hr
    simp -implicitDefEqProofs only [h1, vmp,↓vmd,seval]
    unfold c40_0
    simp -implicitDefEqProofs only [vmp,↓vmd,seval]
    rw [← hr]
    exact gives_pure
end Go.Proofs.Ytbllbkhkmngclaa.W
