/-
  The law of what a lookup that goes from behind does at one place.
-/
import Derived.Test.YtcjmkpkhjhjepaaRev11
namespace Go.Proofs.Ytcjmkpkhjhjepaa.W
open Go Go.Vm Go.Proofs
set_option maxRecDepth 100000
set_option linter.unusedSimpArgs false
set_option maxHeartbeats 4000000
/-! typecase/typecaselaw30.ReverseDoes -/
def c6 : AC :=
  (.seq (.reg [⟨some 3, none, .box (.s 0)⟩,
    ⟨some 5, none, .box (.s 2)⟩,
    ⟨some 6, none, .mov (.c (.pure (.bool false)))⟩])
  (.seq (.reg [⟨some 18, none, .load true 6 (.s 3)⟩,
    ⟨some 19, none, .idxAA 2 1 (.s 5) (.c (.pure (.int .i64 0)))⟩,
    ⟨some 20, none, .load false 1 (.s 19)⟩,
    ⟨some 21, none, .conv .u8 (.s 20)⟩,
    ⟨some 22, none, .call 10 [(.s 18), (.s 21)]⟩,
    ⟨some 17, none, .mov (.s 22)⟩,
    ⟨some 23, none, .ext 0 (.s 17)⟩,
    ⟨some 24, none, .ext 1 (.s 17)⟩,
    ⟨some 7, none, .box (.c (.agg [(.pure (.int .i64 0)), (.pure (.int .i64 0)), (.pure (.int .i64 0)), .empty]))⟩,
    ⟨none, none, .store 4 (.s 7) (.s 23)⟩,
    ⟨some 8, none, .mov (.s 24)⟩])
  (.seq (.seq (.reg [⟨some 25, none, .mov (.s 8)⟩,
    ⟨some 26, none, .un .not (.s 25)⟩,
    ⟨some 27, none, .mov (.s 26)⟩,
    ⟨some 28, some (27, false), .load true 6 (.s 3)⟩,
    ⟨some 29, some (27, false), .mov (.s 1)⟩,
    ⟨some 30, some (27, false), .call 11 [(.s 28), (.s 29)]⟩,
    ⟨some 31, some (27, false), .un .not (.s 30)⟩,
    ⟨some 32, none, .pick (.s 27) (.c (.pure (.bool true))) (.s 31)⟩])
  (.cond (.s 32)
  (.seq (.reg [⟨some 33, none, .call 21 []⟩,
    ⟨some 6, none, .mov (.s 33)⟩])
  .ret)
  .skip))
  (.seq (.reg [⟨some 35, none, .load true 6 (.s 3)⟩,
    ⟨some 36, none, .load true 4 (.s 7)⟩,
    ⟨some 37, none, .mov (.s 1)⟩,
    ⟨some 38, none, .idxAA 2 1 (.s 5) (.c (.pure (.int .i64 1)))⟩,
    ⟨some 39, none, .load false 1 (.s 38)⟩,
    ⟨some 40, none, .call 22 [(.s 35), (.s 36), (.s 37), (.s 39)]⟩,
    ⟨some 34, none, .mov (.s 40)⟩,
    ⟨some 41, none, .ext 0 (.s 34)⟩,
    ⟨some 42, none, .ext 1 (.s 34)⟩,
    ⟨some 9, none, .mov (.s 41)⟩,
    ⟨some 10, none, .mov (.s 42)⟩])
  (.seq (.reg [⟨some 44, none, .load true 6 (.s 3)⟩,
    ⟨some 45, none, .load true 4 (.s 7)⟩,
    ⟨some 46, none, .mov (.s 1)⟩,
    ⟨some 47, none, .idxAA 2 1 (.s 5) (.c (.pure (.int .i64 1)))⟩,
    ⟨some 48, none, .load false 1 (.s 47)⟩,
    ⟨some 49, none, .call 23 [(.s 44), (.s 45), (.s 46), (.s 48)]⟩,
    ⟨some 43, none, .mov (.s 49)⟩,
    ⟨some 50, none, .ext 0 (.s 43)⟩,
    ⟨some 51, none, .ext 1 (.s 43)⟩,
    ⟨some 11, none, .mov (.s 50)⟩,
    ⟨some 12, none, .mov (.s 51)⟩])
  (.seq (.reg [⟨some 53, none, .load true 6 (.s 3)⟩,
    ⟨some 54, none, .load true 4 (.s 7)⟩,
    ⟨some 55, none, .mov (.s 1)⟩,
    ⟨some 56, none, .idxAA 2 1 (.s 5) (.c (.pure (.int .i64 1)))⟩,
    ⟨some 57, none, .load false 1 (.s 56)⟩,
    ⟨some 58, none, .call 24 [(.s 53), (.s 54), (.s 55), (.s 57)]⟩,
    ⟨some 52, none, .mov (.s 58)⟩,
    ⟨some 59, none, .ext 0 (.s 52)⟩,
    ⟨some 60, none, .ext 1 (.s 52)⟩,
    ⟨some 13, none, .mov (.s 59)⟩,
    ⟨some 14, none, .mov (.s 60)⟩])
  (.seq (.reg [⟨some 62, none, .load true 6 (.s 3)⟩,
    ⟨some 63, none, .load true 4 (.s 7)⟩,
    ⟨some 64, none, .mov (.s 1)⟩,
    ⟨some 65, none, .idxAA 2 1 (.s 5) (.c (.pure (.int .i64 1)))⟩,
    ⟨some 66, none, .load false 1 (.s 65)⟩,
    ⟨some 67, none, .call 25 [(.s 62), (.s 63), (.s 64), (.s 66)]⟩,
    ⟨some 61, none, .mov (.s 67)⟩,
    ⟨some 68, none, .ext 0 (.s 61)⟩,
    ⟨some 69, none, .ext 1 (.s 61)⟩,
    ⟨some 15, none, .mov (.s 68)⟩,
    ⟨some 16, none, .mov (.s 69)⟩])
  (.seq (.reg [⟨some 70, none, .mov (.s 9)⟩,
    ⟨some 71, none, .mov (.s 11)⟩,
    ⟨some 72, none, .bin .eql (.s 70) (.s 71)⟩,
    ⟨some 73, none, .mov (.s 72)⟩,
    ⟨some 74, some (73, true), .mov (.s 10)⟩,
    ⟨some 75, some (73, true), .mov (.s 12)⟩,
    ⟨some 76, some (73, true), .eqb false (.s 74) (.s 75)⟩,
    ⟨some 77, none, .pick (.s 73) (.s 76) (.c (.pure (.bool false)))⟩,
    ⟨some 78, none, .mov (.s 77)⟩,
    ⟨some 79, some (78, true), .mov (.s 13)⟩,
    ⟨some 80, some (78, true), .mov (.s 15)⟩,
    ⟨some 81, some (78, true), .call 20 [(.s 79), (.s 80)]⟩,
    ⟨some 82, none, .pick (.s 78) (.s 81) (.c (.pure (.bool false)))⟩,
    ⟨some 83, none, .mov (.s 82)⟩,
    ⟨some 84, some (83, true), .mov (.s 14)⟩,
    ⟨some 85, some (83, true), .mov (.s 16)⟩,
    ⟨some 86, some (83, true), .eqb false (.s 84) (.s 85)⟩,
    ⟨some 87, none, .pick (.s 83) (.s 86) (.c (.pure (.bool false)))⟩,
    ⟨some 88, none, .mov (.s 87)⟩,
    ⟨some 89, some (88, true), .call 21 []⟩,
    ⟨some 90, none, .pick (.s 88) (.s 89) (.c (.pure (.bool false)))⟩,
    ⟨some 6, none, .mov (.s 90)⟩])
  .ret))))))))
theorem k6 : (Try.f6.body.bind fun c => cCode Try.prog Try.f6.ntmps RCs c) = some c6 := by kernel_rfl
theorem h6 : (Try.f6.name == "runtime.NumGoroutine") = false := by kernel_rfl
theorem r6 : resC Try.prog Try.f6.results.toList = some [.t 6] := by kernel_rfl
theorem a6 {args : List S} {H : Heap} {K : S → Heap → Prop} (hn : args.length ≤ 91) (h : aWx Try.prog H.length c6 (PostX [.t 6] K) (argEnv 0 args) H) : CallA Try.prog 6 args H K :=
  callA_of_x mixed Try.func6 h6 k6 r6 (by rw [Try.ntmps6]; exact hn) h
theorem q6 {vs ds : List V} (hn : vs.length ≤ 91) (h : aWx Try.prog 0 c6 (PostX [.t 6] (Gives ds)) (argEnv 0 (vs.map .pure)) []) : FnQ Try.prog 6 vs ds :=
  fnQ_of_call (a6 (by simpa using hn) h)

theorem rd_law (F : Ff) (ls : List Gl) (a b : Int) : FnQ Try.prog 6 [ffV F, .sl (ls.map gl), .agg [I a, I b]] [.bool true] := by
  refine q6 (by simp) ?_
  unfold c6
  have hu := u8_in a
  have hfr := @fine_rev F ls
  simp -implicitDefEqProofs only [vmp,↓vmd,seval]
  refine onC_q (pick_q F _ hu.1 hu.2) rfl ?_
  rw [pickR]
  generalize ho : pickF F (IntKind.wrap .u8 a) = o at *
  first | refine envO (by simp -implicitDefEqProofs only [vmp,↓vmd,seval]; rfl) ?_ | refine envQ (by simp -implicitDefEqProofs only [vmp,↓vmd,seval]; rfl) ?_
  simp -implicitDefEqProofs only [vmp,↓vmd,seval]
  cases o with
  | none =>
    simp -implicitDefEqProofs only [Option.isSome_none, vmp,↓vmd,seval]
    refine onC_q alive30_q rfl ?_
    first | refine envO (by simp -implicitDefEqProofs only [vmp,↓vmd,seval]; rfl) ?_ | refine envQ (by simp -implicitDefEqProofs only [vmp,↓vmd,seval]; rfl) ?_
    simp -implicitDefEqProofs only [vmp,↓vmd,seval]
    exact gives_pure
  | some k =>
    simp -implicitDefEqProofs only [Option.isSome_some, Option.getD_some, vmp,↓vmd,seval]
    refine onC_q (fine_q F ls) rfl ?_
    have hfr := fun h => hfr h ho
    generalize fineF F ls = b1 at *
    cases b1 with
    | false =>
      first | refine envO (by simp -implicitDefEqProofs only [vmp,↓vmd,seval]; rfl) ?_ | refine envQ (by simp -implicitDefEqProofs only [vmp,↓vmd,seval]; rfl) ?_
      simp -implicitDefEqProofs only [vmp,↓vmd,seval]
      refine onC_q alive30_q rfl ?_
      first | refine envO (by simp -implicitDefEqProofs only [vmp,↓vmd,seval]; rfl) ?_ | refine envQ (by simp -implicitDefEqProofs only [vmp,↓vmd,seval]; rfl) ?_
      simp -implicitDefEqProofs only [vmp,↓vmd,seval]
      exact gives_pure
    | true =>
      obtain ⟨hl, hk⟩ := hfr rfl
      first | refine envO (by simp -implicitDefEqProofs only [vmp,↓vmd,seval]; rfl) ?_ | refine envQ (by simp -implicitDefEqProofs only [vmp,↓vmd,seval]; rfl) ?_
      simp -implicitDefEqProofs only [vmp,↓vmd,seval]
      have g1 := holds_q F.fo k (fun e => (hk e).s) ls (by omega) b
      have g2 := rholds_q F.fo k (fun e => (hk e).s) ls (by omega) b
      have g3 := apply30_q F.fo k hk ls (by omega) b
      have g4 := rapply30_q F.fo k hk ls (by omega) b
      rw [ffV_fo] at g1 g2 g3 g4
      obtain ⟨n1, b1, e1⟩ : ∃ (n1 : Int) (b1 : Bool), hoR (holdR F.fo k ls b) = [I n1, .bool b1] := ⟨_, _, rfl⟩
      obtain ⟨X, b2, e2⟩ : ∃ (X : List Gl) (b2 : Bool), dR F.fo k ls b = [.sl (X.map gl), .bool b2] := ⟨_, _, rfl⟩
      rw [e1] at g1 g2
      rw [e2] at g3 g4
      clear e1 e2
      first | refine onQ_q g1 rfl ?_ | refine onC_q g1 rfl ?_
      first | refine envO (by simp -implicitDefEqProofs only [vmp,↓vmd,seval]; rfl) ?_ | refine envQ (by simp -implicitDefEqProofs only [vmp,↓vmd,seval]; rfl) ?_
      simp -implicitDefEqProofs only [vmp,↓vmd,seval]
      first | refine onQ_q g2 rfl ?_ | refine onC_q g2 rfl ?_
      first | refine envO (by simp -implicitDefEqProofs only [vmp,↓vmd,seval]; rfl) ?_ | refine envQ (by simp -implicitDefEqProofs only [vmp,↓vmd,seval]; rfl) ?_
      simp -implicitDefEqProofs only [vmp,↓vmd,seval]
      first | refine onQ_q g3 rfl ?_ | refine onC_q g3 rfl ?_
      first | refine envO (by simp -implicitDefEqProofs only [vmp,↓vmd,seval]; rfl) ?_ | refine envQ (by simp -implicitDefEqProofs only [vmp,↓vmd,seval]; rfl) ?_
      simp -implicitDefEqProofs only [vmp,↓vmd,seval]
      first | refine onQ_q g4 rfl ?_ | refine onC_q g4 rfl ?_
      have hb1 : (b1 == b1) = true := by cases b1 <;> rfl
      have hb2 : (b2 == b2) = true := by cases b2 <;> rfl
      first | refine envO (by simp -implicitDefEqProofs only [vmp,↓vmd,seval]; rfl) ?_ | refine envQ (by simp -implicitDefEqProofs only [vmp,↓vmd,seval]; rfl) ?_
      simp -implicitDefEqProofs only [hb1, hb2, vmp,↓vmd,seval]
      refine onC_q (glyphs2_q X X) rfl ?_
      rw [decide_eq_true rfl]
      first | refine envO (by simp -implicitDefEqProofs only [vmp,↓vmd,seval]; rfl) ?_ | refine envQ (by simp -implicitDefEqProofs only [vmp,↓vmd,seval]; rfl) ?_
      simp -implicitDefEqProofs only [hb1, hb2, vmp,↓vmd,seval]
      refine onC_q alive30_q rfl ?_
      first | refine envO (by simp -implicitDefEqProofs only [vmp,↓vmd,seval]; rfl) ?_ | refine envQ (by simp -implicitDefEqProofs only [vmp,↓vmd,seval]; rfl) ?_
      simp -implicitDefEqProofs only [vmp,↓vmd,seval]
      exact gives_pure
end Go.Proofs.Ytcjmkpkhjhjepaa.W
