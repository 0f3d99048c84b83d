/-
  The laws of glyphs that hang on one another.
-/
import Derived.Test.YtcjmkpkhjhjepaaCur5
import Derived.Test.YtcjmkpkhjhjepaaRev8
import Derived.Test.YtcjmkpkhjhjepaaRev5
import Derived.Test.YtcjmkpkhjhjepaaTypes
namespace Go.Proofs.Ytcjmkpkhjhjepaa.W
open Go Go.Vm Go.Proofs
set_option maxRecDepth 100000
set_option linter.unusedSimpArgs false
set_option maxHeartbeats 4000000
/-! typecase/typecaselaw33.CursiveFinds -/
def c3 : AC :=
  (.seq (.reg [⟨some 3, none, .box (.s 0)⟩,
    ⟨some 6, none, .mov (.c (.pure (.bool false)))⟩])
  (.seq (.reg [⟨some 14, none, .load true 6 (.s 3)⟩,
    ⟨some 15, none, .mov (.s 1)⟩,
    ⟨some 16, none, .call 10 [(.s 14), (.s 15)]⟩,
    ⟨some 13, none, .mov (.s 16)⟩,
    ⟨some 17, none, .ext 0 (.s 13)⟩,
    ⟨some 18, none, .ext 1 (.s 13)⟩,
    ⟨some 7, none, .box (.c (.agg [(.pure (.int .i64 0)), (.pure (.int .i64 0)), (.pure (.int .i64 0)), .empty]))⟩,
    ⟨none, none, .store 4 (.s 7) (.s 17)⟩,
    ⟨some 8, none, .mov (.s 18)⟩])
  (.seq (.seq (.reg [⟨some 19, none, .mov (.s 8)⟩,
    ⟨some 20, none, .un .not (.s 19)⟩,
    ⟨some 21, none, .mov (.s 20)⟩,
    ⟨some 22, some (21, false), .load true 6 (.s 3)⟩,
    ⟨some 23, some (21, false), .call 11 [(.s 22), (.c .empty)]⟩,
    ⟨some 24, some (21, false), .un .not (.s 23)⟩,
    ⟨some 25, none, .pick (.s 21) (.c (.pure (.bool true))) (.s 24)⟩])
  (.cond (.s 25)
  (.seq (.reg [⟨some 26, none, .call 12 []⟩,
    ⟨some 6, none, .mov (.s 26)⟩])
  .ret)
  .skip))
  (.seq (.reg [⟨some 28, none, .load true 4 (.s 7)⟩,
    ⟨some 29, none, .mov (.s 2)⟩,
    ⟨some 30, none, .call 13 [(.s 28), (.s 29)]⟩,
    ⟨some 27, none, .mov (.s 30)⟩,
    ⟨some 31, none, .ext 0 (.s 27)⟩,
    ⟨some 32, none, .ext 1 (.s 27)⟩,
    ⟨some 9, none, .box (.c (.pure (.agg [(.int .i64 0), (.bool false), (.bool false), (.int .i64 0), (.int .i64 0), (.int .i64 0), (.int .i64 0)])))⟩,
    ⟨none, none, .store 7 (.s 9) (.s 31)⟩,
    ⟨some 10, none, .mov (.s 32)⟩])
  (.seq (.reg [⟨some 34, none, .load true 4 (.s 7)⟩,
    ⟨some 35, none, .mov (.s 2)⟩,
    ⟨some 36, none, .call 14 [(.s 34), (.s 35)]⟩,
    ⟨some 33, none, .mov (.s 36)⟩,
    ⟨some 37, none, .ext 0 (.s 33)⟩,
    ⟨some 38, none, .ext 1 (.s 33)⟩,
    ⟨some 11, none, .box (.c (.pure (.agg [(.int .i64 0), (.bool false), (.bool false), (.int .i64 0), (.int .i64 0), (.int .i64 0), (.int .i64 0)])))⟩,
    ⟨none, none, .store 7 (.s 11) (.s 37)⟩,
    ⟨some 12, none, .mov (.s 38)⟩])
  (.seq (.reg [⟨some 39, none, .load true 7 (.s 9)⟩,
    ⟨some 40, none, .load true 7 (.s 11)⟩,
    ⟨some 41, none, .eqv false [.i, .b, .b, .i, .i, .i, .i] (.s 39) (.s 40)⟩,
    ⟨some 42, none, .mov (.s 41)⟩,
    ⟨some 43, some (42, true), .mov (.s 10)⟩,
    ⟨some 44, some (42, true), .mov (.s 12)⟩,
    ⟨some 45, some (42, true), .eqb false (.s 43) (.s 44)⟩,
    ⟨some 46, none, .pick (.s 42) (.s 45) (.c (.pure (.bool false)))⟩,
    ⟨some 47, none, .mov (.s 46)⟩,
    ⟨some 48, some (47, true), .call 12 []⟩,
    ⟨some 49, none, .pick (.s 47) (.s 48) (.c (.pure (.bool false)))⟩,
    ⟨some 6, none, .mov (.s 49)⟩])
  .ret))))))
theorem k3 : (Try.f3.body.bind fun c => cCode Try.prog Try.f3.ntmps RCs c) = some c3 := by kernel_rfl
theorem h3 : (Try.f3.name == "runtime.NumGoroutine") = false := by kernel_rfl
theorem r3 : resC Try.prog Try.f3.results.toList = some [.t 6] := by kernel_rfl
theorem a3 {args : List S} {H : Heap} {K : S → Heap → Prop} (hn : args.length ≤ 50) (h : aWx Try.prog H.length c3 (PostX [.t 6] K) (argEnv 0 args) H) : CallA Try.prog 3 args H K :=
  callA_of_x mixed Try.func3 h3 k3 r3 (by rw [Try.ntmps3]; exact hn) h
theorem q3 {vs ds : List V} (hn : vs.length ≤ 50) (h : aWx Try.prog 0 c3 (PostX [.t 6] (Gives ds)) (argEnv 0 (vs.map .pure)) []) : FnQ Try.prog 3 vs ds :=
  fnQ_of_call (a3 (by simpa using hn) h)

theorem fineF_len {F : Ff} {ls : List Gl} (h : fineF F ls = true) : ls.length ≤ 40 := by
  simp only [fineF, Bool.and_eq_true, decide_eq_true_eq] at h
  exact h.1.2
theorem cf_law (F : Ff) (n g : Int) (n0 : 0 ≤ n) (n1 : n ≤ 255) : FnQ Try.prog 3 [ffV F, .int .u8 n, I g] [.bool true] := by
  refine q3 (by simp) ?_
  unfold c3
  simp -implicitDefEqProofs only [vmp,↓vmd,seval]
  refine onC_q (pick_q F _ n0 n1) rfl ?_
  rw [pickR]
  generalize ho : pickF F n = o at *
  (first | apply envO | apply envQ); simp -implicitDefEqProofs only [vmp,↓vmd,seval]; rfl
  simp -implicitDefEqProofs only [vmp,↓vmd,seval]
  cases o with
  | none =>
    simp -implicitDefEqProofs only [Option.isSome_none, vmp,↓vmd,seval]
    refine onC_q alive33_q rfl ?_
    (first | apply envO | apply envQ); simp -implicitDefEqProofs only [vmp,↓vmd,seval]; rfl
    simp -implicitDefEqProofs only [vmp,↓vmd,seval]
    exact gives_pure
  | some k =>
    simp -implicitDefEqProofs only [Option.isSome_some, Option.getD_some, vmp,↓vmd,seval]
    have hf := fine_q F []
    simp only [List.map_nil] at hf
    refine onC_q hf rfl ?_
    generalize fineF F [] = b1 at *
    cases b1 with
    | false =>
      (first | apply envO | apply envQ); simp -implicitDefEqProofs only [vmp,↓vmd,seval]; rfl
      simp -implicitDefEqProofs only [vmp,↓vmd,seval]
      refine onC_q alive33_q rfl ?_
      (first | apply envO | apply envQ); simp -implicitDefEqProofs only [vmp,↓vmd,seval]; rfl
      simp -implicitDefEqProofs only [vmp,↓vmd,seval]
      exact gives_pure
    | true =>
      have g1 := find_q k g
      have g2 := rfind_q k g
      rw [curR] at g1 g2
      generalize (curF k g).getD cuZ = c at *
      generalize (curF k g).isSome = b at *
      (first | apply envO | apply envQ); simp -implicitDefEqProofs only [vmp,↓vmd,seval]; rfl
      simp -implicitDefEqProofs only [vmp,↓vmd,seval]
      refine onC_q g1 rfl ?_
      (first | apply envO | apply envQ); simp -implicitDefEqProofs only [vmp,↓vmd,seval]; rfl
      simp -implicitDefEqProofs only [vmp,↓vmd,seval]
      refine onC_q g2 rfl ?_
      have hb : (b == b) = true := by cases b <;> rfl
      (first | apply envO | apply envQ); simp -implicitDefEqProofs only [hb, vmp,↓vmd,seval]; rfl
      simp -implicitDefEqProofs only [hb, vmp,↓vmd,seval]
      refine onC_q alive33_q rfl ?_
      (first | apply envO | apply envQ); simp -implicitDefEqProofs only [vmp,↓vmd,seval]; rfl
      simp -implicitDefEqProofs only [vmp,↓vmd,seval]
      exact gives_pure
theorem ty_u8c : tyC Try.prog 20 5 = some (false, [.int .u8]) := by kernel_rfl
theorem u8_ofc {v : V} (h : OkT Try.prog 5 v) : ∃ n, v = .int .u8 n ∧ 0 ≤ n ∧ n ≤ 255 := by
  obtain ⟨n, rfl, hn⟩ := int_of (cell_of (h _ _ _ ty_u8c))
  refine ⟨n, rfl, ?_⟩
  simp [Lit.wf, IntKind.min, IntKind.max, IntKind.bits, IntKind.signed] at hn
  exact ⟨by omega, by omega⟩
theorem cf_all (vs : List V) (h : OkTs Try.prog Try.f3.params.toList vs) : FnQ Try.prog 3 vs [.bool true] := by
  rw [Try.params3] at h
  match vs, h with
  | [x, y, z], h =>
    obtain ⟨h1, h2, h3, _⟩ := h
    obtain ⟨f, rfl⟩ := font_of' h1
    obtain ⟨n, rfl, n0, n1⟩ := u8_ofc h2
    obtain ⟨g, rfl, _⟩ := int_of' h3
    exact cf_law f n g n0 n1
end Go.Proofs.Ytcjmkpkhjhjepaa.W
