/-
  The law of what is done at one place where glyphs hang on one another, and of chains.
-/
import Derived.Test.YtcjmkpkhjhjepaaCur5
import Derived.Test.YtcjmkpkhjhjepaaRev8
import Derived.Test.YtcjmkpkhjhjepaaRev5
import Derived.Test.YtcjmkpkhjhjepaaTypes
namespace Go.Proofs.Ytcjmkpkhjhjepaa.W
open Go Go.Vm Go.Proofs
set_option maxRecDepth 100000
set_option linter.unusedSimpArgs false
set_option maxHeartbeats 4000000
/-! typecase/typecaselaw33.CursiveDoes -/
def c4_0 : AC :=
  (.seq (.reg [⟨some 104, none, .call 12 []⟩,
    ⟨some 6, none, .mov (.s 104)⟩])
  .ret)
def c4_1 : AC :=
  (.seq (.seq (.reg [⟨some 89, none, .mov (.s 17)⟩,
    ⟨some 90, none, .mov (.s 15)⟩,
    ⟨some 91, none, .len (.s 90)⟩,
    ⟨some 92, none, .bin .lss (.s 89) (.s 91)⟩])
  (.cond (.s 92)
  .skip
  (.exit 0)))
  (.seq (.block 1
  (.seq (.regq [⟨some 95, none, .mov (.s 15)⟩,
    ⟨some 96, none, .mov (.s 17)⟩,
    ⟨some 97, none, .idxA 2 (.s 95) (.s 96)⟩,
    ⟨some 98, none, .load true 2 (.s 97)⟩,
    ⟨some 99, none, .mov (.s 16)⟩,
    ⟨some 100, none, .mov (.s 17)⟩,
    ⟨some 101, none, .idxA 2 (.s 99) (.s 100)⟩,
    ⟨some 102, none, .load true 2 (.s 101)⟩]
    [⟨some 103, none, .eqv true [.i, .i] (.s 98) (.s 102)⟩])
  (.cond (.s 103)
  (.seq (.reg [⟨some 6, none, .mov (.c (.pure (.bool false)))⟩])
  .ret)
  .skip)))
  (.reg [⟨some 93, none, .mov (.s 17)⟩,
    ⟨some 94, none, .bin .add (.s 93) (.c (.pure (.int .i64 1)))⟩,
    ⟨some 17, none, .mov (.s 94)⟩])))
def c4 : AC :=
  (.seq (.reg [⟨some 3, none, .box (.s 0)⟩,
    ⟨some 5, none, .box (.s 2)⟩,
    ⟨some 6, none, .mov (.c (.pure (.bool false)))⟩])
  (.seq (.reg [⟨some 19, none, .load true 6 (.s 3)⟩,
    ⟨some 20, none, .idxAA 2 1 (.s 5) (.c (.pure (.int .i64 0)))⟩,
    ⟨some 21, none, .load false 1 (.s 20)⟩,
    ⟨some 22, none, .conv .u8 (.s 21)⟩,
    ⟨some 23, none, .call 10 [(.s 19), (.s 22)]⟩,
    ⟨some 18, none, .mov (.s 23)⟩,
    ⟨some 24, none, .ext 0 (.s 18)⟩,
    ⟨some 25, none, .ext 1 (.s 18)⟩,
    ⟨some 7, none, .box (.c (.agg [(.pure (.int .i64 0)), (.pure (.int .i64 0)), (.pure (.int .i64 0)), .empty]))⟩,
    ⟨none, none, .store 4 (.s 7) (.s 24)⟩,
    ⟨some 8, none, .mov (.s 25)⟩])
  (.seq (.seq (.reg [⟨some 26, none, .mov (.s 8)⟩,
    ⟨some 27, none, .un .not (.s 26)⟩,
    ⟨some 28, none, .mov (.s 27)⟩,
    ⟨some 29, some (28, false), .load true 6 (.s 3)⟩,
    ⟨some 30, some (28, false), .mov (.s 1)⟩,
    ⟨some 31, some (28, false), .call 11 [(.s 29), (.s 30)]⟩,
    ⟨some 32, some (28, false), .un .not (.s 31)⟩,
    ⟨some 33, none, .pick (.s 28) (.c (.pure (.bool true))) (.s 32)⟩,
    ⟨some 34, none, .mov (.s 33)⟩,
    ⟨some 35, some (34, false), .mov (.s 1)⟩,
    ⟨some 36, some (34, false), .call 15 [(.s 35)]⟩,
    ⟨some 37, some (34, false), .un .not (.s 36)⟩,
    ⟨some 38, none, .pick (.s 34) (.c (.pure (.bool true))) (.s 37)⟩])
  (.cond (.s 38)
  (.seq (.reg [⟨some 39, none, .call 12 []⟩,
    ⟨some 6, none, .mov (.s 39)⟩])
  .ret)
  .skip))
  (.seq (.reg [⟨some 41, none, .load true 6 (.s 3)⟩,
    ⟨some 42, none, .load true 4 (.s 7)⟩,
    ⟨some 43, none, .mov (.s 1)⟩,
    ⟨some 44, none, .idxAA 2 1 (.s 5) (.c (.pure (.int .i64 1)))⟩,
    ⟨some 45, none, .load false 1 (.s 44)⟩,
    ⟨some 46, none, .call 16 [(.s 41), (.s 42), (.s 43), (.s 45)]⟩,
    ⟨some 40, none, .mov (.s 46)⟩,
    ⟨some 47, none, .ext 0 (.s 40)⟩,
    ⟨some 48, none, .ext 1 (.s 40)⟩,
    ⟨some 49, none, .ext 2 (.s 40)⟩,
    ⟨some 9, none, .mov (.s 47)⟩,
    ⟨some 10, none, .mov (.s 48)⟩,
    ⟨some 11, none, .mov (.s 49)⟩])
  (.seq (.reg [⟨some 51, none, .load true 6 (.s 3)⟩,
    ⟨some 52, none, .load true 4 (.s 7)⟩,
    ⟨some 53, none, .mov (.s 1)⟩,
    ⟨some 54, none, .idxAA 2 1 (.s 5) (.c (.pure (.int .i64 1)))⟩,
    ⟨some 55, none, .load false 1 (.s 54)⟩,
    ⟨some 56, none, .call 17 [(.s 51), (.s 52), (.s 53), (.s 55)]⟩,
    ⟨some 50, none, .mov (.s 56)⟩,
    ⟨some 57, none, .ext 0 (.s 50)⟩,
    ⟨some 58, none, .ext 1 (.s 50)⟩,
    ⟨some 59, none, .ext 2 (.s 50)⟩,
    ⟨some 12, none, .mov (.s 57)⟩,
    ⟨some 13, none, .mov (.s 58)⟩,
    ⟨some 14, none, .mov (.s 59)⟩])
  (.seq (.regq [⟨some 60, none, .load true 6 (.s 3)⟩,
    ⟨some 61, none, .load true 4 (.s 7)⟩,
    ⟨some 62, none, .mov (.s 1)⟩,
    ⟨some 63, none, .call 18 [(.s 60), (.s 61), (.s 62)]⟩,
    ⟨some 64, none, .load true 6 (.s 3)⟩,
    ⟨some 65, none, .load true 4 (.s 7)⟩,
    ⟨some 66, none, .mov (.s 1)⟩]
    [⟨some 67, none, .call 19 [(.s 64), (.s 65), (.s 66)]⟩,
    ⟨some 15, none, .mov (.s 63)⟩,
    ⟨some 16, none, .mov (.s 67)⟩])
  (.seq (.seq (.reg [⟨some 68, none, .mov (.s 9)⟩,
    ⟨some 69, none, .mov (.s 12)⟩,
    ⟨some 70, none, .call 20 [(.s 68), (.s 69)]⟩,
    ⟨some 71, none, .un .not (.s 70)⟩,
    ⟨some 72, none, .mov (.s 71)⟩,
    ⟨some 73, some (72, false), .mov (.s 10)⟩,
    ⟨some 74, some (72, false), .mov (.s 13)⟩,
    ⟨some 75, some (72, false), .bin .neq (.s 73) (.s 74)⟩,
    ⟨some 76, none, .pick (.s 72) (.c (.pure (.bool true))) (.s 75)⟩,
    ⟨some 77, none, .mov (.s 76)⟩,
    ⟨some 78, some (77, false), .mov (.s 11)⟩,
    ⟨some 79, some (77, false), .mov (.s 14)⟩,
    ⟨some 80, some (77, false), .eqb true (.s 78) (.s 79)⟩,
    ⟨some 81, none, .pick (.s 77) (.c (.pure (.bool true))) (.s 80)⟩,
    ⟨some 82, none, .mov (.s 81)⟩,
    ⟨some 83, some (82, false), .mov (.s 15)⟩,
    ⟨some 84, some (82, false), .len (.s 83)⟩,
    ⟨some 85, some (82, false), .mov (.s 16)⟩,
    ⟨some 86, some (82, false), .len (.s 85)⟩,
    ⟨some 87, some (82, false), .bin .neq (.s 84) (.s 86)⟩,
    ⟨some 88, none, .pick (.s 82) (.c (.pure (.bool true))) (.s 87)⟩])
  (.cond (.s 88)
  (.seq (.reg [⟨some 6, none, .mov (.c (.pure (.bool false)))⟩])
  .ret)
  .skip))
  (.seq (.seq (.reg [⟨some 17, none, .mov (.c (.pure (.int .i64 0)))⟩])
  (.block 0
  (.loop c4_1)))
  c4_0))))))))
theorem k4 : (Try.f4.body.bind fun c => cCode Try.prog Try.f4.ntmps RCs c) = some c4 := by kernel_rfl
theorem h4 : (Try.f4.name == "runtime.NumGoroutine") = false := by kernel_rfl
theorem r4 : resC Try.prog Try.f4.results.toList = some [.t 6] := by kernel_rfl
theorem a4 {args : List S} {H : Heap} {K : S → Heap → Prop} (hn : args.length ≤ 105) (h : aWx Try.prog H.length c4 (PostX [.t 6] K) (argEnv 0 args) H) : CallA Try.prog 4 args H K :=
  callA_of_x mixed Try.func4 h4 k4 r4 (by rw [Try.ntmps4]; exact hn) h
theorem q4 {vs ds : List V} (hn : vs.length ≤ 105) (h : aWx Try.prog 0 c4 (PostX [.t 6] (Gives ds)) (argEnv 0 (vs.map .pure)) []) : FnQ Try.prog 4 vs ds :=
  fnQ_of_call (a4 (by simpa using hn) h)

theorem u8_inc (n : Int) : 0 ≤ IntKind.wrap .u8 n ∧ IntKind.wrap .u8 n ≤ 255 := by
  have e : (2 : Int) ^ IntKind.u8.bits = 256 := by decide
  simp only [IntKind.wrap]
  first | (simp [IntKind.signed, e]; omega) | (simp [e, IntKind.signed, IntKind.bits]; omega) | (split <;> omega)
theorem fineF_lenc {F : Ff} {ls : List Gl} (h : fineF F ls = true) : ls.length ≤ 40 := by
  simp only [fineF, Bool.and_eq_true, decide_eq_true_eq] at h
  exact h.1.2
theorem cd_law (F : Ff) (ls : List Gl) (a b : Int) : FnQ Try.prog 4 [ffV F, .sl (ls.map gl), .agg [I a, I b]] [.bool true] := by
  refine q4 (by simp) ?_
  unfold c4
  have hu := u8_inc a
  simp -implicitDefEqProofs only [vmp,↓vmd,seval]
  refine onC_q (pick_q F _ hu.1 hu.2) rfl ?_
  rw [pickR]
  generalize ho : pickF F (IntKind.wrap .u8 a) = o at *
  (first | apply envO | apply envQ); simp -implicitDefEqProofs only [vmp,↓vmd,seval]; rfl
  simp -implicitDefEqProofs only [vmp,↓vmd,seval]
  cases o with
  | none =>
    simp -implicitDefEqProofs only [Option.isSome_none, vmp,↓vmd,seval]
    refine onC_q alive33_q rfl ?_
    (first | apply envO | apply envQ); simp -implicitDefEqProofs only [vmp,↓vmd,seval]; rfl
    simp -implicitDefEqProofs only [vmp,↓vmd,seval]
    exact gives_pure
  | some k =>
    simp -implicitDefEqProofs only [Option.isSome_some, Option.getD_some, vmp,↓vmd,seval]
    refine onC_q (fine_q F ls) rfl ?_
    have hfl := @fineF_lenc F ls
    generalize fineF F ls = b1 at *
    cases b1 with
    | false =>
      (first | apply envO | apply envQ); simp -implicitDefEqProofs only [vmp,↓vmd,seval]; rfl
      simp -implicitDefEqProofs only [vmp,↓vmd,seval]
      refine onC_q alive33_q rfl ?_
      (first | apply envO | apply envQ); simp -implicitDefEqProofs only [vmp,↓vmd,seval]; rfl
      simp -implicitDefEqProofs only [vmp,↓vmd,seval]
      exact gives_pure
    | true =>
      have hl := hfl rfl
      (first | apply envO | apply envQ); simp -implicitDefEqProofs only [vmp,↓vmd,seval]; rfl
      simp -implicitDefEqProofs only [vmp,↓vmd,seval]
      refine onC_q (near33_q ls) rfl ?_
      generalize nearL ls = b2 at *
      cases b2 with
      | false =>
        (first | apply envO | apply envQ); simp -implicitDefEqProofs only [vmp,↓vmd,seval]; rfl
        simp -implicitDefEqProofs only [vmp,↓vmd,seval]
        refine onC_q alive33_q rfl ?_
        (first | apply envO | apply envQ); simp -implicitDefEqProofs only [vmp,↓vmd,seval]; rfl
        simp -implicitDefEqProofs only [vmp,↓vmd,seval]
        exact gives_pure
      | true =>
        have g1 := capply_q F.fo k ls (by omega) b
        have g2 := rcapply_q F.fo k ls (by omega) b
        have g3 := chains_q F.fo k ls (by omega)
        have g4 := rchains_q F.fo k ls (by omega)
        rw [ffV_fo] at g1 g2 g3 g4
        obtain ⟨X, y, b3, e1⟩ : ∃ (X : List Gl) (y : Int) (b3 : Bool), curA F.fo k ls b = [.sl (X.map gl), I y, .bool b3] := ⟨_, _, _, rfl⟩
        rw [e1] at g1 g2
        generalize chainF F.fo k ls = C at *
        clear e1
        have hb3 : (b3 == b3) = true := by cases b3 <;> rfl
        have hb4 : (b3 != b3) = false := by cases b3 <;> rfl
        have hy : decide (y = y) = true := decide_eq_true rfl
        (first | apply envO | apply envQ); simp -implicitDefEqProofs only [vmp,↓vmd,seval]; rfl
        simp -implicitDefEqProofs only [vmp,↓vmd,seval]
        first | refine onQ_q g1 rfl ?_ | refine onC_q g1 rfl ?_
        (first | apply envO | apply envQ); simp -implicitDefEqProofs only [vmp,↓vmd,seval]; rfl
        simp -implicitDefEqProofs only [vmp,↓vmd,seval]
        first | refine onQ_q g2 rfl ?_ | refine onC_q g2 rfl ?_
        (first | apply envO | apply envQ); simp -implicitDefEqProofs only [vmp,↓vmd,seval]; rfl
        simp -implicitDefEqProofs only [vmp,↓vmd,seval]
        first | refine onQ_q g3 rfl ?_ | refine onC_q g3 rfl ?_
        (first | apply envO | apply envQ); simp -implicitDefEqProofs only [vmp,↓vmd,seval]; rfl
        simp -implicitDefEqProofs only [vmp,↓vmd,seval]
        first | refine onQ_q g4 rfl ?_ | refine onC_q g4 rfl ?_
        (first | apply envO | apply envQ); simp -implicitDefEqProofs only [vmp,↓vmd,seval]; rfl
        simp -implicitDefEqProofs only [vmp,↓vmd,seval]
        refine onC_q (glyphs2_q X X) rfl ?_
        rw [decide_eq_true rfl]
        (first | apply envO | apply envQ); simp -implicitDefEqProofs only [hb4, vmp,↓vmd,seval]; rfl
        simp -implicitDefEqProofs only [hb4, vmp,↓vmd,seval]
        refine onIf_intro fun _ => ?_
        (first | apply envO | apply envQ); simp -implicitDefEqProofs only [hb4, vmp,↓vmd,seval]; rfl
        simp -implicitDefEqProofs only [hb4, vmp,↓vmd,seval]
        refine onIf_intro fun _ => ?_
        (first | apply envO | apply envQ); simp -implicitDefEqProofs only [hb4, vmp,↓vmd,seval]; rfl
        simp -implicitDefEqProofs only [hb4, vmp,↓vmd,seval]
        refine loop_at (T := Nat) (fun i => [(17, .pure (I (i : Int))), (15, .pure (.sl (C.map ct))), (16, .pure (.sl (C.map ct)))]) (fun _ => []) (fun i => i ≤ C.length) (fun i => C.length - i)
          0 [] (by simp) rfl (by simp) (by simp -implicitDefEqProofs only [kpp,seval]) (by simp -implicitDefEqProofs only [kpp,seval]) ?_
        intro i hi
        unfold c4_1
        simp -implicitDefEqProofs only [vmp,↓vmd,seval]
        refine onIf_intro fun _ => ?_
        (first | apply envO | apply envQ); simp -implicitDefEqProofs only [vmp,↓vmd,seval]; rfl
        simp -implicitDefEqProofs only [vmp,↓vmd,seval]
        refine onB_dec (fun h1 => ?_) (fun h1 => ?_)
        · have hlt : i < C.length := by omega
          have hgi : (C.map ct)[i]? = some (ct C[i]) := map_at hlt
          generalize C[i] = c at hgi
          simp -implicitDefEqProofs only [h1, hgi, Int.natCast_nonneg, vmp,↓vmd,seval]
          refine onBk_to (i + 1) [] (by simp) rfl (by omega) hlt (by simp -implicitDefEqProofs only [next_at hlt (by omega), kpp,seval]) (by simp -implicitDefEqProofs only [kpp,seval])
        · simp -implicitDefEqProofs only [h1, vmp,↓vmd,seval]
          unfold c4_0
          simp -implicitDefEqProofs only [vmp,↓vmd,seval]
          refine onC_q alive33_q rfl ?_
          (first | apply envO | apply envQ); simp -implicitDefEqProofs only [vmp,↓vmd,seval]; rfl
          simp -implicitDefEqProofs only [vmp,↓vmd,seval]
          exact gives_pure
theorem ty_twoc : tyC Try.prog 20 44 = some (true, [.int .i64, .int .i64]) := by kernel_rfl
theorem two_ofc {v : V} (h : OkT Try.prog 44 v) : ∃ a b, v = .agg [I a, I b] := by
  obtain ⟨cs, rfl, hc⟩ := agg_of (h _ _ _ ty_twoc)
  match cs, hc with
  | [a, b], ⟨h1, h2, _⟩ =>
    obtain ⟨x, rfl, _⟩ := okN_of h1
    obtain ⟨y, rfl, _⟩ := okN_of h2
    exact ⟨x, y, rfl⟩
theorem cd_all (vs : List V) (h : OkTs Try.prog Try.f4.params.toList vs) : FnQ Try.prog 4 vs [.bool true] := by
  rw [Try.params4] at h
  match vs, h with
  | [x, y, z], h =>
    obtain ⟨h1, h2, h3, _⟩ := h
    obtain ⟨f, rfl⟩ := font_of' h1
    obtain ⟨l, rfl, _⟩ := gls_of (cell_of (h2 _ _ _ ty_glyphs))
    obtain ⟨a, b, rfl⟩ := two_ofc h3
    exact cd_law f l a b
end Go.Proofs.Ytcjmkpkhjhjepaa.W
