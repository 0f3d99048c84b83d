/-
  Lookups that go from behind, done over a whole row: two functions, one answer.
-/
import Derived.Test.YtcjmkpkhjhjepaaRev3
import Derived.Test.YtcjmkpkhjhjepaaSkip
namespace Go.Proofs.Ytcjmkpkhjhjepaa.W
open Go Go.Vm Go.Proofs
set_option maxRecDepth 100000
set_option linter.unusedSimpArgs false
set_option maxHeartbeats 4000000
/-! typecase/typecaseref30.All -/
def c27_0 : AC :=
  (.seq (.reg [⟨some 47, none, .mov (.s 9)⟩,
    ⟨some 8, none, .mov (.s 47)⟩])
  .ret)
def c27_1 : AC :=
  (.seq (.seq (.reg [⟨some 16, none, .mov (.s 10)⟩,
    ⟨some 17, none, .bin .geq (.s 16) (.c (.pure (.int .i64 0)))⟩])
  (.cond (.s 17)
  .skip
  (.exit 0)))
  (.seq (.block 1
  (.seq (.regq [⟨some 20, none, .load true 6 (.s 4)⟩,
    ⟨some 21, none, .load true 4 (.s 5)⟩,
    ⟨some 22, none, .mov (.s 9)⟩,
    ⟨some 23, none, .mov (.s 10)⟩,
    ⟨some 24, none, .idxA 10 (.s 22) (.s 23)⟩,
    ⟨some 25, none, .fldA 0 (.s 24)⟩,
    ⟨some 26, none, .load false 1 (.s 25)⟩,
    ⟨some 27, none, .call 50 [(.s 20), (.s 21), (.s 26)]⟩,
    ⟨some 28, none, .un .not (.s 27)⟩,
    ⟨some 29, none, .mov (.s 28)⟩,
    ⟨some 30, some (29, true), .mov (.s 9)⟩,
    ⟨some 31, some (29, true), .mov (.s 10)⟩,
    ⟨some 32, some (29, true), .idxA 10 (.s 30) (.s 31)⟩,
    ⟨some 33, some (29, true), .fldA 9 (.s 32)⟩,
    ⟨some 34, some (29, true), .load false 1 (.s 33)⟩,
    ⟨some 35, some (29, true), .mov (.s 3)⟩]
    [⟨some 36, some (29, true), .bin .and (.s 34) (.s 35)⟩,
    ⟨some 37, some (29, true), .bin .neq (.s 36) (.c (.pure (.int .i64 0)))⟩,
    ⟨some 38, none, .pick (.s 29) (.s 37) (.c (.pure (.bool false)))⟩])
  (.cond (.s 38)
  (.reg [⟨some 40, none, .load true 6 (.s 4)⟩,
    ⟨some 41, none, .load true 4 (.s 5)⟩,
    ⟨some 42, none, .mov (.s 9)⟩,
    ⟨some 43, none, .mov (.s 10)⟩,
    ⟨some 44, none, .call 25 [(.s 40), (.s 41), (.s 42), (.s 43)]⟩,
    ⟨some 39, none, .mov (.s 44)⟩,
    ⟨some 45, none, .ext 0 (.s 39)⟩,
    ⟨some 46, none, .ext 1 (.s 39)⟩,
    ⟨some 9, none, .mov (.s 45)⟩])
  .skip)))
  (.reg [⟨some 18, none, .mov (.s 10)⟩,
    ⟨some 19, none, .bin .sub (.s 18) (.c (.pure (.int .i64 1)))⟩,
    ⟨some 10, none, .mov (.s 19)⟩])))
def c27 : AC :=
  (.seq (.reg [⟨some 4, none, .box (.s 0)⟩,
    ⟨some 5, none, .box (.s 1)⟩,
    ⟨some 8, none, .mov (.c .empty)⟩])
  (.seq (.reg [⟨some 11, none, .mov (.s 2)⟩,
    ⟨some 12, none, .call 38 [(.s 11)]⟩,
    ⟨some 9, none, .mov (.s 12)⟩])
  (.seq (.seq (.reg [⟨some 13, none, .mov (.s 2)⟩,
    ⟨some 14, none, .len (.s 13)⟩,
    ⟨some 15, none, .bin .sub (.s 14) (.c (.pure (.int .i64 1)))⟩,
    ⟨some 10, none, .mov (.s 15)⟩])
  (.block 0
  (.loop c27_1)))
  c27_0)))
theorem k27 : (Try.f27.body.bind fun c => cCode Try.prog Try.f27.ntmps RCs c) = some c27 := by kernel_rfl
theorem h27 : (Try.f27.name == "runtime.NumGoroutine") = false := by kernel_rfl
theorem r27 : resC Try.prog Try.f27.results.toList = some [.t 8] := by kernel_rfl
theorem a27 {args : List S} {H : Heap} {K : S → Heap → Prop} (hn : args.length ≤ 48) (h : aWx Try.prog H.length c27 (PostX [.t 8] K) (argEnv 0 args) H) : CallA Try.prog 27 args H K :=
  callA_of_x mixed Try.func27 h27 k27 r27 (by rw [Try.ntmps27]; exact hn) h
theorem q27 {vs ds : List V} (hn : vs.length ≤ 48) (h : aWx Try.prog 0 c27 (PostX [.t 8] (Gives ds)) (argEnv 0 (vs.map .pure)) []) : FnQ Try.prog 27 vs ds :=
  fnQ_of_call (a27 (by simpa using hn) h)
/-! typecase/reverse.All -/
def c26_0 : AC :=
  (.seq (.reg [⟨some 50, none, .mov (.s 9)⟩,
    ⟨some 8, none, .mov (.s 50)⟩])
  .ret)
def c26_1 : AC :=
  (.seq (.seq (.reg [⟨some 18, none, .mov (.s 10)⟩,
    ⟨some 19, none, .bin .geq (.s 18) (.c (.pure (.int .i64 0)))⟩])
  (.cond (.s 19)
  .skip
  (.exit 0)))
  (.seq (.block 1
  (.seq (.seq (.regq [⟨some 22, none, .mov (.s 9)⟩,
    ⟨some 23, none, .mov (.s 10)⟩,
    ⟨some 24, none, .idxA 10 (.s 22) (.s 23)⟩,
    ⟨some 25, none, .fldA 9 (.s 24)⟩,
    ⟨some 26, none, .load false 1 (.s 25)⟩,
    ⟨some 27, none, .mov (.s 3)⟩,
    ⟨some 28, none, .bin .and (.s 26) (.s 27)⟩,
    ⟨some 29, none, .bin .eql (.s 28) (.c (.pure (.int .i64 0)))⟩,
    ⟨some 30, none, .mov (.s 29)⟩,
    ⟨some 31, some (30, false), .load true 6 (.s 4)⟩,
    ⟨some 32, some (30, false), .load true 4 (.s 5)⟩,
    ⟨some 33, some (30, false), .mov (.s 9)⟩,
    ⟨some 34, some (30, false), .mov (.s 10)⟩,
    ⟨some 35, some (30, false), .idxA 10 (.s 33) (.s 34)⟩,
    ⟨some 36, some (30, false), .fldA 0 (.s 35)⟩,
    ⟨some 37, some (30, false), .load false 1 (.s 36)⟩]
    [⟨some 38, some (30, false), .call 49 [(.s 31), (.s 32), (.s 37)]⟩,
    ⟨some 39, none, .pick (.s 30) (.c (.pure (.bool true))) (.s 38)⟩])
  (.cond (.s 39)
  (.exit 1)
  .skip))
  (.seq (.reg [⟨some 41, none, .load true 6 (.s 4)⟩,
    ⟨some 42, none, .load true 4 (.s 5)⟩,
    ⟨some 43, none, .mov (.s 9)⟩,
    ⟨some 44, none, .mov (.s 10)⟩,
    ⟨some 45, none, .call 24 [(.s 41), (.s 42), (.s 43), (.s 44)]⟩,
    ⟨some 40, none, .mov (.s 45)⟩,
    ⟨some 46, none, .ext 0 (.s 40)⟩,
    ⟨some 47, none, .ext 1 (.s 40)⟩,
    ⟨some 11, none, .mov (.s 46)⟩,
    ⟨some 12, none, .mov (.s 47)⟩])
  (.seq (.reg [⟨some 48, none, .mov (.s 12)⟩])
  (.cond (.s 48)
  (.reg [⟨some 49, none, .mov (.s 11)⟩,
    ⟨some 9, none, .mov (.s 49)⟩])
  .skip)))))
  (.reg [⟨some 20, none, .mov (.s 10)⟩,
    ⟨some 21, none, .bin .sub (.s 20) (.c (.pure (.int .i64 1)))⟩,
    ⟨some 10, none, .mov (.s 21)⟩])))
def c26 : AC :=
  (.seq (.reg [⟨some 4, none, .box (.s 0)⟩,
    ⟨some 5, none, .box (.s 1)⟩,
    ⟨some 8, none, .mov (.c .empty)⟩])
  (.seq (.reg [⟨some 13, none, .mov (.s 2)⟩,
    ⟨some 14, none, .call 36 [(.s 13)]⟩,
    ⟨some 9, none, .mov (.s 14)⟩])
  (.seq (.seq (.reg [⟨some 15, none, .mov (.s 9)⟩,
    ⟨some 16, none, .len (.s 15)⟩,
    ⟨some 17, none, .bin .sub (.s 16) (.c (.pure (.int .i64 1)))⟩,
    ⟨some 10, none, .mov (.s 17)⟩])
  (.block 0
  (.loop c26_1)))
  c26_0)))
theorem k26 : (Try.f26.body.bind fun c => cCode Try.prog Try.f26.ntmps RCs c) = some c26 := by kernel_rfl
theorem h26 : (Try.f26.name == "runtime.NumGoroutine") = false := by kernel_rfl
theorem r26 : resC Try.prog Try.f26.results.toList = some [.t 8] := by kernel_rfl
theorem a26 {args : List S} {H : Heap} {K : S → Heap → Prop} (hn : args.length ≤ 51) (h : aWx Try.prog H.length c26 (PostX [.t 8] K) (argEnv 0 args) H) : CallA Try.prog 26 args H K :=
  callA_of_x mixed Try.func26 h26 k26 r26 (by rw [Try.ntmps26]; exact hn) h
theorem q26 {vs ds : List V} (hn : vs.length ≤ 51) (h : aWx Try.prog 0 c26 (PostX [.t 8] (Gives ds)) (argEnv 0 (vs.map .pure)) []) : FnQ Try.prog 26 vs ds :=
  fnQ_of_call (a26 (by simpa using hn) h)

theorem copy27_q (l : List Gl) (hl : l.length ≤ 1000) : FnQ Try.prog 38 [.sl (l.map gl)] [.sl (l.map gl)] :=
  fnQ_of_call ((copy27_c l hl).mono fun s H' h => by
    rcases h with ⟨rfl, rfl⟩
    exact gives_row' rfl (by simp) rfl)
theorem cloneG_q (l : List Gl) (hl : l.length ≤ 1000) : FnQ Try.prog 36 [.sl (l.map gl)] [.sl (l.map gl)] :=
  fnQ_of_call ((cloneG_c l hl).mono fun s H' h => by
    rcases h with ⟨rfl, rfl⟩
    exact gives_row' rfl (by simp) rfl)
theorem all30_q (f : Fo) (k : Lk) (hs : k.kind = 5 → RevK k) (ls : List Gl) (hl : ls.length ≤ 1000) (mask : Int) : FnQ Try.prog 26 [fo f, lk k, .sl (ls.map gl), I mask] [.sl ((goA f k mask ls.length ls).map gl)] := by
  refine q26 (by simp) ?_
  unfold c26
  obtain ⟨out, ho⟩ : ∃ o, goA f k mask ls.length ls = o := ⟨_, rfl⟩
  rw [ho]
  simp -implicitDefEqProofs only [vmp,↓vmd,seval]
  refine onC_q (cloneG_q ls hl) rfl ?_
  have hw : IntKind.wrap .i64 ((ls.length : Int) - 1) = (ls.length : Int) - 1 := wrap_id (by omega) (by omega)
  first | refine envO (by simp -implicitDefEqProofs only [vmp,↓vmd,seval]; rfl) ?_ | refine envQ (by simp -implicitDefEqProofs only [vmp,↓vmd,seval]; rfl) ?_
  simp -implicitDefEqProofs only [hw, vmp,↓vmd,seval]
  refine onIf_intro fun _ => ?_
  first | refine envO (by simp -implicitDefEqProofs only [hw, vmp,↓vmd,seval]; rfl) ?_ | refine envQ (by simp -implicitDefEqProofs only [hw, vmp,↓vmd,seval]; rfl) ?_
  simp -implicitDefEqProofs only [hw, vmp,↓vmd,seval]
  refine loop_at (T := Nat × List Gl) (fun z => [(10, .pure (I ((z.1 : Int) - 1))), (9, .pure (.sl (z.2.map gl))), (3, .pure (I mask)), (4, .ptr 0 0 0), (5, .ptr 1 0 0)])
    (fun _ => [⟨[.pure (fo f)], 6, .live⟩, ⟨[.pure (lk k)], 4, .live⟩]) (fun z => z.1 ≤ z.2.length ∧ z.2.length ≤ 1000 ∧ goA f k mask z.1 z.2 = out) (fun z => z.1)
    (ls.length, ls) [0, 1] (by simp) rfl ⟨Nat.le_refl _, hl, ho⟩ (by simp -implicitDefEqProofs only [kpp,seval]) (by simp -implicitDefEqProofs only [kpp,seval]) ?_
  rintro ⟨n, l⟩ ⟨hn, hl2, hr⟩
  unfold c26_1
  simp only at hn hl2 hr
  simp -implicitDefEqProofs only [vmp,↓vmd,seval]
  refine onB_dec (fun h1 => ?_) (fun h1 => ?_)
  · obtain ⟨m, rfl⟩ : ∃ m, n = m + 1 := ⟨n - 1, by omega⟩
    have e : ((m + 1 : Nat) : Int) - 1 = (m : Int) := by omega
    have hgm : (l.map gl)[m]? = some (gl (glAt l (m : Int))) := by
      have := glAt_map (ls := l) (y := (m : Int)) (by omega) (by omega)
      simpa using this
    have hw2 : IntKind.wrap .i64 ((m : Int) - 1) = (m : Int) - 1 := wrap_id (by omega) (by omega)
    rw [goA] at hr
    simp -implicitDefEqProofs only [h1, e, hgm, Int.natCast_nonneg, vmp,↓vmd,seval]
    refine onB_dec (fun h2 => ?_) (fun h2 => ?_)
    · have h2' : andE (glAt l (m : Int)).mask mask = 0 := h2
      rw [if_pos (.inl h2')] at hr
      first | refine envO (by simp -implicitDefEqProofs only [h2, vmp,↓vmd,seval]; rfl) ?_ | refine envQ (by simp -implicitDefEqProofs only [h2, vmp,↓vmd,seval]; rfl) ?_
      simp -implicitDefEqProofs only [h2, vmp,↓vmd,seval]
      refine onBk_to (m, l) [0, 1] (by simp) rfl (by simp) ⟨by simp only; omega, hl2, hr⟩ (by simp -implicitDefEqProofs only [e, hw2, kpp,seval]) (by simp -implicitDefEqProofs only [kpp,seval])
    · have h2' : ¬ andE (glAt l (m : Int)).mask mask = 0 := h2
      first | refine envO (by simp -implicitDefEqProofs only [h2, vmp,↓vmd,seval]; rfl) ?_ | refine envQ (by simp -implicitDefEqProofs only [h2, vmp,↓vmd,seval]; rfl) ?_
      simp -implicitDefEqProofs only [h2, e, hgm, Int.natCast_nonneg, vmp,↓vmd,seval]
      first | refine onC_q (skips_q f k.kind k.flags k.set (glAt l (m : Int)).id _) rfl ?_ | refine onQ_q (skips_q f k.kind k.flags k.set (glAt l (m : Int)).id _) rfl ?_
      generalize skipsF f k.flags k.set (glAt l (m : Int)).id = b at hr ⊢
      cases b with
      | true =>
        rw [if_pos (.inr rfl)] at hr
        first | refine envO (by simp -implicitDefEqProofs only [vmp,↓vmd,seval]; rfl) ?_ | refine envQ (by simp -implicitDefEqProofs only [vmp,↓vmd,seval]; rfl) ?_
        simp -implicitDefEqProofs only [vmp,↓vmd,seval]
        refine onBk_to (m, l) [0, 1] (by simp) rfl (by simp) ⟨by simp only; omega, hl2, hr⟩ (by simp -implicitDefEqProofs only [e, hw2, kpp,seval]) (by simp -implicitDefEqProofs only [kpp,seval])
      | false =>
        rw [if_neg (fun o => o.elim h2' (by simp))] at hr
        first | refine envO (by simp -implicitDefEqProofs only [vmp,↓vmd,seval]; rfl) ?_ | refine envQ (by simp -implicitDefEqProofs only [vmp,↓vmd,seval]; rfl) ?_
        simp -implicitDefEqProofs only [vmp,↓vmd,seval]
        try simp -implicitDefEqProofs only [e]
        refine onC_q (apply30_q f k hs l hl2 (m : Int)) rfl ?_
        have hlen : (doR f k l (m : Int)).length = l.length := doR_len
        rw [dR]
        cases ho2 : holdR f k l (m : Int) with
        | none =>
          have hd : doR f k l (m : Int) = l := by rw [doR, ho2]
          rw [hd] at hr
          first | refine envO (by simp -implicitDefEqProofs only [vmp,↓vmd,seval]; rfl) ?_ | refine envQ (by simp -implicitDefEqProofs only [vmp,↓vmd,seval]; rfl) ?_
          simp -implicitDefEqProofs only [Option.isSome_none, vmp,↓vmd,seval]
          refine onBk_to (m, l) [0, 1] (by simp) rfl (by simp) ⟨by simp only; omega, hl2, hr⟩ (by simp -implicitDefEqProofs only [e, hw2, kpp,seval]) (by simp -implicitDefEqProofs only [kpp,seval])
        | some j =>
          generalize doR f k l (m : Int) = l2 at hr hlen ⊢
          first | refine envO (by simp -implicitDefEqProofs only [vmp,↓vmd,seval]; rfl) ?_ | refine envQ (by simp -implicitDefEqProofs only [vmp,↓vmd,seval]; rfl) ?_
          simp -implicitDefEqProofs only [Option.isSome_some, vmp,↓vmd,seval]
          refine onBk_to (m, l2) [0, 1] (by simp) rfl (by simp) ⟨by simp only; omega, by simp only; omega, hr⟩ (by simp -implicitDefEqProofs only [e, hw2, kpp,seval]) (by simp -implicitDefEqProofs only [kpp,seval])
  · obtain rfl : n = 0 := by omega
    rw [goA] at hr
    subst hr
    simp -implicitDefEqProofs only [h1, vmp,↓vmd,seval]
    unfold c26_0
    simp -implicitDefEqProofs only [vmp,↓vmd,seval]
    exact gives_pure
theorem rall30_q (f : Fo) (k : Lk) (hs : k.kind = 5 → RevK k) (ls : List Gl) (hl : ls.length ≤ 1000) (mask : Int) : FnQ Try.prog 27 [fo f, lk k, .sl (ls.map gl), I mask] [.sl ((goA f k mask ls.length ls).map gl)] := by
  refine q27 (by simp) ?_
  unfold c27
  obtain ⟨out, ho⟩ : ∃ o, goA f k mask ls.length ls = o := ⟨_, rfl⟩
  rw [ho]
  simp -implicitDefEqProofs only [vmp,↓vmd,seval]
  refine onC_q (copy27_q ls hl) rfl ?_
  have hw : IntKind.wrap .i64 ((ls.length : Int) - 1) = (ls.length : Int) - 1 := wrap_id (by omega) (by omega)
  first | refine envO (by simp -implicitDefEqProofs only [vmp,↓vmd,seval]; rfl) ?_ | refine envQ (by simp -implicitDefEqProofs only [vmp,↓vmd,seval]; rfl) ?_
  simp -implicitDefEqProofs only [hw, vmp,↓vmd,seval]
  refine onIf_intro fun _ => ?_
  first | refine envO (by simp -implicitDefEqProofs only [hw, vmp,↓vmd,seval]; rfl) ?_ | refine envQ (by simp -implicitDefEqProofs only [hw, vmp,↓vmd,seval]; rfl) ?_
  simp -implicitDefEqProofs only [hw, vmp,↓vmd,seval]
  refine loop_at (T := Nat × List Gl) (fun z => [(10, .pure (I ((z.1 : Int) - 1))), (9, .pure (.sl (z.2.map gl))), (3, .pure (I mask)), (4, .ptr 0 0 0), (5, .ptr 1 0 0)])
    (fun _ => [⟨[.pure (fo f)], 6, .live⟩, ⟨[.pure (lk k)], 4, .live⟩]) (fun z => z.1 ≤ z.2.length ∧ z.2.length ≤ 1000 ∧ goA f k mask z.1 z.2 = out) (fun z => z.1)
    (ls.length, ls) [0, 1] (by simp) rfl ⟨Nat.le_refl _, hl, ho⟩ (by simp -implicitDefEqProofs only [kpp,seval]) (by simp -implicitDefEqProofs only [kpp,seval]) ?_
  rintro ⟨n, l⟩ ⟨hn, hl2, hr⟩
  unfold c27_1
  simp only at hn hl2 hr
  simp -implicitDefEqProofs only [vmp,↓vmd,seval]
  refine onB_dec (fun h1 => ?_) (fun h1 => ?_)
  · obtain ⟨m, rfl⟩ : ∃ m, n = m + 1 := ⟨n - 1, by omega⟩
    have e : ((m + 1 : Nat) : Int) - 1 = (m : Int) := by omega
    have hgm : (l.map gl)[m]? = some (gl (glAt l (m : Int))) := by
      have := glAt_map (ls := l) (y := (m : Int)) (by omega) (by omega)
      simpa using this
    have hw2 : IntKind.wrap .i64 ((m : Int) - 1) = (m : Int) - 1 := wrap_id (by omega) (by omega)
    rw [goA] at hr
    simp -implicitDefEqProofs only [h1, e, hgm, Int.natCast_nonneg, vmp,↓vmd,seval]
    first | refine onC_q (rskips_q f k.kind k.flags k.set (glAt l (m : Int)).id _) rfl ?_ | refine onQ_q (rskips_q f k.kind k.flags k.set (glAt l (m : Int)).id _) rfl ?_
    generalize skipsF f k.flags k.set (glAt l (m : Int)).id = b at hr ⊢
    cases b with
    | true =>
      rw [if_pos (.inr rfl)] at hr
      first | refine envO (by simp -implicitDefEqProofs only [vmp,↓vmd,seval]; rfl) ?_ | refine envQ (by simp -implicitDefEqProofs only [vmp,↓vmd,seval]; rfl) ?_
      simp -implicitDefEqProofs only [vmp,↓vmd,seval]
      refine onBk_to (m, l) [0, 1] (by simp) rfl (by simp) ⟨by simp only; omega, hl2, hr⟩ (by simp -implicitDefEqProofs only [e, hw2, kpp,seval]) (by simp -implicitDefEqProofs only [kpp,seval])
    | false =>
      first | refine envO (by simp -implicitDefEqProofs only [vmp,↓vmd,seval]; rfl) ?_ | refine envQ (by simp -implicitDefEqProofs only [vmp,↓vmd,seval]; rfl) ?_
      simp -implicitDefEqProofs only [e, hgm, Int.natCast_nonneg, vmp,↓vmd,seval]
      refine onB_dec (fun h2 => ?_) (fun h2 => ?_)
      · have h2' : ¬ andE (glAt l (m : Int)).mask mask = 0 := h2
        rw [if_neg (fun o => o.elim h2' (by simp))] at hr
        first | refine envO (by simp -implicitDefEqProofs only [h2, vmp,↓vmd,seval]; rfl) ?_ | refine envQ (by simp -implicitDefEqProofs only [h2, vmp,↓vmd,seval]; rfl) ?_
        simp -implicitDefEqProofs only [h2, e, vmp,↓vmd,seval]
        refine onC_q (rapply30_q f k hs l hl2 (m : Int)) rfl ?_
        have hlen : (doR f k l (m : Int)).length = l.length := doR_len
        rw [dR]
        generalize doR f k l (m : Int) = l2 at hr hlen ⊢
        first | refine envO (by simp -implicitDefEqProofs only [vmp,↓vmd,seval]; rfl) ?_ | refine envQ (by simp -implicitDefEqProofs only [vmp,↓vmd,seval]; rfl) ?_
        simp -implicitDefEqProofs only [vmp,↓vmd,seval]
        refine onBk_to (m, l2) [0, 1] (by simp) rfl (by simp) ⟨by simp only; omega, by simp only; omega, hr⟩ (by simp -implicitDefEqProofs only [e, hw2, kpp,seval]) (by simp -implicitDefEqProofs only [kpp,seval])
      · have h2' : andE (glAt l (m : Int)).mask mask = 0 := Classical.not_not.1 h2
        rw [if_pos (.inl h2')] at hr
        have h2n : IntKind.wrap .i64 ↑(BitVec.ofInt IntKind.i64.bits (glAt l (m : Int)).mask &&& BitVec.ofInt IntKind.i64.bits mask).toNat = 0 := h2'
        first | refine envO (by simp -implicitDefEqProofs only [h2n, not_true, vmp,↓vmd,seval]; rfl) ?_ | refine envQ (by simp -implicitDefEqProofs only [h2n, not_true, vmp,↓vmd,seval]; rfl) ?_
        simp -implicitDefEqProofs only [h2n, not_true, vmp,↓vmd,seval]
        refine onBk_to (m, l) [0, 1] (by simp) rfl (by simp) ⟨by simp only; omega, hl2, hr⟩ (by simp -implicitDefEqProofs only [e, hw2, kpp,seval]) (by simp -implicitDefEqProofs only [kpp,seval])
  · obtain rfl : n = 0 := by omega
    rw [goA] at hr
    subst hr
    simp -implicitDefEqProofs only [h1, vmp,↓vmd,seval]
    unfold c27_0
    simp -implicitDefEqProofs only [vmp,↓vmd,seval]
    exact gives_pure
end Go.Proofs.Ytcjmkpkhjhjepaa.W
