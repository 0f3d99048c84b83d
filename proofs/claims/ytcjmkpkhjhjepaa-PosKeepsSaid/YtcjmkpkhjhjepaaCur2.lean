/-
  Where a place's glyph hangs the next one: the program's function. No condition but on sizes.
-/
import Derived.Test.YtcjmkpkhjhjepaaCur1
namespace Go.Proofs.Ytcjmkpkhjhjepaa.W
open Go Go.Vm Go.Proofs
set_option maxRecDepth 100000
set_option linter.unusedSimpArgs false
set_option maxHeartbeats 4000000
/-! typecase/cursive.hang -/
def c37 : AC :=
 (.seq (.reg [⟨some 4, none, .box (.s 0)⟩,
⟨some 5, none, .box (.s 1)⟩,
⟨some 8, none, .mov (.c (.pure (.int .i64 0)))⟩,
⟨some 9, none, .box (.c (.pure (.agg [(.int .i64 0), (.int .i64 0)])))⟩,
⟨some 10, none, .box (.c (.pure (.agg [(.int .i64 0), (.int .i64 0)])))⟩,
⟨some 11, none, .mov (.c (.pure (.bool false)))⟩])
 (.seq (.seq (.reg [⟨some 16, none, .mov (.s 3)⟩,
⟨some 17, none, .bin .lss (.s 16) (.c (.pure (.int .i64 0)))⟩,
⟨some 18, none, .mov (.s 17)⟩,
⟨some 19, some (18, false), .mov (.s 3)⟩,
⟨some 20, some (18, false), .mov (.s 2)⟩,
⟨some 21, some (18, false), .len (.s 20)⟩,
⟨some 22, some (18, false), .bin .geq (.s 19) (.s 21)⟩,
⟨some 23, none, .pick (.s 18) (.c (.pure (.bool true))) (.s 22)⟩])
 (.cond (.s 23)
 (.seq (.reg [⟨some 24, none, .build [(.pure (.int .i64 0)), (.pure (.int .i64 0))] []⟩,
⟨some 25, none, .build [(.pure (.int .i64 0)), (.pure (.int .i64 0))] []⟩,
⟨some 8, none, .mov (.c (.pure (.int .i64 0)))⟩,
⟨none, none, .store 2 (.s 9) (.s 24)⟩,
⟨none, none, .store 2 (.s 10) (.s 25)⟩,
⟨some 11, none, .mov (.c (.pure (.bool false)))⟩])
 .ret)
 .skip))
 (.seq (.regq [⟨some 27, none, .load true 4 (.s 5)⟩,
⟨some 28, none, .mov (.s 2)⟩,
⟨some 29, none, .mov (.s 3)⟩,
⟨some 30, none, .idxA 10 (.s 28) (.s 29)⟩,
⟨some 31, none, .fldA 0 (.s 30)⟩,
⟨some 32, none, .load false 1 (.s 31)⟩,
⟨some 33, none, .call 13 [(.s 27), (.s 32)]⟩,
⟨some 26, none, .mov (.s 33)⟩,
⟨some 34, none, .ext 0 (.s 26)⟩,
⟨some 35, none, .ext 1 (.s 26)⟩,
⟨some 12, none, .box (.c (.pure (.agg [(.int .i64 0), (.bool false), (.bool false), (.int .i64 0), (.int .i64 0), (.int .i64 0), (.int .i64 0)])))⟩]
[⟨none, none, .store 7 (.s 12) (.s 34)⟩,
⟨some 13, none, .mov (.s 35)⟩])
 (.seq (.reg [⟨some 36, none, .load true 6 (.s 4)⟩,
⟨some 37, none, .load true 4 (.s 5)⟩,
⟨some 38, none, .mov (.s 2)⟩,
⟨some 39, none, .mov (.s 3)⟩,
⟨some 40, none, .call 59 [(.s 36), (.s 37), (.s 38), (.s 39)]⟩,
⟨some 14, none, .mov (.s 40)⟩])
 (.seq (.seq (.reg [⟨some 41, none, .mov (.s 13)⟩,
⟨some 42, none, .un .not (.s 41)⟩,
⟨some 43, none, .mov (.s 42)⟩,
⟨some 44, some (43, false), .fldA 2 (.s 12)⟩,
⟨some 45, some (43, false), .load false 1 (.s 44)⟩,
⟨some 46, some (43, false), .un .not (.s 45)⟩,
⟨some 47, none, .pick (.s 43) (.c (.pure (.bool true))) (.s 46)⟩,
⟨some 48, none, .mov (.s 47)⟩,
⟨some 49, some (48, false), .mov (.s 14)⟩,
⟨some 50, some (48, false), .bin .lss (.s 49) (.c (.pure (.int .i64 0)))⟩,
⟨some 51, none, .pick (.s 48) (.c (.pure (.bool true))) (.s 50)⟩])
 (.cond (.s 51)
 (.seq (.reg [⟨some 52, none, .build [(.pure (.int .i64 0)), (.pure (.int .i64 0))] []⟩,
⟨some 53, none, .build [(.pure (.int .i64 0)), (.pure (.int .i64 0))] []⟩,
⟨some 8, none, .mov (.c (.pure (.int .i64 0)))⟩,
⟨none, none, .store 2 (.s 9) (.s 52)⟩,
⟨none, none, .store 2 (.s 10) (.s 53)⟩,
⟨some 11, none, .mov (.c (.pure (.bool false)))⟩])
 .ret)
 .skip))
 (.seq (.regq [⟨some 55, none, .load true 4 (.s 5)⟩,
⟨some 56, none, .mov (.s 2)⟩,
⟨some 57, none, .mov (.s 14)⟩,
⟨some 58, none, .idxA 10 (.s 56) (.s 57)⟩,
⟨some 59, none, .fldA 0 (.s 58)⟩,
⟨some 60, none, .load false 1 (.s 59)⟩,
⟨some 61, none, .call 13 [(.s 55), (.s 60)]⟩,
⟨some 54, none, .mov (.s 61)⟩,
⟨some 62, none, .ext 0 (.s 54)⟩,
⟨some 63, none, .ext 1 (.s 54)⟩,
⟨some 15, none, .box (.c (.pure (.agg [(.int .i64 0), (.bool false), (.bool false), (.int .i64 0), (.int .i64 0), (.int .i64 0), (.int .i64 0)])))⟩]
[⟨none, none, .store 7 (.s 15) (.s 62)⟩,
⟨some 13, none, .mov (.s 63)⟩])
 (.seq (.regm [⟨some 64, none, .mov (.s 14)⟩,
⟨some 65, none, .fldA 5 (.s 12)⟩,
⟨some 66, none, .load true 2 (.s 65)⟩,
⟨some 67, none, .fldA 3 (.s 15)⟩,
⟨some 68, none, .load true 2 (.s 67)⟩,
⟨some 69, none, .mov (.s 13)⟩,
⟨some 70, none, .mov (.s 69)⟩,
⟨some 71, some (70, true), .fldA 1 (.s 15)⟩,
⟨some 72, some (70, true), .load false 1 (.s 71)⟩,
⟨some 73, none, .pick (.s 70) (.s 72) (.c (.pure (.bool false)))⟩,
⟨some 8, none, .mov (.s 64)⟩,
⟨some 11, none, .mov (.s 73)⟩]
[⟨none, none, .store 2 (.s 9) (.s 66)⟩,
⟨none, none, .store 2 (.s 10) (.s 68)⟩]
[⟨some 68, none, .load true 2 (.s 67)⟩,
⟨some 72, some (70, true), .load false 1 (.s 71)⟩])
 .ret)))))))
theorem k37 : OkF 37 Try.f37 c37 [.t 8, .c 9 true 2, .c 10 true 2, .t 11] 74 := ⟨Try.func37, by kernel_rfl, by kernel_rfl, by kernel_rfl, Try.ntmps37⟩
/-- what the program's function tells of it -/
def HangR (o : Option (Int × Cu × Cu)) (r : List V) : Prop := match o with
 | some z => r = [I z.1, .agg [I z.2.1.xx, I z.2.1.xy], .agg [I z.2.2.ex, I z.2.2.ey], .bool true]
 | none => ∃ n a b c d, r = [I n, .agg [I a, I b], .agg [I c, I d], .bool false]
theorem hang_q (f : Fo) (k : Lk) (ls : List Gl) (hl : ls.length ≤ 1000) (x : Int) : ∃ r, FnQ Try.prog 37 [fo f, lk k, .sl (ls.map gl), I x] r ∧ HangR (hangF f k ls x) r := by
 have nx := next_q f k.kind k.flags k.set (.sl (k.subs.map sub)) ls x hl
 have hi := @nextF_gt (seesF f k.flags k.set ls) ls.length x
 by_cases hx : 0 ≤ x ∧ x < ls.length
 ·rw [hangF, if_pos hx]
  obtain ⟨x0, x1⟩ := hx
  have n0 : ¬ x < 0 := by omega
  have n1 : ¬ (ls.length : Int) ≤ x := by omega
  have hgx := glAt_map x0 x1
  have f1 := find_q k (glAt ls x).id
  generalize nextF (seesF f k.flags k.set ls) ls.length x = n at *
  generalize curF k (glAt ls x).id = o1 at *
  have none' : ∀ {P : Prop}, FnQ Try.prog 37 [fo f, lk k, .sl (ls.map gl), I x] [I 0, .agg [I 0, I 0], .agg [I 0, I 0], .bool false] → ∃ r, FnQ Try.prog 37 [fo f, lk k, .sl (ls.map gl), I x] r ∧ HangR none r :=
   fun {_} h => ⟨_, h, 0, 0, 0, 0, 0, rfl⟩
  cases o1 with
  | none =>
   refine none' (P := True) ?_
   refine k37.q (by simp) ?_
   unfold c37
   simp -implicitDefEqProofs only [vmp,↓vmd,seval]
   refine onB_neg n0 ?_
   (first | apply envO | apply envQ); simp -implicitDefEqProofs only [n0, vmp,↓vmd,seval]; rfl
   simp -implicitDefEqProofs only [n0, vmp,↓vmd,seval]
   refine onIf_intro fun _ => ?_
   (first | apply envO | apply envQ); simp -implicitDefEqProofs only [n0, n1, vmp,↓vmd,seval]; rfl
   simp -implicitDefEqProofs only [n0, n1, hgx, x0, vmp,↓vmd,seval]
   first | refine onQ_q f1 rfl ?_ | refine onC_q f1 rfl ?_
   (first | apply envO | apply envQ); simp -implicitDefEqProofs only [vmp,↓vmd,seval]; rfl
   simp -implicitDefEqProofs only [curR, Option.getD_none, Option.isSome_none, vmp,↓vmd,seval]
   first | refine onQ_q nx rfl ?_ | refine onC_q nx rfl ?_
   (first | apply envO | apply envQ); simp -implicitDefEqProofs only [vmp,↓vmd,seval]; rfl
   simp -implicitDefEqProofs only [vmp,↓vmd,seval]
   exact gives_tup rfl (by simp)
  | some a =>
   simp only
   have walk : ∀ {r : List V}, (a.hx = true → 0 ≤ n → ∃ o2, curF k (glAt ls n).id = o2 ∧ r = [I n, .agg [I a.xx, I a.xy], .agg [I (o2.getD cuZ).ex, I (o2.getD cuZ).ey], .bool (o2.isSome && (o2.getD cuZ).he)]) →
     (¬ (a.hx = true ∧ 0 ≤ n) → r = [I 0, .agg [I 0, I 0], .agg [I 0, I 0], .bool false]) → FnQ Try.prog 37 [fo f, lk k, .sl (ls.map gl), I x] r := by
    intro r hr1 hr2
    refine k37.q (by simp) ?_
    unfold c37
    obtain ⟨ag, ahe, ahx, aex, aey, axx, axy⟩ := a
    simp only at hr1 hr2
    simp -implicitDefEqProofs only [vmp,↓vmd,seval]
    refine onB_neg n0 ?_
    (first | apply envO | apply envQ); simp -implicitDefEqProofs only [n0, vmp,↓vmd,seval]; rfl
    simp -implicitDefEqProofs only [n0, vmp,↓vmd,seval]
    refine onIf_intro fun _ => ?_
    (first | apply envO | apply envQ); simp -implicitDefEqProofs only [n0, n1, vmp,↓vmd,seval]; rfl
    simp -implicitDefEqProofs only [n0, n1, hgx, x0, vmp,↓vmd,seval]
    first | refine onQ_q f1 rfl ?_ | refine onC_q f1 rfl ?_
    (first | apply envO | apply envQ); simp -implicitDefEqProofs only [vmp,↓vmd,seval]; rfl
    simp -implicitDefEqProofs only [curR, Option.getD_some, Option.isSome_some, vmp,↓vmd,seval]
    first | refine onQ_q nx rfl ?_ | refine onC_q nx rfl ?_
    cases ahx with
    | false =>
     have := hr2 (by simp)
     subst this
     (first | apply envO | apply envQ); simp -implicitDefEqProofs only [vmp,↓vmd,seval]; rfl
     simp -implicitDefEqProofs only [vmp,↓vmd,seval]
     exact gives_tup rfl (by simp)
    | true =>
     (first | apply envO | apply envQ); simp -implicitDefEqProofs only [vmp,↓vmd,seval]; rfl
     simp -implicitDefEqProofs only [vmp,↓vmd,seval]
     by_cases h2 : n < 0
     ·have := hr2 (by omega)
      subst this
      refine onB_pos h2 ?_
      (first | apply envO | apply envQ); simp -implicitDefEqProofs only [h2, vmp,↓vmd,seval]; rfl
      simp -implicitDefEqProofs only [h2, vmp,↓vmd,seval]
      exact gives_tup rfl (by simp)
     ·obtain ⟨o2, ho2, hr⟩ := hr1 rfl (by omega)
      have hgn := glAt_map (ls := ls) (y := n) (by omega) (by omega)
      have m0 : 0 ≤ n := by omega
      have f2 := find_q k (glAt ls n).id
      rw [ho2] at f2
      refine onB_neg h2 ?_
      (first | apply envO | apply envQ); simp -implicitDefEqProofs only [h2, vmp,↓vmd,seval]; rfl
      simp -implicitDefEqProofs only [h2, hgn, m0, vmp,↓vmd,seval]
      first | refine onQ_q f2 rfl ?_ | refine onC_q f2 rfl ?_
      rw [curR]
      generalize o2.getD cuZ = b at *
      generalize o2.isSome = b2 at *
      obtain ⟨bg, bhe, bhx, bex, bey, bxx, bxy⟩ := b
      simp only at hr
      subst hr
      cases b2 with
      | false =>
       (first | apply envO | apply envQ); simp -implicitDefEqProofs only [vmp,↓vmd,seval]; rfl
       simp -implicitDefEqProofs only [vmp,↓vmd,seval]
       refine onIf'_intro (by rw [lateOk_consG, lateOk_nil]; exact ⟨fun h => absurd (show S.pure (V.bool false) = S.pure (V.bool true) from h) (by simp), trivial⟩) ?_
       simp -implicitDefEqProofs only [vmp,↓vmd,seval]
       refine onIf'_intro (by rw [lateOk_consG, lateOk_nil]; exact ⟨fun h => absurd (show S.pure (V.bool false) = S.pure (V.bool true) from h) (by simp), trivial⟩) ?_
       simp -implicitDefEqProofs only [vmp,↓vmd,seval]
       exact gives_tup rfl (by simp)
      | true =>
       (first | apply envO | apply envQ); simp -implicitDefEqProofs only [vmp,↓vmd,seval]; rfl
       simp -implicitDefEqProofs only [vmp,↓vmd,seval]
       refine onIf'_intro (by rw [lateOk_consG, lateOk_nil]; exact ⟨fun _ => rfl, trivial⟩) ?_
       simp -implicitDefEqProofs only [vmp,↓vmd,seval]
       refine onIf'_intro (by rw [lateOk_consG, lateOk_nil]; exact ⟨fun _ => rfl, trivial⟩) ?_
       simp -implicitDefEqProofs only [vmp,↓vmd,seval]
       exact gives_tup rfl (by simp)
   by_cases hc : a.hx = true ∧ 0 ≤ n
   ·rw [if_pos hc]
    refine ⟨_, walk (fun _ _ => ⟨_, rfl, rfl⟩) (fun h => absurd hc h), ?_⟩
    cases ho2 : curF k (glAt ls n).id with
    | none => exact ⟨_, _, _, _, _, rfl⟩
    | some b =>
     cases hb : b.he with
     | true =>
      simp only [if_true]
      simp [HangR, hb]
     | false =>
      simp only [hb, Bool.false_eq_true, if_false]
      exact ⟨n, a.xx, a.xy, b.ex, b.ey, by simp [hb]⟩
   ·rw [if_neg hc]
    exact ⟨_, walk (fun h1 h2 => absurd ⟨h1, h2⟩ hc) (fun _ => rfl), 0, 0, 0, 0, 0, rfl⟩
 ·rw [hangF, if_neg hx]
  refine ⟨[I 0, .agg [I 0, I 0], .agg [I 0, I 0], .bool false], ?_, 0, 0, 0, 0, 0, rfl⟩
  refine k37.q (by simp) ?_
  unfold c37
  simp -implicitDefEqProofs only [vmp,↓vmd,seval]
  refine onB_dec (fun h1 => ?_) (fun h1 => ?_)
  ·(first | apply envO | apply envQ); simp -implicitDefEqProofs only [h1, vmp,↓vmd,seval]; rfl
   simp -implicitDefEqProofs only [h1, vmp,↓vmd,seval]
   exact gives_tup rfl (by simp)
  ·(first | apply envO | apply envQ); simp -implicitDefEqProofs only [h1, vmp,↓vmd,seval]; rfl
   simp -implicitDefEqProofs only [h1, vmp,↓vmd,seval]
   refine onIf_intro fun _ => ?_
   have n1 : (ls.length : Int) ≤ x := by omega
   (first | apply envO | apply envQ); simp -implicitDefEqProofs only [h1, vmp,↓vmd,seval]; rfl
   simp -implicitDefEqProofs only [h1, n1, vmp,↓vmd,seval]
   exact gives_tup rfl (by simp)
end Go.Proofs.Ytcjmkpkhjhjepaa.W
