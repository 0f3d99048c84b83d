/-
  Where a place's glyph hangs the next one: the program's function. No condition but on sizes.
-/
import Derived.Test.YtcjmkpkhjhjepaaGreatCur1
namespace Go.Proofs.YtcjmkpkhjhjepaaGreat.W
open Go Go.Vm Go.Proofs
set_option maxRecDepth 100000
set_option linter.unusedSimpArgs false
set_option maxHeartbeats 4000000
/-! typecase/cursive.hang -/
def c81 : AC :=
 (.seq (.reg [oo 4 (.box (.s 0)),
 oo 5 (.box (.s 1)),
 oo 8 (.mov (nI 0)),
 oo 9 (.box (.c (.pure (.agg [(.int .i64 0), (.int .i64 0)])))),
 oo 10 (.box (.c (.pure (.agg [(.int .i64 0), (.int .i64 0)])))),
 oo 11 (.mov (nB false))])
 (.seq (.seq (.reg [oo 16 (.mov (.s 3)),
 oo 17 (.bin .lss (.s 16) (nI 0)),
 oo 18 (.mov (.s 17)),
 og 19 18 false (.mov (.s 3)),
 og 20 18 false (.mov (.s 2)),
 og 21 18 false (.len (.s 20)),
 og 22 18 false (.bin .geq (.s 19) (.s 21)),
 oo 23 (.pick (.s 18) (nB true) (.s 22))])
 (.cond (.s 23)
 (.seq (.reg [oo 24 (.build [(pI 0), (pI 0)] []),
 oo 25 (.build [(pI 0), (pI 0)] []),
 oo 8 (.mov (nI 0)),
⟨none, none, .store 2 (.s 9) (.s 24)⟩,
⟨none, none, .store 2 (.s 10) (.s 25)⟩,
 oo 11 (.mov (nB false))])
 .ret)
 .skip))
 (.seq (.regq [oo 27 (.load true 4 (.s 5)),
 oo 28 (.mov (.s 2)),
 oo 29 (.mov (.s 3)),
 oo 30 (.idxA 10 (.s 28) (.s 29)),
 oo 31 (.fldA 0 (.s 30)),
 oo 32 (.load false 1 (.s 31)),
 oo 33 (.call 108 [(.s 27), (.s 32)]),
 oo 26 (.mov (.s 33)),
 oo 34 (.ext 0 (.s 26)),
 oo 35 (.ext 1 (.s 26)),
 oo 12 (.box (.c (.pure (.agg [(.int .i64 0), (.bool false), (.bool false), (.int .i64 0), (.int .i64 0), (.int .i64 0), (.int .i64 0)]))))]
[⟨none, none, .store 7 (.s 12) (.s 34)⟩,
 oo 13 (.mov (.s 35))])
 (.seq (.reg [oo 36 (.load true 6 (.s 4)),
 oo 37 (.load true 4 (.s 5)),
 oo 38 (.mov (.s 2)),
 oo 39 (.mov (.s 3)),
 oo 40 (.call 79 [(.s 36), (.s 37), (.s 38), (.s 39)]),
 oo 14 (.mov (.s 40))])
 (.seq (.seq (.reg [oo 41 (.mov (.s 13)),
 oo 42 (.un .not (.s 41)),
 oo 43 (.mov (.s 42)),
 og 44 43 false (.fldA 2 (.s 12)),
 og 45 43 false (.load false 1 (.s 44)),
 og 46 43 false (.un .not (.s 45)),
 oo 47 (.pick (.s 43) (nB true) (.s 46)),
 oo 48 (.mov (.s 47)),
 og 49 48 false (.mov (.s 14)),
 og 50 48 false (.bin .lss (.s 49) (nI 0)),
 oo 51 (.pick (.s 48) (nB true) (.s 50))])
 (.cond (.s 51)
 (.seq (.reg [oo 52 (.build [(pI 0), (pI 0)] []),
 oo 53 (.build [(pI 0), (pI 0)] []),
 oo 8 (.mov (nI 0)),
⟨none, none, .store 2 (.s 9) (.s 52)⟩,
⟨none, none, .store 2 (.s 10) (.s 53)⟩,
 oo 11 (.mov (nB false))])
 .ret)
 .skip))
 (.seq (.regq [oo 55 (.load true 4 (.s 5)),
 oo 56 (.mov (.s 2)),
 oo 57 (.mov (.s 14)),
 oo 58 (.idxA 10 (.s 56) (.s 57)),
 oo 59 (.fldA 0 (.s 58)),
 oo 60 (.load false 1 (.s 59)),
 oo 61 (.call 108 [(.s 55), (.s 60)]),
 oo 54 (.mov (.s 61)),
 oo 62 (.ext 0 (.s 54)),
 oo 63 (.ext 1 (.s 54)),
 oo 15 (.box (.c (.pure (.agg [(.int .i64 0), (.bool false), (.bool false), (.int .i64 0), (.int .i64 0), (.int .i64 0), (.int .i64 0)]))))]
[⟨none, none, .store 7 (.s 15) (.s 62)⟩,
 oo 13 (.mov (.s 63))])
 (.seq (.regm [oo 64 (.mov (.s 14)),
 oo 65 (.fldA 5 (.s 12)),
 oo 66 (.load true 2 (.s 65)),
 oo 67 (.fldA 3 (.s 15)),
 oo 68 (.load true 2 (.s 67)),
 oo 69 (.mov (.s 13)),
 oo 70 (.mov (.s 69)),
 og 71 70 true (.fldA 1 (.s 15)),
 og 72 70 true (.load false 1 (.s 71)),
 oo 73 (.pick (.s 70) (.s 72) (nB false)),
 oo 8 (.mov (.s 64)),
 oo 11 (.mov (.s 73))]
[⟨none, none, .store 2 (.s 9) (.s 66)⟩,
⟨none, none, .store 2 (.s 10) (.s 68)⟩]
[oo 68 (.load true 2 (.s 67)),
 og 72 70 true (.load false 1 (.s 71))])
 .ret)))))))
theorem k81 : OkF 81 Tryz.f81 c81 [.t 8, .c 9 true 2, .c 10 true 2, .t 11] 74 := ⟨Tryz.func81, by kernel_rfl, by kernel_rfl, by kernel_rfl, Tryz.ntmps81⟩
/-- what the program's function tells of it -/
def HangR (o : Option (Int × Cu × Cu)) (r : List V) : Prop := match o with
 | some z => r = [I z.1, .agg [I z.2.1.xx, I z.2.1.xy], .agg [I z.2.2.ex, I z.2.2.ey], .bool true]
 | none => ∃ n a b c d, r = [I n, .agg [I a, I b], .agg [I c, I d], .bool false]
theorem hang_q (f : Fo) (k : Lk) (ls : List Gl) (hl : ls.length ≤ 1000) (x : Int) : ∃ r, FnQ Tryz.prog 81 [fo f, lk k, .sl (ls.map gl), I x] r ∧ HangR (hangF f k ls x) r := by
 have nx := next_q f k.kind k.flags k.set (.sl (k.subs.map sub)) ls x hl
 have hi := @nextF_gt (seesF f k.flags k.set ls) ls.length x
 by_cases hx : 0 ≤ x ∧ x < ls.length
 ·rw [hangF, if_pos hx]
  obtain ⟨x0, x1⟩ := hx
  have n0 : ¬ x < 0 := by omega
  have n1 : ¬ (ls.length : Int) ≤ x := by omega
  have hgx := glAt_map x0 x1
  have f1 := find_q k (glAt ls x).id
  generalize nextF (seesF f k.flags k.set ls) ls.length x = n at *
  generalize curF k (glAt ls x).id = o1 at *
  have none' : ∀ {P : Prop}, FnQ Tryz.prog 81 [fo f, lk k, .sl (ls.map gl), I x] [I 0, .agg [I 0, I 0], .agg [I 0, I 0], .bool false] → ∃ r, FnQ Tryz.prog 81 [fo f, lk k, .sl (ls.map gl), I x] r ∧ HangR none r :=
   fun {_} h => ⟨_, h, 0, 0, 0, 0, 0, rfl⟩
  cases o1 with
  | none =>
   refine none' (P := True) ?_
   refine k81.q (by simp) ?_
   unfold c81
   simp only [vmp,↓vmd,seval]
   refine onB_neg n0 ?_
   (first | apply envO | apply envQ); simp only [n0, vmp,↓vmd,seval]; rfl
   simp only [n0, vmp,↓vmd,seval]
   refine onIf_intro fun _ => ?_
   (first | apply envO | apply envQ); simp only [n0, n1, vmp,↓vmd,seval]; rfl
   simp only [n0, n1, hgx, x0, vmp,↓vmd,seval]
   first | refine onQ_q f1 rfl ?_ | refine onC_q f1 rfl ?_
   (first | apply envO | apply envQ); simp only [vmp,↓vmd,seval]; rfl
   simp only [curR, Option.getD_none, Option.isSome_none, vmp,↓vmd,seval]
   first | refine onQ_q nx rfl ?_ | refine onC_q nx rfl ?_
   (first | apply envO | apply envQ); simp only [vmp,↓vmd,seval]; rfl
   simp only [vmp,↓vmd,seval]
   exact gives_tup rfl (by simp)
  | some a =>
   simp only
   have walk : ∀ {r : List V}, (a.hx = true → 0 ≤ n → ∃ o2, curF k (glAt ls n).id = o2 ∧ r = [I n, .agg [I a.xx, I a.xy], .agg [I (o2.getD cuZ).ex, I (o2.getD cuZ).ey], .bool (o2.isSome && (o2.getD cuZ).he)]) →
     (¬ (a.hx = true ∧ 0 ≤ n) → r = [I 0, .agg [I 0, I 0], .agg [I 0, I 0], .bool false]) → FnQ Tryz.prog 81 [fo f, lk k, .sl (ls.map gl), I x] r := by
    intro r hr1 hr2
    refine k81.q (by simp) ?_
    unfold c81
    obtain ⟨ag, ahe, ahx, aex, aey, axx, axy⟩ := a
    simp only at hr1 hr2
    simp only [vmp,↓vmd,seval]
    refine onB_neg n0 ?_
    (first | apply envO | apply envQ); simp only [n0, vmp,↓vmd,seval]; rfl
    simp only [n0, vmp,↓vmd,seval]
    refine onIf_intro fun _ => ?_
    (first | apply envO | apply envQ); simp only [n0, n1, vmp,↓vmd,seval]; rfl
    simp only [n0, n1, hgx, x0, vmp,↓vmd,seval]
    first | refine onQ_q f1 rfl ?_ | refine onC_q f1 rfl ?_
    (first | apply envO | apply envQ); simp only [vmp,↓vmd,seval]; rfl
    simp only [curR, Option.getD_some, Option.isSome_some, vmp,↓vmd,seval]
    first | refine onQ_q nx rfl ?_ | refine onC_q nx rfl ?_
    cases ahx with
    | false =>
     have := hr2 (by simp)
     subst this
     (first | apply envO | apply envQ); simp only [vmp,↓vmd,seval]; rfl
     simp only [vmp,↓vmd,seval]
     exact gives_tup rfl (by simp)
    | true =>
     (first | apply envO | apply envQ); simp only [vmp,↓vmd,seval]; rfl
     simp only [vmp,↓vmd,seval]
     by_cases h2 : n < 0
     ·have := hr2 (by omega)
      subst this
      refine onB_pos h2 ?_
      (first | apply envO | apply envQ); simp only [h2, vmp,↓vmd,seval]; rfl
      simp only [h2, vmp,↓vmd,seval]
      exact gives_tup rfl (by simp)
     ·obtain ⟨o2, ho2, hr⟩ := hr1 rfl (by omega)
      have hgn := glAt_map (ls := ls) (y := n) (by omega) (by omega)
      have m0 : 0 ≤ n := by omega
      have f2 := find_q k (glAt ls n).id
      rw [ho2] at f2
      refine onB_neg h2 ?_
      (first | apply envO | apply envQ); simp only [h2, vmp,↓vmd,seval]; rfl
      simp only [h2, hgn, m0, vmp,↓vmd,seval]
      first | refine onQ_q f2 rfl ?_ | refine onC_q f2 rfl ?_
      rw [curR]
      generalize o2.getD cuZ = b at *
      generalize o2.isSome = b2 at *
      obtain ⟨bg, bhe, bhx, bex, bey, bxx, bxy⟩ := b
      simp only at hr
      subst hr
      cases b2 with
      | false =>
       (first | apply envO | apply envQ); simp only [vmp,↓vmd,seval]; rfl
       simp only [vmp,↓vmd,seval]
       refine onIf'_intro (by rw [lateOk_consG, lateOk_nil]; exact ⟨fun h => absurd (show S.pure (V.bool false) = S.pure (V.bool true) from h) (by simp), trivial⟩) ?_
       simp only [vmp,↓vmd,seval]
       refine onIf'_intro (by rw [lateOk_consG, lateOk_nil]; exact ⟨fun h => absurd (show S.pure (V.bool false) = S.pure (V.bool true) from h) (by simp), trivial⟩) ?_
       simp only [vmp,↓vmd,seval]
       exact gives_tup rfl (by simp)
      | true =>
       (first | apply envO | apply envQ); simp only [vmp,↓vmd,seval]; rfl
       simp only [vmp,↓vmd,seval]
       refine onIf'_intro (by rw [lateOk_consG, lateOk_nil]; exact ⟨fun _ => rfl, trivial⟩) ?_
       simp only [vmp,↓vmd,seval]
       refine onIf'_intro (by rw [lateOk_consG, lateOk_nil]; exact ⟨fun _ => rfl, trivial⟩) ?_
       simp only [vmp,↓vmd,seval]
       exact gives_tup rfl (by simp)
   by_cases hc : a.hx = true ∧ 0 ≤ n
   ·rw [if_pos hc]
    refine ⟨_, walk (fun _ _ => ⟨_, rfl, rfl⟩) (fun h => absurd hc h), ?_⟩
    cases ho2 : curF k (glAt ls n).id with
    | none => exact ⟨_, _, _, _, _, rfl⟩
    | some b =>
     cases hb : b.he with
     | true =>
      simp only [if_true]
      simp [HangR, hb]
     | false =>
      simp only [hb, Bool.false_eq_true, if_false]
      exact ⟨n, a.xx, a.xy, b.ex, b.ey, by simp [hb]⟩
   ·rw [if_neg hc]
    exact ⟨_, walk (fun h1 h2 => absurd ⟨h1, h2⟩ hc) (fun _ => rfl), 0, 0, 0, 0, 0, rfl⟩
 ·rw [hangF, if_neg hx]
  refine ⟨[I 0, .agg [I 0, I 0], .agg [I 0, I 0], .bool false], ?_, 0, 0, 0, 0, 0, rfl⟩
  refine k81.q (by simp) ?_
  unfold c81
  simp only [vmp,↓vmd,seval]
  refine onB_dec (fun h1 => ?_) (fun h1 => ?_)
  ·(first | apply envO | apply envQ); simp only [h1, vmp,↓vmd,seval]; rfl
   simp only [h1, vmp,↓vmd,seval]
   exact gives_tup rfl (by simp)
  ·(first | apply envO | apply envQ); simp only [h1, vmp,↓vmd,seval]; rfl
   simp only [h1, vmp,↓vmd,seval]
   refine onIf_intro fun _ => ?_
   have n1 : (ls.length : Int) ≤ x := by omega
   (first | apply envO | apply envQ); simp only [h1, vmp,↓vmd,seval]; rfl
   simp only [h1, n1, vmp,↓vmd,seval]
   exact gives_tup rfl (by simp)
end Go.Proofs.YtcjmkpkhjhjepaaGreat.W
