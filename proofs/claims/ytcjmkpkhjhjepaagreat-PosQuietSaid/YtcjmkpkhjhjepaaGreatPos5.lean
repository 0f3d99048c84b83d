/-
  Of a law's font and glyphs: may one ask of them? And steps, as the program has them.
-/
import Derived.Test.YtcjmkpkhjhjepaaGreatPosE
import Derived.Test.YtcjmkpkhjhjepaaGreatPos1
import Derived.Test.YtcjmkpkhjhjepaaGreatChk7
namespace Go.Proofs.YtcjmkpkhjhjepaaGreat.W
open Go Go.Vm Go.Proofs
set_option maxRecDepth 100000
set_option linter.unusedSimpArgs false
set_option maxHeartbeats 4000000
/-! typecase/typecaseref35.Far -/
def c30 : AC :=
 (.seq (.reg [oo 2 (.mov (nB false))])
 (.seq (.reg [oo 3 (.mov (.s 0)),
 oo 4 (.bin .lss (.s 3) (nI (-1073741824))),
 oo 5 (.mov (.s 4)),
 og 6 5 false (.mov (.s 0)),
 og 7 5 false (.bin .gtr (.s 6) (nI 1073741824)),
 oo 8 (.pick (.s 5) (nB true) (.s 7)),
 oo 2 (.mov (.s 8))])
 .ret))
theorem k30 : OkF 30 Tryz.f30 c30 [.t 2] 9 := ⟨Tryz.func30, by kernel_rfl, by kernel_rfl, by kernel_rfl, Tryz.ntmps30⟩
/-! typecase/typecaseref35.Right -/
def c18_0 : AC :=
 (.seq (.reg [oo 4 (.mov (nB true))])
 .ret)
def c18_1 : AC :=
 (.seq (.seq (.reg [oo 7 (.mov (.s 5)),
 oo 8 (.mov (.s 1)),
 oo 9 (.len (.s 8)),
 oo 10 (.bin .lss (.s 7) (.s 9))])
 (.cond (.s 10)
 .skip
 (.exit 0)))
 (.seq (.block 1
 (.seq (.reg [oo 13 (.mov (.s 1)),
 oo 14 (.mov (.s 5)),
 oo 15 (.idxA 10 (.s 13) (.s 14)),
 oo 16 (.load true 10 (.s 15)),
 oo 6 (.box (.c (.pure (.agg [(.int .i64 0), (.int .i64 0), (.int .i64 0), (.int .i64 0), (.int .i64 0), (.int .i64 0), (.int .i64 0), (.int .i64 0), (.int .i64 0), (.int .i64 0)])))),
⟨none, none, .store 10 (.s 6) (.s 16)⟩])
 (.seq (.reg [oo 17 (.fldA 0 (.s 6)),
 oo 18 (.load false 1 (.s 17)),
 oo 19 (.bin .lss (.s 18) (nI 0)),
 oo 20 (.mov (.s 19)),
 og 21 20 false (.fldA 0 (.s 6)),
 og 22 20 false (.load false 1 (.s 21)),
 og 23 20 false (.fldA 1 (.s 2)),
 og 24 20 false (.load false 1 (.s 23)),
 og 25 20 false (.len (.s 24)),
 og 26 20 false (.bin .geq (.s 22) (.s 25)),
 oo 27 (.pick (.s 20) (nB true) (.s 26)),
 oo 28 (.mov (.s 27)),
 og 29 28 false (.fldA 2 (.s 6)),
 og 30 28 false (.load false 1 (.s 29)),
 og 31 28 false (.call 30 [(.s 30)]),
 oo 32 (.pick (.s 28) (nB true) (.s 31)),
 oo 33 (.mov (.s 32)),
 og 34 33 false (.fldA 3 (.s 6)),
 og 35 33 false (.load false 1 (.s 34)),
 og 36 33 false (.call 30 [(.s 35)]),
 oo 37 (.pick (.s 33) (nB true) (.s 36)),
 oo 38 (.mov (.s 37)),
 og 39 38 false (.fldA 4 (.s 6)),
 og 40 38 false (.load false 1 (.s 39)),
 og 41 38 false (.call 30 [(.s 40)]),
 oo 42 (.pick (.s 38) (nB true) (.s 41))])
 (.cond (.s 42)
 (.seq (.reg [oo 4 (.mov (nB false))])
 .ret)
 .skip))))
 (.reg [oo 11 (.mov (.s 5)),
 oo 12 (.bin .add (.s 11) (nI 1)),
 oo 5 (.mov (.s 12))])))
def c18 : AC :=
 (.seq (.reg [oo 2 (.box (.s 0)),
 oo 4 (.mov (nB false))])
 (.seq (.seq (.reg [oo 5 (.mov (nI 0))])
 (.block 0
 (.loop c18_1)))
 c18_0))
theorem k18 : OkF 18 Tryz.f18 c18 [.t 4] 43 := ⟨Tryz.func18, by kernel_rfl, by kernel_rfl, by kernel_rfl, Tryz.ntmps18⟩
/-! typecase/typecaselaw35.may -/
def c7 : AC :=
 (.seq (.reg [oo 2 (.box (.s 0)),
 oo 4 (.mov (nB false))])
 (.seq (.reg [oo 5 (.fldA 1 (.s 2)),
 oo 6 (.load false 1 (.s 5)),
 oo 7 (.len (.s 6)),
 oo 8 (.bin .leq (.s 7) (nI 60)),
 oo 9 (.mov (.s 8)),
 og 10 9 true (.fldA 3 (.s 2)),
 og 11 9 true (.load false 1 (.s 10)),
 og 12 9 true (.len (.s 11)),
 og 13 9 true (.bin .leq (.s 12) (nI 8)),
 oo 14 (.pick (.s 9) (.s 13) (nB false)),
 oo 15 (.mov (.s 14)),
 og 16 15 true (.mov (.s 1)),
 og 17 15 true (.len (.s 16)),
 og 18 15 true (.bin .leq (.s 17) (nI 16)),
 oo 19 (.pick (.s 15) (.s 18) (nB false)),
 oo 20 (.mov (.s 19)),
 og 21 20 true (.load true 6 (.s 2)),
 og 22 20 true (.call 17 [(.s 21)]),
 og 23 20 true (.bin .eql (.s 22) (nI 0)),
 oo 24 (.pick (.s 20) (.s 23) (nB false)),
 oo 25 (.mov (.s 24)),
 og 26 25 true (.load true 6 (.s 2)),
 og 27 25 true (.mov (.s 1)),
 og 28 25 true (.call 18 [(.s 26), (.s 27)]),
 oo 29 (.pick (.s 25) (.s 28) (nB false)),
 oo 4 (.mov (.s 29))])
 .ret))
theorem k7 : OkF 7 Tryz.f7 c7 [.t 4] 30 := ⟨Tryz.func7, by kernel_rfl, by kernel_rfl, by kernel_rfl, Tryz.ntmps7⟩
/-! typecase/typecaselaw35.steps -/
def c14_0 : AC :=
 (.seq (.reg [oo 25 (.mov (.s 3)),
 oo 2 (.mov (.s 25))])
 .ret)
def c14_1 : AC :=
 (.seq (.seq (.reg [oo 5 (.mov (.s 4)),
 oo 6 (.mov (.s 0)),
 oo 7 (.len (.s 6)),
 oo 8 (.bin .lss (.s 5) (.s 7))])
 (.cond (.s 8)
 .skip
 (.exit 0)))
 (.seq (.block 1
 (.regq [oo 11 (.mov (.s 3)),
 oo 12 (.mov (.s 0)),
 oo 13 (.mov (.s 4)),
 oo 14 (.idxA 2 (.s 12) (.s 13)),
 oo 15 (.fldA 0 (.s 14)),
 oo 16 (.load false 1 (.s 15)),
 oo 17 (.mov (.s 0)),
 oo 18 (.mov (.s 4)),
 oo 19 (.idxA 2 (.s 17) (.s 18)),
 oo 20 (.fldA 1 (.s 19)),
 oo 21 (.load false 1 (.s 20)),
 oo 22 (.build [(pI 0), (pI 0)] [(0, 1, (.s 16)), (1, 1, (.s 21))]),
 oo 23 (.bslice 2 [(.s 22)])]
[oo 24 (.app 2 16 (.s 11) (.s 23)),
 oo 3 (.mov (.s 24))]))
 (.reg [oo 9 (.mov (.s 4)),
 oo 10 (.bin .add (.s 9) (nI 1)),
 oo 4 (.mov (.s 10))])))
def c14 : AC :=
 (.seq (.reg [oo 2 (.mov (.c .empty))])
 (.seq (.reg [oo 3 (.mov (.c .empty))])
 (.seq (.seq (.reg [oo 4 (.mov (nI 0))])
 (.block 0
 (.loop c14_1)))
 c14_0)))
theorem k14 : OkF 14 Tryz.f14 c14 [.t 2] 26 := ⟨Tryz.func14, by kernel_rfl, by kernel_rfl, by kernel_rfl, Tryz.ntmps14⟩
def far30 (n : Int) : Bool := decide (n < -1073741824) || decide (n > 1073741824)
theorem far35_q (n : Int) : FnQ Tryz.prog 30 [I n] [.bool (far30 n)] := by
 refine k30.q (by simp) ?_
 unfold c30
 have ho : far30 n = (decide (n < -1073741824) || decide (n > 1073741824)) := rfl
 generalize far30 n = out at *
 simp only [vmp,↓vmd,seval]
 refine onB_dec (fun h1 => ?_) (fun h1 => ?_)
 ·rw [decide_eq_true h1, Bool.true_or] at ho
  subst ho
  (first | apply envO | apply envQ); simp only [h1, vmp,↓vmd,seval]; rfl
  simp only [h1, vmp,↓vmd,seval]
  exact gives_pure
 ·rw [decide_eq_false h1, Bool.false_or] at ho
  subst ho
  (first | apply envO | apply envQ); simp only [h1, vmp,↓vmd,seval]; rfl
  simp only [h1, vmp,↓vmd,seval]
  exact gives_pure
def badG (F : Ff) (g : Gl) : Bool := decide (g.id < 0) || decide ((F.gs.length : Int) ≤ g.id) || far30 g.adv || far30 g.dx || far30 g.dy
def right35 (F : Ff) (ls : List Gl) : Bool := !(ls.any (badG F))
theorem right35_q (F : Ff) (ls : List Gl) : FnQ Tryz.prog 18 [ffV F, .sl (ls.map gl)] [.bool (right35 F ls)] := by
 refine k18.q (by simp) ?_
 unfold c18
 have ho : (!(ls.any (badG F))) = right35 F ls := rfl
 generalize right35 F ls = out at *
 simp only [vmp,↓vmd,seval]
 refine loop_at (T := Nat) (fun i => [(5, .pure (I (i : Int))), (1, .pure (.sl (ls.map gl))), (2, .ptr 0 0 0)]) (fun _ => [⟨[.pure (ffV F)], 6, .live⟩]) (fun i => i ≤ ls.length ∧ (!((ls.drop i).any (badG F))) = out) (fun i => ls.length - i)
  0 [0] (by simp) rfl ⟨by simp, by simpa using ho⟩ (by simp only [kpp,seval]) (by simp only [kpp,seval]) ?_
 rintro i ⟨hi, hr⟩
 unfold c18_1
 simp only [vmp,↓vmd,seval]
 refine onIf_intro fun _ => ?_
 (first | apply envO | apply envQ); simp only [vmp,↓vmd,seval]; rfl
 simp only [vmp,↓vmd,seval]
 refine onB_dec (fun h1 => ?_) (fun h1 => ?_)
 ·have hlt : i < ls.length := by omega
  rw [drop_at hlt, List.any_cons, badG] at hr
  have hgi : (ls.map gl)[i]? = some (gl ls[i]) := map_at hlt
  generalize ls[i] = g at hr hgi
  have f1 := far35_q g.adv
  have f2 := far35_q g.dx
  have f3 := far35_q g.dy
  generalize far30 g.adv = b1 at *
  generalize far30 g.dx = b2 at *
  generalize far30 g.dy = b3 at *
  simp only [h1, hgi, Int.natCast_nonneg, vmp,↓vmd,seval]
  refine onB_dec (fun h2 => ?_) (fun h2 => ?_)
  ·rw [decide_eq_true h2] at hr
   simp only [Bool.true_or, Bool.not_true] at hr
   subst hr
   (first | apply envO | apply envQ); simp only [h2, vmp,↓vmd,seval]; rfl
   simp only [h2, vmp,↓vmd,seval]
   exact gives_pure
  rw [decide_eq_false h2] at hr
  (first | apply envO | apply envQ); simp only [h2, vmp,↓vmd,seval]; rfl
  simp only [h2, vmp,↓vmd,seval]
  refine onIf_intro fun _ => ?_
  (first | apply envO | apply envQ); simp only [h2, vmp,↓vmd,seval]; rfl
  simp only [h2, vmp,↓vmd,seval]
  refine onB_dec (fun h3 => ?_) (fun h3 => ?_)
  ·rw [decide_eq_true h3] at hr
   simp only [Bool.true_or, Bool.or_true, Bool.not_true] at hr
   subst hr
   (first | apply envO | apply envQ); simp only [h3, vmp,↓vmd,seval]; rfl
   simp only [h3, vmp,↓vmd,seval]
   exact gives_pure
  rw [decide_eq_false h3] at hr
  (first | apply envO | apply envQ); simp only [h3, vmp,↓vmd,seval]; rfl
  simp only [h3, vmp,↓vmd,seval]
  first | refine onC_q f1 rfl ?_ | refine onQ_q f1 rfl ?_
  cases b1 with
  | true =>
   simp only [Bool.true_or, Bool.or_true, Bool.not_true] at hr
   subst hr
   (first | apply envO | apply envQ); simp only [vmp,↓vmd,seval]; rfl
   simp only [vmp,↓vmd,seval]
   exact gives_pure
  | false =>
   (first | apply envO | apply envQ); simp only [vmp,↓vmd,seval]; rfl
   simp only [vmp,↓vmd,seval]
   first | refine onC_q f2 rfl ?_ | refine onQ_q f2 rfl ?_
   cases b2 with
   | true =>
    simp only [Bool.true_or, Bool.or_true, Bool.not_true] at hr
    subst hr
    (first | apply envO | apply envQ); simp only [vmp,↓vmd,seval]; rfl
    simp only [vmp,↓vmd,seval]
    exact gives_pure
   | false =>
    (first | apply envO | apply envQ); simp only [vmp,↓vmd,seval]; rfl
    simp only [vmp,↓vmd,seval]
    first | refine onC_q f3 rfl ?_ | refine onQ_q f3 rfl ?_
    cases b3 with
    | true =>
     simp only [Bool.true_or, Bool.or_true, Bool.not_true] at hr
     subst hr
     (first | apply envO | apply envQ); simp only [vmp,↓vmd,seval]; rfl
     simp only [vmp,↓vmd,seval]
     exact gives_pure
    | false =>
     simp only [Bool.false_or] at hr
     (first | apply envO | apply envQ); simp only [vmp,↓vmd,seval]; rfl
     simp only [vmp,↓vmd,seval]
     refine onBk_to (i + 1) [0] (by simp) rfl (by omega) ⟨hlt, hr⟩ (by simp only [next_at hlt (by omega), kpp,seval]) (by simp only [kpp,seval])
 ·rw [List.drop_of_length_le (by omega)] at hr
  subst hr
  simp only [h1, vmp,↓vmd,seval]
  unfold c18_0
  simp only [vmp,↓vmd,seval]
  exact gives_pure
def mayF (F : Ff) (ls : List Gl) : Bool := decide (F.gs.length ≤ 60) && decide (F.lks.length ≤ 8) && decide (ls.length ≤ 16) && decide (checkF F = 0) && right35 F ls
theorem may_q (F : Ff) (ls : List Gl) : FnQ Tryz.prog 7 [ffV F, .sl (ls.map gl)] [.bool (mayF F ls)] := by
 refine k7.q (by simp) ?_
 unfold c7
 have ho : (decide (F.gs.length ≤ 60) && decide (F.lks.length ≤ 8) && decide (ls.length ≤ 16) && decide (checkF F = 0) && right35 F ls) = mayF F ls := rfl
 generalize mayF F ls = out at *
 simp only [vmp,↓vmd,seval]
 refine onIf_intro fun _ => ?_
 (first | apply envO | apply envQ); simp only [vmp,↓vmd,seval]; rfl
 simp only [vmp,↓vmd,seval]
 by_cases h1 : (F.gs.length : Int) ≤ 60
 ·rw [decide_eq_true (show F.gs.length ≤ 60 by omega)] at ho
  refine onB_pos h1 ?_
  (first | apply envO | apply envQ); simp only [h1, vmp,↓vmd,seval]; rfl
  simp only [h1, vmp,↓vmd,seval]
  refine onIf_intro fun _ => ?_
  (first | apply envO | apply envQ); simp only [h1, vmp,↓vmd,seval]; rfl
  simp only [h1, vmp,↓vmd,seval]
  by_cases h2 : (F.lks.length : Int) ≤ 8
  ·rw [decide_eq_true (show F.lks.length ≤ 8 by omega)] at ho
   refine onB_pos h2 ?_
   (first | apply envO | apply envQ); simp only [h2, vmp,↓vmd,seval]; rfl
   simp only [h2, vmp,↓vmd,seval]
   refine onIf_intro fun _ => ?_
   (first | apply envO | apply envQ); simp only [h2, vmp,↓vmd,seval]; rfl
   simp only [h2, vmp,↓vmd,seval]
   by_cases h3 : (ls.length : Int) ≤ 16
   ·rw [decide_eq_true (show ls.length ≤ 16 by omega)] at ho
    refine onB_pos h3 ?_
    (first | apply envO | apply envQ); simp only [h3, vmp,↓vmd,seval]; rfl
    simp only [h3, vmp,↓vmd,seval]
    refine onC_q (check_q F) rfl ?_
    generalize checkF F = c at *
    by_cases h4 : c = 0
    ·rw [decide_eq_true h4] at ho
     simp only [Bool.true_and] at ho
     (first | apply envO | apply envQ); simp only [h4, vmp,↓vmd,seval]; rfl
     simp only [h4, vmp,↓vmd,seval]
     refine onC_q (right35_q F ls) rfl ?_
     rw [ho]
     (first | apply envO | apply envQ); simp only [h4, vmp,↓vmd,seval]; rfl
     simp only [h4, vmp,↓vmd,seval]
     exact gives_pure
    ·rw [decide_eq_false h4] at ho
     simp only [Bool.and_false, Bool.false_and] at ho
     subst ho
     (first | apply envO | apply envQ); simp only [h4, vmp,↓vmd,seval]; rfl
     simp only [h4, vmp,↓vmd,seval]
     exact gives_pure
   ·rw [decide_eq_false (show ¬ ls.length ≤ 16 by omega)] at ho
    simp only [Bool.and_false, Bool.false_and] at ho
    subst ho
    refine onB_neg h3 ?_
    (first | apply envO | apply envQ); simp only [h3, vmp,↓vmd,seval]; rfl
    simp only [h3, vmp,↓vmd,seval]
    exact gives_pure
  ·rw [decide_eq_false (show ¬ F.lks.length ≤ 8 by omega)] at ho
   simp only [Bool.and_false, Bool.false_and] at ho
   subst ho
   refine onB_neg h2 ?_
   (first | apply envO | apply envQ); simp only [h2, vmp,↓vmd,seval]; rfl
   simp only [h2, vmp,↓vmd,seval]
   exact gives_pure
 ·rw [decide_eq_false (show ¬ F.gs.length ≤ 60 by omega)] at ho
  simp only [Bool.and_false, Bool.false_and] at ho
  subst ho
  refine onB_neg h1 ?_
  (first | apply envO | apply envQ); simp only [h1, vmp,↓vmd,seval]; rfl
  simp only [h1, vmp,↓vmd,seval]
  exact gives_pure
theorem may_of {F : Ff} {ls : List Gl} (h : mayF F ls = true) : ls.length ≤ 16 ∧ F.lks.length ≤ 8 ∧ ∀ k ∈ F.lks, PosK k := by
 simp only [mayF, Bool.and_eq_true, decide_eq_true_eq] at h
 obtain ⟨⟨⟨⟨_, h1⟩, h2⟩, h3⟩, _⟩ := h
 have hc : checkB F = true := by simpa [checkF] using h3
 refine ⟨h2, h1, fun k hk => ?_⟩
 have hs := (checkB_sub hc hk).2
 refine ⟨fun e => ?_, fun e s hm => ?_, fun e s hm => ?_⟩
 ·have g : ∀ s ∈ k.subs, aroundB F k s = true := fun s hm => by
   have := (hs s hm).2
   rw [kindB, if_neg (by omega), if_neg (by omega), if_neg (by omega), if_pos (by omega)] at this
   exact this
  refine ⟨fun s hm => ?_, fun s hm => ?_⟩
  ·have := g s hm
   simp only [aroundB, coversB, Bool.and_eq_true, withB_iff, decide_eq_true_eq] at this
   omega
  ·have := g s hm
   simp only [aroundB, Bool.and_eq_true, decide_eq_true_eq] at this
   omega
 ·have := (hs s hm).2
  rw [kindB, if_neg (by omega), if_neg (by omega), if_neg (by omega), if_neg (by omega), if_neg (by omega), if_neg (by omega), if_neg (by omega), if_neg (by omega)] at this
  simp only [marksB, Bool.and_eq_true, decide_eq_true_eq] at this
  omega
 ·rcases e with e | e
  ·have := (hs s hm).2
   rw [kindB, if_neg (by omega), if_neg (by omega), if_neg (by omega), if_neg (by omega), if_neg (by omega), if_pos e] at this
   simp only [coverB, Bool.and_eq_true, decide_eq_true_eq] at this
   omega
  ·have := (hs s hm).1
   simp [bareB, kCov, e] at this
   have h0 := this.1.1.1.1.1.1.1
   rw [h0]
   simp
theorem steps_q (ts : List Stp) (hl : ts.length ≤ 1000) : FnQ Tryz.prog 14 [.sl (ts.map stp)] [.sl (ts.map stp)] := by
 refine k14.q (by simp) ?_
 unfold c14
 simp only [vmp,↓vmd,seval]
 refine loop_virt 3 2 rfl (by simp) ?_
 refine loop_at (T := Nat) (fun i => [(4, .pure (I (i : Int))), (0, .pure (.sl (ts.map stp))), (3, .rsl 0 0 (ts.take i).length)]) (fun i => [⟨((ts.take i).map stp).map .pure, 2, .live⟩]) (fun i => i ≤ ts.length) (fun i => ts.length - i)
  0 [0] (by simp) rfl (by simp) (by simp only [List.take_zero, kpp,seval]) (by simp only [List.take_zero, kpp,seval]) ?_
 intro i hi
 have hi' : (ts.take i).length = i := by simp; omega
 unfold c14_1
 simp only [vmp,↓vmd,seval]
 refine onIf_intro fun _ => ?_
 (first | apply envO | apply envQ); simp only [vmp,↓vmd,seval]; rfl
 simp only [vmp,↓vmd,seval]
 refine onB_dec (fun h1 => ?_) (fun h1 => ?_)
 ·have hlt : i < ts.length := by omega
  have hgi : (ts.map stp)[i]? = some (stp ts[i]) := map_at hlt
  have hs' := List.take_succ_eq_append_getElem hlt
  generalize ts[i] = g at hgi hs'
  simp only [h1, hgi, Int.natCast_nonneg, vmp,↓vmd,seval]
  refine onIf'_intro (appOk_one rfl rfl (by simp) (by omega) (by simp [maxLen]; omega)) ?_
  (first | apply envO | apply envQ); simp only [vmp,↓vmd,seval]; rfl
  simp only [vmp,↓vmd,seval]
  refine onBk_to (i + 1) [2] (by simp) rfl (by omega) hlt (by simp only [next_at hlt (by omega), hs', kpp,seval]) (by simp only [hs', kpp,seval])
 ·rw [List.take_of_length_le (by omega)]
  simp only [h1, vmp,↓vmd,seval]
  unfold c14_0
  simp only [vmp,↓vmd,seval]
  exact gives_row rfl (by simp)
end Go.Proofs.YtcjmkpkhjhjepaaGreat.W
