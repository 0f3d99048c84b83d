/-
  Of a law's font and glyphs: may one ask of them? And steps, as the program has them.
-/
import Derived.Test.YtcjmkpkhjhjepaaPosE
import Derived.Test.YtcjmkpkhjhjepaaPos1
import Derived.Test.YtcjmkpkhjhjepaaChk7
namespace Go.Proofs.Ytcjmkpkhjhjepaa.W
open Go Go.Vm Go.Proofs
set_option maxRecDepth 100000
set_option linter.unusedSimpArgs false
set_option maxHeartbeats 4000000
/-! typecase/typecaseref35.Far -/
def c73 : AC :=
 (.seq (.reg [⟨some 2, none, .mov (.c (.pure (.bool false)))⟩])
 (.seq (.reg [⟨some 3, none, .mov (.s 0)⟩,
⟨some 4, none, .bin .lss (.s 3) (.c (.pure (.int .i64 (-1073741824))))⟩,
⟨some 5, none, .mov (.s 4)⟩,
⟨some 6, some (5, false), .mov (.s 0)⟩,
⟨some 7, some (5, false), .bin .gtr (.s 6) (.c (.pure (.int .i64 1073741824)))⟩,
⟨some 8, none, .pick (.s 5) (.c (.pure (.bool true))) (.s 7)⟩,
⟨some 2, none, .mov (.s 8)⟩])
 .ret))
theorem k73 : OkF 73 Try.f73 c73 [.t 2] 9 := ⟨Try.func73, by kernel_rfl, by kernel_rfl, by kernel_rfl, Try.ntmps73⟩
/-! typecase/typecaseref35.Right -/
def c51_0 : AC :=
 (.seq (.reg [⟨some 4, none, .mov (.c (.pure (.bool true)))⟩])
 .ret)
def c51_1 : AC :=
 (.seq (.seq (.reg [⟨some 7, none, .mov (.s 5)⟩,
⟨some 8, none, .mov (.s 1)⟩,
⟨some 9, none, .len (.s 8)⟩,
⟨some 10, none, .bin .lss (.s 7) (.s 9)⟩])
 (.cond (.s 10)
 .skip
 (.exit 0)))
 (.seq (.block 1
 (.seq (.reg [⟨some 13, none, .mov (.s 1)⟩,
⟨some 14, none, .mov (.s 5)⟩,
⟨some 15, none, .idxA 10 (.s 13) (.s 14)⟩,
⟨some 16, none, .load true 10 (.s 15)⟩,
⟨some 6, none, .box (.c (.pure (.agg [(.int .i64 0), (.int .i64 0), (.int .i64 0), (.int .i64 0), (.int .i64 0), (.int .i64 0), (.int .i64 0), (.int .i64 0), (.int .i64 0), (.int .i64 0)])))⟩,
⟨none, none, .store 10 (.s 6) (.s 16)⟩])
 (.seq (.reg [⟨some 17, none, .fldA 0 (.s 6)⟩,
⟨some 18, none, .load false 1 (.s 17)⟩,
⟨some 19, none, .bin .lss (.s 18) (.c (.pure (.int .i64 0)))⟩,
⟨some 20, none, .mov (.s 19)⟩,
⟨some 21, some (20, false), .fldA 0 (.s 6)⟩,
⟨some 22, some (20, false), .load false 1 (.s 21)⟩,
⟨some 23, some (20, false), .fldA 1 (.s 2)⟩,
⟨some 24, some (20, false), .load false 1 (.s 23)⟩,
⟨some 25, some (20, false), .len (.s 24)⟩,
⟨some 26, some (20, false), .bin .geq (.s 22) (.s 25)⟩,
⟨some 27, none, .pick (.s 20) (.c (.pure (.bool true))) (.s 26)⟩,
⟨some 28, none, .mov (.s 27)⟩,
⟨some 29, some (28, false), .fldA 2 (.s 6)⟩,
⟨some 30, some (28, false), .load false 1 (.s 29)⟩,
⟨some 31, some (28, false), .call 73 [(.s 30)]⟩,
⟨some 32, none, .pick (.s 28) (.c (.pure (.bool true))) (.s 31)⟩,
⟨some 33, none, .mov (.s 32)⟩,
⟨some 34, some (33, false), .fldA 3 (.s 6)⟩,
⟨some 35, some (33, false), .load false 1 (.s 34)⟩,
⟨some 36, some (33, false), .call 73 [(.s 35)]⟩,
⟨some 37, none, .pick (.s 33) (.c (.pure (.bool true))) (.s 36)⟩,
⟨some 38, none, .mov (.s 37)⟩,
⟨some 39, some (38, false), .fldA 4 (.s 6)⟩,
⟨some 40, some (38, false), .load false 1 (.s 39)⟩,
⟨some 41, some (38, false), .call 73 [(.s 40)]⟩,
⟨some 42, none, .pick (.s 38) (.c (.pure (.bool true))) (.s 41)⟩])
 (.cond (.s 42)
 (.seq (.reg [⟨some 4, none, .mov (.c (.pure (.bool false)))⟩])
 .ret)
 .skip))))
 (.reg [⟨some 11, none, .mov (.s 5)⟩,
⟨some 12, none, .bin .add (.s 11) (.c (.pure (.int .i64 1)))⟩,
⟨some 5, none, .mov (.s 12)⟩])))
def c51 : AC :=
 (.seq (.reg [⟨some 2, none, .box (.s 0)⟩,
⟨some 4, none, .mov (.c (.pure (.bool false)))⟩])
 (.seq (.seq (.reg [⟨some 5, none, .mov (.c (.pure (.int .i64 0)))⟩])
 (.block 0
 (.loop c51_1)))
 c51_0))
theorem k51 : OkF 51 Try.f51 c51 [.t 4] 43 := ⟨Try.func51, by kernel_rfl, by kernel_rfl, by kernel_rfl, Try.ntmps51⟩
/-! typecase/typecaselaw35.may -/
def c29 : AC :=
 (.seq (.reg [⟨some 2, none, .box (.s 0)⟩,
⟨some 4, none, .mov (.c (.pure (.bool false)))⟩])
 (.seq (.reg [⟨some 5, none, .fldA 1 (.s 2)⟩,
⟨some 6, none, .load false 1 (.s 5)⟩,
⟨some 7, none, .len (.s 6)⟩,
⟨some 8, none, .bin .leq (.s 7) (.c (.pure (.int .i64 60)))⟩,
⟨some 9, none, .mov (.s 8)⟩,
⟨some 10, some (9, true), .fldA 3 (.s 2)⟩,
⟨some 11, some (9, true), .load false 1 (.s 10)⟩,
⟨some 12, some (9, true), .len (.s 11)⟩,
⟨some 13, some (9, true), .bin .leq (.s 12) (.c (.pure (.int .i64 8)))⟩,
⟨some 14, none, .pick (.s 9) (.s 13) (.c (.pure (.bool false)))⟩,
⟨some 15, none, .mov (.s 14)⟩,
⟨some 16, some (15, true), .mov (.s 1)⟩,
⟨some 17, some (15, true), .len (.s 16)⟩,
⟨some 18, some (15, true), .bin .leq (.s 17) (.c (.pure (.int .i64 16)))⟩,
⟨some 19, none, .pick (.s 15) (.s 18) (.c (.pure (.bool false)))⟩,
⟨some 20, none, .mov (.s 19)⟩,
⟨some 21, some (20, true), .load true 6 (.s 2)⟩,
⟨some 22, some (20, true), .call 33 [(.s 21)]⟩,
⟨some 23, some (20, true), .bin .eql (.s 22) (.c (.pure (.int .i64 0)))⟩,
⟨some 24, none, .pick (.s 20) (.s 23) (.c (.pure (.bool false)))⟩,
⟨some 25, none, .mov (.s 24)⟩,
⟨some 26, some (25, true), .load true 6 (.s 2)⟩,
⟨some 27, some (25, true), .mov (.s 1)⟩,
⟨some 28, some (25, true), .call 51 [(.s 26), (.s 27)]⟩,
⟨some 29, none, .pick (.s 25) (.s 28) (.c (.pure (.bool false)))⟩,
⟨some 4, none, .mov (.s 29)⟩])
 .ret))
theorem k29 : OkF 29 Try.f29 c29 [.t 4] 30 := ⟨Try.func29, by kernel_rfl, by kernel_rfl, by kernel_rfl, Try.ntmps29⟩
/-! typecase/typecaselaw35.steps -/
def c31_0 : AC :=
 (.seq (.reg [⟨some 25, none, .mov (.s 3)⟩,
⟨some 2, none, .mov (.s 25)⟩])
 .ret)
def c31_1 : AC :=
 (.seq (.seq (.reg [⟨some 5, none, .mov (.s 4)⟩,
⟨some 6, none, .mov (.s 0)⟩,
⟨some 7, none, .len (.s 6)⟩,
⟨some 8, none, .bin .lss (.s 5) (.s 7)⟩])
 (.cond (.s 8)
 .skip
 (.exit 0)))
 (.seq (.block 1
 (.regq [⟨some 11, none, .mov (.s 3)⟩,
⟨some 12, none, .mov (.s 0)⟩,
⟨some 13, none, .mov (.s 4)⟩,
⟨some 14, none, .idxA 2 (.s 12) (.s 13)⟩,
⟨some 15, none, .fldA 0 (.s 14)⟩,
⟨some 16, none, .load false 1 (.s 15)⟩,
⟨some 17, none, .mov (.s 0)⟩,
⟨some 18, none, .mov (.s 4)⟩,
⟨some 19, none, .idxA 2 (.s 17) (.s 18)⟩,
⟨some 20, none, .fldA 1 (.s 19)⟩,
⟨some 21, none, .load false 1 (.s 20)⟩,
⟨some 22, none, .build [(.pure (.int .i64 0)), (.pure (.int .i64 0))] [(0, 1, (.s 16)), (1, 1, (.s 21))]⟩,
⟨some 23, none, .bslice 2 [(.s 22)]⟩]
[⟨some 24, none, .app 2 16 (.s 11) (.s 23)⟩,
⟨some 3, none, .mov (.s 24)⟩]))
 (.reg [⟨some 9, none, .mov (.s 4)⟩,
⟨some 10, none, .bin .add (.s 9) (.c (.pure (.int .i64 1)))⟩,
⟨some 4, none, .mov (.s 10)⟩])))
def c31 : AC :=
 (.seq (.reg [⟨some 2, none, .mov (.c .empty)⟩])
 (.seq (.reg [⟨some 3, none, .mov (.c .empty)⟩])
 (.seq (.seq (.reg [⟨some 4, none, .mov (.c (.pure (.int .i64 0)))⟩])
 (.block 0
 (.loop c31_1)))
 c31_0)))
theorem k31 : OkF 31 Try.f31 c31 [.t 2] 26 := ⟨Try.func31, by kernel_rfl, by kernel_rfl, by kernel_rfl, Try.ntmps31⟩
def far30 (n : Int) : Bool := decide (n < -1073741824) || decide (n > 1073741824)
theorem far35_q (n : Int) : FnQ Try.prog 73 [I n] [.bool (far30 n)] := by
 refine k73.q (by simp) ?_
 unfold c73
 have ho : far30 n = (decide (n < -1073741824) || decide (n > 1073741824)) := rfl
 generalize far30 n = out at *
 simp -implicitDefEqProofs only [vmp,↓vmd,seval]
 refine onB_dec (fun h1 => ?_) (fun h1 => ?_)
 ·rw [decide_eq_true h1, Bool.true_or] at ho
  subst ho
  (first | apply envO | apply envQ); simp -implicitDefEqProofs only [h1, vmp,↓vmd,seval]; rfl
  simp -implicitDefEqProofs only [h1, vmp,↓vmd,seval]
  exact gives_pure
 ·rw [decide_eq_false h1, Bool.false_or] at ho
  subst ho
  (first | apply envO | apply envQ); simp -implicitDefEqProofs only [h1, vmp,↓vmd,seval]; rfl
  simp -implicitDefEqProofs only [h1, vmp,↓vmd,seval]
  exact gives_pure
def badG (F : Ff) (g : Gl) : Bool := decide (g.id < 0) || decide ((F.gs.length : Int) ≤ g.id) || far30 g.adv || far30 g.dx || far30 g.dy
def right35 (F : Ff) (ls : List Gl) : Bool := !(ls.any (badG F))
theorem right35_q (F : Ff) (ls : List Gl) : FnQ Try.prog 51 [ffV F, .sl (ls.map gl)] [.bool (right35 F ls)] := by
 refine k51.q (by simp) ?_
 unfold c51
 have ho : (!(ls.any (badG F))) = right35 F ls := rfl
 generalize right35 F ls = out at *
 simp -implicitDefEqProofs only [vmp,↓vmd,seval]
 refine loop_at (T := Nat) (fun i => [(5, .pure (I (i : Int))), (1, .pure (.sl (ls.map gl))), (2, .ptr 0 0 0)]) (fun _ => [⟨[.pure (ffV F)], 6, .live⟩]) (fun i => i ≤ ls.length ∧ (!((ls.drop i).any (badG F))) = out) (fun i => ls.length - i)
  0 [0] (by simp) rfl ⟨by simp, by simpa using ho⟩ (by simp -implicitDefEqProofs only [kpp,seval]) (by simp -implicitDefEqProofs only [kpp,seval]) ?_
 rintro i ⟨hi, hr⟩
 unfold c51_1
 simp -implicitDefEqProofs only [vmp,↓vmd,seval]
 refine onIf_intro fun _ => ?_
 (first | apply envO | apply envQ); simp -implicitDefEqProofs only [vmp,↓vmd,seval]; rfl
 simp -implicitDefEqProofs only [vmp,↓vmd,seval]
 refine onB_dec (fun h1 => ?_) (fun h1 => ?_)
 ·have hlt : i < ls.length := by omega
  rw [drop_at hlt, List.any_cons, badG] at hr
  have hgi : (ls.map gl)[i]? = some (gl ls[i]) := map_at hlt
  generalize ls[i] = g at hr hgi
  have f1 := far35_q g.adv
  have f2 := far35_q g.dx
  have f3 := far35_q g.dy
  generalize far30 g.adv = b1 at *
  generalize far30 g.dx = b2 at *
  generalize far30 g.dy = b3 at *
  simp -implicitDefEqProofs only [h1, hgi, Int.natCast_nonneg, vmp,↓vmd,seval]
  refine onB_dec (fun h2 => ?_) (fun h2 => ?_)
  ·rw [decide_eq_true h2] at hr
   simp only [Bool.true_or, Bool.not_true] at hr
   subst hr
   (first | apply envO | apply envQ); simp -implicitDefEqProofs only [h2, vmp,↓vmd,seval]; rfl
   simp -implicitDefEqProofs only [h2, vmp,↓vmd,seval]
   exact gives_pure
  rw [decide_eq_false h2] at hr
  (first | apply envO | apply envQ); simp -implicitDefEqProofs only [h2, vmp,↓vmd,seval]; rfl
  simp -implicitDefEqProofs only [h2, vmp,↓vmd,seval]
  refine onIf_intro fun _ => ?_
  (first | apply envO | apply envQ); simp -implicitDefEqProofs only [h2, vmp,↓vmd,seval]; rfl
  simp -implicitDefEqProofs only [h2, vmp,↓vmd,seval]
  refine onB_dec (fun h3 => ?_) (fun h3 => ?_)
  ·rw [decide_eq_true h3] at hr
   simp only [Bool.true_or, Bool.or_true, Bool.not_true] at hr
   subst hr
   (first | apply envO | apply envQ); simp -implicitDefEqProofs only [h3, vmp,↓vmd,seval]; rfl
   simp -implicitDefEqProofs only [h3, vmp,↓vmd,seval]
   exact gives_pure
  rw [decide_eq_false h3] at hr
  (first | apply envO | apply envQ); simp -implicitDefEqProofs only [h3, vmp,↓vmd,seval]; rfl
  simp -implicitDefEqProofs only [h3, vmp,↓vmd,seval]
  first | refine onC_q f1 rfl ?_ | refine onQ_q f1 rfl ?_
  cases b1 with
  | true =>
   simp only [Bool.true_or, Bool.or_true, Bool.not_true] at hr
   subst hr
   (first | apply envO | apply envQ); simp -implicitDefEqProofs only [vmp,↓vmd,seval]; rfl
   simp -implicitDefEqProofs only [vmp,↓vmd,seval]
   exact gives_pure
  | false =>
   (first | apply envO | apply envQ); simp -implicitDefEqProofs only [vmp,↓vmd,seval]; rfl
   simp -implicitDefEqProofs only [vmp,↓vmd,seval]
   first | refine onC_q f2 rfl ?_ | refine onQ_q f2 rfl ?_
   cases b2 with
   | true =>
    simp only [Bool.true_or, Bool.or_true, Bool.not_true] at hr
    subst hr
    (first | apply envO | apply envQ); simp -implicitDefEqProofs only [vmp,↓vmd,seval]; rfl
    simp -implicitDefEqProofs only [vmp,↓vmd,seval]
    exact gives_pure
   | false =>
    (first | apply envO | apply envQ); simp -implicitDefEqProofs only [vmp,↓vmd,seval]; rfl
    simp -implicitDefEqProofs only [vmp,↓vmd,seval]
    first | refine onC_q f3 rfl ?_ | refine onQ_q f3 rfl ?_
    cases b3 with
    | true =>
     simp only [Bool.true_or, Bool.or_true, Bool.not_true] at hr
     subst hr
     (first | apply envO | apply envQ); simp -implicitDefEqProofs only [vmp,↓vmd,seval]; rfl
     simp -implicitDefEqProofs only [vmp,↓vmd,seval]
     exact gives_pure
    | false =>
     simp only [Bool.false_or] at hr
     (first | apply envO | apply envQ); simp -implicitDefEqProofs only [vmp,↓vmd,seval]; rfl
     simp -implicitDefEqProofs only [vmp,↓vmd,seval]
     refine onBk_to (i + 1) [0] (by simp) rfl (by omega) ⟨hlt, hr⟩ (by simp -implicitDefEqProofs only [next_at hlt (by omega), kpp,seval]) (by simp -implicitDefEqProofs only [kpp,seval])
 ·rw [List.drop_of_length_le (by omega)] at hr
  subst hr
  simp -implicitDefEqProofs only [h1, vmp,↓vmd,seval]
  unfold c51_0
  simp -implicitDefEqProofs only [vmp,↓vmd,seval]
  exact gives_pure
def mayF (F : Ff) (ls : List Gl) : Bool := decide (F.gs.length ≤ 60) && decide (F.lks.length ≤ 8) && decide (ls.length ≤ 16) && decide (checkF F = 0) && right35 F ls
theorem may_q (F : Ff) (ls : List Gl) : FnQ Try.prog 29 [ffV F, .sl (ls.map gl)] [.bool (mayF F ls)] := by
 refine k29.q (by simp) ?_
 unfold c29
 have ho : (decide (F.gs.length ≤ 60) && decide (F.lks.length ≤ 8) && decide (ls.length ≤ 16) && decide (checkF F = 0) && right35 F ls) = mayF F ls := rfl
 generalize mayF F ls = out at *
 simp -implicitDefEqProofs only [vmp,↓vmd,seval]
 refine onIf_intro fun _ => ?_
 (first | apply envO | apply envQ); simp -implicitDefEqProofs only [vmp,↓vmd,seval]; rfl
 simp -implicitDefEqProofs only [vmp,↓vmd,seval]
 by_cases h1 : (F.gs.length : Int) ≤ 60
 ·rw [decide_eq_true (show F.gs.length ≤ 60 by omega)] at ho
  refine onB_pos h1 ?_
  (first | apply envO | apply envQ); simp -implicitDefEqProofs only [h1, vmp,↓vmd,seval]; rfl
  simp -implicitDefEqProofs only [h1, vmp,↓vmd,seval]
  refine onIf_intro fun _ => ?_
  (first | apply envO | apply envQ); simp -implicitDefEqProofs only [h1, vmp,↓vmd,seval]; rfl
  simp -implicitDefEqProofs only [h1, vmp,↓vmd,seval]
  by_cases h2 : (F.lks.length : Int) ≤ 8
  ·rw [decide_eq_true (show F.lks.length ≤ 8 by omega)] at ho
   refine onB_pos h2 ?_
   (first | apply envO | apply envQ); simp -implicitDefEqProofs only [h2, vmp,↓vmd,seval]; rfl
   simp -implicitDefEqProofs only [h2, vmp,↓vmd,seval]
   refine onIf_intro fun _ => ?_
   (first | apply envO | apply envQ); simp -implicitDefEqProofs only [h2, vmp,↓vmd,seval]; rfl
   simp -implicitDefEqProofs only [h2, vmp,↓vmd,seval]
   by_cases h3 : (ls.length : Int) ≤ 16
   ·rw [decide_eq_true (show ls.length ≤ 16 by omega)] at ho
    refine onB_pos h3 ?_
    (first | apply envO | apply envQ); simp -implicitDefEqProofs only [h3, vmp,↓vmd,seval]; rfl
    simp -implicitDefEqProofs only [h3, vmp,↓vmd,seval]
    refine onC_q (check_q F) rfl ?_
    generalize checkF F = c at *
    by_cases h4 : c = 0
    ·rw [decide_eq_true h4] at ho
     simp only [Bool.true_and] at ho
     (first | apply envO | apply envQ); simp -implicitDefEqProofs only [h4, vmp,↓vmd,seval]; rfl
     simp -implicitDefEqProofs only [h4, vmp,↓vmd,seval]
     refine onC_q (right35_q F ls) rfl ?_
     rw [ho]
     (first | apply envO | apply envQ); simp -implicitDefEqProofs only [h4, vmp,↓vmd,seval]; rfl
     simp -implicitDefEqProofs only [h4, vmp,↓vmd,seval]
     exact gives_pure
    ·rw [decide_eq_false h4] at ho
     simp only [Bool.and_false, Bool.false_and] at ho
     subst ho
     (first | apply envO | apply envQ); simp -implicitDefEqProofs only [h4, vmp,↓vmd,seval]; rfl
     simp -implicitDefEqProofs only [h4, vmp,↓vmd,seval]
     exact gives_pure
   ·rw [decide_eq_false (show ¬ ls.length ≤ 16 by omega)] at ho
    simp only [Bool.and_false, Bool.false_and] at ho
    subst ho
    refine onB_neg h3 ?_
    (first | apply envO | apply envQ); simp -implicitDefEqProofs only [h3, vmp,↓vmd,seval]; rfl
    simp -implicitDefEqProofs only [h3, vmp,↓vmd,seval]
    exact gives_pure
  ·rw [decide_eq_false (show ¬ F.lks.length ≤ 8 by omega)] at ho
   simp only [Bool.and_false, Bool.false_and] at ho
   subst ho
   refine onB_neg h2 ?_
   (first | apply envO | apply envQ); simp -implicitDefEqProofs only [h2, vmp,↓vmd,seval]; rfl
   simp -implicitDefEqProofs only [h2, vmp,↓vmd,seval]
   exact gives_pure
 ·rw [decide_eq_false (show ¬ F.gs.length ≤ 60 by omega)] at ho
  simp only [Bool.and_false, Bool.false_and] at ho
  subst ho
  refine onB_neg h1 ?_
  (first | apply envO | apply envQ); simp -implicitDefEqProofs only [h1, vmp,↓vmd,seval]; rfl
  simp -implicitDefEqProofs only [h1, vmp,↓vmd,seval]
  exact gives_pure
theorem may_of {F : Ff} {ls : List Gl} (h : mayF F ls = true) : ls.length ≤ 16 ∧ F.lks.length ≤ 8 ∧ ∀ k ∈ F.lks, PosK k := by
 simp only [mayF, Bool.and_eq_true, decide_eq_true_eq] at h
 obtain ⟨⟨⟨⟨_, h1⟩, h2⟩, h3⟩, _⟩ := h
 have hc : checkB F = true := by simpa [checkF] using h3
 refine ⟨h2, h1, fun k hk => ?_⟩
 have hs := (checkB_sub hc hk).2
 refine ⟨fun e => ?_, fun e s hm => ?_, fun e s hm => ?_⟩
 ·have g : ∀ s ∈ k.subs, aroundB F k s = true := fun s hm => by
   have := (hs s hm).2
   rw [kindB, if_neg (by omega), if_neg (by omega), if_neg (by omega), if_pos (by omega)] at this
   exact this
  refine ⟨fun s hm => ?_, fun s hm => ?_⟩
  ·have := g s hm
   simp only [aroundB, coversB, Bool.and_eq_true, withB_iff, decide_eq_true_eq] at this
   omega
  ·have := g s hm
   simp only [aroundB, Bool.and_eq_true, decide_eq_true_eq] at this
   omega
 ·have := (hs s hm).2
  rw [kindB, if_neg (by omega), if_neg (by omega), if_neg (by omega), if_neg (by omega), if_neg (by omega), if_neg (by omega), if_neg (by omega), if_neg (by omega)] at this
  simp only [marksB, Bool.and_eq_true, decide_eq_true_eq] at this
  omega
 ·rcases e with e | e
  ·have := (hs s hm).2
   rw [kindB, if_neg (by omega), if_neg (by omega), if_neg (by omega), if_neg (by omega), if_neg (by omega), if_pos e] at this
   simp only [coverB, Bool.and_eq_true, decide_eq_true_eq] at this
   omega
  ·have := (hs s hm).1
   simp [bareB, kCov, e] at this
   have h0 := this.1.1.1.1.1.1.1
   rw [h0]
   simp
theorem steps_q (ts : List Stp) (hl : ts.length ≤ 1000) : FnQ Try.prog 31 [.sl (ts.map stp)] [.sl (ts.map stp)] := by
 refine k31.q (by simp) ?_
 unfold c31
 simp -implicitDefEqProofs only [vmp,↓vmd,seval]
 refine loop_virt 3 2 rfl (by simp) ?_
 refine loop_at (T := Nat) (fun i => [(4, .pure (I (i : Int))), (0, .pure (.sl (ts.map stp))), (3, .rsl 0 0 (ts.take i).length)]) (fun i => [⟨((ts.take i).map stp).map .pure, 2, .live⟩]) (fun i => i ≤ ts.length) (fun i => ts.length - i)
  0 [0] (by simp) rfl (by simp) (by simp -implicitDefEqProofs only [List.take_zero, kpp,seval]) (by simp -implicitDefEqProofs only [List.take_zero, kpp,seval]) ?_
 intro i hi
 have hi' : (ts.take i).length = i := by simp; omega
 unfold c31_1
 simp -implicitDefEqProofs only [vmp,↓vmd,seval]
 refine onIf_intro fun _ => ?_
 (first | apply envO | apply envQ); simp -implicitDefEqProofs only [vmp,↓vmd,seval]; rfl
 simp -implicitDefEqProofs only [vmp,↓vmd,seval]
 refine onB_dec (fun h1 => ?_) (fun h1 => ?_)
 ·have hlt : i < ts.length := by omega
  have hgi : (ts.map stp)[i]? = some (stp ts[i]) := map_at hlt
  have hs' := List.take_succ_eq_append_getElem hlt
  generalize ts[i] = g at hgi hs'
  simp -implicitDefEqProofs only [h1, hgi, Int.natCast_nonneg, vmp,↓vmd,seval]
  refine onIf'_intro (appOk_one rfl rfl (by simp) (by omega) (by simp [maxLen]; omega)) ?_
  (first | apply envO | apply envQ); simp -implicitDefEqProofs only [vmp,↓vmd,seval]; rfl
  simp -implicitDefEqProofs only [vmp,↓vmd,seval]
  refine onBk_to (i + 1) [2] (by simp) rfl (by omega) hlt (by simp -implicitDefEqProofs only [next_at hlt (by omega), hs', kpp,seval]) (by simp -implicitDefEqProofs only [hs', kpp,seval])
 ·rw [List.take_of_length_le (by omega)]
  simp -implicitDefEqProofs only [h1, vmp,↓vmd,seval]
  unfold c31_0
  simp -implicitDefEqProofs only [vmp,↓vmd,seval]
  exact gives_row rfl (by simp)
end Go.Proofs.Ytcjmkpkhjhjepaa.W
