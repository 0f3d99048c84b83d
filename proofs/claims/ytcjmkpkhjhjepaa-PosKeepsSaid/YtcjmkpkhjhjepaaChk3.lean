/-
  What a font may be: the document's functions, of pairs, hanging glyphs and marks. No condition.
-/
import Derived.Test.YtcjmkpkhjhjepaaChk2
namespace Go.Proofs.Ytcjmkpkhjhjepaa.W
open Go Go.Vm Go.Proofs
set_option maxRecDepth 100000
set_option linter.unusedSimpArgs false
set_option maxHeartbeats 4000000
/-! typecase/typecaseref21.pairs -/
def c98_0 : AC :=
 (.seq (.reg [⟨some 76, none, .mov (.s 1)⟩,
⟨some 77, none, .len (.s 76)⟩,
⟨some 78, none, .bin .leq (.s 77) (.c (.pure (.int .i64 4096)))⟩,
⟨some 4, none, .mov (.s 78)⟩])
 .ret)
def c98_1 : AC :=
 (.seq (.seq (.reg [⟨some 7, none, .mov (.s 5)⟩,
⟨some 8, none, .mov (.s 1)⟩,
⟨some 9, none, .len (.s 8)⟩,
⟨some 10, none, .bin .lss (.s 7) (.s 9)⟩])
 (.cond (.s 10)
 .skip
 (.exit 0)))
 (.seq (.block 1
 (.seq (.reg [⟨some 13, none, .mov (.s 1)⟩,
⟨some 14, none, .mov (.s 5)⟩,
⟨some 15, none, .idxA 8 (.s 13) (.s 14)⟩,
⟨some 16, none, .load true 8 (.s 15)⟩,
⟨some 6, none, .box (.c (.pure (.agg [(.int .i64 0), (.int .i64 0), (.int .i64 0), (.int .i64 0), (.int .i64 0), (.int .i64 0), (.int .i64 0), (.int .i64 0)])))⟩,
⟨none, none, .store 8 (.s 6) (.s 16)⟩])
 (.seq (.seq (.reg [⟨some 17, none, .load true 6 (.s 2)⟩,
⟨some 18, none, .fldA 0 (.s 6)⟩,
⟨some 19, none, .load false 1 (.s 18)⟩,
⟨some 20, none, .call 79 [(.s 17), (.s 19)]⟩,
⟨some 21, none, .un .not (.s 20)⟩,
⟨some 22, none, .mov (.s 21)⟩,
⟨some 23, some (22, false), .load true 6 (.s 2)⟩,
⟨some 24, some (22, false), .fldA 1 (.s 6)⟩,
⟨some 25, some (22, false), .load false 1 (.s 24)⟩,
⟨some 26, some (22, false), .call 79 [(.s 23), (.s 25)]⟩,
⟨some 27, some (22, false), .un .not (.s 26)⟩,
⟨some 28, none, .pick (.s 22) (.c (.pure (.bool true))) (.s 27)⟩,
⟨some 29, none, .mov (.s 28)⟩,
⟨some 30, some (29, false), .fldA 2 (.s 6)⟩,
⟨some 31, some (29, false), .load true 3 (.s 30)⟩,
⟨some 32, some (29, false), .call 97 [(.s 31)]⟩,
⟨some 33, some (29, false), .un .not (.s 32)⟩,
⟨some 34, none, .pick (.s 29) (.c (.pure (.bool true))) (.s 33)⟩,
⟨some 35, none, .mov (.s 34)⟩,
⟨some 36, some (35, false), .fldA 5 (.s 6)⟩,
⟨some 37, some (35, false), .load true 3 (.s 36)⟩,
⟨some 38, some (35, false), .call 97 [(.s 37)]⟩,
⟨some 39, some (35, false), .un .not (.s 38)⟩,
⟨some 40, none, .pick (.s 35) (.c (.pure (.bool true))) (.s 39)⟩])
 (.cond (.s 40)
 (.seq (.reg [⟨some 4, none, .mov (.c (.pure (.bool false)))⟩])
 .ret)
 .skip))
 (.seq (.regq [⟨some 41, none, .mov (.s 5)⟩,
⟨some 42, none, .bin .gtr (.s 41) (.c (.pure (.int .i64 0)))⟩,
⟨some 43, none, .mov (.s 42)⟩,
⟨some 44, some (43, true), .fldA 0 (.s 6)⟩,
⟨some 45, some (43, true), .load false 1 (.s 44)⟩,
⟨some 46, some (43, true), .mov (.s 1)⟩,
⟨some 47, some (43, true), .mov (.s 5)⟩,
⟨some 48, some (43, true), .bin .sub (.s 47) (.c (.pure (.int .i64 1)))⟩,
⟨some 49, some (43, true), .idxA 8 (.s 46) (.s 48)⟩,
⟨some 50, some (43, true), .fldA 0 (.s 49)⟩,
⟨some 51, some (43, true), .load false 1 (.s 50)⟩,
⟨some 52, some (43, true), .bin .lss (.s 45) (.s 51)⟩,
⟨some 53, some (43, true), .mov (.s 52)⟩,
⟨some 54, some (53, false), .fldA 0 (.s 6)⟩,
⟨some 55, some (53, false), .load false 1 (.s 54)⟩,
⟨some 56, some (53, false), .mov (.s 1)⟩,
⟨some 57, some (53, false), .mov (.s 5)⟩,
⟨some 58, some (53, false), .bin .sub (.s 57) (.c (.pure (.int .i64 1)))⟩,
⟨some 59, some (53, false), .idxA 8 (.s 56) (.s 58)⟩,
⟨some 60, some (53, false), .fldA 0 (.s 59)⟩,
⟨some 61, some (53, false), .load false 1 (.s 60)⟩,
⟨some 62, some (53, false), .bin .eql (.s 55) (.s 61)⟩,
⟨some 63, some (53, false), .mov (.s 62)⟩,
⟨some 64, some (63, true), .fldA 1 (.s 6)⟩,
⟨some 65, some (63, true), .load false 1 (.s 64)⟩,
⟨some 66, some (63, true), .mov (.s 1)⟩,
⟨some 67, some (63, true), .mov (.s 5)⟩,
⟨some 68, some (63, true), .bin .sub (.s 67) (.c (.pure (.int .i64 1)))⟩,
⟨some 69, some (63, true), .idxA 8 (.s 66) (.s 68)⟩,
⟨some 70, some (63, true), .fldA 1 (.s 69)⟩,
⟨some 71, some (63, true), .load false 1 (.s 70)⟩]
[⟨some 72, some (63, true), .bin .leq (.s 65) (.s 71)⟩,
⟨some 73, some (53, false), .pick (.s 63) (.s 72) (.c (.pure (.bool false)))⟩,
⟨some 74, some (43, true), .pick (.s 53) (.c (.pure (.bool true))) (.s 73)⟩,
⟨some 75, none, .pick (.s 43) (.s 74) (.c (.pure (.bool false)))⟩])
 (.cond (.s 75)
 (.seq (.reg [⟨some 4, none, .mov (.c (.pure (.bool false)))⟩])
 .ret)
 .skip)))))
 (.reg [⟨some 11, none, .mov (.s 5)⟩,
⟨some 12, none, .bin .add (.s 11) (.c (.pure (.int .i64 1)))⟩,
⟨some 5, none, .mov (.s 12)⟩])))
def c98 : AC :=
 (.seq (.reg [⟨some 2, none, .box (.s 0)⟩,
⟨some 4, none, .mov (.c (.pure (.bool false)))⟩])
 (.seq (.seq (.reg [⟨some 5, none, .mov (.c (.pure (.int .i64 0)))⟩])
 (.block 0
 (.loop c98_1)))
 c98_0))
theorem k98 : OkF 98 Try.f98 c98 [.t 4] 79 := ⟨Try.func98, by kernel_rfl, by kernel_rfl, by kernel_rfl, Try.ntmps98⟩
/-! typecase/typecaseref21.curs -/
def c99_0 : AC :=
 (.seq (.reg [⟨some 53, none, .mov (.s 1)⟩,
⟨some 54, none, .len (.s 53)⟩,
⟨some 55, none, .bin .leq (.s 54) (.c (.pure (.int .i64 4096)))⟩,
⟨some 4, none, .mov (.s 55)⟩])
 .ret)
def c99_1 : AC :=
 (.seq (.seq (.reg [⟨some 7, none, .mov (.s 5)⟩,
⟨some 8, none, .mov (.s 1)⟩,
⟨some 9, none, .len (.s 8)⟩,
⟨some 10, none, .bin .lss (.s 7) (.s 9)⟩])
 (.cond (.s 10)
 .skip
 (.exit 0)))
 (.seq (.block 1
 (.seq (.reg [⟨some 13, none, .mov (.s 1)⟩,
⟨some 14, none, .mov (.s 5)⟩,
⟨some 15, none, .idxA 7 (.s 13) (.s 14)⟩,
⟨some 16, none, .load true 7 (.s 15)⟩,
⟨some 6, none, .box (.c (.pure (.agg [(.int .i64 0), (.bool false), (.bool false), (.int .i64 0), (.int .i64 0), (.int .i64 0), (.int .i64 0)])))⟩,
⟨none, none, .store 7 (.s 6) (.s 16)⟩])
 (.seq (.regq [⟨some 17, none, .load true 6 (.s 2)⟩,
⟨some 18, none, .fldA 0 (.s 6)⟩,
⟨some 19, none, .load false 1 (.s 18)⟩,
⟨some 20, none, .call 79 [(.s 17), (.s 19)]⟩,
⟨some 21, none, .un .not (.s 20)⟩,
⟨some 22, none, .mov (.s 21)⟩,
⟨some 23, some (22, false), .fldA 3 (.s 6)⟩,
⟨some 24, some (22, false), .load true 2 (.s 23)⟩,
⟨some 25, some (22, false), .fldA 1 (.s 6)⟩,
⟨some 26, some (22, false), .load false 1 (.s 25)⟩,
⟨some 27, some (22, false), .call 107 [(.s 24), (.s 26)]⟩,
⟨some 28, some (22, false), .un .not (.s 27)⟩,
⟨some 29, none, .pick (.s 22) (.c (.pure (.bool true))) (.s 28)⟩,
⟨some 30, none, .mov (.s 29)⟩,
⟨some 31, some (30, false), .fldA 5 (.s 6)⟩,
⟨some 32, some (30, false), .load true 2 (.s 31)⟩,
⟨some 33, some (30, false), .fldA 2 (.s 6)⟩,
⟨some 34, some (30, false), .load false 1 (.s 33)⟩,
⟨some 35, some (30, false), .call 107 [(.s 32), (.s 34)]⟩,
⟨some 36, some (30, false), .un .not (.s 35)⟩,
⟨some 37, none, .pick (.s 30) (.c (.pure (.bool true))) (.s 36)⟩,
⟨some 38, none, .mov (.s 37)⟩,
⟨some 39, some (38, false), .mov (.s 5)⟩,
⟨some 40, some (38, false), .bin .gtr (.s 39) (.c (.pure (.int .i64 0)))⟩,
⟨some 41, some (38, false), .mov (.s 40)⟩,
⟨some 42, some (41, true), .fldA 0 (.s 6)⟩,
⟨some 43, some (41, true), .load false 1 (.s 42)⟩,
⟨some 44, some (41, true), .mov (.s 1)⟩,
⟨some 45, some (41, true), .mov (.s 5)⟩,
⟨some 46, some (41, true), .bin .sub (.s 45) (.c (.pure (.int .i64 1)))⟩,
⟨some 47, some (41, true), .idxA 7 (.s 44) (.s 46)⟩,
⟨some 48, some (41, true), .fldA 0 (.s 47)⟩,
⟨some 49, some (41, true), .load false 1 (.s 48)⟩]
[⟨some 50, some (41, true), .bin .leq (.s 43) (.s 49)⟩,
⟨some 51, some (38, false), .pick (.s 41) (.s 50) (.c (.pure (.bool false)))⟩,
⟨some 52, none, .pick (.s 38) (.c (.pure (.bool true))) (.s 51)⟩])
 (.cond (.s 52)
 (.seq (.reg [⟨some 4, none, .mov (.c (.pure (.bool false)))⟩])
 .ret)
 .skip))))
 (.reg [⟨some 11, none, .mov (.s 5)⟩,
⟨some 12, none, .bin .add (.s 11) (.c (.pure (.int .i64 1)))⟩,
⟨some 5, none, .mov (.s 12)⟩])))
def c99 : AC :=
 (.seq (.reg [⟨some 2, none, .box (.s 0)⟩,
⟨some 4, none, .mov (.c (.pure (.bool false)))⟩])
 (.seq (.seq (.reg [⟨some 5, none, .mov (.c (.pure (.int .i64 0)))⟩])
 (.block 0
 (.loop c99_1)))
 c99_0))
theorem k99 : OkF 99 Try.f99 c99 [.t 4] 56 := ⟨Try.func99, by kernel_rfl, by kernel_rfl, by kernel_rfl, Try.ntmps99⟩
theorem prAt_eq {l : List Pr} {i : Nat} (h : i < l.length) : (l.map pr)[i]? = some (pr (prAt l i)) := by
 rw [List.getElem?_map, prAt, List.getElem?_eq_getElem h]; rfl
theorem cuAt_eq {l : List Cu} {i : Nat} (h : i < l.length) : (l.map cu)[i]? = some (cu (cuAt l i)) := by
 rw [List.getElem?_map, cuAt, List.getElem?_eq_getElem h]; rfl
theorem mkAt_eq {l : List Mk} {i : Nat} (h : i < l.length) : (l.map mk)[i]? = some (mk (mkAt l i)) := by
 rw [List.getElem?_map, mkAt, List.getElem?_eq_getElem h]; rfl
theorem hoAt_eq {l : List Ho} {i : Nat} (h : i < l.length) : (l.map ho)[i]? = some (ho (hoAt l i)) := by
 rw [List.getElem?_map, hoAt, List.getElem?_eq_getElem h]; rfl
theorem pairs_q (F : Ff) (l : List Pr) : FnQ Try.prog 98 [ffV F, .sl (l.map pr)] [.bool (pairsB F l)] := by
 refine k98.q (by simp) ?_
 unfold c98
 have hr : (allFrom (pairB F l) l.length 0 && decide (l.length ≤ 4096)) = pairsB F l := rfl
 generalize pairsB F l = out at *
 simp -implicitDefEqProofs only [vmp,↓vmd,seval]
 refine loop_at (T := Nat) (fun i => [(5, .pure (I (i : Int))), (1, .pure (.sl (l.map pr))), (2, .ptr 0 0 0)]) (fun _ => [⟨[.pure (ffV F)], 6, .live⟩]) (fun i => i ≤ l.length ∧ (allFrom (pairB F l) (l.length - i) i && decide (l.length ≤ 4096)) = out) (fun i => l.length - i)
  0 [0] (by simp) rfl ⟨by simp, hr⟩ (by simp -implicitDefEqProofs only [kpp,seval]) (by simp -implicitDefEqProofs only [kpp,seval]) ?_
 rintro i ⟨hi, hr⟩
 unfold c98_1
 simp -implicitDefEqProofs only [vmp,↓vmd,seval]
 refine onIf_intro fun _ => ?_
 (first | apply envO | apply envQ); simp -implicitDefEqProofs only [vmp,↓vmd,seval]; rfl
 simp -implicitDefEqProofs only [vmp,↓vmd,seval]
 refine onB_dec (fun h1 => ?_) (fun h1 => ?_)
 ·have hlt : i < l.length := by omega
  rw [allFrom_step hlt, pairB] at hr
  have hgi : (l.map pr)[i]? = some (pr (prAt l i)) := prAt_eq hlt
  simp -implicitDefEqProofs only [h1, hgi, Int.natCast_nonneg, vmp,↓vmd,seval]
  refine onC_q (there_q F (prAt l i).a) rfl ?_
  generalize thereB F (prAt l i).a = b at *
  cases b with
  | false =>
   simp only [Bool.false_and, Bool.true_and, Bool.and_false, Bool.and_true, Bool.false_or, Bool.true_or, Bool.or_false, Bool.or_true, Bool.not_true, Bool.not_false] at hr
   subst hr
   (first | apply envO | apply envQ); simp -implicitDefEqProofs only [vmp,↓vmd,seval]; rfl
   simp -implicitDefEqProofs only [vmp,↓vmd,seval]
   exact gives_pure
  | true =>
   simp only [Bool.false_and, Bool.true_and, Bool.and_false, Bool.and_true, Bool.false_or, Bool.true_or, Bool.or_false, Bool.or_true, Bool.not_true, Bool.not_false] at hr
   (first | apply envO | apply envQ); simp -implicitDefEqProofs only [vmp,↓vmd,seval]; rfl
   simp -implicitDefEqProofs only [vmp,↓vmd,seval]
   refine onC_q (there_q F (prAt l i).b) rfl ?_
   generalize thereB F (prAt l i).b = b at *
   cases b with
   | false =>
    simp only [Bool.false_and, Bool.true_and, Bool.and_false, Bool.and_true, Bool.false_or, Bool.true_or, Bool.or_false, Bool.or_true, Bool.not_true, Bool.not_false] at hr
    subst hr
    (first | apply envO | apply envQ); simp -implicitDefEqProofs only [vmp,↓vmd,seval]; rfl
    simp -implicitDefEqProofs only [vmp,↓vmd,seval]
    exact gives_pure
   | true =>
    simp only [Bool.false_and, Bool.true_and, Bool.and_false, Bool.and_true, Bool.false_or, Bool.true_or, Bool.or_false, Bool.or_true, Bool.not_true, Bool.not_false] at hr
    (first | apply envO | apply envQ); simp -implicitDefEqProofs only [vmp,↓vmd,seval]; rfl
    simp -implicitDefEqProofs only [vmp,↓vmd,seval]
    refine onC_q (value_q (prAt l i).x) rfl ?_
    generalize valueB (prAt l i).x = b at *
    cases b with
    | false =>
     simp only [Bool.false_and, Bool.true_and, Bool.and_false, Bool.and_true, Bool.false_or, Bool.true_or, Bool.or_false, Bool.or_true, Bool.not_true, Bool.not_false] at hr
     subst hr
     (first | apply envO | apply envQ); simp -implicitDefEqProofs only [vmp,↓vmd,seval]; rfl
     simp -implicitDefEqProofs only [vmp,↓vmd,seval]
     exact gives_pure
    | true =>
     simp only [Bool.false_and, Bool.true_and, Bool.and_false, Bool.and_true, Bool.false_or, Bool.true_or, Bool.or_false, Bool.or_true, Bool.not_true, Bool.not_false] at hr
     (first | apply envO | apply envQ); simp -implicitDefEqProofs only [vmp,↓vmd,seval]; rfl
     simp -implicitDefEqProofs only [vmp,↓vmd,seval]
     refine onC_q (value_q (prAt l i).y) rfl ?_
     generalize valueB (prAt l i).y = b at *
     cases b with
     | false =>
      simp only [Bool.false_and, Bool.true_and, Bool.and_false, Bool.and_true, Bool.false_or, Bool.true_or, Bool.or_false, Bool.or_true, Bool.not_true, Bool.not_false] at hr
      subst hr
      (first | apply envO | apply envQ); simp -implicitDefEqProofs only [vmp,↓vmd,seval]; rfl
      simp -implicitDefEqProofs only [vmp,↓vmd,seval]
      exact gives_pure
     | true =>
      simp only [Bool.false_and, Bool.true_and, Bool.and_false, Bool.and_true, Bool.false_or, Bool.true_or, Bool.or_false, Bool.or_true, Bool.not_true, Bool.not_false] at hr
      (first | apply envO | apply envQ); simp -implicitDefEqProofs only [vmp,↓vmd,seval]; rfl
      simp -implicitDefEqProofs only [vmp,↓vmd,seval]
      by_cases h2 : i = 0
      ·have h2' : ¬ (0 : Int) < (i : Int) := by omega
       rw [decide_eq_true h2] at hr
       simp only [Bool.false_and, Bool.true_and, Bool.and_false, Bool.and_true, Bool.false_or, Bool.true_or, Bool.or_false, Bool.or_true, Bool.not_true, Bool.not_false] at hr
       refine onB_neg h2' ?_
       (first | apply envO | apply envQ); simp -implicitDefEqProofs only [h2', vmp,↓vmd,seval]; rfl
       simp -implicitDefEqProofs only [vmp,↓vmd,seval]
       refine onBk_to (i + 1) [0] (by simp) rfl (by omega) ⟨hlt, hr⟩ (by simp -implicitDefEqProofs only [next_at hlt (by omega), kpp,seval]) (by simp -implicitDefEqProofs only [kpp,seval])
      ·have h2' : (0 : Int) < (i : Int) := by omega
       rw [decide_eq_false h2] at hr
       simp only [Bool.false_and, Bool.true_and, Bool.and_false, Bool.and_true, Bool.false_or, Bool.true_or, Bool.or_false, Bool.or_true, Bool.not_true, Bool.not_false] at hr
       have hgp : (l.map pr)[i - 1]? = some (pr (prAt l (i - 1))) := prAt_eq (by omega)
       have hw : IntKind.wrap .i64 ((i : Int) - 1) = ((i - 1 : Nat) : Int) := by rw [wrap_id (by omega) (by omega)]; omega
       refine onB_pos h2' ?_
       (first | apply envO | apply envQ); simp -implicitDefEqProofs only [h2', vmp,↓vmd,seval]; rfl
       simp -implicitDefEqProofs only [hw, hgp, Int.natCast_nonneg, Int.toNat_natCast, vmp,↓vmd,seval]
       refine onB_dec (fun h3 => ?_) (fun h3 => ?_)
       ·rw [decide_eq_true h3] at hr
        simp only [Bool.false_and, Bool.true_and, Bool.and_false, Bool.and_true, Bool.false_or, Bool.true_or, Bool.or_false, Bool.or_true, Bool.not_true, Bool.not_false] at hr
        subst hr
        (first | apply envO | apply envQ); simp -implicitDefEqProofs only [h3, vmp,↓vmd,seval]; rfl
        simp -implicitDefEqProofs only [h3, vmp,↓vmd,seval]
        exact gives_pure
       ·rw [decide_eq_false h3] at hr
        simp only [Bool.false_and, Bool.true_and, Bool.and_false, Bool.and_true, Bool.false_or, Bool.true_or, Bool.or_false, Bool.or_true, Bool.not_true, Bool.not_false] at hr
        (first | apply envO | apply envQ); simp -implicitDefEqProofs only [h3, vmp,↓vmd,seval]; rfl
        simp -implicitDefEqProofs only [hw, hgp, Int.natCast_nonneg, Int.toNat_natCast, vmp,↓vmd,seval]
        refine onB_dec (fun h4 => ?_) (fun h4 => ?_)
        ·rw [decide_eq_true h4] at hr
         simp only [Bool.false_and, Bool.true_and, Bool.and_false, Bool.and_true, Bool.false_or, Bool.true_or, Bool.or_false, Bool.or_true, Bool.not_true, Bool.not_false] at hr
         have h4d : decide ((prAt l i).a = (prAt l (i - 1)).a) = true := decide_eq_true h4
         (first | apply envO | apply envQ); simp -implicitDefEqProofs only [h4d, vmp,↓vmd,seval]; rfl
         simp -implicitDefEqProofs only [hw, hgp, Int.natCast_nonneg, Int.toNat_natCast, vmp,↓vmd,seval]
         refine onB_dec (fun h5 => ?_) (fun h5 => ?_)
         ·rw [decide_eq_true h5] at hr
          simp only [Bool.false_and, Bool.true_and, Bool.and_false, Bool.and_true, Bool.false_or, Bool.true_or, Bool.or_false, Bool.or_true, Bool.not_true, Bool.not_false] at hr
          subst hr
          simp -implicitDefEqProofs only [h5, vmp,↓vmd,seval]
          exact gives_pure
         ·rw [decide_eq_false h5] at hr
          simp only [Bool.false_and, Bool.true_and, Bool.and_false, Bool.and_true, Bool.false_or, Bool.true_or, Bool.or_false, Bool.or_true, Bool.not_true, Bool.not_false] at hr
          simp -implicitDefEqProofs only [h5, vmp,↓vmd,seval]
          refine onBk_to (i + 1) [0] (by simp) rfl (by omega) ⟨hlt, hr⟩ (by simp -implicitDefEqProofs only [next_at hlt (by omega), kpp,seval]) (by simp -implicitDefEqProofs only [kpp,seval])
        ·rw [decide_eq_false h4] at hr
         simp only [Bool.false_and, Bool.true_and, Bool.and_false, Bool.and_true, Bool.false_or, Bool.true_or, Bool.or_false, Bool.or_true, Bool.not_true, Bool.not_false] at hr
         (first | apply envO | apply envQ); simp -implicitDefEqProofs only [h4, vmp,↓vmd,seval]; rfl
         simp -implicitDefEqProofs only [h4, vmp,↓vmd,seval]
         refine onBk_to (i + 1) [0] (by simp) rfl (by omega) ⟨hlt, hr⟩ (by simp -implicitDefEqProofs only [next_at hlt (by omega), kpp,seval]) (by simp -implicitDefEqProofs only [kpp,seval])
 ·rw [allFrom_end (by omega), Bool.true_and] at hr
  subst hr
  simp -implicitDefEqProofs only [h1, vmp,↓vmd,seval]
  unfold c98_0
  simp -implicitDefEqProofs only [vmp,↓vmd,seval]
  refine onIf_intro fun _ => ?_
  (first | apply envO | apply envQ); simp -implicitDefEqProofs only [vmp,↓vmd,seval]; rfl
  simp -implicitDefEqProofs only [vmp,↓vmd,seval]
  rw [show decide ((l.length : Int) ≤ 4096) = decide (l.length ≤ 4096) by rw [decide_eq_decide]; omega]
  exact gives_pure
theorem curs_q (F : Ff) (l : List Cu) : FnQ Try.prog 99 [ffV F, .sl (l.map cu)] [.bool (cursB F l)] := by
 refine k99.q (by simp) ?_
 unfold c99
 have hr : (allFrom (curB F l) l.length 0 && decide (l.length ≤ 4096)) = cursB F l := rfl
 generalize cursB F l = out at *
 simp -implicitDefEqProofs only [vmp,↓vmd,seval]
 refine loop_at (T := Nat) (fun i => [(5, .pure (I (i : Int))), (1, .pure (.sl (l.map cu))), (2, .ptr 0 0 0)]) (fun _ => [⟨[.pure (ffV F)], 6, .live⟩]) (fun i => i ≤ l.length ∧ (allFrom (curB F l) (l.length - i) i && decide (l.length ≤ 4096)) = out) (fun i => l.length - i)
  0 [0] (by simp) rfl ⟨by simp, hr⟩ (by simp -implicitDefEqProofs only [kpp,seval]) (by simp -implicitDefEqProofs only [kpp,seval]) ?_
 rintro i ⟨hi, hr⟩
 unfold c99_1
 simp -implicitDefEqProofs only [vmp,↓vmd,seval]
 refine onIf_intro fun _ => ?_
 (first | apply envO | apply envQ); simp -implicitDefEqProofs only [vmp,↓vmd,seval]; rfl
 simp -implicitDefEqProofs only [vmp,↓vmd,seval]
 refine onB_dec (fun h1 => ?_) (fun h1 => ?_)
 ·have hlt : i < l.length := by omega
  rw [allFrom_step hlt, curB] at hr
  have hgi : (l.map cu)[i]? = some (cu (cuAt l i)) := cuAt_eq hlt
  simp -implicitDefEqProofs only [h1, hgi, Int.natCast_nonneg, vmp,↓vmd,seval]
  refine onQ_q (there_q F (cuAt l i).glyph) rfl ?_
  generalize thereB F (cuAt l i).glyph = b at *
  cases b with
  | false =>
   simp only [Bool.false_and, Bool.true_and, Bool.and_false, Bool.and_true, Bool.false_or, Bool.true_or, Bool.or_false, Bool.or_true, Bool.not_true, Bool.not_false] at hr
   subst hr
   (first | apply envO | apply envQ); simp -implicitDefEqProofs only [vmp,↓vmd,seval]; rfl
   simp -implicitDefEqProofs only [vmp,↓vmd,seval]
   exact gives_pure
  | true =>
   simp only [Bool.false_and, Bool.true_and, Bool.and_false, Bool.and_true, Bool.false_or, Bool.true_or, Bool.or_false, Bool.or_true, Bool.not_true, Bool.not_false] at hr
   (first | apply envO | apply envQ); simp -implicitDefEqProofs only [vmp,↓vmd,seval]; rfl
   simp -implicitDefEqProofs only [vmp,↓vmd,seval]
   refine onQ_q (anchor21_q (cuAt l i).ex (cuAt l i).ey (cuAt l i).he) rfl ?_
   generalize anchorB (cuAt l i).ex (cuAt l i).ey (cuAt l i).he = b at *
   cases b with
   | false =>
    simp only [Bool.false_and, Bool.true_and, Bool.and_false, Bool.and_true, Bool.false_or, Bool.true_or, Bool.or_false, Bool.or_true, Bool.not_true, Bool.not_false] at hr
    subst hr
    (first | apply envO | apply envQ); simp -implicitDefEqProofs only [vmp,↓vmd,seval]; rfl
    simp -implicitDefEqProofs only [vmp,↓vmd,seval]
    exact gives_pure
   | true =>
    simp only [Bool.false_and, Bool.true_and, Bool.and_false, Bool.and_true, Bool.false_or, Bool.true_or, Bool.or_false, Bool.or_true, Bool.not_true, Bool.not_false] at hr
    (first | apply envO | apply envQ); simp -implicitDefEqProofs only [vmp,↓vmd,seval]; rfl
    simp -implicitDefEqProofs only [vmp,↓vmd,seval]
    refine onQ_q (anchor21_q (cuAt l i).xx (cuAt l i).xy (cuAt l i).hx) rfl ?_
    generalize anchorB (cuAt l i).xx (cuAt l i).xy (cuAt l i).hx = b at *
    cases b with
    | false =>
     simp only [Bool.false_and, Bool.true_and, Bool.and_false, Bool.and_true, Bool.false_or, Bool.true_or, Bool.or_false, Bool.or_true, Bool.not_true, Bool.not_false] at hr
     subst hr
     (first | apply envO | apply envQ); simp -implicitDefEqProofs only [vmp,↓vmd,seval]; rfl
     simp -implicitDefEqProofs only [vmp,↓vmd,seval]
     exact gives_pure
    | true =>
     simp only [Bool.false_and, Bool.true_and, Bool.and_false, Bool.and_true, Bool.false_or, Bool.true_or, Bool.or_false, Bool.or_true, Bool.not_true, Bool.not_false] at hr
     (first | apply envO | apply envQ); simp -implicitDefEqProofs only [vmp,↓vmd,seval]; rfl
     simp -implicitDefEqProofs only [vmp,↓vmd,seval]
     by_cases h2 : i = 0
     ·have h2' : ¬ (0 : Int) < (i : Int) := by omega
      rw [decide_eq_true h2] at hr
      simp only [Bool.false_and, Bool.true_and, Bool.and_false, Bool.and_true, Bool.false_or, Bool.true_or, Bool.or_false, Bool.or_true, Bool.not_true, Bool.not_false] at hr
      refine onB_neg h2' ?_
      (first | apply envO | apply envQ); simp -implicitDefEqProofs only [h2', vmp,↓vmd,seval]; rfl
      simp -implicitDefEqProofs only [vmp,↓vmd,seval]
      refine onBk_to (i + 1) [0] (by simp) rfl (by omega) ⟨hlt, hr⟩ (by simp -implicitDefEqProofs only [next_at hlt (by omega), kpp,seval]) (by simp -implicitDefEqProofs only [kpp,seval])
     ·have h2' : (0 : Int) < (i : Int) := by omega
      rw [decide_eq_false h2] at hr
      simp only [Bool.false_and, Bool.true_and, Bool.and_false, Bool.and_true, Bool.false_or, Bool.true_or, Bool.or_false, Bool.or_true, Bool.not_true, Bool.not_false] at hr
      have hgp : (l.map cu)[i - 1]? = some (cu (cuAt l (i - 1))) := cuAt_eq (by omega)
      have hw : IntKind.wrap .i64 ((i : Int) - 1) = ((i - 1 : Nat) : Int) := by rw [wrap_id (by omega) (by omega)]; omega
      refine onB_pos h2' ?_
      (first | apply envO | apply envQ); simp -implicitDefEqProofs only [h2', vmp,↓vmd,seval]; rfl
      simp -implicitDefEqProofs only [hw, hgp, Int.natCast_nonneg, Int.toNat_natCast, vmp,↓vmd,seval]
      refine onB_dec (fun h3 => ?_) (fun h3 => ?_)
      ·rw [decide_eq_false (show ¬ (cuAt l (i - 1)).glyph < (cuAt l i).glyph by omega)] at hr
       simp only [Bool.false_and, Bool.true_and, Bool.and_false, Bool.and_true, Bool.false_or, Bool.true_or, Bool.or_false, Bool.or_true, Bool.not_true, Bool.not_false] at hr
       subst hr
       simp -implicitDefEqProofs only [h3, vmp,↓vmd,seval]
       exact gives_pure
      ·rw [decide_eq_true (show (cuAt l (i - 1)).glyph < (cuAt l i).glyph by omega)] at hr
       simp only [Bool.false_and, Bool.true_and, Bool.and_false, Bool.and_true, Bool.false_or, Bool.true_or, Bool.or_false, Bool.or_true, Bool.not_true, Bool.not_false] at hr
       simp -implicitDefEqProofs only [h3, vmp,↓vmd,seval]
       refine onBk_to (i + 1) [0] (by simp) rfl (by omega) ⟨hlt, hr⟩ (by simp -implicitDefEqProofs only [next_at hlt (by omega), kpp,seval]) (by simp -implicitDefEqProofs only [kpp,seval])
 ·rw [allFrom_end (by omega), Bool.true_and] at hr
  subst hr
  simp -implicitDefEqProofs only [h1, vmp,↓vmd,seval]
  unfold c99_0
  simp -implicitDefEqProofs only [vmp,↓vmd,seval]
  refine onIf_intro fun _ => ?_
  (first | apply envO | apply envQ); simp -implicitDefEqProofs only [vmp,↓vmd,seval]; rfl
  simp -implicitDefEqProofs only [vmp,↓vmd,seval]
  rw [show decide ((l.length : Int) ≤ 4096) = decide (l.length ≤ 4096) by rw [decide_eq_decide]; omega]
  exact gives_pure
end Go.Proofs.Ytcjmkpkhjhjepaa.W
