/-
  What a font may be: the document's functions of features, and of the whole. No condition.
-/
import Derived.Test.YtcjmkpkhjhjepaaChk6
namespace Go.Proofs.Ytcjmkpkhjhjepaa.W
open Go Go.Vm Go.Proofs
set_option maxRecDepth 100000
set_option linter.unusedSimpArgs false
set_option maxHeartbeats 4000000
/-! typecase/typecaseref21.feats -/
def c57_0 : AC :=
 (.seq (.reg [⟨some 2, none, .mov (.c (.pure (.bool true)))⟩])
 .ret)
def c57_1 : AC :=
 (.reg [⟨some 17, none, .mov (.s 3)⟩,
⟨some 18, none, .bin .add (.s 17) (.c (.pure (.int .i64 1)))⟩,
⟨some 3, none, .mov (.s 18)⟩])
def c57_2 : AC :=
 (.seq (.seq (.reg [⟨some 80, none, .mov (.s 7)⟩,
⟨some 81, none, .mov (.s 3)⟩,
⟨some 82, none, .bin .lss (.s 80) (.s 81)⟩])
 (.cond (.s 82)
 .skip
 (.exit 6)))
 (.seq (.block 7
 (.seq (.regq [⟨some 85, none, .fldA 4 (.s 1)⟩,
⟨some 86, none, .load false 1 (.s 85)⟩,
⟨some 87, none, .mov (.s 7)⟩,
⟨some 88, none, .idxA 3 (.s 86) (.s 87)⟩,
⟨some 89, none, .fldA 0 (.s 88)⟩,
⟨some 90, none, .load false 1 (.s 89)⟩,
⟨some 91, none, .fldA 0 (.s 4)⟩,
⟨some 92, none, .load false 1 (.s 91)⟩,
⟨some 93, none, .eqs false (.s 90) (.s 92)⟩,
⟨some 94, none, .mov (.s 93)⟩,
⟨some 95, some (94, true), .fldA 4 (.s 1)⟩,
⟨some 96, some (94, true), .load false 1 (.s 95)⟩,
⟨some 97, some (94, true), .mov (.s 7)⟩,
⟨some 98, some (94, true), .idxA 3 (.s 96) (.s 97)⟩,
⟨some 99, some (94, true), .fldA 1 (.s 98)⟩,
⟨some 100, some (94, true), .load false 1 (.s 99)⟩,
⟨some 101, some (94, true), .fldA 1 (.s 4)⟩,
⟨some 102, some (94, true), .load false 1 (.s 101)⟩]
[⟨some 103, some (94, true), .bin .eql (.s 100) (.s 102)⟩,
⟨some 104, none, .pick (.s 94) (.s 103) (.c (.pure (.bool false)))⟩])
 (.cond (.s 104)
 (.seq (.reg [⟨some 2, none, .mov (.c (.pure (.bool false)))⟩])
 .ret)
 .skip)))
 (.reg [⟨some 83, none, .mov (.s 7)⟩,
⟨some 84, none, .bin .add (.s 83) (.c (.pure (.int .i64 1)))⟩,
⟨some 7, none, .mov (.s 84)⟩])))
def c57_3 : AC :=
 (.seq (.reg [⟨some 7, none, .mov (.c (.pure (.int .i64 0)))⟩])
 (.block 6
 (.loop c57_2)))
def c57_4 : AC :=
 (.seq (.seq (.reg [⟨some 62, none, .mov (.s 6)⟩,
⟨some 63, none, .fldA 2 (.s 4)⟩,
⟨some 64, none, .load false 1 (.s 63)⟩,
⟨some 65, none, .len (.s 64)⟩,
⟨some 66, none, .bin .lss (.s 62) (.s 65)⟩])
 (.cond (.s 66)
 .skip
 (.exit 4)))
 (.seq (.block 5
 (.seq (.regq [⟨some 69, none, .fldA 2 (.s 4)⟩,
⟨some 70, none, .load false 1 (.s 69)⟩,
⟨some 71, none, .mov (.s 6)⟩,
⟨some 72, none, .idxA 1 (.s 70) (.s 71)⟩,
⟨some 73, none, .load false 1 (.s 72)⟩,
⟨some 74, none, .fldA 3 (.s 1)⟩,
⟨some 75, none, .load false 1 (.s 74)⟩,
⟨some 76, none, .len (.s 75)⟩,
⟨some 77, none, .bin .sub (.s 76) (.c (.pure (.int .i64 1)))⟩]
[⟨some 78, none, .call 75 [(.s 73), (.c (.pure (.int .i64 0))), (.s 77)]⟩,
⟨some 79, none, .un .not (.s 78)⟩])
 (.cond (.s 79)
 (.seq (.reg [⟨some 2, none, .mov (.c (.pure (.bool false)))⟩])
 .ret)
 .skip)))
 (.reg [⟨some 67, none, .mov (.s 6)⟩,
⟨some 68, none, .bin .add (.s 67) (.c (.pure (.int .i64 1)))⟩,
⟨some 6, none, .mov (.s 68)⟩])))
def c57_5 : AC :=
 (.seq (.seq (.reg [⟨some 6, none, .mov (.c (.pure (.int .i64 0)))⟩])
 (.block 4
 (.loop c57_4)))
 c57_3)
def c57_6 : AC :=
 (.seq (.seq (.reg [⟨some 46, none, .mov (.s 5)⟩,
⟨some 47, none, .bin .lss (.s 46) (.c (.pure (.int .i64 4)))⟩])
 (.cond (.s 47)
 .skip
 (.exit 2)))
 (.seq (.block 3
 (.seq (.reg [⟨some 50, none, .fldA 0 (.s 4)⟩,
⟨some 51, none, .load false 1 (.s 50)⟩,
⟨some 52, none, .mov (.s 5)⟩,
⟨some 53, none, .idxS (.s 51) (.s 52)⟩,
⟨some 54, none, .bin .lss (.s 53) (.c (.pure (.int .u8 33)))⟩,
⟨some 55, none, .mov (.s 54)⟩,
⟨some 56, some (55, false), .fldA 0 (.s 4)⟩,
⟨some 57, some (55, false), .load false 1 (.s 56)⟩,
⟨some 58, some (55, false), .mov (.s 5)⟩,
⟨some 59, some (55, false), .idxS (.s 57) (.s 58)⟩,
⟨some 60, some (55, false), .bin .gtr (.s 59) (.c (.pure (.int .u8 126)))⟩,
⟨some 61, none, .pick (.s 55) (.c (.pure (.bool true))) (.s 60)⟩])
 (.cond (.s 61)
 (.seq (.reg [⟨some 2, none, .mov (.c (.pure (.bool false)))⟩])
 .ret)
 .skip)))
 (.reg [⟨some 48, none, .mov (.s 5)⟩,
⟨some 49, none, .bin .add (.s 48) (.c (.pure (.int .i64 1)))⟩,
⟨some 5, none, .mov (.s 49)⟩])))
def c57_7 : AC :=
 (.seq (.seq (.reg [⟨some 12, none, .mov (.s 3)⟩,
⟨some 13, none, .fldA 4 (.s 1)⟩,
⟨some 14, none, .load false 1 (.s 13)⟩,
⟨some 15, none, .len (.s 14)⟩,
⟨some 16, none, .bin .lss (.s 12) (.s 15)⟩])
 (.cond (.s 16)
 .skip
 (.exit 0)))
 (.seq (.block 1
 (.seq (.reg [⟨some 19, none, .fldA 4 (.s 1)⟩,
⟨some 20, none, .load false 1 (.s 19)⟩,
⟨some 21, none, .mov (.s 3)⟩,
⟨some 22, none, .idxA 3 (.s 20) (.s 21)⟩,
⟨some 23, none, .load true 3 (.s 22)⟩,
⟨some 4, none, .box (.c (.agg [(.pure (.str [])), (.pure (.int .i64 0)), .empty]))⟩,
⟨none, none, .store 3 (.s 4) (.s 23)⟩])
 (.seq (.seq (.reg [⟨some 24, none, .fldA 0 (.s 4)⟩,
⟨some 25, none, .load false 1 (.s 24)⟩,
⟨some 26, none, .lenS (.s 25)⟩,
⟨some 27, none, .bin .neq (.s 26) (.c (.pure (.int .i64 4)))⟩,
⟨some 28, none, .mov (.s 27)⟩,
⟨some 29, some (28, false), .fldA 1 (.s 4)⟩,
⟨some 30, some (28, false), .load false 1 (.s 29)⟩,
⟨some 31, some (28, false), .call 75 [(.s 30), (.c (.pure (.int .i64 (-1)))), (.c (.pure (.int .i64 11)))]⟩,
⟨some 32, some (28, false), .un .not (.s 31)⟩,
⟨some 33, none, .pick (.s 28) (.c (.pure (.bool true))) (.s 32)⟩,
⟨some 34, none, .mov (.s 33)⟩,
⟨some 35, some (34, false), .fldA 2 (.s 4)⟩,
⟨some 36, some (34, false), .load false 1 (.s 35)⟩,
⟨some 37, some (34, false), .len (.s 36)⟩,
⟨some 38, some (34, false), .bin .gtr (.s 37) (.c (.pure (.int .i64 64)))⟩,
⟨some 39, none, .pick (.s 34) (.c (.pure (.bool true))) (.s 38)⟩,
⟨some 40, none, .mov (.s 39)⟩,
⟨some 41, some (40, false), .fldA 2 (.s 4)⟩,
⟨some 42, some (40, false), .load false 1 (.s 41)⟩,
⟨some 43, some (40, false), .call 77 [(.s 42)]⟩,
⟨some 44, some (40, false), .un .not (.s 43)⟩,
⟨some 45, none, .pick (.s 40) (.c (.pure (.bool true))) (.s 44)⟩])
 (.cond (.s 45)
 (.seq (.reg [⟨some 2, none, .mov (.c (.pure (.bool false)))⟩])
 .ret)
 .skip))
 (.seq (.seq (.reg [⟨some 5, none, .mov (.c (.pure (.int .i64 0)))⟩])
 (.block 2
 (.loop c57_6)))
 c57_5))))
 c57_1))
def c57 : AC :=
 (.seq (.reg [⟨some 1, none, .box (.s 0)⟩,
⟨some 2, none, .mov (.c (.pure (.bool false)))⟩])
 (.seq (.seq (.reg [⟨some 8, none, .fldA 4 (.s 1)⟩,
⟨some 9, none, .load false 1 (.s 8)⟩,
⟨some 10, none, .len (.s 9)⟩,
⟨some 11, none, .bin .gtr (.s 10) (.c (.pure (.int .i64 64)))⟩])
 (.cond (.s 11)
 (.seq (.reg [⟨some 2, none, .mov (.c (.pure (.bool false)))⟩])
 .ret)
 .skip))
 (.seq (.seq (.reg [⟨some 3, none, .mov (.c (.pure (.int .i64 0)))⟩])
 (.block 0
 (.loop c57_7)))
 c57_0)))
theorem k57 : OkF 57 Try.f57 c57 [.t 2] 105 := ⟨Try.func57, by kernel_rfl, by kernel_rfl, by kernel_rfl, Try.ntmps57⟩
/-! typecase/typecaseref21.Check -/
def c33 : AC :=
 (.seq (.reg [⟨some 1, none, .box (.s 0)⟩,
⟨some 2, none, .mov (.c (.pure (.int .i64 0)))⟩])
 (.seq (.seq (.reg [⟨some 3, none, .load true 6 (.s 1)⟩,
⟨some 4, none, .call 54 [(.s 3)]⟩,
⟨some 5, none, .mov (.s 4)⟩,
⟨some 6, some (5, true), .load true 6 (.s 1)⟩,
⟨some 7, some (5, true), .call 55 [(.s 6)]⟩,
⟨some 8, none, .pick (.s 5) (.s 7) (.c (.pure (.bool false)))⟩,
⟨some 9, none, .mov (.s 8)⟩,
⟨some 10, some (9, true), .load true 6 (.s 1)⟩,
⟨some 11, some (9, true), .call 56 [(.s 10)]⟩,
⟨some 12, none, .pick (.s 9) (.s 11) (.c (.pure (.bool false)))⟩,
⟨some 13, none, .mov (.s 12)⟩,
⟨some 14, some (13, true), .load true 6 (.s 1)⟩,
⟨some 15, some (13, true), .call 57 [(.s 14)]⟩,
⟨some 16, none, .pick (.s 13) (.s 15) (.c (.pure (.bool false)))⟩])
 (.cond (.s 16)
 (.seq (.reg [⟨some 2, none, .mov (.c (.pure (.int .i64 0)))⟩])
 .ret)
 .skip))
 (.seq (.reg [⟨some 2, none, .mov (.c (.pure (.int .i64 12)))⟩])
 .ret)))
theorem k33 : OkF 33 Try.f33 c33 [.t 2] 17 := ⟨Try.func33, by kernel_rfl, by kernel_rfl, by kernel_rfl, Try.ntmps33⟩
theorem ftAt_eq {l : List Ft} {i : Nat} (h : i < l.length) : (l.map ft)[i]? = some (ft (ftAt l i)) := by
 rw [List.getElem?_map, ftAt, List.getElem?_eq_getElem h]; rfl
theorem tagAt_eq {l : List UInt8} {i : Nat} (h : i < l.length) : l[i]? = some ((l[i]?).getD 0) := by
 rw [List.getElem?_eq_getElem h]; rfl
theorem feats_q (F : Ff) (hF : F.lks.length ≤ 1000) : FnQ Try.prog 57 [ffV F] [.bool (featsB F)] := by
 refine k57.q (by simp) ?_
 unfold c57
 have hr : (decide (F.fts.length ≤ 64) && allFrom (featB F) F.fts.length 0) = featsB F := rfl
 generalize featsB F = out at *
 simp -implicitDefEqProofs only [vmp,↓vmd,seval]
 refine onIf_intro fun _ => ?_
 (first | apply envO | apply envQ); simp -implicitDefEqProofs only [vmp,↓vmd,seval]; rfl
 simp -implicitDefEqProofs only [vmp,↓vmd,seval]
 refine onB_dec (fun h64 => ?_) (fun h64 => ?_)
 ·rw [decide_eq_false (show ¬ F.fts.length ≤ 64 by omega)] at hr
  simp only [Bool.false_and, Bool.true_and, Bool.and_false, Bool.and_true, Bool.false_or, Bool.true_or, Bool.or_false, Bool.or_true, Bool.not_true, Bool.not_false] at hr
  subst hr
  simp -implicitDefEqProofs only [h64, vmp,↓vmd,seval]
  exact gives_pure
 ·rw [decide_eq_true (show F.fts.length ≤ 64 by omega)] at hr
  simp only [Bool.false_and, Bool.true_and, Bool.and_false, Bool.and_true, Bool.false_or, Bool.true_or, Bool.or_false, Bool.or_true, Bool.not_true, Bool.not_false] at hr
  simp -implicitDefEqProofs only [h64, vmp,↓vmd,seval]
  refine loop_at (T := Nat) (fun i => [(3, .pure (I (i : Int))), (1, .ptr 0 0 0)]) (fun _ => [⟨[.pure (ffV F)], 6, .live⟩]) (fun i => i ≤ F.fts.length ∧ allFrom (featB F) (F.fts.length - i) i = out) (fun i => F.fts.length - i)
   0 [0] (by simp) rfl ⟨by simp, hr⟩ (by simp -implicitDefEqProofs only [kpp,seval]) (by simp -implicitDefEqProofs only [kpp,seval]) ?_
  rintro i ⟨hi, hr⟩
  unfold c57_7
  simp -implicitDefEqProofs only [vmp,↓vmd,seval]
  refine onIf_intro fun _ => ?_
  (first | apply envO | apply envQ); simp -implicitDefEqProofs only [vmp,↓vmd,seval]; rfl
  simp -implicitDefEqProofs only [vmp,↓vmd,seval]
  refine onB_dec (fun h1 => ?_) (fun h1 => ?_)
  ·have hlt : i < F.fts.length := by omega
   rw [allFrom_step hlt, featB] at hr
   have hgi : (F.fts.map ft)[i]? = some (ft (ftAt F.fts i)) := ftAt_eq hlt
   generalize ftAt F.fts i = x at hr hgi
   simp -implicitDefEqProofs only [h1, hgi, Int.natCast_nonneg, vmp,↓vmd,seval]
   refine onIf_intro fun _ => ?_
   (first | apply envO | apply envQ); simp -implicitDefEqProofs only [vmp,↓vmd,seval]; rfl
   simp -implicitDefEqProofs only [vmp,↓vmd,seval]
   refine onB_dec (fun h2 => ?_) (fun h2 => ?_)
   ·rw [decide_eq_false (show ¬ x.tag.length = 4 by omega)] at hr
    simp only [Bool.false_and, Bool.true_and, Bool.and_false, Bool.and_true, Bool.false_or, Bool.true_or, Bool.or_false, Bool.or_true, Bool.not_true, Bool.not_false] at hr
    subst hr
    (first | apply envO | apply envQ); simp -implicitDefEqProofs only [h2, vmp,↓vmd,seval]; rfl
    simp -implicitDefEqProofs only [h2, vmp,↓vmd,seval]
    exact gives_pure
   ·have htag : x.tag.length = 4 := by omega
    rw [decide_eq_true htag] at hr
    have h2d : decide (¬ (x.tag.length : Int) = 4) = false := decide_eq_false h2
    simp only [Bool.false_and, Bool.true_and, Bool.and_false, Bool.and_true, Bool.false_or, Bool.true_or, Bool.or_false, Bool.or_true, Bool.not_true, Bool.not_false] at hr
    (first | apply envO | apply envQ); simp -implicitDefEqProofs only [h2d, vmp,↓vmd,seval]; rfl
    simp -implicitDefEqProofs only [vmp,↓vmd,seval]
    refine onC_q (within_q x.script (-1) 11) rfl ?_
    generalize withB x.script (-1) 11 = b at *
    cases b with
    | false =>
     simp only [Bool.false_and, Bool.true_and, Bool.and_false, Bool.and_true, Bool.false_or, Bool.true_or, Bool.or_false, Bool.or_true, Bool.not_true, Bool.not_false] at hr
     subst hr
     (first | apply envO | apply envQ); simp -implicitDefEqProofs only [vmp,↓vmd,seval]; rfl
     simp -implicitDefEqProofs only [vmp,↓vmd,seval]
     exact gives_pure
    | true =>
     simp only [Bool.false_and, Bool.true_and, Bool.and_false, Bool.and_true, Bool.false_or, Bool.true_or, Bool.or_false, Bool.or_true, Bool.not_true, Bool.not_false] at hr
     (first | apply envO | apply envQ); simp -implicitDefEqProofs only [vmp,↓vmd,seval]; rfl
     simp -implicitDefEqProofs only [vmp,↓vmd,seval]
     refine onIf_intro fun _ => ?_
     (first | apply envO | apply envQ); simp -implicitDefEqProofs only [vmp,↓vmd,seval]; rfl
     simp -implicitDefEqProofs only [vmp,↓vmd,seval]
     refine onB_dec (fun h3 => ?_) (fun h3 => ?_)
     ·rw [decide_eq_false (show ¬ x.lks.length ≤ 64 by omega)] at hr
      simp only [Bool.false_and, Bool.true_and, Bool.and_false, Bool.and_true, Bool.false_or, Bool.true_or, Bool.or_false, Bool.or_true, Bool.not_true, Bool.not_false] at hr
      subst hr
      (first | apply envO | apply envQ); simp -implicitDefEqProofs only [h3, vmp,↓vmd,seval]; rfl
      simp -implicitDefEqProofs only [h3, vmp,↓vmd,seval]
      exact gives_pure
     ·rw [decide_eq_true (show x.lks.length ≤ 64 by omega)] at hr
      simp only [Bool.false_and, Bool.true_and, Bool.and_false, Bool.and_true, Bool.false_or, Bool.true_or, Bool.or_false, Bool.or_true, Bool.not_true, Bool.not_false] at hr
      (first | apply envO | apply envQ); simp -implicitDefEqProofs only [h3, vmp,↓vmd,seval]; rfl
      simp -implicitDefEqProofs only [h3, vmp,↓vmd,seval]
      refine onC_q (rises_q x.lks) rfl ?_
      generalize risesB x.lks = b at *
      cases b with
      | false =>
       simp only [Bool.false_and, Bool.true_and, Bool.and_false, Bool.and_true, Bool.false_or, Bool.true_or, Bool.or_false, Bool.or_true, Bool.not_true, Bool.not_false] at hr
       subst hr
       (first | apply envO | apply envQ); simp -implicitDefEqProofs only [vmp,↓vmd,seval]; rfl
       simp -implicitDefEqProofs only [vmp,↓vmd,seval]
       exact gives_pure
      | true =>
       simp only [Bool.false_and, Bool.true_and, Bool.and_false, Bool.and_true, Bool.false_or, Bool.true_or, Bool.or_false, Bool.or_true, Bool.not_true, Bool.not_false] at hr
       (first | apply envO | apply envQ); simp -implicitDefEqProofs only [vmp,↓vmd,seval]; rfl
       simp -implicitDefEqProofs only [vmp,↓vmd,seval]
       have ht : (allFrom (chB x.tag) (4 - 0) 0 && (x.lks.all fun n => withB n 0 ((F.lks.length : Int) - 1)) && allFrom (fun k => !(decide ((ftAt F.fts k).tag = x.tag) && decide ((ftAt F.fts k).script = x.script))) i 0 && allFrom (featB F) (F.fts.length - (i + 1)) (i + 1)) = out := hr
       refine loop_at (T := Nat) (fun k => [(5, .pure (I (k : Int))), (3, .pure (I (i : Int))), (1, .ptr 0 0 0), (4, .ptr 1 0 0)]) (fun _ => [⟨[.pure (ffV F)], 6, .live⟩, ⟨[.pure (ft x)], 3, .live⟩]) (fun k => k ≤ 4 ∧ (allFrom (chB x.tag) (4 - k) k && (x.lks.all fun n => withB n 0 ((F.lks.length : Int) - 1)) && allFrom (fun k => !(decide ((ftAt F.fts k).tag = x.tag) && decide ((ftAt F.fts k).script = x.script))) i 0 && allFrom (featB F) (F.fts.length - (i + 1)) (i + 1)) = out) (fun k => 4 - k)
        0 [0, 1] (by simp) rfl ⟨by simp, ht⟩ (by simp -implicitDefEqProofs only [kpp,seval]) (by simp -implicitDefEqProofs only [kpp,seval]) ?_
       rintro k ⟨hk, ht⟩
       unfold c57_6
       simp -implicitDefEqProofs only [vmp,↓vmd,seval]
       refine onB_dec (fun h5 => ?_) (fun h5 => ?_)
       ·have hlk : k < 4 := by omega
        rw [allFrom_step hlk, chB] at ht
        have hgk := tagAt_eq (l := x.tag) (i := k) (by omega)
        generalize (x.tag[k]?).getD 0 = z at ht hgk
        simp -implicitDefEqProofs only [h5, hgk, Int.natCast_nonneg, vmp,↓vmd,seval]
        refine onB_dec (fun e1 => ?_) (fun e1 => ?_)
        ·rw [decide_eq_true e1] at ht
         simp only [Bool.false_and, Bool.true_and, Bool.and_false, Bool.and_true, Bool.false_or, Bool.true_or, Bool.or_false, Bool.or_true, Bool.not_true, Bool.not_false] at ht
         subst ht
         (first | apply envO | apply envQ); simp -implicitDefEqProofs only [e1, vmp,↓vmd,seval]; rfl
         simp -implicitDefEqProofs only [e1, vmp,↓vmd,seval]
         exact gives_pure
        ·rw [decide_eq_false e1] at ht
         simp only [Bool.false_and, Bool.true_and, Bool.and_false, Bool.and_true, Bool.false_or, Bool.true_or, Bool.or_false, Bool.or_true, Bool.not_true, Bool.not_false] at ht
         (first | apply envO | apply envQ); simp -implicitDefEqProofs only [e1, vmp,↓vmd,seval]; rfl
         simp -implicitDefEqProofs only [e1, Bool.false_eq_true, if_false, hgk, Int.natCast_nonneg, vmp,↓vmd,seval]
         refine onB_dec (fun e2 => ?_) (fun e2 => ?_)
         ·rw [decide_eq_true e2] at ht
          simp only [Bool.false_and, Bool.true_and, Bool.and_false, Bool.and_true, Bool.false_or, Bool.true_or, Bool.or_false, Bool.or_true, Bool.not_true, Bool.not_false] at ht
          subst ht
          (first | apply envO | apply envQ); simp -implicitDefEqProofs only [e2, vmp,↓vmd,seval]; rfl
          simp -implicitDefEqProofs only [e2, vmp,↓vmd,seval]
          exact gives_pure
         ·rw [decide_eq_false e2] at ht
          simp only [Bool.false_and, Bool.true_and, Bool.and_false, Bool.and_true, Bool.false_or, Bool.true_or, Bool.or_false, Bool.or_true, Bool.not_true, Bool.not_false] at ht
          (first | apply envO | apply envQ); simp -implicitDefEqProofs only [e2, vmp,↓vmd,seval]; rfl
          simp -implicitDefEqProofs only [e2, vmp,↓vmd,seval]
          refine onBk_to (k + 1) [0, 1] (by simp) rfl (by omega) ⟨hlk, ht⟩ (by simp -implicitDefEqProofs only [next_at hlk (by omega), kpp,seval]) (by simp -implicitDefEqProofs only [kpp,seval])
       ·rw [allFrom_end (by omega), Bool.true_and] at ht
        simp -implicitDefEqProofs only [h5, vmp,↓vmd,seval]
        unfold c57_5
        simp -implicitDefEqProofs only [vmp,↓vmd,seval]
        refine loop_at (T := Nat) (fun k => [(6, .pure (I (k : Int))), (3, .pure (I (i : Int))), (1, .ptr 0 0 0), (4, .ptr 1 0 0)]) (fun _ => [⟨[.pure (ffV F)], 6, .live⟩, ⟨[.pure (ft x)], 3, .live⟩]) (fun k => k ≤ x.lks.length ∧ (((x.lks.drop k).all fun n => withB n 0 ((F.lks.length : Int) - 1)) && allFrom (fun k => !(decide ((ftAt F.fts k).tag = x.tag) && decide ((ftAt F.fts k).script = x.script))) i 0 && allFrom (featB F) (F.fts.length - (i + 1)) (i + 1)) = out) (fun k => x.lks.length - k)
         0 [0, 1] (by simp) rfl ⟨by simp, ht⟩ (by simp -implicitDefEqProofs only [kpp,seval]) (by simp -implicitDefEqProofs only [kpp,seval]) ?_
        rintro k ⟨hk, ht⟩
        unfold c57_4
        simp -implicitDefEqProofs only [vmp,↓vmd,seval]
        refine onIf_intro fun _ => ?_
        (first | apply envO | apply envQ); simp -implicitDefEqProofs only [vmp,↓vmd,seval]; rfl
        simp -implicitDefEqProofs only [vmp,↓vmd,seval]
        refine onB_dec (fun h7 => ?_) (fun h7 => ?_)
        ·have hlk : k < x.lks.length := by omega
         rw [drop_at hlk, List.all_cons] at ht
         have hgk : (x.lks.map I)[k]? = some (I x.lks[k]) := map_at hlk
         generalize x.lks[k] = z at ht hgk
         have hw : IntKind.wrap .i64 ((F.lks.length : Int) - 1) = (F.lks.length : Int) - 1 := wrap_id (by omega) (by omega)
         simp -implicitDefEqProofs only [h7, hgk, hw, Int.natCast_nonneg, vmp,↓vmd,seval]
         refine onC_q (within_q z 0 ((F.lks.length : Int) - 1)) rfl ?_
         generalize withB z 0 ((F.lks.length : Int) - 1) = b at *
         cases b with
         | false =>
          simp only [Bool.false_and, Bool.true_and, Bool.and_false, Bool.and_true, Bool.false_or, Bool.true_or, Bool.or_false, Bool.or_true, Bool.not_true, Bool.not_false] at ht
          subst ht
          (first | apply envO | apply envQ); simp -implicitDefEqProofs only [vmp,↓vmd,seval]; rfl
          simp -implicitDefEqProofs only [vmp,↓vmd,seval]
          exact gives_pure
         | true =>
          simp only [Bool.false_and, Bool.true_and, Bool.and_false, Bool.and_true, Bool.false_or, Bool.true_or, Bool.or_false, Bool.or_true, Bool.not_true, Bool.not_false] at ht
          (first | apply envO | apply envQ); simp -implicitDefEqProofs only [vmp,↓vmd,seval]; rfl
          simp -implicitDefEqProofs only [vmp,↓vmd,seval]
          refine onBk_to (k + 1) [0, 1] (by simp) rfl (by omega) ⟨hlk, ht⟩ (by simp -implicitDefEqProofs only [next_at hlk (by omega), kpp,seval]) (by simp -implicitDefEqProofs only [kpp,seval])
        ·rw [List.drop_of_length_le (by omega), List.all_nil, Bool.true_and] at ht
         simp -implicitDefEqProofs only [h7, vmp,↓vmd,seval]
         unfold c57_3
         simp -implicitDefEqProofs only [vmp,↓vmd,seval]
         have ht : (allFrom (fun k => !(decide ((ftAt F.fts k).tag = x.tag) && decide ((ftAt F.fts k).script = x.script))) (i - 0) 0 && allFrom (featB F) (F.fts.length - (i + 1)) (i + 1)) = out := ht
         refine loop_at (T := Nat) (fun k => [(7, .pure (I (k : Int))), (3, .pure (I (i : Int))), (1, .ptr 0 0 0), (4, .ptr 1 0 0)]) (fun _ => [⟨[.pure (ffV F)], 6, .live⟩, ⟨[.pure (ft x)], 3, .live⟩]) (fun k => k ≤ i ∧ (allFrom (fun k => !(decide ((ftAt F.fts k).tag = x.tag) && decide ((ftAt F.fts k).script = x.script))) (i - k) k && allFrom (featB F) (F.fts.length - (i + 1)) (i + 1)) = out) (fun k => i - k)
          0 [0, 1] (by simp) rfl ⟨by simp, ht⟩ (by simp -implicitDefEqProofs only [kpp,seval]) (by simp -implicitDefEqProofs only [kpp,seval]) ?_
         rintro k ⟨hk, hu⟩
         unfold c57_2
         simp -implicitDefEqProofs only [vmp,↓vmd,seval]
         refine onB_dec (fun h8 => ?_) (fun h8 => ?_)
         ·have hlk : k < i := by omega
          rw [allFrom_step hlk] at hu
          have hgk : (F.fts.map ft)[k]? = some (ft (ftAt F.fts k)) := ftAt_eq (by omega)
          generalize ftAt F.fts k = z at hu hgk
          simp -implicitDefEqProofs only [h8, hgk, Int.natCast_nonneg, vmp,↓vmd,seval]
          by_cases e1 : z.tag = x.tag
          ·have e1' : (z.tag == x.tag) = true := by simp [e1]
           rw [decide_eq_true e1] at hu
           refine onB_t e1' ?_
           (first | apply envO | apply envQ); simp -implicitDefEqProofs only [e1', vmp,↓vmd,seval]; rfl
           simp -implicitDefEqProofs only [hgk, Int.natCast_nonneg, vmp,↓vmd,seval]
           refine onB_dec (fun e2 => ?_) (fun e2 => ?_)
           ·rw [decide_eq_true e2] at hu
            simp only [Bool.false_and, Bool.true_and, Bool.and_false, Bool.and_true, Bool.false_or, Bool.true_or, Bool.or_false, Bool.or_true, Bool.not_true, Bool.not_false] at hu
            subst hu
            simp -implicitDefEqProofs only [e2, vmp,↓vmd,seval]
            exact gives_pure
           ·rw [decide_eq_false e2] at hu
            simp only [Bool.false_and, Bool.true_and, Bool.and_false, Bool.and_true, Bool.false_or, Bool.true_or, Bool.or_false, Bool.or_true, Bool.not_true, Bool.not_false] at hu
            simp -implicitDefEqProofs only [e2, vmp,↓vmd,seval]
            refine onBk_to (k + 1) [0, 1] (by simp) rfl (by omega) ⟨hlk, hu⟩ (by simp -implicitDefEqProofs only [next_at hlk (by omega), kpp,seval]) (by simp -implicitDefEqProofs only [kpp,seval])
          ·have e1' : (z.tag == x.tag) = false := by simp [e1]
           rw [decide_eq_false e1] at hu
           simp only [Bool.false_and, Bool.true_and, Bool.and_false, Bool.and_true, Bool.false_or, Bool.true_or, Bool.or_false, Bool.or_true, Bool.not_true, Bool.not_false] at hu
           refine onB_f e1' ?_
           (first | apply envO | apply envQ); simp -implicitDefEqProofs only [e1', vmp,↓vmd,seval]; rfl
           simp -implicitDefEqProofs only [vmp,↓vmd,seval]
           refine onBk_to (k + 1) [0, 1] (by simp) rfl (by omega) ⟨hlk, hu⟩ (by simp -implicitDefEqProofs only [next_at hlk (by omega), kpp,seval]) (by simp -implicitDefEqProofs only [kpp,seval])
         ·rw [allFrom_end (by omega), Bool.true_and] at hu
          simp -implicitDefEqProofs only [h8, vmp,↓vmd,seval]
          unfold c57_1
          simp -implicitDefEqProofs only [vmp,↓vmd,seval]
          refine onBk_to (i + 1) [0] (by simp) rfl (by omega) ⟨hlt, hu⟩ (by simp -implicitDefEqProofs only [next_at hlt (by omega), kpp,seval]) (by simp -implicitDefEqProofs only [kpp,seval])
  ·rw [allFrom_end (by omega)] at hr
   subst hr
   simp -implicitDefEqProofs only [h1, vmp,↓vmd,seval]
   unfold c57_0
   simp -implicitDefEqProofs only [vmp,↓vmd,seval]
   exact gives_pure
theorem check_q (F : Ff) : FnQ Try.prog 33 [ffV F] [I (checkF F)] := by
 refine k33.q (by simp) ?_
 unfold c33
 have hr : (if (glyphsB F && mapsB F && lookupsB F && featsB F) = true then (0 : Int) else 12) = checkF F := rfl
 generalize checkF F = out at *
 simp -implicitDefEqProofs only [vmp,↓vmd,seval]
 refine onC_q (glyphs_q F) rfl ?_
 cases hb : glyphsB F with
 | false =>
  rw [hb] at hr
  simp only [Bool.false_and, Bool.true_and, Bool.and_false, Bool.and_true, Bool.false_or, Bool.true_or, Bool.or_false, Bool.or_true, Bool.not_true, Bool.not_false, Bool.false_eq_true, if_false] at hr
  subst hr
  (first | apply envO | apply envQ); simp -implicitDefEqProofs only [vmp,↓vmd,seval]; rfl
  simp -implicitDefEqProofs only [vmp,↓vmd,seval]
  exact gives_pure
 | true =>
  rw [hb] at hr
  simp only [Bool.false_and, Bool.true_and, Bool.and_false, Bool.and_true, Bool.false_or, Bool.true_or, Bool.or_false, Bool.or_true, Bool.not_true, Bool.not_false] at hr
  (first | apply envO | apply envQ); simp -implicitDefEqProofs only [vmp,↓vmd,seval]; rfl
  simp -implicitDefEqProofs only [vmp,↓vmd,seval]
  clear hb
  refine onC_q (maps_q F) rfl ?_
  cases hb : mapsB F with
  | false =>
   rw [hb] at hr
   simp only [Bool.false_and, Bool.true_and, Bool.and_false, Bool.and_true, Bool.false_or, Bool.true_or, Bool.or_false, Bool.or_true, Bool.not_true, Bool.not_false, Bool.false_eq_true, if_false] at hr
   subst hr
   (first | apply envO | apply envQ); simp -implicitDefEqProofs only [vmp,↓vmd,seval]; rfl
   simp -implicitDefEqProofs only [vmp,↓vmd,seval]
   exact gives_pure
  | true =>
   rw [hb] at hr
   simp only [Bool.false_and, Bool.true_and, Bool.and_false, Bool.and_true, Bool.false_or, Bool.true_or, Bool.or_false, Bool.or_true, Bool.not_true, Bool.not_false] at hr
   (first | apply envO | apply envQ); simp -implicitDefEqProofs only [vmp,↓vmd,seval]; rfl
   simp -implicitDefEqProofs only [vmp,↓vmd,seval]
   clear hb
   refine onC_q (lookups_q F) rfl ?_
   cases hb : lookupsB F with
   | false =>
    rw [hb] at hr
    simp only [Bool.false_and, Bool.true_and, Bool.and_false, Bool.and_true, Bool.false_or, Bool.true_or, Bool.or_false, Bool.or_true, Bool.not_true, Bool.not_false, Bool.false_eq_true, if_false] at hr
    subst hr
    (first | apply envO | apply envQ); simp -implicitDefEqProofs only [vmp,↓vmd,seval]; rfl
    simp -implicitDefEqProofs only [vmp,↓vmd,seval]
    exact gives_pure
   | true =>
    rw [hb] at hr
    simp only [Bool.false_and, Bool.true_and, Bool.and_false, Bool.and_true, Bool.false_or, Bool.true_or, Bool.or_false, Bool.or_true, Bool.not_true, Bool.not_false] at hr
    (first | apply envO | apply envQ); simp -implicitDefEqProofs only [vmp,↓vmd,seval]; rfl
    simp -implicitDefEqProofs only [vmp,↓vmd,seval]
    have h64 : F.lks.length ≤ 64 := by
     simp only [lookupsB, Bool.and_eq_true, decide_eq_true_eq] at hb
     exact hb.1
    clear hb
    refine onC_q (feats_q F (by omega)) rfl ?_
    cases hb : featsB F with
    | false =>
     rw [hb] at hr
     simp only [Bool.false_and, Bool.true_and, Bool.and_false, Bool.and_true, Bool.false_or, Bool.true_or, Bool.or_false, Bool.or_true, Bool.not_true, Bool.not_false, Bool.false_eq_true, if_false] at hr
     subst hr
     (first | apply envO | apply envQ); simp -implicitDefEqProofs only [vmp,↓vmd,seval]; rfl
     simp -implicitDefEqProofs only [vmp,↓vmd,seval]
     exact gives_pure
    | true =>
     rw [hb] at hr
     simp only [Bool.false_and, Bool.true_and, Bool.and_false, Bool.and_true, Bool.false_or, Bool.true_or, Bool.or_false, Bool.or_true, Bool.not_true, Bool.not_false] at hr
     (first | apply envO | apply envQ); simp -implicitDefEqProofs only [vmp,↓vmd,seval]; rfl
     simp -implicitDefEqProofs only [vmp,↓vmd,seval]
     simp only [if_true] at hr
     subst hr
     exact gives_pure
end Go.Proofs.Ytcjmkpkhjhjepaa.W
