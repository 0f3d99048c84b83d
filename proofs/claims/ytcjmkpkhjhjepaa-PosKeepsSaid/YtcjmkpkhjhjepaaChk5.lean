/-
  What a font may be: the document's function of fields that are not empty. No condition.
-/
import Derived.Test.YtcjmkpkhjhjepaaChk4
namespace Go.Proofs.Ytcjmkpkhjhjepaa.W
open Go Go.Vm Go.Proofs
set_option maxRecDepth 100000
set_option linter.unusedSimpArgs false
set_option maxHeartbeats 4000000
/-! typecase/typecaseref21.bare -/
def c92 : AC :=
 (.seq (.reg [⟨some 3, none, .box (.s 1)⟩,
⟨some 4, none, .mov (.c (.pure (.bool false)))⟩])
 (.seq (.reg [⟨some 9, none, .mov (.s 0)⟩,
⟨some 10, none, .bin .eql (.s 9) (.c (.pure (.int .i64 1)))⟩,
⟨some 11, none, .mov (.s 10)⟩,
⟨some 12, some (11, false), .mov (.s 0)⟩,
⟨some 13, some (11, false), .bin .eql (.s 12) (.c (.pure (.int .i64 2)))⟩,
⟨some 14, none, .pick (.s 11) (.c (.pure (.bool true))) (.s 13)⟩,
⟨some 15, none, .mov (.s 14)⟩,
⟨some 16, some (15, false), .mov (.s 0)⟩,
⟨some 17, some (15, false), .bin .eql (.s 16) (.c (.pure (.int .i64 5)))⟩,
⟨some 18, none, .pick (.s 15) (.c (.pure (.bool true))) (.s 17)⟩,
⟨some 19, none, .mov (.s 18)⟩,
⟨some 20, some (19, false), .mov (.s 0)⟩,
⟨some 21, some (19, false), .bin .eql (.s 20) (.c (.pure (.int .i64 6)))⟩,
⟨some 22, none, .pick (.s 19) (.c (.pure (.bool true))) (.s 21)⟩,
⟨some 23, none, .mov (.s 22)⟩,
⟨some 24, some (23, false), .mov (.s 0)⟩,
⟨some 25, some (23, false), .bin .eql (.s 24) (.c (.pure (.int .i64 3)))⟩,
⟨some 26, none, .pick (.s 23) (.c (.pure (.bool true))) (.s 25)⟩,
⟨some 5, none, .mov (.s 26)⟩])
 (.seq (.reg [⟨some 27, none, .mov (.s 0)⟩,
⟨some 28, none, .bin .eql (.s 27) (.c (.pure (.int .i64 1)))⟩,
⟨some 29, none, .mov (.s 28)⟩,
⟨some 30, some (29, false), .mov (.s 0)⟩,
⟨some 31, some (29, false), .bin .eql (.s 30) (.c (.pure (.int .i64 2)))⟩,
⟨some 32, none, .pick (.s 29) (.c (.pure (.bool true))) (.s 31)⟩,
⟨some 33, none, .mov (.s 32)⟩,
⟨some 34, some (33, false), .mov (.s 0)⟩,
⟨some 35, some (33, false), .bin .eql (.s 34) (.c (.pure (.int .i64 5)))⟩,
⟨some 36, none, .pick (.s 33) (.c (.pure (.bool true))) (.s 35)⟩,
⟨some 6, none, .mov (.s 36)⟩])
 (.seq (.reg [⟨some 37, none, .mov (.s 0)⟩,
⟨some 38, none, .bin .eql (.s 37) (.c (.pure (.int .i64 4)))⟩,
⟨some 39, none, .mov (.s 38)⟩,
⟨some 40, some (39, false), .mov (.s 0)⟩,
⟨some 41, some (39, false), .bin .eql (.s 40) (.c (.pure (.int .i64 12)))⟩,
⟨some 42, none, .pick (.s 39) (.c (.pure (.bool true))) (.s 41)⟩,
⟨some 7, none, .mov (.s 42)⟩])
 (.seq (.reg [⟨some 43, none, .mov (.s 0)⟩,
⟨some 44, none, .bin .eql (.s 43) (.c (.pure (.int .i64 9)))⟩,
⟨some 45, none, .mov (.s 44)⟩,
⟨some 46, some (45, false), .mov (.s 0)⟩,
⟨some 47, some (45, false), .bin .eql (.s 46) (.c (.pure (.int .i64 10)))⟩,
⟨some 48, none, .pick (.s 45) (.c (.pure (.bool true))) (.s 47)⟩,
⟨some 49, none, .mov (.s 48)⟩,
⟨some 50, some (49, false), .mov (.s 0)⟩,
⟨some 51, some (49, false), .bin .eql (.s 50) (.c (.pure (.int .i64 11)))⟩,
⟨some 52, none, .pick (.s 49) (.c (.pure (.bool true))) (.s 51)⟩,
⟨some 8, none, .mov (.s 52)⟩])
 (.seq (.seq (.reg [⟨some 53, none, .mov (.s 5)⟩,
⟨some 54, none, .un .not (.s 53)⟩,
⟨some 55, none, .mov (.s 54)⟩,
⟨some 56, some (55, true), .fldA 0 (.s 3)⟩,
⟨some 57, some (55, true), .load false 1 (.s 56)⟩,
⟨some 58, some (55, true), .len (.s 57)⟩,
⟨some 59, some (55, true), .bin .gtr (.s 58) (.c (.pure (.int .i64 0)))⟩,
⟨some 60, none, .pick (.s 55) (.s 59) (.c (.pure (.bool false)))⟩,
⟨some 61, none, .mov (.s 60)⟩,
⟨some 62, some (61, false), .mov (.s 6)⟩,
⟨some 63, some (61, false), .un .not (.s 62)⟩,
⟨some 64, some (61, false), .mov (.s 63)⟩,
⟨some 65, some (64, true), .fldA 1 (.s 3)⟩,
⟨some 66, some (64, true), .load false 1 (.s 65)⟩,
⟨some 67, some (64, true), .len (.s 66)⟩,
⟨some 68, some (64, true), .bin .gtr (.s 67) (.c (.pure (.int .i64 0)))⟩,
⟨some 69, some (61, false), .pick (.s 64) (.s 68) (.c (.pure (.bool false)))⟩,
⟨some 70, none, .pick (.s 61) (.c (.pure (.bool true))) (.s 69)⟩,
⟨some 71, none, .mov (.s 70)⟩,
⟨some 72, some (71, false), .mov (.s 0)⟩,
⟨some 73, some (71, false), .bin .neq (.s 72) (.c (.pure (.int .i64 3)))⟩,
⟨some 74, some (71, false), .mov (.s 73)⟩,
⟨some 75, some (74, true), .fldA 2 (.s 3)⟩,
⟨some 76, some (74, true), .load false 1 (.s 75)⟩,
⟨some 77, some (74, true), .len (.s 76)⟩,
⟨some 78, some (74, true), .bin .gtr (.s 77) (.c (.pure (.int .i64 0)))⟩,
⟨some 79, some (71, false), .pick (.s 74) (.s 78) (.c (.pure (.bool false)))⟩,
⟨some 80, none, .pick (.s 71) (.c (.pure (.bool true))) (.s 79)⟩,
⟨some 81, none, .mov (.s 80)⟩,
⟨some 82, some (81, false), .mov (.s 7)⟩,
⟨some 83, some (81, false), .un .not (.s 82)⟩,
⟨some 84, some (81, false), .mov (.s 83)⟩,
⟨some 85, some (84, true), .fldA 4 (.s 3)⟩,
⟨some 86, some (84, true), .load false 1 (.s 85)⟩,
⟨some 87, some (84, true), .len (.s 86)⟩,
⟨some 88, some (84, true), .fldA 6 (.s 3)⟩,
⟨some 89, some (84, true), .load false 1 (.s 88)⟩,
⟨some 90, some (84, true), .len (.s 89)⟩,
⟨some 91, some (84, true), .bin .add (.s 87) (.s 90)⟩,
⟨some 92, some (84, true), .bin .gtr (.s 91) (.c (.pure (.int .i64 0)))⟩,
⟨some 93, some (81, false), .pick (.s 84) (.s 92) (.c (.pure (.bool false)))⟩,
⟨some 94, none, .pick (.s 81) (.c (.pure (.bool true))) (.s 93)⟩])
 (.cond (.s 94)
 (.seq (.reg [⟨some 4, none, .mov (.c (.pure (.bool false)))⟩])
 .ret)
 .skip))
 (.seq (.seq (.reg [⟨some 95, none, .mov (.s 7)⟩,
⟨some 96, none, .un .not (.s 95)⟩,
⟨some 97, none, .mov (.s 96)⟩,
⟨some 98, some (97, true), .mov (.s 0)⟩,
⟨some 99, some (97, true), .bin .neq (.s 98) (.c (.pure (.int .i64 5)))⟩,
⟨some 100, none, .pick (.s 97) (.s 99) (.c (.pure (.bool false)))⟩,
⟨some 101, none, .mov (.s 100)⟩,
⟨some 102, some (101, true), .fldA 3 (.s 3)⟩,
⟨some 103, some (101, true), .load false 1 (.s 102)⟩,
⟨some 104, some (101, true), .len (.s 103)⟩,
⟨some 105, some (101, true), .fldA 5 (.s 3)⟩,
⟨some 106, some (101, true), .load false 1 (.s 105)⟩,
⟨some 107, some (101, true), .len (.s 106)⟩,
⟨some 108, some (101, true), .bin .add (.s 104) (.s 107)⟩,
⟨some 109, some (101, true), .bin .gtr (.s 108) (.c (.pure (.int .i64 0)))⟩,
⟨some 110, none, .pick (.s 101) (.s 109) (.c (.pure (.bool false)))⟩,
⟨some 111, none, .mov (.s 110)⟩,
⟨some 112, some (111, false), .mov (.s 0)⟩,
⟨some 113, some (111, false), .bin .neq (.s 112) (.c (.pure (.int .i64 6)))⟩,
⟨some 114, some (111, false), .mov (.s 113)⟩,
⟨some 115, some (114, true), .fldA 7 (.s 3)⟩,
⟨some 116, some (114, true), .load false 1 (.s 115)⟩,
⟨some 117, some (114, true), .len (.s 116)⟩,
⟨some 118, some (114, true), .bin .gtr (.s 117) (.c (.pure (.int .i64 0)))⟩,
⟨some 119, some (111, false), .pick (.s 114) (.s 118) (.c (.pure (.bool false)))⟩,
⟨some 120, none, .pick (.s 111) (.c (.pure (.bool true))) (.s 119)⟩,
⟨some 121, none, .mov (.s 120)⟩,
⟨some 122, some (121, false), .mov (.s 0)⟩,
⟨some 123, some (121, false), .bin .neq (.s 122) (.c (.pure (.int .i64 7)))⟩,
⟨some 124, some (121, false), .mov (.s 123)⟩,
⟨some 125, some (124, true), .fldA 8 (.s 3)⟩,
⟨some 126, some (124, true), .load false 1 (.s 125)⟩,
⟨some 127, some (124, true), .len (.s 126)⟩,
⟨some 128, some (124, true), .bin .gtr (.s 127) (.c (.pure (.int .i64 0)))⟩,
⟨some 129, some (121, false), .pick (.s 124) (.s 128) (.c (.pure (.bool false)))⟩,
⟨some 130, none, .pick (.s 121) (.c (.pure (.bool true))) (.s 129)⟩])
 (.cond (.s 130)
 (.seq (.reg [⟨some 4, none, .mov (.c (.pure (.bool false)))⟩])
 .ret)
 .skip))
 (.seq (.reg [⟨some 131, none, .mov (.s 0)⟩,
⟨some 132, none, .bin .eql (.s 131) (.c (.pure (.int .i64 8)))⟩,
⟨some 133, none, .mov (.s 132)⟩,
⟨some 134, some (133, false), .fldA 9 (.s 3)⟩,
⟨some 135, some (133, false), .load false 1 (.s 134)⟩,
⟨some 136, some (133, false), .len (.s 135)⟩,
⟨some 137, some (133, false), .bin .eql (.s 136) (.c (.pure (.int .i64 0)))⟩,
⟨some 138, none, .pick (.s 133) (.c (.pure (.bool true))) (.s 137)⟩,
⟨some 139, none, .mov (.s 138)⟩,
⟨some 140, some (139, true), .mov (.s 8)⟩,
⟨some 141, some (139, true), .mov (.s 140)⟩,
⟨some 142, some (141, false), .fldA 10 (.s 3)⟩,
⟨some 143, some (141, false), .load false 1 (.s 142)⟩,
⟨some 144, some (141, false), .len (.s 143)⟩,
⟨some 145, some (141, false), .fldA 11 (.s 3)⟩,
⟨some 146, some (141, false), .load false 1 (.s 145)⟩,
⟨some 147, some (141, false), .len (.s 146)⟩,
⟨some 148, some (141, false), .bin .add (.s 144) (.s 147)⟩,
⟨some 149, some (141, false), .bin .eql (.s 148) (.c (.pure (.int .i64 0)))⟩,
⟨some 150, some (139, true), .pick (.s 141) (.c (.pure (.bool true))) (.s 149)⟩,
⟨some 151, none, .pick (.s 139) (.s 150) (.c (.pure (.bool false)))⟩,
⟨some 4, none, .mov (.s 151)⟩])
 .ret))))))))
theorem k92 : OkF 92 Try.f92 c92 [.t 4] 152 := ⟨Try.func92, by kernel_rfl, by kernel_rfl, by kernel_rfl, Try.ntmps92⟩
theorem bare_q (k : Int) (s : Sub) : FnQ Try.prog 92 [I k, sub s] [.bool (bareB k s)] := by
 refine k92.q (by simp) ?_
 unfold c92
 generalize ho : bareB k s = out
 by_cases e1 : k = 1
 ·subst e1
  have hr : (decide (s.ligs.length = 0) && (decide (sumE s.inn.length s.nests.length ≤ 0) && (decide (sumE s.back.length s.ahead.length ≤ 0) && (decide (s.values.length = 0) && (decide (s.pairs.length = 0) && (decide (s.curs.length = 0) && decide (sumE s.marks.length s.hosts.length = 0))))))) = out := by rw [← ho]; simp [bareB, kCov, kTo, kRow, kHang, Bool.and_assoc]
  simp -implicitDefEqProofs only [vmp,↓vmd,seval]
  refine onIf_intro fun _ => ?_
  (first | apply envO | apply envQ); simp -implicitDefEqProofs only [vmp,↓vmd,seval]; rfl
  simp -implicitDefEqProofs only [vmp,↓vmd,seval]
  refine onB_dec (fun t1 => ?_) (fun t1 => ?_)
  ·rw [decide_eq_false (show ¬ s.ligs.length = 0 by omega)] at hr
   simp only [Bool.false_and, Bool.true_and, Bool.and_false, Bool.and_true, Bool.false_or, Bool.true_or, Bool.or_false, Bool.or_true, Bool.not_true, Bool.not_false] at hr
   subst hr
   (first | apply envO | apply envQ); simp -implicitDefEqProofs only [t1, vmp,↓vmd,seval]; rfl
   simp -implicitDefEqProofs only [t1, vmp,↓vmd,seval]
   exact gives_pure
  ·rw [decide_eq_true (show s.ligs.length = 0 by omega)] at hr
   simp only [Bool.false_and, Bool.true_and, Bool.and_false, Bool.and_true, Bool.false_or, Bool.true_or, Bool.or_false, Bool.or_true, Bool.not_true, Bool.not_false] at hr
   (first | apply envO | apply envQ); simp -implicitDefEqProofs only [t1, vmp,↓vmd,seval]; rfl
   simp -implicitDefEqProofs only [t1, vmp,↓vmd,seval]
   refine onIf_intro fun _ => ?_
   (first | apply envO | apply envQ); simp -implicitDefEqProofs only [vmp,↓vmd,seval]; rfl
   simp -implicitDefEqProofs only [vmp,↓vmd,seval]
   refine onIf_intro fun _ => ?_
   (first | apply envO | apply envQ); simp -implicitDefEqProofs only [vmp,↓vmd,seval]; rfl
   simp -implicitDefEqProofs only [vmp,↓vmd,seval]
   refine onB_dec (fun t2 => ?_) (fun t2 => ?_)
   ·rw [decide_eq_false (show ¬ sumE s.inn.length s.nests.length ≤ 0 from Int.not_le.2 t2)] at hr
    simp only [Bool.false_and, Bool.true_and, Bool.and_false, Bool.and_true, Bool.false_or, Bool.true_or, Bool.or_false, Bool.or_true, Bool.not_true, Bool.not_false] at hr
    subst hr
    (first | apply envO | apply envQ); simp -implicitDefEqProofs only [t2, vmp,↓vmd,seval]; rfl
    simp -implicitDefEqProofs only [t2, vmp,↓vmd,seval]
    exact gives_pure
   ·rw [decide_eq_true (show sumE s.inn.length s.nests.length ≤ 0 from Int.not_lt.1 t2)] at hr
    simp only [Bool.false_and, Bool.true_and, Bool.and_false, Bool.and_true, Bool.false_or, Bool.true_or, Bool.or_false, Bool.or_true, Bool.not_true, Bool.not_false] at hr
    (first | apply envO | apply envQ); simp -implicitDefEqProofs only [t2, vmp,↓vmd,seval]; rfl
    simp -implicitDefEqProofs only [t2, vmp,↓vmd,seval]
    refine onIf_intro fun _ => ?_
    (first | apply envO | apply envQ); simp -implicitDefEqProofs only [vmp,↓vmd,seval]; rfl
    simp -implicitDefEqProofs only [vmp,↓vmd,seval]
    refine onIf_intro fun _ => ?_
    (first | apply envO | apply envQ); simp -implicitDefEqProofs only [vmp,↓vmd,seval]; rfl
    simp -implicitDefEqProofs only [vmp,↓vmd,seval]
    refine onB_dec (fun t3 => ?_) (fun t3 => ?_)
    ·rw [decide_eq_false (show ¬ sumE s.back.length s.ahead.length ≤ 0 from Int.not_le.2 t3)] at hr
     simp only [Bool.false_and, Bool.true_and, Bool.and_false, Bool.and_true, Bool.false_or, Bool.true_or, Bool.or_false, Bool.or_true, Bool.not_true, Bool.not_false] at hr
     subst hr
     (first | apply envO | apply envQ); simp -implicitDefEqProofs only [t3, vmp,↓vmd,seval]; rfl
     simp -implicitDefEqProofs only [t3, vmp,↓vmd,seval]
     exact gives_pure
    ·rw [decide_eq_true (show sumE s.back.length s.ahead.length ≤ 0 from Int.not_lt.1 t3)] at hr
     simp only [Bool.false_and, Bool.true_and, Bool.and_false, Bool.and_true, Bool.false_or, Bool.true_or, Bool.or_false, Bool.or_true, Bool.not_true, Bool.not_false] at hr
     (first | apply envO | apply envQ); simp -implicitDefEqProofs only [t3, vmp,↓vmd,seval]; rfl
     simp -implicitDefEqProofs only [t3, vmp,↓vmd,seval]
     refine onIf_intro fun _ => ?_
     (first | apply envO | apply envQ); simp -implicitDefEqProofs only [vmp,↓vmd,seval]; rfl
     simp -implicitDefEqProofs only [vmp,↓vmd,seval]
     refine onB_dec (fun t4 => ?_) (fun t4 => ?_)
     ·rw [decide_eq_false (show ¬ s.values.length = 0 by omega)] at hr
      simp only [Bool.false_and, Bool.true_and, Bool.and_false, Bool.and_true, Bool.false_or, Bool.true_or, Bool.or_false, Bool.or_true, Bool.not_true, Bool.not_false] at hr
      subst hr
      (first | apply envO | apply envQ); simp -implicitDefEqProofs only [t4, vmp,↓vmd,seval]; rfl
      simp -implicitDefEqProofs only [t4, vmp,↓vmd,seval]
      exact gives_pure
     ·rw [decide_eq_true (show s.values.length = 0 by omega)] at hr
      simp only [Bool.false_and, Bool.true_and, Bool.and_false, Bool.and_true, Bool.false_or, Bool.true_or, Bool.or_false, Bool.or_true, Bool.not_true, Bool.not_false] at hr
      (first | apply envO | apply envQ); simp -implicitDefEqProofs only [t4, vmp,↓vmd,seval]; rfl
      simp -implicitDefEqProofs only [t4, vmp,↓vmd,seval]
      refine onIf_intro fun _ => ?_
      (first | apply envO | apply envQ); simp -implicitDefEqProofs only [vmp,↓vmd,seval]; rfl
      simp -implicitDefEqProofs only [vmp,↓vmd,seval]
      refine onB_dec (fun t5 => ?_) (fun t5 => ?_)
      ·rw [decide_eq_false (show ¬ s.pairs.length = 0 by omega)] at hr
       simp only [Bool.false_and, Bool.true_and, Bool.and_false, Bool.and_true, Bool.false_or, Bool.true_or, Bool.or_false, Bool.or_true, Bool.not_true, Bool.not_false] at hr
       subst hr
       (first | apply envO | apply envQ); simp -implicitDefEqProofs only [t5, vmp,↓vmd,seval]; rfl
       simp -implicitDefEqProofs only [t5, vmp,↓vmd,seval]
       exact gives_pure
      ·rw [decide_eq_true (show s.pairs.length = 0 by omega)] at hr
       simp only [Bool.false_and, Bool.true_and, Bool.and_false, Bool.and_true, Bool.false_or, Bool.true_or, Bool.or_false, Bool.or_true, Bool.not_true, Bool.not_false] at hr
       (first | apply envO | apply envQ); simp -implicitDefEqProofs only [t5, vmp,↓vmd,seval]; rfl
       simp -implicitDefEqProofs only [t5, vmp,↓vmd,seval]
       refine onIf_intro fun _ => ?_
       (first | apply envO | apply envQ); simp -implicitDefEqProofs only [vmp,↓vmd,seval]; rfl
       simp -implicitDefEqProofs only [vmp,↓vmd,seval]
       refine onB_dec (fun t6 => ?_) (fun t6 => ?_)
       ·rw [decide_eq_true (show s.curs.length = 0 by omega)] at hr
        simp only [Bool.false_and, Bool.true_and, Bool.and_false, Bool.and_true, Bool.false_or, Bool.true_or, Bool.or_false, Bool.or_true, Bool.not_true, Bool.not_false] at hr
        (first | apply envO | apply envQ); simp -implicitDefEqProofs only [t6, vmp,↓vmd,seval]; rfl
        simp -implicitDefEqProofs only [t6, vmp,↓vmd,seval]
        refine onIf_intro fun _ => ?_
        (first | apply envO | apply envQ); simp -implicitDefEqProofs only [vmp,↓vmd,seval]; rfl
        simp -implicitDefEqProofs only [vmp,↓vmd,seval]
        refine onIf_intro fun _ => ?_
        (first | apply envO | apply envQ); simp -implicitDefEqProofs only [vmp,↓vmd,seval]; rfl
        simp -implicitDefEqProofs only [vmp,↓vmd,seval]
        rw [hr]
        exact gives_pure
       ·rw [decide_eq_false (show ¬ s.curs.length = 0 by omega)] at hr
        simp only [Bool.false_and, Bool.true_and, Bool.and_false, Bool.and_true, Bool.false_or, Bool.true_or, Bool.or_false, Bool.or_true, Bool.not_true, Bool.not_false] at hr
        subst hr
        (first | apply envO | apply envQ); simp -implicitDefEqProofs only [t6, vmp,↓vmd,seval]; rfl
        simp -implicitDefEqProofs only [t6, vmp,↓vmd,seval]
        exact gives_pure
 by_cases e2 : k = 2
 ·subst e2
  have hr : (decide (s.ligs.length = 0) && (decide (sumE s.inn.length s.nests.length ≤ 0) && (decide (sumE s.back.length s.ahead.length ≤ 0) && (decide (s.values.length = 0) && (decide (s.pairs.length = 0) && (decide (s.curs.length = 0) && decide (sumE s.marks.length s.hosts.length = 0))))))) = out := by rw [← ho]; simp [bareB, kCov, kTo, kRow, kHang, Bool.and_assoc]
  simp -implicitDefEqProofs only [vmp,↓vmd,seval]
  refine onIf_intro fun _ => ?_
  (first | apply envO | apply envQ); simp -implicitDefEqProofs only [vmp,↓vmd,seval]; rfl
  simp -implicitDefEqProofs only [vmp,↓vmd,seval]
  refine onB_dec (fun t1 => ?_) (fun t1 => ?_)
  ·rw [decide_eq_false (show ¬ s.ligs.length = 0 by omega)] at hr
   simp only [Bool.false_and, Bool.true_and, Bool.and_false, Bool.and_true, Bool.false_or, Bool.true_or, Bool.or_false, Bool.or_true, Bool.not_true, Bool.not_false] at hr
   subst hr
   (first | apply envO | apply envQ); simp -implicitDefEqProofs only [t1, vmp,↓vmd,seval]; rfl
   simp -implicitDefEqProofs only [t1, vmp,↓vmd,seval]
   exact gives_pure
  ·rw [decide_eq_true (show s.ligs.length = 0 by omega)] at hr
   simp only [Bool.false_and, Bool.true_and, Bool.and_false, Bool.and_true, Bool.false_or, Bool.true_or, Bool.or_false, Bool.or_true, Bool.not_true, Bool.not_false] at hr
   (first | apply envO | apply envQ); simp -implicitDefEqProofs only [t1, vmp,↓vmd,seval]; rfl
   simp -implicitDefEqProofs only [t1, vmp,↓vmd,seval]
   refine onIf_intro fun _ => ?_
   (first | apply envO | apply envQ); simp -implicitDefEqProofs only [vmp,↓vmd,seval]; rfl
   simp -implicitDefEqProofs only [vmp,↓vmd,seval]
   refine onIf_intro fun _ => ?_
   (first | apply envO | apply envQ); simp -implicitDefEqProofs only [vmp,↓vmd,seval]; rfl
   simp -implicitDefEqProofs only [vmp,↓vmd,seval]
   refine onB_dec (fun t2 => ?_) (fun t2 => ?_)
   ·rw [decide_eq_false (show ¬ sumE s.inn.length s.nests.length ≤ 0 from Int.not_le.2 t2)] at hr
    simp only [Bool.false_and, Bool.true_and, Bool.and_false, Bool.and_true, Bool.false_or, Bool.true_or, Bool.or_false, Bool.or_true, Bool.not_true, Bool.not_false] at hr
    subst hr
    (first | apply envO | apply envQ); simp -implicitDefEqProofs only [t2, vmp,↓vmd,seval]; rfl
    simp -implicitDefEqProofs only [t2, vmp,↓vmd,seval]
    exact gives_pure
   ·rw [decide_eq_true (show sumE s.inn.length s.nests.length ≤ 0 from Int.not_lt.1 t2)] at hr
    simp only [Bool.false_and, Bool.true_and, Bool.and_false, Bool.and_true, Bool.false_or, Bool.true_or, Bool.or_false, Bool.or_true, Bool.not_true, Bool.not_false] at hr
    (first | apply envO | apply envQ); simp -implicitDefEqProofs only [t2, vmp,↓vmd,seval]; rfl
    simp -implicitDefEqProofs only [t2, vmp,↓vmd,seval]
    refine onIf_intro fun _ => ?_
    (first | apply envO | apply envQ); simp -implicitDefEqProofs only [vmp,↓vmd,seval]; rfl
    simp -implicitDefEqProofs only [vmp,↓vmd,seval]
    refine onIf_intro fun _ => ?_
    (first | apply envO | apply envQ); simp -implicitDefEqProofs only [vmp,↓vmd,seval]; rfl
    simp -implicitDefEqProofs only [vmp,↓vmd,seval]
    refine onB_dec (fun t3 => ?_) (fun t3 => ?_)
    ·rw [decide_eq_false (show ¬ sumE s.back.length s.ahead.length ≤ 0 from Int.not_le.2 t3)] at hr
     simp only [Bool.false_and, Bool.true_and, Bool.and_false, Bool.and_true, Bool.false_or, Bool.true_or, Bool.or_false, Bool.or_true, Bool.not_true, Bool.not_false] at hr
     subst hr
     (first | apply envO | apply envQ); simp -implicitDefEqProofs only [t3, vmp,↓vmd,seval]; rfl
     simp -implicitDefEqProofs only [t3, vmp,↓vmd,seval]
     exact gives_pure
    ·rw [decide_eq_true (show sumE s.back.length s.ahead.length ≤ 0 from Int.not_lt.1 t3)] at hr
     simp only [Bool.false_and, Bool.true_and, Bool.and_false, Bool.and_true, Bool.false_or, Bool.true_or, Bool.or_false, Bool.or_true, Bool.not_true, Bool.not_false] at hr
     (first | apply envO | apply envQ); simp -implicitDefEqProofs only [t3, vmp,↓vmd,seval]; rfl
     simp -implicitDefEqProofs only [t3, vmp,↓vmd,seval]
     refine onIf_intro fun _ => ?_
     (first | apply envO | apply envQ); simp -implicitDefEqProofs only [vmp,↓vmd,seval]; rfl
     simp -implicitDefEqProofs only [vmp,↓vmd,seval]
     refine onB_dec (fun t4 => ?_) (fun t4 => ?_)
     ·rw [decide_eq_false (show ¬ s.values.length = 0 by omega)] at hr
      simp only [Bool.false_and, Bool.true_and, Bool.and_false, Bool.and_true, Bool.false_or, Bool.true_or, Bool.or_false, Bool.or_true, Bool.not_true, Bool.not_false] at hr
      subst hr
      (first | apply envO | apply envQ); simp -implicitDefEqProofs only [t4, vmp,↓vmd,seval]; rfl
      simp -implicitDefEqProofs only [t4, vmp,↓vmd,seval]
      exact gives_pure
     ·rw [decide_eq_true (show s.values.length = 0 by omega)] at hr
      simp only [Bool.false_and, Bool.true_and, Bool.and_false, Bool.and_true, Bool.false_or, Bool.true_or, Bool.or_false, Bool.or_true, Bool.not_true, Bool.not_false] at hr
      (first | apply envO | apply envQ); simp -implicitDefEqProofs only [t4, vmp,↓vmd,seval]; rfl
      simp -implicitDefEqProofs only [t4, vmp,↓vmd,seval]
      refine onIf_intro fun _ => ?_
      (first | apply envO | apply envQ); simp -implicitDefEqProofs only [vmp,↓vmd,seval]; rfl
      simp -implicitDefEqProofs only [vmp,↓vmd,seval]
      refine onB_dec (fun t5 => ?_) (fun t5 => ?_)
      ·rw [decide_eq_false (show ¬ s.pairs.length = 0 by omega)] at hr
       simp only [Bool.false_and, Bool.true_and, Bool.and_false, Bool.and_true, Bool.false_or, Bool.true_or, Bool.or_false, Bool.or_true, Bool.not_true, Bool.not_false] at hr
       subst hr
       (first | apply envO | apply envQ); simp -implicitDefEqProofs only [t5, vmp,↓vmd,seval]; rfl
       simp -implicitDefEqProofs only [t5, vmp,↓vmd,seval]
       exact gives_pure
      ·rw [decide_eq_true (show s.pairs.length = 0 by omega)] at hr
       simp only [Bool.false_and, Bool.true_and, Bool.and_false, Bool.and_true, Bool.false_or, Bool.true_or, Bool.or_false, Bool.or_true, Bool.not_true, Bool.not_false] at hr
       (first | apply envO | apply envQ); simp -implicitDefEqProofs only [t5, vmp,↓vmd,seval]; rfl
       simp -implicitDefEqProofs only [t5, vmp,↓vmd,seval]
       refine onIf_intro fun _ => ?_
       (first | apply envO | apply envQ); simp -implicitDefEqProofs only [vmp,↓vmd,seval]; rfl
       simp -implicitDefEqProofs only [vmp,↓vmd,seval]
       refine onB_dec (fun t6 => ?_) (fun t6 => ?_)
       ·rw [decide_eq_true (show s.curs.length = 0 by omega)] at hr
        simp only [Bool.false_and, Bool.true_and, Bool.and_false, Bool.and_true, Bool.false_or, Bool.true_or, Bool.or_false, Bool.or_true, Bool.not_true, Bool.not_false] at hr
        (first | apply envO | apply envQ); simp -implicitDefEqProofs only [t6, vmp,↓vmd,seval]; rfl
        simp -implicitDefEqProofs only [t6, vmp,↓vmd,seval]
        refine onIf_intro fun _ => ?_
        (first | apply envO | apply envQ); simp -implicitDefEqProofs only [vmp,↓vmd,seval]; rfl
        simp -implicitDefEqProofs only [vmp,↓vmd,seval]
        refine onIf_intro fun _ => ?_
        (first | apply envO | apply envQ); simp -implicitDefEqProofs only [vmp,↓vmd,seval]; rfl
        simp -implicitDefEqProofs only [vmp,↓vmd,seval]
        rw [hr]
        exact gives_pure
       ·rw [decide_eq_false (show ¬ s.curs.length = 0 by omega)] at hr
        simp only [Bool.false_and, Bool.true_and, Bool.and_false, Bool.and_true, Bool.false_or, Bool.true_or, Bool.or_false, Bool.or_true, Bool.not_true, Bool.not_false] at hr
        subst hr
        (first | apply envO | apply envQ); simp -implicitDefEqProofs only [t6, vmp,↓vmd,seval]; rfl
        simp -implicitDefEqProofs only [t6, vmp,↓vmd,seval]
        exact gives_pure
 by_cases e3 : k = 3
 ·subst e3
  have hr : (decide (s.to.length = 0) && (decide (sumE s.inn.length s.nests.length ≤ 0) && (decide (sumE s.back.length s.ahead.length ≤ 0) && (decide (s.values.length = 0) && (decide (s.pairs.length = 0) && (decide (s.curs.length = 0) && decide (sumE s.marks.length s.hosts.length = 0))))))) = out := by rw [← ho]; simp [bareB, kCov, kTo, kRow, kHang, Bool.and_assoc]
  simp -implicitDefEqProofs only [vmp,↓vmd,seval]
  refine onIf_intro fun _ => ?_
  (first | apply envO | apply envQ); simp -implicitDefEqProofs only [vmp,↓vmd,seval]; rfl
  simp -implicitDefEqProofs only [vmp,↓vmd,seval]
  refine onB_dec (fun t1 => ?_) (fun t1 => ?_)
  ·rw [decide_eq_false (show ¬ s.to.length = 0 by omega)] at hr
   simp only [Bool.false_and, Bool.true_and, Bool.and_false, Bool.and_true, Bool.false_or, Bool.true_or, Bool.or_false, Bool.or_true, Bool.not_true, Bool.not_false] at hr
   subst hr
   (first | apply envO | apply envQ); simp -implicitDefEqProofs only [t1, vmp,↓vmd,seval]; rfl
   simp -implicitDefEqProofs only [t1, vmp,↓vmd,seval]
   exact gives_pure
  ·rw [decide_eq_true (show s.to.length = 0 by omega)] at hr
   simp only [Bool.false_and, Bool.true_and, Bool.and_false, Bool.and_true, Bool.false_or, Bool.true_or, Bool.or_false, Bool.or_true, Bool.not_true, Bool.not_false] at hr
   (first | apply envO | apply envQ); simp -implicitDefEqProofs only [t1, vmp,↓vmd,seval]; rfl
   simp -implicitDefEqProofs only [t1, vmp,↓vmd,seval]
   refine onIf_intro fun _ => ?_
   (first | apply envO | apply envQ); simp -implicitDefEqProofs only [vmp,↓vmd,seval]; rfl
   simp -implicitDefEqProofs only [vmp,↓vmd,seval]
   refine onIf_intro fun _ => ?_
   (first | apply envO | apply envQ); simp -implicitDefEqProofs only [vmp,↓vmd,seval]; rfl
   simp -implicitDefEqProofs only [vmp,↓vmd,seval]
   refine onB_dec (fun t2 => ?_) (fun t2 => ?_)
   ·rw [decide_eq_false (show ¬ sumE s.inn.length s.nests.length ≤ 0 from Int.not_le.2 t2)] at hr
    simp only [Bool.false_and, Bool.true_and, Bool.and_false, Bool.and_true, Bool.false_or, Bool.true_or, Bool.or_false, Bool.or_true, Bool.not_true, Bool.not_false] at hr
    subst hr
    (first | apply envO | apply envQ); simp -implicitDefEqProofs only [t2, vmp,↓vmd,seval]; rfl
    simp -implicitDefEqProofs only [t2, vmp,↓vmd,seval]
    exact gives_pure
   ·rw [decide_eq_true (show sumE s.inn.length s.nests.length ≤ 0 from Int.not_lt.1 t2)] at hr
    simp only [Bool.false_and, Bool.true_and, Bool.and_false, Bool.and_true, Bool.false_or, Bool.true_or, Bool.or_false, Bool.or_true, Bool.not_true, Bool.not_false] at hr
    (first | apply envO | apply envQ); simp -implicitDefEqProofs only [t2, vmp,↓vmd,seval]; rfl
    simp -implicitDefEqProofs only [t2, vmp,↓vmd,seval]
    refine onIf_intro fun _ => ?_
    (first | apply envO | apply envQ); simp -implicitDefEqProofs only [vmp,↓vmd,seval]; rfl
    simp -implicitDefEqProofs only [vmp,↓vmd,seval]
    refine onIf_intro fun _ => ?_
    (first | apply envO | apply envQ); simp -implicitDefEqProofs only [vmp,↓vmd,seval]; rfl
    simp -implicitDefEqProofs only [vmp,↓vmd,seval]
    refine onB_dec (fun t3 => ?_) (fun t3 => ?_)
    ·rw [decide_eq_false (show ¬ sumE s.back.length s.ahead.length ≤ 0 from Int.not_le.2 t3)] at hr
     simp only [Bool.false_and, Bool.true_and, Bool.and_false, Bool.and_true, Bool.false_or, Bool.true_or, Bool.or_false, Bool.or_true, Bool.not_true, Bool.not_false] at hr
     subst hr
     (first | apply envO | apply envQ); simp -implicitDefEqProofs only [t3, vmp,↓vmd,seval]; rfl
     simp -implicitDefEqProofs only [t3, vmp,↓vmd,seval]
     exact gives_pure
    ·rw [decide_eq_true (show sumE s.back.length s.ahead.length ≤ 0 from Int.not_lt.1 t3)] at hr
     simp only [Bool.false_and, Bool.true_and, Bool.and_false, Bool.and_true, Bool.false_or, Bool.true_or, Bool.or_false, Bool.or_true, Bool.not_true, Bool.not_false] at hr
     (first | apply envO | apply envQ); simp -implicitDefEqProofs only [t3, vmp,↓vmd,seval]; rfl
     simp -implicitDefEqProofs only [t3, vmp,↓vmd,seval]
     refine onIf_intro fun _ => ?_
     (first | apply envO | apply envQ); simp -implicitDefEqProofs only [vmp,↓vmd,seval]; rfl
     simp -implicitDefEqProofs only [vmp,↓vmd,seval]
     refine onB_dec (fun t4 => ?_) (fun t4 => ?_)
     ·rw [decide_eq_false (show ¬ s.values.length = 0 by omega)] at hr
      simp only [Bool.false_and, Bool.true_and, Bool.and_false, Bool.and_true, Bool.false_or, Bool.true_or, Bool.or_false, Bool.or_true, Bool.not_true, Bool.not_false] at hr
      subst hr
      (first | apply envO | apply envQ); simp -implicitDefEqProofs only [t4, vmp,↓vmd,seval]; rfl
      simp -implicitDefEqProofs only [t4, vmp,↓vmd,seval]
      exact gives_pure
     ·rw [decide_eq_true (show s.values.length = 0 by omega)] at hr
      simp only [Bool.false_and, Bool.true_and, Bool.and_false, Bool.and_true, Bool.false_or, Bool.true_or, Bool.or_false, Bool.or_true, Bool.not_true, Bool.not_false] at hr
      (first | apply envO | apply envQ); simp -implicitDefEqProofs only [t4, vmp,↓vmd,seval]; rfl
      simp -implicitDefEqProofs only [t4, vmp,↓vmd,seval]
      refine onIf_intro fun _ => ?_
      (first | apply envO | apply envQ); simp -implicitDefEqProofs only [vmp,↓vmd,seval]; rfl
      simp -implicitDefEqProofs only [vmp,↓vmd,seval]
      refine onB_dec (fun t5 => ?_) (fun t5 => ?_)
      ·rw [decide_eq_false (show ¬ s.pairs.length = 0 by omega)] at hr
       simp only [Bool.false_and, Bool.true_and, Bool.and_false, Bool.and_true, Bool.false_or, Bool.true_or, Bool.or_false, Bool.or_true, Bool.not_true, Bool.not_false] at hr
       subst hr
       (first | apply envO | apply envQ); simp -implicitDefEqProofs only [t5, vmp,↓vmd,seval]; rfl
       simp -implicitDefEqProofs only [t5, vmp,↓vmd,seval]
       exact gives_pure
      ·rw [decide_eq_true (show s.pairs.length = 0 by omega)] at hr
       simp only [Bool.false_and, Bool.true_and, Bool.and_false, Bool.and_true, Bool.false_or, Bool.true_or, Bool.or_false, Bool.or_true, Bool.not_true, Bool.not_false] at hr
       (first | apply envO | apply envQ); simp -implicitDefEqProofs only [t5, vmp,↓vmd,seval]; rfl
       simp -implicitDefEqProofs only [t5, vmp,↓vmd,seval]
       refine onIf_intro fun _ => ?_
       (first | apply envO | apply envQ); simp -implicitDefEqProofs only [vmp,↓vmd,seval]; rfl
       simp -implicitDefEqProofs only [vmp,↓vmd,seval]
       refine onB_dec (fun t6 => ?_) (fun t6 => ?_)
       ·rw [decide_eq_true (show s.curs.length = 0 by omega)] at hr
        simp only [Bool.false_and, Bool.true_and, Bool.and_false, Bool.and_true, Bool.false_or, Bool.true_or, Bool.or_false, Bool.or_true, Bool.not_true, Bool.not_false] at hr
        (first | apply envO | apply envQ); simp -implicitDefEqProofs only [t6, vmp,↓vmd,seval]; rfl
        simp -implicitDefEqProofs only [t6, vmp,↓vmd,seval]
        refine onIf_intro fun _ => ?_
        (first | apply envO | apply envQ); simp -implicitDefEqProofs only [vmp,↓vmd,seval]; rfl
        simp -implicitDefEqProofs only [vmp,↓vmd,seval]
        refine onIf_intro fun _ => ?_
        (first | apply envO | apply envQ); simp -implicitDefEqProofs only [vmp,↓vmd,seval]; rfl
        simp -implicitDefEqProofs only [vmp,↓vmd,seval]
        rw [hr]
        exact gives_pure
       ·rw [decide_eq_false (show ¬ s.curs.length = 0 by omega)] at hr
        simp only [Bool.false_and, Bool.true_and, Bool.and_false, Bool.and_true, Bool.false_or, Bool.true_or, Bool.or_false, Bool.or_true, Bool.not_true, Bool.not_false] at hr
        subst hr
        (first | apply envO | apply envQ); simp -implicitDefEqProofs only [t6, vmp,↓vmd,seval]; rfl
        simp -implicitDefEqProofs only [t6, vmp,↓vmd,seval]
        exact gives_pure
 by_cases e4 : k = 4
 ·subst e4
  have hr : (decide (s.cover.length = 0) && (decide (s.to.length = 0) && (decide (s.ligs.length = 0) && (decide (s.values.length = 0) && (decide (s.pairs.length = 0) && (decide (s.curs.length = 0) && decide (sumE s.marks.length s.hosts.length = 0))))))) = out := by rw [← ho]; simp [bareB, kCov, kTo, kRow, kHang, Bool.and_assoc]
  simp -implicitDefEqProofs only [vmp,↓vmd,seval]
  refine onIf_intro fun _ => ?_
  (first | apply envO | apply envQ); simp -implicitDefEqProofs only [vmp,↓vmd,seval]; rfl
  simp -implicitDefEqProofs only [vmp,↓vmd,seval]
  refine onB_dec (fun t1 => ?_) (fun t1 => ?_)
  ·rw [decide_eq_false (show ¬ s.cover.length = 0 by omega)] at hr
   simp only [Bool.false_and, Bool.true_and, Bool.and_false, Bool.and_true, Bool.false_or, Bool.true_or, Bool.or_false, Bool.or_true, Bool.not_true, Bool.not_false] at hr
   subst hr
   (first | apply envO | apply envQ); simp -implicitDefEqProofs only [t1, vmp,↓vmd,seval]; rfl
   simp -implicitDefEqProofs only [t1, vmp,↓vmd,seval]
   exact gives_pure
  ·rw [decide_eq_true (show s.cover.length = 0 by omega)] at hr
   simp only [Bool.false_and, Bool.true_and, Bool.and_false, Bool.and_true, Bool.false_or, Bool.true_or, Bool.or_false, Bool.or_true, Bool.not_true, Bool.not_false] at hr
   (first | apply envO | apply envQ); simp -implicitDefEqProofs only [t1, vmp,↓vmd,seval]; rfl
   simp -implicitDefEqProofs only [t1, vmp,↓vmd,seval]
   refine onIf_intro fun _ => ?_
   (first | apply envO | apply envQ); simp -implicitDefEqProofs only [vmp,↓vmd,seval]; rfl
   simp -implicitDefEqProofs only [vmp,↓vmd,seval]
   refine onB_dec (fun t2 => ?_) (fun t2 => ?_)
   ·rw [decide_eq_false (show ¬ s.to.length = 0 by omega)] at hr
    simp only [Bool.false_and, Bool.true_and, Bool.and_false, Bool.and_true, Bool.false_or, Bool.true_or, Bool.or_false, Bool.or_true, Bool.not_true, Bool.not_false] at hr
    subst hr
    (first | apply envO | apply envQ); simp -implicitDefEqProofs only [t2, vmp,↓vmd,seval]; rfl
    simp -implicitDefEqProofs only [t2, vmp,↓vmd,seval]
    exact gives_pure
   ·rw [decide_eq_true (show s.to.length = 0 by omega)] at hr
    simp only [Bool.false_and, Bool.true_and, Bool.and_false, Bool.and_true, Bool.false_or, Bool.true_or, Bool.or_false, Bool.or_true, Bool.not_true, Bool.not_false] at hr
    (first | apply envO | apply envQ); simp -implicitDefEqProofs only [t2, vmp,↓vmd,seval]; rfl
    simp -implicitDefEqProofs only [t2, vmp,↓vmd,seval]
    refine onIf_intro fun _ => ?_
    (first | apply envO | apply envQ); simp -implicitDefEqProofs only [vmp,↓vmd,seval]; rfl
    simp -implicitDefEqProofs only [vmp,↓vmd,seval]
    refine onB_dec (fun t3 => ?_) (fun t3 => ?_)
    ·rw [decide_eq_false (show ¬ s.ligs.length = 0 by omega)] at hr
     simp only [Bool.false_and, Bool.true_and, Bool.and_false, Bool.and_true, Bool.false_or, Bool.true_or, Bool.or_false, Bool.or_true, Bool.not_true, Bool.not_false] at hr
     subst hr
     (first | apply envO | apply envQ); simp -implicitDefEqProofs only [t3, vmp,↓vmd,seval]; rfl
     simp -implicitDefEqProofs only [t3, vmp,↓vmd,seval]
     exact gives_pure
    ·rw [decide_eq_true (show s.ligs.length = 0 by omega)] at hr
     simp only [Bool.false_and, Bool.true_and, Bool.and_false, Bool.and_true, Bool.false_or, Bool.true_or, Bool.or_false, Bool.or_true, Bool.not_true, Bool.not_false] at hr
     (first | apply envO | apply envQ); simp -implicitDefEqProofs only [t3, vmp,↓vmd,seval]; rfl
     simp -implicitDefEqProofs only [t3, vmp,↓vmd,seval]
     refine onIf_intro fun _ => ?_
     (first | apply envO | apply envQ); simp -implicitDefEqProofs only [vmp,↓vmd,seval]; rfl
     simp -implicitDefEqProofs only [vmp,↓vmd,seval]
     refine onB_dec (fun t4 => ?_) (fun t4 => ?_)
     ·rw [decide_eq_false (show ¬ s.values.length = 0 by omega)] at hr
      simp only [Bool.false_and, Bool.true_and, Bool.and_false, Bool.and_true, Bool.false_or, Bool.true_or, Bool.or_false, Bool.or_true, Bool.not_true, Bool.not_false] at hr
      subst hr
      (first | apply envO | apply envQ); simp -implicitDefEqProofs only [t4, vmp,↓vmd,seval]; rfl
      simp -implicitDefEqProofs only [t4, vmp,↓vmd,seval]
      exact gives_pure
     ·rw [decide_eq_true (show s.values.length = 0 by omega)] at hr
      simp only [Bool.false_and, Bool.true_and, Bool.and_false, Bool.and_true, Bool.false_or, Bool.true_or, Bool.or_false, Bool.or_true, Bool.not_true, Bool.not_false] at hr
      (first | apply envO | apply envQ); simp -implicitDefEqProofs only [t4, vmp,↓vmd,seval]; rfl
      simp -implicitDefEqProofs only [t4, vmp,↓vmd,seval]
      refine onIf_intro fun _ => ?_
      (first | apply envO | apply envQ); simp -implicitDefEqProofs only [vmp,↓vmd,seval]; rfl
      simp -implicitDefEqProofs only [vmp,↓vmd,seval]
      refine onB_dec (fun t5 => ?_) (fun t5 => ?_)
      ·rw [decide_eq_false (show ¬ s.pairs.length = 0 by omega)] at hr
       simp only [Bool.false_and, Bool.true_and, Bool.and_false, Bool.and_true, Bool.false_or, Bool.true_or, Bool.or_false, Bool.or_true, Bool.not_true, Bool.not_false] at hr
       subst hr
       (first | apply envO | apply envQ); simp -implicitDefEqProofs only [t5, vmp,↓vmd,seval]; rfl
       simp -implicitDefEqProofs only [t5, vmp,↓vmd,seval]
       exact gives_pure
      ·rw [decide_eq_true (show s.pairs.length = 0 by omega)] at hr
       simp only [Bool.false_and, Bool.true_and, Bool.and_false, Bool.and_true, Bool.false_or, Bool.true_or, Bool.or_false, Bool.or_true, Bool.not_true, Bool.not_false] at hr
       (first | apply envO | apply envQ); simp -implicitDefEqProofs only [t5, vmp,↓vmd,seval]; rfl
       simp -implicitDefEqProofs only [t5, vmp,↓vmd,seval]
       refine onIf_intro fun _ => ?_
       (first | apply envO | apply envQ); simp -implicitDefEqProofs only [vmp,↓vmd,seval]; rfl
       simp -implicitDefEqProofs only [vmp,↓vmd,seval]
       refine onB_dec (fun t6 => ?_) (fun t6 => ?_)
       ·rw [decide_eq_true (show s.curs.length = 0 by omega)] at hr
        simp only [Bool.false_and, Bool.true_and, Bool.and_false, Bool.and_true, Bool.false_or, Bool.true_or, Bool.or_false, Bool.or_true, Bool.not_true, Bool.not_false] at hr
        (first | apply envO | apply envQ); simp -implicitDefEqProofs only [t6, vmp,↓vmd,seval]; rfl
        simp -implicitDefEqProofs only [t6, vmp,↓vmd,seval]
        refine onIf_intro fun _ => ?_
        (first | apply envO | apply envQ); simp -implicitDefEqProofs only [vmp,↓vmd,seval]; rfl
        simp -implicitDefEqProofs only [vmp,↓vmd,seval]
        refine onIf_intro fun _ => ?_
        (first | apply envO | apply envQ); simp -implicitDefEqProofs only [vmp,↓vmd,seval]; rfl
        simp -implicitDefEqProofs only [vmp,↓vmd,seval]
        rw [hr]
        exact gives_pure
       ·rw [decide_eq_false (show ¬ s.curs.length = 0 by omega)] at hr
        simp only [Bool.false_and, Bool.true_and, Bool.and_false, Bool.and_true, Bool.false_or, Bool.true_or, Bool.or_false, Bool.or_true, Bool.not_true, Bool.not_false] at hr
        subst hr
        (first | apply envO | apply envQ); simp -implicitDefEqProofs only [t6, vmp,↓vmd,seval]; rfl
        simp -implicitDefEqProofs only [t6, vmp,↓vmd,seval]
        exact gives_pure
 by_cases e5 : k = 5
 ·subst e5
  have hr : (decide (s.ligs.length = 0) && (decide (sumE s.inn.length s.nests.length ≤ 0) && (decide (s.values.length = 0) && (decide (s.pairs.length = 0) && (decide (s.curs.length = 0) && decide (sumE s.marks.length s.hosts.length = 0)))))) = out := by rw [← ho]; simp [bareB, kCov, kTo, kRow, kHang, Bool.and_assoc]
  simp -implicitDefEqProofs only [vmp,↓vmd,seval]
  refine onIf_intro fun _ => ?_
  (first | apply envO | apply envQ); simp -implicitDefEqProofs only [vmp,↓vmd,seval]; rfl
  simp -implicitDefEqProofs only [vmp,↓vmd,seval]
  refine onB_dec (fun t1 => ?_) (fun t1 => ?_)
  ·rw [decide_eq_false (show ¬ s.ligs.length = 0 by omega)] at hr
   simp only [Bool.false_and, Bool.true_and, Bool.and_false, Bool.and_true, Bool.false_or, Bool.true_or, Bool.or_false, Bool.or_true, Bool.not_true, Bool.not_false] at hr
   subst hr
   (first | apply envO | apply envQ); simp -implicitDefEqProofs only [t1, vmp,↓vmd,seval]; rfl
   simp -implicitDefEqProofs only [t1, vmp,↓vmd,seval]
   exact gives_pure
  ·rw [decide_eq_true (show s.ligs.length = 0 by omega)] at hr
   simp only [Bool.false_and, Bool.true_and, Bool.and_false, Bool.and_true, Bool.false_or, Bool.true_or, Bool.or_false, Bool.or_true, Bool.not_true, Bool.not_false] at hr
   (first | apply envO | apply envQ); simp -implicitDefEqProofs only [t1, vmp,↓vmd,seval]; rfl
   simp -implicitDefEqProofs only [t1, vmp,↓vmd,seval]
   refine onIf_intro fun _ => ?_
   (first | apply envO | apply envQ); simp -implicitDefEqProofs only [vmp,↓vmd,seval]; rfl
   simp -implicitDefEqProofs only [vmp,↓vmd,seval]
   refine onIf_intro fun _ => ?_
   (first | apply envO | apply envQ); simp -implicitDefEqProofs only [vmp,↓vmd,seval]; rfl
   simp -implicitDefEqProofs only [vmp,↓vmd,seval]
   refine onB_dec (fun t2 => ?_) (fun t2 => ?_)
   ·rw [decide_eq_false (show ¬ sumE s.inn.length s.nests.length ≤ 0 from Int.not_le.2 t2)] at hr
    simp only [Bool.false_and, Bool.true_and, Bool.and_false, Bool.and_true, Bool.false_or, Bool.true_or, Bool.or_false, Bool.or_true, Bool.not_true, Bool.not_false] at hr
    subst hr
    (first | apply envO | apply envQ); simp -implicitDefEqProofs only [t2, vmp,↓vmd,seval]; rfl
    simp -implicitDefEqProofs only [t2, vmp,↓vmd,seval]
    exact gives_pure
   ·rw [decide_eq_true (show sumE s.inn.length s.nests.length ≤ 0 from Int.not_lt.1 t2)] at hr
    simp only [Bool.false_and, Bool.true_and, Bool.and_false, Bool.and_true, Bool.false_or, Bool.true_or, Bool.or_false, Bool.or_true, Bool.not_true, Bool.not_false] at hr
    (first | apply envO | apply envQ); simp -implicitDefEqProofs only [t2, vmp,↓vmd,seval]; rfl
    simp -implicitDefEqProofs only [t2, vmp,↓vmd,seval]
    refine onIf_intro fun _ => ?_
    (first | apply envO | apply envQ); simp -implicitDefEqProofs only [vmp,↓vmd,seval]; rfl
    simp -implicitDefEqProofs only [vmp,↓vmd,seval]
    refine onB_dec (fun t3 => ?_) (fun t3 => ?_)
    ·rw [decide_eq_false (show ¬ s.values.length = 0 by omega)] at hr
     simp only [Bool.false_and, Bool.true_and, Bool.and_false, Bool.and_true, Bool.false_or, Bool.true_or, Bool.or_false, Bool.or_true, Bool.not_true, Bool.not_false] at hr
     subst hr
     (first | apply envO | apply envQ); simp -implicitDefEqProofs only [t3, vmp,↓vmd,seval]; rfl
     simp -implicitDefEqProofs only [t3, vmp,↓vmd,seval]
     exact gives_pure
    ·rw [decide_eq_true (show s.values.length = 0 by omega)] at hr
     simp only [Bool.false_and, Bool.true_and, Bool.and_false, Bool.and_true, Bool.false_or, Bool.true_or, Bool.or_false, Bool.or_true, Bool.not_true, Bool.not_false] at hr
     (first | apply envO | apply envQ); simp -implicitDefEqProofs only [t3, vmp,↓vmd,seval]; rfl
     simp -implicitDefEqProofs only [t3, vmp,↓vmd,seval]
     refine onIf_intro fun _ => ?_
     (first | apply envO | apply envQ); simp -implicitDefEqProofs only [vmp,↓vmd,seval]; rfl
     simp -implicitDefEqProofs only [vmp,↓vmd,seval]
     refine onB_dec (fun t4 => ?_) (fun t4 => ?_)
     ·rw [decide_eq_false (show ¬ s.pairs.length = 0 by omega)] at hr
      simp only [Bool.false_and, Bool.true_and, Bool.and_false, Bool.and_true, Bool.false_or, Bool.true_or, Bool.or_false, Bool.or_true, Bool.not_true, Bool.not_false] at hr
      subst hr
      (first | apply envO | apply envQ); simp -implicitDefEqProofs only [t4, vmp,↓vmd,seval]; rfl
      simp -implicitDefEqProofs only [t4, vmp,↓vmd,seval]
      exact gives_pure
     ·rw [decide_eq_true (show s.pairs.length = 0 by omega)] at hr
      simp only [Bool.false_and, Bool.true_and, Bool.and_false, Bool.and_true, Bool.false_or, Bool.true_or, Bool.or_false, Bool.or_true, Bool.not_true, Bool.not_false] at hr
      (first | apply envO | apply envQ); simp -implicitDefEqProofs only [t4, vmp,↓vmd,seval]; rfl
      simp -implicitDefEqProofs only [t4, vmp,↓vmd,seval]
      refine onIf_intro fun _ => ?_
      (first | apply envO | apply envQ); simp -implicitDefEqProofs only [vmp,↓vmd,seval]; rfl
      simp -implicitDefEqProofs only [vmp,↓vmd,seval]
      refine onB_dec (fun t5 => ?_) (fun t5 => ?_)
      ·rw [decide_eq_true (show s.curs.length = 0 by omega)] at hr
       simp only [Bool.false_and, Bool.true_and, Bool.and_false, Bool.and_true, Bool.false_or, Bool.true_or, Bool.or_false, Bool.or_true, Bool.not_true, Bool.not_false] at hr
       (first | apply envO | apply envQ); simp -implicitDefEqProofs only [t5, vmp,↓vmd,seval]; rfl
       simp -implicitDefEqProofs only [t5, vmp,↓vmd,seval]
       refine onIf_intro fun _ => ?_
       (first | apply envO | apply envQ); simp -implicitDefEqProofs only [vmp,↓vmd,seval]; rfl
       simp -implicitDefEqProofs only [vmp,↓vmd,seval]
       refine onIf_intro fun _ => ?_
       (first | apply envO | apply envQ); simp -implicitDefEqProofs only [vmp,↓vmd,seval]; rfl
       simp -implicitDefEqProofs only [vmp,↓vmd,seval]
       rw [hr]
       exact gives_pure
      ·rw [decide_eq_false (show ¬ s.curs.length = 0 by omega)] at hr
       simp only [Bool.false_and, Bool.true_and, Bool.and_false, Bool.and_true, Bool.false_or, Bool.true_or, Bool.or_false, Bool.or_true, Bool.not_true, Bool.not_false] at hr
       subst hr
       (first | apply envO | apply envQ); simp -implicitDefEqProofs only [t5, vmp,↓vmd,seval]; rfl
       simp -implicitDefEqProofs only [t5, vmp,↓vmd,seval]
       exact gives_pure
 by_cases e6 : k = 6
 ·subst e6
  have hr : (decide (s.to.length = 0) && (decide (s.ligs.length = 0) && (decide (sumE s.inn.length s.nests.length ≤ 0) && (decide (sumE s.back.length s.ahead.length ≤ 0) && (decide (s.pairs.length = 0) && (decide (s.curs.length = 0) && decide (sumE s.marks.length s.hosts.length = 0))))))) = out := by rw [← ho]; simp [bareB, kCov, kTo, kRow, kHang, Bool.and_assoc]
  simp -implicitDefEqProofs only [vmp,↓vmd,seval]
  refine onIf_intro fun _ => ?_
  (first | apply envO | apply envQ); simp -implicitDefEqProofs only [vmp,↓vmd,seval]; rfl
  simp -implicitDefEqProofs only [vmp,↓vmd,seval]
  refine onB_dec (fun t1 => ?_) (fun t1 => ?_)
  ·rw [decide_eq_false (show ¬ s.to.length = 0 by omega)] at hr
   simp only [Bool.false_and, Bool.true_and, Bool.and_false, Bool.and_true, Bool.false_or, Bool.true_or, Bool.or_false, Bool.or_true, Bool.not_true, Bool.not_false] at hr
   subst hr
   (first | apply envO | apply envQ); simp -implicitDefEqProofs only [t1, vmp,↓vmd,seval]; rfl
   simp -implicitDefEqProofs only [t1, vmp,↓vmd,seval]
   exact gives_pure
  ·rw [decide_eq_true (show s.to.length = 0 by omega)] at hr
   simp only [Bool.false_and, Bool.true_and, Bool.and_false, Bool.and_true, Bool.false_or, Bool.true_or, Bool.or_false, Bool.or_true, Bool.not_true, Bool.not_false] at hr
   (first | apply envO | apply envQ); simp -implicitDefEqProofs only [t1, vmp,↓vmd,seval]; rfl
   simp -implicitDefEqProofs only [t1, vmp,↓vmd,seval]
   refine onIf_intro fun _ => ?_
   (first | apply envO | apply envQ); simp -implicitDefEqProofs only [vmp,↓vmd,seval]; rfl
   simp -implicitDefEqProofs only [vmp,↓vmd,seval]
   refine onB_dec (fun t2 => ?_) (fun t2 => ?_)
   ·rw [decide_eq_false (show ¬ s.ligs.length = 0 by omega)] at hr
    simp only [Bool.false_and, Bool.true_and, Bool.and_false, Bool.and_true, Bool.false_or, Bool.true_or, Bool.or_false, Bool.or_true, Bool.not_true, Bool.not_false] at hr
    subst hr
    (first | apply envO | apply envQ); simp -implicitDefEqProofs only [t2, vmp,↓vmd,seval]; rfl
    simp -implicitDefEqProofs only [t2, vmp,↓vmd,seval]
    exact gives_pure
   ·rw [decide_eq_true (show s.ligs.length = 0 by omega)] at hr
    simp only [Bool.false_and, Bool.true_and, Bool.and_false, Bool.and_true, Bool.false_or, Bool.true_or, Bool.or_false, Bool.or_true, Bool.not_true, Bool.not_false] at hr
    (first | apply envO | apply envQ); simp -implicitDefEqProofs only [t2, vmp,↓vmd,seval]; rfl
    simp -implicitDefEqProofs only [t2, vmp,↓vmd,seval]
    refine onIf_intro fun _ => ?_
    (first | apply envO | apply envQ); simp -implicitDefEqProofs only [vmp,↓vmd,seval]; rfl
    simp -implicitDefEqProofs only [vmp,↓vmd,seval]
    refine onIf_intro fun _ => ?_
    (first | apply envO | apply envQ); simp -implicitDefEqProofs only [vmp,↓vmd,seval]; rfl
    simp -implicitDefEqProofs only [vmp,↓vmd,seval]
    refine onB_dec (fun t3 => ?_) (fun t3 => ?_)
    ·rw [decide_eq_false (show ¬ sumE s.inn.length s.nests.length ≤ 0 from Int.not_le.2 t3)] at hr
     simp only [Bool.false_and, Bool.true_and, Bool.and_false, Bool.and_true, Bool.false_or, Bool.true_or, Bool.or_false, Bool.or_true, Bool.not_true, Bool.not_false] at hr
     subst hr
     (first | apply envO | apply envQ); simp -implicitDefEqProofs only [t3, vmp,↓vmd,seval]; rfl
     simp -implicitDefEqProofs only [t3, vmp,↓vmd,seval]
     exact gives_pure
    ·rw [decide_eq_true (show sumE s.inn.length s.nests.length ≤ 0 from Int.not_lt.1 t3)] at hr
     simp only [Bool.false_and, Bool.true_and, Bool.and_false, Bool.and_true, Bool.false_or, Bool.true_or, Bool.or_false, Bool.or_true, Bool.not_true, Bool.not_false] at hr
     (first | apply envO | apply envQ); simp -implicitDefEqProofs only [t3, vmp,↓vmd,seval]; rfl
     simp -implicitDefEqProofs only [t3, vmp,↓vmd,seval]
     refine onIf_intro fun _ => ?_
     (first | apply envO | apply envQ); simp -implicitDefEqProofs only [vmp,↓vmd,seval]; rfl
     simp -implicitDefEqProofs only [vmp,↓vmd,seval]
     refine onIf_intro fun _ => ?_
     (first | apply envO | apply envQ); simp -implicitDefEqProofs only [vmp,↓vmd,seval]; rfl
     simp -implicitDefEqProofs only [vmp,↓vmd,seval]
     refine onB_dec (fun t4 => ?_) (fun t4 => ?_)
     ·rw [decide_eq_false (show ¬ sumE s.back.length s.ahead.length ≤ 0 from Int.not_le.2 t4)] at hr
      simp only [Bool.false_and, Bool.true_and, Bool.and_false, Bool.and_true, Bool.false_or, Bool.true_or, Bool.or_false, Bool.or_true, Bool.not_true, Bool.not_false] at hr
      subst hr
      (first | apply envO | apply envQ); simp -implicitDefEqProofs only [t4, vmp,↓vmd,seval]; rfl
      simp -implicitDefEqProofs only [t4, vmp,↓vmd,seval]
      exact gives_pure
     ·rw [decide_eq_true (show sumE s.back.length s.ahead.length ≤ 0 from Int.not_lt.1 t4)] at hr
      simp only [Bool.false_and, Bool.true_and, Bool.and_false, Bool.and_true, Bool.false_or, Bool.true_or, Bool.or_false, Bool.or_true, Bool.not_true, Bool.not_false] at hr
      (first | apply envO | apply envQ); simp -implicitDefEqProofs only [t4, vmp,↓vmd,seval]; rfl
      simp -implicitDefEqProofs only [t4, vmp,↓vmd,seval]
      refine onIf_intro fun _ => ?_
      (first | apply envO | apply envQ); simp -implicitDefEqProofs only [vmp,↓vmd,seval]; rfl
      simp -implicitDefEqProofs only [vmp,↓vmd,seval]
      refine onB_dec (fun t5 => ?_) (fun t5 => ?_)
      ·rw [decide_eq_false (show ¬ s.pairs.length = 0 by omega)] at hr
       simp only [Bool.false_and, Bool.true_and, Bool.and_false, Bool.and_true, Bool.false_or, Bool.true_or, Bool.or_false, Bool.or_true, Bool.not_true, Bool.not_false] at hr
       subst hr
       (first | apply envO | apply envQ); simp -implicitDefEqProofs only [t5, vmp,↓vmd,seval]; rfl
       simp -implicitDefEqProofs only [t5, vmp,↓vmd,seval]
       exact gives_pure
      ·rw [decide_eq_true (show s.pairs.length = 0 by omega)] at hr
       simp only [Bool.false_and, Bool.true_and, Bool.and_false, Bool.and_true, Bool.false_or, Bool.true_or, Bool.or_false, Bool.or_true, Bool.not_true, Bool.not_false] at hr
       (first | apply envO | apply envQ); simp -implicitDefEqProofs only [t5, vmp,↓vmd,seval]; rfl
       simp -implicitDefEqProofs only [t5, vmp,↓vmd,seval]
       refine onIf_intro fun _ => ?_
       (first | apply envO | apply envQ); simp -implicitDefEqProofs only [vmp,↓vmd,seval]; rfl
       simp -implicitDefEqProofs only [vmp,↓vmd,seval]
       refine onB_dec (fun t6 => ?_) (fun t6 => ?_)
       ·rw [decide_eq_true (show s.curs.length = 0 by omega)] at hr
        simp only [Bool.false_and, Bool.true_and, Bool.and_false, Bool.and_true, Bool.false_or, Bool.true_or, Bool.or_false, Bool.or_true, Bool.not_true, Bool.not_false] at hr
        (first | apply envO | apply envQ); simp -implicitDefEqProofs only [t6, vmp,↓vmd,seval]; rfl
        simp -implicitDefEqProofs only [t6, vmp,↓vmd,seval]
        refine onIf_intro fun _ => ?_
        (first | apply envO | apply envQ); simp -implicitDefEqProofs only [vmp,↓vmd,seval]; rfl
        simp -implicitDefEqProofs only [vmp,↓vmd,seval]
        refine onIf_intro fun _ => ?_
        (first | apply envO | apply envQ); simp -implicitDefEqProofs only [vmp,↓vmd,seval]; rfl
        simp -implicitDefEqProofs only [vmp,↓vmd,seval]
        rw [hr]
        exact gives_pure
       ·rw [decide_eq_false (show ¬ s.curs.length = 0 by omega)] at hr
        simp only [Bool.false_and, Bool.true_and, Bool.and_false, Bool.and_true, Bool.false_or, Bool.true_or, Bool.or_false, Bool.or_true, Bool.not_true, Bool.not_false] at hr
        subst hr
        (first | apply envO | apply envQ); simp -implicitDefEqProofs only [t6, vmp,↓vmd,seval]; rfl
        simp -implicitDefEqProofs only [t6, vmp,↓vmd,seval]
        exact gives_pure
 by_cases e7 : k = 7
 ·subst e7
  have hr : (decide (s.cover.length = 0) && (decide (s.to.length = 0) && (decide (s.ligs.length = 0) && (decide (sumE s.inn.length s.nests.length ≤ 0) && (decide (sumE s.back.length s.ahead.length ≤ 0) && (decide (s.values.length = 0) && (decide (s.curs.length = 0) && decide (sumE s.marks.length s.hosts.length = 0)))))))) = out := by rw [← ho]; simp [bareB, kCov, kTo, kRow, kHang, Bool.and_assoc]
  simp -implicitDefEqProofs only [vmp,↓vmd,seval]
  refine onIf_intro fun _ => ?_
  (first | apply envO | apply envQ); simp -implicitDefEqProofs only [vmp,↓vmd,seval]; rfl
  simp -implicitDefEqProofs only [vmp,↓vmd,seval]
  refine onB_dec (fun t1 => ?_) (fun t1 => ?_)
  ·rw [decide_eq_false (show ¬ s.cover.length = 0 by omega)] at hr
   simp only [Bool.false_and, Bool.true_and, Bool.and_false, Bool.and_true, Bool.false_or, Bool.true_or, Bool.or_false, Bool.or_true, Bool.not_true, Bool.not_false] at hr
   subst hr
   (first | apply envO | apply envQ); simp -implicitDefEqProofs only [t1, vmp,↓vmd,seval]; rfl
   simp -implicitDefEqProofs only [t1, vmp,↓vmd,seval]
   exact gives_pure
  ·rw [decide_eq_true (show s.cover.length = 0 by omega)] at hr
   simp only [Bool.false_and, Bool.true_and, Bool.and_false, Bool.and_true, Bool.false_or, Bool.true_or, Bool.or_false, Bool.or_true, Bool.not_true, Bool.not_false] at hr
   (first | apply envO | apply envQ); simp -implicitDefEqProofs only [t1, vmp,↓vmd,seval]; rfl
   simp -implicitDefEqProofs only [t1, vmp,↓vmd,seval]
   refine onIf_intro fun _ => ?_
   (first | apply envO | apply envQ); simp -implicitDefEqProofs only [vmp,↓vmd,seval]; rfl
   simp -implicitDefEqProofs only [vmp,↓vmd,seval]
   refine onB_dec (fun t2 => ?_) (fun t2 => ?_)
   ·rw [decide_eq_false (show ¬ s.to.length = 0 by omega)] at hr
    simp only [Bool.false_and, Bool.true_and, Bool.and_false, Bool.and_true, Bool.false_or, Bool.true_or, Bool.or_false, Bool.or_true, Bool.not_true, Bool.not_false] at hr
    subst hr
    (first | apply envO | apply envQ); simp -implicitDefEqProofs only [t2, vmp,↓vmd,seval]; rfl
    simp -implicitDefEqProofs only [t2, vmp,↓vmd,seval]
    exact gives_pure
   ·rw [decide_eq_true (show s.to.length = 0 by omega)] at hr
    simp only [Bool.false_and, Bool.true_and, Bool.and_false, Bool.and_true, Bool.false_or, Bool.true_or, Bool.or_false, Bool.or_true, Bool.not_true, Bool.not_false] at hr
    (first | apply envO | apply envQ); simp -implicitDefEqProofs only [t2, vmp,↓vmd,seval]; rfl
    simp -implicitDefEqProofs only [t2, vmp,↓vmd,seval]
    refine onIf_intro fun _ => ?_
    (first | apply envO | apply envQ); simp -implicitDefEqProofs only [vmp,↓vmd,seval]; rfl
    simp -implicitDefEqProofs only [vmp,↓vmd,seval]
    refine onB_dec (fun t3 => ?_) (fun t3 => ?_)
    ·rw [decide_eq_false (show ¬ s.ligs.length = 0 by omega)] at hr
     simp only [Bool.false_and, Bool.true_and, Bool.and_false, Bool.and_true, Bool.false_or, Bool.true_or, Bool.or_false, Bool.or_true, Bool.not_true, Bool.not_false] at hr
     subst hr
     (first | apply envO | apply envQ); simp -implicitDefEqProofs only [t3, vmp,↓vmd,seval]; rfl
     simp -implicitDefEqProofs only [t3, vmp,↓vmd,seval]
     exact gives_pure
    ·rw [decide_eq_true (show s.ligs.length = 0 by omega)] at hr
     simp only [Bool.false_and, Bool.true_and, Bool.and_false, Bool.and_true, Bool.false_or, Bool.true_or, Bool.or_false, Bool.or_true, Bool.not_true, Bool.not_false] at hr
     (first | apply envO | apply envQ); simp -implicitDefEqProofs only [t3, vmp,↓vmd,seval]; rfl
     simp -implicitDefEqProofs only [t3, vmp,↓vmd,seval]
     refine onIf_intro fun _ => ?_
     (first | apply envO | apply envQ); simp -implicitDefEqProofs only [vmp,↓vmd,seval]; rfl
     simp -implicitDefEqProofs only [vmp,↓vmd,seval]
     refine onIf_intro fun _ => ?_
     (first | apply envO | apply envQ); simp -implicitDefEqProofs only [vmp,↓vmd,seval]; rfl
     simp -implicitDefEqProofs only [vmp,↓vmd,seval]
     refine onB_dec (fun t4 => ?_) (fun t4 => ?_)
     ·rw [decide_eq_false (show ¬ sumE s.inn.length s.nests.length ≤ 0 from Int.not_le.2 t4)] at hr
      simp only [Bool.false_and, Bool.true_and, Bool.and_false, Bool.and_true, Bool.false_or, Bool.true_or, Bool.or_false, Bool.or_true, Bool.not_true, Bool.not_false] at hr
      subst hr
      (first | apply envO | apply envQ); simp -implicitDefEqProofs only [t4, vmp,↓vmd,seval]; rfl
      simp -implicitDefEqProofs only [t4, vmp,↓vmd,seval]
      exact gives_pure
     ·rw [decide_eq_true (show sumE s.inn.length s.nests.length ≤ 0 from Int.not_lt.1 t4)] at hr
      simp only [Bool.false_and, Bool.true_and, Bool.and_false, Bool.and_true, Bool.false_or, Bool.true_or, Bool.or_false, Bool.or_true, Bool.not_true, Bool.not_false] at hr
      (first | apply envO | apply envQ); simp -implicitDefEqProofs only [t4, vmp,↓vmd,seval]; rfl
      simp -implicitDefEqProofs only [t4, vmp,↓vmd,seval]
      refine onIf_intro fun _ => ?_
      (first | apply envO | apply envQ); simp -implicitDefEqProofs only [vmp,↓vmd,seval]; rfl
      simp -implicitDefEqProofs only [vmp,↓vmd,seval]
      refine onIf_intro fun _ => ?_
      (first | apply envO | apply envQ); simp -implicitDefEqProofs only [vmp,↓vmd,seval]; rfl
      simp -implicitDefEqProofs only [vmp,↓vmd,seval]
      refine onB_dec (fun t5 => ?_) (fun t5 => ?_)
      ·rw [decide_eq_false (show ¬ sumE s.back.length s.ahead.length ≤ 0 from Int.not_le.2 t5)] at hr
       simp only [Bool.false_and, Bool.true_and, Bool.and_false, Bool.and_true, Bool.false_or, Bool.true_or, Bool.or_false, Bool.or_true, Bool.not_true, Bool.not_false] at hr
       subst hr
       (first | apply envO | apply envQ); simp -implicitDefEqProofs only [t5, vmp,↓vmd,seval]; rfl
       simp -implicitDefEqProofs only [t5, vmp,↓vmd,seval]
       exact gives_pure
      ·rw [decide_eq_true (show sumE s.back.length s.ahead.length ≤ 0 from Int.not_lt.1 t5)] at hr
       simp only [Bool.false_and, Bool.true_and, Bool.and_false, Bool.and_true, Bool.false_or, Bool.true_or, Bool.or_false, Bool.or_true, Bool.not_true, Bool.not_false] at hr
       (first | apply envO | apply envQ); simp -implicitDefEqProofs only [t5, vmp,↓vmd,seval]; rfl
       simp -implicitDefEqProofs only [t5, vmp,↓vmd,seval]
       refine onIf_intro fun _ => ?_
       (first | apply envO | apply envQ); simp -implicitDefEqProofs only [vmp,↓vmd,seval]; rfl
       simp -implicitDefEqProofs only [vmp,↓vmd,seval]
       refine onB_dec (fun t6 => ?_) (fun t6 => ?_)
       ·rw [decide_eq_false (show ¬ s.values.length = 0 by omega)] at hr
        simp only [Bool.false_and, Bool.true_and, Bool.and_false, Bool.and_true, Bool.false_or, Bool.true_or, Bool.or_false, Bool.or_true, Bool.not_true, Bool.not_false] at hr
        subst hr
        (first | apply envO | apply envQ); simp -implicitDefEqProofs only [t6, vmp,↓vmd,seval]; rfl
        simp -implicitDefEqProofs only [t6, vmp,↓vmd,seval]
        exact gives_pure
       ·rw [decide_eq_true (show s.values.length = 0 by omega)] at hr
        simp only [Bool.false_and, Bool.true_and, Bool.and_false, Bool.and_true, Bool.false_or, Bool.true_or, Bool.or_false, Bool.or_true, Bool.not_true, Bool.not_false] at hr
        (first | apply envO | apply envQ); simp -implicitDefEqProofs only [t6, vmp,↓vmd,seval]; rfl
        simp -implicitDefEqProofs only [t6, vmp,↓vmd,seval]
        refine onIf_intro fun _ => ?_
        (first | apply envO | apply envQ); simp -implicitDefEqProofs only [vmp,↓vmd,seval]; rfl
        simp -implicitDefEqProofs only [vmp,↓vmd,seval]
        refine onB_dec (fun t7 => ?_) (fun t7 => ?_)
        ·rw [decide_eq_true (show s.curs.length = 0 by omega)] at hr
         simp only [Bool.false_and, Bool.true_and, Bool.and_false, Bool.and_true, Bool.false_or, Bool.true_or, Bool.or_false, Bool.or_true, Bool.not_true, Bool.not_false] at hr
         (first | apply envO | apply envQ); simp -implicitDefEqProofs only [t7, vmp,↓vmd,seval]; rfl
         simp -implicitDefEqProofs only [t7, vmp,↓vmd,seval]
         refine onIf_intro fun _ => ?_
         (first | apply envO | apply envQ); simp -implicitDefEqProofs only [vmp,↓vmd,seval]; rfl
         simp -implicitDefEqProofs only [vmp,↓vmd,seval]
         refine onIf_intro fun _ => ?_
         (first | apply envO | apply envQ); simp -implicitDefEqProofs only [vmp,↓vmd,seval]; rfl
         simp -implicitDefEqProofs only [vmp,↓vmd,seval]
         rw [hr]
         exact gives_pure
        ·rw [decide_eq_false (show ¬ s.curs.length = 0 by omega)] at hr
         simp only [Bool.false_and, Bool.true_and, Bool.and_false, Bool.and_true, Bool.false_or, Bool.true_or, Bool.or_false, Bool.or_true, Bool.not_true, Bool.not_false] at hr
         subst hr
         (first | apply envO | apply envQ); simp -implicitDefEqProofs only [t7, vmp,↓vmd,seval]; rfl
         simp -implicitDefEqProofs only [t7, vmp,↓vmd,seval]
         exact gives_pure
 by_cases e8 : k = 8
 ·subst e8
  have hr : (decide (s.cover.length = 0) && (decide (s.to.length = 0) && (decide (s.ligs.length = 0) && (decide (sumE s.inn.length s.nests.length ≤ 0) && (decide (sumE s.back.length s.ahead.length ≤ 0) && (decide (s.values.length = 0) && (decide (s.pairs.length = 0) && decide (sumE s.marks.length s.hosts.length = 0)))))))) = out := by rw [← ho]; simp [bareB, kCov, kTo, kRow, kHang, Bool.and_assoc]
  simp -implicitDefEqProofs only [vmp,↓vmd,seval]
  refine onIf_intro fun _ => ?_
  (first | apply envO | apply envQ); simp -implicitDefEqProofs only [vmp,↓vmd,seval]; rfl
  simp -implicitDefEqProofs only [vmp,↓vmd,seval]
  refine onB_dec (fun t1 => ?_) (fun t1 => ?_)
  ·rw [decide_eq_false (show ¬ s.cover.length = 0 by omega)] at hr
   simp only [Bool.false_and, Bool.true_and, Bool.and_false, Bool.and_true, Bool.false_or, Bool.true_or, Bool.or_false, Bool.or_true, Bool.not_true, Bool.not_false] at hr
   subst hr
   (first | apply envO | apply envQ); simp -implicitDefEqProofs only [t1, vmp,↓vmd,seval]; rfl
   simp -implicitDefEqProofs only [t1, vmp,↓vmd,seval]
   exact gives_pure
  ·rw [decide_eq_true (show s.cover.length = 0 by omega)] at hr
   simp only [Bool.false_and, Bool.true_and, Bool.and_false, Bool.and_true, Bool.false_or, Bool.true_or, Bool.or_false, Bool.or_true, Bool.not_true, Bool.not_false] at hr
   (first | apply envO | apply envQ); simp -implicitDefEqProofs only [t1, vmp,↓vmd,seval]; rfl
   simp -implicitDefEqProofs only [t1, vmp,↓vmd,seval]
   refine onIf_intro fun _ => ?_
   (first | apply envO | apply envQ); simp -implicitDefEqProofs only [vmp,↓vmd,seval]; rfl
   simp -implicitDefEqProofs only [vmp,↓vmd,seval]
   refine onB_dec (fun t2 => ?_) (fun t2 => ?_)
   ·rw [decide_eq_false (show ¬ s.to.length = 0 by omega)] at hr
    simp only [Bool.false_and, Bool.true_and, Bool.and_false, Bool.and_true, Bool.false_or, Bool.true_or, Bool.or_false, Bool.or_true, Bool.not_true, Bool.not_false] at hr
    subst hr
    (first | apply envO | apply envQ); simp -implicitDefEqProofs only [t2, vmp,↓vmd,seval]; rfl
    simp -implicitDefEqProofs only [t2, vmp,↓vmd,seval]
    exact gives_pure
   ·rw [decide_eq_true (show s.to.length = 0 by omega)] at hr
    simp only [Bool.false_and, Bool.true_and, Bool.and_false, Bool.and_true, Bool.false_or, Bool.true_or, Bool.or_false, Bool.or_true, Bool.not_true, Bool.not_false] at hr
    (first | apply envO | apply envQ); simp -implicitDefEqProofs only [t2, vmp,↓vmd,seval]; rfl
    simp -implicitDefEqProofs only [t2, vmp,↓vmd,seval]
    refine onIf_intro fun _ => ?_
    (first | apply envO | apply envQ); simp -implicitDefEqProofs only [vmp,↓vmd,seval]; rfl
    simp -implicitDefEqProofs only [vmp,↓vmd,seval]
    refine onB_dec (fun t3 => ?_) (fun t3 => ?_)
    ·rw [decide_eq_false (show ¬ s.ligs.length = 0 by omega)] at hr
     simp only [Bool.false_and, Bool.true_and, Bool.and_false, Bool.and_true, Bool.false_or, Bool.true_or, Bool.or_false, Bool.or_true, Bool.not_true, Bool.not_false] at hr
     subst hr
     (first | apply envO | apply envQ); simp -implicitDefEqProofs only [t3, vmp,↓vmd,seval]; rfl
     simp -implicitDefEqProofs only [t3, vmp,↓vmd,seval]
     exact gives_pure
    ·rw [decide_eq_true (show s.ligs.length = 0 by omega)] at hr
     simp only [Bool.false_and, Bool.true_and, Bool.and_false, Bool.and_true, Bool.false_or, Bool.true_or, Bool.or_false, Bool.or_true, Bool.not_true, Bool.not_false] at hr
     (first | apply envO | apply envQ); simp -implicitDefEqProofs only [t3, vmp,↓vmd,seval]; rfl
     simp -implicitDefEqProofs only [t3, vmp,↓vmd,seval]
     refine onIf_intro fun _ => ?_
     (first | apply envO | apply envQ); simp -implicitDefEqProofs only [vmp,↓vmd,seval]; rfl
     simp -implicitDefEqProofs only [vmp,↓vmd,seval]
     refine onIf_intro fun _ => ?_
     (first | apply envO | apply envQ); simp -implicitDefEqProofs only [vmp,↓vmd,seval]; rfl
     simp -implicitDefEqProofs only [vmp,↓vmd,seval]
     refine onB_dec (fun t4 => ?_) (fun t4 => ?_)
     ·rw [decide_eq_false (show ¬ sumE s.inn.length s.nests.length ≤ 0 from Int.not_le.2 t4)] at hr
      simp only [Bool.false_and, Bool.true_and, Bool.and_false, Bool.and_true, Bool.false_or, Bool.true_or, Bool.or_false, Bool.or_true, Bool.not_true, Bool.not_false] at hr
      subst hr
      (first | apply envO | apply envQ); simp -implicitDefEqProofs only [t4, vmp,↓vmd,seval]; rfl
      simp -implicitDefEqProofs only [t4, vmp,↓vmd,seval]
      exact gives_pure
     ·rw [decide_eq_true (show sumE s.inn.length s.nests.length ≤ 0 from Int.not_lt.1 t4)] at hr
      simp only [Bool.false_and, Bool.true_and, Bool.and_false, Bool.and_true, Bool.false_or, Bool.true_or, Bool.or_false, Bool.or_true, Bool.not_true, Bool.not_false] at hr
      (first | apply envO | apply envQ); simp -implicitDefEqProofs only [t4, vmp,↓vmd,seval]; rfl
      simp -implicitDefEqProofs only [t4, vmp,↓vmd,seval]
      refine onIf_intro fun _ => ?_
      (first | apply envO | apply envQ); simp -implicitDefEqProofs only [vmp,↓vmd,seval]; rfl
      simp -implicitDefEqProofs only [vmp,↓vmd,seval]
      refine onIf_intro fun _ => ?_
      (first | apply envO | apply envQ); simp -implicitDefEqProofs only [vmp,↓vmd,seval]; rfl
      simp -implicitDefEqProofs only [vmp,↓vmd,seval]
      refine onB_dec (fun t5 => ?_) (fun t5 => ?_)
      ·rw [decide_eq_false (show ¬ sumE s.back.length s.ahead.length ≤ 0 from Int.not_le.2 t5)] at hr
       simp only [Bool.false_and, Bool.true_and, Bool.and_false, Bool.and_true, Bool.false_or, Bool.true_or, Bool.or_false, Bool.or_true, Bool.not_true, Bool.not_false] at hr
       subst hr
       (first | apply envO | apply envQ); simp -implicitDefEqProofs only [t5, vmp,↓vmd,seval]; rfl
       simp -implicitDefEqProofs only [t5, vmp,↓vmd,seval]
       exact gives_pure
      ·rw [decide_eq_true (show sumE s.back.length s.ahead.length ≤ 0 from Int.not_lt.1 t5)] at hr
       simp only [Bool.false_and, Bool.true_and, Bool.and_false, Bool.and_true, Bool.false_or, Bool.true_or, Bool.or_false, Bool.or_true, Bool.not_true, Bool.not_false] at hr
       (first | apply envO | apply envQ); simp -implicitDefEqProofs only [t5, vmp,↓vmd,seval]; rfl
       simp -implicitDefEqProofs only [t5, vmp,↓vmd,seval]
       refine onIf_intro fun _ => ?_
       (first | apply envO | apply envQ); simp -implicitDefEqProofs only [vmp,↓vmd,seval]; rfl
       simp -implicitDefEqProofs only [vmp,↓vmd,seval]
       refine onB_dec (fun t6 => ?_) (fun t6 => ?_)
       ·rw [decide_eq_false (show ¬ s.values.length = 0 by omega)] at hr
        simp only [Bool.false_and, Bool.true_and, Bool.and_false, Bool.and_true, Bool.false_or, Bool.true_or, Bool.or_false, Bool.or_true, Bool.not_true, Bool.not_false] at hr
        subst hr
        (first | apply envO | apply envQ); simp -implicitDefEqProofs only [t6, vmp,↓vmd,seval]; rfl
        simp -implicitDefEqProofs only [t6, vmp,↓vmd,seval]
        exact gives_pure
       ·rw [decide_eq_true (show s.values.length = 0 by omega)] at hr
        simp only [Bool.false_and, Bool.true_and, Bool.and_false, Bool.and_true, Bool.false_or, Bool.true_or, Bool.or_false, Bool.or_true, Bool.not_true, Bool.not_false] at hr
        (first | apply envO | apply envQ); simp -implicitDefEqProofs only [t6, vmp,↓vmd,seval]; rfl
        simp -implicitDefEqProofs only [t6, vmp,↓vmd,seval]
        refine onIf_intro fun _ => ?_
        (first | apply envO | apply envQ); simp -implicitDefEqProofs only [vmp,↓vmd,seval]; rfl
        simp -implicitDefEqProofs only [vmp,↓vmd,seval]
        refine onB_dec (fun t7 => ?_) (fun t7 => ?_)
        ·rw [decide_eq_false (show ¬ s.pairs.length = 0 by omega)] at hr
         simp only [Bool.false_and, Bool.true_and, Bool.and_false, Bool.and_true, Bool.false_or, Bool.true_or, Bool.or_false, Bool.or_true, Bool.not_true, Bool.not_false] at hr
         subst hr
         (first | apply envO | apply envQ); simp -implicitDefEqProofs only [t7, vmp,↓vmd,seval]; rfl
         simp -implicitDefEqProofs only [t7, vmp,↓vmd,seval]
         exact gives_pure
        ·rw [decide_eq_true (show s.pairs.length = 0 by omega)] at hr
         simp only [Bool.false_and, Bool.true_and, Bool.and_false, Bool.and_true, Bool.false_or, Bool.true_or, Bool.or_false, Bool.or_true, Bool.not_true, Bool.not_false] at hr
         (first | apply envO | apply envQ); simp -implicitDefEqProofs only [t7, vmp,↓vmd,seval]; rfl
         simp -implicitDefEqProofs only [t7, vmp,↓vmd,seval]
         refine onIf_intro fun _ => ?_
         (first | apply envO | apply envQ); simp -implicitDefEqProofs only [vmp,↓vmd,seval]; rfl
         simp -implicitDefEqProofs only [vmp,↓vmd,seval]
         refine onIf_intro fun _ => ?_
         (first | apply envO | apply envQ); simp -implicitDefEqProofs only [vmp,↓vmd,seval]; rfl
         simp -implicitDefEqProofs only [vmp,↓vmd,seval]
         rw [hr]
         exact gives_pure
 by_cases e9 : k = 9
 ·subst e9
  have hr : (decide (s.cover.length = 0) && (decide (s.to.length = 0) && (decide (s.ligs.length = 0) && (decide (sumE s.inn.length s.nests.length ≤ 0) && (decide (sumE s.back.length s.ahead.length ≤ 0) && (decide (s.values.length = 0) && (decide (s.pairs.length = 0) && decide (s.curs.length = 0)))))))) = out := by rw [← ho]; simp [bareB, kCov, kTo, kRow, kHang, Bool.and_assoc]
  simp -implicitDefEqProofs only [vmp,↓vmd,seval]
  refine onIf_intro fun _ => ?_
  (first | apply envO | apply envQ); simp -implicitDefEqProofs only [vmp,↓vmd,seval]; rfl
  simp -implicitDefEqProofs only [vmp,↓vmd,seval]
  refine onB_dec (fun t1 => ?_) (fun t1 => ?_)
  ·rw [decide_eq_false (show ¬ s.cover.length = 0 by omega)] at hr
   simp only [Bool.false_and, Bool.true_and, Bool.and_false, Bool.and_true, Bool.false_or, Bool.true_or, Bool.or_false, Bool.or_true, Bool.not_true, Bool.not_false] at hr
   subst hr
   (first | apply envO | apply envQ); simp -implicitDefEqProofs only [t1, vmp,↓vmd,seval]; rfl
   simp -implicitDefEqProofs only [t1, vmp,↓vmd,seval]
   exact gives_pure
  ·rw [decide_eq_true (show s.cover.length = 0 by omega)] at hr
   simp only [Bool.false_and, Bool.true_and, Bool.and_false, Bool.and_true, Bool.false_or, Bool.true_or, Bool.or_false, Bool.or_true, Bool.not_true, Bool.not_false] at hr
   (first | apply envO | apply envQ); simp -implicitDefEqProofs only [t1, vmp,↓vmd,seval]; rfl
   simp -implicitDefEqProofs only [t1, vmp,↓vmd,seval]
   refine onIf_intro fun _ => ?_
   (first | apply envO | apply envQ); simp -implicitDefEqProofs only [vmp,↓vmd,seval]; rfl
   simp -implicitDefEqProofs only [vmp,↓vmd,seval]
   refine onB_dec (fun t2 => ?_) (fun t2 => ?_)
   ·rw [decide_eq_false (show ¬ s.to.length = 0 by omega)] at hr
    simp only [Bool.false_and, Bool.true_and, Bool.and_false, Bool.and_true, Bool.false_or, Bool.true_or, Bool.or_false, Bool.or_true, Bool.not_true, Bool.not_false] at hr
    subst hr
    (first | apply envO | apply envQ); simp -implicitDefEqProofs only [t2, vmp,↓vmd,seval]; rfl
    simp -implicitDefEqProofs only [t2, vmp,↓vmd,seval]
    exact gives_pure
   ·rw [decide_eq_true (show s.to.length = 0 by omega)] at hr
    simp only [Bool.false_and, Bool.true_and, Bool.and_false, Bool.and_true, Bool.false_or, Bool.true_or, Bool.or_false, Bool.or_true, Bool.not_true, Bool.not_false] at hr
    (first | apply envO | apply envQ); simp -implicitDefEqProofs only [t2, vmp,↓vmd,seval]; rfl
    simp -implicitDefEqProofs only [t2, vmp,↓vmd,seval]
    refine onIf_intro fun _ => ?_
    (first | apply envO | apply envQ); simp -implicitDefEqProofs only [vmp,↓vmd,seval]; rfl
    simp -implicitDefEqProofs only [vmp,↓vmd,seval]
    refine onB_dec (fun t3 => ?_) (fun t3 => ?_)
    ·rw [decide_eq_false (show ¬ s.ligs.length = 0 by omega)] at hr
     simp only [Bool.false_and, Bool.true_and, Bool.and_false, Bool.and_true, Bool.false_or, Bool.true_or, Bool.or_false, Bool.or_true, Bool.not_true, Bool.not_false] at hr
     subst hr
     (first | apply envO | apply envQ); simp -implicitDefEqProofs only [t3, vmp,↓vmd,seval]; rfl
     simp -implicitDefEqProofs only [t3, vmp,↓vmd,seval]
     exact gives_pure
    ·rw [decide_eq_true (show s.ligs.length = 0 by omega)] at hr
     simp only [Bool.false_and, Bool.true_and, Bool.and_false, Bool.and_true, Bool.false_or, Bool.true_or, Bool.or_false, Bool.or_true, Bool.not_true, Bool.not_false] at hr
     (first | apply envO | apply envQ); simp -implicitDefEqProofs only [t3, vmp,↓vmd,seval]; rfl
     simp -implicitDefEqProofs only [t3, vmp,↓vmd,seval]
     refine onIf_intro fun _ => ?_
     (first | apply envO | apply envQ); simp -implicitDefEqProofs only [vmp,↓vmd,seval]; rfl
     simp -implicitDefEqProofs only [vmp,↓vmd,seval]
     refine onIf_intro fun _ => ?_
     (first | apply envO | apply envQ); simp -implicitDefEqProofs only [vmp,↓vmd,seval]; rfl
     simp -implicitDefEqProofs only [vmp,↓vmd,seval]
     refine onB_dec (fun t4 => ?_) (fun t4 => ?_)
     ·rw [decide_eq_false (show ¬ sumE s.inn.length s.nests.length ≤ 0 from Int.not_le.2 t4)] at hr
      simp only [Bool.false_and, Bool.true_and, Bool.and_false, Bool.and_true, Bool.false_or, Bool.true_or, Bool.or_false, Bool.or_true, Bool.not_true, Bool.not_false] at hr
      subst hr
      (first | apply envO | apply envQ); simp -implicitDefEqProofs only [t4, vmp,↓vmd,seval]; rfl
      simp -implicitDefEqProofs only [t4, vmp,↓vmd,seval]
      exact gives_pure
     ·rw [decide_eq_true (show sumE s.inn.length s.nests.length ≤ 0 from Int.not_lt.1 t4)] at hr
      simp only [Bool.false_and, Bool.true_and, Bool.and_false, Bool.and_true, Bool.false_or, Bool.true_or, Bool.or_false, Bool.or_true, Bool.not_true, Bool.not_false] at hr
      (first | apply envO | apply envQ); simp -implicitDefEqProofs only [t4, vmp,↓vmd,seval]; rfl
      simp -implicitDefEqProofs only [t4, vmp,↓vmd,seval]
      refine onIf_intro fun _ => ?_
      (first | apply envO | apply envQ); simp -implicitDefEqProofs only [vmp,↓vmd,seval]; rfl
      simp -implicitDefEqProofs only [vmp,↓vmd,seval]
      refine onIf_intro fun _ => ?_
      (first | apply envO | apply envQ); simp -implicitDefEqProofs only [vmp,↓vmd,seval]; rfl
      simp -implicitDefEqProofs only [vmp,↓vmd,seval]
      refine onB_dec (fun t5 => ?_) (fun t5 => ?_)
      ·rw [decide_eq_false (show ¬ sumE s.back.length s.ahead.length ≤ 0 from Int.not_le.2 t5)] at hr
       simp only [Bool.false_and, Bool.true_and, Bool.and_false, Bool.and_true, Bool.false_or, Bool.true_or, Bool.or_false, Bool.or_true, Bool.not_true, Bool.not_false] at hr
       subst hr
       (first | apply envO | apply envQ); simp -implicitDefEqProofs only [t5, vmp,↓vmd,seval]; rfl
       simp -implicitDefEqProofs only [t5, vmp,↓vmd,seval]
       exact gives_pure
      ·rw [decide_eq_true (show sumE s.back.length s.ahead.length ≤ 0 from Int.not_lt.1 t5)] at hr
       simp only [Bool.false_and, Bool.true_and, Bool.and_false, Bool.and_true, Bool.false_or, Bool.true_or, Bool.or_false, Bool.or_true, Bool.not_true, Bool.not_false] at hr
       (first | apply envO | apply envQ); simp -implicitDefEqProofs only [t5, vmp,↓vmd,seval]; rfl
       simp -implicitDefEqProofs only [t5, vmp,↓vmd,seval]
       refine onIf_intro fun _ => ?_
       (first | apply envO | apply envQ); simp -implicitDefEqProofs only [vmp,↓vmd,seval]; rfl
       simp -implicitDefEqProofs only [vmp,↓vmd,seval]
       refine onB_dec (fun t6 => ?_) (fun t6 => ?_)
       ·rw [decide_eq_false (show ¬ s.values.length = 0 by omega)] at hr
        simp only [Bool.false_and, Bool.true_and, Bool.and_false, Bool.and_true, Bool.false_or, Bool.true_or, Bool.or_false, Bool.or_true, Bool.not_true, Bool.not_false] at hr
        subst hr
        (first | apply envO | apply envQ); simp -implicitDefEqProofs only [t6, vmp,↓vmd,seval]; rfl
        simp -implicitDefEqProofs only [t6, vmp,↓vmd,seval]
        exact gives_pure
       ·rw [decide_eq_true (show s.values.length = 0 by omega)] at hr
        simp only [Bool.false_and, Bool.true_and, Bool.and_false, Bool.and_true, Bool.false_or, Bool.true_or, Bool.or_false, Bool.or_true, Bool.not_true, Bool.not_false] at hr
        (first | apply envO | apply envQ); simp -implicitDefEqProofs only [t6, vmp,↓vmd,seval]; rfl
        simp -implicitDefEqProofs only [t6, vmp,↓vmd,seval]
        refine onIf_intro fun _ => ?_
        (first | apply envO | apply envQ); simp -implicitDefEqProofs only [vmp,↓vmd,seval]; rfl
        simp -implicitDefEqProofs only [vmp,↓vmd,seval]
        refine onB_dec (fun t7 => ?_) (fun t7 => ?_)
        ·rw [decide_eq_false (show ¬ s.pairs.length = 0 by omega)] at hr
         simp only [Bool.false_and, Bool.true_and, Bool.and_false, Bool.and_true, Bool.false_or, Bool.true_or, Bool.or_false, Bool.or_true, Bool.not_true, Bool.not_false] at hr
         subst hr
         (first | apply envO | apply envQ); simp -implicitDefEqProofs only [t7, vmp,↓vmd,seval]; rfl
         simp -implicitDefEqProofs only [t7, vmp,↓vmd,seval]
         exact gives_pure
        ·rw [decide_eq_true (show s.pairs.length = 0 by omega)] at hr
         simp only [Bool.false_and, Bool.true_and, Bool.and_false, Bool.and_true, Bool.false_or, Bool.true_or, Bool.or_false, Bool.or_true, Bool.not_true, Bool.not_false] at hr
         (first | apply envO | apply envQ); simp -implicitDefEqProofs only [t7, vmp,↓vmd,seval]; rfl
         simp -implicitDefEqProofs only [t7, vmp,↓vmd,seval]
         refine onIf_intro fun _ => ?_
         (first | apply envO | apply envQ); simp -implicitDefEqProofs only [vmp,↓vmd,seval]; rfl
         simp -implicitDefEqProofs only [vmp,↓vmd,seval]
         refine onB_dec (fun t8 => ?_) (fun t8 => ?_)
         ·rw [decide_eq_true (show s.curs.length = 0 by omega)] at hr
          subst hr
          (first | apply envO | apply envQ); simp -implicitDefEqProofs only [t8, vmp,↓vmd,seval]; rfl
          simp -implicitDefEqProofs only [t8, vmp,↓vmd,seval]
          exact gives_pure
         ·rw [decide_eq_false (show ¬ s.curs.length = 0 by omega)] at hr
          subst hr
          (first | apply envO | apply envQ); simp -implicitDefEqProofs only [t8, vmp,↓vmd,seval]; rfl
          simp -implicitDefEqProofs only [t8, vmp,↓vmd,seval]
          exact gives_pure
 by_cases e10 : k = 10
 ·subst e10
  have hr : (decide (s.cover.length = 0) && (decide (s.to.length = 0) && (decide (s.ligs.length = 0) && (decide (sumE s.inn.length s.nests.length ≤ 0) && (decide (sumE s.back.length s.ahead.length ≤ 0) && (decide (s.values.length = 0) && (decide (s.pairs.length = 0) && decide (s.curs.length = 0)))))))) = out := by rw [← ho]; simp [bareB, kCov, kTo, kRow, kHang, Bool.and_assoc]
  simp -implicitDefEqProofs only [vmp,↓vmd,seval]
  refine onIf_intro fun _ => ?_
  (first | apply envO | apply envQ); simp -implicitDefEqProofs only [vmp,↓vmd,seval]; rfl
  simp -implicitDefEqProofs only [vmp,↓vmd,seval]
  refine onB_dec (fun t1 => ?_) (fun t1 => ?_)
  ·rw [decide_eq_false (show ¬ s.cover.length = 0 by omega)] at hr
   simp only [Bool.false_and, Bool.true_and, Bool.and_false, Bool.and_true, Bool.false_or, Bool.true_or, Bool.or_false, Bool.or_true, Bool.not_true, Bool.not_false] at hr
   subst hr
   (first | apply envO | apply envQ); simp -implicitDefEqProofs only [t1, vmp,↓vmd,seval]; rfl
   simp -implicitDefEqProofs only [t1, vmp,↓vmd,seval]
   exact gives_pure
  ·rw [decide_eq_true (show s.cover.length = 0 by omega)] at hr
   simp only [Bool.false_and, Bool.true_and, Bool.and_false, Bool.and_true, Bool.false_or, Bool.true_or, Bool.or_false, Bool.or_true, Bool.not_true, Bool.not_false] at hr
   (first | apply envO | apply envQ); simp -implicitDefEqProofs only [t1, vmp,↓vmd,seval]; rfl
   simp -implicitDefEqProofs only [t1, vmp,↓vmd,seval]
   refine onIf_intro fun _ => ?_
   (first | apply envO | apply envQ); simp -implicitDefEqProofs only [vmp,↓vmd,seval]; rfl
   simp -implicitDefEqProofs only [vmp,↓vmd,seval]
   refine onB_dec (fun t2 => ?_) (fun t2 => ?_)
   ·rw [decide_eq_false (show ¬ s.to.length = 0 by omega)] at hr
    simp only [Bool.false_and, Bool.true_and, Bool.and_false, Bool.and_true, Bool.false_or, Bool.true_or, Bool.or_false, Bool.or_true, Bool.not_true, Bool.not_false] at hr
    subst hr
    (first | apply envO | apply envQ); simp -implicitDefEqProofs only [t2, vmp,↓vmd,seval]; rfl
    simp -implicitDefEqProofs only [t2, vmp,↓vmd,seval]
    exact gives_pure
   ·rw [decide_eq_true (show s.to.length = 0 by omega)] at hr
    simp only [Bool.false_and, Bool.true_and, Bool.and_false, Bool.and_true, Bool.false_or, Bool.true_or, Bool.or_false, Bool.or_true, Bool.not_true, Bool.not_false] at hr
    (first | apply envO | apply envQ); simp -implicitDefEqProofs only [t2, vmp,↓vmd,seval]; rfl
    simp -implicitDefEqProofs only [t2, vmp,↓vmd,seval]
    refine onIf_intro fun _ => ?_
    (first | apply envO | apply envQ); simp -implicitDefEqProofs only [vmp,↓vmd,seval]; rfl
    simp -implicitDefEqProofs only [vmp,↓vmd,seval]
    refine onB_dec (fun t3 => ?_) (fun t3 => ?_)
    ·rw [decide_eq_false (show ¬ s.ligs.length = 0 by omega)] at hr
     simp only [Bool.false_and, Bool.true_and, Bool.and_false, Bool.and_true, Bool.false_or, Bool.true_or, Bool.or_false, Bool.or_true, Bool.not_true, Bool.not_false] at hr
     subst hr
     (first | apply envO | apply envQ); simp -implicitDefEqProofs only [t3, vmp,↓vmd,seval]; rfl
     simp -implicitDefEqProofs only [t3, vmp,↓vmd,seval]
     exact gives_pure
    ·rw [decide_eq_true (show s.ligs.length = 0 by omega)] at hr
     simp only [Bool.false_and, Bool.true_and, Bool.and_false, Bool.and_true, Bool.false_or, Bool.true_or, Bool.or_false, Bool.or_true, Bool.not_true, Bool.not_false] at hr
     (first | apply envO | apply envQ); simp -implicitDefEqProofs only [t3, vmp,↓vmd,seval]; rfl
     simp -implicitDefEqProofs only [t3, vmp,↓vmd,seval]
     refine onIf_intro fun _ => ?_
     (first | apply envO | apply envQ); simp -implicitDefEqProofs only [vmp,↓vmd,seval]; rfl
     simp -implicitDefEqProofs only [vmp,↓vmd,seval]
     refine onIf_intro fun _ => ?_
     (first | apply envO | apply envQ); simp -implicitDefEqProofs only [vmp,↓vmd,seval]; rfl
     simp -implicitDefEqProofs only [vmp,↓vmd,seval]
     refine onB_dec (fun t4 => ?_) (fun t4 => ?_)
     ·rw [decide_eq_false (show ¬ sumE s.inn.length s.nests.length ≤ 0 from Int.not_le.2 t4)] at hr
      simp only [Bool.false_and, Bool.true_and, Bool.and_false, Bool.and_true, Bool.false_or, Bool.true_or, Bool.or_false, Bool.or_true, Bool.not_true, Bool.not_false] at hr
      subst hr
      (first | apply envO | apply envQ); simp -implicitDefEqProofs only [t4, vmp,↓vmd,seval]; rfl
      simp -implicitDefEqProofs only [t4, vmp,↓vmd,seval]
      exact gives_pure
     ·rw [decide_eq_true (show sumE s.inn.length s.nests.length ≤ 0 from Int.not_lt.1 t4)] at hr
      simp only [Bool.false_and, Bool.true_and, Bool.and_false, Bool.and_true, Bool.false_or, Bool.true_or, Bool.or_false, Bool.or_true, Bool.not_true, Bool.not_false] at hr
      (first | apply envO | apply envQ); simp -implicitDefEqProofs only [t4, vmp,↓vmd,seval]; rfl
      simp -implicitDefEqProofs only [t4, vmp,↓vmd,seval]
      refine onIf_intro fun _ => ?_
      (first | apply envO | apply envQ); simp -implicitDefEqProofs only [vmp,↓vmd,seval]; rfl
      simp -implicitDefEqProofs only [vmp,↓vmd,seval]
      refine onIf_intro fun _ => ?_
      (first | apply envO | apply envQ); simp -implicitDefEqProofs only [vmp,↓vmd,seval]; rfl
      simp -implicitDefEqProofs only [vmp,↓vmd,seval]
      refine onB_dec (fun t5 => ?_) (fun t5 => ?_)
      ·rw [decide_eq_false (show ¬ sumE s.back.length s.ahead.length ≤ 0 from Int.not_le.2 t5)] at hr
       simp only [Bool.false_and, Bool.true_and, Bool.and_false, Bool.and_true, Bool.false_or, Bool.true_or, Bool.or_false, Bool.or_true, Bool.not_true, Bool.not_false] at hr
       subst hr
       (first | apply envO | apply envQ); simp -implicitDefEqProofs only [t5, vmp,↓vmd,seval]; rfl
       simp -implicitDefEqProofs only [t5, vmp,↓vmd,seval]
       exact gives_pure
      ·rw [decide_eq_true (show sumE s.back.length s.ahead.length ≤ 0 from Int.not_lt.1 t5)] at hr
       simp only [Bool.false_and, Bool.true_and, Bool.and_false, Bool.and_true, Bool.false_or, Bool.true_or, Bool.or_false, Bool.or_true, Bool.not_true, Bool.not_false] at hr
       (first | apply envO | apply envQ); simp -implicitDefEqProofs only [t5, vmp,↓vmd,seval]; rfl
       simp -implicitDefEqProofs only [t5, vmp,↓vmd,seval]
       refine onIf_intro fun _ => ?_
       (first | apply envO | apply envQ); simp -implicitDefEqProofs only [vmp,↓vmd,seval]; rfl
       simp -implicitDefEqProofs only [vmp,↓vmd,seval]
       refine onB_dec (fun t6 => ?_) (fun t6 => ?_)
       ·rw [decide_eq_false (show ¬ s.values.length = 0 by omega)] at hr
        simp only [Bool.false_and, Bool.true_and, Bool.and_false, Bool.and_true, Bool.false_or, Bool.true_or, Bool.or_false, Bool.or_true, Bool.not_true, Bool.not_false] at hr
        subst hr
        (first | apply envO | apply envQ); simp -implicitDefEqProofs only [t6, vmp,↓vmd,seval]; rfl
        simp -implicitDefEqProofs only [t6, vmp,↓vmd,seval]
        exact gives_pure
       ·rw [decide_eq_true (show s.values.length = 0 by omega)] at hr
        simp only [Bool.false_and, Bool.true_and, Bool.and_false, Bool.and_true, Bool.false_or, Bool.true_or, Bool.or_false, Bool.or_true, Bool.not_true, Bool.not_false] at hr
        (first | apply envO | apply envQ); simp -implicitDefEqProofs only [t6, vmp,↓vmd,seval]; rfl
        simp -implicitDefEqProofs only [t6, vmp,↓vmd,seval]
        refine onIf_intro fun _ => ?_
        (first | apply envO | apply envQ); simp -implicitDefEqProofs only [vmp,↓vmd,seval]; rfl
        simp -implicitDefEqProofs only [vmp,↓vmd,seval]
        refine onB_dec (fun t7 => ?_) (fun t7 => ?_)
        ·rw [decide_eq_false (show ¬ s.pairs.length = 0 by omega)] at hr
         simp only [Bool.false_and, Bool.true_and, Bool.and_false, Bool.and_true, Bool.false_or, Bool.true_or, Bool.or_false, Bool.or_true, Bool.not_true, Bool.not_false] at hr
         subst hr
         (first | apply envO | apply envQ); simp -implicitDefEqProofs only [t7, vmp,↓vmd,seval]; rfl
         simp -implicitDefEqProofs only [t7, vmp,↓vmd,seval]
         exact gives_pure
        ·rw [decide_eq_true (show s.pairs.length = 0 by omega)] at hr
         simp only [Bool.false_and, Bool.true_and, Bool.and_false, Bool.and_true, Bool.false_or, Bool.true_or, Bool.or_false, Bool.or_true, Bool.not_true, Bool.not_false] at hr
         (first | apply envO | apply envQ); simp -implicitDefEqProofs only [t7, vmp,↓vmd,seval]; rfl
         simp -implicitDefEqProofs only [t7, vmp,↓vmd,seval]
         refine onIf_intro fun _ => ?_
         (first | apply envO | apply envQ); simp -implicitDefEqProofs only [vmp,↓vmd,seval]; rfl
         simp -implicitDefEqProofs only [vmp,↓vmd,seval]
         refine onB_dec (fun t8 => ?_) (fun t8 => ?_)
         ·rw [decide_eq_true (show s.curs.length = 0 by omega)] at hr
          subst hr
          (first | apply envO | apply envQ); simp -implicitDefEqProofs only [t8, vmp,↓vmd,seval]; rfl
          simp -implicitDefEqProofs only [t8, vmp,↓vmd,seval]
          exact gives_pure
         ·rw [decide_eq_false (show ¬ s.curs.length = 0 by omega)] at hr
          subst hr
          (first | apply envO | apply envQ); simp -implicitDefEqProofs only [t8, vmp,↓vmd,seval]; rfl
          simp -implicitDefEqProofs only [t8, vmp,↓vmd,seval]
          exact gives_pure
 by_cases e11 : k = 11
 ·subst e11
  have hr : (decide (s.cover.length = 0) && (decide (s.to.length = 0) && (decide (s.ligs.length = 0) && (decide (sumE s.inn.length s.nests.length ≤ 0) && (decide (sumE s.back.length s.ahead.length ≤ 0) && (decide (s.values.length = 0) && (decide (s.pairs.length = 0) && decide (s.curs.length = 0)))))))) = out := by rw [← ho]; simp [bareB, kCov, kTo, kRow, kHang, Bool.and_assoc]
  simp -implicitDefEqProofs only [vmp,↓vmd,seval]
  refine onIf_intro fun _ => ?_
  (first | apply envO | apply envQ); simp -implicitDefEqProofs only [vmp,↓vmd,seval]; rfl
  simp -implicitDefEqProofs only [vmp,↓vmd,seval]
  refine onB_dec (fun t1 => ?_) (fun t1 => ?_)
  ·rw [decide_eq_false (show ¬ s.cover.length = 0 by omega)] at hr
   simp only [Bool.false_and, Bool.true_and, Bool.and_false, Bool.and_true, Bool.false_or, Bool.true_or, Bool.or_false, Bool.or_true, Bool.not_true, Bool.not_false] at hr
   subst hr
   (first | apply envO | apply envQ); simp -implicitDefEqProofs only [t1, vmp,↓vmd,seval]; rfl
   simp -implicitDefEqProofs only [t1, vmp,↓vmd,seval]
   exact gives_pure
  ·rw [decide_eq_true (show s.cover.length = 0 by omega)] at hr
   simp only [Bool.false_and, Bool.true_and, Bool.and_false, Bool.and_true, Bool.false_or, Bool.true_or, Bool.or_false, Bool.or_true, Bool.not_true, Bool.not_false] at hr
   (first | apply envO | apply envQ); simp -implicitDefEqProofs only [t1, vmp,↓vmd,seval]; rfl
   simp -implicitDefEqProofs only [t1, vmp,↓vmd,seval]
   refine onIf_intro fun _ => ?_
   (first | apply envO | apply envQ); simp -implicitDefEqProofs only [vmp,↓vmd,seval]; rfl
   simp -implicitDefEqProofs only [vmp,↓vmd,seval]
   refine onB_dec (fun t2 => ?_) (fun t2 => ?_)
   ·rw [decide_eq_false (show ¬ s.to.length = 0 by omega)] at hr
    simp only [Bool.false_and, Bool.true_and, Bool.and_false, Bool.and_true, Bool.false_or, Bool.true_or, Bool.or_false, Bool.or_true, Bool.not_true, Bool.not_false] at hr
    subst hr
    (first | apply envO | apply envQ); simp -implicitDefEqProofs only [t2, vmp,↓vmd,seval]; rfl
    simp -implicitDefEqProofs only [t2, vmp,↓vmd,seval]
    exact gives_pure
   ·rw [decide_eq_true (show s.to.length = 0 by omega)] at hr
    simp only [Bool.false_and, Bool.true_and, Bool.and_false, Bool.and_true, Bool.false_or, Bool.true_or, Bool.or_false, Bool.or_true, Bool.not_true, Bool.not_false] at hr
    (first | apply envO | apply envQ); simp -implicitDefEqProofs only [t2, vmp,↓vmd,seval]; rfl
    simp -implicitDefEqProofs only [t2, vmp,↓vmd,seval]
    refine onIf_intro fun _ => ?_
    (first | apply envO | apply envQ); simp -implicitDefEqProofs only [vmp,↓vmd,seval]; rfl
    simp -implicitDefEqProofs only [vmp,↓vmd,seval]
    refine onB_dec (fun t3 => ?_) (fun t3 => ?_)
    ·rw [decide_eq_false (show ¬ s.ligs.length = 0 by omega)] at hr
     simp only [Bool.false_and, Bool.true_and, Bool.and_false, Bool.and_true, Bool.false_or, Bool.true_or, Bool.or_false, Bool.or_true, Bool.not_true, Bool.not_false] at hr
     subst hr
     (first | apply envO | apply envQ); simp -implicitDefEqProofs only [t3, vmp,↓vmd,seval]; rfl
     simp -implicitDefEqProofs only [t3, vmp,↓vmd,seval]
     exact gives_pure
    ·rw [decide_eq_true (show s.ligs.length = 0 by omega)] at hr
     simp only [Bool.false_and, Bool.true_and, Bool.and_false, Bool.and_true, Bool.false_or, Bool.true_or, Bool.or_false, Bool.or_true, Bool.not_true, Bool.not_false] at hr
     (first | apply envO | apply envQ); simp -implicitDefEqProofs only [t3, vmp,↓vmd,seval]; rfl
     simp -implicitDefEqProofs only [t3, vmp,↓vmd,seval]
     refine onIf_intro fun _ => ?_
     (first | apply envO | apply envQ); simp -implicitDefEqProofs only [vmp,↓vmd,seval]; rfl
     simp -implicitDefEqProofs only [vmp,↓vmd,seval]
     refine onIf_intro fun _ => ?_
     (first | apply envO | apply envQ); simp -implicitDefEqProofs only [vmp,↓vmd,seval]; rfl
     simp -implicitDefEqProofs only [vmp,↓vmd,seval]
     refine onB_dec (fun t4 => ?_) (fun t4 => ?_)
     ·rw [decide_eq_false (show ¬ sumE s.inn.length s.nests.length ≤ 0 from Int.not_le.2 t4)] at hr
      simp only [Bool.false_and, Bool.true_and, Bool.and_false, Bool.and_true, Bool.false_or, Bool.true_or, Bool.or_false, Bool.or_true, Bool.not_true, Bool.not_false] at hr
      subst hr
      (first | apply envO | apply envQ); simp -implicitDefEqProofs only [t4, vmp,↓vmd,seval]; rfl
      simp -implicitDefEqProofs only [t4, vmp,↓vmd,seval]
      exact gives_pure
     ·rw [decide_eq_true (show sumE s.inn.length s.nests.length ≤ 0 from Int.not_lt.1 t4)] at hr
      simp only [Bool.false_and, Bool.true_and, Bool.and_false, Bool.and_true, Bool.false_or, Bool.true_or, Bool.or_false, Bool.or_true, Bool.not_true, Bool.not_false] at hr
      (first | apply envO | apply envQ); simp -implicitDefEqProofs only [t4, vmp,↓vmd,seval]; rfl
      simp -implicitDefEqProofs only [t4, vmp,↓vmd,seval]
      refine onIf_intro fun _ => ?_
      (first | apply envO | apply envQ); simp -implicitDefEqProofs only [vmp,↓vmd,seval]; rfl
      simp -implicitDefEqProofs only [vmp,↓vmd,seval]
      refine onIf_intro fun _ => ?_
      (first | apply envO | apply envQ); simp -implicitDefEqProofs only [vmp,↓vmd,seval]; rfl
      simp -implicitDefEqProofs only [vmp,↓vmd,seval]
      refine onB_dec (fun t5 => ?_) (fun t5 => ?_)
      ·rw [decide_eq_false (show ¬ sumE s.back.length s.ahead.length ≤ 0 from Int.not_le.2 t5)] at hr
       simp only [Bool.false_and, Bool.true_and, Bool.and_false, Bool.and_true, Bool.false_or, Bool.true_or, Bool.or_false, Bool.or_true, Bool.not_true, Bool.not_false] at hr
       subst hr
       (first | apply envO | apply envQ); simp -implicitDefEqProofs only [t5, vmp,↓vmd,seval]; rfl
       simp -implicitDefEqProofs only [t5, vmp,↓vmd,seval]
       exact gives_pure
      ·rw [decide_eq_true (show sumE s.back.length s.ahead.length ≤ 0 from Int.not_lt.1 t5)] at hr
       simp only [Bool.false_and, Bool.true_and, Bool.and_false, Bool.and_true, Bool.false_or, Bool.true_or, Bool.or_false, Bool.or_true, Bool.not_true, Bool.not_false] at hr
       (first | apply envO | apply envQ); simp -implicitDefEqProofs only [t5, vmp,↓vmd,seval]; rfl
       simp -implicitDefEqProofs only [t5, vmp,↓vmd,seval]
       refine onIf_intro fun _ => ?_
       (first | apply envO | apply envQ); simp -implicitDefEqProofs only [vmp,↓vmd,seval]; rfl
       simp -implicitDefEqProofs only [vmp,↓vmd,seval]
       refine onB_dec (fun t6 => ?_) (fun t6 => ?_)
       ·rw [decide_eq_false (show ¬ s.values.length = 0 by omega)] at hr
        simp only [Bool.false_and, Bool.true_and, Bool.and_false, Bool.and_true, Bool.false_or, Bool.true_or, Bool.or_false, Bool.or_true, Bool.not_true, Bool.not_false] at hr
        subst hr
        (first | apply envO | apply envQ); simp -implicitDefEqProofs only [t6, vmp,↓vmd,seval]; rfl
        simp -implicitDefEqProofs only [t6, vmp,↓vmd,seval]
        exact gives_pure
       ·rw [decide_eq_true (show s.values.length = 0 by omega)] at hr
        simp only [Bool.false_and, Bool.true_and, Bool.and_false, Bool.and_true, Bool.false_or, Bool.true_or, Bool.or_false, Bool.or_true, Bool.not_true, Bool.not_false] at hr
        (first | apply envO | apply envQ); simp -implicitDefEqProofs only [t6, vmp,↓vmd,seval]; rfl
        simp -implicitDefEqProofs only [t6, vmp,↓vmd,seval]
        refine onIf_intro fun _ => ?_
        (first | apply envO | apply envQ); simp -implicitDefEqProofs only [vmp,↓vmd,seval]; rfl
        simp -implicitDefEqProofs only [vmp,↓vmd,seval]
        refine onB_dec (fun t7 => ?_) (fun t7 => ?_)
        ·rw [decide_eq_false (show ¬ s.pairs.length = 0 by omega)] at hr
         simp only [Bool.false_and, Bool.true_and, Bool.and_false, Bool.and_true, Bool.false_or, Bool.true_or, Bool.or_false, Bool.or_true, Bool.not_true, Bool.not_false] at hr
         subst hr
         (first | apply envO | apply envQ); simp -implicitDefEqProofs only [t7, vmp,↓vmd,seval]; rfl
         simp -implicitDefEqProofs only [t7, vmp,↓vmd,seval]
         exact gives_pure
        ·rw [decide_eq_true (show s.pairs.length = 0 by omega)] at hr
         simp only [Bool.false_and, Bool.true_and, Bool.and_false, Bool.and_true, Bool.false_or, Bool.true_or, Bool.or_false, Bool.or_true, Bool.not_true, Bool.not_false] at hr
         (first | apply envO | apply envQ); simp -implicitDefEqProofs only [t7, vmp,↓vmd,seval]; rfl
         simp -implicitDefEqProofs only [t7, vmp,↓vmd,seval]
         refine onIf_intro fun _ => ?_
         (first | apply envO | apply envQ); simp -implicitDefEqProofs only [vmp,↓vmd,seval]; rfl
         simp -implicitDefEqProofs only [vmp,↓vmd,seval]
         refine onB_dec (fun t8 => ?_) (fun t8 => ?_)
         ·rw [decide_eq_true (show s.curs.length = 0 by omega)] at hr
          subst hr
          (first | apply envO | apply envQ); simp -implicitDefEqProofs only [t8, vmp,↓vmd,seval]; rfl
          simp -implicitDefEqProofs only [t8, vmp,↓vmd,seval]
          exact gives_pure
         ·rw [decide_eq_false (show ¬ s.curs.length = 0 by omega)] at hr
          subst hr
          (first | apply envO | apply envQ); simp -implicitDefEqProofs only [t8, vmp,↓vmd,seval]; rfl
          simp -implicitDefEqProofs only [t8, vmp,↓vmd,seval]
          exact gives_pure
 by_cases e12 : k = 12
 ·subst e12
  have hr : (decide (s.cover.length = 0) && (decide (s.to.length = 0) && (decide (s.ligs.length = 0) && (decide (s.values.length = 0) && (decide (s.pairs.length = 0) && (decide (s.curs.length = 0) && decide (sumE s.marks.length s.hosts.length = 0))))))) = out := by rw [← ho]; simp [bareB, kCov, kTo, kRow, kHang, Bool.and_assoc]
  simp -implicitDefEqProofs only [vmp,↓vmd,seval]
  refine onIf_intro fun _ => ?_
  (first | apply envO | apply envQ); simp -implicitDefEqProofs only [vmp,↓vmd,seval]; rfl
  simp -implicitDefEqProofs only [vmp,↓vmd,seval]
  refine onB_dec (fun t1 => ?_) (fun t1 => ?_)
  ·rw [decide_eq_false (show ¬ s.cover.length = 0 by omega)] at hr
   simp only [Bool.false_and, Bool.true_and, Bool.and_false, Bool.and_true, Bool.false_or, Bool.true_or, Bool.or_false, Bool.or_true, Bool.not_true, Bool.not_false] at hr
   subst hr
   (first | apply envO | apply envQ); simp -implicitDefEqProofs only [t1, vmp,↓vmd,seval]; rfl
   simp -implicitDefEqProofs only [t1, vmp,↓vmd,seval]
   exact gives_pure
  ·rw [decide_eq_true (show s.cover.length = 0 by omega)] at hr
   simp only [Bool.false_and, Bool.true_and, Bool.and_false, Bool.and_true, Bool.false_or, Bool.true_or, Bool.or_false, Bool.or_true, Bool.not_true, Bool.not_false] at hr
   (first | apply envO | apply envQ); simp -implicitDefEqProofs only [t1, vmp,↓vmd,seval]; rfl
   simp -implicitDefEqProofs only [t1, vmp,↓vmd,seval]
   refine onIf_intro fun _ => ?_
   (first | apply envO | apply envQ); simp -implicitDefEqProofs only [vmp,↓vmd,seval]; rfl
   simp -implicitDefEqProofs only [vmp,↓vmd,seval]
   refine onB_dec (fun t2 => ?_) (fun t2 => ?_)
   ·rw [decide_eq_false (show ¬ s.to.length = 0 by omega)] at hr
    simp only [Bool.false_and, Bool.true_and, Bool.and_false, Bool.and_true, Bool.false_or, Bool.true_or, Bool.or_false, Bool.or_true, Bool.not_true, Bool.not_false] at hr
    subst hr
    (first | apply envO | apply envQ); simp -implicitDefEqProofs only [t2, vmp,↓vmd,seval]; rfl
    simp -implicitDefEqProofs only [t2, vmp,↓vmd,seval]
    exact gives_pure
   ·rw [decide_eq_true (show s.to.length = 0 by omega)] at hr
    simp only [Bool.false_and, Bool.true_and, Bool.and_false, Bool.and_true, Bool.false_or, Bool.true_or, Bool.or_false, Bool.or_true, Bool.not_true, Bool.not_false] at hr
    (first | apply envO | apply envQ); simp -implicitDefEqProofs only [t2, vmp,↓vmd,seval]; rfl
    simp -implicitDefEqProofs only [t2, vmp,↓vmd,seval]
    refine onIf_intro fun _ => ?_
    (first | apply envO | apply envQ); simp -implicitDefEqProofs only [vmp,↓vmd,seval]; rfl
    simp -implicitDefEqProofs only [vmp,↓vmd,seval]
    refine onB_dec (fun t3 => ?_) (fun t3 => ?_)
    ·rw [decide_eq_false (show ¬ s.ligs.length = 0 by omega)] at hr
     simp only [Bool.false_and, Bool.true_and, Bool.and_false, Bool.and_true, Bool.false_or, Bool.true_or, Bool.or_false, Bool.or_true, Bool.not_true, Bool.not_false] at hr
     subst hr
     (first | apply envO | apply envQ); simp -implicitDefEqProofs only [t3, vmp,↓vmd,seval]; rfl
     simp -implicitDefEqProofs only [t3, vmp,↓vmd,seval]
     exact gives_pure
    ·rw [decide_eq_true (show s.ligs.length = 0 by omega)] at hr
     simp only [Bool.false_and, Bool.true_and, Bool.and_false, Bool.and_true, Bool.false_or, Bool.true_or, Bool.or_false, Bool.or_true, Bool.not_true, Bool.not_false] at hr
     (first | apply envO | apply envQ); simp -implicitDefEqProofs only [t3, vmp,↓vmd,seval]; rfl
     simp -implicitDefEqProofs only [t3, vmp,↓vmd,seval]
     refine onIf_intro fun _ => ?_
     (first | apply envO | apply envQ); simp -implicitDefEqProofs only [vmp,↓vmd,seval]; rfl
     simp -implicitDefEqProofs only [vmp,↓vmd,seval]
     refine onB_dec (fun t4 => ?_) (fun t4 => ?_)
     ·rw [decide_eq_false (show ¬ s.values.length = 0 by omega)] at hr
      simp only [Bool.false_and, Bool.true_and, Bool.and_false, Bool.and_true, Bool.false_or, Bool.true_or, Bool.or_false, Bool.or_true, Bool.not_true, Bool.not_false] at hr
      subst hr
      (first | apply envO | apply envQ); simp -implicitDefEqProofs only [t4, vmp,↓vmd,seval]; rfl
      simp -implicitDefEqProofs only [t4, vmp,↓vmd,seval]
      exact gives_pure
     ·rw [decide_eq_true (show s.values.length = 0 by omega)] at hr
      simp only [Bool.false_and, Bool.true_and, Bool.and_false, Bool.and_true, Bool.false_or, Bool.true_or, Bool.or_false, Bool.or_true, Bool.not_true, Bool.not_false] at hr
      (first | apply envO | apply envQ); simp -implicitDefEqProofs only [t4, vmp,↓vmd,seval]; rfl
      simp -implicitDefEqProofs only [t4, vmp,↓vmd,seval]
      refine onIf_intro fun _ => ?_
      (first | apply envO | apply envQ); simp -implicitDefEqProofs only [vmp,↓vmd,seval]; rfl
      simp -implicitDefEqProofs only [vmp,↓vmd,seval]
      refine onB_dec (fun t5 => ?_) (fun t5 => ?_)
      ·rw [decide_eq_false (show ¬ s.pairs.length = 0 by omega)] at hr
       simp only [Bool.false_and, Bool.true_and, Bool.and_false, Bool.and_true, Bool.false_or, Bool.true_or, Bool.or_false, Bool.or_true, Bool.not_true, Bool.not_false] at hr
       subst hr
       (first | apply envO | apply envQ); simp -implicitDefEqProofs only [t5, vmp,↓vmd,seval]; rfl
       simp -implicitDefEqProofs only [t5, vmp,↓vmd,seval]
       exact gives_pure
      ·rw [decide_eq_true (show s.pairs.length = 0 by omega)] at hr
       simp only [Bool.false_and, Bool.true_and, Bool.and_false, Bool.and_true, Bool.false_or, Bool.true_or, Bool.or_false, Bool.or_true, Bool.not_true, Bool.not_false] at hr
       (first | apply envO | apply envQ); simp -implicitDefEqProofs only [t5, vmp,↓vmd,seval]; rfl
       simp -implicitDefEqProofs only [t5, vmp,↓vmd,seval]
       refine onIf_intro fun _ => ?_
       (first | apply envO | apply envQ); simp -implicitDefEqProofs only [vmp,↓vmd,seval]; rfl
       simp -implicitDefEqProofs only [vmp,↓vmd,seval]
       refine onB_dec (fun t6 => ?_) (fun t6 => ?_)
       ·rw [decide_eq_true (show s.curs.length = 0 by omega)] at hr
        simp only [Bool.false_and, Bool.true_and, Bool.and_false, Bool.and_true, Bool.false_or, Bool.true_or, Bool.or_false, Bool.or_true, Bool.not_true, Bool.not_false] at hr
        (first | apply envO | apply envQ); simp -implicitDefEqProofs only [t6, vmp,↓vmd,seval]; rfl
        simp -implicitDefEqProofs only [t6, vmp,↓vmd,seval]
        refine onIf_intro fun _ => ?_
        (first | apply envO | apply envQ); simp -implicitDefEqProofs only [vmp,↓vmd,seval]; rfl
        simp -implicitDefEqProofs only [vmp,↓vmd,seval]
        refine onIf_intro fun _ => ?_
        (first | apply envO | apply envQ); simp -implicitDefEqProofs only [vmp,↓vmd,seval]; rfl
        simp -implicitDefEqProofs only [vmp,↓vmd,seval]
        rw [hr]
        exact gives_pure
       ·rw [decide_eq_false (show ¬ s.curs.length = 0 by omega)] at hr
        simp only [Bool.false_and, Bool.true_and, Bool.and_false, Bool.and_true, Bool.false_or, Bool.true_or, Bool.or_false, Bool.or_true, Bool.not_true, Bool.not_false] at hr
        subst hr
        (first | apply envO | apply envQ); simp -implicitDefEqProofs only [t6, vmp,↓vmd,seval]; rfl
        simp -implicitDefEqProofs only [t6, vmp,↓vmd,seval]
        exact gives_pure
 have hr : (decide (s.cover.length = 0) && (decide (s.to.length = 0) && (decide (s.ligs.length = 0) && (decide (sumE s.inn.length s.nests.length ≤ 0) && (decide (sumE s.back.length s.ahead.length ≤ 0) && (decide (s.values.length = 0) && (decide (s.pairs.length = 0) && (decide (s.curs.length = 0) && decide (sumE s.marks.length s.hosts.length = 0))))))))) = out := by rw [← ho]; simp [bareB, kCov, kTo, kRow, kHang, Bool.and_assoc, e1, e2, e3, e4, e5, e6, e7, e8, e9, e10, e11, e12]
 simp -implicitDefEqProofs only [e1, e2, e3, e4, e5, e6, e7, e8, e9, e10, e11, e12, vmp,↓vmd,seval]
 refine onIf_intro fun _ => ?_
 (first | apply envO | apply envQ); simp -implicitDefEqProofs only [vmp,↓vmd,seval]; rfl
 simp -implicitDefEqProofs only [e1, e2, e3, e4, e5, e6, e7, e8, e9, e10, e11, e12, vmp,↓vmd,seval]
 refine onB_dec (fun t1 => ?_) (fun t1 => ?_)
 ·rw [decide_eq_false (show ¬ s.cover.length = 0 by omega)] at hr
  simp only [Bool.false_and, Bool.true_and, Bool.and_false, Bool.and_true, Bool.false_or, Bool.true_or, Bool.or_false, Bool.or_true, Bool.not_true, Bool.not_false] at hr
  subst hr
  (first | apply envO | apply envQ); simp -implicitDefEqProofs only [t1, vmp,↓vmd,seval]; rfl
  simp -implicitDefEqProofs only [t1, e1, e2, e3, e4, e5, e6, e7, e8, e9, e10, e11, e12, vmp,↓vmd,seval]
  exact gives_pure
 ·rw [decide_eq_true (show s.cover.length = 0 by omega)] at hr
  simp only [Bool.false_and, Bool.true_and, Bool.and_false, Bool.and_true, Bool.false_or, Bool.true_or, Bool.or_false, Bool.or_true, Bool.not_true, Bool.not_false] at hr
  (first | apply envO | apply envQ); simp -implicitDefEqProofs only [t1, vmp,↓vmd,seval]; rfl
  simp -implicitDefEqProofs only [t1, e1, e2, e3, e4, e5, e6, e7, e8, e9, e10, e11, e12, vmp,↓vmd,seval]
  refine onIf_intro fun _ => ?_
  (first | apply envO | apply envQ); simp -implicitDefEqProofs only [vmp,↓vmd,seval]; rfl
  simp -implicitDefEqProofs only [e1, e2, e3, e4, e5, e6, e7, e8, e9, e10, e11, e12, vmp,↓vmd,seval]
  refine onB_dec (fun t2 => ?_) (fun t2 => ?_)
  ·rw [decide_eq_false (show ¬ s.to.length = 0 by omega)] at hr
   simp only [Bool.false_and, Bool.true_and, Bool.and_false, Bool.and_true, Bool.false_or, Bool.true_or, Bool.or_false, Bool.or_true, Bool.not_true, Bool.not_false] at hr
   subst hr
   (first | apply envO | apply envQ); simp -implicitDefEqProofs only [t2, vmp,↓vmd,seval]; rfl
   simp -implicitDefEqProofs only [t2, e1, e2, e3, e4, e5, e6, e7, e8, e9, e10, e11, e12, vmp,↓vmd,seval]
   exact gives_pure
  ·rw [decide_eq_true (show s.to.length = 0 by omega)] at hr
   simp only [Bool.false_and, Bool.true_and, Bool.and_false, Bool.and_true, Bool.false_or, Bool.true_or, Bool.or_false, Bool.or_true, Bool.not_true, Bool.not_false] at hr
   (first | apply envO | apply envQ); simp -implicitDefEqProofs only [t2, vmp,↓vmd,seval]; rfl
   simp -implicitDefEqProofs only [t2, e1, e2, e3, e4, e5, e6, e7, e8, e9, e10, e11, e12, vmp,↓vmd,seval]
   refine onIf_intro fun _ => ?_
   (first | apply envO | apply envQ); simp -implicitDefEqProofs only [vmp,↓vmd,seval]; rfl
   simp -implicitDefEqProofs only [e1, e2, e3, e4, e5, e6, e7, e8, e9, e10, e11, e12, vmp,↓vmd,seval]
   refine onB_dec (fun t3 => ?_) (fun t3 => ?_)
   ·rw [decide_eq_false (show ¬ s.ligs.length = 0 by omega)] at hr
    simp only [Bool.false_and, Bool.true_and, Bool.and_false, Bool.and_true, Bool.false_or, Bool.true_or, Bool.or_false, Bool.or_true, Bool.not_true, Bool.not_false] at hr
    subst hr
    (first | apply envO | apply envQ); simp -implicitDefEqProofs only [t3, vmp,↓vmd,seval]; rfl
    simp -implicitDefEqProofs only [t3, e1, e2, e3, e4, e5, e6, e7, e8, e9, e10, e11, e12, vmp,↓vmd,seval]
    exact gives_pure
   ·rw [decide_eq_true (show s.ligs.length = 0 by omega)] at hr
    simp only [Bool.false_and, Bool.true_and, Bool.and_false, Bool.and_true, Bool.false_or, Bool.true_or, Bool.or_false, Bool.or_true, Bool.not_true, Bool.not_false] at hr
    (first | apply envO | apply envQ); simp -implicitDefEqProofs only [t3, vmp,↓vmd,seval]; rfl
    simp -implicitDefEqProofs only [t3, e1, e2, e3, e4, e5, e6, e7, e8, e9, e10, e11, e12, vmp,↓vmd,seval]
    refine onIf_intro fun _ => ?_
    (first | apply envO | apply envQ); simp -implicitDefEqProofs only [vmp,↓vmd,seval]; rfl
    simp -implicitDefEqProofs only [e1, e2, e3, e4, e5, e6, e7, e8, e9, e10, e11, e12, vmp,↓vmd,seval]
    refine onIf_intro fun _ => ?_
    (first | apply envO | apply envQ); simp -implicitDefEqProofs only [vmp,↓vmd,seval]; rfl
    simp -implicitDefEqProofs only [e1, e2, e3, e4, e5, e6, e7, e8, e9, e10, e11, e12, vmp,↓vmd,seval]
    refine onB_dec (fun t4 => ?_) (fun t4 => ?_)
    ·rw [decide_eq_false (show ¬ sumE s.inn.length s.nests.length ≤ 0 from Int.not_le.2 t4)] at hr
     simp only [Bool.false_and, Bool.true_and, Bool.and_false, Bool.and_true, Bool.false_or, Bool.true_or, Bool.or_false, Bool.or_true, Bool.not_true, Bool.not_false] at hr
     subst hr
     (first | apply envO | apply envQ); simp -implicitDefEqProofs only [t4, vmp,↓vmd,seval]; rfl
     simp -implicitDefEqProofs only [t4, e1, e2, e3, e4, e5, e6, e7, e8, e9, e10, e11, e12, vmp,↓vmd,seval]
     exact gives_pure
    ·rw [decide_eq_true (show sumE s.inn.length s.nests.length ≤ 0 from Int.not_lt.1 t4)] at hr
     simp only [Bool.false_and, Bool.true_and, Bool.and_false, Bool.and_true, Bool.false_or, Bool.true_or, Bool.or_false, Bool.or_true, Bool.not_true, Bool.not_false] at hr
     (first | apply envO | apply envQ); simp -implicitDefEqProofs only [t4, vmp,↓vmd,seval]; rfl
     simp -implicitDefEqProofs only [t4, e1, e2, e3, e4, e5, e6, e7, e8, e9, e10, e11, e12, vmp,↓vmd,seval]
     refine onIf_intro fun _ => ?_
     (first | apply envO | apply envQ); simp -implicitDefEqProofs only [vmp,↓vmd,seval]; rfl
     simp -implicitDefEqProofs only [e1, e2, e3, e4, e5, e6, e7, e8, e9, e10, e11, e12, vmp,↓vmd,seval]
     refine onIf_intro fun _ => ?_
     (first | apply envO | apply envQ); simp -implicitDefEqProofs only [vmp,↓vmd,seval]; rfl
     simp -implicitDefEqProofs only [e1, e2, e3, e4, e5, e6, e7, e8, e9, e10, e11, e12, vmp,↓vmd,seval]
     refine onB_dec (fun t5 => ?_) (fun t5 => ?_)
     ·rw [decide_eq_false (show ¬ sumE s.back.length s.ahead.length ≤ 0 from Int.not_le.2 t5)] at hr
      simp only [Bool.false_and, Bool.true_and, Bool.and_false, Bool.and_true, Bool.false_or, Bool.true_or, Bool.or_false, Bool.or_true, Bool.not_true, Bool.not_false] at hr
      subst hr
      (first | apply envO | apply envQ); simp -implicitDefEqProofs only [t5, vmp,↓vmd,seval]; rfl
      simp -implicitDefEqProofs only [t5, e1, e2, e3, e4, e5, e6, e7, e8, e9, e10, e11, e12, vmp,↓vmd,seval]
      exact gives_pure
     ·rw [decide_eq_true (show sumE s.back.length s.ahead.length ≤ 0 from Int.not_lt.1 t5)] at hr
      simp only [Bool.false_and, Bool.true_and, Bool.and_false, Bool.and_true, Bool.false_or, Bool.true_or, Bool.or_false, Bool.or_true, Bool.not_true, Bool.not_false] at hr
      (first | apply envO | apply envQ); simp -implicitDefEqProofs only [t5, vmp,↓vmd,seval]; rfl
      simp -implicitDefEqProofs only [t5, e1, e2, e3, e4, e5, e6, e7, e8, e9, e10, e11, e12, vmp,↓vmd,seval]
      refine onIf_intro fun _ => ?_
      (first | apply envO | apply envQ); simp -implicitDefEqProofs only [vmp,↓vmd,seval]; rfl
      simp -implicitDefEqProofs only [e1, e2, e3, e4, e5, e6, e7, e8, e9, e10, e11, e12, vmp,↓vmd,seval]
      refine onB_dec (fun t6 => ?_) (fun t6 => ?_)
      ·rw [decide_eq_false (show ¬ s.values.length = 0 by omega)] at hr
       simp only [Bool.false_and, Bool.true_and, Bool.and_false, Bool.and_true, Bool.false_or, Bool.true_or, Bool.or_false, Bool.or_true, Bool.not_true, Bool.not_false] at hr
       subst hr
       (first | apply envO | apply envQ); simp -implicitDefEqProofs only [t6, vmp,↓vmd,seval]; rfl
       simp -implicitDefEqProofs only [t6, e1, e2, e3, e4, e5, e6, e7, e8, e9, e10, e11, e12, vmp,↓vmd,seval]
       exact gives_pure
      ·rw [decide_eq_true (show s.values.length = 0 by omega)] at hr
       simp only [Bool.false_and, Bool.true_and, Bool.and_false, Bool.and_true, Bool.false_or, Bool.true_or, Bool.or_false, Bool.or_true, Bool.not_true, Bool.not_false] at hr
       (first | apply envO | apply envQ); simp -implicitDefEqProofs only [t6, vmp,↓vmd,seval]; rfl
       simp -implicitDefEqProofs only [t6, e1, e2, e3, e4, e5, e6, e7, e8, e9, e10, e11, e12, vmp,↓vmd,seval]
       refine onIf_intro fun _ => ?_
       (first | apply envO | apply envQ); simp -implicitDefEqProofs only [vmp,↓vmd,seval]; rfl
       simp -implicitDefEqProofs only [e1, e2, e3, e4, e5, e6, e7, e8, e9, e10, e11, e12, vmp,↓vmd,seval]
       refine onB_dec (fun t7 => ?_) (fun t7 => ?_)
       ·rw [decide_eq_false (show ¬ s.pairs.length = 0 by omega)] at hr
        simp only [Bool.false_and, Bool.true_and, Bool.and_false, Bool.and_true, Bool.false_or, Bool.true_or, Bool.or_false, Bool.or_true, Bool.not_true, Bool.not_false] at hr
        subst hr
        (first | apply envO | apply envQ); simp -implicitDefEqProofs only [t7, vmp,↓vmd,seval]; rfl
        simp -implicitDefEqProofs only [t7, e1, e2, e3, e4, e5, e6, e7, e8, e9, e10, e11, e12, vmp,↓vmd,seval]
        exact gives_pure
       ·rw [decide_eq_true (show s.pairs.length = 0 by omega)] at hr
        simp only [Bool.false_and, Bool.true_and, Bool.and_false, Bool.and_true, Bool.false_or, Bool.true_or, Bool.or_false, Bool.or_true, Bool.not_true, Bool.not_false] at hr
        (first | apply envO | apply envQ); simp -implicitDefEqProofs only [t7, vmp,↓vmd,seval]; rfl
        simp -implicitDefEqProofs only [t7, e1, e2, e3, e4, e5, e6, e7, e8, e9, e10, e11, e12, vmp,↓vmd,seval]
        refine onIf_intro fun _ => ?_
        (first | apply envO | apply envQ); simp -implicitDefEqProofs only [vmp,↓vmd,seval]; rfl
        simp -implicitDefEqProofs only [e1, e2, e3, e4, e5, e6, e7, e8, e9, e10, e11, e12, vmp,↓vmd,seval]
        refine onB_dec (fun t8 => ?_) (fun t8 => ?_)
        ·rw [decide_eq_true (show s.curs.length = 0 by omega)] at hr
         simp only [Bool.false_and, Bool.true_and, Bool.and_false, Bool.and_true, Bool.false_or, Bool.true_or, Bool.or_false, Bool.or_true, Bool.not_true, Bool.not_false] at hr
         (first | apply envO | apply envQ); simp -implicitDefEqProofs only [t8, vmp,↓vmd,seval]; rfl
         simp -implicitDefEqProofs only [t8, e1, e2, e3, e4, e5, e6, e7, e8, e9, e10, e11, e12, vmp,↓vmd,seval]
         refine onIf_intro fun _ => ?_
         (first | apply envO | apply envQ); simp -implicitDefEqProofs only [vmp,↓vmd,seval]; rfl
         simp -implicitDefEqProofs only [e1, e2, e3, e4, e5, e6, e7, e8, e9, e10, e11, e12, vmp,↓vmd,seval]
         refine onIf_intro fun _ => ?_
         (first | apply envO | apply envQ); simp -implicitDefEqProofs only [vmp,↓vmd,seval]; rfl
         simp -implicitDefEqProofs only [e1, e2, e3, e4, e5, e6, e7, e8, e9, e10, e11, e12, vmp,↓vmd,seval]
         rw [hr]
         exact gives_pure
        ·rw [decide_eq_false (show ¬ s.curs.length = 0 by omega)] at hr
         simp only [Bool.false_and, Bool.true_and, Bool.and_false, Bool.and_true, Bool.false_or, Bool.true_or, Bool.or_false, Bool.or_true, Bool.not_true, Bool.not_false] at hr
         subst hr
         (first | apply envO | apply envQ); simp -implicitDefEqProofs only [t8, vmp,↓vmd,seval]; rfl
         simp -implicitDefEqProofs only [t8, e1, e2, e3, e4, e5, e6, e7, e8, e9, e10, e11, e12, vmp,↓vmd,seval]
         exact gives_pure
end Go.Proofs.Ytcjmkpkhjhjepaa.W
