/-
  What a font may be: the document's functions, of marks and subtables. No condition.
-/
import Derived.Test.YtcjmkpkhjhjepaaChk3
namespace Go.Proofs.Ytcjmkpkhjhjepaa.W
open Go Go.Vm Go.Proofs
set_option maxRecDepth 100000
set_option linter.unusedSimpArgs false
set_option maxHeartbeats 4000000
/-! typecase/typecaseref21.marks -/
def c100_0 : AC :=
 (.seq (.reg [⟨some 6, none, .mov (.c (.pure (.bool true)))⟩])
 .ret)
def c100_1 : AC :=
 (.reg [⟨some 74, none, .mov (.s 9)⟩,
⟨some 75, none, .bin .add (.s 74) (.c (.pure (.int .i64 1)))⟩,
⟨some 9, none, .mov (.s 75)⟩])
def c100_2 : AC :=
 (.reg [⟨some 118, none, .mov (.s 12)⟩,
⟨some 119, none, .bin .add (.s 118) (.c (.pure (.int .i64 1)))⟩,
⟨some 12, none, .mov (.s 119)⟩])
def c100_3 : AC :=
 (.seq (.seq (.reg [⟨some 127, none, .mov (.s 13)⟩,
⟨some 128, none, .fldA 1 (.s 10)⟩,
⟨some 129, none, .load false 1 (.s 128)⟩,
⟨some 130, none, .mov (.s 12)⟩,
⟨some 131, none, .idxA 1 (.s 129) (.s 130)⟩,
⟨some 132, none, .load false 1 (.s 131)⟩,
⟨some 133, none, .len (.s 132)⟩,
⟨some 134, none, .bin .lss (.s 127) (.s 133)⟩])
 (.cond (.s 134)
 .skip
 (.exit 6)))
 (.seq (.block 7
 (.seq (.regq [⟨some 137, none, .fldA 1 (.s 10)⟩,
⟨some 138, none, .load false 1 (.s 137)⟩,
⟨some 139, none, .mov (.s 12)⟩,
⟨some 140, none, .idxA 1 (.s 138) (.s 139)⟩,
⟨some 141, none, .load false 1 (.s 140)⟩,
⟨some 142, none, .mov (.s 13)⟩,
⟨some 143, none, .idxA 3 (.s 141) (.s 142)⟩,
⟨some 144, none, .fldA 1 (.s 143)⟩,
⟨some 145, none, .load true 2 (.s 144)⟩,
⟨some 146, none, .fldA 1 (.s 10)⟩,
⟨some 147, none, .load false 1 (.s 146)⟩,
⟨some 148, none, .mov (.s 12)⟩,
⟨some 149, none, .idxA 1 (.s 147) (.s 148)⟩,
⟨some 150, none, .load false 1 (.s 149)⟩,
⟨some 151, none, .mov (.s 13)⟩,
⟨some 152, none, .idxA 3 (.s 150) (.s 151)⟩,
⟨some 153, none, .fldA 0 (.s 152)⟩,
⟨some 154, none, .load false 1 (.s 153)⟩]
[⟨some 155, none, .call 107 [(.s 145), (.s 154)]⟩,
⟨some 156, none, .un .not (.s 155)⟩])
 (.cond (.s 156)
 (.seq (.reg [⟨some 6, none, .mov (.c (.pure (.bool false)))⟩])
 .ret)
 .skip)))
 (.reg [⟨some 135, none, .mov (.s 13)⟩,
⟨some 136, none, .bin .add (.s 135) (.c (.pure (.int .i64 1)))⟩,
⟨some 13, none, .mov (.s 136)⟩])))
def c100_4 : AC :=
 (.seq (.seq (.reg [⟨some 113, none, .mov (.s 12)⟩,
⟨some 114, none, .fldA 1 (.s 10)⟩,
⟨some 115, none, .load false 1 (.s 114)⟩,
⟨some 116, none, .len (.s 115)⟩,
⟨some 117, none, .bin .lss (.s 113) (.s 116)⟩])
 (.cond (.s 117)
 .skip
 (.exit 4)))
 (.seq (.block 5
 (.seq (.seq (.reg [⟨some 120, none, .fldA 1 (.s 10)⟩,
⟨some 121, none, .load false 1 (.s 120)⟩,
⟨some 122, none, .mov (.s 12)⟩,
⟨some 123, none, .idxA 1 (.s 121) (.s 122)⟩,
⟨some 124, none, .load false 1 (.s 123)⟩,
⟨some 125, none, .len (.s 124)⟩,
⟨some 126, none, .bin .gtr (.s 125) (.c (.pure (.int .i64 16)))⟩])
 (.cond (.s 126)
 (.seq (.reg [⟨some 6, none, .mov (.c (.pure (.bool false)))⟩])
 .ret)
 .skip))
 (.seq (.reg [⟨some 13, none, .mov (.c (.pure (.int .i64 0)))⟩])
 (.block 6
 (.loop c100_3)))))
 c100_2))
def c100_5 : AC :=
 (.seq (.seq (.reg [⟨some 69, none, .mov (.s 9)⟩,
⟨some 70, none, .fldA 11 (.s 5)⟩,
⟨some 71, none, .load false 1 (.s 70)⟩,
⟨some 72, none, .len (.s 71)⟩,
⟨some 73, none, .bin .lss (.s 69) (.s 72)⟩])
 (.cond (.s 73)
 .skip
 (.exit 2)))
 (.seq (.block 3
 (.seq (.reg [⟨some 76, none, .fldA 11 (.s 5)⟩,
⟨some 77, none, .load false 1 (.s 76)⟩,
⟨some 78, none, .mov (.s 9)⟩,
⟨some 79, none, .idxA 2 (.s 77) (.s 78)⟩,
⟨some 80, none, .load true 2 (.s 79)⟩,
⟨some 10, none, .box (.c (.agg [(.pure (.int .i64 0)), .empty]))⟩,
⟨none, none, .store 2 (.s 10) (.s 80)⟩])
 (.seq (.reg [⟨some 11, none, .mov (.c (.pure (.int .i64 1)))⟩])
 (.seq (.seq (.reg [⟨some 81, none, .fldA 0 (.s 4)⟩,
⟨some 82, none, .load false 1 (.s 81)⟩,
⟨some 83, none, .bin .eql (.s 82) (.c (.pure (.int .i64 10)))⟩])
 (.cond (.s 83)
 (.reg [⟨some 11, none, .mov (.c (.pure (.int .i64 16)))⟩])
 .skip))
 (.seq (.seq (.regq [⟨some 84, none, .load true 6 (.s 3)⟩,
⟨some 85, none, .fldA 0 (.s 10)⟩,
⟨some 86, none, .load false 1 (.s 85)⟩,
⟨some 87, none, .call 79 [(.s 84), (.s 86)]⟩,
⟨some 88, none, .un .not (.s 87)⟩,
⟨some 89, none, .mov (.s 88)⟩,
⟨some 90, some (89, false), .fldA 1 (.s 10)⟩,
⟨some 91, some (89, false), .load false 1 (.s 90)⟩,
⟨some 92, some (89, false), .len (.s 91)⟩,
⟨some 93, some (89, false), .mov (.s 11)⟩,
⟨some 94, some (89, false), .call 75 [(.s 92), (.c (.pure (.int .i64 1))), (.s 93)]⟩,
⟨some 95, some (89, false), .un .not (.s 94)⟩,
⟨some 96, none, .pick (.s 89) (.c (.pure (.bool true))) (.s 95)⟩,
⟨some 97, none, .mov (.s 96)⟩,
⟨some 98, some (97, false), .mov (.s 9)⟩,
⟨some 99, some (97, false), .bin .gtr (.s 98) (.c (.pure (.int .i64 0)))⟩,
⟨some 100, some (97, false), .mov (.s 99)⟩,
⟨some 101, some (100, true), .fldA 0 (.s 10)⟩,
⟨some 102, some (100, true), .load false 1 (.s 101)⟩,
⟨some 103, some (100, true), .fldA 11 (.s 5)⟩,
⟨some 104, some (100, true), .load false 1 (.s 103)⟩,
⟨some 105, some (100, true), .mov (.s 9)⟩,
⟨some 106, some (100, true), .bin .sub (.s 105) (.c (.pure (.int .i64 1)))⟩,
⟨some 107, some (100, true), .idxA 2 (.s 104) (.s 106)⟩,
⟨some 108, some (100, true), .fldA 0 (.s 107)⟩,
⟨some 109, some (100, true), .load false 1 (.s 108)⟩]
[⟨some 110, some (100, true), .bin .leq (.s 102) (.s 109)⟩,
⟨some 111, some (97, false), .pick (.s 100) (.s 110) (.c (.pure (.bool false)))⟩,
⟨some 112, none, .pick (.s 97) (.c (.pure (.bool true))) (.s 111)⟩])
 (.cond (.s 112)
 (.seq (.reg [⟨some 6, none, .mov (.c (.pure (.bool false)))⟩])
 .ret)
 .skip))
 (.seq (.reg [⟨some 12, none, .mov (.c (.pure (.int .i64 0)))⟩])
 (.block 4
 (.loop c100_4))))))))
 c100_1))
def c100_6 : AC :=
 (.seq (.seq (.reg [⟨some 9, none, .mov (.c (.pure (.int .i64 0)))⟩])
 (.block 2
 (.loop c100_5)))
 c100_0)
def c100_7 : AC :=
 (.seq (.seq (.reg [⟨some 24, none, .mov (.s 7)⟩,
⟨some 25, none, .fldA 10 (.s 5)⟩,
⟨some 26, none, .load false 1 (.s 25)⟩,
⟨some 27, none, .len (.s 26)⟩,
⟨some 28, none, .bin .lss (.s 24) (.s 27)⟩])
 (.cond (.s 28)
 .skip
 (.exit 0)))
 (.seq (.block 1
 (.seq (.reg [⟨some 31, none, .fldA 10 (.s 5)⟩,
⟨some 32, none, .load false 1 (.s 31)⟩,
⟨some 33, none, .mov (.s 7)⟩,
⟨some 34, none, .idxA 4 (.s 32) (.s 33)⟩,
⟨some 35, none, .load true 4 (.s 34)⟩,
⟨some 8, none, .box (.c (.pure (.agg [(.int .i64 0), (.int .i64 0), (.int .i64 0), (.int .i64 0)])))⟩,
⟨none, none, .store 4 (.s 8) (.s 35)⟩])
 (.seq (.regq [⟨some 36, none, .load true 6 (.s 3)⟩,
⟨some 37, none, .fldA 0 (.s 8)⟩,
⟨some 38, none, .load false 1 (.s 37)⟩,
⟨some 39, none, .call 79 [(.s 36), (.s 38)]⟩,
⟨some 40, none, .un .not (.s 39)⟩,
⟨some 41, none, .mov (.s 40)⟩,
⟨some 42, some (41, false), .fldA 1 (.s 8)⟩,
⟨some 43, some (41, false), .load false 1 (.s 42)⟩,
⟨some 44, some (41, false), .call 75 [(.s 43), (.c (.pure (.int .i64 0))), (.c (.pure (.int .i64 15)))]⟩,
⟨some 45, some (41, false), .un .not (.s 44)⟩,
⟨some 46, none, .pick (.s 41) (.c (.pure (.bool true))) (.s 45)⟩,
⟨some 47, none, .mov (.s 46)⟩,
⟨some 48, some (47, false), .fldA 2 (.s 8)⟩,
⟨some 49, some (47, false), .load true 2 (.s 48)⟩,
⟨some 50, some (47, false), .call 107 [(.s 49), (.c (.pure (.bool true)))]⟩,
⟨some 51, some (47, false), .un .not (.s 50)⟩,
⟨some 52, none, .pick (.s 47) (.c (.pure (.bool true))) (.s 51)⟩,
⟨some 53, none, .mov (.s 52)⟩,
⟨some 54, some (53, false), .mov (.s 7)⟩,
⟨some 55, some (53, false), .bin .gtr (.s 54) (.c (.pure (.int .i64 0)))⟩,
⟨some 56, some (53, false), .mov (.s 55)⟩,
⟨some 57, some (56, true), .fldA 0 (.s 8)⟩,
⟨some 58, some (56, true), .load false 1 (.s 57)⟩,
⟨some 59, some (56, true), .fldA 10 (.s 5)⟩,
⟨some 60, some (56, true), .load false 1 (.s 59)⟩,
⟨some 61, some (56, true), .mov (.s 7)⟩,
⟨some 62, some (56, true), .bin .sub (.s 61) (.c (.pure (.int .i64 1)))⟩,
⟨some 63, some (56, true), .idxA 4 (.s 60) (.s 62)⟩,
⟨some 64, some (56, true), .fldA 0 (.s 63)⟩,
⟨some 65, some (56, true), .load false 1 (.s 64)⟩]
[⟨some 66, some (56, true), .bin .leq (.s 58) (.s 65)⟩,
⟨some 67, some (53, false), .pick (.s 56) (.s 66) (.c (.pure (.bool false)))⟩,
⟨some 68, none, .pick (.s 53) (.c (.pure (.bool true))) (.s 67)⟩])
 (.cond (.s 68)
 (.seq (.reg [⟨some 6, none, .mov (.c (.pure (.bool false)))⟩])
 .ret)
 .skip))))
 (.reg [⟨some 29, none, .mov (.s 7)⟩,
⟨some 30, none, .bin .add (.s 29) (.c (.pure (.int .i64 1)))⟩,
⟨some 7, none, .mov (.s 30)⟩])))
def c100 : AC :=
 (.seq (.reg [⟨some 3, none, .box (.s 0)⟩,
⟨some 4, none, .box (.s 1)⟩,
⟨some 5, none, .box (.s 2)⟩,
⟨some 6, none, .mov (.c (.pure (.bool false)))⟩])
 (.seq (.seq (.reg [⟨some 14, none, .fldA 10 (.s 5)⟩,
⟨some 15, none, .load false 1 (.s 14)⟩,
⟨some 16, none, .len (.s 15)⟩,
⟨some 17, none, .bin .gtr (.s 16) (.c (.pure (.int .i64 4096)))⟩,
⟨some 18, none, .mov (.s 17)⟩,
⟨some 19, some (18, false), .fldA 11 (.s 5)⟩,
⟨some 20, some (18, false), .load false 1 (.s 19)⟩,
⟨some 21, some (18, false), .len (.s 20)⟩,
⟨some 22, some (18, false), .bin .gtr (.s 21) (.c (.pure (.int .i64 4096)))⟩,
⟨some 23, none, .pick (.s 18) (.c (.pure (.bool true))) (.s 22)⟩])
 (.cond (.s 23)
 (.seq (.reg [⟨some 6, none, .mov (.c (.pure (.bool false)))⟩])
 .ret)
 .skip))
 (.seq (.seq (.reg [⟨some 7, none, .mov (.c (.pure (.int .i64 0)))⟩])
 (.block 0
 (.loop c100_7)))
 c100_6)))
theorem k100 : OkF 100 Try.f100 c100 [.t 6] 157 := ⟨Try.func100, by kernel_rfl, by kernel_rfl, by kernel_rfl, Try.ntmps100⟩
theorem marks21_q (F : Ff) (k : Lk) (s : Sub) : FnQ Try.prog 100 [ffV F, lk k, sub s] [.bool (marksB F k s)] := by
 refine k100.q (by simp) ?_
 unfold c100
 obtain ⟨most, hmost⟩ : ∃ m, m = mostF k := ⟨_, rfl⟩
 have hr : (decide (s.marks.length ≤ 4096) && decide (s.hosts.length ≤ 4096) && allFrom (markB F s.marks) s.marks.length 0 && allFrom (hostB F most s.hosts) s.hosts.length 0) = marksB F k s := by rw [hmost]; rfl
 generalize marksB F k s = out at *
 simp -implicitDefEqProofs only [vmp,↓vmd,seval]
 refine onIf_intro fun _ => ?_
 (first | apply envO | apply envQ); simp -implicitDefEqProofs only [vmp,↓vmd,seval]; rfl
 simp -implicitDefEqProofs only [vmp,↓vmd,seval]
 refine onB_dec (fun h1 => ?_) (fun h1 => ?_)
 ·rw [decide_eq_false (show ¬ s.marks.length ≤ 4096 by omega)] at hr
  simp only [Bool.false_and, Bool.true_and, Bool.and_false, Bool.and_true, Bool.false_or, Bool.true_or, Bool.or_false, Bool.or_true, Bool.not_true, Bool.not_false] at hr
  subst hr
  (first | apply envO | apply envQ); simp -implicitDefEqProofs only [h1, vmp,↓vmd,seval]; rfl
  simp -implicitDefEqProofs only [h1, vmp,↓vmd,seval]
  exact gives_pure
 ·rw [decide_eq_true (show s.marks.length ≤ 4096 by omega)] at hr
  simp only [Bool.false_and, Bool.true_and, Bool.and_false, Bool.and_true, Bool.false_or, Bool.true_or, Bool.or_false, Bool.or_true, Bool.not_true, Bool.not_false] at hr
  (first | apply envO | apply envQ); simp -implicitDefEqProofs only [h1, vmp,↓vmd,seval]; rfl
  simp -implicitDefEqProofs only [h1, vmp,↓vmd,seval]
  refine onIf_intro fun _ => ?_
  (first | apply envO | apply envQ); simp -implicitDefEqProofs only [vmp,↓vmd,seval]; rfl
  simp -implicitDefEqProofs only [h1, vmp,↓vmd,seval]
  refine onB_dec (fun h2 => ?_) (fun h2 => ?_)
  ·rw [decide_eq_false (show ¬ s.hosts.length ≤ 4096 by omega)] at hr
   simp only [Bool.false_and, Bool.true_and, Bool.and_false, Bool.and_true, Bool.false_or, Bool.true_or, Bool.or_false, Bool.or_true, Bool.not_true, Bool.not_false] at hr
   subst hr
   (first | apply envO | apply envQ); simp -implicitDefEqProofs only [h2, vmp,↓vmd,seval]; rfl
   simp -implicitDefEqProofs only [h2, vmp,↓vmd,seval]
   exact gives_pure
  ·rw [decide_eq_true (show s.hosts.length ≤ 4096 by omega)] at hr
   simp only [Bool.false_and, Bool.true_and, Bool.and_false, Bool.and_true, Bool.false_or, Bool.true_or, Bool.or_false, Bool.or_true, Bool.not_true, Bool.not_false] at hr
   (first | apply envO | apply envQ); simp -implicitDefEqProofs only [h2, vmp,↓vmd,seval]; rfl
   simp -implicitDefEqProofs only [h2, vmp,↓vmd,seval]
   refine loop_at (T := Nat) (fun i => [(7, .pure (I (i : Int))), (3, .ptr 0 0 0), (4, .ptr 1 0 0), (5, .ptr 2 0 0)]) (fun _ => [⟨[.pure (ffV F)], 6, .live⟩, ⟨[.pure (lk k)], 4, .live⟩, ⟨[.pure (sub s)], 12, .live⟩]) (fun i => i ≤ s.marks.length ∧ (allFrom (markB F s.marks) (s.marks.length - i) i && allFrom (hostB F most s.hosts) s.hosts.length 0) = out) (fun i => s.marks.length - i)
    0 [0, 1, 2] (by simp) rfl ⟨by simp, hr⟩ (by simp -implicitDefEqProofs only [kpp,seval]) (by simp -implicitDefEqProofs only [kpp,seval]) ?_
   rintro i ⟨hi, hr⟩
   unfold c100_7
   simp -implicitDefEqProofs only [vmp,↓vmd,seval]
   refine onIf_intro fun _ => ?_
   (first | apply envO | apply envQ); simp -implicitDefEqProofs only [vmp,↓vmd,seval]; rfl
   simp -implicitDefEqProofs only [vmp,↓vmd,seval]
   refine onB_dec (fun h1 => ?_) (fun h1 => ?_)
   ·have hlt : i < s.marks.length := by omega
    rw [allFrom_step hlt, markB] at hr
    have hgi : (s.marks.map mk)[i]? = some (mk (mkAt s.marks i)) := mkAt_eq hlt
    simp -implicitDefEqProofs only [h1, hgi, Int.natCast_nonneg, vmp,↓vmd,seval]
    refine onQ_q (there_q F (mkAt s.marks i).glyph) rfl ?_
    generalize thereB F (mkAt s.marks i).glyph = b at *
    cases b with
    | false =>
     simp only [Bool.false_and, Bool.true_and, Bool.and_false, Bool.and_true, Bool.false_or, Bool.true_or, Bool.or_false, Bool.or_true, Bool.not_true, Bool.not_false] at hr
     subst hr
     (first | apply envO | apply envQ); simp -implicitDefEqProofs only [vmp,↓vmd,seval]; rfl
     simp -implicitDefEqProofs only [vmp,↓vmd,seval]
     exact gives_pure
    | true =>
     simp only [Bool.false_and, Bool.true_and, Bool.and_false, Bool.and_true, Bool.false_or, Bool.true_or, Bool.or_false, Bool.or_true, Bool.not_true, Bool.not_false] at hr
     (first | apply envO | apply envQ); simp -implicitDefEqProofs only [vmp,↓vmd,seval]; rfl
     simp -implicitDefEqProofs only [vmp,↓vmd,seval]
     refine onQ_q (within_q (mkAt s.marks i).cls 0 15) rfl ?_
     generalize withB (mkAt s.marks i).cls 0 15 = b at *
     cases b with
     | false =>
      simp only [Bool.false_and, Bool.true_and, Bool.and_false, Bool.and_true, Bool.false_or, Bool.true_or, Bool.or_false, Bool.or_true, Bool.not_true, Bool.not_false] at hr
      subst hr
      (first | apply envO | apply envQ); simp -implicitDefEqProofs only [vmp,↓vmd,seval]; rfl
      simp -implicitDefEqProofs only [vmp,↓vmd,seval]
      exact gives_pure
     | true =>
      simp only [Bool.false_and, Bool.true_and, Bool.and_false, Bool.and_true, Bool.false_or, Bool.true_or, Bool.or_false, Bool.or_true, Bool.not_true, Bool.not_false] at hr
      (first | apply envO | apply envQ); simp -implicitDefEqProofs only [vmp,↓vmd,seval]; rfl
      simp -implicitDefEqProofs only [vmp,↓vmd,seval]
      refine onQ_q (anchor21_q (mkAt s.marks i).x (mkAt s.marks i).y true) rfl ?_
      generalize anchorB (mkAt s.marks i).x (mkAt s.marks i).y true = b at *
      cases b with
      | false =>
       simp only [Bool.false_and, Bool.true_and, Bool.and_false, Bool.and_true, Bool.false_or, Bool.true_or, Bool.or_false, Bool.or_true, Bool.not_true, Bool.not_false] at hr
       subst hr
       (first | apply envO | apply envQ); simp -implicitDefEqProofs only [vmp,↓vmd,seval]; rfl
       simp -implicitDefEqProofs only [vmp,↓vmd,seval]
       exact gives_pure
      | true =>
       simp only [Bool.false_and, Bool.true_and, Bool.and_false, Bool.and_true, Bool.false_or, Bool.true_or, Bool.or_false, Bool.or_true, Bool.not_true, Bool.not_false] at hr
       (first | apply envO | apply envQ); simp -implicitDefEqProofs only [vmp,↓vmd,seval]; rfl
       simp -implicitDefEqProofs only [vmp,↓vmd,seval]
       by_cases h2 : i = 0
       ·have h2' : ¬ (0 : Int) < (i : Int) := by omega
        rw [decide_eq_true h2] at hr
        simp only [Bool.false_and, Bool.true_and, Bool.and_false, Bool.and_true, Bool.false_or, Bool.true_or, Bool.or_false, Bool.or_true, Bool.not_true, Bool.not_false] at hr
        refine onB_neg h2' ?_
        (first | apply envO | apply envQ); simp -implicitDefEqProofs only [h2', vmp,↓vmd,seval]; rfl
        simp -implicitDefEqProofs only [vmp,↓vmd,seval]
        refine onBk_to (i + 1) [0, 1, 2] (by simp) rfl (by omega) ⟨hlt, hr⟩ (by simp -implicitDefEqProofs only [next_at hlt (by omega), kpp,seval]) (by simp -implicitDefEqProofs only [kpp,seval])
       ·have h2' : (0 : Int) < (i : Int) := by omega
        rw [decide_eq_false h2] at hr
        simp only [Bool.false_and, Bool.true_and, Bool.and_false, Bool.and_true, Bool.false_or, Bool.true_or, Bool.or_false, Bool.or_true, Bool.not_true, Bool.not_false] at hr
        have hgp : (s.marks.map mk)[i - 1]? = some (mk (mkAt s.marks (i - 1))) := mkAt_eq (by omega)
        have hw : IntKind.wrap .i64 ((i : Int) - 1) = ((i - 1 : Nat) : Int) := by rw [wrap_id (by omega) (by omega)]; omega
        refine onB_pos h2' ?_
        (first | apply envO | apply envQ); simp -implicitDefEqProofs only [h2', vmp,↓vmd,seval]; rfl
        simp -implicitDefEqProofs only [hw, hgp, Int.natCast_nonneg, Int.toNat_natCast, vmp,↓vmd,seval]
        refine onB_dec (fun h3 => ?_) (fun h3 => ?_)
        ·rw [decide_eq_false (show ¬ (mkAt s.marks (i - 1)).glyph < (mkAt s.marks i).glyph by omega)] at hr
         simp only [Bool.false_and, Bool.true_and, Bool.and_false, Bool.and_true, Bool.false_or, Bool.true_or, Bool.or_false, Bool.or_true, Bool.not_true, Bool.not_false] at hr
         subst hr
         simp -implicitDefEqProofs only [h3, vmp,↓vmd,seval]
         exact gives_pure
        ·rw [decide_eq_true (show (mkAt s.marks (i - 1)).glyph < (mkAt s.marks i).glyph by omega)] at hr
         simp only [Bool.false_and, Bool.true_and, Bool.and_false, Bool.and_true, Bool.false_or, Bool.true_or, Bool.or_false, Bool.or_true, Bool.not_true, Bool.not_false] at hr
         simp -implicitDefEqProofs only [h3, vmp,↓vmd,seval]
         refine onBk_to (i + 1) [0, 1, 2] (by simp) rfl (by omega) ⟨hlt, hr⟩ (by simp -implicitDefEqProofs only [next_at hlt (by omega), kpp,seval]) (by simp -implicitDefEqProofs only [kpp,seval])
   ·rw [allFrom_end (by omega), Bool.true_and] at hr
    simp -implicitDefEqProofs only [h1, vmp,↓vmd,seval]
    unfold c100_6
    simp -implicitDefEqProofs only [vmp,↓vmd,seval]
    have hr : allFrom (hostB F most s.hosts) (s.hosts.length - 0) 0 = out := hr
    refine loop_at (T := Nat) (fun i => [(9, .pure (I (i : Int))), (3, .ptr 0 0 0), (4, .ptr 1 0 0), (5, .ptr 2 0 0)]) (fun _ => [⟨[.pure (ffV F)], 6, .live⟩, ⟨[.pure (lk k)], 4, .live⟩, ⟨[.pure (sub s)], 12, .live⟩]) (fun i => i ≤ s.hosts.length ∧ allFrom (hostB F most s.hosts) (s.hosts.length - i) i = out) (fun i => s.hosts.length - i)
     0 [0, 1, 2] (by simp) rfl ⟨by simp, hr⟩ (by simp -implicitDefEqProofs only [kpp,seval]) (by simp -implicitDefEqProofs only [kpp,seval]) ?_
    rintro i ⟨hi, hr⟩
    unfold c100_5
    simp -implicitDefEqProofs only [vmp,↓vmd,seval]
    refine onIf_intro fun _ => ?_
    (first | apply envO | apply envQ); simp -implicitDefEqProofs only [vmp,↓vmd,seval]; rfl
    simp -implicitDefEqProofs only [vmp,↓vmd,seval]
    refine onB_dec (fun h1 => ?_) (fun h1 => ?_)
    ·have hlt : i < s.hosts.length := by omega
     rw [allFrom_step hlt, hostB] at hr
     have hgi : (s.hosts.map ho)[i]? = some (ho (hoAt s.hosts i)) := hoAt_eq hlt
     generalize hh : hoAt s.hosts i = h at hr hgi
     simp -implicitDefEqProofs only [h1, hgi, Int.natCast_nonneg, vmp,↓vmd,seval]
     refine onB_dec (fun hk => ?_) (fun hk => ?_)
     ·have hN : most = 16 := by rw [hmost, mostF, if_pos hk]
      rw [hN] at hr
      simp -implicitDefEqProofs only [hk, vmp,↓vmd,seval]
      refine onQ_q (there_q F h.glyph) rfl ?_
      generalize thereB F h.glyph = b at *
      cases b with
      | false =>
       simp only [Bool.false_and, Bool.true_and, Bool.and_false, Bool.and_true, Bool.false_or, Bool.true_or, Bool.or_false, Bool.or_true, Bool.not_true, Bool.not_false] at hr
       subst hr
       (first | apply envO | apply envQ); simp -implicitDefEqProofs only [vmp,↓vmd,seval]; rfl
       simp -implicitDefEqProofs only [vmp,↓vmd,seval]
       exact gives_pure
      | true =>
       simp only [Bool.false_and, Bool.true_and, Bool.and_false, Bool.and_true, Bool.false_or, Bool.true_or, Bool.or_false, Bool.or_true, Bool.not_true, Bool.not_false] at hr
       (first | apply envO | apply envQ); simp -implicitDefEqProofs only [vmp,↓vmd,seval]; rfl
       simp -implicitDefEqProofs only [vmp,↓vmd,seval]
       refine onQ_q (within_q h.spots.length 1 16) rfl ?_
       generalize withB h.spots.length 1 16 = b at *
       cases b with
       | false =>
        simp only [Bool.false_and, Bool.true_and, Bool.and_false, Bool.and_true, Bool.false_or, Bool.true_or, Bool.or_false, Bool.or_true, Bool.not_true, Bool.not_false] at hr
        subst hr
        (first | apply envO | apply envQ); simp -implicitDefEqProofs only [vmp,↓vmd,seval]; rfl
        simp -implicitDefEqProofs only [vmp,↓vmd,seval]
        exact gives_pure
       | true =>
        simp only [Bool.false_and, Bool.true_and, Bool.and_false, Bool.and_true, Bool.false_or, Bool.true_or, Bool.or_false, Bool.or_true, Bool.not_true, Bool.not_false] at hr
        (first | apply envO | apply envQ); simp -implicitDefEqProofs only [vmp,↓vmd,seval]; rfl
        simp -implicitDefEqProofs only [vmp,↓vmd,seval]
        by_cases h2 : i = 0
        ·have h2' : ¬ (0 : Int) < (i : Int) := by omega
         rw [decide_eq_true h2] at hr
         simp only [Bool.false_and, Bool.true_and, Bool.and_false, Bool.and_true, Bool.false_or, Bool.true_or, Bool.or_false, Bool.or_true, Bool.not_true, Bool.not_false] at hr
         refine onB_neg h2' ?_
         (first | apply envO | apply envQ); simp -implicitDefEqProofs only [h2', vmp,↓vmd,seval]; rfl
         simp -implicitDefEqProofs only [vmp,↓vmd,seval]
         rw [← hN] at hr
         refine loop_at (T := Nat) (fun a => [(12, .pure (I (a : Int))), (9, .pure (I (i : Int))), (3, .ptr 0 0 0), (4, .ptr 1 0 0), (5, .ptr 2 0 0), (10, .ptr 3 0 0)]) (fun _ => [⟨[.pure (ffV F)], 6, .live⟩, ⟨[.pure (lk k)], 4, .live⟩, ⟨[.pure (sub s)], 12, .live⟩, ⟨[.pure (ho h)], 2, .live⟩])
          (fun a => a ≤ h.spots.length ∧ ((h.spots.drop a).all spotsB && allFrom (hostB F most s.hosts) (s.hosts.length - (i + 1)) (i + 1)) = out) (fun a => h.spots.length - a)
          0 [0, 1, 2, 3] (by simp) rfl ⟨by simp, hr⟩ (by simp -implicitDefEqProofs only [kpp,seval]) (by simp -implicitDefEqProofs only [kpp,seval]) ?_
         rintro a ⟨ha, ht⟩
         unfold c100_4
         simp -implicitDefEqProofs only [vmp,↓vmd,seval]
         refine onIf_intro fun _ => ?_
         (first | apply envO | apply envQ); simp -implicitDefEqProofs only [vmp,↓vmd,seval]; rfl
         simp -implicitDefEqProofs only [vmp,↓vmd,seval]
         refine onB_dec (fun h6 => ?_) (fun h6 => ?_)
         ·have hla : a < h.spots.length := by omega
          rw [drop_at hla, List.all_cons] at ht
          have hgx : (h.spots.map spr)[a]? = some (spr h.spots[a]) := map_at hla
          generalize h.spots[a] = x at ht hgx
          rw [spotsB] at ht
          simp -implicitDefEqProofs only [h6, hgx, Int.natCast_nonneg, vmp,↓vmd,seval]
          refine onIf_intro fun _ => ?_
          (first | apply envO | apply envQ); simp -implicitDefEqProofs only [vmp,↓vmd,seval]; rfl
          simp -implicitDefEqProofs only [vmp,↓vmd,seval]
          refine onB_dec (fun h7 => ?_) (fun h7 => ?_)
          ·rw [decide_eq_false (show ¬ x.length ≤ 16 by omega)] at ht
           simp only [Bool.false_and, Bool.true_and, Bool.and_false, Bool.and_true, Bool.false_or, Bool.true_or, Bool.or_false, Bool.or_true, Bool.not_true, Bool.not_false] at ht
           subst ht
           simp -implicitDefEqProofs only [h7, vmp,↓vmd,seval]
           exact gives_pure
          ·rw [decide_eq_true (show x.length ≤ 16 by omega)] at ht
           simp only [Bool.false_and, Bool.true_and, Bool.and_false, Bool.and_true, Bool.false_or, Bool.true_or, Bool.or_false, Bool.or_true, Bool.not_true, Bool.not_false] at ht
           simp -implicitDefEqProofs only [h7, vmp,↓vmd,seval]
           refine loop_at (T := Nat) (fun b => [(13, .pure (I (b : Int))), (12, .pure (I (a : Int))), (9, .pure (I (i : Int))), (3, .ptr 0 0 0), (4, .ptr 1 0 0), (5, .ptr 2 0 0), (10, .ptr 3 0 0)]) (fun _ => [⟨[.pure (ffV F)], 6, .live⟩, ⟨[.pure (lk k)], 4, .live⟩, ⟨[.pure (sub s)], 12, .live⟩, ⟨[.pure (ho h)], 2, .live⟩])
            (fun b => b ≤ x.length ∧ (((x.drop b).all fun s => anchorB s.x s.y s.has) && (h.spots.drop (a + 1)).all spotsB && allFrom (hostB F most s.hosts) (s.hosts.length - (i + 1)) (i + 1)) = out) (fun b => x.length - b)
            0 [0, 1, 2, 3] (by simp) rfl ⟨by simp, ht⟩ (by simp -implicitDefEqProofs only [kpp,seval]) (by simp -implicitDefEqProofs only [kpp,seval]) ?_
           rintro b ⟨hb, hu⟩
           unfold c100_3
           simp -implicitDefEqProofs only [hgx, Int.natCast_nonneg, vmp,↓vmd,seval]
           refine onIf_intro fun _ => ?_
           (first | apply envO | apply envQ); simp -implicitDefEqProofs only [vmp,↓vmd,seval]; rfl
           simp -implicitDefEqProofs only [vmp,↓vmd,seval]
           refine onB_dec (fun h8 => ?_) (fun h8 => ?_)
           ·have hlb : b < x.length := by omega
            rw [drop_at hlb, List.all_cons] at hu
            have hgb : (x.map spt)[b]? = some (spt x[b]) := map_at hlb
            generalize x[b] = z at hu hgb
            simp -implicitDefEqProofs only [h8, hgx, hgb, Int.natCast_nonneg, vmp,↓vmd,seval]
            refine onC_q (anchor21_q z.x z.y z.has) rfl ?_
            generalize anchorB z.x z.y z.has = b at *
            cases b with
            | false =>
             simp only [Bool.false_and, Bool.true_and, Bool.and_false, Bool.and_true, Bool.false_or, Bool.true_or, Bool.or_false, Bool.or_true, Bool.not_true, Bool.not_false] at hu
             subst hu
             (first | apply envO | apply envQ); simp -implicitDefEqProofs only [vmp,↓vmd,seval]; rfl
             simp -implicitDefEqProofs only [vmp,↓vmd,seval]
             exact gives_pure
            | true =>
             simp only [Bool.false_and, Bool.true_and, Bool.and_false, Bool.and_true, Bool.false_or, Bool.true_or, Bool.or_false, Bool.or_true, Bool.not_true, Bool.not_false] at hu
             (first | apply envO | apply envQ); simp -implicitDefEqProofs only [vmp,↓vmd,seval]; rfl
             simp -implicitDefEqProofs only [vmp,↓vmd,seval]
             refine onBk_to (b + 1) [0, 1, 2, 3] (by simp) rfl (by omega) ⟨hlb, hu⟩ (by simp -implicitDefEqProofs only [next_at hlb (by omega), kpp,seval]) (by simp -implicitDefEqProofs only [kpp,seval])
           ·rw [List.drop_of_length_le (by omega), List.all_nil, Bool.true_and] at hu
            simp -implicitDefEqProofs only [h8, vmp,↓vmd,seval]
            unfold c100_2
            simp -implicitDefEqProofs only [vmp,↓vmd,seval]
            refine onBk_to (a + 1) [0, 1, 2, 3] (by simp) rfl (by omega) ⟨hla, hu⟩ (by simp -implicitDefEqProofs only [next_at hla (by omega), kpp,seval]) (by simp -implicitDefEqProofs only [kpp,seval])
         ·rw [List.drop_of_length_le (by omega), List.all_nil, Bool.true_and] at ht
          simp -implicitDefEqProofs only [h6, vmp,↓vmd,seval]
          unfold c100_1
          simp -implicitDefEqProofs only [vmp,↓vmd,seval]
          refine onBk_to (i + 1) [0, 1, 2] (by simp) rfl (by omega) ⟨hlt, ht⟩ (by simp -implicitDefEqProofs only [next_at hlt (by omega), kpp,seval]) (by simp -implicitDefEqProofs only [kpp,seval])
        ·have h2' : (0 : Int) < (i : Int) := by omega
         rw [decide_eq_false h2] at hr
         simp only [Bool.false_and, Bool.true_and, Bool.and_false, Bool.and_true, Bool.false_or, Bool.true_or, Bool.or_false, Bool.or_true, Bool.not_true, Bool.not_false] at hr
         have hgp : (s.hosts.map ho)[i - 1]? = some (ho (hoAt s.hosts (i - 1))) := hoAt_eq (by omega)
         have hw : IntKind.wrap .i64 ((i : Int) - 1) = ((i - 1 : Nat) : Int) := by rw [wrap_id (by omega) (by omega)]; omega
         refine onB_pos h2' ?_
         (first | apply envO | apply envQ); simp -implicitDefEqProofs only [h2', vmp,↓vmd,seval]; rfl
         simp -implicitDefEqProofs only [hw, hgp, Int.natCast_nonneg, Int.toNat_natCast, vmp,↓vmd,seval]
         refine onB_dec (fun h3 => ?_) (fun h3 => ?_)
         ·rw [decide_eq_false (show ¬ (hoAt s.hosts (i - 1)).glyph < h.glyph by omega)] at hr
          simp only [Bool.false_and, Bool.true_and, Bool.and_false, Bool.and_true, Bool.false_or, Bool.true_or, Bool.or_false, Bool.or_true, Bool.not_true, Bool.not_false] at hr
          subst hr
          simp -implicitDefEqProofs only [h3, vmp,↓vmd,seval]
          exact gives_pure
         ·rw [decide_eq_true (show (hoAt s.hosts (i - 1)).glyph < h.glyph by omega)] at hr
          simp only [Bool.false_and, Bool.true_and, Bool.and_false, Bool.and_true, Bool.false_or, Bool.true_or, Bool.or_false, Bool.or_true, Bool.not_true, Bool.not_false] at hr
          simp -implicitDefEqProofs only [h3, vmp,↓vmd,seval]
          rw [← hN] at hr
          refine loop_at (T := Nat) (fun a => [(12, .pure (I (a : Int))), (9, .pure (I (i : Int))), (3, .ptr 0 0 0), (4, .ptr 1 0 0), (5, .ptr 2 0 0), (10, .ptr 3 0 0)]) (fun _ => [⟨[.pure (ffV F)], 6, .live⟩, ⟨[.pure (lk k)], 4, .live⟩, ⟨[.pure (sub s)], 12, .live⟩, ⟨[.pure (ho h)], 2, .live⟩])
           (fun a => a ≤ h.spots.length ∧ ((h.spots.drop a).all spotsB && allFrom (hostB F most s.hosts) (s.hosts.length - (i + 1)) (i + 1)) = out) (fun a => h.spots.length - a)
           0 [0, 1, 2, 3] (by simp) rfl ⟨by simp, hr⟩ (by simp -implicitDefEqProofs only [kpp,seval]) (by simp -implicitDefEqProofs only [kpp,seval]) ?_
          rintro a ⟨ha, ht⟩
          unfold c100_4
          simp -implicitDefEqProofs only [vmp,↓vmd,seval]
          refine onIf_intro fun _ => ?_
          (first | apply envO | apply envQ); simp -implicitDefEqProofs only [vmp,↓vmd,seval]; rfl
          simp -implicitDefEqProofs only [vmp,↓vmd,seval]
          refine onB_dec (fun h6 => ?_) (fun h6 => ?_)
          ·have hla : a < h.spots.length := by omega
           rw [drop_at hla, List.all_cons] at ht
           have hgx : (h.spots.map spr)[a]? = some (spr h.spots[a]) := map_at hla
           generalize h.spots[a] = x at ht hgx
           rw [spotsB] at ht
           simp -implicitDefEqProofs only [h6, hgx, Int.natCast_nonneg, vmp,↓vmd,seval]
           refine onIf_intro fun _ => ?_
           (first | apply envO | apply envQ); simp -implicitDefEqProofs only [vmp,↓vmd,seval]; rfl
           simp -implicitDefEqProofs only [vmp,↓vmd,seval]
           refine onB_dec (fun h7 => ?_) (fun h7 => ?_)
           ·rw [decide_eq_false (show ¬ x.length ≤ 16 by omega)] at ht
            simp only [Bool.false_and, Bool.true_and, Bool.and_false, Bool.and_true, Bool.false_or, Bool.true_or, Bool.or_false, Bool.or_true, Bool.not_true, Bool.not_false] at ht
            subst ht
            simp -implicitDefEqProofs only [h7, vmp,↓vmd,seval]
            exact gives_pure
           ·rw [decide_eq_true (show x.length ≤ 16 by omega)] at ht
            simp only [Bool.false_and, Bool.true_and, Bool.and_false, Bool.and_true, Bool.false_or, Bool.true_or, Bool.or_false, Bool.or_true, Bool.not_true, Bool.not_false] at ht
            simp -implicitDefEqProofs only [h7, vmp,↓vmd,seval]
            refine loop_at (T := Nat) (fun b => [(13, .pure (I (b : Int))), (12, .pure (I (a : Int))), (9, .pure (I (i : Int))), (3, .ptr 0 0 0), (4, .ptr 1 0 0), (5, .ptr 2 0 0), (10, .ptr 3 0 0)]) (fun _ => [⟨[.pure (ffV F)], 6, .live⟩, ⟨[.pure (lk k)], 4, .live⟩, ⟨[.pure (sub s)], 12, .live⟩, ⟨[.pure (ho h)], 2, .live⟩])
             (fun b => b ≤ x.length ∧ (((x.drop b).all fun s => anchorB s.x s.y s.has) && (h.spots.drop (a + 1)).all spotsB && allFrom (hostB F most s.hosts) (s.hosts.length - (i + 1)) (i + 1)) = out) (fun b => x.length - b)
             0 [0, 1, 2, 3] (by simp) rfl ⟨by simp, ht⟩ (by simp -implicitDefEqProofs only [kpp,seval]) (by simp -implicitDefEqProofs only [kpp,seval]) ?_
            rintro b ⟨hb, hu⟩
            unfold c100_3
            simp -implicitDefEqProofs only [hgx, Int.natCast_nonneg, vmp,↓vmd,seval]
            refine onIf_intro fun _ => ?_
            (first | apply envO | apply envQ); simp -implicitDefEqProofs only [vmp,↓vmd,seval]; rfl
            simp -implicitDefEqProofs only [vmp,↓vmd,seval]
            refine onB_dec (fun h8 => ?_) (fun h8 => ?_)
            ·have hlb : b < x.length := by omega
             rw [drop_at hlb, List.all_cons] at hu
             have hgb : (x.map spt)[b]? = some (spt x[b]) := map_at hlb
             generalize x[b] = z at hu hgb
             simp -implicitDefEqProofs only [h8, hgx, hgb, Int.natCast_nonneg, vmp,↓vmd,seval]
             refine onC_q (anchor21_q z.x z.y z.has) rfl ?_
             generalize anchorB z.x z.y z.has = b at *
             cases b with
             | false =>
              simp only [Bool.false_and, Bool.true_and, Bool.and_false, Bool.and_true, Bool.false_or, Bool.true_or, Bool.or_false, Bool.or_true, Bool.not_true, Bool.not_false] at hu
              subst hu
              (first | apply envO | apply envQ); simp -implicitDefEqProofs only [vmp,↓vmd,seval]; rfl
              simp -implicitDefEqProofs only [vmp,↓vmd,seval]
              exact gives_pure
             | true =>
              simp only [Bool.false_and, Bool.true_and, Bool.and_false, Bool.and_true, Bool.false_or, Bool.true_or, Bool.or_false, Bool.or_true, Bool.not_true, Bool.not_false] at hu
              (first | apply envO | apply envQ); simp -implicitDefEqProofs only [vmp,↓vmd,seval]; rfl
              simp -implicitDefEqProofs only [vmp,↓vmd,seval]
              refine onBk_to (b + 1) [0, 1, 2, 3] (by simp) rfl (by omega) ⟨hlb, hu⟩ (by simp -implicitDefEqProofs only [next_at hlb (by omega), kpp,seval]) (by simp -implicitDefEqProofs only [kpp,seval])
            ·rw [List.drop_of_length_le (by omega), List.all_nil, Bool.true_and] at hu
             simp -implicitDefEqProofs only [h8, vmp,↓vmd,seval]
             unfold c100_2
             simp -implicitDefEqProofs only [vmp,↓vmd,seval]
             refine onBk_to (a + 1) [0, 1, 2, 3] (by simp) rfl (by omega) ⟨hla, hu⟩ (by simp -implicitDefEqProofs only [next_at hla (by omega), kpp,seval]) (by simp -implicitDefEqProofs only [kpp,seval])
          ·rw [List.drop_of_length_le (by omega), List.all_nil, Bool.true_and] at ht
           simp -implicitDefEqProofs only [h6, vmp,↓vmd,seval]
           unfold c100_1
           simp -implicitDefEqProofs only [vmp,↓vmd,seval]
           refine onBk_to (i + 1) [0, 1, 2] (by simp) rfl (by omega) ⟨hlt, ht⟩ (by simp -implicitDefEqProofs only [next_at hlt (by omega), kpp,seval]) (by simp -implicitDefEqProofs only [kpp,seval])
     ·have hN : most = 1 := by rw [hmost, mostF, if_neg hk]
      rw [hN] at hr
      simp -implicitDefEqProofs only [hk, vmp,↓vmd,seval]
      refine onQ_q (there_q F h.glyph) rfl ?_
      generalize thereB F h.glyph = b at *
      cases b with
      | false =>
       simp only [Bool.false_and, Bool.true_and, Bool.and_false, Bool.and_true, Bool.false_or, Bool.true_or, Bool.or_false, Bool.or_true, Bool.not_true, Bool.not_false] at hr
       subst hr
       (first | apply envO | apply envQ); simp -implicitDefEqProofs only [vmp,↓vmd,seval]; rfl
       simp -implicitDefEqProofs only [vmp,↓vmd,seval]
       exact gives_pure
      | true =>
       simp only [Bool.false_and, Bool.true_and, Bool.and_false, Bool.and_true, Bool.false_or, Bool.true_or, Bool.or_false, Bool.or_true, Bool.not_true, Bool.not_false] at hr
       (first | apply envO | apply envQ); simp -implicitDefEqProofs only [vmp,↓vmd,seval]; rfl
       simp -implicitDefEqProofs only [vmp,↓vmd,seval]
       refine onQ_q (within_q h.spots.length 1 1) rfl ?_
       generalize withB h.spots.length 1 1 = b at *
       cases b with
       | false =>
        simp only [Bool.false_and, Bool.true_and, Bool.and_false, Bool.and_true, Bool.false_or, Bool.true_or, Bool.or_false, Bool.or_true, Bool.not_true, Bool.not_false] at hr
        subst hr
        (first | apply envO | apply envQ); simp -implicitDefEqProofs only [vmp,↓vmd,seval]; rfl
        simp -implicitDefEqProofs only [vmp,↓vmd,seval]
        exact gives_pure
       | true =>
        simp only [Bool.false_and, Bool.true_and, Bool.and_false, Bool.and_true, Bool.false_or, Bool.true_or, Bool.or_false, Bool.or_true, Bool.not_true, Bool.not_false] at hr
        (first | apply envO | apply envQ); simp -implicitDefEqProofs only [vmp,↓vmd,seval]; rfl
        simp -implicitDefEqProofs only [vmp,↓vmd,seval]
        by_cases h2 : i = 0
        ·have h2' : ¬ (0 : Int) < (i : Int) := by omega
         rw [decide_eq_true h2] at hr
         simp only [Bool.false_and, Bool.true_and, Bool.and_false, Bool.and_true, Bool.false_or, Bool.true_or, Bool.or_false, Bool.or_true, Bool.not_true, Bool.not_false] at hr
         refine onB_neg h2' ?_
         (first | apply envO | apply envQ); simp -implicitDefEqProofs only [h2', vmp,↓vmd,seval]; rfl
         simp -implicitDefEqProofs only [vmp,↓vmd,seval]
         rw [← hN] at hr
         refine loop_at (T := Nat) (fun a => [(12, .pure (I (a : Int))), (9, .pure (I (i : Int))), (3, .ptr 0 0 0), (4, .ptr 1 0 0), (5, .ptr 2 0 0), (10, .ptr 3 0 0)]) (fun _ => [⟨[.pure (ffV F)], 6, .live⟩, ⟨[.pure (lk k)], 4, .live⟩, ⟨[.pure (sub s)], 12, .live⟩, ⟨[.pure (ho h)], 2, .live⟩])
          (fun a => a ≤ h.spots.length ∧ ((h.spots.drop a).all spotsB && allFrom (hostB F most s.hosts) (s.hosts.length - (i + 1)) (i + 1)) = out) (fun a => h.spots.length - a)
          0 [0, 1, 2, 3] (by simp) rfl ⟨by simp, hr⟩ (by simp -implicitDefEqProofs only [kpp,seval]) (by simp -implicitDefEqProofs only [kpp,seval]) ?_
         rintro a ⟨ha, ht⟩
         unfold c100_4
         simp -implicitDefEqProofs only [vmp,↓vmd,seval]
         refine onIf_intro fun _ => ?_
         (first | apply envO | apply envQ); simp -implicitDefEqProofs only [vmp,↓vmd,seval]; rfl
         simp -implicitDefEqProofs only [vmp,↓vmd,seval]
         refine onB_dec (fun h6 => ?_) (fun h6 => ?_)
         ·have hla : a < h.spots.length := by omega
          rw [drop_at hla, List.all_cons] at ht
          have hgx : (h.spots.map spr)[a]? = some (spr h.spots[a]) := map_at hla
          generalize h.spots[a] = x at ht hgx
          rw [spotsB] at ht
          simp -implicitDefEqProofs only [h6, hgx, Int.natCast_nonneg, vmp,↓vmd,seval]
          refine onIf_intro fun _ => ?_
          (first | apply envO | apply envQ); simp -implicitDefEqProofs only [vmp,↓vmd,seval]; rfl
          simp -implicitDefEqProofs only [vmp,↓vmd,seval]
          refine onB_dec (fun h7 => ?_) (fun h7 => ?_)
          ·rw [decide_eq_false (show ¬ x.length ≤ 16 by omega)] at ht
           simp only [Bool.false_and, Bool.true_and, Bool.and_false, Bool.and_true, Bool.false_or, Bool.true_or, Bool.or_false, Bool.or_true, Bool.not_true, Bool.not_false] at ht
           subst ht
           simp -implicitDefEqProofs only [h7, vmp,↓vmd,seval]
           exact gives_pure
          ·rw [decide_eq_true (show x.length ≤ 16 by omega)] at ht
           simp only [Bool.false_and, Bool.true_and, Bool.and_false, Bool.and_true, Bool.false_or, Bool.true_or, Bool.or_false, Bool.or_true, Bool.not_true, Bool.not_false] at ht
           simp -implicitDefEqProofs only [h7, vmp,↓vmd,seval]
           refine loop_at (T := Nat) (fun b => [(13, .pure (I (b : Int))), (12, .pure (I (a : Int))), (9, .pure (I (i : Int))), (3, .ptr 0 0 0), (4, .ptr 1 0 0), (5, .ptr 2 0 0), (10, .ptr 3 0 0)]) (fun _ => [⟨[.pure (ffV F)], 6, .live⟩, ⟨[.pure (lk k)], 4, .live⟩, ⟨[.pure (sub s)], 12, .live⟩, ⟨[.pure (ho h)], 2, .live⟩])
            (fun b => b ≤ x.length ∧ (((x.drop b).all fun s => anchorB s.x s.y s.has) && (h.spots.drop (a + 1)).all spotsB && allFrom (hostB F most s.hosts) (s.hosts.length - (i + 1)) (i + 1)) = out) (fun b => x.length - b)
            0 [0, 1, 2, 3] (by simp) rfl ⟨by simp, ht⟩ (by simp -implicitDefEqProofs only [kpp,seval]) (by simp -implicitDefEqProofs only [kpp,seval]) ?_
           rintro b ⟨hb, hu⟩
           unfold c100_3
           simp -implicitDefEqProofs only [hgx, Int.natCast_nonneg, vmp,↓vmd,seval]
           refine onIf_intro fun _ => ?_
           (first | apply envO | apply envQ); simp -implicitDefEqProofs only [vmp,↓vmd,seval]; rfl
           simp -implicitDefEqProofs only [vmp,↓vmd,seval]
           refine onB_dec (fun h8 => ?_) (fun h8 => ?_)
           ·have hlb : b < x.length := by omega
            rw [drop_at hlb, List.all_cons] at hu
            have hgb : (x.map spt)[b]? = some (spt x[b]) := map_at hlb
            generalize x[b] = z at hu hgb
            simp -implicitDefEqProofs only [h8, hgx, hgb, Int.natCast_nonneg, vmp,↓vmd,seval]
            refine onC_q (anchor21_q z.x z.y z.has) rfl ?_
            generalize anchorB z.x z.y z.has = b at *
            cases b with
            | false =>
             simp only [Bool.false_and, Bool.true_and, Bool.and_false, Bool.and_true, Bool.false_or, Bool.true_or, Bool.or_false, Bool.or_true, Bool.not_true, Bool.not_false] at hu
             subst hu
             (first | apply envO | apply envQ); simp -implicitDefEqProofs only [vmp,↓vmd,seval]; rfl
             simp -implicitDefEqProofs only [vmp,↓vmd,seval]
             exact gives_pure
            | true =>
             simp only [Bool.false_and, Bool.true_and, Bool.and_false, Bool.and_true, Bool.false_or, Bool.true_or, Bool.or_false, Bool.or_true, Bool.not_true, Bool.not_false] at hu
             (first | apply envO | apply envQ); simp -implicitDefEqProofs only [vmp,↓vmd,seval]; rfl
             simp -implicitDefEqProofs only [vmp,↓vmd,seval]
             refine onBk_to (b + 1) [0, 1, 2, 3] (by simp) rfl (by omega) ⟨hlb, hu⟩ (by simp -implicitDefEqProofs only [next_at hlb (by omega), kpp,seval]) (by simp -implicitDefEqProofs only [kpp,seval])
           ·rw [List.drop_of_length_le (by omega), List.all_nil, Bool.true_and] at hu
            simp -implicitDefEqProofs only [h8, vmp,↓vmd,seval]
            unfold c100_2
            simp -implicitDefEqProofs only [vmp,↓vmd,seval]
            refine onBk_to (a + 1) [0, 1, 2, 3] (by simp) rfl (by omega) ⟨hla, hu⟩ (by simp -implicitDefEqProofs only [next_at hla (by omega), kpp,seval]) (by simp -implicitDefEqProofs only [kpp,seval])
         ·rw [List.drop_of_length_le (by omega), List.all_nil, Bool.true_and] at ht
          simp -implicitDefEqProofs only [h6, vmp,↓vmd,seval]
          unfold c100_1
          simp -implicitDefEqProofs only [vmp,↓vmd,seval]
          refine onBk_to (i + 1) [0, 1, 2] (by simp) rfl (by omega) ⟨hlt, ht⟩ (by simp -implicitDefEqProofs only [next_at hlt (by omega), kpp,seval]) (by simp -implicitDefEqProofs only [kpp,seval])
        ·have h2' : (0 : Int) < (i : Int) := by omega
         rw [decide_eq_false h2] at hr
         simp only [Bool.false_and, Bool.true_and, Bool.and_false, Bool.and_true, Bool.false_or, Bool.true_or, Bool.or_false, Bool.or_true, Bool.not_true, Bool.not_false] at hr
         have hgp : (s.hosts.map ho)[i - 1]? = some (ho (hoAt s.hosts (i - 1))) := hoAt_eq (by omega)
         have hw : IntKind.wrap .i64 ((i : Int) - 1) = ((i - 1 : Nat) : Int) := by rw [wrap_id (by omega) (by omega)]; omega
         refine onB_pos h2' ?_
         (first | apply envO | apply envQ); simp -implicitDefEqProofs only [h2', vmp,↓vmd,seval]; rfl
         simp -implicitDefEqProofs only [hw, hgp, Int.natCast_nonneg, Int.toNat_natCast, vmp,↓vmd,seval]
         refine onB_dec (fun h3 => ?_) (fun h3 => ?_)
         ·rw [decide_eq_false (show ¬ (hoAt s.hosts (i - 1)).glyph < h.glyph by omega)] at hr
          simp only [Bool.false_and, Bool.true_and, Bool.and_false, Bool.and_true, Bool.false_or, Bool.true_or, Bool.or_false, Bool.or_true, Bool.not_true, Bool.not_false] at hr
          subst hr
          simp -implicitDefEqProofs only [h3, vmp,↓vmd,seval]
          exact gives_pure
         ·rw [decide_eq_true (show (hoAt s.hosts (i - 1)).glyph < h.glyph by omega)] at hr
          simp only [Bool.false_and, Bool.true_and, Bool.and_false, Bool.and_true, Bool.false_or, Bool.true_or, Bool.or_false, Bool.or_true, Bool.not_true, Bool.not_false] at hr
          simp -implicitDefEqProofs only [h3, vmp,↓vmd,seval]
          rw [← hN] at hr
          refine loop_at (T := Nat) (fun a => [(12, .pure (I (a : Int))), (9, .pure (I (i : Int))), (3, .ptr 0 0 0), (4, .ptr 1 0 0), (5, .ptr 2 0 0), (10, .ptr 3 0 0)]) (fun _ => [⟨[.pure (ffV F)], 6, .live⟩, ⟨[.pure (lk k)], 4, .live⟩, ⟨[.pure (sub s)], 12, .live⟩, ⟨[.pure (ho h)], 2, .live⟩])
           (fun a => a ≤ h.spots.length ∧ ((h.spots.drop a).all spotsB && allFrom (hostB F most s.hosts) (s.hosts.length - (i + 1)) (i + 1)) = out) (fun a => h.spots.length - a)
           0 [0, 1, 2, 3] (by simp) rfl ⟨by simp, hr⟩ (by simp -implicitDefEqProofs only [kpp,seval]) (by simp -implicitDefEqProofs only [kpp,seval]) ?_
          rintro a ⟨ha, ht⟩
          unfold c100_4
          simp -implicitDefEqProofs only [vmp,↓vmd,seval]
          refine onIf_intro fun _ => ?_
          (first | apply envO | apply envQ); simp -implicitDefEqProofs only [vmp,↓vmd,seval]; rfl
          simp -implicitDefEqProofs only [vmp,↓vmd,seval]
          refine onB_dec (fun h6 => ?_) (fun h6 => ?_)
          ·have hla : a < h.spots.length := by omega
           rw [drop_at hla, List.all_cons] at ht
           have hgx : (h.spots.map spr)[a]? = some (spr h.spots[a]) := map_at hla
           generalize h.spots[a] = x at ht hgx
           rw [spotsB] at ht
           simp -implicitDefEqProofs only [h6, hgx, Int.natCast_nonneg, vmp,↓vmd,seval]
           refine onIf_intro fun _ => ?_
           (first | apply envO | apply envQ); simp -implicitDefEqProofs only [vmp,↓vmd,seval]; rfl
           simp -implicitDefEqProofs only [vmp,↓vmd,seval]
           refine onB_dec (fun h7 => ?_) (fun h7 => ?_)
           ·rw [decide_eq_false (show ¬ x.length ≤ 16 by omega)] at ht
            simp only [Bool.false_and, Bool.true_and, Bool.and_false, Bool.and_true, Bool.false_or, Bool.true_or, Bool.or_false, Bool.or_true, Bool.not_true, Bool.not_false] at ht
            subst ht
            simp -implicitDefEqProofs only [h7, vmp,↓vmd,seval]
            exact gives_pure
           ·rw [decide_eq_true (show x.length ≤ 16 by omega)] at ht
            simp only [Bool.false_and, Bool.true_and, Bool.and_false, Bool.and_true, Bool.false_or, Bool.true_or, Bool.or_false, Bool.or_true, Bool.not_true, Bool.not_false] at ht
            simp -implicitDefEqProofs only [h7, vmp,↓vmd,seval]
            refine loop_at (T := Nat) (fun b => [(13, .pure (I (b : Int))), (12, .pure (I (a : Int))), (9, .pure (I (i : Int))), (3, .ptr 0 0 0), (4, .ptr 1 0 0), (5, .ptr 2 0 0), (10, .ptr 3 0 0)]) (fun _ => [⟨[.pure (ffV F)], 6, .live⟩, ⟨[.pure (lk k)], 4, .live⟩, ⟨[.pure (sub s)], 12, .live⟩, ⟨[.pure (ho h)], 2, .live⟩])
             (fun b => b ≤ x.length ∧ (((x.drop b).all fun s => anchorB s.x s.y s.has) && (h.spots.drop (a + 1)).all spotsB && allFrom (hostB F most s.hosts) (s.hosts.length - (i + 1)) (i + 1)) = out) (fun b => x.length - b)
             0 [0, 1, 2, 3] (by simp) rfl ⟨by simp, ht⟩ (by simp -implicitDefEqProofs only [kpp,seval]) (by simp -implicitDefEqProofs only [kpp,seval]) ?_
            rintro b ⟨hb, hu⟩
            unfold c100_3
            simp -implicitDefEqProofs only [hgx, Int.natCast_nonneg, vmp,↓vmd,seval]
            refine onIf_intro fun _ => ?_
            (first | apply envO | apply envQ); simp -implicitDefEqProofs only [vmp,↓vmd,seval]; rfl
            simp -implicitDefEqProofs only [vmp,↓vmd,seval]
            refine onB_dec (fun h8 => ?_) (fun h8 => ?_)
            ·have hlb : b < x.length := by omega
             rw [drop_at hlb, List.all_cons] at hu
             have hgb : (x.map spt)[b]? = some (spt x[b]) := map_at hlb
             generalize x[b] = z at hu hgb
             simp -implicitDefEqProofs only [h8, hgx, hgb, Int.natCast_nonneg, vmp,↓vmd,seval]
             refine onC_q (anchor21_q z.x z.y z.has) rfl ?_
             generalize anchorB z.x z.y z.has = b at *
             cases b with
             | false =>
              simp only [Bool.false_and, Bool.true_and, Bool.and_false, Bool.and_true, Bool.false_or, Bool.true_or, Bool.or_false, Bool.or_true, Bool.not_true, Bool.not_false] at hu
              subst hu
              (first | apply envO | apply envQ); simp -implicitDefEqProofs only [vmp,↓vmd,seval]; rfl
              simp -implicitDefEqProofs only [vmp,↓vmd,seval]
              exact gives_pure
             | true =>
              simp only [Bool.false_and, Bool.true_and, Bool.and_false, Bool.and_true, Bool.false_or, Bool.true_or, Bool.or_false, Bool.or_true, Bool.not_true, Bool.not_false] at hu
              (first | apply envO | apply envQ); simp -implicitDefEqProofs only [vmp,↓vmd,seval]; rfl
              simp -implicitDefEqProofs only [vmp,↓vmd,seval]
              refine onBk_to (b + 1) [0, 1, 2, 3] (by simp) rfl (by omega) ⟨hlb, hu⟩ (by simp -implicitDefEqProofs only [next_at hlb (by omega), kpp,seval]) (by simp -implicitDefEqProofs only [kpp,seval])
            ·rw [List.drop_of_length_le (by omega), List.all_nil, Bool.true_and] at hu
             simp -implicitDefEqProofs only [h8, vmp,↓vmd,seval]
             unfold c100_2
             simp -implicitDefEqProofs only [vmp,↓vmd,seval]
             refine onBk_to (a + 1) [0, 1, 2, 3] (by simp) rfl (by omega) ⟨hla, hu⟩ (by simp -implicitDefEqProofs only [next_at hla (by omega), kpp,seval]) (by simp -implicitDefEqProofs only [kpp,seval])
          ·rw [List.drop_of_length_le (by omega), List.all_nil, Bool.true_and] at ht
           simp -implicitDefEqProofs only [h6, vmp,↓vmd,seval]
           unfold c100_1
           simp -implicitDefEqProofs only [vmp,↓vmd,seval]
           refine onBk_to (i + 1) [0, 1, 2] (by simp) rfl (by omega) ⟨hlt, ht⟩ (by simp -implicitDefEqProofs only [next_at hlt (by omega), kpp,seval]) (by simp -implicitDefEqProofs only [kpp,seval])
    ·rw [allFrom_end (by omega)] at hr
     subst hr
     simp -implicitDefEqProofs only [h1, vmp,↓vmd,seval]
     unfold c100_0
     simp -implicitDefEqProofs only [vmp,↓vmd,seval]
     exact gives_pure
end Go.Proofs.Ytcjmkpkhjhjepaa.W
