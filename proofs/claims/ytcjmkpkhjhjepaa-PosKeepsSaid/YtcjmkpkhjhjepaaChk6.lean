/-
  What a font may be: the document's functions of subtables and lookups. No condition.
-/
import Derived.Test.YtcjmkpkhjhjepaaChk5
namespace Go.Proofs.Ytcjmkpkhjhjepaa.W
open Go Go.Vm Go.Proofs
set_option maxRecDepth 100000
set_option linter.unusedSimpArgs false
set_option maxHeartbeats 4000000
/-! typecase/typecaseref21.sub -/
def c82_0 : AC :=
 (.seq (.reg [⟨some 95, none, .load true 6 (.s 3)⟩,
⟨some 96, none, .load true 4 (.s 4)⟩,
⟨some 97, none, .load true 12 (.s 5)⟩,
⟨some 98, none, .call 100 [(.s 95), (.s 96), (.s 97)]⟩,
⟨some 6, none, .mov (.s 98)⟩])
 .ret)
def c82_1 : AC :=
 (.seq (.reg [⟨some 70, none, .load true 6 (.s 3)⟩,
⟨some 71, none, .fldA 0 (.s 5)⟩,
⟨some 72, none, .load false 1 (.s 71)⟩,
⟨some 73, none, .call 80 [(.s 70), (.s 72)]⟩,
⟨some 74, none, .mov (.s 73)⟩,
⟨some 75, some (74, true), .fldA 7 (.s 5)⟩,
⟨some 76, some (74, true), .load false 1 (.s 75)⟩,
⟨some 77, some (74, true), .len (.s 76)⟩,
⟨some 78, some (74, true), .fldA 0 (.s 5)⟩,
⟨some 79, some (74, true), .load false 1 (.s 78)⟩,
⟨some 80, some (74, true), .len (.s 79)⟩,
⟨some 81, some (74, true), .bin .eql (.s 77) (.s 80)⟩,
⟨some 82, none, .pick (.s 74) (.s 81) (.c (.pure (.bool false)))⟩,
⟨some 6, none, .mov (.s 82)⟩])
 .ret)
def c82_2 : AC :=
 (.seq (.seq (.reg [⟨some 56, none, .mov (.s 7)⟩,
⟨some 57, none, .fldA 7 (.s 5)⟩,
⟨some 58, none, .load false 1 (.s 57)⟩,
⟨some 59, none, .len (.s 58)⟩,
⟨some 60, none, .bin .lss (.s 56) (.s 59)⟩])
 (.cond (.s 60)
 .skip
 (.exit 1)))
 (.seq (.block 2
 (.seq (.reg [⟨some 63, none, .fldA 7 (.s 5)⟩,
⟨some 64, none, .load false 1 (.s 63)⟩,
⟨some 65, none, .mov (.s 7)⟩,
⟨some 66, none, .idxA 3 (.s 64) (.s 65)⟩,
⟨some 67, none, .load true 3 (.s 66)⟩,
⟨some 68, none, .call 97 [(.s 67)]⟩,
⟨some 69, none, .un .not (.s 68)⟩])
 (.cond (.s 69)
 (.seq (.reg [⟨some 6, none, .mov (.c (.pure (.bool false)))⟩])
 .ret)
 .skip)))
 (.reg [⟨some 61, none, .mov (.s 7)⟩,
⟨some 62, none, .bin .add (.s 61) (.c (.pure (.int .i64 1)))⟩,
⟨some 7, none, .mov (.s 62)⟩])))
def c82 : AC :=
 (.seq (.reg [⟨some 3, none, .box (.s 0)⟩,
⟨some 4, none, .box (.s 1)⟩,
⟨some 5, none, .box (.s 2)⟩,
⟨some 6, none, .mov (.c (.pure (.bool false)))⟩])
 (.seq (.seq (.reg [⟨some 8, none, .fldA 0 (.s 4)⟩,
⟨some 9, none, .load false 1 (.s 8)⟩,
⟨some 10, none, .load true 12 (.s 5)⟩,
⟨some 11, none, .call 92 [(.s 9), (.s 10)]⟩,
⟨some 12, none, .un .not (.s 11)⟩])
 (.cond (.s 12)
 (.seq (.reg [⟨some 6, none, .mov (.c (.pure (.bool false)))⟩])
 .ret)
 .skip))
 (.seq (.seq (.reg [⟨some 13, none, .fldA 0 (.s 4)⟩,
⟨some 14, none, .load false 1 (.s 13)⟩])
 (.block 0
 (.seq (.reg [⟨some 16, none, .bin .eql (.s 14) (.c (.pure (.int .i64 1)))⟩,
⟨some 15, none, .mov (.s 16)⟩])
 (.cond (.s 15)
 (.seq (.reg [⟨some 17, none, .load true 6 (.s 3)⟩,
⟨some 18, none, .load true 12 (.s 5)⟩,
⟨some 19, none, .call 93 [(.s 17), (.s 18), (.c (.pure (.int .i64 1))), (.c (.pure (.int .i64 1)))]⟩,
⟨some 6, none, .mov (.s 19)⟩])
 .ret)
 (.seq (.reg [⟨some 21, none, .bin .eql (.s 14) (.c (.pure (.int .i64 2)))⟩,
⟨some 20, none, .mov (.s 21)⟩])
 (.cond (.s 20)
 (.seq (.reg [⟨some 22, none, .load true 6 (.s 3)⟩,
⟨some 23, none, .load true 12 (.s 5)⟩,
⟨some 24, none, .call 93 [(.s 22), (.s 23), (.c (.pure (.int .i64 0))), (.c (.pure (.int .i64 16)))]⟩,
⟨some 6, none, .mov (.s 24)⟩])
 .ret)
 (.seq (.reg [⟨some 26, none, .bin .eql (.s 14) (.c (.pure (.int .i64 3)))⟩,
⟨some 25, none, .mov (.s 26)⟩])
 (.cond (.s 25)
 (.seq (.reg [⟨some 27, none, .load true 6 (.s 3)⟩,
⟨some 28, none, .load true 12 (.s 5)⟩,
⟨some 29, none, .call 94 [(.s 27), (.s 28)]⟩,
⟨some 6, none, .mov (.s 29)⟩])
 .ret)
 (.seq (.seq (.reg [⟨some 31, none, .bin .eql (.s 14) (.c (.pure (.int .i64 4)))⟩,
⟨some 30, none, .mov (.s 31)⟩])
 (.cond (.s 30)
 .skip
 (.reg [⟨some 32, none, .bin .eql (.s 14) (.c (.pure (.int .i64 12)))⟩,
⟨some 30, none, .mov (.s 32)⟩])))
 (.cond (.s 30)
 (.seq (.reg [⟨some 33, none, .load true 6 (.s 3)⟩,
⟨some 34, none, .load true 4 (.s 4)⟩,
⟨some 35, none, .load true 12 (.s 5)⟩,
⟨some 36, none, .call 95 [(.s 33), (.s 34), (.s 35)]⟩,
⟨some 6, none, .mov (.s 36)⟩])
 .ret)
 (.seq (.reg [⟨some 38, none, .bin .eql (.s 14) (.c (.pure (.int .i64 5)))⟩,
⟨some 37, none, .mov (.s 38)⟩])
 (.cond (.s 37)
 (.seq (.reg [⟨some 39, none, .load true 6 (.s 3)⟩,
⟨some 40, none, .load true 12 (.s 5)⟩,
⟨some 41, none, .call 93 [(.s 39), (.s 40), (.c (.pure (.int .i64 1))), (.c (.pure (.int .i64 1)))]⟩,
⟨some 42, none, .mov (.s 41)⟩,
⟨some 43, some (42, true), .load true 6 (.s 3)⟩,
⟨some 44, some (42, true), .fldA 3 (.s 5)⟩,
⟨some 45, some (42, true), .load false 1 (.s 44)⟩,
⟨some 46, some (42, true), .call 96 [(.s 43), (.s 45), (.c (.pure (.int .i64 0)))]⟩,
⟨some 47, none, .pick (.s 42) (.s 46) (.c (.pure (.bool false)))⟩,
⟨some 48, none, .mov (.s 47)⟩,
⟨some 49, some (48, true), .load true 6 (.s 3)⟩,
⟨some 50, some (48, true), .fldA 5 (.s 5)⟩,
⟨some 51, some (48, true), .load false 1 (.s 50)⟩,
⟨some 52, some (48, true), .call 96 [(.s 49), (.s 51), (.c (.pure (.int .i64 0)))]⟩,
⟨some 53, none, .pick (.s 48) (.s 52) (.c (.pure (.bool false)))⟩,
⟨some 6, none, .mov (.s 53)⟩])
 .ret)
 (.seq (.reg [⟨some 55, none, .bin .eql (.s 14) (.c (.pure (.int .i64 6)))⟩,
⟨some 54, none, .mov (.s 55)⟩])
 (.cond (.s 54)
 (.seq (.seq (.reg [⟨some 7, none, .mov (.c (.pure (.int .i64 0)))⟩])
 (.block 1
 (.loop c82_2)))
 c82_1)
 (.seq (.reg [⟨some 84, none, .bin .eql (.s 14) (.c (.pure (.int .i64 7)))⟩,
⟨some 83, none, .mov (.s 84)⟩])
 (.cond (.s 83)
 (.seq (.reg [⟨some 85, none, .load true 6 (.s 3)⟩,
⟨some 86, none, .fldA 8 (.s 5)⟩,
⟨some 87, none, .load false 1 (.s 86)⟩,
⟨some 88, none, .call 98 [(.s 85), (.s 87)]⟩,
⟨some 6, none, .mov (.s 88)⟩])
 .ret)
 (.seq (.reg [⟨some 90, none, .bin .eql (.s 14) (.c (.pure (.int .i64 8)))⟩,
⟨some 89, none, .mov (.s 90)⟩])
 (.cond (.s 89)
 (.seq (.reg [⟨some 91, none, .load true 6 (.s 3)⟩,
⟨some 92, none, .fldA 9 (.s 5)⟩,
⟨some 93, none, .load false 1 (.s 92)⟩,
⟨some 94, none, .call 99 [(.s 91), (.s 93)]⟩,
⟨some 6, none, .mov (.s 94)⟩])
 .ret)
 .skip))))))))))))))))))
 c82_0)))
theorem k82 : OkF 82 Try.f82 c82 [.t 6] 99 := ⟨Try.func82, by kernel_rfl, by kernel_rfl, by kernel_rfl, Try.ntmps82⟩
/-! typecase/typecaseref21.lookups -/
def c56_0 : AC :=
 (.seq (.reg [⟨some 2, none, .mov (.c (.pure (.bool true)))⟩])
 .ret)
def c56_1 : AC :=
 (.reg [⟨some 15, none, .mov (.s 3)⟩,
⟨some 16, none, .bin .add (.s 15) (.c (.pure (.int .i64 1)))⟩,
⟨some 3, none, .mov (.s 16)⟩])
def c56_2 : AC :=
 (.seq (.seq (.reg [⟨some 78, none, .mov (.s 5)⟩,
⟨some 79, none, .fldA 3 (.s 4)⟩,
⟨some 80, none, .load false 1 (.s 79)⟩,
⟨some 81, none, .len (.s 80)⟩,
⟨some 82, none, .bin .lss (.s 78) (.s 81)⟩])
 (.cond (.s 82)
 .skip
 (.exit 2)))
 (.seq (.block 3
 (.seq (.regq [⟨some 85, none, .load true 6 (.s 1)⟩,
⟨some 86, none, .load true 4 (.s 4)⟩,
⟨some 87, none, .fldA 3 (.s 4)⟩,
⟨some 88, none, .load false 1 (.s 87)⟩,
⟨some 89, none, .mov (.s 5)⟩,
⟨some 90, none, .idxA 12 (.s 88) (.s 89)⟩,
⟨some 91, none, .load true 12 (.s 90)⟩]
[⟨some 92, none, .call 82 [(.s 85), (.s 86), (.s 91)]⟩,
⟨some 93, none, .un .not (.s 92)⟩])
 (.cond (.s 93)
 (.seq (.reg [⟨some 2, none, .mov (.c (.pure (.bool false)))⟩])
 .ret)
 .skip)))
 (.reg [⟨some 83, none, .mov (.s 5)⟩,
⟨some 84, none, .bin .add (.s 83) (.c (.pure (.int .i64 1)))⟩,
⟨some 5, none, .mov (.s 84)⟩])))
def c56_3 : AC :=
 (.seq (.seq (.reg [⟨some 10, none, .mov (.s 3)⟩,
⟨some 11, none, .fldA 3 (.s 1)⟩,
⟨some 12, none, .load false 1 (.s 11)⟩,
⟨some 13, none, .len (.s 12)⟩,
⟨some 14, none, .bin .lss (.s 10) (.s 13)⟩])
 (.cond (.s 14)
 .skip
 (.exit 0)))
 (.seq (.block 1
 (.seq (.reg [⟨some 17, none, .fldA 3 (.s 1)⟩,
⟨some 18, none, .load false 1 (.s 17)⟩,
⟨some 19, none, .mov (.s 3)⟩,
⟨some 20, none, .idxA 4 (.s 18) (.s 19)⟩,
⟨some 21, none, .load true 4 (.s 20)⟩,
⟨some 4, none, .box (.c (.agg [(.pure (.int .i64 0)), (.pure (.int .i64 0)), (.pure (.int .i64 0)), .empty]))⟩,
⟨none, none, .store 4 (.s 4) (.s 21)⟩])
 (.seq (.seq (.reg [⟨some 22, none, .fldA 0 (.s 4)⟩,
⟨some 23, none, .load false 1 (.s 22)⟩,
⟨some 24, none, .call 81 [(.s 23)]⟩,
⟨some 25, none, .bin .eql (.s 24) (.c (.pure (.int .i64 0)))⟩,
⟨some 26, none, .mov (.s 25)⟩,
⟨some 27, some (26, false), .fldA 1 (.s 4)⟩,
⟨some 28, some (26, false), .load false 1 (.s 27)⟩,
⟨some 29, some (26, false), .call 75 [(.s 28), (.c (.pure (.int .i64 0))), (.c (.pure (.int .i64 65535)))]⟩,
⟨some 30, some (26, false), .un .not (.s 29)⟩,
⟨some 31, none, .pick (.s 26) (.c (.pure (.bool true))) (.s 30)⟩,
⟨some 32, none, .mov (.s 31)⟩,
⟨some 33, some (32, false), .fldA 1 (.s 4)⟩,
⟨some 34, some (32, false), .load false 1 (.s 33)⟩,
⟨some 35, some (32, false), .bin .rem (.s 34) (.c (.pure (.int .i64 2)))⟩,
⟨some 36, some (32, false), .bin .neq (.s 35) (.c (.pure (.int .i64 0)))⟩,
⟨some 37, none, .pick (.s 32) (.c (.pure (.bool true))) (.s 36)⟩,
⟨some 38, none, .mov (.s 37)⟩,
⟨some 39, some (38, false), .fldA 1 (.s 4)⟩,
⟨some 40, some (38, false), .load false 1 (.s 39)⟩,
⟨some 41, some (38, false), .bin .quo (.s 40) (.c (.pure (.int .i64 32)))⟩,
⟨some 42, some (38, false), .bin .rem (.s 41) (.c (.pure (.int .i64 8)))⟩,
⟨some 43, some (38, false), .bin .neq (.s 42) (.c (.pure (.int .i64 0)))⟩,
⟨some 44, none, .pick (.s 38) (.c (.pure (.bool true))) (.s 43)⟩,
⟨some 45, none, .mov (.s 44)⟩,
⟨some 46, some (45, false), .fldA 3 (.s 4)⟩,
⟨some 47, some (45, false), .load false 1 (.s 46)⟩,
⟨some 48, some (45, false), .len (.s 47)⟩,
⟨some 49, some (45, false), .bin .gtr (.s 48) (.c (.pure (.int .i64 64)))⟩,
⟨some 50, none, .pick (.s 45) (.c (.pure (.bool true))) (.s 49)⟩])
 (.cond (.s 50)
 (.seq (.reg [⟨some 2, none, .mov (.c (.pure (.bool false)))⟩])
 .ret)
 .skip))
 (.seq (.seq (.reg [⟨some 51, none, .fldA 1 (.s 4)⟩,
⟨some 52, none, .load false 1 (.s 51)⟩,
⟨some 53, none, .bin .quo (.s 52) (.c (.pure (.int .i64 16)))⟩,
⟨some 54, none, .bin .rem (.s 53) (.c (.pure (.int .i64 2)))⟩,
⟨some 55, none, .bin .eql (.s 54) (.c (.pure (.int .i64 1)))⟩,
⟨some 56, none, .mov (.s 55)⟩,
⟨some 57, some (56, true), .fldA 2 (.s 4)⟩,
⟨some 58, some (56, true), .load false 1 (.s 57)⟩,
⟨some 59, some (56, true), .fldA 5 (.s 1)⟩,
⟨some 60, some (56, true), .load false 1 (.s 59)⟩,
⟨some 61, some (56, true), .len (.s 60)⟩,
⟨some 62, some (56, true), .bin .sub (.s 61) (.c (.pure (.int .i64 1)))⟩,
⟨some 63, some (56, true), .call 75 [(.s 58), (.c (.pure (.int .i64 0))), (.s 62)]⟩,
⟨some 64, some (56, true), .un .not (.s 63)⟩,
⟨some 65, none, .pick (.s 56) (.s 64) (.c (.pure (.bool false)))⟩,
⟨some 66, none, .mov (.s 65)⟩,
⟨some 67, some (66, false), .fldA 1 (.s 4)⟩,
⟨some 68, some (66, false), .load false 1 (.s 67)⟩,
⟨some 69, some (66, false), .bin .quo (.s 68) (.c (.pure (.int .i64 16)))⟩,
⟨some 70, some (66, false), .bin .rem (.s 69) (.c (.pure (.int .i64 2)))⟩,
⟨some 71, some (66, false), .bin .eql (.s 70) (.c (.pure (.int .i64 0)))⟩,
⟨some 72, some (66, false), .mov (.s 71)⟩,
⟨some 73, some (72, true), .fldA 2 (.s 4)⟩,
⟨some 74, some (72, true), .load false 1 (.s 73)⟩,
⟨some 75, some (72, true), .bin .neq (.s 74) (.c (.pure (.int .i64 0)))⟩,
⟨some 76, some (66, false), .pick (.s 72) (.s 75) (.c (.pure (.bool false)))⟩,
⟨some 77, none, .pick (.s 66) (.c (.pure (.bool true))) (.s 76)⟩])
 (.cond (.s 77)
 (.seq (.reg [⟨some 2, none, .mov (.c (.pure (.bool false)))⟩])
 .ret)
 .skip))
 (.seq (.reg [⟨some 5, none, .mov (.c (.pure (.int .i64 0)))⟩])
 (.block 2
 (.loop c56_2)))))))
 c56_1))
def c56 : AC :=
 (.seq (.reg [⟨some 1, none, .box (.s 0)⟩,
⟨some 2, none, .mov (.c (.pure (.bool false)))⟩])
 (.seq (.seq (.reg [⟨some 6, none, .fldA 3 (.s 1)⟩,
⟨some 7, none, .load false 1 (.s 6)⟩,
⟨some 8, none, .len (.s 7)⟩,
⟨some 9, none, .bin .gtr (.s 8) (.c (.pure (.int .i64 64)))⟩])
 (.cond (.s 9)
 (.seq (.reg [⟨some 2, none, .mov (.c (.pure (.bool false)))⟩])
 .ret)
 .skip))
 (.seq (.seq (.reg [⟨some 3, none, .mov (.c (.pure (.int .i64 0)))⟩])
 (.block 0
 (.loop c56_3)))
 c56_0)))
theorem k56 : OkF 56 Try.f56 c56 [.t 2] 94 := ⟨Try.func56, by kernel_rfl, by kernel_rfl, by kernel_rfl, Try.ntmps56⟩
theorem sub_q (F : Ff) (hF : F.lks.length ≤ 1000) (k : Lk) (s : Sub) : FnQ Try.prog 82 [ffV F, lk k, sub s] [.bool (subB F k s)] := by
 refine k82.q (by simp) ?_
 unfold c82
 have hr : (bareB k.kind s && kindB F k s) = subB F k s := rfl
 generalize subB F k s = out at *
 simp -implicitDefEqProofs only [vmp,↓vmd,seval]
 refine onC_q (bare_q k.kind s) rfl ?_
 generalize bareB k.kind s = b at *
 cases b with
 | false =>
  simp only [Bool.false_and, Bool.true_and, Bool.and_false, Bool.and_true, Bool.false_or, Bool.true_or, Bool.or_false, Bool.or_true, Bool.not_true, Bool.not_false] at hr
  subst hr
  (first | apply envO | apply envQ); simp -implicitDefEqProofs only [vmp,↓vmd,seval]; rfl
  simp -implicitDefEqProofs only [vmp,↓vmd,seval]
  exact gives_pure
 | true =>
  simp only [Bool.false_and, Bool.true_and, Bool.and_false, Bool.and_true, Bool.false_or, Bool.true_or, Bool.or_false, Bool.or_true, Bool.not_true, Bool.not_false] at hr
  (first | apply envO | apply envQ); simp -implicitDefEqProofs only [vmp,↓vmd,seval]; rfl
  simp -implicitDefEqProofs only [vmp,↓vmd,seval]
  rw [kindB] at hr
  refine onB_dec (fun e1 => ?_) (fun e1 => ?_)
  ·rw [if_pos e1] at hr
   simp -implicitDefEqProofs only [e1, vmp,↓vmd,seval]
   refine onC_q (to_q F s 1 1) rfl ?_
   rw [hr]
   (first | apply envO | apply envQ); simp -implicitDefEqProofs only [vmp,↓vmd,seval]; rfl
   simp -implicitDefEqProofs only [vmp,↓vmd,seval]
   exact gives_pure
  ·rw [if_neg e1] at hr
   simp -implicitDefEqProofs only [e1, vmp,↓vmd,seval]
   refine onB_dec (fun e2 => ?_) (fun e2 => ?_)
   ·rw [if_pos e2] at hr
    simp -implicitDefEqProofs only [e2, vmp,↓vmd,seval]
    refine onC_q (to_q F s 0 16) rfl ?_
    rw [hr]
    (first | apply envO | apply envQ); simp -implicitDefEqProofs only [vmp,↓vmd,seval]; rfl
    simp -implicitDefEqProofs only [vmp,↓vmd,seval]
    exact gives_pure
   ·rw [if_neg e2] at hr
    simp -implicitDefEqProofs only [e2, vmp,↓vmd,seval]
    refine onB_dec (fun e3 => ?_) (fun e3 => ?_)
    ·rw [if_pos e3] at hr
     simp -implicitDefEqProofs only [e3, vmp,↓vmd,seval]
     refine onC_q (ligs_q F s) rfl ?_
     rw [hr]
     (first | apply envO | apply envQ); simp -implicitDefEqProofs only [vmp,↓vmd,seval]; rfl
     simp -implicitDefEqProofs only [vmp,↓vmd,seval]
     exact gives_pure
    ·rw [if_neg e3] at hr
     simp -implicitDefEqProofs only [e3, vmp,↓vmd,seval]
     refine onB_dec (fun e4 => ?_) (fun e4 => ?_)
     ·rw [if_pos (.inl e4)] at hr
      simp -implicitDefEqProofs only [e4, vmp,↓vmd,seval]
      refine onC_q (around_q F hF k s) rfl ?_
      rw [hr]
      (first | apply envO | apply envQ); simp -implicitDefEqProofs only [vmp,↓vmd,seval]; rfl
      simp -implicitDefEqProofs only [vmp,↓vmd,seval]
      exact gives_pure
     ·simp -implicitDefEqProofs only [e4, vmp,↓vmd,seval]
      refine onB_dec (fun e12 => ?_) (fun e12 => ?_)
      ·rw [if_pos (.inr e12)] at hr
       simp -implicitDefEqProofs only [e12, vmp,↓vmd,seval]
       refine onC_q (around_q F hF k s) rfl ?_
       rw [hr]
       (first | apply envO | apply envQ); simp -implicitDefEqProofs only [vmp,↓vmd,seval]; rfl
       simp -implicitDefEqProofs only [vmp,↓vmd,seval]
       exact gives_pure
      ·rw [if_neg (by rintro (h | h); exact e4 h; exact e12 h)] at hr
       simp -implicitDefEqProofs only [e12, vmp,↓vmd,seval]
       refine onB_dec (fun e5 => ?_) (fun e5 => ?_)
       ·rw [if_pos e5] at hr
        simp -implicitDefEqProofs only [e5, vmp,↓vmd,seval]
        refine onC_q (to_q F s 1 1) rfl ?_
        generalize toB F s 1 1 = b at *
        cases b with
        | false =>
         simp only [Bool.false_and, Bool.true_and, Bool.and_false, Bool.and_true, Bool.false_or, Bool.true_or, Bool.or_false, Bool.or_true, Bool.not_true, Bool.not_false] at hr
         subst hr
         (first | apply envO | apply envQ); simp -implicitDefEqProofs only [vmp,↓vmd,seval]; rfl
         simp -implicitDefEqProofs only [vmp,↓vmd,seval]
         exact gives_pure
        | true =>
         simp only [Bool.false_and, Bool.true_and, Bool.and_false, Bool.and_true, Bool.false_or, Bool.true_or, Bool.or_false, Bool.or_true, Bool.not_true, Bool.not_false] at hr
         (first | apply envO | apply envQ); simp -implicitDefEqProofs only [vmp,↓vmd,seval]; rfl
         simp -implicitDefEqProofs only [vmp,↓vmd,seval]
         refine onC_q (covers_q F s.back 0) rfl ?_
         generalize coversB F s.back 0 = b at *
         cases b with
         | false =>
          simp only [Bool.false_and, Bool.true_and, Bool.and_false, Bool.and_true, Bool.false_or, Bool.true_or, Bool.or_false, Bool.or_true, Bool.not_true, Bool.not_false] at hr
          subst hr
          (first | apply envO | apply envQ); simp -implicitDefEqProofs only [vmp,↓vmd,seval]; rfl
          simp -implicitDefEqProofs only [vmp,↓vmd,seval]
          exact gives_pure
         | true =>
          simp only [Bool.false_and, Bool.true_and, Bool.and_false, Bool.and_true, Bool.false_or, Bool.true_or, Bool.or_false, Bool.or_true, Bool.not_true, Bool.not_false] at hr
          (first | apply envO | apply envQ); simp -implicitDefEqProofs only [vmp,↓vmd,seval]; rfl
          simp -implicitDefEqProofs only [vmp,↓vmd,seval]
          refine onC_q (covers_q F s.ahead 0) rfl ?_
          rw [hr]
          (first | apply envO | apply envQ); simp -implicitDefEqProofs only [vmp,↓vmd,seval]; rfl
          simp -implicitDefEqProofs only [vmp,↓vmd,seval]
          exact gives_pure
       ·rw [if_neg e5] at hr
        simp -implicitDefEqProofs only [e5, vmp,↓vmd,seval]
        refine onB_dec (fun e6 => ?_) (fun e6 => ?_)
        ·rw [if_pos e6] at hr
         simp -implicitDefEqProofs only [e6, vmp,↓vmd,seval]
         refine loop_at (T := Nat) (fun i => [(7, .pure (I (i : Int))), (3, .ptr 0 0 0), (4, .ptr 1 0 0), (5, .ptr 2 0 0)]) (fun _ => [⟨[.pure (ffV F)], 6, .live⟩, ⟨[.pure (lk k)], 4, .live⟩, ⟨[.pure (sub s)], 12, .live⟩]) (fun i => i ≤ s.values.length ∧ ((s.values.drop i).all valueB && coverB F s.cover && decide (s.values.length = s.cover.length)) = out) (fun i => s.values.length - i)
          0 [0, 1, 2] (by simp) rfl ⟨by simp, hr⟩ (by simp -implicitDefEqProofs only [kpp,seval]) (by simp -implicitDefEqProofs only [kpp,seval]) ?_
         rintro i ⟨hi, hr⟩
         unfold c82_2
         simp -implicitDefEqProofs only [vmp,↓vmd,seval]
         refine onIf_intro fun _ => ?_
         (first | apply envO | apply envQ); simp -implicitDefEqProofs only [vmp,↓vmd,seval]; rfl
         simp -implicitDefEqProofs only [vmp,↓vmd,seval]
         refine onB_dec (fun h1 => ?_) (fun h1 => ?_)
         ·have hlt : i < s.values.length := by omega
          rw [drop_at hlt, List.all_cons] at hr
          have hgi : (s.values.map sp)[i]? = some (sp s.values[i]) := map_at hlt
          generalize s.values[i] = x at hr hgi
          simp -implicitDefEqProofs only [h1, hgi, Int.natCast_nonneg, vmp,↓vmd,seval]
          refine onC_q (value_q x) rfl ?_
          generalize valueB x = b at *
          cases b with
          | false =>
           simp only [Bool.false_and, Bool.true_and, Bool.and_false, Bool.and_true, Bool.false_or, Bool.true_or, Bool.or_false, Bool.or_true, Bool.not_true, Bool.not_false] at hr
           subst hr
           (first | apply envO | apply envQ); simp -implicitDefEqProofs only [vmp,↓vmd,seval]; rfl
           simp -implicitDefEqProofs only [vmp,↓vmd,seval]
           exact gives_pure
          | true =>
           simp only [Bool.false_and, Bool.true_and, Bool.and_false, Bool.and_true, Bool.false_or, Bool.true_or, Bool.or_false, Bool.or_true, Bool.not_true, Bool.not_false] at hr
           (first | apply envO | apply envQ); simp -implicitDefEqProofs only [vmp,↓vmd,seval]; rfl
           simp -implicitDefEqProofs only [vmp,↓vmd,seval]
           refine onBk_to (i + 1) [0, 1, 2] (by simp) rfl (by omega) ⟨hlt, hr⟩ (by simp -implicitDefEqProofs only [next_at hlt (by omega), kpp,seval]) (by simp -implicitDefEqProofs only [kpp,seval])
         ·rw [List.drop_of_length_le (by omega), List.all_nil, Bool.true_and] at hr
          simp -implicitDefEqProofs only [h1, vmp,↓vmd,seval]
          unfold c82_1
          simp -implicitDefEqProofs only [vmp,↓vmd,seval]
          refine onC_q (cover_q F s.cover) rfl ?_
          generalize coverB F s.cover = b at *
          cases b with
          | false =>
           simp only [Bool.false_and, Bool.true_and, Bool.and_false, Bool.and_true, Bool.false_or, Bool.true_or, Bool.or_false, Bool.or_true, Bool.not_true, Bool.not_false] at hr
           subst hr
           (first | apply envO | apply envQ); simp -implicitDefEqProofs only [vmp,↓vmd,seval]; rfl
           simp -implicitDefEqProofs only [vmp,↓vmd,seval]
           exact gives_pure
          | true =>
           simp only [Bool.false_and, Bool.true_and, Bool.and_false, Bool.and_true, Bool.false_or, Bool.true_or, Bool.or_false, Bool.or_true, Bool.not_true, Bool.not_false] at hr
           (first | apply envO | apply envQ); simp -implicitDefEqProofs only [vmp,↓vmd,seval]; rfl
           simp -implicitDefEqProofs only [vmp,↓vmd,seval]
           refine onIf_intro fun _ => ?_
           (first | apply envO | apply envQ); simp -implicitDefEqProofs only [vmp,↓vmd,seval]; rfl
           simp -implicitDefEqProofs only [vmp,↓vmd,seval]
           refine onIf_intro fun _ => ?_
           (first | apply envO | apply envQ); simp -implicitDefEqProofs only [vmp,↓vmd,seval]; rfl
           simp -implicitDefEqProofs only [vmp,↓vmd,seval]
           rw [show decide ((s.values.length : Int) = (s.cover.length : Int)) = decide (s.values.length = s.cover.length) by rw [decide_eq_decide]; omega, hr]
           exact gives_pure
        ·rw [if_neg e6] at hr
         simp -implicitDefEqProofs only [e6, vmp,↓vmd,seval]
         refine onB_dec (fun e7 => ?_) (fun e7 => ?_)
         ·rw [if_pos e7] at hr
          simp -implicitDefEqProofs only [e7, vmp,↓vmd,seval]
          refine onC_q (pairs_q F s.pairs) rfl ?_
          rw [hr]
          (first | apply envO | apply envQ); simp -implicitDefEqProofs only [vmp,↓vmd,seval]; rfl
          simp -implicitDefEqProofs only [vmp,↓vmd,seval]
          exact gives_pure
         ·rw [if_neg e7] at hr
          simp -implicitDefEqProofs only [e7, vmp,↓vmd,seval]
          refine onB_dec (fun e8 => ?_) (fun e8 => ?_)
          ·rw [if_pos e8] at hr
           simp -implicitDefEqProofs only [e8, vmp,↓vmd,seval]
           refine onC_q (curs_q F s.curs) rfl ?_
           rw [hr]
           (first | apply envO | apply envQ); simp -implicitDefEqProofs only [vmp,↓vmd,seval]; rfl
           simp -implicitDefEqProofs only [vmp,↓vmd,seval]
           exact gives_pure
          ·rw [if_neg e8] at hr
           simp -implicitDefEqProofs only [e8, vmp,↓vmd,seval]
           unfold c82_0
           simp -implicitDefEqProofs only [vmp,↓vmd,seval]
           refine onC_q (marks21_q F k s) rfl ?_
           rw [hr]
           (first | apply envO | apply envQ); simp -implicitDefEqProofs only [vmp,↓vmd,seval]; rfl
           simp -implicitDefEqProofs only [vmp,↓vmd,seval]
           exact gives_pure
theorem lookups_q (F : Ff) : FnQ Try.prog 56 [ffV F] [.bool (lookupsB F)] := by
 refine k56.q (by simp) ?_
 unfold c56
 have hr : (decide (F.lks.length ≤ 64) && F.lks.all (lookupB F)) = lookupsB F := rfl
 generalize lookupsB F = out at *
 simp -implicitDefEqProofs only [vmp,↓vmd,seval]
 refine onIf_intro fun _ => ?_
 (first | apply envO | apply envQ); simp -implicitDefEqProofs only [vmp,↓vmd,seval]; rfl
 simp -implicitDefEqProofs only [vmp,↓vmd,seval]
 refine onB_dec (fun h64 => ?_) (fun h64 => ?_)
 ·rw [decide_eq_false (show ¬ F.lks.length ≤ 64 by omega)] at hr
  simp only [Bool.false_and, Bool.true_and, Bool.and_false, Bool.and_true, Bool.false_or, Bool.true_or, Bool.or_false, Bool.or_true, Bool.not_true, Bool.not_false] at hr
  subst hr
  simp -implicitDefEqProofs only [h64, vmp,↓vmd,seval]
  exact gives_pure
 ·rw [decide_eq_true (show F.lks.length ≤ 64 by omega)] at hr
  simp only [Bool.false_and, Bool.true_and, Bool.and_false, Bool.and_true, Bool.false_or, Bool.true_or, Bool.or_false, Bool.or_true, Bool.not_true, Bool.not_false] at hr
  simp -implicitDefEqProofs only [h64, vmp,↓vmd,seval]
  refine loop_at (T := Nat) (fun i => [(3, .pure (I (i : Int))), (1, .ptr 0 0 0)]) (fun _ => [⟨[.pure (ffV F)], 6, .live⟩]) (fun i => i ≤ F.lks.length ∧ (F.lks.drop i).all (lookupB F) = out) (fun i => F.lks.length - i)
   0 [0] (by simp) rfl ⟨by simp, hr⟩ (by simp -implicitDefEqProofs only [kpp,seval]) (by simp -implicitDefEqProofs only [kpp,seval]) ?_
  rintro i ⟨hi, hr⟩
  unfold c56_3
  simp -implicitDefEqProofs only [vmp,↓vmd,seval]
  refine onIf_intro fun _ => ?_
  (first | apply envO | apply envQ); simp -implicitDefEqProofs only [vmp,↓vmd,seval]; rfl
  simp -implicitDefEqProofs only [vmp,↓vmd,seval]
  refine onB_dec (fun h1 => ?_) (fun h1 => ?_)
  ·have hlt : i < F.lks.length := by omega
   rw [drop_at hlt, List.all_cons] at hr
   have hgi : (F.lks.map lk)[i]? = some (lk F.lks[i]) := map_at hlt
   generalize F.lks[i] = k at hr hgi
   rw [lookupB] at hr
   simp -implicitDefEqProofs only [h1, hgi, Int.natCast_nonneg, vmp,↓vmd,seval]
   refine onC_q (sorts_q k.kind) rfl ?_
   (first | apply envO | apply envQ); simp -implicitDefEqProofs only [vmp,↓vmd,seval]; rfl
   simp -implicitDefEqProofs only [vmp,↓vmd,seval]
   refine onB_dec (fun h0 => ?_) (fun h0 => ?_)
   ·rw [decide_eq_false (show ¬ sortsF k.kind ≠ 0 from fun e => e h0)] at hr
    simp only [Bool.false_and, Bool.true_and, Bool.and_false, Bool.and_true, Bool.false_or, Bool.true_or, Bool.or_false, Bool.or_true, Bool.not_true, Bool.not_false] at hr
    subst hr
    (first | apply envO | apply envQ); simp -implicitDefEqProofs only [h0, vmp,↓vmd,seval]; rfl
    simp -implicitDefEqProofs only [h0, vmp,↓vmd,seval]
    exact gives_pure
   ·rw [decide_eq_true (show sortsF k.kind ≠ 0 from h0)] at hr
    simp only [Bool.false_and, Bool.true_and, Bool.and_false, Bool.and_true, Bool.false_or, Bool.true_or, Bool.or_false, Bool.or_true, Bool.not_true, Bool.not_false] at hr
    (first | apply envO | apply envQ); simp -implicitDefEqProofs only [h0, vmp,↓vmd,seval]; rfl
    simp -implicitDefEqProofs only [h0, vmp,↓vmd,seval]
    refine onC_q (within_q k.flags 0 65535) rfl ?_
    generalize withB k.flags 0 65535 = b at *
    cases b with
    | false =>
     simp only [Bool.false_and, Bool.true_and, Bool.and_false, Bool.and_true, Bool.false_or, Bool.true_or, Bool.or_false, Bool.or_true, Bool.not_true, Bool.not_false] at hr
     subst hr
     (first | apply envO | apply envQ); simp -implicitDefEqProofs only [vmp,↓vmd,seval]; rfl
     simp -implicitDefEqProofs only [vmp,↓vmd,seval]
     exact gives_pure
    | true =>
     simp only [Bool.false_and, Bool.true_and, Bool.and_false, Bool.and_true, Bool.false_or, Bool.true_or, Bool.or_false, Bool.or_true, Bool.not_true, Bool.not_false] at hr
     (first | apply envO | apply envQ); simp -implicitDefEqProofs only [vmp,↓vmd,seval]; rfl
     simp -implicitDefEqProofs only [vmp,↓vmd,seval]
     refine onB_dec (fun h2 => ?_) (fun h2 => ?_)
     ·rw [decide_eq_false h2] at hr
      simp only [Bool.false_and, Bool.true_and, Bool.and_false, Bool.and_true, Bool.false_or, Bool.true_or, Bool.or_false, Bool.or_true, Bool.not_true, Bool.not_false] at hr
      subst hr
      (first | apply envO | apply envQ); simp -implicitDefEqProofs only [h2, vmp,↓vmd,seval]; rfl
      simp -implicitDefEqProofs only [h2, vmp,↓vmd,seval]
      exact gives_pure
     ·have h2' := Classical.not_not.1 h2
      rw [decide_eq_true h2'] at hr
      have h2d : decide (¬ modE k.flags 2 = 0) = false := decide_eq_false h2
      simp only [Bool.false_and, Bool.true_and, Bool.and_false, Bool.and_true, Bool.false_or, Bool.true_or, Bool.or_false, Bool.or_true, Bool.not_true, Bool.not_false] at hr
      (first | apply envO | apply envQ); simp -implicitDefEqProofs only [h2d, vmp,↓vmd,seval]; rfl
      simp -implicitDefEqProofs only [vmp,↓vmd,seval]
      refine onB_dec (fun h3 => ?_) (fun h3 => ?_)
      ·rw [decide_eq_false h3] at hr
       simp only [Bool.false_and, Bool.true_and, Bool.and_false, Bool.and_true, Bool.false_or, Bool.true_or, Bool.or_false, Bool.or_true, Bool.not_true, Bool.not_false] at hr
       subst hr
       (first | apply envO | apply envQ); simp -implicitDefEqProofs only [h3, vmp,↓vmd,seval]; rfl
       simp -implicitDefEqProofs only [h3, vmp,↓vmd,seval]
       exact gives_pure
      ·have h3' := Classical.not_not.1 h3
       rw [decide_eq_true h3'] at hr
       have h3d : decide (¬ modE (divE k.flags 32) 8 = 0) = false := decide_eq_false h3
       simp only [Bool.false_and, Bool.true_and, Bool.and_false, Bool.and_true, Bool.false_or, Bool.true_or, Bool.or_false, Bool.or_true, Bool.not_true, Bool.not_false] at hr
       (first | apply envO | apply envQ); simp -implicitDefEqProofs only [h3d, vmp,↓vmd,seval]; rfl
       simp -implicitDefEqProofs only [vmp,↓vmd,seval]
       refine onIf_intro fun _ => ?_
       (first | apply envO | apply envQ); simp -implicitDefEqProofs only [vmp,↓vmd,seval]; rfl
       simp -implicitDefEqProofs only [vmp,↓vmd,seval]
       refine onB_dec (fun h4 => ?_) (fun h4 => ?_)
       ·rw [decide_eq_false (show ¬ k.subs.length ≤ 64 by omega)] at hr
        simp only [Bool.false_and, Bool.true_and, Bool.and_false, Bool.and_true, Bool.false_or, Bool.true_or, Bool.or_false, Bool.or_true, Bool.not_true, Bool.not_false] at hr
        subst hr
        (first | apply envO | apply envQ); simp -implicitDefEqProofs only [h4, vmp,↓vmd,seval]; rfl
        simp -implicitDefEqProofs only [h4, vmp,↓vmd,seval]
        exact gives_pure
       ·rw [decide_eq_true (show k.subs.length ≤ 64 by omega)] at hr
        simp only [Bool.false_and, Bool.true_and, Bool.and_false, Bool.and_true, Bool.false_or, Bool.true_or, Bool.or_false, Bool.or_true, Bool.not_true, Bool.not_false] at hr
        (first | apply envO | apply envQ); simp -implicitDefEqProofs only [h4, vmp,↓vmd,seval]; rfl
        simp -implicitDefEqProofs only [h4, vmp,↓vmd,seval]
        refine onB_dec (fun h5 => ?_) (fun h5 => ?_)
        ·rw [decide_eq_true h5] at hr
         have h5d : decide (modE (divE k.flags 16) 2 = 1) = true := decide_eq_true h5
         simp only [Bool.false_and, Bool.true_and, Bool.and_false, Bool.and_true, Bool.false_or, Bool.true_or, Bool.or_false, Bool.or_true, Bool.not_true, Bool.not_false] at hr
         (first | apply envO | apply envQ); simp -implicitDefEqProofs only [h5d, vmp,↓vmd,seval]; rfl
         simp -implicitDefEqProofs only [vmp,↓vmd,seval]
         refine onIf_intro fun hbd => ?_
         have hw : IntKind.wrap .i64 ((F.sets.length : Int) - 1) = (F.sets.length : Int) - 1 := wrap_id (by omega) (by first | omega | (simp only [seval, vmp] at hbd; omega) | (simp at hbd; omega))
         (first | apply envO | apply envQ); simp -implicitDefEqProofs only [vmp,↓vmd,seval]; rfl
         simp -implicitDefEqProofs only [hw, vmp,↓vmd,seval]
         refine onC_q (within_q k.set 0 ((F.sets.length : Int) - 1)) rfl ?_
         generalize withB k.set 0 ((F.sets.length : Int) - 1) = b at *
         cases b with
         | false =>
          simp only [Bool.false_and, Bool.true_and, Bool.and_false, Bool.and_true, Bool.false_or, Bool.true_or, Bool.or_false, Bool.or_true, Bool.not_true, Bool.not_false] at hr
          subst hr
          (first | apply envO | apply envQ); simp -implicitDefEqProofs only [vmp,↓vmd,seval]; rfl
          simp -implicitDefEqProofs only [vmp,↓vmd,seval]
          exact gives_pure
         | true =>
          simp only [Bool.false_and, Bool.true_and, Bool.and_false, Bool.and_true, Bool.false_or, Bool.true_or, Bool.or_false, Bool.or_true, Bool.not_true, Bool.not_false] at hr
          (first | apply envO | apply envQ); simp -implicitDefEqProofs only [vmp,↓vmd,seval]; rfl
          simp -implicitDefEqProofs only [vmp,↓vmd,seval]
          refine onB_dec (fun h6 => ?_) (fun h6 => ?_)
          ·have h6d : decide (modE (divE k.flags 16) 2 = 0) = true := decide_eq_true h6
           (first | apply envO | apply envQ); simp -implicitDefEqProofs only [h6d, vmp,↓vmd,seval]; rfl
           simp -implicitDefEqProofs only [vmp,↓vmd,seval]
           refine onB_dec (fun h7 => ?_) (fun h7 => ?_)
           ·rw [decide_eq_true h6, decide_eq_true h7] at hr
            simp only [Bool.false_and, Bool.true_and, Bool.and_false, Bool.and_true, Bool.false_or, Bool.true_or, Bool.or_false, Bool.or_true, Bool.not_true, Bool.not_false] at hr
            subst hr
            simp -implicitDefEqProofs only [h7, vmp,↓vmd,seval]
            exact gives_pure
           ·rw [decide_eq_true h6, decide_eq_false h7] at hr
            simp only [Bool.false_and, Bool.true_and, Bool.and_false, Bool.and_true, Bool.false_or, Bool.true_or, Bool.or_false, Bool.or_true, Bool.not_true, Bool.not_false] at hr
            simp -implicitDefEqProofs only [h7, vmp,↓vmd,seval]
            refine loop_at (T := Nat) (fun n => [(5, .pure (I (n : Int))), (3, .pure (I (i : Int))), (1, .ptr 0 0 0), (4, .ptr 1 0 0)]) (fun _ => [⟨[.pure (ffV F)], 6, .live⟩, ⟨[.pure (lk k)], 4, .live⟩]) (fun n => n ≤ k.subs.length ∧ ((k.subs.drop n).all (subB F k) && (F.lks.drop (i + 1)).all (lookupB F)) = out) (fun n => k.subs.length - n)
             0 [0, 1] (by simp) rfl ⟨by simp, hr⟩ (by simp -implicitDefEqProofs only [kpp,seval]) (by simp -implicitDefEqProofs only [kpp,seval]) ?_
            rintro n ⟨hn, ht⟩
            unfold c56_2
            simp -implicitDefEqProofs only [vmp,↓vmd,seval]
            refine onIf_intro fun _ => ?_
            (first | apply envO | apply envQ); simp -implicitDefEqProofs only [vmp,↓vmd,seval]; rfl
            simp -implicitDefEqProofs only [vmp,↓vmd,seval]
            refine onB_dec (fun h8 => ?_) (fun h8 => ?_)
            ·have hln : n < k.subs.length := by omega
             rw [drop_at hln, List.all_cons] at ht
             have hgn : (k.subs.map sub)[n]? = some (sub k.subs[n]) := map_at hln
             generalize k.subs[n] = s at ht hgn
             simp -implicitDefEqProofs only [h8, hgn, Int.natCast_nonneg, vmp,↓vmd,seval]
             refine onC_q (sub_q F (by omega) k s) rfl ?_
             generalize subB F k s = b at *
             cases b with
             | false =>
              simp only [Bool.false_and, Bool.true_and, Bool.and_false, Bool.and_true, Bool.false_or, Bool.true_or, Bool.or_false, Bool.or_true, Bool.not_true, Bool.not_false] at ht
              subst ht
              (first | apply envO | apply envQ); simp -implicitDefEqProofs only [vmp,↓vmd,seval]; rfl
              simp -implicitDefEqProofs only [vmp,↓vmd,seval]
              exact gives_pure
             | true =>
              simp only [Bool.false_and, Bool.true_and, Bool.and_false, Bool.and_true, Bool.false_or, Bool.true_or, Bool.or_false, Bool.or_true, Bool.not_true, Bool.not_false] at ht
              (first | apply envO | apply envQ); simp -implicitDefEqProofs only [vmp,↓vmd,seval]; rfl
              simp -implicitDefEqProofs only [vmp,↓vmd,seval]
              refine onBk_to (n + 1) [0, 1] (by simp) rfl (by omega) ⟨hln, ht⟩ (by simp -implicitDefEqProofs only [next_at hln (by omega), kpp,seval]) (by simp -implicitDefEqProofs only [kpp,seval])
            ·rw [List.drop_of_length_le (by omega), List.all_nil, Bool.true_and] at ht
             simp -implicitDefEqProofs only [h8, vmp,↓vmd,seval]
             unfold c56_1
             simp -implicitDefEqProofs only [vmp,↓vmd,seval]
             refine onBk_to (i + 1) [0] (by simp) rfl (by omega) ⟨hlt, ht⟩ (by simp -implicitDefEqProofs only [next_at hlt (by omega), kpp,seval]) (by simp -implicitDefEqProofs only [kpp,seval])
          ·rw [decide_eq_false h6] at hr
           simp only [Bool.false_and, Bool.true_and, Bool.and_false, Bool.and_true, Bool.false_or, Bool.true_or, Bool.or_false, Bool.or_true, Bool.not_true, Bool.not_false] at hr
           (first | apply envO | apply envQ); simp -implicitDefEqProofs only [h6, vmp,↓vmd,seval]; rfl
           simp -implicitDefEqProofs only [h6, vmp,↓vmd,seval]
           refine loop_at (T := Nat) (fun n => [(5, .pure (I (n : Int))), (3, .pure (I (i : Int))), (1, .ptr 0 0 0), (4, .ptr 1 0 0)]) (fun _ => [⟨[.pure (ffV F)], 6, .live⟩, ⟨[.pure (lk k)], 4, .live⟩]) (fun n => n ≤ k.subs.length ∧ ((k.subs.drop n).all (subB F k) && (F.lks.drop (i + 1)).all (lookupB F)) = out) (fun n => k.subs.length - n)
            0 [0, 1] (by simp) rfl ⟨by simp, hr⟩ (by simp -implicitDefEqProofs only [kpp,seval]) (by simp -implicitDefEqProofs only [kpp,seval]) ?_
           rintro n ⟨hn, ht⟩
           unfold c56_2
           simp -implicitDefEqProofs only [vmp,↓vmd,seval]
           refine onIf_intro fun _ => ?_
           (first | apply envO | apply envQ); simp -implicitDefEqProofs only [vmp,↓vmd,seval]; rfl
           simp -implicitDefEqProofs only [vmp,↓vmd,seval]
           refine onB_dec (fun h8 => ?_) (fun h8 => ?_)
           ·have hln : n < k.subs.length := by omega
            rw [drop_at hln, List.all_cons] at ht
            have hgn : (k.subs.map sub)[n]? = some (sub k.subs[n]) := map_at hln
            generalize k.subs[n] = s at ht hgn
            simp -implicitDefEqProofs only [h8, hgn, Int.natCast_nonneg, vmp,↓vmd,seval]
            refine onC_q (sub_q F (by omega) k s) rfl ?_
            generalize subB F k s = b at *
            cases b with
            | false =>
             simp only [Bool.false_and, Bool.true_and, Bool.and_false, Bool.and_true, Bool.false_or, Bool.true_or, Bool.or_false, Bool.or_true, Bool.not_true, Bool.not_false] at ht
             subst ht
             (first | apply envO | apply envQ); simp -implicitDefEqProofs only [vmp,↓vmd,seval]; rfl
             simp -implicitDefEqProofs only [vmp,↓vmd,seval]
             exact gives_pure
            | true =>
             simp only [Bool.false_and, Bool.true_and, Bool.and_false, Bool.and_true, Bool.false_or, Bool.true_or, Bool.or_false, Bool.or_true, Bool.not_true, Bool.not_false] at ht
             (first | apply envO | apply envQ); simp -implicitDefEqProofs only [vmp,↓vmd,seval]; rfl
             simp -implicitDefEqProofs only [vmp,↓vmd,seval]
             refine onBk_to (n + 1) [0, 1] (by simp) rfl (by omega) ⟨hln, ht⟩ (by simp -implicitDefEqProofs only [next_at hln (by omega), kpp,seval]) (by simp -implicitDefEqProofs only [kpp,seval])
           ·rw [List.drop_of_length_le (by omega), List.all_nil, Bool.true_and] at ht
            simp -implicitDefEqProofs only [h8, vmp,↓vmd,seval]
            unfold c56_1
            simp -implicitDefEqProofs only [vmp,↓vmd,seval]
            refine onBk_to (i + 1) [0] (by simp) rfl (by omega) ⟨hlt, ht⟩ (by simp -implicitDefEqProofs only [next_at hlt (by omega), kpp,seval]) (by simp -implicitDefEqProofs only [kpp,seval])
        ·rw [decide_eq_false h5] at hr
         simp only [Bool.false_and, Bool.true_and, Bool.and_false, Bool.and_true, Bool.false_or, Bool.true_or, Bool.or_false, Bool.or_true, Bool.not_true, Bool.not_false] at hr
         (first | apply envO | apply envQ); simp -implicitDefEqProofs only [h5, vmp,↓vmd,seval]; rfl
         simp -implicitDefEqProofs only [h5, vmp,↓vmd,seval]
         refine onB_dec (fun h6 => ?_) (fun h6 => ?_)
         ·have h6d : decide (modE (divE k.flags 16) 2 = 0) = true := decide_eq_true h6
          (first | apply envO | apply envQ); simp -implicitDefEqProofs only [h6d, vmp,↓vmd,seval]; rfl
          simp -implicitDefEqProofs only [vmp,↓vmd,seval]
          refine onB_dec (fun h7 => ?_) (fun h7 => ?_)
          ·rw [decide_eq_true h6, decide_eq_true h7] at hr
           simp only [Bool.false_and, Bool.true_and, Bool.and_false, Bool.and_true, Bool.false_or, Bool.true_or, Bool.or_false, Bool.or_true, Bool.not_true, Bool.not_false] at hr
           subst hr
           simp -implicitDefEqProofs only [h7, vmp,↓vmd,seval]
           exact gives_pure
          ·rw [decide_eq_true h6, decide_eq_false h7] at hr
           simp only [Bool.false_and, Bool.true_and, Bool.and_false, Bool.and_true, Bool.false_or, Bool.true_or, Bool.or_false, Bool.or_true, Bool.not_true, Bool.not_false] at hr
           simp -implicitDefEqProofs only [h7, vmp,↓vmd,seval]
           refine loop_at (T := Nat) (fun n => [(5, .pure (I (n : Int))), (3, .pure (I (i : Int))), (1, .ptr 0 0 0), (4, .ptr 1 0 0)]) (fun _ => [⟨[.pure (ffV F)], 6, .live⟩, ⟨[.pure (lk k)], 4, .live⟩]) (fun n => n ≤ k.subs.length ∧ ((k.subs.drop n).all (subB F k) && (F.lks.drop (i + 1)).all (lookupB F)) = out) (fun n => k.subs.length - n)
            0 [0, 1] (by simp) rfl ⟨by simp, hr⟩ (by simp -implicitDefEqProofs only [kpp,seval]) (by simp -implicitDefEqProofs only [kpp,seval]) ?_
           rintro n ⟨hn, ht⟩
           unfold c56_2
           simp -implicitDefEqProofs only [vmp,↓vmd,seval]
           refine onIf_intro fun _ => ?_
           (first | apply envO | apply envQ); simp -implicitDefEqProofs only [vmp,↓vmd,seval]; rfl
           simp -implicitDefEqProofs only [vmp,↓vmd,seval]
           refine onB_dec (fun h8 => ?_) (fun h8 => ?_)
           ·have hln : n < k.subs.length := by omega
            rw [drop_at hln, List.all_cons] at ht
            have hgn : (k.subs.map sub)[n]? = some (sub k.subs[n]) := map_at hln
            generalize k.subs[n] = s at ht hgn
            simp -implicitDefEqProofs only [h8, hgn, Int.natCast_nonneg, vmp,↓vmd,seval]
            refine onC_q (sub_q F (by omega) k s) rfl ?_
            generalize subB F k s = b at *
            cases b with
            | false =>
             simp only [Bool.false_and, Bool.true_and, Bool.and_false, Bool.and_true, Bool.false_or, Bool.true_or, Bool.or_false, Bool.or_true, Bool.not_true, Bool.not_false] at ht
             subst ht
             (first | apply envO | apply envQ); simp -implicitDefEqProofs only [vmp,↓vmd,seval]; rfl
             simp -implicitDefEqProofs only [vmp,↓vmd,seval]
             exact gives_pure
            | true =>
             simp only [Bool.false_and, Bool.true_and, Bool.and_false, Bool.and_true, Bool.false_or, Bool.true_or, Bool.or_false, Bool.or_true, Bool.not_true, Bool.not_false] at ht
             (first | apply envO | apply envQ); simp -implicitDefEqProofs only [vmp,↓vmd,seval]; rfl
             simp -implicitDefEqProofs only [vmp,↓vmd,seval]
             refine onBk_to (n + 1) [0, 1] (by simp) rfl (by omega) ⟨hln, ht⟩ (by simp -implicitDefEqProofs only [next_at hln (by omega), kpp,seval]) (by simp -implicitDefEqProofs only [kpp,seval])
           ·rw [List.drop_of_length_le (by omega), List.all_nil, Bool.true_and] at ht
            simp -implicitDefEqProofs only [h8, vmp,↓vmd,seval]
            unfold c56_1
            simp -implicitDefEqProofs only [vmp,↓vmd,seval]
            refine onBk_to (i + 1) [0] (by simp) rfl (by omega) ⟨hlt, ht⟩ (by simp -implicitDefEqProofs only [next_at hlt (by omega), kpp,seval]) (by simp -implicitDefEqProofs only [kpp,seval])
         ·rw [decide_eq_false h6] at hr
          simp only [Bool.false_and, Bool.true_and, Bool.and_false, Bool.and_true, Bool.false_or, Bool.true_or, Bool.or_false, Bool.or_true, Bool.not_true, Bool.not_false] at hr
          (first | apply envO | apply envQ); simp -implicitDefEqProofs only [h6, vmp,↓vmd,seval]; rfl
          simp -implicitDefEqProofs only [h6, vmp,↓vmd,seval]
          refine loop_at (T := Nat) (fun n => [(5, .pure (I (n : Int))), (3, .pure (I (i : Int))), (1, .ptr 0 0 0), (4, .ptr 1 0 0)]) (fun _ => [⟨[.pure (ffV F)], 6, .live⟩, ⟨[.pure (lk k)], 4, .live⟩]) (fun n => n ≤ k.subs.length ∧ ((k.subs.drop n).all (subB F k) && (F.lks.drop (i + 1)).all (lookupB F)) = out) (fun n => k.subs.length - n)
           0 [0, 1] (by simp) rfl ⟨by simp, hr⟩ (by simp -implicitDefEqProofs only [kpp,seval]) (by simp -implicitDefEqProofs only [kpp,seval]) ?_
          rintro n ⟨hn, ht⟩
          unfold c56_2
          simp -implicitDefEqProofs only [vmp,↓vmd,seval]
          refine onIf_intro fun _ => ?_
          (first | apply envO | apply envQ); simp -implicitDefEqProofs only [vmp,↓vmd,seval]; rfl
          simp -implicitDefEqProofs only [vmp,↓vmd,seval]
          refine onB_dec (fun h8 => ?_) (fun h8 => ?_)
          ·have hln : n < k.subs.length := by omega
           rw [drop_at hln, List.all_cons] at ht
           have hgn : (k.subs.map sub)[n]? = some (sub k.subs[n]) := map_at hln
           generalize k.subs[n] = s at ht hgn
           simp -implicitDefEqProofs only [h8, hgn, Int.natCast_nonneg, vmp,↓vmd,seval]
           refine onC_q (sub_q F (by omega) k s) rfl ?_
           generalize subB F k s = b at *
           cases b with
           | false =>
            simp only [Bool.false_and, Bool.true_and, Bool.and_false, Bool.and_true, Bool.false_or, Bool.true_or, Bool.or_false, Bool.or_true, Bool.not_true, Bool.not_false] at ht
            subst ht
            (first | apply envO | apply envQ); simp -implicitDefEqProofs only [vmp,↓vmd,seval]; rfl
            simp -implicitDefEqProofs only [vmp,↓vmd,seval]
            exact gives_pure
           | true =>
            simp only [Bool.false_and, Bool.true_and, Bool.and_false, Bool.and_true, Bool.false_or, Bool.true_or, Bool.or_false, Bool.or_true, Bool.not_true, Bool.not_false] at ht
            (first | apply envO | apply envQ); simp -implicitDefEqProofs only [vmp,↓vmd,seval]; rfl
            simp -implicitDefEqProofs only [vmp,↓vmd,seval]
            refine onBk_to (n + 1) [0, 1] (by simp) rfl (by omega) ⟨hln, ht⟩ (by simp -implicitDefEqProofs only [next_at hln (by omega), kpp,seval]) (by simp -implicitDefEqProofs only [kpp,seval])
          ·rw [List.drop_of_length_le (by omega), List.all_nil, Bool.true_and] at ht
           simp -implicitDefEqProofs only [h8, vmp,↓vmd,seval]
           unfold c56_1
           simp -implicitDefEqProofs only [vmp,↓vmd,seval]
           refine onBk_to (i + 1) [0] (by simp) rfl (by omega) ⟨hlt, ht⟩ (by simp -implicitDefEqProofs only [next_at hlt (by omega), kpp,seval]) (by simp -implicitDefEqProofs only [kpp,seval])
  ·rw [List.drop_of_length_le (by omega), List.all_nil] at hr
   subst hr
   simp -implicitDefEqProofs only [h1, vmp,↓vmd,seval]
   unfold c56_0
   simp -implicitDefEqProofs only [vmp,↓vmd,seval]
   exact gives_pure
end Go.Proofs.Ytcjmkpkhjhjepaa.W
