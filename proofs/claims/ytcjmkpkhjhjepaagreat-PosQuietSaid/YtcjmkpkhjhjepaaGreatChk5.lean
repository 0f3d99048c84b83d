/-
  What a font may be: the document's function of fields that are not empty. No condition.
-/
import Derived.Test.YtcjmkpkhjhjepaaGreatChk4
namespace Go.Proofs.YtcjmkpkhjhjepaaGreat.W
open Go Go.Vm Go.Proofs
set_option maxRecDepth 100000
set_option linter.unusedSimpArgs false
set_option maxHeartbeats 4000000
/-! typecase/typecaseref21.bare -/
def c63 : AC :=
 (.seq (.reg [oo 3 (.box (.s 1)),
 oo 4 (.mov (nB false))])
 (.seq (.reg [oo 9 (.mov (.s 0)),
 oo 10 (.bin .eql (.s 9) (nI 1)),
 oo 11 (.mov (.s 10)),
 og 12 11 false (.mov (.s 0)),
 og 13 11 false (.bin .eql (.s 12) (nI 2)),
 oo 14 (.pick (.s 11) (nB true) (.s 13)),
 oo 15 (.mov (.s 14)),
 og 16 15 false (.mov (.s 0)),
 og 17 15 false (.bin .eql (.s 16) (nI 5)),
 oo 18 (.pick (.s 15) (nB true) (.s 17)),
 oo 19 (.mov (.s 18)),
 og 20 19 false (.mov (.s 0)),
 og 21 19 false (.bin .eql (.s 20) (nI 6)),
 oo 22 (.pick (.s 19) (nB true) (.s 21)),
 oo 23 (.mov (.s 22)),
 og 24 23 false (.mov (.s 0)),
 og 25 23 false (.bin .eql (.s 24) (nI 3)),
 oo 26 (.pick (.s 23) (nB true) (.s 25)),
 oo 5 (.mov (.s 26))])
 (.seq (.reg [oo 27 (.mov (.s 0)),
 oo 28 (.bin .eql (.s 27) (nI 1)),
 oo 29 (.mov (.s 28)),
 og 30 29 false (.mov (.s 0)),
 og 31 29 false (.bin .eql (.s 30) (nI 2)),
 oo 32 (.pick (.s 29) (nB true) (.s 31)),
 oo 33 (.mov (.s 32)),
 og 34 33 false (.mov (.s 0)),
 og 35 33 false (.bin .eql (.s 34) (nI 5)),
 oo 36 (.pick (.s 33) (nB true) (.s 35)),
 oo 6 (.mov (.s 36))])
 (.seq (.reg [oo 37 (.mov (.s 0)),
 oo 38 (.bin .eql (.s 37) (nI 4)),
 oo 39 (.mov (.s 38)),
 og 40 39 false (.mov (.s 0)),
 og 41 39 false (.bin .eql (.s 40) (nI 12)),
 oo 42 (.pick (.s 39) (nB true) (.s 41)),
 oo 7 (.mov (.s 42))])
 (.seq (.reg [oo 43 (.mov (.s 0)),
 oo 44 (.bin .eql (.s 43) (nI 9)),
 oo 45 (.mov (.s 44)),
 og 46 45 false (.mov (.s 0)),
 og 47 45 false (.bin .eql (.s 46) (nI 10)),
 oo 48 (.pick (.s 45) (nB true) (.s 47)),
 oo 49 (.mov (.s 48)),
 og 50 49 false (.mov (.s 0)),
 og 51 49 false (.bin .eql (.s 50) (nI 11)),
 oo 52 (.pick (.s 49) (nB true) (.s 51)),
 oo 8 (.mov (.s 52))])
 (.seq (.seq (.reg [oo 53 (.mov (.s 5)),
 oo 54 (.un .not (.s 53)),
 oo 55 (.mov (.s 54)),
 og 56 55 true (.fldA 0 (.s 3)),
 og 57 55 true (.load false 1 (.s 56)),
 og 58 55 true (.len (.s 57)),
 og 59 55 true (.bin .gtr (.s 58) (nI 0)),
 oo 60 (.pick (.s 55) (.s 59) (nB false)),
 oo 61 (.mov (.s 60)),
 og 62 61 false (.mov (.s 6)),
 og 63 61 false (.un .not (.s 62)),
 og 64 61 false (.mov (.s 63)),
 og 65 64 true (.fldA 1 (.s 3)),
 og 66 64 true (.load false 1 (.s 65)),
 og 67 64 true (.len (.s 66)),
 og 68 64 true (.bin .gtr (.s 67) (nI 0)),
 og 69 61 false (.pick (.s 64) (.s 68) (nB false)),
 oo 70 (.pick (.s 61) (nB true) (.s 69)),
 oo 71 (.mov (.s 70)),
 og 72 71 false (.mov (.s 0)),
 og 73 71 false (.bin .neq (.s 72) (nI 3)),
 og 74 71 false (.mov (.s 73)),
 og 75 74 true (.fldA 2 (.s 3)),
 og 76 74 true (.load false 1 (.s 75)),
 og 77 74 true (.len (.s 76)),
 og 78 74 true (.bin .gtr (.s 77) (nI 0)),
 og 79 71 false (.pick (.s 74) (.s 78) (nB false)),
 oo 80 (.pick (.s 71) (nB true) (.s 79)),
 oo 81 (.mov (.s 80)),
 og 82 81 false (.mov (.s 7)),
 og 83 81 false (.un .not (.s 82)),
 og 84 81 false (.mov (.s 83)),
 og 85 84 true (.fldA 4 (.s 3)),
 og 86 84 true (.load false 1 (.s 85)),
 og 87 84 true (.len (.s 86)),
 og 88 84 true (.fldA 6 (.s 3)),
 og 89 84 true (.load false 1 (.s 88)),
 og 90 84 true (.len (.s 89)),
 og 91 84 true (.bin .add (.s 87) (.s 90)),
 og 92 84 true (.bin .gtr (.s 91) (nI 0)),
 og 93 81 false (.pick (.s 84) (.s 92) (nB false)),
 oo 94 (.pick (.s 81) (nB true) (.s 93))])
 (.cond (.s 94)
 (.seq (.reg [oo 4 (.mov (nB false))])
 .ret)
 .skip))
 (.seq (.seq (.reg [oo 95 (.mov (.s 7)),
 oo 96 (.un .not (.s 95)),
 oo 97 (.mov (.s 96)),
 og 98 97 true (.mov (.s 0)),
 og 99 97 true (.bin .neq (.s 98) (nI 5)),
 oo 100 (.pick (.s 97) (.s 99) (nB false)),
 oo 101 (.mov (.s 100)),
 og 102 101 true (.fldA 3 (.s 3)),
 og 103 101 true (.load false 1 (.s 102)),
 og 104 101 true (.len (.s 103)),
 og 105 101 true (.fldA 5 (.s 3)),
 og 106 101 true (.load false 1 (.s 105)),
 og 107 101 true (.len (.s 106)),
 og 108 101 true (.bin .add (.s 104) (.s 107)),
 og 109 101 true (.bin .gtr (.s 108) (nI 0)),
 oo 110 (.pick (.s 101) (.s 109) (nB false)),
 oo 111 (.mov (.s 110)),
 og 112 111 false (.mov (.s 0)),
 og 113 111 false (.bin .neq (.s 112) (nI 6)),
 og 114 111 false (.mov (.s 113)),
 og 115 114 true (.fldA 7 (.s 3)),
 og 116 114 true (.load false 1 (.s 115)),
 og 117 114 true (.len (.s 116)),
 og 118 114 true (.bin .gtr (.s 117) (nI 0)),
 og 119 111 false (.pick (.s 114) (.s 118) (nB false)),
 oo 120 (.pick (.s 111) (nB true) (.s 119)),
 oo 121 (.mov (.s 120)),
 og 122 121 false (.mov (.s 0)),
 og 123 121 false (.bin .neq (.s 122) (nI 7)),
 og 124 121 false (.mov (.s 123)),
 og 125 124 true (.fldA 8 (.s 3)),
 og 126 124 true (.load false 1 (.s 125)),
 og 127 124 true (.len (.s 126)),
 og 128 124 true (.bin .gtr (.s 127) (nI 0)),
 og 129 121 false (.pick (.s 124) (.s 128) (nB false)),
 oo 130 (.pick (.s 121) (nB true) (.s 129))])
 (.cond (.s 130)
 (.seq (.reg [oo 4 (.mov (nB false))])
 .ret)
 .skip))
 (.seq (.reg [oo 131 (.mov (.s 0)),
 oo 132 (.bin .eql (.s 131) (nI 8)),
 oo 133 (.mov (.s 132)),
 og 134 133 false (.fldA 9 (.s 3)),
 og 135 133 false (.load false 1 (.s 134)),
 og 136 133 false (.len (.s 135)),
 og 137 133 false (.bin .eql (.s 136) (nI 0)),
 oo 138 (.pick (.s 133) (nB true) (.s 137)),
 oo 139 (.mov (.s 138)),
 og 140 139 true (.mov (.s 8)),
 og 141 139 true (.mov (.s 140)),
 og 142 141 false (.fldA 10 (.s 3)),
 og 143 141 false (.load false 1 (.s 142)),
 og 144 141 false (.len (.s 143)),
 og 145 141 false (.fldA 11 (.s 3)),
 og 146 141 false (.load false 1 (.s 145)),
 og 147 141 false (.len (.s 146)),
 og 148 141 false (.bin .add (.s 144) (.s 147)),
 og 149 141 false (.bin .eql (.s 148) (nI 0)),
 og 150 139 true (.pick (.s 141) (nB true) (.s 149)),
 oo 151 (.pick (.s 139) (.s 150) (nB false)),
 oo 4 (.mov (.s 151))])
 .ret))))))))
theorem k63 : OkF 63 Tryz.f63 c63 [.t 4] 152 := ⟨Tryz.func63, by kernel_rfl, by kernel_rfl, by kernel_rfl, Tryz.ntmps63⟩
theorem bare_q (k : Int) (s : Sub) : FnQ Tryz.prog 63 [I k, sub s] [.bool (bareB k s)] := by
 refine k63.q (by simp) ?_
 unfold c63
 generalize ho : bareB k s = out
 by_cases e1 : k = 1
 ·subst e1
  have hr : (decide (s.ligs.length = 0) && (decide (sumE s.inn.length s.nests.length ≤ 0) && (decide (sumE s.back.length s.ahead.length ≤ 0) && (decide (s.values.length = 0) && (decide (s.pairs.length = 0) && (decide (s.curs.length = 0) && decide (sumE s.marks.length s.hosts.length = 0))))))) = out := by rw [← ho]; simp [bareB, kCov, kTo, kRow, kHang, Bool.and_assoc]
  simp only [vmp,↓vmd,seval]
  refine onIf_intro fun _ => ?_
  (first | apply envO | apply envQ); simp only [vmp,↓vmd,seval]; rfl
  simp only [vmp,↓vmd,seval]
  refine onB_dec (fun t1 => ?_) (fun t1 => ?_)
  ·rw [decide_eq_false (show ¬ s.ligs.length = 0 by omega)] at hr
   simp only [bb] at hr
   subst hr
   (first | apply envO | apply envQ); simp only [t1, vmp,↓vmd,seval]; rfl
   simp only [t1, vmp,↓vmd,seval]
   exact gives_pure
  ·rw [decide_eq_true (show s.ligs.length = 0 by omega)] at hr
   simp only [bb] at hr
   (first | apply envO | apply envQ); simp only [t1, vmp,↓vmd,seval]; rfl
   simp only [t1, vmp,↓vmd,seval]
   refine onIf_intro fun _ => ?_
   (first | apply envO | apply envQ); simp only [vmp,↓vmd,seval]; rfl
   simp only [vmp,↓vmd,seval]
   refine onIf_intro fun _ => ?_
   (first | apply envO | apply envQ); simp only [vmp,↓vmd,seval]; rfl
   simp only [vmp,↓vmd,seval]
   refine onB_dec (fun t2 => ?_) (fun t2 => ?_)
   ·rw [decide_eq_false (show ¬ sumE s.inn.length s.nests.length ≤ 0 from Int.not_le.2 t2)] at hr
    simp only [bb] at hr
    subst hr
    (first | apply envO | apply envQ); simp only [t2, vmp,↓vmd,seval]; rfl
    simp only [t2, vmp,↓vmd,seval]
    exact gives_pure
   ·rw [decide_eq_true (show sumE s.inn.length s.nests.length ≤ 0 from Int.not_lt.1 t2)] at hr
    simp only [bb] at hr
    (first | apply envO | apply envQ); simp only [t2, vmp,↓vmd,seval]; rfl
    simp only [t2, vmp,↓vmd,seval]
    refine onIf_intro fun _ => ?_
    (first | apply envO | apply envQ); simp only [vmp,↓vmd,seval]; rfl
    simp only [vmp,↓vmd,seval]
    refine onIf_intro fun _ => ?_
    (first | apply envO | apply envQ); simp only [vmp,↓vmd,seval]; rfl
    simp only [vmp,↓vmd,seval]
    refine onB_dec (fun t3 => ?_) (fun t3 => ?_)
    ·rw [decide_eq_false (show ¬ sumE s.back.length s.ahead.length ≤ 0 from Int.not_le.2 t3)] at hr
     simp only [bb] at hr
     subst hr
     (first | apply envO | apply envQ); simp only [t3, vmp,↓vmd,seval]; rfl
     simp only [t3, vmp,↓vmd,seval]
     exact gives_pure
    ·rw [decide_eq_true (show sumE s.back.length s.ahead.length ≤ 0 from Int.not_lt.1 t3)] at hr
     simp only [bb] at hr
     (first | apply envO | apply envQ); simp only [t3, vmp,↓vmd,seval]; rfl
     simp only [t3, vmp,↓vmd,seval]
     refine onIf_intro fun _ => ?_
     (first | apply envO | apply envQ); simp only [vmp,↓vmd,seval]; rfl
     simp only [vmp,↓vmd,seval]
     refine onB_dec (fun t4 => ?_) (fun t4 => ?_)
     ·rw [decide_eq_false (show ¬ s.values.length = 0 by omega)] at hr
      simp only [bb] at hr
      subst hr
      (first | apply envO | apply envQ); simp only [t4, vmp,↓vmd,seval]; rfl
      simp only [t4, vmp,↓vmd,seval]
      exact gives_pure
     ·rw [decide_eq_true (show s.values.length = 0 by omega)] at hr
      simp only [bb] at hr
      (first | apply envO | apply envQ); simp only [t4, vmp,↓vmd,seval]; rfl
      simp only [t4, vmp,↓vmd,seval]
      refine onIf_intro fun _ => ?_
      (first | apply envO | apply envQ); simp only [vmp,↓vmd,seval]; rfl
      simp only [vmp,↓vmd,seval]
      refine onB_dec (fun t5 => ?_) (fun t5 => ?_)
      ·rw [decide_eq_false (show ¬ s.pairs.length = 0 by omega)] at hr
       simp only [bb] at hr
       subst hr
       (first | apply envO | apply envQ); simp only [t5, vmp,↓vmd,seval]; rfl
       simp only [t5, vmp,↓vmd,seval]
       exact gives_pure
      ·rw [decide_eq_true (show s.pairs.length = 0 by omega)] at hr
       simp only [bb] at hr
       (first | apply envO | apply envQ); simp only [t5, vmp,↓vmd,seval]; rfl
       simp only [t5, vmp,↓vmd,seval]
       refine onIf_intro fun _ => ?_
       (first | apply envO | apply envQ); simp only [vmp,↓vmd,seval]; rfl
       simp only [vmp,↓vmd,seval]
       refine onB_dec (fun t6 => ?_) (fun t6 => ?_)
       ·rw [decide_eq_true (show s.curs.length = 0 by omega)] at hr
        simp only [bb] at hr
        (first | apply envO | apply envQ); simp only [t6, vmp,↓vmd,seval]; rfl
        simp only [t6, vmp,↓vmd,seval]
        refine onIf_intro fun _ => ?_
        (first | apply envO | apply envQ); simp only [vmp,↓vmd,seval]; rfl
        simp only [vmp,↓vmd,seval]
        refine onIf_intro fun _ => ?_
        (first | apply envO | apply envQ); simp only [vmp,↓vmd,seval]; rfl
        simp only [vmp,↓vmd,seval]
        rw [hr]
        exact gives_pure
       ·rw [decide_eq_false (show ¬ s.curs.length = 0 by omega)] at hr
        simp only [bb] at hr
        subst hr
        (first | apply envO | apply envQ); simp only [t6, vmp,↓vmd,seval]; rfl
        simp only [t6, vmp,↓vmd,seval]
        exact gives_pure
 by_cases e2 : k = 2
 ·subst e2
  have hr : (decide (s.ligs.length = 0) && (decide (sumE s.inn.length s.nests.length ≤ 0) && (decide (sumE s.back.length s.ahead.length ≤ 0) && (decide (s.values.length = 0) && (decide (s.pairs.length = 0) && (decide (s.curs.length = 0) && decide (sumE s.marks.length s.hosts.length = 0))))))) = out := by rw [← ho]; simp [bareB, kCov, kTo, kRow, kHang, Bool.and_assoc]
  simp only [vmp,↓vmd,seval]
  refine onIf_intro fun _ => ?_
  (first | apply envO | apply envQ); simp only [vmp,↓vmd,seval]; rfl
  simp only [vmp,↓vmd,seval]
  refine onB_dec (fun t1 => ?_) (fun t1 => ?_)
  ·rw [decide_eq_false (show ¬ s.ligs.length = 0 by omega)] at hr
   simp only [bb] at hr
   subst hr
   (first | apply envO | apply envQ); simp only [t1, vmp,↓vmd,seval]; rfl
   simp only [t1, vmp,↓vmd,seval]
   exact gives_pure
  ·rw [decide_eq_true (show s.ligs.length = 0 by omega)] at hr
   simp only [bb] at hr
   (first | apply envO | apply envQ); simp only [t1, vmp,↓vmd,seval]; rfl
   simp only [t1, vmp,↓vmd,seval]
   refine onIf_intro fun _ => ?_
   (first | apply envO | apply envQ); simp only [vmp,↓vmd,seval]; rfl
   simp only [vmp,↓vmd,seval]
   refine onIf_intro fun _ => ?_
   (first | apply envO | apply envQ); simp only [vmp,↓vmd,seval]; rfl
   simp only [vmp,↓vmd,seval]
   refine onB_dec (fun t2 => ?_) (fun t2 => ?_)
   ·rw [decide_eq_false (show ¬ sumE s.inn.length s.nests.length ≤ 0 from Int.not_le.2 t2)] at hr
    simp only [bb] at hr
    subst hr
    (first | apply envO | apply envQ); simp only [t2, vmp,↓vmd,seval]; rfl
    simp only [t2, vmp,↓vmd,seval]
    exact gives_pure
   ·rw [decide_eq_true (show sumE s.inn.length s.nests.length ≤ 0 from Int.not_lt.1 t2)] at hr
    simp only [bb] at hr
    (first | apply envO | apply envQ); simp only [t2, vmp,↓vmd,seval]; rfl
    simp only [t2, vmp,↓vmd,seval]
    refine onIf_intro fun _ => ?_
    (first | apply envO | apply envQ); simp only [vmp,↓vmd,seval]; rfl
    simp only [vmp,↓vmd,seval]
    refine onIf_intro fun _ => ?_
    (first | apply envO | apply envQ); simp only [vmp,↓vmd,seval]; rfl
    simp only [vmp,↓vmd,seval]
    refine onB_dec (fun t3 => ?_) (fun t3 => ?_)
    ·rw [decide_eq_false (show ¬ sumE s.back.length s.ahead.length ≤ 0 from Int.not_le.2 t3)] at hr
     simp only [bb] at hr
     subst hr
     (first | apply envO | apply envQ); simp only [t3, vmp,↓vmd,seval]; rfl
     simp only [t3, vmp,↓vmd,seval]
     exact gives_pure
    ·rw [decide_eq_true (show sumE s.back.length s.ahead.length ≤ 0 from Int.not_lt.1 t3)] at hr
     simp only [bb] at hr
     (first | apply envO | apply envQ); simp only [t3, vmp,↓vmd,seval]; rfl
     simp only [t3, vmp,↓vmd,seval]
     refine onIf_intro fun _ => ?_
     (first | apply envO | apply envQ); simp only [vmp,↓vmd,seval]; rfl
     simp only [vmp,↓vmd,seval]
     refine onB_dec (fun t4 => ?_) (fun t4 => ?_)
     ·rw [decide_eq_false (show ¬ s.values.length = 0 by omega)] at hr
      simp only [bb] at hr
      subst hr
      (first | apply envO | apply envQ); simp only [t4, vmp,↓vmd,seval]; rfl
      simp only [t4, vmp,↓vmd,seval]
      exact gives_pure
     ·rw [decide_eq_true (show s.values.length = 0 by omega)] at hr
      simp only [bb] at hr
      (first | apply envO | apply envQ); simp only [t4, vmp,↓vmd,seval]; rfl
      simp only [t4, vmp,↓vmd,seval]
      refine onIf_intro fun _ => ?_
      (first | apply envO | apply envQ); simp only [vmp,↓vmd,seval]; rfl
      simp only [vmp,↓vmd,seval]
      refine onB_dec (fun t5 => ?_) (fun t5 => ?_)
      ·rw [decide_eq_false (show ¬ s.pairs.length = 0 by omega)] at hr
       simp only [bb] at hr
       subst hr
       (first | apply envO | apply envQ); simp only [t5, vmp,↓vmd,seval]; rfl
       simp only [t5, vmp,↓vmd,seval]
       exact gives_pure
      ·rw [decide_eq_true (show s.pairs.length = 0 by omega)] at hr
       simp only [bb] at hr
       (first | apply envO | apply envQ); simp only [t5, vmp,↓vmd,seval]; rfl
       simp only [t5, vmp,↓vmd,seval]
       refine onIf_intro fun _ => ?_
       (first | apply envO | apply envQ); simp only [vmp,↓vmd,seval]; rfl
       simp only [vmp,↓vmd,seval]
       refine onB_dec (fun t6 => ?_) (fun t6 => ?_)
       ·rw [decide_eq_true (show s.curs.length = 0 by omega)] at hr
        simp only [bb] at hr
        (first | apply envO | apply envQ); simp only [t6, vmp,↓vmd,seval]; rfl
        simp only [t6, vmp,↓vmd,seval]
        refine onIf_intro fun _ => ?_
        (first | apply envO | apply envQ); simp only [vmp,↓vmd,seval]; rfl
        simp only [vmp,↓vmd,seval]
        refine onIf_intro fun _ => ?_
        (first | apply envO | apply envQ); simp only [vmp,↓vmd,seval]; rfl
        simp only [vmp,↓vmd,seval]
        rw [hr]
        exact gives_pure
       ·rw [decide_eq_false (show ¬ s.curs.length = 0 by omega)] at hr
        simp only [bb] at hr
        subst hr
        (first | apply envO | apply envQ); simp only [t6, vmp,↓vmd,seval]; rfl
        simp only [t6, vmp,↓vmd,seval]
        exact gives_pure
 by_cases e3 : k = 3
 ·subst e3
  have hr : (decide (s.to.length = 0) && (decide (sumE s.inn.length s.nests.length ≤ 0) && (decide (sumE s.back.length s.ahead.length ≤ 0) && (decide (s.values.length = 0) && (decide (s.pairs.length = 0) && (decide (s.curs.length = 0) && decide (sumE s.marks.length s.hosts.length = 0))))))) = out := by rw [← ho]; simp [bareB, kCov, kTo, kRow, kHang, Bool.and_assoc]
  simp only [vmp,↓vmd,seval]
  refine onIf_intro fun _ => ?_
  (first | apply envO | apply envQ); simp only [vmp,↓vmd,seval]; rfl
  simp only [vmp,↓vmd,seval]
  refine onB_dec (fun t1 => ?_) (fun t1 => ?_)
  ·rw [decide_eq_false (show ¬ s.to.length = 0 by omega)] at hr
   simp only [bb] at hr
   subst hr
   (first | apply envO | apply envQ); simp only [t1, vmp,↓vmd,seval]; rfl
   simp only [t1, vmp,↓vmd,seval]
   exact gives_pure
  ·rw [decide_eq_true (show s.to.length = 0 by omega)] at hr
   simp only [bb] at hr
   (first | apply envO | apply envQ); simp only [t1, vmp,↓vmd,seval]; rfl
   simp only [t1, vmp,↓vmd,seval]
   refine onIf_intro fun _ => ?_
   (first | apply envO | apply envQ); simp only [vmp,↓vmd,seval]; rfl
   simp only [vmp,↓vmd,seval]
   refine onIf_intro fun _ => ?_
   (first | apply envO | apply envQ); simp only [vmp,↓vmd,seval]; rfl
   simp only [vmp,↓vmd,seval]
   refine onB_dec (fun t2 => ?_) (fun t2 => ?_)
   ·rw [decide_eq_false (show ¬ sumE s.inn.length s.nests.length ≤ 0 from Int.not_le.2 t2)] at hr
    simp only [bb] at hr
    subst hr
    (first | apply envO | apply envQ); simp only [t2, vmp,↓vmd,seval]; rfl
    simp only [t2, vmp,↓vmd,seval]
    exact gives_pure
   ·rw [decide_eq_true (show sumE s.inn.length s.nests.length ≤ 0 from Int.not_lt.1 t2)] at hr
    simp only [bb] at hr
    (first | apply envO | apply envQ); simp only [t2, vmp,↓vmd,seval]; rfl
    simp only [t2, vmp,↓vmd,seval]
    refine onIf_intro fun _ => ?_
    (first | apply envO | apply envQ); simp only [vmp,↓vmd,seval]; rfl
    simp only [vmp,↓vmd,seval]
    refine onIf_intro fun _ => ?_
    (first | apply envO | apply envQ); simp only [vmp,↓vmd,seval]; rfl
    simp only [vmp,↓vmd,seval]
    refine onB_dec (fun t3 => ?_) (fun t3 => ?_)
    ·rw [decide_eq_false (show ¬ sumE s.back.length s.ahead.length ≤ 0 from Int.not_le.2 t3)] at hr
     simp only [bb] at hr
     subst hr
     (first | apply envO | apply envQ); simp only [t3, vmp,↓vmd,seval]; rfl
     simp only [t3, vmp,↓vmd,seval]
     exact gives_pure
    ·rw [decide_eq_true (show sumE s.back.length s.ahead.length ≤ 0 from Int.not_lt.1 t3)] at hr
     simp only [bb] at hr
     (first | apply envO | apply envQ); simp only [t3, vmp,↓vmd,seval]; rfl
     simp only [t3, vmp,↓vmd,seval]
     refine onIf_intro fun _ => ?_
     (first | apply envO | apply envQ); simp only [vmp,↓vmd,seval]; rfl
     simp only [vmp,↓vmd,seval]
     refine onB_dec (fun t4 => ?_) (fun t4 => ?_)
     ·rw [decide_eq_false (show ¬ s.values.length = 0 by omega)] at hr
      simp only [bb] at hr
      subst hr
      (first | apply envO | apply envQ); simp only [t4, vmp,↓vmd,seval]; rfl
      simp only [t4, vmp,↓vmd,seval]
      exact gives_pure
     ·rw [decide_eq_true (show s.values.length = 0 by omega)] at hr
      simp only [bb] at hr
      (first | apply envO | apply envQ); simp only [t4, vmp,↓vmd,seval]; rfl
      simp only [t4, vmp,↓vmd,seval]
      refine onIf_intro fun _ => ?_
      (first | apply envO | apply envQ); simp only [vmp,↓vmd,seval]; rfl
      simp only [vmp,↓vmd,seval]
      refine onB_dec (fun t5 => ?_) (fun t5 => ?_)
      ·rw [decide_eq_false (show ¬ s.pairs.length = 0 by omega)] at hr
       simp only [bb] at hr
       subst hr
       (first | apply envO | apply envQ); simp only [t5, vmp,↓vmd,seval]; rfl
       simp only [t5, vmp,↓vmd,seval]
       exact gives_pure
      ·rw [decide_eq_true (show s.pairs.length = 0 by omega)] at hr
       simp only [bb] at hr
       (first | apply envO | apply envQ); simp only [t5, vmp,↓vmd,seval]; rfl
       simp only [t5, vmp,↓vmd,seval]
       refine onIf_intro fun _ => ?_
       (first | apply envO | apply envQ); simp only [vmp,↓vmd,seval]; rfl
       simp only [vmp,↓vmd,seval]
       refine onB_dec (fun t6 => ?_) (fun t6 => ?_)
       ·rw [decide_eq_true (show s.curs.length = 0 by omega)] at hr
        simp only [bb] at hr
        (first | apply envO | apply envQ); simp only [t6, vmp,↓vmd,seval]; rfl
        simp only [t6, vmp,↓vmd,seval]
        refine onIf_intro fun _ => ?_
        (first | apply envO | apply envQ); simp only [vmp,↓vmd,seval]; rfl
        simp only [vmp,↓vmd,seval]
        refine onIf_intro fun _ => ?_
        (first | apply envO | apply envQ); simp only [vmp,↓vmd,seval]; rfl
        simp only [vmp,↓vmd,seval]
        rw [hr]
        exact gives_pure
       ·rw [decide_eq_false (show ¬ s.curs.length = 0 by omega)] at hr
        simp only [bb] at hr
        subst hr
        (first | apply envO | apply envQ); simp only [t6, vmp,↓vmd,seval]; rfl
        simp only [t6, vmp,↓vmd,seval]
        exact gives_pure
 by_cases e4 : k = 4
 ·subst e4
  have hr : (decide (s.cover.length = 0) && (decide (s.to.length = 0) && (decide (s.ligs.length = 0) && (decide (s.values.length = 0) && (decide (s.pairs.length = 0) && (decide (s.curs.length = 0) && decide (sumE s.marks.length s.hosts.length = 0))))))) = out := by rw [← ho]; simp [bareB, kCov, kTo, kRow, kHang, Bool.and_assoc]
  simp only [vmp,↓vmd,seval]
  refine onIf_intro fun _ => ?_
  (first | apply envO | apply envQ); simp only [vmp,↓vmd,seval]; rfl
  simp only [vmp,↓vmd,seval]
  refine onB_dec (fun t1 => ?_) (fun t1 => ?_)
  ·rw [decide_eq_false (show ¬ s.cover.length = 0 by omega)] at hr
   simp only [bb] at hr
   subst hr
   (first | apply envO | apply envQ); simp only [t1, vmp,↓vmd,seval]; rfl
   simp only [t1, vmp,↓vmd,seval]
   exact gives_pure
  ·rw [decide_eq_true (show s.cover.length = 0 by omega)] at hr
   simp only [bb] at hr
   (first | apply envO | apply envQ); simp only [t1, vmp,↓vmd,seval]; rfl
   simp only [t1, vmp,↓vmd,seval]
   refine onIf_intro fun _ => ?_
   (first | apply envO | apply envQ); simp only [vmp,↓vmd,seval]; rfl
   simp only [vmp,↓vmd,seval]
   refine onB_dec (fun t2 => ?_) (fun t2 => ?_)
   ·rw [decide_eq_false (show ¬ s.to.length = 0 by omega)] at hr
    simp only [bb] at hr
    subst hr
    (first | apply envO | apply envQ); simp only [t2, vmp,↓vmd,seval]; rfl
    simp only [t2, vmp,↓vmd,seval]
    exact gives_pure
   ·rw [decide_eq_true (show s.to.length = 0 by omega)] at hr
    simp only [bb] at hr
    (first | apply envO | apply envQ); simp only [t2, vmp,↓vmd,seval]; rfl
    simp only [t2, vmp,↓vmd,seval]
    refine onIf_intro fun _ => ?_
    (first | apply envO | apply envQ); simp only [vmp,↓vmd,seval]; rfl
    simp only [vmp,↓vmd,seval]
    refine onB_dec (fun t3 => ?_) (fun t3 => ?_)
    ·rw [decide_eq_false (show ¬ s.ligs.length = 0 by omega)] at hr
     simp only [bb] at hr
     subst hr
     (first | apply envO | apply envQ); simp only [t3, vmp,↓vmd,seval]; rfl
     simp only [t3, vmp,↓vmd,seval]
     exact gives_pure
    ·rw [decide_eq_true (show s.ligs.length = 0 by omega)] at hr
     simp only [bb] at hr
     (first | apply envO | apply envQ); simp only [t3, vmp,↓vmd,seval]; rfl
     simp only [t3, vmp,↓vmd,seval]
     refine onIf_intro fun _ => ?_
     (first | apply envO | apply envQ); simp only [vmp,↓vmd,seval]; rfl
     simp only [vmp,↓vmd,seval]
     refine onB_dec (fun t4 => ?_) (fun t4 => ?_)
     ·rw [decide_eq_false (show ¬ s.values.length = 0 by omega)] at hr
      simp only [bb] at hr
      subst hr
      (first | apply envO | apply envQ); simp only [t4, vmp,↓vmd,seval]; rfl
      simp only [t4, vmp,↓vmd,seval]
      exact gives_pure
     ·rw [decide_eq_true (show s.values.length = 0 by omega)] at hr
      simp only [bb] at hr
      (first | apply envO | apply envQ); simp only [t4, vmp,↓vmd,seval]; rfl
      simp only [t4, vmp,↓vmd,seval]
      refine onIf_intro fun _ => ?_
      (first | apply envO | apply envQ); simp only [vmp,↓vmd,seval]; rfl
      simp only [vmp,↓vmd,seval]
      refine onB_dec (fun t5 => ?_) (fun t5 => ?_)
      ·rw [decide_eq_false (show ¬ s.pairs.length = 0 by omega)] at hr
       simp only [bb] at hr
       subst hr
       (first | apply envO | apply envQ); simp only [t5, vmp,↓vmd,seval]; rfl
       simp only [t5, vmp,↓vmd,seval]
       exact gives_pure
      ·rw [decide_eq_true (show s.pairs.length = 0 by omega)] at hr
       simp only [bb] at hr
       (first | apply envO | apply envQ); simp only [t5, vmp,↓vmd,seval]; rfl
       simp only [t5, vmp,↓vmd,seval]
       refine onIf_intro fun _ => ?_
       (first | apply envO | apply envQ); simp only [vmp,↓vmd,seval]; rfl
       simp only [vmp,↓vmd,seval]
       refine onB_dec (fun t6 => ?_) (fun t6 => ?_)
       ·rw [decide_eq_true (show s.curs.length = 0 by omega)] at hr
        simp only [bb] at hr
        (first | apply envO | apply envQ); simp only [t6, vmp,↓vmd,seval]; rfl
        simp only [t6, vmp,↓vmd,seval]
        refine onIf_intro fun _ => ?_
        (first | apply envO | apply envQ); simp only [vmp,↓vmd,seval]; rfl
        simp only [vmp,↓vmd,seval]
        refine onIf_intro fun _ => ?_
        (first | apply envO | apply envQ); simp only [vmp,↓vmd,seval]; rfl
        simp only [vmp,↓vmd,seval]
        rw [hr]
        exact gives_pure
       ·rw [decide_eq_false (show ¬ s.curs.length = 0 by omega)] at hr
        simp only [bb] at hr
        subst hr
        (first | apply envO | apply envQ); simp only [t6, vmp,↓vmd,seval]; rfl
        simp only [t6, vmp,↓vmd,seval]
        exact gives_pure
 by_cases e5 : k = 5
 ·subst e5
  have hr : (decide (s.ligs.length = 0) && (decide (sumE s.inn.length s.nests.length ≤ 0) && (decide (s.values.length = 0) && (decide (s.pairs.length = 0) && (decide (s.curs.length = 0) && decide (sumE s.marks.length s.hosts.length = 0)))))) = out := by rw [← ho]; simp [bareB, kCov, kTo, kRow, kHang, Bool.and_assoc]
  simp only [vmp,↓vmd,seval]
  refine onIf_intro fun _ => ?_
  (first | apply envO | apply envQ); simp only [vmp,↓vmd,seval]; rfl
  simp only [vmp,↓vmd,seval]
  refine onB_dec (fun t1 => ?_) (fun t1 => ?_)
  ·rw [decide_eq_false (show ¬ s.ligs.length = 0 by omega)] at hr
   simp only [bb] at hr
   subst hr
   (first | apply envO | apply envQ); simp only [t1, vmp,↓vmd,seval]; rfl
   simp only [t1, vmp,↓vmd,seval]
   exact gives_pure
  ·rw [decide_eq_true (show s.ligs.length = 0 by omega)] at hr
   simp only [bb] at hr
   (first | apply envO | apply envQ); simp only [t1, vmp,↓vmd,seval]; rfl
   simp only [t1, vmp,↓vmd,seval]
   refine onIf_intro fun _ => ?_
   (first | apply envO | apply envQ); simp only [vmp,↓vmd,seval]; rfl
   simp only [vmp,↓vmd,seval]
   refine onIf_intro fun _ => ?_
   (first | apply envO | apply envQ); simp only [vmp,↓vmd,seval]; rfl
   simp only [vmp,↓vmd,seval]
   refine onB_dec (fun t2 => ?_) (fun t2 => ?_)
   ·rw [decide_eq_false (show ¬ sumE s.inn.length s.nests.length ≤ 0 from Int.not_le.2 t2)] at hr
    simp only [bb] at hr
    subst hr
    (first | apply envO | apply envQ); simp only [t2, vmp,↓vmd,seval]; rfl
    simp only [t2, vmp,↓vmd,seval]
    exact gives_pure
   ·rw [decide_eq_true (show sumE s.inn.length s.nests.length ≤ 0 from Int.not_lt.1 t2)] at hr
    simp only [bb] at hr
    (first | apply envO | apply envQ); simp only [t2, vmp,↓vmd,seval]; rfl
    simp only [t2, vmp,↓vmd,seval]
    refine onIf_intro fun _ => ?_
    (first | apply envO | apply envQ); simp only [vmp,↓vmd,seval]; rfl
    simp only [vmp,↓vmd,seval]
    refine onB_dec (fun t3 => ?_) (fun t3 => ?_)
    ·rw [decide_eq_false (show ¬ s.values.length = 0 by omega)] at hr
     simp only [bb] at hr
     subst hr
     (first | apply envO | apply envQ); simp only [t3, vmp,↓vmd,seval]; rfl
     simp only [t3, vmp,↓vmd,seval]
     exact gives_pure
    ·rw [decide_eq_true (show s.values.length = 0 by omega)] at hr
     simp only [bb] at hr
     (first | apply envO | apply envQ); simp only [t3, vmp,↓vmd,seval]; rfl
     simp only [t3, vmp,↓vmd,seval]
     refine onIf_intro fun _ => ?_
     (first | apply envO | apply envQ); simp only [vmp,↓vmd,seval]; rfl
     simp only [vmp,↓vmd,seval]
     refine onB_dec (fun t4 => ?_) (fun t4 => ?_)
     ·rw [decide_eq_false (show ¬ s.pairs.length = 0 by omega)] at hr
      simp only [bb] at hr
      subst hr
      (first | apply envO | apply envQ); simp only [t4, vmp,↓vmd,seval]; rfl
      simp only [t4, vmp,↓vmd,seval]
      exact gives_pure
     ·rw [decide_eq_true (show s.pairs.length = 0 by omega)] at hr
      simp only [bb] at hr
      (first | apply envO | apply envQ); simp only [t4, vmp,↓vmd,seval]; rfl
      simp only [t4, vmp,↓vmd,seval]
      refine onIf_intro fun _ => ?_
      (first | apply envO | apply envQ); simp only [vmp,↓vmd,seval]; rfl
      simp only [vmp,↓vmd,seval]
      refine onB_dec (fun t5 => ?_) (fun t5 => ?_)
      ·rw [decide_eq_true (show s.curs.length = 0 by omega)] at hr
       simp only [bb] at hr
       (first | apply envO | apply envQ); simp only [t5, vmp,↓vmd,seval]; rfl
       simp only [t5, vmp,↓vmd,seval]
       refine onIf_intro fun _ => ?_
       (first | apply envO | apply envQ); simp only [vmp,↓vmd,seval]; rfl
       simp only [vmp,↓vmd,seval]
       refine onIf_intro fun _ => ?_
       (first | apply envO | apply envQ); simp only [vmp,↓vmd,seval]; rfl
       simp only [vmp,↓vmd,seval]
       rw [hr]
       exact gives_pure
      ·rw [decide_eq_false (show ¬ s.curs.length = 0 by omega)] at hr
       simp only [bb] at hr
       subst hr
       (first | apply envO | apply envQ); simp only [t5, vmp,↓vmd,seval]; rfl
       simp only [t5, vmp,↓vmd,seval]
       exact gives_pure
 by_cases e6 : k = 6
 ·subst e6
  have hr : (decide (s.to.length = 0) && (decide (s.ligs.length = 0) && (decide (sumE s.inn.length s.nests.length ≤ 0) && (decide (sumE s.back.length s.ahead.length ≤ 0) && (decide (s.pairs.length = 0) && (decide (s.curs.length = 0) && decide (sumE s.marks.length s.hosts.length = 0))))))) = out := by rw [← ho]; simp [bareB, kCov, kTo, kRow, kHang, Bool.and_assoc]
  simp only [vmp,↓vmd,seval]
  refine onIf_intro fun _ => ?_
  (first | apply envO | apply envQ); simp only [vmp,↓vmd,seval]; rfl
  simp only [vmp,↓vmd,seval]
  refine onB_dec (fun t1 => ?_) (fun t1 => ?_)
  ·rw [decide_eq_false (show ¬ s.to.length = 0 by omega)] at hr
   simp only [bb] at hr
   subst hr
   (first | apply envO | apply envQ); simp only [t1, vmp,↓vmd,seval]; rfl
   simp only [t1, vmp,↓vmd,seval]
   exact gives_pure
  ·rw [decide_eq_true (show s.to.length = 0 by omega)] at hr
   simp only [bb] at hr
   (first | apply envO | apply envQ); simp only [t1, vmp,↓vmd,seval]; rfl
   simp only [t1, vmp,↓vmd,seval]
   refine onIf_intro fun _ => ?_
   (first | apply envO | apply envQ); simp only [vmp,↓vmd,seval]; rfl
   simp only [vmp,↓vmd,seval]
   refine onB_dec (fun t2 => ?_) (fun t2 => ?_)
   ·rw [decide_eq_false (show ¬ s.ligs.length = 0 by omega)] at hr
    simp only [bb] at hr
    subst hr
    (first | apply envO | apply envQ); simp only [t2, vmp,↓vmd,seval]; rfl
    simp only [t2, vmp,↓vmd,seval]
    exact gives_pure
   ·rw [decide_eq_true (show s.ligs.length = 0 by omega)] at hr
    simp only [bb] at hr
    (first | apply envO | apply envQ); simp only [t2, vmp,↓vmd,seval]; rfl
    simp only [t2, vmp,↓vmd,seval]
    refine onIf_intro fun _ => ?_
    (first | apply envO | apply envQ); simp only [vmp,↓vmd,seval]; rfl
    simp only [vmp,↓vmd,seval]
    refine onIf_intro fun _ => ?_
    (first | apply envO | apply envQ); simp only [vmp,↓vmd,seval]; rfl
    simp only [vmp,↓vmd,seval]
    refine onB_dec (fun t3 => ?_) (fun t3 => ?_)
    ·rw [decide_eq_false (show ¬ sumE s.inn.length s.nests.length ≤ 0 from Int.not_le.2 t3)] at hr
     simp only [bb] at hr
     subst hr
     (first | apply envO | apply envQ); simp only [t3, vmp,↓vmd,seval]; rfl
     simp only [t3, vmp,↓vmd,seval]
     exact gives_pure
    ·rw [decide_eq_true (show sumE s.inn.length s.nests.length ≤ 0 from Int.not_lt.1 t3)] at hr
     simp only [bb] at hr
     (first | apply envO | apply envQ); simp only [t3, vmp,↓vmd,seval]; rfl
     simp only [t3, vmp,↓vmd,seval]
     refine onIf_intro fun _ => ?_
     (first | apply envO | apply envQ); simp only [vmp,↓vmd,seval]; rfl
     simp only [vmp,↓vmd,seval]
     refine onIf_intro fun _ => ?_
     (first | apply envO | apply envQ); simp only [vmp,↓vmd,seval]; rfl
     simp only [vmp,↓vmd,seval]
     refine onB_dec (fun t4 => ?_) (fun t4 => ?_)
     ·rw [decide_eq_false (show ¬ sumE s.back.length s.ahead.length ≤ 0 from Int.not_le.2 t4)] at hr
      simp only [bb] at hr
      subst hr
      (first | apply envO | apply envQ); simp only [t4, vmp,↓vmd,seval]; rfl
      simp only [t4, vmp,↓vmd,seval]
      exact gives_pure
     ·rw [decide_eq_true (show sumE s.back.length s.ahead.length ≤ 0 from Int.not_lt.1 t4)] at hr
      simp only [bb] at hr
      (first | apply envO | apply envQ); simp only [t4, vmp,↓vmd,seval]; rfl
      simp only [t4, vmp,↓vmd,seval]
      refine onIf_intro fun _ => ?_
      (first | apply envO | apply envQ); simp only [vmp,↓vmd,seval]; rfl
      simp only [vmp,↓vmd,seval]
      refine onB_dec (fun t5 => ?_) (fun t5 => ?_)
      ·rw [decide_eq_false (show ¬ s.pairs.length = 0 by omega)] at hr
       simp only [bb] at hr
       subst hr
       (first | apply envO | apply envQ); simp only [t5, vmp,↓vmd,seval]; rfl
       simp only [t5, vmp,↓vmd,seval]
       exact gives_pure
      ·rw [decide_eq_true (show s.pairs.length = 0 by omega)] at hr
       simp only [bb] at hr
       (first | apply envO | apply envQ); simp only [t5, vmp,↓vmd,seval]; rfl
       simp only [t5, vmp,↓vmd,seval]
       refine onIf_intro fun _ => ?_
       (first | apply envO | apply envQ); simp only [vmp,↓vmd,seval]; rfl
       simp only [vmp,↓vmd,seval]
       refine onB_dec (fun t6 => ?_) (fun t6 => ?_)
       ·rw [decide_eq_true (show s.curs.length = 0 by omega)] at hr
        simp only [bb] at hr
        (first | apply envO | apply envQ); simp only [t6, vmp,↓vmd,seval]; rfl
        simp only [t6, vmp,↓vmd,seval]
        refine onIf_intro fun _ => ?_
        (first | apply envO | apply envQ); simp only [vmp,↓vmd,seval]; rfl
        simp only [vmp,↓vmd,seval]
        refine onIf_intro fun _ => ?_
        (first | apply envO | apply envQ); simp only [vmp,↓vmd,seval]; rfl
        simp only [vmp,↓vmd,seval]
        rw [hr]
        exact gives_pure
       ·rw [decide_eq_false (show ¬ s.curs.length = 0 by omega)] at hr
        simp only [bb] at hr
        subst hr
        (first | apply envO | apply envQ); simp only [t6, vmp,↓vmd,seval]; rfl
        simp only [t6, vmp,↓vmd,seval]
        exact gives_pure
 by_cases e7 : k = 7
 ·subst e7
  have hr : (decide (s.cover.length = 0) && (decide (s.to.length = 0) && (decide (s.ligs.length = 0) && (decide (sumE s.inn.length s.nests.length ≤ 0) && (decide (sumE s.back.length s.ahead.length ≤ 0) && (decide (s.values.length = 0) && (decide (s.curs.length = 0) && decide (sumE s.marks.length s.hosts.length = 0)))))))) = out := by rw [← ho]; simp [bareB, kCov, kTo, kRow, kHang, Bool.and_assoc]
  simp only [vmp,↓vmd,seval]
  refine onIf_intro fun _ => ?_
  (first | apply envO | apply envQ); simp only [vmp,↓vmd,seval]; rfl
  simp only [vmp,↓vmd,seval]
  refine onB_dec (fun t1 => ?_) (fun t1 => ?_)
  ·rw [decide_eq_false (show ¬ s.cover.length = 0 by omega)] at hr
   simp only [bb] at hr
   subst hr
   (first | apply envO | apply envQ); simp only [t1, vmp,↓vmd,seval]; rfl
   simp only [t1, vmp,↓vmd,seval]
   exact gives_pure
  ·rw [decide_eq_true (show s.cover.length = 0 by omega)] at hr
   simp only [bb] at hr
   (first | apply envO | apply envQ); simp only [t1, vmp,↓vmd,seval]; rfl
   simp only [t1, vmp,↓vmd,seval]
   refine onIf_intro fun _ => ?_
   (first | apply envO | apply envQ); simp only [vmp,↓vmd,seval]; rfl
   simp only [vmp,↓vmd,seval]
   refine onB_dec (fun t2 => ?_) (fun t2 => ?_)
   ·rw [decide_eq_false (show ¬ s.to.length = 0 by omega)] at hr
    simp only [bb] at hr
    subst hr
    (first | apply envO | apply envQ); simp only [t2, vmp,↓vmd,seval]; rfl
    simp only [t2, vmp,↓vmd,seval]
    exact gives_pure
   ·rw [decide_eq_true (show s.to.length = 0 by omega)] at hr
    simp only [bb] at hr
    (first | apply envO | apply envQ); simp only [t2, vmp,↓vmd,seval]; rfl
    simp only [t2, vmp,↓vmd,seval]
    refine onIf_intro fun _ => ?_
    (first | apply envO | apply envQ); simp only [vmp,↓vmd,seval]; rfl
    simp only [vmp,↓vmd,seval]
    refine onB_dec (fun t3 => ?_) (fun t3 => ?_)
    ·rw [decide_eq_false (show ¬ s.ligs.length = 0 by omega)] at hr
     simp only [bb] at hr
     subst hr
     (first | apply envO | apply envQ); simp only [t3, vmp,↓vmd,seval]; rfl
     simp only [t3, vmp,↓vmd,seval]
     exact gives_pure
    ·rw [decide_eq_true (show s.ligs.length = 0 by omega)] at hr
     simp only [bb] at hr
     (first | apply envO | apply envQ); simp only [t3, vmp,↓vmd,seval]; rfl
     simp only [t3, vmp,↓vmd,seval]
     refine onIf_intro fun _ => ?_
     (first | apply envO | apply envQ); simp only [vmp,↓vmd,seval]; rfl
     simp only [vmp,↓vmd,seval]
     refine onIf_intro fun _ => ?_
     (first | apply envO | apply envQ); simp only [vmp,↓vmd,seval]; rfl
     simp only [vmp,↓vmd,seval]
     refine onB_dec (fun t4 => ?_) (fun t4 => ?_)
     ·rw [decide_eq_false (show ¬ sumE s.inn.length s.nests.length ≤ 0 from Int.not_le.2 t4)] at hr
      simp only [bb] at hr
      subst hr
      (first | apply envO | apply envQ); simp only [t4, vmp,↓vmd,seval]; rfl
      simp only [t4, vmp,↓vmd,seval]
      exact gives_pure
     ·rw [decide_eq_true (show sumE s.inn.length s.nests.length ≤ 0 from Int.not_lt.1 t4)] at hr
      simp only [bb] at hr
      (first | apply envO | apply envQ); simp only [t4, vmp,↓vmd,seval]; rfl
      simp only [t4, vmp,↓vmd,seval]
      refine onIf_intro fun _ => ?_
      (first | apply envO | apply envQ); simp only [vmp,↓vmd,seval]; rfl
      simp only [vmp,↓vmd,seval]
      refine onIf_intro fun _ => ?_
      (first | apply envO | apply envQ); simp only [vmp,↓vmd,seval]; rfl
      simp only [vmp,↓vmd,seval]
      refine onB_dec (fun t5 => ?_) (fun t5 => ?_)
      ·rw [decide_eq_false (show ¬ sumE s.back.length s.ahead.length ≤ 0 from Int.not_le.2 t5)] at hr
       simp only [bb] at hr
       subst hr
       (first | apply envO | apply envQ); simp only [t5, vmp,↓vmd,seval]; rfl
       simp only [t5, vmp,↓vmd,seval]
       exact gives_pure
      ·rw [decide_eq_true (show sumE s.back.length s.ahead.length ≤ 0 from Int.not_lt.1 t5)] at hr
       simp only [bb] at hr
       (first | apply envO | apply envQ); simp only [t5, vmp,↓vmd,seval]; rfl
       simp only [t5, vmp,↓vmd,seval]
       refine onIf_intro fun _ => ?_
       (first | apply envO | apply envQ); simp only [vmp,↓vmd,seval]; rfl
       simp only [vmp,↓vmd,seval]
       refine onB_dec (fun t6 => ?_) (fun t6 => ?_)
       ·rw [decide_eq_false (show ¬ s.values.length = 0 by omega)] at hr
        simp only [bb] at hr
        subst hr
        (first | apply envO | apply envQ); simp only [t6, vmp,↓vmd,seval]; rfl
        simp only [t6, vmp,↓vmd,seval]
        exact gives_pure
       ·rw [decide_eq_true (show s.values.length = 0 by omega)] at hr
        simp only [bb] at hr
        (first | apply envO | apply envQ); simp only [t6, vmp,↓vmd,seval]; rfl
        simp only [t6, vmp,↓vmd,seval]
        refine onIf_intro fun _ => ?_
        (first | apply envO | apply envQ); simp only [vmp,↓vmd,seval]; rfl
        simp only [vmp,↓vmd,seval]
        refine onB_dec (fun t7 => ?_) (fun t7 => ?_)
        ·rw [decide_eq_true (show s.curs.length = 0 by omega)] at hr
         simp only [bb] at hr
         (first | apply envO | apply envQ); simp only [t7, vmp,↓vmd,seval]; rfl
         simp only [t7, vmp,↓vmd,seval]
         refine onIf_intro fun _ => ?_
         (first | apply envO | apply envQ); simp only [vmp,↓vmd,seval]; rfl
         simp only [vmp,↓vmd,seval]
         refine onIf_intro fun _ => ?_
         (first | apply envO | apply envQ); simp only [vmp,↓vmd,seval]; rfl
         simp only [vmp,↓vmd,seval]
         rw [hr]
         exact gives_pure
        ·rw [decide_eq_false (show ¬ s.curs.length = 0 by omega)] at hr
         simp only [bb] at hr
         subst hr
         (first | apply envO | apply envQ); simp only [t7, vmp,↓vmd,seval]; rfl
         simp only [t7, vmp,↓vmd,seval]
         exact gives_pure
 by_cases e8 : k = 8
 ·subst e8
  have hr : (decide (s.cover.length = 0) && (decide (s.to.length = 0) && (decide (s.ligs.length = 0) && (decide (sumE s.inn.length s.nests.length ≤ 0) && (decide (sumE s.back.length s.ahead.length ≤ 0) && (decide (s.values.length = 0) && (decide (s.pairs.length = 0) && decide (sumE s.marks.length s.hosts.length = 0)))))))) = out := by rw [← ho]; simp [bareB, kCov, kTo, kRow, kHang, Bool.and_assoc]
  simp only [vmp,↓vmd,seval]
  refine onIf_intro fun _ => ?_
  (first | apply envO | apply envQ); simp only [vmp,↓vmd,seval]; rfl
  simp only [vmp,↓vmd,seval]
  refine onB_dec (fun t1 => ?_) (fun t1 => ?_)
  ·rw [decide_eq_false (show ¬ s.cover.length = 0 by omega)] at hr
   simp only [bb] at hr
   subst hr
   (first | apply envO | apply envQ); simp only [t1, vmp,↓vmd,seval]; rfl
   simp only [t1, vmp,↓vmd,seval]
   exact gives_pure
  ·rw [decide_eq_true (show s.cover.length = 0 by omega)] at hr
   simp only [bb] at hr
   (first | apply envO | apply envQ); simp only [t1, vmp,↓vmd,seval]; rfl
   simp only [t1, vmp,↓vmd,seval]
   refine onIf_intro fun _ => ?_
   (first | apply envO | apply envQ); simp only [vmp,↓vmd,seval]; rfl
   simp only [vmp,↓vmd,seval]
   refine onB_dec (fun t2 => ?_) (fun t2 => ?_)
   ·rw [decide_eq_false (show ¬ s.to.length = 0 by omega)] at hr
    simp only [bb] at hr
    subst hr
    (first | apply envO | apply envQ); simp only [t2, vmp,↓vmd,seval]; rfl
    simp only [t2, vmp,↓vmd,seval]
    exact gives_pure
   ·rw [decide_eq_true (show s.to.length = 0 by omega)] at hr
    simp only [bb] at hr
    (first | apply envO | apply envQ); simp only [t2, vmp,↓vmd,seval]; rfl
    simp only [t2, vmp,↓vmd,seval]
    refine onIf_intro fun _ => ?_
    (first | apply envO | apply envQ); simp only [vmp,↓vmd,seval]; rfl
    simp only [vmp,↓vmd,seval]
    refine onB_dec (fun t3 => ?_) (fun t3 => ?_)
    ·rw [decide_eq_false (show ¬ s.ligs.length = 0 by omega)] at hr
     simp only [bb] at hr
     subst hr
     (first | apply envO | apply envQ); simp only [t3, vmp,↓vmd,seval]; rfl
     simp only [t3, vmp,↓vmd,seval]
     exact gives_pure
    ·rw [decide_eq_true (show s.ligs.length = 0 by omega)] at hr
     simp only [bb] at hr
     (first | apply envO | apply envQ); simp only [t3, vmp,↓vmd,seval]; rfl
     simp only [t3, vmp,↓vmd,seval]
     refine onIf_intro fun _ => ?_
     (first | apply envO | apply envQ); simp only [vmp,↓vmd,seval]; rfl
     simp only [vmp,↓vmd,seval]
     refine onIf_intro fun _ => ?_
     (first | apply envO | apply envQ); simp only [vmp,↓vmd,seval]; rfl
     simp only [vmp,↓vmd,seval]
     refine onB_dec (fun t4 => ?_) (fun t4 => ?_)
     ·rw [decide_eq_false (show ¬ sumE s.inn.length s.nests.length ≤ 0 from Int.not_le.2 t4)] at hr
      simp only [bb] at hr
      subst hr
      (first | apply envO | apply envQ); simp only [t4, vmp,↓vmd,seval]; rfl
      simp only [t4, vmp,↓vmd,seval]
      exact gives_pure
     ·rw [decide_eq_true (show sumE s.inn.length s.nests.length ≤ 0 from Int.not_lt.1 t4)] at hr
      simp only [bb] at hr
      (first | apply envO | apply envQ); simp only [t4, vmp,↓vmd,seval]; rfl
      simp only [t4, vmp,↓vmd,seval]
      refine onIf_intro fun _ => ?_
      (first | apply envO | apply envQ); simp only [vmp,↓vmd,seval]; rfl
      simp only [vmp,↓vmd,seval]
      refine onIf_intro fun _ => ?_
      (first | apply envO | apply envQ); simp only [vmp,↓vmd,seval]; rfl
      simp only [vmp,↓vmd,seval]
      refine onB_dec (fun t5 => ?_) (fun t5 => ?_)
      ·rw [decide_eq_false (show ¬ sumE s.back.length s.ahead.length ≤ 0 from Int.not_le.2 t5)] at hr
       simp only [bb] at hr
       subst hr
       (first | apply envO | apply envQ); simp only [t5, vmp,↓vmd,seval]; rfl
       simp only [t5, vmp,↓vmd,seval]
       exact gives_pure
      ·rw [decide_eq_true (show sumE s.back.length s.ahead.length ≤ 0 from Int.not_lt.1 t5)] at hr
       simp only [bb] at hr
       (first | apply envO | apply envQ); simp only [t5, vmp,↓vmd,seval]; rfl
       simp only [t5, vmp,↓vmd,seval]
       refine onIf_intro fun _ => ?_
       (first | apply envO | apply envQ); simp only [vmp,↓vmd,seval]; rfl
       simp only [vmp,↓vmd,seval]
       refine onB_dec (fun t6 => ?_) (fun t6 => ?_)
       ·rw [decide_eq_false (show ¬ s.values.length = 0 by omega)] at hr
        simp only [bb] at hr
        subst hr
        (first | apply envO | apply envQ); simp only [t6, vmp,↓vmd,seval]; rfl
        simp only [t6, vmp,↓vmd,seval]
        exact gives_pure
       ·rw [decide_eq_true (show s.values.length = 0 by omega)] at hr
        simp only [bb] at hr
        (first | apply envO | apply envQ); simp only [t6, vmp,↓vmd,seval]; rfl
        simp only [t6, vmp,↓vmd,seval]
        refine onIf_intro fun _ => ?_
        (first | apply envO | apply envQ); simp only [vmp,↓vmd,seval]; rfl
        simp only [vmp,↓vmd,seval]
        refine onB_dec (fun t7 => ?_) (fun t7 => ?_)
        ·rw [decide_eq_false (show ¬ s.pairs.length = 0 by omega)] at hr
         simp only [bb] at hr
         subst hr
         (first | apply envO | apply envQ); simp only [t7, vmp,↓vmd,seval]; rfl
         simp only [t7, vmp,↓vmd,seval]
         exact gives_pure
        ·rw [decide_eq_true (show s.pairs.length = 0 by omega)] at hr
         simp only [bb] at hr
         (first | apply envO | apply envQ); simp only [t7, vmp,↓vmd,seval]; rfl
         simp only [t7, vmp,↓vmd,seval]
         refine onIf_intro fun _ => ?_
         (first | apply envO | apply envQ); simp only [vmp,↓vmd,seval]; rfl
         simp only [vmp,↓vmd,seval]
         refine onIf_intro fun _ => ?_
         (first | apply envO | apply envQ); simp only [vmp,↓vmd,seval]; rfl
         simp only [vmp,↓vmd,seval]
         rw [hr]
         exact gives_pure
 by_cases e9 : k = 9
 ·subst e9
  have hr : (decide (s.cover.length = 0) && (decide (s.to.length = 0) && (decide (s.ligs.length = 0) && (decide (sumE s.inn.length s.nests.length ≤ 0) && (decide (sumE s.back.length s.ahead.length ≤ 0) && (decide (s.values.length = 0) && (decide (s.pairs.length = 0) && decide (s.curs.length = 0)))))))) = out := by rw [← ho]; simp [bareB, kCov, kTo, kRow, kHang, Bool.and_assoc]
  simp only [vmp,↓vmd,seval]
  refine onIf_intro fun _ => ?_
  (first | apply envO | apply envQ); simp only [vmp,↓vmd,seval]; rfl
  simp only [vmp,↓vmd,seval]
  refine onB_dec (fun t1 => ?_) (fun t1 => ?_)
  ·rw [decide_eq_false (show ¬ s.cover.length = 0 by omega)] at hr
   simp only [bb] at hr
   subst hr
   (first | apply envO | apply envQ); simp only [t1, vmp,↓vmd,seval]; rfl
   simp only [t1, vmp,↓vmd,seval]
   exact gives_pure
  ·rw [decide_eq_true (show s.cover.length = 0 by omega)] at hr
   simp only [bb] at hr
   (first | apply envO | apply envQ); simp only [t1, vmp,↓vmd,seval]; rfl
   simp only [t1, vmp,↓vmd,seval]
   refine onIf_intro fun _ => ?_
   (first | apply envO | apply envQ); simp only [vmp,↓vmd,seval]; rfl
   simp only [vmp,↓vmd,seval]
   refine onB_dec (fun t2 => ?_) (fun t2 => ?_)
   ·rw [decide_eq_false (show ¬ s.to.length = 0 by omega)] at hr
    simp only [bb] at hr
    subst hr
    (first | apply envO | apply envQ); simp only [t2, vmp,↓vmd,seval]; rfl
    simp only [t2, vmp,↓vmd,seval]
    exact gives_pure
   ·rw [decide_eq_true (show s.to.length = 0 by omega)] at hr
    simp only [bb] at hr
    (first | apply envO | apply envQ); simp only [t2, vmp,↓vmd,seval]; rfl
    simp only [t2, vmp,↓vmd,seval]
    refine onIf_intro fun _ => ?_
    (first | apply envO | apply envQ); simp only [vmp,↓vmd,seval]; rfl
    simp only [vmp,↓vmd,seval]
    refine onB_dec (fun t3 => ?_) (fun t3 => ?_)
    ·rw [decide_eq_false (show ¬ s.ligs.length = 0 by omega)] at hr
     simp only [bb] at hr
     subst hr
     (first | apply envO | apply envQ); simp only [t3, vmp,↓vmd,seval]; rfl
     simp only [t3, vmp,↓vmd,seval]
     exact gives_pure
    ·rw [decide_eq_true (show s.ligs.length = 0 by omega)] at hr
     simp only [bb] at hr
     (first | apply envO | apply envQ); simp only [t3, vmp,↓vmd,seval]; rfl
     simp only [t3, vmp,↓vmd,seval]
     refine onIf_intro fun _ => ?_
     (first | apply envO | apply envQ); simp only [vmp,↓vmd,seval]; rfl
     simp only [vmp,↓vmd,seval]
     refine onIf_intro fun _ => ?_
     (first | apply envO | apply envQ); simp only [vmp,↓vmd,seval]; rfl
     simp only [vmp,↓vmd,seval]
     refine onB_dec (fun t4 => ?_) (fun t4 => ?_)
     ·rw [decide_eq_false (show ¬ sumE s.inn.length s.nests.length ≤ 0 from Int.not_le.2 t4)] at hr
      simp only [bb] at hr
      subst hr
      (first | apply envO | apply envQ); simp only [t4, vmp,↓vmd,seval]; rfl
      simp only [t4, vmp,↓vmd,seval]
      exact gives_pure
     ·rw [decide_eq_true (show sumE s.inn.length s.nests.length ≤ 0 from Int.not_lt.1 t4)] at hr
      simp only [bb] at hr
      (first | apply envO | apply envQ); simp only [t4, vmp,↓vmd,seval]; rfl
      simp only [t4, vmp,↓vmd,seval]
      refine onIf_intro fun _ => ?_
      (first | apply envO | apply envQ); simp only [vmp,↓vmd,seval]; rfl
      simp only [vmp,↓vmd,seval]
      refine onIf_intro fun _ => ?_
      (first | apply envO | apply envQ); simp only [vmp,↓vmd,seval]; rfl
      simp only [vmp,↓vmd,seval]
      refine onB_dec (fun t5 => ?_) (fun t5 => ?_)
      ·rw [decide_eq_false (show ¬ sumE s.back.length s.ahead.length ≤ 0 from Int.not_le.2 t5)] at hr
       simp only [bb] at hr
       subst hr
       (first | apply envO | apply envQ); simp only [t5, vmp,↓vmd,seval]; rfl
       simp only [t5, vmp,↓vmd,seval]
       exact gives_pure
      ·rw [decide_eq_true (show sumE s.back.length s.ahead.length ≤ 0 from Int.not_lt.1 t5)] at hr
       simp only [bb] at hr
       (first | apply envO | apply envQ); simp only [t5, vmp,↓vmd,seval]; rfl
       simp only [t5, vmp,↓vmd,seval]
       refine onIf_intro fun _ => ?_
       (first | apply envO | apply envQ); simp only [vmp,↓vmd,seval]; rfl
       simp only [vmp,↓vmd,seval]
       refine onB_dec (fun t6 => ?_) (fun t6 => ?_)
       ·rw [decide_eq_false (show ¬ s.values.length = 0 by omega)] at hr
        simp only [bb] at hr
        subst hr
        (first | apply envO | apply envQ); simp only [t6, vmp,↓vmd,seval]; rfl
        simp only [t6, vmp,↓vmd,seval]
        exact gives_pure
       ·rw [decide_eq_true (show s.values.length = 0 by omega)] at hr
        simp only [bb] at hr
        (first | apply envO | apply envQ); simp only [t6, vmp,↓vmd,seval]; rfl
        simp only [t6, vmp,↓vmd,seval]
        refine onIf_intro fun _ => ?_
        (first | apply envO | apply envQ); simp only [vmp,↓vmd,seval]; rfl
        simp only [vmp,↓vmd,seval]
        refine onB_dec (fun t7 => ?_) (fun t7 => ?_)
        ·rw [decide_eq_false (show ¬ s.pairs.length = 0 by omega)] at hr
         simp only [bb] at hr
         subst hr
         (first | apply envO | apply envQ); simp only [t7, vmp,↓vmd,seval]; rfl
         simp only [t7, vmp,↓vmd,seval]
         exact gives_pure
        ·rw [decide_eq_true (show s.pairs.length = 0 by omega)] at hr
         simp only [bb] at hr
         (first | apply envO | apply envQ); simp only [t7, vmp,↓vmd,seval]; rfl
         simp only [t7, vmp,↓vmd,seval]
         refine onIf_intro fun _ => ?_
         (first | apply envO | apply envQ); simp only [vmp,↓vmd,seval]; rfl
         simp only [vmp,↓vmd,seval]
         refine onB_dec (fun t8 => ?_) (fun t8 => ?_)
         ·rw [decide_eq_true (show s.curs.length = 0 by omega)] at hr
          subst hr
          (first | apply envO | apply envQ); simp only [t8, vmp,↓vmd,seval]; rfl
          simp only [t8, vmp,↓vmd,seval]
          exact gives_pure
         ·rw [decide_eq_false (show ¬ s.curs.length = 0 by omega)] at hr
          subst hr
          (first | apply envO | apply envQ); simp only [t8, vmp,↓vmd,seval]; rfl
          simp only [t8, vmp,↓vmd,seval]
          exact gives_pure
 by_cases e10 : k = 10
 ·subst e10
  have hr : (decide (s.cover.length = 0) && (decide (s.to.length = 0) && (decide (s.ligs.length = 0) && (decide (sumE s.inn.length s.nests.length ≤ 0) && (decide (sumE s.back.length s.ahead.length ≤ 0) && (decide (s.values.length = 0) && (decide (s.pairs.length = 0) && decide (s.curs.length = 0)))))))) = out := by rw [← ho]; simp [bareB, kCov, kTo, kRow, kHang, Bool.and_assoc]
  simp only [vmp,↓vmd,seval]
  refine onIf_intro fun _ => ?_
  (first | apply envO | apply envQ); simp only [vmp,↓vmd,seval]; rfl
  simp only [vmp,↓vmd,seval]
  refine onB_dec (fun t1 => ?_) (fun t1 => ?_)
  ·rw [decide_eq_false (show ¬ s.cover.length = 0 by omega)] at hr
   simp only [bb] at hr
   subst hr
   (first | apply envO | apply envQ); simp only [t1, vmp,↓vmd,seval]; rfl
   simp only [t1, vmp,↓vmd,seval]
   exact gives_pure
  ·rw [decide_eq_true (show s.cover.length = 0 by omega)] at hr
   simp only [bb] at hr
   (first | apply envO | apply envQ); simp only [t1, vmp,↓vmd,seval]; rfl
   simp only [t1, vmp,↓vmd,seval]
   refine onIf_intro fun _ => ?_
   (first | apply envO | apply envQ); simp only [vmp,↓vmd,seval]; rfl
   simp only [vmp,↓vmd,seval]
   refine onB_dec (fun t2 => ?_) (fun t2 => ?_)
   ·rw [decide_eq_false (show ¬ s.to.length = 0 by omega)] at hr
    simp only [bb] at hr
    subst hr
    (first | apply envO | apply envQ); simp only [t2, vmp,↓vmd,seval]; rfl
    simp only [t2, vmp,↓vmd,seval]
    exact gives_pure
   ·rw [decide_eq_true (show s.to.length = 0 by omega)] at hr
    simp only [bb] at hr
    (first | apply envO | apply envQ); simp only [t2, vmp,↓vmd,seval]; rfl
    simp only [t2, vmp,↓vmd,seval]
    refine onIf_intro fun _ => ?_
    (first | apply envO | apply envQ); simp only [vmp,↓vmd,seval]; rfl
    simp only [vmp,↓vmd,seval]
    refine onB_dec (fun t3 => ?_) (fun t3 => ?_)
    ·rw [decide_eq_false (show ¬ s.ligs.length = 0 by omega)] at hr
     simp only [bb] at hr
     subst hr
     (first | apply envO | apply envQ); simp only [t3, vmp,↓vmd,seval]; rfl
     simp only [t3, vmp,↓vmd,seval]
     exact gives_pure
    ·rw [decide_eq_true (show s.ligs.length = 0 by omega)] at hr
     simp only [bb] at hr
     (first | apply envO | apply envQ); simp only [t3, vmp,↓vmd,seval]; rfl
     simp only [t3, vmp,↓vmd,seval]
     refine onIf_intro fun _ => ?_
     (first | apply envO | apply envQ); simp only [vmp,↓vmd,seval]; rfl
     simp only [vmp,↓vmd,seval]
     refine onIf_intro fun _ => ?_
     (first | apply envO | apply envQ); simp only [vmp,↓vmd,seval]; rfl
     simp only [vmp,↓vmd,seval]
     refine onB_dec (fun t4 => ?_) (fun t4 => ?_)
     ·rw [decide_eq_false (show ¬ sumE s.inn.length s.nests.length ≤ 0 from Int.not_le.2 t4)] at hr
      simp only [bb] at hr
      subst hr
      (first | apply envO | apply envQ); simp only [t4, vmp,↓vmd,seval]; rfl
      simp only [t4, vmp,↓vmd,seval]
      exact gives_pure
     ·rw [decide_eq_true (show sumE s.inn.length s.nests.length ≤ 0 from Int.not_lt.1 t4)] at hr
      simp only [bb] at hr
      (first | apply envO | apply envQ); simp only [t4, vmp,↓vmd,seval]; rfl
      simp only [t4, vmp,↓vmd,seval]
      refine onIf_intro fun _ => ?_
      (first | apply envO | apply envQ); simp only [vmp,↓vmd,seval]; rfl
      simp only [vmp,↓vmd,seval]
      refine onIf_intro fun _ => ?_
      (first | apply envO | apply envQ); simp only [vmp,↓vmd,seval]; rfl
      simp only [vmp,↓vmd,seval]
      refine onB_dec (fun t5 => ?_) (fun t5 => ?_)
      ·rw [decide_eq_false (show ¬ sumE s.back.length s.ahead.length ≤ 0 from Int.not_le.2 t5)] at hr
       simp only [bb] at hr
       subst hr
       (first | apply envO | apply envQ); simp only [t5, vmp,↓vmd,seval]; rfl
       simp only [t5, vmp,↓vmd,seval]
       exact gives_pure
      ·rw [decide_eq_true (show sumE s.back.length s.ahead.length ≤ 0 from Int.not_lt.1 t5)] at hr
       simp only [bb] at hr
       (first | apply envO | apply envQ); simp only [t5, vmp,↓vmd,seval]; rfl
       simp only [t5, vmp,↓vmd,seval]
       refine onIf_intro fun _ => ?_
       (first | apply envO | apply envQ); simp only [vmp,↓vmd,seval]; rfl
       simp only [vmp,↓vmd,seval]
       refine onB_dec (fun t6 => ?_) (fun t6 => ?_)
       ·rw [decide_eq_false (show ¬ s.values.length = 0 by omega)] at hr
        simp only [bb] at hr
        subst hr
        (first | apply envO | apply envQ); simp only [t6, vmp,↓vmd,seval]; rfl
        simp only [t6, vmp,↓vmd,seval]
        exact gives_pure
       ·rw [decide_eq_true (show s.values.length = 0 by omega)] at hr
        simp only [bb] at hr
        (first | apply envO | apply envQ); simp only [t6, vmp,↓vmd,seval]; rfl
        simp only [t6, vmp,↓vmd,seval]
        refine onIf_intro fun _ => ?_
        (first | apply envO | apply envQ); simp only [vmp,↓vmd,seval]; rfl
        simp only [vmp,↓vmd,seval]
        refine onB_dec (fun t7 => ?_) (fun t7 => ?_)
        ·rw [decide_eq_false (show ¬ s.pairs.length = 0 by omega)] at hr
         simp only [bb] at hr
         subst hr
         (first | apply envO | apply envQ); simp only [t7, vmp,↓vmd,seval]; rfl
         simp only [t7, vmp,↓vmd,seval]
         exact gives_pure
        ·rw [decide_eq_true (show s.pairs.length = 0 by omega)] at hr
         simp only [bb] at hr
         (first | apply envO | apply envQ); simp only [t7, vmp,↓vmd,seval]; rfl
         simp only [t7, vmp,↓vmd,seval]
         refine onIf_intro fun _ => ?_
         (first | apply envO | apply envQ); simp only [vmp,↓vmd,seval]; rfl
         simp only [vmp,↓vmd,seval]
         refine onB_dec (fun t8 => ?_) (fun t8 => ?_)
         ·rw [decide_eq_true (show s.curs.length = 0 by omega)] at hr
          subst hr
          (first | apply envO | apply envQ); simp only [t8, vmp,↓vmd,seval]; rfl
          simp only [t8, vmp,↓vmd,seval]
          exact gives_pure
         ·rw [decide_eq_false (show ¬ s.curs.length = 0 by omega)] at hr
          subst hr
          (first | apply envO | apply envQ); simp only [t8, vmp,↓vmd,seval]; rfl
          simp only [t8, vmp,↓vmd,seval]
          exact gives_pure
 by_cases e11 : k = 11
 ·subst e11
  have hr : (decide (s.cover.length = 0) && (decide (s.to.length = 0) && (decide (s.ligs.length = 0) && (decide (sumE s.inn.length s.nests.length ≤ 0) && (decide (sumE s.back.length s.ahead.length ≤ 0) && (decide (s.values.length = 0) && (decide (s.pairs.length = 0) && decide (s.curs.length = 0)))))))) = out := by rw [← ho]; simp [bareB, kCov, kTo, kRow, kHang, Bool.and_assoc]
  simp only [vmp,↓vmd,seval]
  refine onIf_intro fun _ => ?_
  (first | apply envO | apply envQ); simp only [vmp,↓vmd,seval]; rfl
  simp only [vmp,↓vmd,seval]
  refine onB_dec (fun t1 => ?_) (fun t1 => ?_)
  ·rw [decide_eq_false (show ¬ s.cover.length = 0 by omega)] at hr
   simp only [bb] at hr
   subst hr
   (first | apply envO | apply envQ); simp only [t1, vmp,↓vmd,seval]; rfl
   simp only [t1, vmp,↓vmd,seval]
   exact gives_pure
  ·rw [decide_eq_true (show s.cover.length = 0 by omega)] at hr
   simp only [bb] at hr
   (first | apply envO | apply envQ); simp only [t1, vmp,↓vmd,seval]; rfl
   simp only [t1, vmp,↓vmd,seval]
   refine onIf_intro fun _ => ?_
   (first | apply envO | apply envQ); simp only [vmp,↓vmd,seval]; rfl
   simp only [vmp,↓vmd,seval]
   refine onB_dec (fun t2 => ?_) (fun t2 => ?_)
   ·rw [decide_eq_false (show ¬ s.to.length = 0 by omega)] at hr
    simp only [bb] at hr
    subst hr
    (first | apply envO | apply envQ); simp only [t2, vmp,↓vmd,seval]; rfl
    simp only [t2, vmp,↓vmd,seval]
    exact gives_pure
   ·rw [decide_eq_true (show s.to.length = 0 by omega)] at hr
    simp only [bb] at hr
    (first | apply envO | apply envQ); simp only [t2, vmp,↓vmd,seval]; rfl
    simp only [t2, vmp,↓vmd,seval]
    refine onIf_intro fun _ => ?_
    (first | apply envO | apply envQ); simp only [vmp,↓vmd,seval]; rfl
    simp only [vmp,↓vmd,seval]
    refine onB_dec (fun t3 => ?_) (fun t3 => ?_)
    ·rw [decide_eq_false (show ¬ s.ligs.length = 0 by omega)] at hr
     simp only [bb] at hr
     subst hr
     (first | apply envO | apply envQ); simp only [t3, vmp,↓vmd,seval]; rfl
     simp only [t3, vmp,↓vmd,seval]
     exact gives_pure
    ·rw [decide_eq_true (show s.ligs.length = 0 by omega)] at hr
     simp only [bb] at hr
     (first | apply envO | apply envQ); simp only [t3, vmp,↓vmd,seval]; rfl
     simp only [t3, vmp,↓vmd,seval]
     refine onIf_intro fun _ => ?_
     (first | apply envO | apply envQ); simp only [vmp,↓vmd,seval]; rfl
     simp only [vmp,↓vmd,seval]
     refine onIf_intro fun _ => ?_
     (first | apply envO | apply envQ); simp only [vmp,↓vmd,seval]; rfl
     simp only [vmp,↓vmd,seval]
     refine onB_dec (fun t4 => ?_) (fun t4 => ?_)
     ·rw [decide_eq_false (show ¬ sumE s.inn.length s.nests.length ≤ 0 from Int.not_le.2 t4)] at hr
      simp only [bb] at hr
      subst hr
      (first | apply envO | apply envQ); simp only [t4, vmp,↓vmd,seval]; rfl
      simp only [t4, vmp,↓vmd,seval]
      exact gives_pure
     ·rw [decide_eq_true (show sumE s.inn.length s.nests.length ≤ 0 from Int.not_lt.1 t4)] at hr
      simp only [bb] at hr
      (first | apply envO | apply envQ); simp only [t4, vmp,↓vmd,seval]; rfl
      simp only [t4, vmp,↓vmd,seval]
      refine onIf_intro fun _ => ?_
      (first | apply envO | apply envQ); simp only [vmp,↓vmd,seval]; rfl
      simp only [vmp,↓vmd,seval]
      refine onIf_intro fun _ => ?_
      (first | apply envO | apply envQ); simp only [vmp,↓vmd,seval]; rfl
      simp only [vmp,↓vmd,seval]
      refine onB_dec (fun t5 => ?_) (fun t5 => ?_)
      ·rw [decide_eq_false (show ¬ sumE s.back.length s.ahead.length ≤ 0 from Int.not_le.2 t5)] at hr
       simp only [bb] at hr
       subst hr
       (first | apply envO | apply envQ); simp only [t5, vmp,↓vmd,seval]; rfl
       simp only [t5, vmp,↓vmd,seval]
       exact gives_pure
      ·rw [decide_eq_true (show sumE s.back.length s.ahead.length ≤ 0 from Int.not_lt.1 t5)] at hr
       simp only [bb] at hr
       (first | apply envO | apply envQ); simp only [t5, vmp,↓vmd,seval]; rfl
       simp only [t5, vmp,↓vmd,seval]
       refine onIf_intro fun _ => ?_
       (first | apply envO | apply envQ); simp only [vmp,↓vmd,seval]; rfl
       simp only [vmp,↓vmd,seval]
       refine onB_dec (fun t6 => ?_) (fun t6 => ?_)
       ·rw [decide_eq_false (show ¬ s.values.length = 0 by omega)] at hr
        simp only [bb] at hr
        subst hr
        (first | apply envO | apply envQ); simp only [t6, vmp,↓vmd,seval]; rfl
        simp only [t6, vmp,↓vmd,seval]
        exact gives_pure
       ·rw [decide_eq_true (show s.values.length = 0 by omega)] at hr
        simp only [bb] at hr
        (first | apply envO | apply envQ); simp only [t6, vmp,↓vmd,seval]; rfl
        simp only [t6, vmp,↓vmd,seval]
        refine onIf_intro fun _ => ?_
        (first | apply envO | apply envQ); simp only [vmp,↓vmd,seval]; rfl
        simp only [vmp,↓vmd,seval]
        refine onB_dec (fun t7 => ?_) (fun t7 => ?_)
        ·rw [decide_eq_false (show ¬ s.pairs.length = 0 by omega)] at hr
         simp only [bb] at hr
         subst hr
         (first | apply envO | apply envQ); simp only [t7, vmp,↓vmd,seval]; rfl
         simp only [t7, vmp,↓vmd,seval]
         exact gives_pure
        ·rw [decide_eq_true (show s.pairs.length = 0 by omega)] at hr
         simp only [bb] at hr
         (first | apply envO | apply envQ); simp only [t7, vmp,↓vmd,seval]; rfl
         simp only [t7, vmp,↓vmd,seval]
         refine onIf_intro fun _ => ?_
         (first | apply envO | apply envQ); simp only [vmp,↓vmd,seval]; rfl
         simp only [vmp,↓vmd,seval]
         refine onB_dec (fun t8 => ?_) (fun t8 => ?_)
         ·rw [decide_eq_true (show s.curs.length = 0 by omega)] at hr
          subst hr
          (first | apply envO | apply envQ); simp only [t8, vmp,↓vmd,seval]; rfl
          simp only [t8, vmp,↓vmd,seval]
          exact gives_pure
         ·rw [decide_eq_false (show ¬ s.curs.length = 0 by omega)] at hr
          subst hr
          (first | apply envO | apply envQ); simp only [t8, vmp,↓vmd,seval]; rfl
          simp only [t8, vmp,↓vmd,seval]
          exact gives_pure
 by_cases e12 : k = 12
 ·subst e12
  have hr : (decide (s.cover.length = 0) && (decide (s.to.length = 0) && (decide (s.ligs.length = 0) && (decide (s.values.length = 0) && (decide (s.pairs.length = 0) && (decide (s.curs.length = 0) && decide (sumE s.marks.length s.hosts.length = 0))))))) = out := by rw [← ho]; simp [bareB, kCov, kTo, kRow, kHang, Bool.and_assoc]
  simp only [vmp,↓vmd,seval]
  refine onIf_intro fun _ => ?_
  (first | apply envO | apply envQ); simp only [vmp,↓vmd,seval]; rfl
  simp only [vmp,↓vmd,seval]
  refine onB_dec (fun t1 => ?_) (fun t1 => ?_)
  ·rw [decide_eq_false (show ¬ s.cover.length = 0 by omega)] at hr
   simp only [bb] at hr
   subst hr
   (first | apply envO | apply envQ); simp only [t1, vmp,↓vmd,seval]; rfl
   simp only [t1, vmp,↓vmd,seval]
   exact gives_pure
  ·rw [decide_eq_true (show s.cover.length = 0 by omega)] at hr
   simp only [bb] at hr
   (first | apply envO | apply envQ); simp only [t1, vmp,↓vmd,seval]; rfl
   simp only [t1, vmp,↓vmd,seval]
   refine onIf_intro fun _ => ?_
   (first | apply envO | apply envQ); simp only [vmp,↓vmd,seval]; rfl
   simp only [vmp,↓vmd,seval]
   refine onB_dec (fun t2 => ?_) (fun t2 => ?_)
   ·rw [decide_eq_false (show ¬ s.to.length = 0 by omega)] at hr
    simp only [bb] at hr
    subst hr
    (first | apply envO | apply envQ); simp only [t2, vmp,↓vmd,seval]; rfl
    simp only [t2, vmp,↓vmd,seval]
    exact gives_pure
   ·rw [decide_eq_true (show s.to.length = 0 by omega)] at hr
    simp only [bb] at hr
    (first | apply envO | apply envQ); simp only [t2, vmp,↓vmd,seval]; rfl
    simp only [t2, vmp,↓vmd,seval]
    refine onIf_intro fun _ => ?_
    (first | apply envO | apply envQ); simp only [vmp,↓vmd,seval]; rfl
    simp only [vmp,↓vmd,seval]
    refine onB_dec (fun t3 => ?_) (fun t3 => ?_)
    ·rw [decide_eq_false (show ¬ s.ligs.length = 0 by omega)] at hr
     simp only [bb] at hr
     subst hr
     (first | apply envO | apply envQ); simp only [t3, vmp,↓vmd,seval]; rfl
     simp only [t3, vmp,↓vmd,seval]
     exact gives_pure
    ·rw [decide_eq_true (show s.ligs.length = 0 by omega)] at hr
     simp only [bb] at hr
     (first | apply envO | apply envQ); simp only [t3, vmp,↓vmd,seval]; rfl
     simp only [t3, vmp,↓vmd,seval]
     refine onIf_intro fun _ => ?_
     (first | apply envO | apply envQ); simp only [vmp,↓vmd,seval]; rfl
     simp only [vmp,↓vmd,seval]
     refine onB_dec (fun t4 => ?_) (fun t4 => ?_)
     ·rw [decide_eq_false (show ¬ s.values.length = 0 by omega)] at hr
      simp only [bb] at hr
      subst hr
      (first | apply envO | apply envQ); simp only [t4, vmp,↓vmd,seval]; rfl
      simp only [t4, vmp,↓vmd,seval]
      exact gives_pure
     ·rw [decide_eq_true (show s.values.length = 0 by omega)] at hr
      simp only [bb] at hr
      (first | apply envO | apply envQ); simp only [t4, vmp,↓vmd,seval]; rfl
      simp only [t4, vmp,↓vmd,seval]
      refine onIf_intro fun _ => ?_
      (first | apply envO | apply envQ); simp only [vmp,↓vmd,seval]; rfl
      simp only [vmp,↓vmd,seval]
      refine onB_dec (fun t5 => ?_) (fun t5 => ?_)
      ·rw [decide_eq_false (show ¬ s.pairs.length = 0 by omega)] at hr
       simp only [bb] at hr
       subst hr
       (first | apply envO | apply envQ); simp only [t5, vmp,↓vmd,seval]; rfl
       simp only [t5, vmp,↓vmd,seval]
       exact gives_pure
      ·rw [decide_eq_true (show s.pairs.length = 0 by omega)] at hr
       simp only [bb] at hr
       (first | apply envO | apply envQ); simp only [t5, vmp,↓vmd,seval]; rfl
       simp only [t5, vmp,↓vmd,seval]
       refine onIf_intro fun _ => ?_
       (first | apply envO | apply envQ); simp only [vmp,↓vmd,seval]; rfl
       simp only [vmp,↓vmd,seval]
       refine onB_dec (fun t6 => ?_) (fun t6 => ?_)
       ·rw [decide_eq_true (show s.curs.length = 0 by omega)] at hr
        simp only [bb] at hr
        (first | apply envO | apply envQ); simp only [t6, vmp,↓vmd,seval]; rfl
        simp only [t6, vmp,↓vmd,seval]
        refine onIf_intro fun _ => ?_
        (first | apply envO | apply envQ); simp only [vmp,↓vmd,seval]; rfl
        simp only [vmp,↓vmd,seval]
        refine onIf_intro fun _ => ?_
        (first | apply envO | apply envQ); simp only [vmp,↓vmd,seval]; rfl
        simp only [vmp,↓vmd,seval]
        rw [hr]
        exact gives_pure
       ·rw [decide_eq_false (show ¬ s.curs.length = 0 by omega)] at hr
        simp only [bb] at hr
        subst hr
        (first | apply envO | apply envQ); simp only [t6, vmp,↓vmd,seval]; rfl
        simp only [t6, vmp,↓vmd,seval]
        exact gives_pure
 have hr : (decide (s.cover.length = 0) && (decide (s.to.length = 0) && (decide (s.ligs.length = 0) && (decide (sumE s.inn.length s.nests.length ≤ 0) && (decide (sumE s.back.length s.ahead.length ≤ 0) && (decide (s.values.length = 0) && (decide (s.pairs.length = 0) && (decide (s.curs.length = 0) && decide (sumE s.marks.length s.hosts.length = 0))))))))) = out := by rw [← ho]; simp [bareB, kCov, kTo, kRow, kHang, Bool.and_assoc, e1, e2, e3, e4, e5, e6, e7, e8, e9, e10, e11, e12]
 simp only [e1, e2, e3, e4, e5, e6, e7, e8, e9, e10, e11, e12, vmp,↓vmd,seval]
 refine onIf_intro fun _ => ?_
 (first | apply envO | apply envQ); simp only [vmp,↓vmd,seval]; rfl
 simp only [e1, e2, e3, e4, e5, e6, e7, e8, e9, e10, e11, e12, vmp,↓vmd,seval]
 refine onB_dec (fun t1 => ?_) (fun t1 => ?_)
 ·rw [decide_eq_false (show ¬ s.cover.length = 0 by omega)] at hr
  simp only [bb] at hr
  subst hr
  (first | apply envO | apply envQ); simp only [t1, vmp,↓vmd,seval]; rfl
  simp only [t1, e1, e2, e3, e4, e5, e6, e7, e8, e9, e10, e11, e12, vmp,↓vmd,seval]
  exact gives_pure
 ·rw [decide_eq_true (show s.cover.length = 0 by omega)] at hr
  simp only [bb] at hr
  (first | apply envO | apply envQ); simp only [t1, vmp,↓vmd,seval]; rfl
  simp only [t1, e1, e2, e3, e4, e5, e6, e7, e8, e9, e10, e11, e12, vmp,↓vmd,seval]
  refine onIf_intro fun _ => ?_
  (first | apply envO | apply envQ); simp only [vmp,↓vmd,seval]; rfl
  simp only [e1, e2, e3, e4, e5, e6, e7, e8, e9, e10, e11, e12, vmp,↓vmd,seval]
  refine onB_dec (fun t2 => ?_) (fun t2 => ?_)
  ·rw [decide_eq_false (show ¬ s.to.length = 0 by omega)] at hr
   simp only [bb] at hr
   subst hr
   (first | apply envO | apply envQ); simp only [t2, vmp,↓vmd,seval]; rfl
   simp only [t2, e1, e2, e3, e4, e5, e6, e7, e8, e9, e10, e11, e12, vmp,↓vmd,seval]
   exact gives_pure
  ·rw [decide_eq_true (show s.to.length = 0 by omega)] at hr
   simp only [bb] at hr
   (first | apply envO | apply envQ); simp only [t2, vmp,↓vmd,seval]; rfl
   simp only [t2, e1, e2, e3, e4, e5, e6, e7, e8, e9, e10, e11, e12, vmp,↓vmd,seval]
   refine onIf_intro fun _ => ?_
   (first | apply envO | apply envQ); simp only [vmp,↓vmd,seval]; rfl
   simp only [e1, e2, e3, e4, e5, e6, e7, e8, e9, e10, e11, e12, vmp,↓vmd,seval]
   refine onB_dec (fun t3 => ?_) (fun t3 => ?_)
   ·rw [decide_eq_false (show ¬ s.ligs.length = 0 by omega)] at hr
    simp only [bb] at hr
    subst hr
    (first | apply envO | apply envQ); simp only [t3, vmp,↓vmd,seval]; rfl
    simp only [t3, e1, e2, e3, e4, e5, e6, e7, e8, e9, e10, e11, e12, vmp,↓vmd,seval]
    exact gives_pure
   ·rw [decide_eq_true (show s.ligs.length = 0 by omega)] at hr
    simp only [bb] at hr
    (first | apply envO | apply envQ); simp only [t3, vmp,↓vmd,seval]; rfl
    simp only [t3, e1, e2, e3, e4, e5, e6, e7, e8, e9, e10, e11, e12, vmp,↓vmd,seval]
    refine onIf_intro fun _ => ?_
    (first | apply envO | apply envQ); simp only [vmp,↓vmd,seval]; rfl
    simp only [e1, e2, e3, e4, e5, e6, e7, e8, e9, e10, e11, e12, vmp,↓vmd,seval]
    refine onIf_intro fun _ => ?_
    (first | apply envO | apply envQ); simp only [vmp,↓vmd,seval]; rfl
    simp only [e1, e2, e3, e4, e5, e6, e7, e8, e9, e10, e11, e12, vmp,↓vmd,seval]
    refine onB_dec (fun t4 => ?_) (fun t4 => ?_)
    ·rw [decide_eq_false (show ¬ sumE s.inn.length s.nests.length ≤ 0 from Int.not_le.2 t4)] at hr
     simp only [bb] at hr
     subst hr
     (first | apply envO | apply envQ); simp only [t4, vmp,↓vmd,seval]; rfl
     simp only [t4, e1, e2, e3, e4, e5, e6, e7, e8, e9, e10, e11, e12, vmp,↓vmd,seval]
     exact gives_pure
    ·rw [decide_eq_true (show sumE s.inn.length s.nests.length ≤ 0 from Int.not_lt.1 t4)] at hr
     simp only [bb] at hr
     (first | apply envO | apply envQ); simp only [t4, vmp,↓vmd,seval]; rfl
     simp only [t4, e1, e2, e3, e4, e5, e6, e7, e8, e9, e10, e11, e12, vmp,↓vmd,seval]
     refine onIf_intro fun _ => ?_
     (first | apply envO | apply envQ); simp only [vmp,↓vmd,seval]; rfl
     simp only [e1, e2, e3, e4, e5, e6, e7, e8, e9, e10, e11, e12, vmp,↓vmd,seval]
     refine onIf_intro fun _ => ?_
     (first | apply envO | apply envQ); simp only [vmp,↓vmd,seval]; rfl
     simp only [e1, e2, e3, e4, e5, e6, e7, e8, e9, e10, e11, e12, vmp,↓vmd,seval]
     refine onB_dec (fun t5 => ?_) (fun t5 => ?_)
     ·rw [decide_eq_false (show ¬ sumE s.back.length s.ahead.length ≤ 0 from Int.not_le.2 t5)] at hr
      simp only [bb] at hr
      subst hr
      (first | apply envO | apply envQ); simp only [t5, vmp,↓vmd,seval]; rfl
      simp only [t5, e1, e2, e3, e4, e5, e6, e7, e8, e9, e10, e11, e12, vmp,↓vmd,seval]
      exact gives_pure
     ·rw [decide_eq_true (show sumE s.back.length s.ahead.length ≤ 0 from Int.not_lt.1 t5)] at hr
      simp only [bb] at hr
      (first | apply envO | apply envQ); simp only [t5, vmp,↓vmd,seval]; rfl
      simp only [t5, e1, e2, e3, e4, e5, e6, e7, e8, e9, e10, e11, e12, vmp,↓vmd,seval]
      refine onIf_intro fun _ => ?_
      (first | apply envO | apply envQ); simp only [vmp,↓vmd,seval]; rfl
      simp only [e1, e2, e3, e4, e5, e6, e7, e8, e9, e10, e11, e12, vmp,↓vmd,seval]
      refine onB_dec (fun t6 => ?_) (fun t6 => ?_)
      ·rw [decide_eq_false (show ¬ s.values.length = 0 by omega)] at hr
       simp only [bb] at hr
       subst hr
       (first | apply envO | apply envQ); simp only [t6, vmp,↓vmd,seval]; rfl
       simp only [t6, e1, e2, e3, e4, e5, e6, e7, e8, e9, e10, e11, e12, vmp,↓vmd,seval]
       exact gives_pure
      ·rw [decide_eq_true (show s.values.length = 0 by omega)] at hr
       simp only [bb] at hr
       (first | apply envO | apply envQ); simp only [t6, vmp,↓vmd,seval]; rfl
       simp only [t6, e1, e2, e3, e4, e5, e6, e7, e8, e9, e10, e11, e12, vmp,↓vmd,seval]
       refine onIf_intro fun _ => ?_
       (first | apply envO | apply envQ); simp only [vmp,↓vmd,seval]; rfl
       simp only [e1, e2, e3, e4, e5, e6, e7, e8, e9, e10, e11, e12, vmp,↓vmd,seval]
       refine onB_dec (fun t7 => ?_) (fun t7 => ?_)
       ·rw [decide_eq_false (show ¬ s.pairs.length = 0 by omega)] at hr
        simp only [bb] at hr
        subst hr
        (first | apply envO | apply envQ); simp only [t7, vmp,↓vmd,seval]; rfl
        simp only [t7, e1, e2, e3, e4, e5, e6, e7, e8, e9, e10, e11, e12, vmp,↓vmd,seval]
        exact gives_pure
       ·rw [decide_eq_true (show s.pairs.length = 0 by omega)] at hr
        simp only [bb] at hr
        (first | apply envO | apply envQ); simp only [t7, vmp,↓vmd,seval]; rfl
        simp only [t7, e1, e2, e3, e4, e5, e6, e7, e8, e9, e10, e11, e12, vmp,↓vmd,seval]
        refine onIf_intro fun _ => ?_
        (first | apply envO | apply envQ); simp only [vmp,↓vmd,seval]; rfl
        simp only [e1, e2, e3, e4, e5, e6, e7, e8, e9, e10, e11, e12, vmp,↓vmd,seval]
        refine onB_dec (fun t8 => ?_) (fun t8 => ?_)
        ·rw [decide_eq_true (show s.curs.length = 0 by omega)] at hr
         simp only [bb] at hr
         (first | apply envO | apply envQ); simp only [t8, vmp,↓vmd,seval]; rfl
         simp only [t8, e1, e2, e3, e4, e5, e6, e7, e8, e9, e10, e11, e12, vmp,↓vmd,seval]
         refine onIf_intro fun _ => ?_
         (first | apply envO | apply envQ); simp only [vmp,↓vmd,seval]; rfl
         simp only [e1, e2, e3, e4, e5, e6, e7, e8, e9, e10, e11, e12, vmp,↓vmd,seval]
         refine onIf_intro fun _ => ?_
         (first | apply envO | apply envQ); simp only [vmp,↓vmd,seval]; rfl
         simp only [e1, e2, e3, e4, e5, e6, e7, e8, e9, e10, e11, e12, vmp,↓vmd,seval]
         rw [hr]
         exact gives_pure
        ·rw [decide_eq_false (show ¬ s.curs.length = 0 by omega)] at hr
         simp only [bb] at hr
         subst hr
         (first | apply envO | apply envQ); simp only [t8, vmp,↓vmd,seval]; rfl
         simp only [t8, e1, e2, e3, e4, e5, e6, e7, e8, e9, e10, e11, e12, vmp,↓vmd,seval]
         exact gives_pure
end Go.Proofs.YtcjmkpkhjhjepaaGreat.W
