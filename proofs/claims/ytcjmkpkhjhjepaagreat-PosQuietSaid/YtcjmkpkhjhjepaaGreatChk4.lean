/-
  What a font may be: the document's functions, of marks and subtables. No condition.
-/
import Derived.Test.YtcjmkpkhjhjepaaGreatChk3
namespace Go.Proofs.YtcjmkpkhjhjepaaGreat.W
open Go Go.Vm Go.Proofs
set_option maxRecDepth 100000
set_option linter.unusedSimpArgs false
set_option maxHeartbeats 4000000
/-! typecase/typecaseref21.marks -/
def c71_0 : AC :=
 (.seq (.reg [oo 6 (.mov (nB true))])
 .ret)
def c71_1 : AC :=
 (.reg [oo 74 (.mov (.s 9)),
 oo 75 (.bin .add (.s 74) (nI 1)),
 oo 9 (.mov (.s 75))])
def c71_2 : AC :=
 (.reg [oo 118 (.mov (.s 12)),
 oo 119 (.bin .add (.s 118) (nI 1)),
 oo 12 (.mov (.s 119))])
def c71_3 : AC :=
 (.seq (.seq (.reg [oo 127 (.mov (.s 13)),
 oo 128 (.fldA 1 (.s 10)),
 oo 129 (.load false 1 (.s 128)),
 oo 130 (.mov (.s 12)),
 oo 131 (.idxA 1 (.s 129) (.s 130)),
 oo 132 (.load false 1 (.s 131)),
 oo 133 (.len (.s 132)),
 oo 134 (.bin .lss (.s 127) (.s 133))])
 (.cond (.s 134)
 .skip
 (.exit 6)))
 (.seq (.block 7
 (.seq (.regq [oo 137 (.fldA 1 (.s 10)),
 oo 138 (.load false 1 (.s 137)),
 oo 139 (.mov (.s 12)),
 oo 140 (.idxA 1 (.s 138) (.s 139)),
 oo 141 (.load false 1 (.s 140)),
 oo 142 (.mov (.s 13)),
 oo 143 (.idxA 3 (.s 141) (.s 142)),
 oo 144 (.fldA 1 (.s 143)),
 oo 145 (.load true 2 (.s 144)),
 oo 146 (.fldA 1 (.s 10)),
 oo 147 (.load false 1 (.s 146)),
 oo 148 (.mov (.s 12)),
 oo 149 (.idxA 1 (.s 147) (.s 148)),
 oo 150 (.load false 1 (.s 149)),
 oo 151 (.mov (.s 13)),
 oo 152 (.idxA 3 (.s 150) (.s 151)),
 oo 153 (.fldA 0 (.s 152)),
 oo 154 (.load false 1 (.s 153))]
[oo 155 (.call 100 [(.s 145), (.s 154)]),
 oo 156 (.un .not (.s 155))])
 (.cond (.s 156)
 (.seq (.reg [oo 6 (.mov (nB false))])
 .ret)
 .skip)))
 (.reg [oo 135 (.mov (.s 13)),
 oo 136 (.bin .add (.s 135) (nI 1)),
 oo 13 (.mov (.s 136))])))
def c71_4 : AC :=
 (.seq (.seq (.reg [oo 113 (.mov (.s 12)),
 oo 114 (.fldA 1 (.s 10)),
 oo 115 (.load false 1 (.s 114)),
 oo 116 (.len (.s 115)),
 oo 117 (.bin .lss (.s 113) (.s 116))])
 (.cond (.s 117)
 .skip
 (.exit 4)))
 (.seq (.block 5
 (.seq (.seq (.reg [oo 120 (.fldA 1 (.s 10)),
 oo 121 (.load false 1 (.s 120)),
 oo 122 (.mov (.s 12)),
 oo 123 (.idxA 1 (.s 121) (.s 122)),
 oo 124 (.load false 1 (.s 123)),
 oo 125 (.len (.s 124)),
 oo 126 (.bin .gtr (.s 125) (nI 16))])
 (.cond (.s 126)
 (.seq (.reg [oo 6 (.mov (nB false))])
 .ret)
 .skip))
 (.seq (.reg [oo 13 (.mov (nI 0))])
 (.block 6
 (.loop c71_3)))))
 c71_2))
def c71_5 : AC :=
 (.seq (.seq (.reg [oo 69 (.mov (.s 9)),
 oo 70 (.fldA 11 (.s 5)),
 oo 71 (.load false 1 (.s 70)),
 oo 72 (.len (.s 71)),
 oo 73 (.bin .lss (.s 69) (.s 72))])
 (.cond (.s 73)
 .skip
 (.exit 2)))
 (.seq (.block 3
 (.seq (.reg [oo 76 (.fldA 11 (.s 5)),
 oo 77 (.load false 1 (.s 76)),
 oo 78 (.mov (.s 9)),
 oo 79 (.idxA 2 (.s 77) (.s 78)),
 oo 80 (.load true 2 (.s 79)),
 oo 10 (.box (.c (.agg [(pI 0), .empty]))),
⟨none, none, .store 2 (.s 10) (.s 80)⟩])
 (.seq (.reg [oo 11 (.mov (nI 1))])
 (.seq (.seq (.reg [oo 81 (.fldA 0 (.s 4)),
 oo 82 (.load false 1 (.s 81)),
 oo 83 (.bin .eql (.s 82) (nI 10))])
 (.cond (.s 83)
 (.reg [oo 11 (.mov (nI 16))])
 .skip))
 (.seq (.seq (.regq [oo 84 (.load true 6 (.s 3)),
 oo 85 (.fldA 0 (.s 10)),
 oo 86 (.load false 1 (.s 85)),
 oo 87 (.call 42 [(.s 84), (.s 86)]),
 oo 88 (.un .not (.s 87)),
 oo 89 (.mov (.s 88)),
 og 90 89 false (.fldA 1 (.s 10)),
 og 91 89 false (.load false 1 (.s 90)),
 og 92 89 false (.len (.s 91)),
 og 93 89 false (.mov (.s 11)),
 og 94 89 false (.call 38 [(.s 92), (nI 1), (.s 93)]),
 og 95 89 false (.un .not (.s 94)),
 oo 96 (.pick (.s 89) (nB true) (.s 95)),
 oo 97 (.mov (.s 96)),
 og 98 97 false (.mov (.s 9)),
 og 99 97 false (.bin .gtr (.s 98) (nI 0)),
 og 100 97 false (.mov (.s 99)),
 og 101 100 true (.fldA 0 (.s 10)),
 og 102 100 true (.load false 1 (.s 101)),
 og 103 100 true (.fldA 11 (.s 5)),
 og 104 100 true (.load false 1 (.s 103)),
 og 105 100 true (.mov (.s 9)),
 og 106 100 true (.bin .sub (.s 105) (nI 1)),
 og 107 100 true (.idxA 2 (.s 104) (.s 106)),
 og 108 100 true (.fldA 0 (.s 107)),
 og 109 100 true (.load false 1 (.s 108))]
[og 110 100 true (.bin .leq (.s 102) (.s 109)),
 og 111 97 false (.pick (.s 100) (.s 110) (nB false)),
 oo 112 (.pick (.s 97) (nB true) (.s 111))])
 (.cond (.s 112)
 (.seq (.reg [oo 6 (.mov (nB false))])
 .ret)
 .skip))
 (.seq (.reg [oo 12 (.mov (nI 0))])
 (.block 4
 (.loop c71_4))))))))
 c71_1))
def c71_6 : AC :=
 (.seq (.seq (.reg [oo 9 (.mov (nI 0))])
 (.block 2
 (.loop c71_5)))
 c71_0)
def c71_7 : AC :=
 (.seq (.seq (.reg [oo 24 (.mov (.s 7)),
 oo 25 (.fldA 10 (.s 5)),
 oo 26 (.load false 1 (.s 25)),
 oo 27 (.len (.s 26)),
 oo 28 (.bin .lss (.s 24) (.s 27))])
 (.cond (.s 28)
 .skip
 (.exit 0)))
 (.seq (.block 1
 (.seq (.reg [oo 31 (.fldA 10 (.s 5)),
 oo 32 (.load false 1 (.s 31)),
 oo 33 (.mov (.s 7)),
 oo 34 (.idxA 4 (.s 32) (.s 33)),
 oo 35 (.load true 4 (.s 34)),
 oo 8 (.box (.c (.pure (.agg [(.int .i64 0), (.int .i64 0), (.int .i64 0), (.int .i64 0)])))),
⟨none, none, .store 4 (.s 8) (.s 35)⟩])
 (.seq (.regq [oo 36 (.load true 6 (.s 3)),
 oo 37 (.fldA 0 (.s 8)),
 oo 38 (.load false 1 (.s 37)),
 oo 39 (.call 42 [(.s 36), (.s 38)]),
 oo 40 (.un .not (.s 39)),
 oo 41 (.mov (.s 40)),
 og 42 41 false (.fldA 1 (.s 8)),
 og 43 41 false (.load false 1 (.s 42)),
 og 44 41 false (.call 38 [(.s 43), (nI 0), (nI 15)]),
 og 45 41 false (.un .not (.s 44)),
 oo 46 (.pick (.s 41) (nB true) (.s 45)),
 oo 47 (.mov (.s 46)),
 og 48 47 false (.fldA 2 (.s 8)),
 og 49 47 false (.load true 2 (.s 48)),
 og 50 47 false (.call 100 [(.s 49), (nB true)]),
 og 51 47 false (.un .not (.s 50)),
 oo 52 (.pick (.s 47) (nB true) (.s 51)),
 oo 53 (.mov (.s 52)),
 og 54 53 false (.mov (.s 7)),
 og 55 53 false (.bin .gtr (.s 54) (nI 0)),
 og 56 53 false (.mov (.s 55)),
 og 57 56 true (.fldA 0 (.s 8)),
 og 58 56 true (.load false 1 (.s 57)),
 og 59 56 true (.fldA 10 (.s 5)),
 og 60 56 true (.load false 1 (.s 59)),
 og 61 56 true (.mov (.s 7)),
 og 62 56 true (.bin .sub (.s 61) (nI 1)),
 og 63 56 true (.idxA 4 (.s 60) (.s 62)),
 og 64 56 true (.fldA 0 (.s 63)),
 og 65 56 true (.load false 1 (.s 64))]
[og 66 56 true (.bin .leq (.s 58) (.s 65)),
 og 67 53 false (.pick (.s 56) (.s 66) (nB false)),
 oo 68 (.pick (.s 53) (nB true) (.s 67))])
 (.cond (.s 68)
 (.seq (.reg [oo 6 (.mov (nB false))])
 .ret)
 .skip))))
 (.reg [oo 29 (.mov (.s 7)),
 oo 30 (.bin .add (.s 29) (nI 1)),
 oo 7 (.mov (.s 30))])))
def c71 : AC :=
 (.seq (.reg [oo 3 (.box (.s 0)),
 oo 4 (.box (.s 1)),
 oo 5 (.box (.s 2)),
 oo 6 (.mov (nB false))])
 (.seq (.seq (.reg [oo 14 (.fldA 10 (.s 5)),
 oo 15 (.load false 1 (.s 14)),
 oo 16 (.len (.s 15)),
 oo 17 (.bin .gtr (.s 16) (nI 4096)),
 oo 18 (.mov (.s 17)),
 og 19 18 false (.fldA 11 (.s 5)),
 og 20 18 false (.load false 1 (.s 19)),
 og 21 18 false (.len (.s 20)),
 og 22 18 false (.bin .gtr (.s 21) (nI 4096)),
 oo 23 (.pick (.s 18) (nB true) (.s 22))])
 (.cond (.s 23)
 (.seq (.reg [oo 6 (.mov (nB false))])
 .ret)
 .skip))
 (.seq (.seq (.reg [oo 7 (.mov (nI 0))])
 (.block 0
 (.loop c71_7)))
 c71_6)))
theorem k71 : OkF 71 Tryz.f71 c71 [.t 6] 157 := ⟨Tryz.func71, by kernel_rfl, by kernel_rfl, by kernel_rfl, Tryz.ntmps71⟩
theorem marks21_q (F : Ff) (k : Lk) (s : Sub) : FnQ Tryz.prog 71 [ffV F, lk k, sub s] [.bool (marksB F k s)] := by
 refine k71.q (by simp) ?_
 unfold c71
 obtain ⟨most, hmost⟩ : ∃ m, m = mostF k := ⟨_, rfl⟩
 have hr : (decide (s.marks.length ≤ 4096) && decide (s.hosts.length ≤ 4096) && allFrom (markB F s.marks) s.marks.length 0 && allFrom (hostB F most s.hosts) s.hosts.length 0) = marksB F k s := by rw [hmost]; rfl
 generalize marksB F k s = out at *
 simp only [vmp,↓vmd,seval]
 refine onIf_intro fun _ => ?_
 (first | apply envO | apply envQ); simp only [vmp,↓vmd,seval]; rfl
 simp only [vmp,↓vmd,seval]
 refine onB_dec (fun h1 => ?_) (fun h1 => ?_)
 ·rw [decide_eq_false (show ¬ s.marks.length ≤ 4096 by omega)] at hr
  simp only [bb] at hr
  subst hr
  (first | apply envO | apply envQ); simp only [h1, vmp,↓vmd,seval]; rfl
  simp only [h1, vmp,↓vmd,seval]
  exact gives_pure
 ·rw [decide_eq_true (show s.marks.length ≤ 4096 by omega)] at hr
  simp only [bb] at hr
  (first | apply envO | apply envQ); simp only [h1, vmp,↓vmd,seval]; rfl
  simp only [h1, vmp,↓vmd,seval]
  refine onIf_intro fun _ => ?_
  (first | apply envO | apply envQ); simp only [vmp,↓vmd,seval]; rfl
  simp only [h1, vmp,↓vmd,seval]
  refine onB_dec (fun h2 => ?_) (fun h2 => ?_)
  ·rw [decide_eq_false (show ¬ s.hosts.length ≤ 4096 by omega)] at hr
   simp only [bb] at hr
   subst hr
   (first | apply envO | apply envQ); simp only [h2, vmp,↓vmd,seval]; rfl
   simp only [h2, vmp,↓vmd,seval]
   exact gives_pure
  ·rw [decide_eq_true (show s.hosts.length ≤ 4096 by omega)] at hr
   simp only [bb] at hr
   (first | apply envO | apply envQ); simp only [h2, vmp,↓vmd,seval]; rfl
   simp only [h2, vmp,↓vmd,seval]
   refine loop_at (T := Nat) (fun i => [(7, .pure (I (i : Int))), (3, .ptr 0 0 0), (4, .ptr 1 0 0), (5, .ptr 2 0 0)]) (fun _ => [⟨[.pure (ffV F)], 6, .live⟩, ⟨[.pure (lk k)], 4, .live⟩, ⟨[.pure (sub s)], 12, .live⟩]) (fun i => i ≤ s.marks.length ∧ (allFrom (markB F s.marks) (s.marks.length - i) i && allFrom (hostB F most s.hosts) s.hosts.length 0) = out) (fun i => s.marks.length - i)
    0 [0, 1, 2] (by simp) rfl ⟨by simp, hr⟩ (by simp only [kpp,seval]) (by simp only [kpp,seval]) ?_
   rintro i ⟨hi, hr⟩
   unfold c71_7
   simp only [vmp,↓vmd,seval]
   refine onIf_intro fun _ => ?_
   (first | apply envO | apply envQ); simp only [vmp,↓vmd,seval]; rfl
   simp only [vmp,↓vmd,seval]
   refine onB_dec (fun h1 => ?_) (fun h1 => ?_)
   ·have hlt : i < s.marks.length := by omega
    rw [allFrom_step hlt, markB] at hr
    have hgi : (s.marks.map mk)[i]? = some (mk (mkAt s.marks i)) := mkAt_eq hlt
    simp only [h1, hgi, Int.natCast_nonneg, vmp,↓vmd,seval]
    refine onQ_q (there_q F (mkAt s.marks i).glyph) rfl ?_
    generalize thereB F (mkAt s.marks i).glyph = b at *
    cases b with
    | false =>
     simp only [bb] at hr
     subst hr
     (first | apply envO | apply envQ); simp only [vmp,↓vmd,seval]; rfl
     simp only [vmp,↓vmd,seval]
     exact gives_pure
    | true =>
     simp only [bb] at hr
     (first | apply envO | apply envQ); simp only [vmp,↓vmd,seval]; rfl
     simp only [vmp,↓vmd,seval]
     refine onQ_q (within_q (mkAt s.marks i).cls 0 15) rfl ?_
     generalize withB (mkAt s.marks i).cls 0 15 = b at *
     cases b with
     | false =>
      simp only [bb] at hr
      subst hr
      (first | apply envO | apply envQ); simp only [vmp,↓vmd,seval]; rfl
      simp only [vmp,↓vmd,seval]
      exact gives_pure
     | true =>
      simp only [bb] at hr
      (first | apply envO | apply envQ); simp only [vmp,↓vmd,seval]; rfl
      simp only [vmp,↓vmd,seval]
      refine onQ_q (anchor21_q (mkAt s.marks i).x (mkAt s.marks i).y true) rfl ?_
      generalize anchorB (mkAt s.marks i).x (mkAt s.marks i).y true = b at *
      cases b with
      | false =>
       simp only [bb] at hr
       subst hr
       (first | apply envO | apply envQ); simp only [vmp,↓vmd,seval]; rfl
       simp only [vmp,↓vmd,seval]
       exact gives_pure
      | true =>
       simp only [bb] at hr
       (first | apply envO | apply envQ); simp only [vmp,↓vmd,seval]; rfl
       simp only [vmp,↓vmd,seval]
       by_cases h2 : i = 0
       ·have h2' : ¬ (0 : Int) < (i : Int) := by omega
        rw [decide_eq_true h2] at hr
        simp only [bb] at hr
        refine onB_neg h2' ?_
        (first | apply envO | apply envQ); simp only [h2', vmp,↓vmd,seval]; rfl
        simp only [vmp,↓vmd,seval]
        refine onBk_to (i + 1) [0, 1, 2] (by simp) rfl (by omega) ⟨hlt, hr⟩ (by simp only [next_at hlt (by omega), kpp,seval]) (by simp only [kpp,seval])
       ·have h2' : (0 : Int) < (i : Int) := by omega
        rw [decide_eq_false h2] at hr
        simp only [bb] at hr
        have hgp : (s.marks.map mk)[i - 1]? = some (mk (mkAt s.marks (i - 1))) := mkAt_eq (by omega)
        have hw : IntKind.wrap .i64 ((i : Int) - 1) = ((i - 1 : Nat) : Int) := by rw [wrap_id (by omega) (by omega)]; omega
        refine onB_pos h2' ?_
        (first | apply envO | apply envQ); simp only [h2', vmp,↓vmd,seval]; rfl
        simp only [hw, hgp, Int.natCast_nonneg, Int.toNat_natCast, vmp,↓vmd,seval]
        refine onB_dec (fun h3 => ?_) (fun h3 => ?_)
        ·rw [decide_eq_false (show ¬ (mkAt s.marks (i - 1)).glyph < (mkAt s.marks i).glyph by omega)] at hr
         simp only [bb] at hr
         subst hr
         simp only [h3, vmp,↓vmd,seval]
         exact gives_pure
        ·rw [decide_eq_true (show (mkAt s.marks (i - 1)).glyph < (mkAt s.marks i).glyph by omega)] at hr
         simp only [bb] at hr
         simp only [h3, vmp,↓vmd,seval]
         refine onBk_to (i + 1) [0, 1, 2] (by simp) rfl (by omega) ⟨hlt, hr⟩ (by simp only [next_at hlt (by omega), kpp,seval]) (by simp only [kpp,seval])
   ·rw [allFrom_end (by omega), Bool.true_and] at hr
    simp only [h1, vmp,↓vmd,seval]
    unfold c71_6
    simp only [vmp,↓vmd,seval]
    have hr : allFrom (hostB F most s.hosts) (s.hosts.length - 0) 0 = out := hr
    refine loop_at (T := Nat) (fun i => [(9, .pure (I (i : Int))), (3, .ptr 0 0 0), (4, .ptr 1 0 0), (5, .ptr 2 0 0)]) (fun _ => [⟨[.pure (ffV F)], 6, .live⟩, ⟨[.pure (lk k)], 4, .live⟩, ⟨[.pure (sub s)], 12, .live⟩]) (fun i => i ≤ s.hosts.length ∧ allFrom (hostB F most s.hosts) (s.hosts.length - i) i = out) (fun i => s.hosts.length - i)
     0 [0, 1, 2] (by simp) rfl ⟨by simp, hr⟩ (by simp only [kpp,seval]) (by simp only [kpp,seval]) ?_
    rintro i ⟨hi, hr⟩
    unfold c71_5
    simp only [vmp,↓vmd,seval]
    refine onIf_intro fun _ => ?_
    (first | apply envO | apply envQ); simp only [vmp,↓vmd,seval]; rfl
    simp only [vmp,↓vmd,seval]
    refine onB_dec (fun h1 => ?_) (fun h1 => ?_)
    ·have hlt : i < s.hosts.length := by omega
     rw [allFrom_step hlt, hostB] at hr
     have hgi : (s.hosts.map ho)[i]? = some (ho (hoAt s.hosts i)) := hoAt_eq hlt
     generalize hh : hoAt s.hosts i = h at hr hgi
     simp only [h1, hgi, Int.natCast_nonneg, vmp,↓vmd,seval]
     refine onB_dec (fun hk => ?_) (fun hk => ?_)
     ·have hN : most = 16 := by rw [hmost, mostF, if_pos hk]
      rw [hN] at hr
      simp only [hk, vmp,↓vmd,seval]
      refine onQ_q (there_q F h.glyph) rfl ?_
      generalize thereB F h.glyph = b at *
      cases b with
      | false =>
       simp only [bb] at hr
       subst hr
       (first | apply envO | apply envQ); simp only [vmp,↓vmd,seval]; rfl
       simp only [vmp,↓vmd,seval]
       exact gives_pure
      | true =>
       simp only [bb] at hr
       (first | apply envO | apply envQ); simp only [vmp,↓vmd,seval]; rfl
       simp only [vmp,↓vmd,seval]
       refine onQ_q (within_q h.spots.length 1 16) rfl ?_
       generalize withB h.spots.length 1 16 = b at *
       cases b with
       | false =>
        simp only [bb] at hr
        subst hr
        (first | apply envO | apply envQ); simp only [vmp,↓vmd,seval]; rfl
        simp only [vmp,↓vmd,seval]
        exact gives_pure
       | true =>
        simp only [bb] at hr
        (first | apply envO | apply envQ); simp only [vmp,↓vmd,seval]; rfl
        simp only [vmp,↓vmd,seval]
        by_cases h2 : i = 0
        ·have h2' : ¬ (0 : Int) < (i : Int) := by omega
         rw [decide_eq_true h2] at hr
         simp only [bb] at hr
         refine onB_neg h2' ?_
         (first | apply envO | apply envQ); simp only [h2', vmp,↓vmd,seval]; rfl
         simp only [vmp,↓vmd,seval]
         rw [← hN] at hr
         refine loop_at (T := Nat) (fun a => [(12, .pure (I (a : Int))), (9, .pure (I (i : Int))), (3, .ptr 0 0 0), (4, .ptr 1 0 0), (5, .ptr 2 0 0), (10, .ptr 3 0 0)]) (fun _ => [⟨[.pure (ffV F)], 6, .live⟩, ⟨[.pure (lk k)], 4, .live⟩, ⟨[.pure (sub s)], 12, .live⟩, ⟨[.pure (ho h)], 2, .live⟩])
          (fun a => a ≤ h.spots.length ∧ ((h.spots.drop a).all spotsB && allFrom (hostB F most s.hosts) (s.hosts.length - (i + 1)) (i + 1)) = out) (fun a => h.spots.length - a)
          0 [0, 1, 2, 3] (by simp) rfl ⟨by simp, hr⟩ (by simp only [kpp,seval]) (by simp only [kpp,seval]) ?_
         rintro a ⟨ha, ht⟩
         unfold c71_4
         simp only [vmp,↓vmd,seval]
         refine onIf_intro fun _ => ?_
         (first | apply envO | apply envQ); simp only [vmp,↓vmd,seval]; rfl
         simp only [vmp,↓vmd,seval]
         refine onB_dec (fun h6 => ?_) (fun h6 => ?_)
         ·have hla : a < h.spots.length := by omega
          rw [drop_at hla, List.all_cons] at ht
          have hgx : (h.spots.map spr)[a]? = some (spr h.spots[a]) := map_at hla
          generalize h.spots[a] = x at ht hgx
          rw [spotsB] at ht
          simp only [h6, hgx, Int.natCast_nonneg, vmp,↓vmd,seval]
          refine onIf_intro fun _ => ?_
          (first | apply envO | apply envQ); simp only [vmp,↓vmd,seval]; rfl
          simp only [vmp,↓vmd,seval]
          refine onB_dec (fun h7 => ?_) (fun h7 => ?_)
          ·rw [decide_eq_false (show ¬ x.length ≤ 16 by omega)] at ht
           simp only [bb] at ht
           subst ht
           simp only [h7, vmp,↓vmd,seval]
           exact gives_pure
          ·rw [decide_eq_true (show x.length ≤ 16 by omega)] at ht
           simp only [bb] at ht
           simp only [h7, vmp,↓vmd,seval]
           refine loop_at (T := Nat) (fun b => [(13, .pure (I (b : Int))), (12, .pure (I (a : Int))), (9, .pure (I (i : Int))), (3, .ptr 0 0 0), (4, .ptr 1 0 0), (5, .ptr 2 0 0), (10, .ptr 3 0 0)]) (fun _ => [⟨[.pure (ffV F)], 6, .live⟩, ⟨[.pure (lk k)], 4, .live⟩, ⟨[.pure (sub s)], 12, .live⟩, ⟨[.pure (ho h)], 2, .live⟩])
            (fun b => b ≤ x.length ∧ (((x.drop b).all fun s => anchorB s.x s.y s.has) && (h.spots.drop (a + 1)).all spotsB && allFrom (hostB F most s.hosts) (s.hosts.length - (i + 1)) (i + 1)) = out) (fun b => x.length - b)
            0 [0, 1, 2, 3] (by simp) rfl ⟨by simp, ht⟩ (by simp only [kpp,seval]) (by simp only [kpp,seval]) ?_
           rintro b ⟨hb, hu⟩
           unfold c71_3
           simp only [hgx, Int.natCast_nonneg, vmp,↓vmd,seval]
           refine onIf_intro fun _ => ?_
           (first | apply envO | apply envQ); simp only [vmp,↓vmd,seval]; rfl
           simp only [vmp,↓vmd,seval]
           refine onB_dec (fun h8 => ?_) (fun h8 => ?_)
           ·have hlb : b < x.length := by omega
            rw [drop_at hlb, List.all_cons] at hu
            have hgb : (x.map spt)[b]? = some (spt x[b]) := map_at hlb
            generalize x[b] = z at hu hgb
            simp only [h8, hgx, hgb, Int.natCast_nonneg, vmp,↓vmd,seval]
            refine onC_q (anchor21_q z.x z.y z.has) rfl ?_
            generalize anchorB z.x z.y z.has = b at *
            cases b with
            | false =>
             simp only [bb] at hu
             subst hu
             (first | apply envO | apply envQ); simp only [vmp,↓vmd,seval]; rfl
             simp only [vmp,↓vmd,seval]
             exact gives_pure
            | true =>
             simp only [bb] at hu
             (first | apply envO | apply envQ); simp only [vmp,↓vmd,seval]; rfl
             simp only [vmp,↓vmd,seval]
             refine onBk_to (b + 1) [0, 1, 2, 3] (by simp) rfl (by omega) ⟨hlb, hu⟩ (by simp only [next_at hlb (by omega), kpp,seval]) (by simp only [kpp,seval])
           ·rw [List.drop_of_length_le (by omega), List.all_nil, Bool.true_and] at hu
            simp only [h8, vmp,↓vmd,seval]
            unfold c71_2
            simp only [vmp,↓vmd,seval]
            refine onBk_to (a + 1) [0, 1, 2, 3] (by simp) rfl (by omega) ⟨hla, hu⟩ (by simp only [next_at hla (by omega), kpp,seval]) (by simp only [kpp,seval])
         ·rw [List.drop_of_length_le (by omega), List.all_nil, Bool.true_and] at ht
          simp only [h6, vmp,↓vmd,seval]
          unfold c71_1
          simp only [vmp,↓vmd,seval]
          refine onBk_to (i + 1) [0, 1, 2] (by simp) rfl (by omega) ⟨hlt, ht⟩ (by simp only [next_at hlt (by omega), kpp,seval]) (by simp only [kpp,seval])
        ·have h2' : (0 : Int) < (i : Int) := by omega
         rw [decide_eq_false h2] at hr
         simp only [bb] at hr
         have hgp : (s.hosts.map ho)[i - 1]? = some (ho (hoAt s.hosts (i - 1))) := hoAt_eq (by omega)
         have hw : IntKind.wrap .i64 ((i : Int) - 1) = ((i - 1 : Nat) : Int) := by rw [wrap_id (by omega) (by omega)]; omega
         refine onB_pos h2' ?_
         (first | apply envO | apply envQ); simp only [h2', vmp,↓vmd,seval]; rfl
         simp only [hw, hgp, Int.natCast_nonneg, Int.toNat_natCast, vmp,↓vmd,seval]
         refine onB_dec (fun h3 => ?_) (fun h3 => ?_)
         ·rw [decide_eq_false (show ¬ (hoAt s.hosts (i - 1)).glyph < h.glyph by omega)] at hr
          simp only [bb] at hr
          subst hr
          simp only [h3, vmp,↓vmd,seval]
          exact gives_pure
         ·rw [decide_eq_true (show (hoAt s.hosts (i - 1)).glyph < h.glyph by omega)] at hr
          simp only [bb] at hr
          simp only [h3, vmp,↓vmd,seval]
          rw [← hN] at hr
          refine loop_at (T := Nat) (fun a => [(12, .pure (I (a : Int))), (9, .pure (I (i : Int))), (3, .ptr 0 0 0), (4, .ptr 1 0 0), (5, .ptr 2 0 0), (10, .ptr 3 0 0)]) (fun _ => [⟨[.pure (ffV F)], 6, .live⟩, ⟨[.pure (lk k)], 4, .live⟩, ⟨[.pure (sub s)], 12, .live⟩, ⟨[.pure (ho h)], 2, .live⟩])
           (fun a => a ≤ h.spots.length ∧ ((h.spots.drop a).all spotsB && allFrom (hostB F most s.hosts) (s.hosts.length - (i + 1)) (i + 1)) = out) (fun a => h.spots.length - a)
           0 [0, 1, 2, 3] (by simp) rfl ⟨by simp, hr⟩ (by simp only [kpp,seval]) (by simp only [kpp,seval]) ?_
          rintro a ⟨ha, ht⟩
          unfold c71_4
          simp only [vmp,↓vmd,seval]
          refine onIf_intro fun _ => ?_
          (first | apply envO | apply envQ); simp only [vmp,↓vmd,seval]; rfl
          simp only [vmp,↓vmd,seval]
          refine onB_dec (fun h6 => ?_) (fun h6 => ?_)
          ·have hla : a < h.spots.length := by omega
           rw [drop_at hla, List.all_cons] at ht
           have hgx : (h.spots.map spr)[a]? = some (spr h.spots[a]) := map_at hla
           generalize h.spots[a] = x at ht hgx
           rw [spotsB] at ht
           simp only [h6, hgx, Int.natCast_nonneg, vmp,↓vmd,seval]
           refine onIf_intro fun _ => ?_
           (first | apply envO | apply envQ); simp only [vmp,↓vmd,seval]; rfl
           simp only [vmp,↓vmd,seval]
           refine onB_dec (fun h7 => ?_) (fun h7 => ?_)
           ·rw [decide_eq_false (show ¬ x.length ≤ 16 by omega)] at ht
            simp only [bb] at ht
            subst ht
            simp only [h7, vmp,↓vmd,seval]
            exact gives_pure
           ·rw [decide_eq_true (show x.length ≤ 16 by omega)] at ht
            simp only [bb] at ht
            simp only [h7, vmp,↓vmd,seval]
            refine loop_at (T := Nat) (fun b => [(13, .pure (I (b : Int))), (12, .pure (I (a : Int))), (9, .pure (I (i : Int))), (3, .ptr 0 0 0), (4, .ptr 1 0 0), (5, .ptr 2 0 0), (10, .ptr 3 0 0)]) (fun _ => [⟨[.pure (ffV F)], 6, .live⟩, ⟨[.pure (lk k)], 4, .live⟩, ⟨[.pure (sub s)], 12, .live⟩, ⟨[.pure (ho h)], 2, .live⟩])
             (fun b => b ≤ x.length ∧ (((x.drop b).all fun s => anchorB s.x s.y s.has) && (h.spots.drop (a + 1)).all spotsB && allFrom (hostB F most s.hosts) (s.hosts.length - (i + 1)) (i + 1)) = out) (fun b => x.length - b)
             0 [0, 1, 2, 3] (by simp) rfl ⟨by simp, ht⟩ (by simp only [kpp,seval]) (by simp only [kpp,seval]) ?_
            rintro b ⟨hb, hu⟩
            unfold c71_3
            simp only [hgx, Int.natCast_nonneg, vmp,↓vmd,seval]
            refine onIf_intro fun _ => ?_
            (first | apply envO | apply envQ); simp only [vmp,↓vmd,seval]; rfl
            simp only [vmp,↓vmd,seval]
            refine onB_dec (fun h8 => ?_) (fun h8 => ?_)
            ·have hlb : b < x.length := by omega
             rw [drop_at hlb, List.all_cons] at hu
             have hgb : (x.map spt)[b]? = some (spt x[b]) := map_at hlb
             generalize x[b] = z at hu hgb
             simp only [h8, hgx, hgb, Int.natCast_nonneg, vmp,↓vmd,seval]
             refine onC_q (anchor21_q z.x z.y z.has) rfl ?_
             generalize anchorB z.x z.y z.has = b at *
             cases b with
             | false =>
              simp only [bb] at hu
              subst hu
              (first | apply envO | apply envQ); simp only [vmp,↓vmd,seval]; rfl
              simp only [vmp,↓vmd,seval]
              exact gives_pure
             | true =>
              simp only [bb] at hu
              (first | apply envO | apply envQ); simp only [vmp,↓vmd,seval]; rfl
              simp only [vmp,↓vmd,seval]
              refine onBk_to (b + 1) [0, 1, 2, 3] (by simp) rfl (by omega) ⟨hlb, hu⟩ (by simp only [next_at hlb (by omega), kpp,seval]) (by simp only [kpp,seval])
            ·rw [List.drop_of_length_le (by omega), List.all_nil, Bool.true_and] at hu
             simp only [h8, vmp,↓vmd,seval]
             unfold c71_2
             simp only [vmp,↓vmd,seval]
             refine onBk_to (a + 1) [0, 1, 2, 3] (by simp) rfl (by omega) ⟨hla, hu⟩ (by simp only [next_at hla (by omega), kpp,seval]) (by simp only [kpp,seval])
          ·rw [List.drop_of_length_le (by omega), List.all_nil, Bool.true_and] at ht
           simp only [h6, vmp,↓vmd,seval]
           unfold c71_1
           simp only [vmp,↓vmd,seval]
           refine onBk_to (i + 1) [0, 1, 2] (by simp) rfl (by omega) ⟨hlt, ht⟩ (by simp only [next_at hlt (by omega), kpp,seval]) (by simp only [kpp,seval])
     ·have hN : most = 1 := by rw [hmost, mostF, if_neg hk]
      rw [hN] at hr
      simp only [hk, vmp,↓vmd,seval]
      refine onQ_q (there_q F h.glyph) rfl ?_
      generalize thereB F h.glyph = b at *
      cases b with
      | false =>
       simp only [bb] at hr
       subst hr
       (first | apply envO | apply envQ); simp only [vmp,↓vmd,seval]; rfl
       simp only [vmp,↓vmd,seval]
       exact gives_pure
      | true =>
       simp only [bb] at hr
       (first | apply envO | apply envQ); simp only [vmp,↓vmd,seval]; rfl
       simp only [vmp,↓vmd,seval]
       refine onQ_q (within_q h.spots.length 1 1) rfl ?_
       generalize withB h.spots.length 1 1 = b at *
       cases b with
       | false =>
        simp only [bb] at hr
        subst hr
        (first | apply envO | apply envQ); simp only [vmp,↓vmd,seval]; rfl
        simp only [vmp,↓vmd,seval]
        exact gives_pure
       | true =>
        simp only [bb] at hr
        (first | apply envO | apply envQ); simp only [vmp,↓vmd,seval]; rfl
        simp only [vmp,↓vmd,seval]
        by_cases h2 : i = 0
        ·have h2' : ¬ (0 : Int) < (i : Int) := by omega
         rw [decide_eq_true h2] at hr
         simp only [bb] at hr
         refine onB_neg h2' ?_
         (first | apply envO | apply envQ); simp only [h2', vmp,↓vmd,seval]; rfl
         simp only [vmp,↓vmd,seval]
         rw [← hN] at hr
         refine loop_at (T := Nat) (fun a => [(12, .pure (I (a : Int))), (9, .pure (I (i : Int))), (3, .ptr 0 0 0), (4, .ptr 1 0 0), (5, .ptr 2 0 0), (10, .ptr 3 0 0)]) (fun _ => [⟨[.pure (ffV F)], 6, .live⟩, ⟨[.pure (lk k)], 4, .live⟩, ⟨[.pure (sub s)], 12, .live⟩, ⟨[.pure (ho h)], 2, .live⟩])
          (fun a => a ≤ h.spots.length ∧ ((h.spots.drop a).all spotsB && allFrom (hostB F most s.hosts) (s.hosts.length - (i + 1)) (i + 1)) = out) (fun a => h.spots.length - a)
          0 [0, 1, 2, 3] (by simp) rfl ⟨by simp, hr⟩ (by simp only [kpp,seval]) (by simp only [kpp,seval]) ?_
         rintro a ⟨ha, ht⟩
         unfold c71_4
         simp only [vmp,↓vmd,seval]
         refine onIf_intro fun _ => ?_
         (first | apply envO | apply envQ); simp only [vmp,↓vmd,seval]; rfl
         simp only [vmp,↓vmd,seval]
         refine onB_dec (fun h6 => ?_) (fun h6 => ?_)
         ·have hla : a < h.spots.length := by omega
          rw [drop_at hla, List.all_cons] at ht
          have hgx : (h.spots.map spr)[a]? = some (spr h.spots[a]) := map_at hla
          generalize h.spots[a] = x at ht hgx
          rw [spotsB] at ht
          simp only [h6, hgx, Int.natCast_nonneg, vmp,↓vmd,seval]
          refine onIf_intro fun _ => ?_
          (first | apply envO | apply envQ); simp only [vmp,↓vmd,seval]; rfl
          simp only [vmp,↓vmd,seval]
          refine onB_dec (fun h7 => ?_) (fun h7 => ?_)
          ·rw [decide_eq_false (show ¬ x.length ≤ 16 by omega)] at ht
           simp only [bb] at ht
           subst ht
           simp only [h7, vmp,↓vmd,seval]
           exact gives_pure
          ·rw [decide_eq_true (show x.length ≤ 16 by omega)] at ht
           simp only [bb] at ht
           simp only [h7, vmp,↓vmd,seval]
           refine loop_at (T := Nat) (fun b => [(13, .pure (I (b : Int))), (12, .pure (I (a : Int))), (9, .pure (I (i : Int))), (3, .ptr 0 0 0), (4, .ptr 1 0 0), (5, .ptr 2 0 0), (10, .ptr 3 0 0)]) (fun _ => [⟨[.pure (ffV F)], 6, .live⟩, ⟨[.pure (lk k)], 4, .live⟩, ⟨[.pure (sub s)], 12, .live⟩, ⟨[.pure (ho h)], 2, .live⟩])
            (fun b => b ≤ x.length ∧ (((x.drop b).all fun s => anchorB s.x s.y s.has) && (h.spots.drop (a + 1)).all spotsB && allFrom (hostB F most s.hosts) (s.hosts.length - (i + 1)) (i + 1)) = out) (fun b => x.length - b)
            0 [0, 1, 2, 3] (by simp) rfl ⟨by simp, ht⟩ (by simp only [kpp,seval]) (by simp only [kpp,seval]) ?_
           rintro b ⟨hb, hu⟩
           unfold c71_3
           simp only [hgx, Int.natCast_nonneg, vmp,↓vmd,seval]
           refine onIf_intro fun _ => ?_
           (first | apply envO | apply envQ); simp only [vmp,↓vmd,seval]; rfl
           simp only [vmp,↓vmd,seval]
           refine onB_dec (fun h8 => ?_) (fun h8 => ?_)
           ·have hlb : b < x.length := by omega
            rw [drop_at hlb, List.all_cons] at hu
            have hgb : (x.map spt)[b]? = some (spt x[b]) := map_at hlb
            generalize x[b] = z at hu hgb
            simp only [h8, hgx, hgb, Int.natCast_nonneg, vmp,↓vmd,seval]
            refine onC_q (anchor21_q z.x z.y z.has) rfl ?_
            generalize anchorB z.x z.y z.has = b at *
            cases b with
            | false =>
             simp only [bb] at hu
             subst hu
             (first | apply envO | apply envQ); simp only [vmp,↓vmd,seval]; rfl
             simp only [vmp,↓vmd,seval]
             exact gives_pure
            | true =>
             simp only [bb] at hu
             (first | apply envO | apply envQ); simp only [vmp,↓vmd,seval]; rfl
             simp only [vmp,↓vmd,seval]
             refine onBk_to (b + 1) [0, 1, 2, 3] (by simp) rfl (by omega) ⟨hlb, hu⟩ (by simp only [next_at hlb (by omega), kpp,seval]) (by simp only [kpp,seval])
           ·rw [List.drop_of_length_le (by omega), List.all_nil, Bool.true_and] at hu
            simp only [h8, vmp,↓vmd,seval]
            unfold c71_2
            simp only [vmp,↓vmd,seval]
            refine onBk_to (a + 1) [0, 1, 2, 3] (by simp) rfl (by omega) ⟨hla, hu⟩ (by simp only [next_at hla (by omega), kpp,seval]) (by simp only [kpp,seval])
         ·rw [List.drop_of_length_le (by omega), List.all_nil, Bool.true_and] at ht
          simp only [h6, vmp,↓vmd,seval]
          unfold c71_1
          simp only [vmp,↓vmd,seval]
          refine onBk_to (i + 1) [0, 1, 2] (by simp) rfl (by omega) ⟨hlt, ht⟩ (by simp only [next_at hlt (by omega), kpp,seval]) (by simp only [kpp,seval])
        ·have h2' : (0 : Int) < (i : Int) := by omega
         rw [decide_eq_false h2] at hr
         simp only [bb] at hr
         have hgp : (s.hosts.map ho)[i - 1]? = some (ho (hoAt s.hosts (i - 1))) := hoAt_eq (by omega)
         have hw : IntKind.wrap .i64 ((i : Int) - 1) = ((i - 1 : Nat) : Int) := by rw [wrap_id (by omega) (by omega)]; omega
         refine onB_pos h2' ?_
         (first | apply envO | apply envQ); simp only [h2', vmp,↓vmd,seval]; rfl
         simp only [hw, hgp, Int.natCast_nonneg, Int.toNat_natCast, vmp,↓vmd,seval]
         refine onB_dec (fun h3 => ?_) (fun h3 => ?_)
         ·rw [decide_eq_false (show ¬ (hoAt s.hosts (i - 1)).glyph < h.glyph by omega)] at hr
          simp only [bb] at hr
          subst hr
          simp only [h3, vmp,↓vmd,seval]
          exact gives_pure
         ·rw [decide_eq_true (show (hoAt s.hosts (i - 1)).glyph < h.glyph by omega)] at hr
          simp only [bb] at hr
          simp only [h3, vmp,↓vmd,seval]
          rw [← hN] at hr
          refine loop_at (T := Nat) (fun a => [(12, .pure (I (a : Int))), (9, .pure (I (i : Int))), (3, .ptr 0 0 0), (4, .ptr 1 0 0), (5, .ptr 2 0 0), (10, .ptr 3 0 0)]) (fun _ => [⟨[.pure (ffV F)], 6, .live⟩, ⟨[.pure (lk k)], 4, .live⟩, ⟨[.pure (sub s)], 12, .live⟩, ⟨[.pure (ho h)], 2, .live⟩])
           (fun a => a ≤ h.spots.length ∧ ((h.spots.drop a).all spotsB && allFrom (hostB F most s.hosts) (s.hosts.length - (i + 1)) (i + 1)) = out) (fun a => h.spots.length - a)
           0 [0, 1, 2, 3] (by simp) rfl ⟨by simp, hr⟩ (by simp only [kpp,seval]) (by simp only [kpp,seval]) ?_
          rintro a ⟨ha, ht⟩
          unfold c71_4
          simp only [vmp,↓vmd,seval]
          refine onIf_intro fun _ => ?_
          (first | apply envO | apply envQ); simp only [vmp,↓vmd,seval]; rfl
          simp only [vmp,↓vmd,seval]
          refine onB_dec (fun h6 => ?_) (fun h6 => ?_)
          ·have hla : a < h.spots.length := by omega
           rw [drop_at hla, List.all_cons] at ht
           have hgx : (h.spots.map spr)[a]? = some (spr h.spots[a]) := map_at hla
           generalize h.spots[a] = x at ht hgx
           rw [spotsB] at ht
           simp only [h6, hgx, Int.natCast_nonneg, vmp,↓vmd,seval]
           refine onIf_intro fun _ => ?_
           (first | apply envO | apply envQ); simp only [vmp,↓vmd,seval]; rfl
           simp only [vmp,↓vmd,seval]
           refine onB_dec (fun h7 => ?_) (fun h7 => ?_)
           ·rw [decide_eq_false (show ¬ x.length ≤ 16 by omega)] at ht
            simp only [bb] at ht
            subst ht
            simp only [h7, vmp,↓vmd,seval]
            exact gives_pure
           ·rw [decide_eq_true (show x.length ≤ 16 by omega)] at ht
            simp only [bb] at ht
            simp only [h7, vmp,↓vmd,seval]
            refine loop_at (T := Nat) (fun b => [(13, .pure (I (b : Int))), (12, .pure (I (a : Int))), (9, .pure (I (i : Int))), (3, .ptr 0 0 0), (4, .ptr 1 0 0), (5, .ptr 2 0 0), (10, .ptr 3 0 0)]) (fun _ => [⟨[.pure (ffV F)], 6, .live⟩, ⟨[.pure (lk k)], 4, .live⟩, ⟨[.pure (sub s)], 12, .live⟩, ⟨[.pure (ho h)], 2, .live⟩])
             (fun b => b ≤ x.length ∧ (((x.drop b).all fun s => anchorB s.x s.y s.has) && (h.spots.drop (a + 1)).all spotsB && allFrom (hostB F most s.hosts) (s.hosts.length - (i + 1)) (i + 1)) = out) (fun b => x.length - b)
             0 [0, 1, 2, 3] (by simp) rfl ⟨by simp, ht⟩ (by simp only [kpp,seval]) (by simp only [kpp,seval]) ?_
            rintro b ⟨hb, hu⟩
            unfold c71_3
            simp only [hgx, Int.natCast_nonneg, vmp,↓vmd,seval]
            refine onIf_intro fun _ => ?_
            (first | apply envO | apply envQ); simp only [vmp,↓vmd,seval]; rfl
            simp only [vmp,↓vmd,seval]
            refine onB_dec (fun h8 => ?_) (fun h8 => ?_)
            ·have hlb : b < x.length := by omega
             rw [drop_at hlb, List.all_cons] at hu
             have hgb : (x.map spt)[b]? = some (spt x[b]) := map_at hlb
             generalize x[b] = z at hu hgb
             simp only [h8, hgx, hgb, Int.natCast_nonneg, vmp,↓vmd,seval]
             refine onC_q (anchor21_q z.x z.y z.has) rfl ?_
             generalize anchorB z.x z.y z.has = b at *
             cases b with
             | false =>
              simp only [bb] at hu
              subst hu
              (first | apply envO | apply envQ); simp only [vmp,↓vmd,seval]; rfl
              simp only [vmp,↓vmd,seval]
              exact gives_pure
             | true =>
              simp only [bb] at hu
              (first | apply envO | apply envQ); simp only [vmp,↓vmd,seval]; rfl
              simp only [vmp,↓vmd,seval]
              refine onBk_to (b + 1) [0, 1, 2, 3] (by simp) rfl (by omega) ⟨hlb, hu⟩ (by simp only [next_at hlb (by omega), kpp,seval]) (by simp only [kpp,seval])
            ·rw [List.drop_of_length_le (by omega), List.all_nil, Bool.true_and] at hu
             simp only [h8, vmp,↓vmd,seval]
             unfold c71_2
             simp only [vmp,↓vmd,seval]
             refine onBk_to (a + 1) [0, 1, 2, 3] (by simp) rfl (by omega) ⟨hla, hu⟩ (by simp only [next_at hla (by omega), kpp,seval]) (by simp only [kpp,seval])
          ·rw [List.drop_of_length_le (by omega), List.all_nil, Bool.true_and] at ht
           simp only [h6, vmp,↓vmd,seval]
           unfold c71_1
           simp only [vmp,↓vmd,seval]
           refine onBk_to (i + 1) [0, 1, 2] (by simp) rfl (by omega) ⟨hlt, ht⟩ (by simp only [next_at hlt (by omega), kpp,seval]) (by simp only [kpp,seval])
    ·rw [allFrom_end (by omega)] at hr
     subst hr
     simp only [h1, vmp,↓vmd,seval]
     unfold c71_0
     simp only [vmp,↓vmd,seval]
     exact gives_pure
end Go.Proofs.YtcjmkpkhjhjepaaGreat.W
