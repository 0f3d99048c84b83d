/-
  What a font may be: the document's functions of subtables and lookups. No condition.
-/
import Derived.Test.YtcjmkpkhjhjepaaGreatChk5
namespace Go.Proofs.YtcjmkpkhjhjepaaGreat.W
open Go Go.Vm Go.Proofs
set_option maxRecDepth 100000
set_option linter.unusedSimpArgs false
set_option maxHeartbeats 4000000
/-! typecase/typecaseref21.sub -/
def c45_0 : AC :=
 (.seq (.reg [oo 95 (.load true 6 (.s 3)),
 oo 96 (.load true 4 (.s 4)),
 oo 97 (.load true 12 (.s 5)),
 oo 98 (.call 71 [(.s 95), (.s 96), (.s 97)]),
 oo 6 (.mov (.s 98))])
 .ret)
def c45_1 : AC :=
 (.seq (.reg [oo 70 (.load true 6 (.s 3)),
 oo 71 (.fldA 0 (.s 5)),
 oo 72 (.load false 1 (.s 71)),
 oo 73 (.call 43 [(.s 70), (.s 72)]),
 oo 74 (.mov (.s 73)),
 og 75 74 true (.fldA 7 (.s 5)),
 og 76 74 true (.load false 1 (.s 75)),
 og 77 74 true (.len (.s 76)),
 og 78 74 true (.fldA 0 (.s 5)),
 og 79 74 true (.load false 1 (.s 78)),
 og 80 74 true (.len (.s 79)),
 og 81 74 true (.bin .eql (.s 77) (.s 80)),
 oo 82 (.pick (.s 74) (.s 81) (nB false)),
 oo 6 (.mov (.s 82))])
 .ret)
def c45_2 : AC :=
 (.seq (.seq (.reg [oo 56 (.mov (.s 7)),
 oo 57 (.fldA 7 (.s 5)),
 oo 58 (.load false 1 (.s 57)),
 oo 59 (.len (.s 58)),
 oo 60 (.bin .lss (.s 56) (.s 59))])
 (.cond (.s 60)
 .skip
 (.exit 1)))
 (.seq (.block 2
 (.seq (.reg [oo 63 (.fldA 7 (.s 5)),
 oo 64 (.load false 1 (.s 63)),
 oo 65 (.mov (.s 7)),
 oo 66 (.idxA 3 (.s 64) (.s 65)),
 oo 67 (.load true 3 (.s 66)),
 oo 68 (.call 68 [(.s 67)]),
 oo 69 (.un .not (.s 68))])
 (.cond (.s 69)
 (.seq (.reg [oo 6 (.mov (nB false))])
 .ret)
 .skip)))
 (.reg [oo 61 (.mov (.s 7)),
 oo 62 (.bin .add (.s 61) (nI 1)),
 oo 7 (.mov (.s 62))])))
def c45 : AC :=
 (.seq (.reg [oo 3 (.box (.s 0)),
 oo 4 (.box (.s 1)),
 oo 5 (.box (.s 2)),
 oo 6 (.mov (nB false))])
 (.seq (.seq (.reg [oo 8 (.fldA 0 (.s 4)),
 oo 9 (.load false 1 (.s 8)),
 oo 10 (.load true 12 (.s 5)),
 oo 11 (.call 63 [(.s 9), (.s 10)]),
 oo 12 (.un .not (.s 11))])
 (.cond (.s 12)
 (.seq (.reg [oo 6 (.mov (nB false))])
 .ret)
 .skip))
 (.seq (.seq (.reg [oo 13 (.fldA 0 (.s 4)),
 oo 14 (.load false 1 (.s 13))])
 (.block 0
 (.seq (.reg [oo 16 (.bin .eql (.s 14) (nI 1)),
 oo 15 (.mov (.s 16))])
 (.cond (.s 15)
 (.seq (.reg [oo 17 (.load true 6 (.s 3)),
 oo 18 (.load true 12 (.s 5)),
 oo 19 (.call 64 [(.s 17), (.s 18), (nI 1), (nI 1)]),
 oo 6 (.mov (.s 19))])
 .ret)
 (.seq (.reg [oo 21 (.bin .eql (.s 14) (nI 2)),
 oo 20 (.mov (.s 21))])
 (.cond (.s 20)
 (.seq (.reg [oo 22 (.load true 6 (.s 3)),
 oo 23 (.load true 12 (.s 5)),
 oo 24 (.call 64 [(.s 22), (.s 23), (nI 0), (nI 16)]),
 oo 6 (.mov (.s 24))])
 .ret)
 (.seq (.reg [oo 26 (.bin .eql (.s 14) (nI 3)),
 oo 25 (.mov (.s 26))])
 (.cond (.s 25)
 (.seq (.reg [oo 27 (.load true 6 (.s 3)),
 oo 28 (.load true 12 (.s 5)),
 oo 29 (.call 65 [(.s 27), (.s 28)]),
 oo 6 (.mov (.s 29))])
 .ret)
 (.seq (.seq (.reg [oo 31 (.bin .eql (.s 14) (nI 4)),
 oo 30 (.mov (.s 31))])
 (.cond (.s 30)
 .skip
 (.reg [oo 32 (.bin .eql (.s 14) (nI 12)),
 oo 30 (.mov (.s 32))])))
 (.cond (.s 30)
 (.seq (.reg [oo 33 (.load true 6 (.s 3)),
 oo 34 (.load true 4 (.s 4)),
 oo 35 (.load true 12 (.s 5)),
 oo 36 (.call 66 [(.s 33), (.s 34), (.s 35)]),
 oo 6 (.mov (.s 36))])
 .ret)
 (.seq (.reg [oo 38 (.bin .eql (.s 14) (nI 5)),
 oo 37 (.mov (.s 38))])
 (.cond (.s 37)
 (.seq (.reg [oo 39 (.load true 6 (.s 3)),
 oo 40 (.load true 12 (.s 5)),
 oo 41 (.call 64 [(.s 39), (.s 40), (nI 1), (nI 1)]),
 oo 42 (.mov (.s 41)),
 og 43 42 true (.load true 6 (.s 3)),
 og 44 42 true (.fldA 3 (.s 5)),
 og 45 42 true (.load false 1 (.s 44)),
 og 46 42 true (.call 67 [(.s 43), (.s 45), (nI 0)]),
 oo 47 (.pick (.s 42) (.s 46) (nB false)),
 oo 48 (.mov (.s 47)),
 og 49 48 true (.load true 6 (.s 3)),
 og 50 48 true (.fldA 5 (.s 5)),
 og 51 48 true (.load false 1 (.s 50)),
 og 52 48 true (.call 67 [(.s 49), (.s 51), (nI 0)]),
 oo 53 (.pick (.s 48) (.s 52) (nB false)),
 oo 6 (.mov (.s 53))])
 .ret)
 (.seq (.reg [oo 55 (.bin .eql (.s 14) (nI 6)),
 oo 54 (.mov (.s 55))])
 (.cond (.s 54)
 (.seq (.seq (.reg [oo 7 (.mov (nI 0))])
 (.block 1
 (.loop c45_2)))
 c45_1)
 (.seq (.reg [oo 84 (.bin .eql (.s 14) (nI 7)),
 oo 83 (.mov (.s 84))])
 (.cond (.s 83)
 (.seq (.reg [oo 85 (.load true 6 (.s 3)),
 oo 86 (.fldA 8 (.s 5)),
 oo 87 (.load false 1 (.s 86)),
 oo 88 (.call 69 [(.s 85), (.s 87)]),
 oo 6 (.mov (.s 88))])
 .ret)
 (.seq (.reg [oo 90 (.bin .eql (.s 14) (nI 8)),
 oo 89 (.mov (.s 90))])
 (.cond (.s 89)
 (.seq (.reg [oo 91 (.load true 6 (.s 3)),
 oo 92 (.fldA 9 (.s 5)),
 oo 93 (.load false 1 (.s 92)),
 oo 94 (.call 70 [(.s 91), (.s 93)]),
 oo 6 (.mov (.s 94))])
 .ret)
 .skip))))))))))))))))))
 c45_0)))
theorem k45 : OkF 45 Tryz.f45 c45 [.t 6] 99 := ⟨Tryz.func45, by kernel_rfl, by kernel_rfl, by kernel_rfl, Tryz.ntmps45⟩
/-! typecase/typecaseref21.lookups -/
def c28_0 : AC :=
 (.seq (.reg [oo 2 (.mov (nB true))])
 .ret)
def c28_1 : AC :=
 (.reg [oo 15 (.mov (.s 3)),
 oo 16 (.bin .add (.s 15) (nI 1)),
 oo 3 (.mov (.s 16))])
def c28_2 : AC :=
 (.seq (.seq (.reg [oo 78 (.mov (.s 5)),
 oo 79 (.fldA 3 (.s 4)),
 oo 80 (.load false 1 (.s 79)),
 oo 81 (.len (.s 80)),
 oo 82 (.bin .lss (.s 78) (.s 81))])
 (.cond (.s 82)
 .skip
 (.exit 2)))
 (.seq (.block 3
 (.seq (.regq [oo 85 (.load true 6 (.s 1)),
 oo 86 (.load true 4 (.s 4)),
 oo 87 (.fldA 3 (.s 4)),
 oo 88 (.load false 1 (.s 87)),
 oo 89 (.mov (.s 5)),
 oo 90 (.idxA 12 (.s 88) (.s 89)),
 oo 91 (.load true 12 (.s 90))]
[oo 92 (.call 45 [(.s 85), (.s 86), (.s 91)]),
 oo 93 (.un .not (.s 92))])
 (.cond (.s 93)
 (.seq (.reg [oo 2 (.mov (nB false))])
 .ret)
 .skip)))
 (.reg [oo 83 (.mov (.s 5)),
 oo 84 (.bin .add (.s 83) (nI 1)),
 oo 5 (.mov (.s 84))])))
def c28_3 : AC :=
 (.seq (.seq (.reg [oo 10 (.mov (.s 3)),
 oo 11 (.fldA 3 (.s 1)),
 oo 12 (.load false 1 (.s 11)),
 oo 13 (.len (.s 12)),
 oo 14 (.bin .lss (.s 10) (.s 13))])
 (.cond (.s 14)
 .skip
 (.exit 0)))
 (.seq (.block 1
 (.seq (.reg [oo 17 (.fldA 3 (.s 1)),
 oo 18 (.load false 1 (.s 17)),
 oo 19 (.mov (.s 3)),
 oo 20 (.idxA 4 (.s 18) (.s 19)),
 oo 21 (.load true 4 (.s 20)),
 oo 4 (.box (.c (.agg [(pI 0), (pI 0), (pI 0), .empty]))),
⟨none, none, .store 4 (.s 4) (.s 21)⟩])
 (.seq (.seq (.reg [oo 22 (.fldA 0 (.s 4)),
 oo 23 (.load false 1 (.s 22)),
 oo 24 (.call 44 [(.s 23)]),
 oo 25 (.bin .eql (.s 24) (nI 0)),
 oo 26 (.mov (.s 25)),
 og 27 26 false (.fldA 1 (.s 4)),
 og 28 26 false (.load false 1 (.s 27)),
 og 29 26 false (.call 38 [(.s 28), (nI 0), (nI 65535)]),
 og 30 26 false (.un .not (.s 29)),
 oo 31 (.pick (.s 26) (nB true) (.s 30)),
 oo 32 (.mov (.s 31)),
 og 33 32 false (.fldA 1 (.s 4)),
 og 34 32 false (.load false 1 (.s 33)),
 og 35 32 false (.bin .rem (.s 34) (nI 2)),
 og 36 32 false (.bin .neq (.s 35) (nI 0)),
 oo 37 (.pick (.s 32) (nB true) (.s 36)),
 oo 38 (.mov (.s 37)),
 og 39 38 false (.fldA 1 (.s 4)),
 og 40 38 false (.load false 1 (.s 39)),
 og 41 38 false (.bin .quo (.s 40) (nI 32)),
 og 42 38 false (.bin .rem (.s 41) (nI 8)),
 og 43 38 false (.bin .neq (.s 42) (nI 0)),
 oo 44 (.pick (.s 38) (nB true) (.s 43)),
 oo 45 (.mov (.s 44)),
 og 46 45 false (.fldA 3 (.s 4)),
 og 47 45 false (.load false 1 (.s 46)),
 og 48 45 false (.len (.s 47)),
 og 49 45 false (.bin .gtr (.s 48) (nI 64)),
 oo 50 (.pick (.s 45) (nB true) (.s 49))])
 (.cond (.s 50)
 (.seq (.reg [oo 2 (.mov (nB false))])
 .ret)
 .skip))
 (.seq (.seq (.reg [oo 51 (.fldA 1 (.s 4)),
 oo 52 (.load false 1 (.s 51)),
 oo 53 (.bin .quo (.s 52) (nI 16)),
 oo 54 (.bin .rem (.s 53) (nI 2)),
 oo 55 (.bin .eql (.s 54) (nI 1)),
 oo 56 (.mov (.s 55)),
 og 57 56 true (.fldA 2 (.s 4)),
 og 58 56 true (.load false 1 (.s 57)),
 og 59 56 true (.fldA 5 (.s 1)),
 og 60 56 true (.load false 1 (.s 59)),
 og 61 56 true (.len (.s 60)),
 og 62 56 true (.bin .sub (.s 61) (nI 1)),
 og 63 56 true (.call 38 [(.s 58), (nI 0), (.s 62)]),
 og 64 56 true (.un .not (.s 63)),
 oo 65 (.pick (.s 56) (.s 64) (nB false)),
 oo 66 (.mov (.s 65)),
 og 67 66 false (.fldA 1 (.s 4)),
 og 68 66 false (.load false 1 (.s 67)),
 og 69 66 false (.bin .quo (.s 68) (nI 16)),
 og 70 66 false (.bin .rem (.s 69) (nI 2)),
 og 71 66 false (.bin .eql (.s 70) (nI 0)),
 og 72 66 false (.mov (.s 71)),
 og 73 72 true (.fldA 2 (.s 4)),
 og 74 72 true (.load false 1 (.s 73)),
 og 75 72 true (.bin .neq (.s 74) (nI 0)),
 og 76 66 false (.pick (.s 72) (.s 75) (nB false)),
 oo 77 (.pick (.s 66) (nB true) (.s 76))])
 (.cond (.s 77)
 (.seq (.reg [oo 2 (.mov (nB false))])
 .ret)
 .skip))
 (.seq (.reg [oo 5 (.mov (nI 0))])
 (.block 2
 (.loop c28_2)))))))
 c28_1))
def c28 : AC :=
 (.seq (.reg [oo 1 (.box (.s 0)),
 oo 2 (.mov (nB false))])
 (.seq (.seq (.reg [oo 6 (.fldA 3 (.s 1)),
 oo 7 (.load false 1 (.s 6)),
 oo 8 (.len (.s 7)),
 oo 9 (.bin .gtr (.s 8) (nI 64))])
 (.cond (.s 9)
 (.seq (.reg [oo 2 (.mov (nB false))])
 .ret)
 .skip))
 (.seq (.seq (.reg [oo 3 (.mov (nI 0))])
 (.block 0
 (.loop c28_3)))
 c28_0)))
theorem k28 : OkF 28 Tryz.f28 c28 [.t 2] 94 := ⟨Tryz.func28, by kernel_rfl, by kernel_rfl, by kernel_rfl, Tryz.ntmps28⟩
theorem sub_q (F : Ff) (hF : F.lks.length ≤ 1000) (k : Lk) (s : Sub) : FnQ Tryz.prog 45 [ffV F, lk k, sub s] [.bool (subB F k s)] := by
 refine k45.q (by simp) ?_
 unfold c45
 have hr : (bareB k.kind s && kindB F k s) = subB F k s := rfl
 generalize subB F k s = out at *
 simp only [vmp,↓vmd,seval]
 refine onC_q (bare_q k.kind s) rfl ?_
 generalize bareB k.kind s = b at *
 cases b with
 | false =>
  simp only [bb] at hr
  subst hr
  (first | apply envO | apply envQ); simp only [vmp,↓vmd,seval]; rfl
  simp only [vmp,↓vmd,seval]
  exact gives_pure
 | true =>
  simp only [bb] at hr
  (first | apply envO | apply envQ); simp only [vmp,↓vmd,seval]; rfl
  simp only [vmp,↓vmd,seval]
  rw [kindB] at hr
  refine onB_dec (fun e1 => ?_) (fun e1 => ?_)
  ·rw [if_pos e1] at hr
   simp only [e1, vmp,↓vmd,seval]
   refine onC_q (to_q F s 1 1) rfl ?_
   rw [hr]
   (first | apply envO | apply envQ); simp only [vmp,↓vmd,seval]; rfl
   simp only [vmp,↓vmd,seval]
   exact gives_pure
  ·rw [if_neg e1] at hr
   simp only [e1, vmp,↓vmd,seval]
   refine onB_dec (fun e2 => ?_) (fun e2 => ?_)
   ·rw [if_pos e2] at hr
    simp only [e2, vmp,↓vmd,seval]
    refine onC_q (to_q F s 0 16) rfl ?_
    rw [hr]
    (first | apply envO | apply envQ); simp only [vmp,↓vmd,seval]; rfl
    simp only [vmp,↓vmd,seval]
    exact gives_pure
   ·rw [if_neg e2] at hr
    simp only [e2, vmp,↓vmd,seval]
    refine onB_dec (fun e3 => ?_) (fun e3 => ?_)
    ·rw [if_pos e3] at hr
     simp only [e3, vmp,↓vmd,seval]
     refine onC_q (ligs_q F s) rfl ?_
     rw [hr]
     (first | apply envO | apply envQ); simp only [vmp,↓vmd,seval]; rfl
     simp only [vmp,↓vmd,seval]
     exact gives_pure
    ·rw [if_neg e3] at hr
     simp only [e3, vmp,↓vmd,seval]
     refine onB_dec (fun e4 => ?_) (fun e4 => ?_)
     ·rw [if_pos (.inl e4)] at hr
      simp only [e4, vmp,↓vmd,seval]
      refine onC_q (around_q F hF k s) rfl ?_
      rw [hr]
      (first | apply envO | apply envQ); simp only [vmp,↓vmd,seval]; rfl
      simp only [vmp,↓vmd,seval]
      exact gives_pure
     ·simp only [e4, vmp,↓vmd,seval]
      refine onB_dec (fun e12 => ?_) (fun e12 => ?_)
      ·rw [if_pos (.inr e12)] at hr
       simp only [e12, vmp,↓vmd,seval]
       refine onC_q (around_q F hF k s) rfl ?_
       rw [hr]
       (first | apply envO | apply envQ); simp only [vmp,↓vmd,seval]; rfl
       simp only [vmp,↓vmd,seval]
       exact gives_pure
      ·rw [if_neg (by rintro (h | h); exact e4 h; exact e12 h)] at hr
       simp only [e12, vmp,↓vmd,seval]
       refine onB_dec (fun e5 => ?_) (fun e5 => ?_)
       ·rw [if_pos e5] at hr
        simp only [e5, vmp,↓vmd,seval]
        refine onC_q (to_q F s 1 1) rfl ?_
        generalize toB F s 1 1 = b at *
        cases b with
        | false =>
         simp only [bb] at hr
         subst hr
         (first | apply envO | apply envQ); simp only [vmp,↓vmd,seval]; rfl
         simp only [vmp,↓vmd,seval]
         exact gives_pure
        | true =>
         simp only [bb] at hr
         (first | apply envO | apply envQ); simp only [vmp,↓vmd,seval]; rfl
         simp only [vmp,↓vmd,seval]
         refine onC_q (covers_q F s.back 0) rfl ?_
         generalize coversB F s.back 0 = b at *
         cases b with
         | false =>
          simp only [bb] at hr
          subst hr
          (first | apply envO | apply envQ); simp only [vmp,↓vmd,seval]; rfl
          simp only [vmp,↓vmd,seval]
          exact gives_pure
         | true =>
          simp only [bb] at hr
          (first | apply envO | apply envQ); simp only [vmp,↓vmd,seval]; rfl
          simp only [vmp,↓vmd,seval]
          refine onC_q (covers_q F s.ahead 0) rfl ?_
          rw [hr]
          (first | apply envO | apply envQ); simp only [vmp,↓vmd,seval]; rfl
          simp only [vmp,↓vmd,seval]
          exact gives_pure
       ·rw [if_neg e5] at hr
        simp only [e5, vmp,↓vmd,seval]
        refine onB_dec (fun e6 => ?_) (fun e6 => ?_)
        ·rw [if_pos e6] at hr
         simp only [e6, vmp,↓vmd,seval]
         refine loop_at (T := Nat) (fun i => [(7, .pure (I (i : Int))), (3, .ptr 0 0 0), (4, .ptr 1 0 0), (5, .ptr 2 0 0)]) (fun _ => [⟨[.pure (ffV F)], 6, .live⟩, ⟨[.pure (lk k)], 4, .live⟩, ⟨[.pure (sub s)], 12, .live⟩]) (fun i => i ≤ s.values.length ∧ ((s.values.drop i).all valueB && coverB F s.cover && decide (s.values.length = s.cover.length)) = out) (fun i => s.values.length - i)
          0 [0, 1, 2] (by simp) rfl ⟨by simp, hr⟩ (by simp only [kpp,seval]) (by simp only [kpp,seval]) ?_
         rintro i ⟨hi, hr⟩
         unfold c45_2
         simp only [vmp,↓vmd,seval]
         refine onIf_intro fun _ => ?_
         (first | apply envO | apply envQ); simp only [vmp,↓vmd,seval]; rfl
         simp only [vmp,↓vmd,seval]
         refine onB_dec (fun h1 => ?_) (fun h1 => ?_)
         ·have hlt : i < s.values.length := by omega
          rw [drop_at hlt, List.all_cons] at hr
          have hgi : (s.values.map sp)[i]? = some (sp s.values[i]) := map_at hlt
          generalize s.values[i] = x at hr hgi
          simp only [h1, hgi, Int.natCast_nonneg, vmp,↓vmd,seval]
          refine onC_q (value_q x) rfl ?_
          generalize valueB x = b at *
          cases b with
          | false =>
           simp only [bb] at hr
           subst hr
           (first | apply envO | apply envQ); simp only [vmp,↓vmd,seval]; rfl
           simp only [vmp,↓vmd,seval]
           exact gives_pure
          | true =>
           simp only [bb] at hr
           (first | apply envO | apply envQ); simp only [vmp,↓vmd,seval]; rfl
           simp only [vmp,↓vmd,seval]
           refine onBk_to (i + 1) [0, 1, 2] (by simp) rfl (by omega) ⟨hlt, hr⟩ (by simp only [next_at hlt (by omega), kpp,seval]) (by simp only [kpp,seval])
         ·rw [List.drop_of_length_le (by omega), List.all_nil, Bool.true_and] at hr
          simp only [h1, vmp,↓vmd,seval]
          unfold c45_1
          simp only [vmp,↓vmd,seval]
          refine onC_q (cover_q F s.cover) rfl ?_
          generalize coverB F s.cover = b at *
          cases b with
          | false =>
           simp only [bb] at hr
           subst hr
           (first | apply envO | apply envQ); simp only [vmp,↓vmd,seval]; rfl
           simp only [vmp,↓vmd,seval]
           exact gives_pure
          | true =>
           simp only [bb] at hr
           (first | apply envO | apply envQ); simp only [vmp,↓vmd,seval]; rfl
           simp only [vmp,↓vmd,seval]
           refine onIf_intro fun _ => ?_
           (first | apply envO | apply envQ); simp only [vmp,↓vmd,seval]; rfl
           simp only [vmp,↓vmd,seval]
           refine onIf_intro fun _ => ?_
           (first | apply envO | apply envQ); simp only [vmp,↓vmd,seval]; rfl
           simp only [vmp,↓vmd,seval]
           rw [show decide ((s.values.length : Int) = (s.cover.length : Int)) = decide (s.values.length = s.cover.length) by rw [decide_eq_decide]; omega, hr]
           exact gives_pure
        ·rw [if_neg e6] at hr
         simp only [e6, vmp,↓vmd,seval]
         refine onB_dec (fun e7 => ?_) (fun e7 => ?_)
         ·rw [if_pos e7] at hr
          simp only [e7, vmp,↓vmd,seval]
          refine onC_q (pairs_q F s.pairs) rfl ?_
          rw [hr]
          (first | apply envO | apply envQ); simp only [vmp,↓vmd,seval]; rfl
          simp only [vmp,↓vmd,seval]
          exact gives_pure
         ·rw [if_neg e7] at hr
          simp only [e7, vmp,↓vmd,seval]
          refine onB_dec (fun e8 => ?_) (fun e8 => ?_)
          ·rw [if_pos e8] at hr
           simp only [e8, vmp,↓vmd,seval]
           refine onC_q (curs_q F s.curs) rfl ?_
           rw [hr]
           (first | apply envO | apply envQ); simp only [vmp,↓vmd,seval]; rfl
           simp only [vmp,↓vmd,seval]
           exact gives_pure
          ·rw [if_neg e8] at hr
           simp only [e8, vmp,↓vmd,seval]
           unfold c45_0
           simp only [vmp,↓vmd,seval]
           refine onC_q (marks21_q F k s) rfl ?_
           rw [hr]
           (first | apply envO | apply envQ); simp only [vmp,↓vmd,seval]; rfl
           simp only [vmp,↓vmd,seval]
           exact gives_pure
theorem lookups_q (F : Ff) : FnQ Tryz.prog 28 [ffV F] [.bool (lookupsB F)] := by
 refine k28.q (by simp) ?_
 unfold c28
 have hr : (decide (F.lks.length ≤ 64) && F.lks.all (lookupB F)) = lookupsB F := rfl
 generalize lookupsB F = out at *
 simp only [vmp,↓vmd,seval]
 refine onIf_intro fun _ => ?_
 (first | apply envO | apply envQ); simp only [vmp,↓vmd,seval]; rfl
 simp only [vmp,↓vmd,seval]
 refine onB_dec (fun h64 => ?_) (fun h64 => ?_)
 ·rw [decide_eq_false (show ¬ F.lks.length ≤ 64 by omega)] at hr
  simp only [bb] at hr
  subst hr
  simp only [h64, vmp,↓vmd,seval]
  exact gives_pure
 ·rw [decide_eq_true (show F.lks.length ≤ 64 by omega)] at hr
  simp only [bb] at hr
  simp only [h64, vmp,↓vmd,seval]
  refine loop_at (T := Nat) (fun i => [(3, .pure (I (i : Int))), (1, .ptr 0 0 0)]) (fun _ => [⟨[.pure (ffV F)], 6, .live⟩]) (fun i => i ≤ F.lks.length ∧ (F.lks.drop i).all (lookupB F) = out) (fun i => F.lks.length - i)
   0 [0] (by simp) rfl ⟨by simp, hr⟩ (by simp only [kpp,seval]) (by simp only [kpp,seval]) ?_
  rintro i ⟨hi, hr⟩
  unfold c28_3
  simp only [vmp,↓vmd,seval]
  refine onIf_intro fun _ => ?_
  (first | apply envO | apply envQ); simp only [vmp,↓vmd,seval]; rfl
  simp only [vmp,↓vmd,seval]
  refine onB_dec (fun h1 => ?_) (fun h1 => ?_)
  ·have hlt : i < F.lks.length := by omega
   rw [drop_at hlt, List.all_cons] at hr
   have hgi : (F.lks.map lk)[i]? = some (lk F.lks[i]) := map_at hlt
   generalize F.lks[i] = k at hr hgi
   rw [lookupB] at hr
   simp only [h1, hgi, Int.natCast_nonneg, vmp,↓vmd,seval]
   refine onC_q (sorts_q k.kind) rfl ?_
   (first | apply envO | apply envQ); simp only [vmp,↓vmd,seval]; rfl
   simp only [vmp,↓vmd,seval]
   refine onB_dec (fun h0 => ?_) (fun h0 => ?_)
   ·rw [decide_eq_false (show ¬ sortsF k.kind ≠ 0 from fun e => e h0)] at hr
    simp only [bb] at hr
    subst hr
    (first | apply envO | apply envQ); simp only [h0, vmp,↓vmd,seval]; rfl
    simp only [h0, vmp,↓vmd,seval]
    exact gives_pure
   ·rw [decide_eq_true (show sortsF k.kind ≠ 0 from h0)] at hr
    simp only [bb] at hr
    (first | apply envO | apply envQ); simp only [h0, vmp,↓vmd,seval]; rfl
    simp only [h0, vmp,↓vmd,seval]
    refine onC_q (within_q k.flags 0 65535) rfl ?_
    generalize withB k.flags 0 65535 = b at *
    cases b with
    | false =>
     simp only [bb] at hr
     subst hr
     (first | apply envO | apply envQ); simp only [vmp,↓vmd,seval]; rfl
     simp only [vmp,↓vmd,seval]
     exact gives_pure
    | true =>
     simp only [bb] at hr
     (first | apply envO | apply envQ); simp only [vmp,↓vmd,seval]; rfl
     simp only [vmp,↓vmd,seval]
     refine onB_dec (fun h2 => ?_) (fun h2 => ?_)
     ·rw [decide_eq_false h2] at hr
      simp only [bb] at hr
      subst hr
      (first | apply envO | apply envQ); simp only [h2, vmp,↓vmd,seval]; rfl
      simp only [h2, vmp,↓vmd,seval]
      exact gives_pure
     ·have h2' := Classical.not_not.1 h2
      rw [decide_eq_true h2'] at hr
      have h2d : decide (¬ modE k.flags 2 = 0) = false := decide_eq_false h2
      simp only [bb] at hr
      (first | apply envO | apply envQ); simp only [h2d, vmp,↓vmd,seval]; rfl
      simp only [vmp,↓vmd,seval]
      refine onB_dec (fun h3 => ?_) (fun h3 => ?_)
      ·rw [decide_eq_false h3] at hr
       simp only [bb] at hr
       subst hr
       (first | apply envO | apply envQ); simp only [h3, vmp,↓vmd,seval]; rfl
       simp only [h3, vmp,↓vmd,seval]
       exact gives_pure
      ·have h3' := Classical.not_not.1 h3
       rw [decide_eq_true h3'] at hr
       have h3d : decide (¬ modE (divE k.flags 32) 8 = 0) = false := decide_eq_false h3
       simp only [bb] at hr
       (first | apply envO | apply envQ); simp only [h3d, vmp,↓vmd,seval]; rfl
       simp only [vmp,↓vmd,seval]
       refine onIf_intro fun _ => ?_
       (first | apply envO | apply envQ); simp only [vmp,↓vmd,seval]; rfl
       simp only [vmp,↓vmd,seval]
       refine onB_dec (fun h4 => ?_) (fun h4 => ?_)
       ·rw [decide_eq_false (show ¬ k.subs.length ≤ 64 by omega)] at hr
        simp only [bb] at hr
        subst hr
        (first | apply envO | apply envQ); simp only [h4, vmp,↓vmd,seval]; rfl
        simp only [h4, vmp,↓vmd,seval]
        exact gives_pure
       ·rw [decide_eq_true (show k.subs.length ≤ 64 by omega)] at hr
        simp only [bb] at hr
        (first | apply envO | apply envQ); simp only [h4, vmp,↓vmd,seval]; rfl
        simp only [h4, vmp,↓vmd,seval]
        refine onB_dec (fun h5 => ?_) (fun h5 => ?_)
        ·rw [decide_eq_true h5] at hr
         have h5d : decide (modE (divE k.flags 16) 2 = 1) = true := decide_eq_true h5
         simp only [bb] at hr
         (first | apply envO | apply envQ); simp only [h5d, vmp,↓vmd,seval]; rfl
         simp only [vmp,↓vmd,seval]
         refine onIf_intro fun hbd => ?_
         have hw : IntKind.wrap .i64 ((F.sets.length : Int) - 1) = (F.sets.length : Int) - 1 := wrap_id (by omega) (by first | omega | (simp only [seval, vmp] at hbd; omega) | (simp at hbd; omega))
         (first | apply envO | apply envQ); simp only [vmp,↓vmd,seval]; rfl
         simp only [hw, vmp,↓vmd,seval]
         refine onC_q (within_q k.set 0 ((F.sets.length : Int) - 1)) rfl ?_
         generalize withB k.set 0 ((F.sets.length : Int) - 1) = b at *
         cases b with
         | false =>
          simp only [bb] at hr
          subst hr
          (first | apply envO | apply envQ); simp only [vmp,↓vmd,seval]; rfl
          simp only [vmp,↓vmd,seval]
          exact gives_pure
         | true =>
          simp only [bb] at hr
          (first | apply envO | apply envQ); simp only [vmp,↓vmd,seval]; rfl
          simp only [vmp,↓vmd,seval]
          refine onB_dec (fun h6 => ?_) (fun h6 => ?_)
          ·have h6d : decide (modE (divE k.flags 16) 2 = 0) = true := decide_eq_true h6
           (first | apply envO | apply envQ); simp only [h6d, vmp,↓vmd,seval]; rfl
           simp only [vmp,↓vmd,seval]
           refine onB_dec (fun h7 => ?_) (fun h7 => ?_)
           ·rw [decide_eq_true h6, decide_eq_true h7] at hr
            simp only [bb] at hr
            subst hr
            simp only [h7, vmp,↓vmd,seval]
            exact gives_pure
           ·rw [decide_eq_true h6, decide_eq_false h7] at hr
            simp only [bb] at hr
            simp only [h7, vmp,↓vmd,seval]
            refine loop_at (T := Nat) (fun n => [(5, .pure (I (n : Int))), (3, .pure (I (i : Int))), (1, .ptr 0 0 0), (4, .ptr 1 0 0)]) (fun _ => [⟨[.pure (ffV F)], 6, .live⟩, ⟨[.pure (lk k)], 4, .live⟩]) (fun n => n ≤ k.subs.length ∧ ((k.subs.drop n).all (subB F k) && (F.lks.drop (i + 1)).all (lookupB F)) = out) (fun n => k.subs.length - n)
             0 [0, 1] (by simp) rfl ⟨by simp, hr⟩ (by simp only [kpp,seval]) (by simp only [kpp,seval]) ?_
            rintro n ⟨hn, ht⟩
            unfold c28_2
            simp only [vmp,↓vmd,seval]
            refine onIf_intro fun _ => ?_
            (first | apply envO | apply envQ); simp only [vmp,↓vmd,seval]; rfl
            simp only [vmp,↓vmd,seval]
            refine onB_dec (fun h8 => ?_) (fun h8 => ?_)
            ·have hln : n < k.subs.length := by omega
             rw [drop_at hln, List.all_cons] at ht
             have hgn : (k.subs.map sub)[n]? = some (sub k.subs[n]) := map_at hln
             generalize k.subs[n] = s at ht hgn
             simp only [h8, hgn, Int.natCast_nonneg, vmp,↓vmd,seval]
             refine onC_q (sub_q F (by omega) k s) rfl ?_
             generalize subB F k s = b at *
             cases b with
             | false =>
              simp only [bb] at ht
              subst ht
              (first | apply envO | apply envQ); simp only [vmp,↓vmd,seval]; rfl
              simp only [vmp,↓vmd,seval]
              exact gives_pure
             | true =>
              simp only [bb] at ht
              (first | apply envO | apply envQ); simp only [vmp,↓vmd,seval]; rfl
              simp only [vmp,↓vmd,seval]
              refine onBk_to (n + 1) [0, 1] (by simp) rfl (by omega) ⟨hln, ht⟩ (by simp only [next_at hln (by omega), kpp,seval]) (by simp only [kpp,seval])
            ·rw [List.drop_of_length_le (by omega), List.all_nil, Bool.true_and] at ht
             simp only [h8, vmp,↓vmd,seval]
             unfold c28_1
             simp only [vmp,↓vmd,seval]
             refine onBk_to (i + 1) [0] (by simp) rfl (by omega) ⟨hlt, ht⟩ (by simp only [next_at hlt (by omega), kpp,seval]) (by simp only [kpp,seval])
          ·rw [decide_eq_false h6] at hr
           simp only [bb] at hr
           (first | apply envO | apply envQ); simp only [h6, vmp,↓vmd,seval]; rfl
           simp only [h6, vmp,↓vmd,seval]
           refine loop_at (T := Nat) (fun n => [(5, .pure (I (n : Int))), (3, .pure (I (i : Int))), (1, .ptr 0 0 0), (4, .ptr 1 0 0)]) (fun _ => [⟨[.pure (ffV F)], 6, .live⟩, ⟨[.pure (lk k)], 4, .live⟩]) (fun n => n ≤ k.subs.length ∧ ((k.subs.drop n).all (subB F k) && (F.lks.drop (i + 1)).all (lookupB F)) = out) (fun n => k.subs.length - n)
            0 [0, 1] (by simp) rfl ⟨by simp, hr⟩ (by simp only [kpp,seval]) (by simp only [kpp,seval]) ?_
           rintro n ⟨hn, ht⟩
           unfold c28_2
           simp only [vmp,↓vmd,seval]
           refine onIf_intro fun _ => ?_
           (first | apply envO | apply envQ); simp only [vmp,↓vmd,seval]; rfl
           simp only [vmp,↓vmd,seval]
           refine onB_dec (fun h8 => ?_) (fun h8 => ?_)
           ·have hln : n < k.subs.length := by omega
            rw [drop_at hln, List.all_cons] at ht
            have hgn : (k.subs.map sub)[n]? = some (sub k.subs[n]) := map_at hln
            generalize k.subs[n] = s at ht hgn
            simp only [h8, hgn, Int.natCast_nonneg, vmp,↓vmd,seval]
            refine onC_q (sub_q F (by omega) k s) rfl ?_
            generalize subB F k s = b at *
            cases b with
            | false =>
             simp only [bb] at ht
             subst ht
             (first | apply envO | apply envQ); simp only [vmp,↓vmd,seval]; rfl
             simp only [vmp,↓vmd,seval]
             exact gives_pure
            | true =>
             simp only [bb] at ht
             (first | apply envO | apply envQ); simp only [vmp,↓vmd,seval]; rfl
             simp only [vmp,↓vmd,seval]
             refine onBk_to (n + 1) [0, 1] (by simp) rfl (by omega) ⟨hln, ht⟩ (by simp only [next_at hln (by omega), kpp,seval]) (by simp only [kpp,seval])
           ·rw [List.drop_of_length_le (by omega), List.all_nil, Bool.true_and] at ht
            simp only [h8, vmp,↓vmd,seval]
            unfold c28_1
            simp only [vmp,↓vmd,seval]
            refine onBk_to (i + 1) [0] (by simp) rfl (by omega) ⟨hlt, ht⟩ (by simp only [next_at hlt (by omega), kpp,seval]) (by simp only [kpp,seval])
        ·rw [decide_eq_false h5] at hr
         simp only [bb] at hr
         (first | apply envO | apply envQ); simp only [h5, vmp,↓vmd,seval]; rfl
         simp only [h5, vmp,↓vmd,seval]
         refine onB_dec (fun h6 => ?_) (fun h6 => ?_)
         ·have h6d : decide (modE (divE k.flags 16) 2 = 0) = true := decide_eq_true h6
          (first | apply envO | apply envQ); simp only [h6d, vmp,↓vmd,seval]; rfl
          simp only [vmp,↓vmd,seval]
          refine onB_dec (fun h7 => ?_) (fun h7 => ?_)
          ·rw [decide_eq_true h6, decide_eq_true h7] at hr
           simp only [bb] at hr
           subst hr
           simp only [h7, vmp,↓vmd,seval]
           exact gives_pure
          ·rw [decide_eq_true h6, decide_eq_false h7] at hr
           simp only [bb] at hr
           simp only [h7, vmp,↓vmd,seval]
           refine loop_at (T := Nat) (fun n => [(5, .pure (I (n : Int))), (3, .pure (I (i : Int))), (1, .ptr 0 0 0), (4, .ptr 1 0 0)]) (fun _ => [⟨[.pure (ffV F)], 6, .live⟩, ⟨[.pure (lk k)], 4, .live⟩]) (fun n => n ≤ k.subs.length ∧ ((k.subs.drop n).all (subB F k) && (F.lks.drop (i + 1)).all (lookupB F)) = out) (fun n => k.subs.length - n)
            0 [0, 1] (by simp) rfl ⟨by simp, hr⟩ (by simp only [kpp,seval]) (by simp only [kpp,seval]) ?_
           rintro n ⟨hn, ht⟩
           unfold c28_2
           simp only [vmp,↓vmd,seval]
           refine onIf_intro fun _ => ?_
           (first | apply envO | apply envQ); simp only [vmp,↓vmd,seval]; rfl
           simp only [vmp,↓vmd,seval]
           refine onB_dec (fun h8 => ?_) (fun h8 => ?_)
           ·have hln : n < k.subs.length := by omega
            rw [drop_at hln, List.all_cons] at ht
            have hgn : (k.subs.map sub)[n]? = some (sub k.subs[n]) := map_at hln
            generalize k.subs[n] = s at ht hgn
            simp only [h8, hgn, Int.natCast_nonneg, vmp,↓vmd,seval]
            refine onC_q (sub_q F (by omega) k s) rfl ?_
            generalize subB F k s = b at *
            cases b with
            | false =>
             simp only [bb] at ht
             subst ht
             (first | apply envO | apply envQ); simp only [vmp,↓vmd,seval]; rfl
             simp only [vmp,↓vmd,seval]
             exact gives_pure
            | true =>
             simp only [bb] at ht
             (first | apply envO | apply envQ); simp only [vmp,↓vmd,seval]; rfl
             simp only [vmp,↓vmd,seval]
             refine onBk_to (n + 1) [0, 1] (by simp) rfl (by omega) ⟨hln, ht⟩ (by simp only [next_at hln (by omega), kpp,seval]) (by simp only [kpp,seval])
           ·rw [List.drop_of_length_le (by omega), List.all_nil, Bool.true_and] at ht
            simp only [h8, vmp,↓vmd,seval]
            unfold c28_1
            simp only [vmp,↓vmd,seval]
            refine onBk_to (i + 1) [0] (by simp) rfl (by omega) ⟨hlt, ht⟩ (by simp only [next_at hlt (by omega), kpp,seval]) (by simp only [kpp,seval])
         ·rw [decide_eq_false h6] at hr
          simp only [bb] at hr
          (first | apply envO | apply envQ); simp only [h6, vmp,↓vmd,seval]; rfl
          simp only [h6, vmp,↓vmd,seval]
          refine loop_at (T := Nat) (fun n => [(5, .pure (I (n : Int))), (3, .pure (I (i : Int))), (1, .ptr 0 0 0), (4, .ptr 1 0 0)]) (fun _ => [⟨[.pure (ffV F)], 6, .live⟩, ⟨[.pure (lk k)], 4, .live⟩]) (fun n => n ≤ k.subs.length ∧ ((k.subs.drop n).all (subB F k) && (F.lks.drop (i + 1)).all (lookupB F)) = out) (fun n => k.subs.length - n)
           0 [0, 1] (by simp) rfl ⟨by simp, hr⟩ (by simp only [kpp,seval]) (by simp only [kpp,seval]) ?_
          rintro n ⟨hn, ht⟩
          unfold c28_2
          simp only [vmp,↓vmd,seval]
          refine onIf_intro fun _ => ?_
          (first | apply envO | apply envQ); simp only [vmp,↓vmd,seval]; rfl
          simp only [vmp,↓vmd,seval]
          refine onB_dec (fun h8 => ?_) (fun h8 => ?_)
          ·have hln : n < k.subs.length := by omega
           rw [drop_at hln, List.all_cons] at ht
           have hgn : (k.subs.map sub)[n]? = some (sub k.subs[n]) := map_at hln
           generalize k.subs[n] = s at ht hgn
           simp only [h8, hgn, Int.natCast_nonneg, vmp,↓vmd,seval]
           refine onC_q (sub_q F (by omega) k s) rfl ?_
           generalize subB F k s = b at *
           cases b with
           | false =>
            simp only [bb] at ht
            subst ht
            (first | apply envO | apply envQ); simp only [vmp,↓vmd,seval]; rfl
            simp only [vmp,↓vmd,seval]
            exact gives_pure
           | true =>
            simp only [bb] at ht
            (first | apply envO | apply envQ); simp only [vmp,↓vmd,seval]; rfl
            simp only [vmp,↓vmd,seval]
            refine onBk_to (n + 1) [0, 1] (by simp) rfl (by omega) ⟨hln, ht⟩ (by simp only [next_at hln (by omega), kpp,seval]) (by simp only [kpp,seval])
          ·rw [List.drop_of_length_le (by omega), List.all_nil, Bool.true_and] at ht
           simp only [h8, vmp,↓vmd,seval]
           unfold c28_1
           simp only [vmp,↓vmd,seval]
           refine onBk_to (i + 1) [0] (by simp) rfl (by omega) ⟨hlt, ht⟩ (by simp only [next_at hlt (by omega), kpp,seval]) (by simp only [kpp,seval])
  ·rw [List.drop_of_length_le (by omega), List.all_nil] at hr
   subst hr
   simp only [h1, vmp,↓vmd,seval]
   unfold c28_0
   simp only [vmp,↓vmd,seval]
   exact gives_pure
end Go.Proofs.YtcjmkpkhjhjepaaGreat.W
