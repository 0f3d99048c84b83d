/-
  What a font may be: the document's functions of features, and of the whole. No condition.
-/
import Derived.Test.YtcjmkpkhjhjepaaGreatChk6
namespace Go.Proofs.YtcjmkpkhjhjepaaGreat.W
open Go Go.Vm Go.Proofs
set_option maxRecDepth 100000
set_option linter.unusedSimpArgs false
set_option maxHeartbeats 4000000
/-! typecase/typecaseref21.feats -/
def c29_0 : AC :=
 (.seq (.reg [oo 2 (.mov (nB true))])
 .ret)
def c29_1 : AC :=
 (.reg [oo 17 (.mov (.s 3)),
 oo 18 (.bin .add (.s 17) (nI 1)),
 oo 3 (.mov (.s 18))])
def c29_2 : AC :=
 (.seq (.seq (.reg [oo 80 (.mov (.s 7)),
 oo 81 (.mov (.s 3)),
 oo 82 (.bin .lss (.s 80) (.s 81))])
 (.cond (.s 82)
 .skip
 (.exit 6)))
 (.seq (.block 7
 (.seq (.regq [oo 85 (.fldA 4 (.s 1)),
 oo 86 (.load false 1 (.s 85)),
 oo 87 (.mov (.s 7)),
 oo 88 (.idxA 3 (.s 86) (.s 87)),
 oo 89 (.fldA 0 (.s 88)),
 oo 90 (.load false 1 (.s 89)),
 oo 91 (.fldA 0 (.s 4)),
 oo 92 (.load false 1 (.s 91)),
 oo 93 (.eqs false (.s 90) (.s 92)),
 oo 94 (.mov (.s 93)),
 og 95 94 true (.fldA 4 (.s 1)),
 og 96 94 true (.load false 1 (.s 95)),
 og 97 94 true (.mov (.s 7)),
 og 98 94 true (.idxA 3 (.s 96) (.s 97)),
 og 99 94 true (.fldA 1 (.s 98)),
 og 100 94 true (.load false 1 (.s 99)),
 og 101 94 true (.fldA 1 (.s 4)),
 og 102 94 true (.load false 1 (.s 101))]
[og 103 94 true (.bin .eql (.s 100) (.s 102)),
 oo 104 (.pick (.s 94) (.s 103) (nB false))])
 (.cond (.s 104)
 (.seq (.reg [oo 2 (.mov (nB false))])
 .ret)
 .skip)))
 (.reg [oo 83 (.mov (.s 7)),
 oo 84 (.bin .add (.s 83) (nI 1)),
 oo 7 (.mov (.s 84))])))
def c29_3 : AC :=
 (.seq (.reg [oo 7 (.mov (nI 0))])
 (.block 6
 (.loop c29_2)))
def c29_4 : AC :=
 (.seq (.seq (.reg [oo 62 (.mov (.s 6)),
 oo 63 (.fldA 2 (.s 4)),
 oo 64 (.load false 1 (.s 63)),
 oo 65 (.len (.s 64)),
 oo 66 (.bin .lss (.s 62) (.s 65))])
 (.cond (.s 66)
 .skip
 (.exit 4)))
 (.seq (.block 5
 (.seq (.regq [oo 69 (.fldA 2 (.s 4)),
 oo 70 (.load false 1 (.s 69)),
 oo 71 (.mov (.s 6)),
 oo 72 (.idxA 1 (.s 70) (.s 71)),
 oo 73 (.load false 1 (.s 72)),
 oo 74 (.fldA 3 (.s 1)),
 oo 75 (.load false 1 (.s 74)),
 oo 76 (.len (.s 75)),
 oo 77 (.bin .sub (.s 76) (nI 1))]
[oo 78 (.call 38 [(.s 73), (nI 0), (.s 77)]),
 oo 79 (.un .not (.s 78))])
 (.cond (.s 79)
 (.seq (.reg [oo 2 (.mov (nB false))])
 .ret)
 .skip)))
 (.reg [oo 67 (.mov (.s 6)),
 oo 68 (.bin .add (.s 67) (nI 1)),
 oo 6 (.mov (.s 68))])))
def c29_5 : AC :=
 (.seq (.seq (.reg [oo 6 (.mov (nI 0))])
 (.block 4
 (.loop c29_4)))
 c29_3)
def c29_6 : AC :=
 (.seq (.seq (.reg [oo 46 (.mov (.s 5)),
 oo 47 (.bin .lss (.s 46) (nI 4))])
 (.cond (.s 47)
 .skip
 (.exit 2)))
 (.seq (.block 3
 (.seq (.reg [oo 50 (.fldA 0 (.s 4)),
 oo 51 (.load false 1 (.s 50)),
 oo 52 (.mov (.s 5)),
 oo 53 (.idxS (.s 51) (.s 52)),
 oo 54 (.bin .lss (.s 53) (.c (.pure (.int .u8 33)))),
 oo 55 (.mov (.s 54)),
 og 56 55 false (.fldA 0 (.s 4)),
 og 57 55 false (.load false 1 (.s 56)),
 og 58 55 false (.mov (.s 5)),
 og 59 55 false (.idxS (.s 57) (.s 58)),
 og 60 55 false (.bin .gtr (.s 59) (.c (.pure (.int .u8 126)))),
 oo 61 (.pick (.s 55) (nB true) (.s 60))])
 (.cond (.s 61)
 (.seq (.reg [oo 2 (.mov (nB false))])
 .ret)
 .skip)))
 (.reg [oo 48 (.mov (.s 5)),
 oo 49 (.bin .add (.s 48) (nI 1)),
 oo 5 (.mov (.s 49))])))
def c29_7 : AC :=
 (.seq (.seq (.reg [oo 12 (.mov (.s 3)),
 oo 13 (.fldA 4 (.s 1)),
 oo 14 (.load false 1 (.s 13)),
 oo 15 (.len (.s 14)),
 oo 16 (.bin .lss (.s 12) (.s 15))])
 (.cond (.s 16)
 .skip
 (.exit 0)))
 (.seq (.block 1
 (.seq (.reg [oo 19 (.fldA 4 (.s 1)),
 oo 20 (.load false 1 (.s 19)),
 oo 21 (.mov (.s 3)),
 oo 22 (.idxA 3 (.s 20) (.s 21)),
 oo 23 (.load true 3 (.s 22)),
 oo 4 (.box (.c (.agg [(.pure (.str [])), (pI 0), .empty]))),
⟨none, none, .store 3 (.s 4) (.s 23)⟩])
 (.seq (.seq (.reg [oo 24 (.fldA 0 (.s 4)),
 oo 25 (.load false 1 (.s 24)),
 oo 26 (.lenS (.s 25)),
 oo 27 (.bin .neq (.s 26) (nI 4)),
 oo 28 (.mov (.s 27)),
 og 29 28 false (.fldA 1 (.s 4)),
 og 30 28 false (.load false 1 (.s 29)),
 og 31 28 false (.call 38 [(.s 30), (nI (-1)), (nI 11)]),
 og 32 28 false (.un .not (.s 31)),
 oo 33 (.pick (.s 28) (nB true) (.s 32)),
 oo 34 (.mov (.s 33)),
 og 35 34 false (.fldA 2 (.s 4)),
 og 36 34 false (.load false 1 (.s 35)),
 og 37 34 false (.len (.s 36)),
 og 38 34 false (.bin .gtr (.s 37) (nI 64)),
 oo 39 (.pick (.s 34) (nB true) (.s 38)),
 oo 40 (.mov (.s 39)),
 og 41 40 false (.fldA 2 (.s 4)),
 og 42 40 false (.load false 1 (.s 41)),
 og 43 40 false (.call 40 [(.s 42)]),
 og 44 40 false (.un .not (.s 43)),
 oo 45 (.pick (.s 40) (nB true) (.s 44))])
 (.cond (.s 45)
 (.seq (.reg [oo 2 (.mov (nB false))])
 .ret)
 .skip))
 (.seq (.seq (.reg [oo 5 (.mov (nI 0))])
 (.block 2
 (.loop c29_6)))
 c29_5))))
 c29_1))
def c29 : AC :=
 (.seq (.reg [oo 1 (.box (.s 0)),
 oo 2 (.mov (nB false))])
 (.seq (.seq (.reg [oo 8 (.fldA 4 (.s 1)),
 oo 9 (.load false 1 (.s 8)),
 oo 10 (.len (.s 9)),
 oo 11 (.bin .gtr (.s 10) (nI 64))])
 (.cond (.s 11)
 (.seq (.reg [oo 2 (.mov (nB false))])
 .ret)
 .skip))
 (.seq (.seq (.reg [oo 3 (.mov (nI 0))])
 (.block 0
 (.loop c29_7)))
 c29_0)))
theorem k29 : OkF 29 Tryz.f29 c29 [.t 2] 105 := ⟨Tryz.func29, by kernel_rfl, by kernel_rfl, by kernel_rfl, Tryz.ntmps29⟩
/-! typecase/typecaseref21.Check -/
def c17 : AC :=
 (.seq (.reg [oo 1 (.box (.s 0)),
 oo 2 (.mov (nI 0))])
 (.seq (.seq (.reg [oo 3 (.load true 6 (.s 1)),
 oo 4 (.call 26 [(.s 3)]),
 oo 5 (.mov (.s 4)),
 og 6 5 true (.load true 6 (.s 1)),
 og 7 5 true (.call 27 [(.s 6)]),
 oo 8 (.pick (.s 5) (.s 7) (nB false)),
 oo 9 (.mov (.s 8)),
 og 10 9 true (.load true 6 (.s 1)),
 og 11 9 true (.call 28 [(.s 10)]),
 oo 12 (.pick (.s 9) (.s 11) (nB false)),
 oo 13 (.mov (.s 12)),
 og 14 13 true (.load true 6 (.s 1)),
 og 15 13 true (.call 29 [(.s 14)]),
 oo 16 (.pick (.s 13) (.s 15) (nB false))])
 (.cond (.s 16)
 (.seq (.reg [oo 2 (.mov (nI 0))])
 .ret)
 .skip))
 (.seq (.reg [oo 2 (.mov (nI 12))])
 .ret)))
theorem k17 : OkF 17 Tryz.f17 c17 [.t 2] 17 := ⟨Tryz.func17, by kernel_rfl, by kernel_rfl, by kernel_rfl, Tryz.ntmps17⟩
theorem ftAt_eq {l : List Ft} {i : Nat} (h : i < l.length) : (l.map ft)[i]? = some (ft (ftAt l i)) := by
 rw [List.getElem?_map, ftAt, List.getElem?_eq_getElem h]; rfl
theorem tagAt_eq {l : List UInt8} {i : Nat} (h : i < l.length) : l[i]? = some ((l[i]?).getD 0) := by
 rw [List.getElem?_eq_getElem h]; rfl
theorem feats_q (F : Ff) (hF : F.lks.length ≤ 1000) : FnQ Tryz.prog 29 [ffV F] [.bool (featsB F)] := by
 refine k29.q (by simp) ?_
 unfold c29
 have hr : (decide (F.fts.length ≤ 64) && allFrom (featB F) F.fts.length 0) = featsB F := rfl
 generalize featsB F = out at *
 simp only [vmp,↓vmd,seval]
 refine onIf_intro fun _ => ?_
 (first | apply envO | apply envQ); simp only [vmp,↓vmd,seval]; rfl
 simp only [vmp,↓vmd,seval]
 refine onB_dec (fun h64 => ?_) (fun h64 => ?_)
 ·rw [decide_eq_false (show ¬ F.fts.length ≤ 64 by omega)] at hr
  simp only [bb] at hr
  subst hr
  simp only [h64, vmp,↓vmd,seval]
  exact gives_pure
 ·rw [decide_eq_true (show F.fts.length ≤ 64 by omega)] at hr
  simp only [bb] at hr
  simp only [h64, vmp,↓vmd,seval]
  refine loop_at (T := Nat) (fun i => [(3, .pure (I (i : Int))), (1, .ptr 0 0 0)]) (fun _ => [⟨[.pure (ffV F)], 6, .live⟩]) (fun i => i ≤ F.fts.length ∧ allFrom (featB F) (F.fts.length - i) i = out) (fun i => F.fts.length - i)
   0 [0] (by simp) rfl ⟨by simp, hr⟩ (by simp only [kpp,seval]) (by simp only [kpp,seval]) ?_
  rintro i ⟨hi, hr⟩
  unfold c29_7
  simp only [vmp,↓vmd,seval]
  refine onIf_intro fun _ => ?_
  (first | apply envO | apply envQ); simp only [vmp,↓vmd,seval]; rfl
  simp only [vmp,↓vmd,seval]
  refine onB_dec (fun h1 => ?_) (fun h1 => ?_)
  ·have hlt : i < F.fts.length := by omega
   rw [allFrom_step hlt, featB] at hr
   have hgi : (F.fts.map ft)[i]? = some (ft (ftAt F.fts i)) := ftAt_eq hlt
   generalize ftAt F.fts i = x at hr hgi
   simp only [h1, hgi, Int.natCast_nonneg, vmp,↓vmd,seval]
   refine onIf_intro fun _ => ?_
   (first | apply envO | apply envQ); simp only [vmp,↓vmd,seval]; rfl
   simp only [vmp,↓vmd,seval]
   refine onB_dec (fun h2 => ?_) (fun h2 => ?_)
   ·rw [decide_eq_false (show ¬ x.tag.length = 4 by omega)] at hr
    simp only [bb] at hr
    subst hr
    (first | apply envO | apply envQ); simp only [h2, vmp,↓vmd,seval]; rfl
    simp only [h2, vmp,↓vmd,seval]
    exact gives_pure
   ·have htag : x.tag.length = 4 := by omega
    rw [decide_eq_true htag] at hr
    have h2d : decide (¬ (x.tag.length : Int) = 4) = false := decide_eq_false h2
    simp only [bb] at hr
    (first | apply envO | apply envQ); simp only [h2d, vmp,↓vmd,seval]; rfl
    simp only [vmp,↓vmd,seval]
    refine onC_q (within_q x.script (-1) 11) rfl ?_
    generalize withB x.script (-1) 11 = b at *
    cases b with
    | false =>
     simp only [bb] at hr
     subst hr
     (first | apply envO | apply envQ); simp only [vmp,↓vmd,seval]; rfl
     simp only [vmp,↓vmd,seval]
     exact gives_pure
    | true =>
     simp only [bb] at hr
     (first | apply envO | apply envQ); simp only [vmp,↓vmd,seval]; rfl
     simp only [vmp,↓vmd,seval]
     refine onIf_intro fun _ => ?_
     (first | apply envO | apply envQ); simp only [vmp,↓vmd,seval]; rfl
     simp only [vmp,↓vmd,seval]
     refine onB_dec (fun h3 => ?_) (fun h3 => ?_)
     ·rw [decide_eq_false (show ¬ x.lks.length ≤ 64 by omega)] at hr
      simp only [bb] at hr
      subst hr
      (first | apply envO | apply envQ); simp only [h3, vmp,↓vmd,seval]; rfl
      simp only [h3, vmp,↓vmd,seval]
      exact gives_pure
     ·rw [decide_eq_true (show x.lks.length ≤ 64 by omega)] at hr
      simp only [bb] at hr
      (first | apply envO | apply envQ); simp only [h3, vmp,↓vmd,seval]; rfl
      simp only [h3, vmp,↓vmd,seval]
      refine onC_q (rises_q x.lks) rfl ?_
      generalize risesB x.lks = b at *
      cases b with
      | false =>
       simp only [bb] at hr
       subst hr
       (first | apply envO | apply envQ); simp only [vmp,↓vmd,seval]; rfl
       simp only [vmp,↓vmd,seval]
       exact gives_pure
      | true =>
       simp only [bb] at hr
       (first | apply envO | apply envQ); simp only [vmp,↓vmd,seval]; rfl
       simp only [vmp,↓vmd,seval]
       have ht : (allFrom (chB x.tag) (4 - 0) 0 && (x.lks.all fun n => withB n 0 ((F.lks.length : Int) - 1)) && allFrom (fun k => !(decide ((ftAt F.fts k).tag = x.tag) && decide ((ftAt F.fts k).script = x.script))) i 0 && allFrom (featB F) (F.fts.length - (i + 1)) (i + 1)) = out := hr
       refine loop_at (T := Nat) (fun k => [(5, .pure (I (k : Int))), (3, .pure (I (i : Int))), (1, .ptr 0 0 0), (4, .ptr 1 0 0)]) (fun _ => [⟨[.pure (ffV F)], 6, .live⟩, ⟨[.pure (ft x)], 3, .live⟩]) (fun k => k ≤ 4 ∧ (allFrom (chB x.tag) (4 - k) k && (x.lks.all fun n => withB n 0 ((F.lks.length : Int) - 1)) && allFrom (fun k => !(decide ((ftAt F.fts k).tag = x.tag) && decide ((ftAt F.fts k).script = x.script))) i 0 && allFrom (featB F) (F.fts.length - (i + 1)) (i + 1)) = out) (fun k => 4 - k)
        0 [0, 1] (by simp) rfl ⟨by simp, ht⟩ (by simp only [kpp,seval]) (by simp only [kpp,seval]) ?_
       rintro k ⟨hk, ht⟩
       unfold c29_6
       simp only [vmp,↓vmd,seval]
       refine onB_dec (fun h5 => ?_) (fun h5 => ?_)
       ·have hlk : k < 4 := by omega
        rw [allFrom_step hlk, chB] at ht
        have hgk := tagAt_eq (l := x.tag) (i := k) (by omega)
        generalize (x.tag[k]?).getD 0 = z at ht hgk
        simp only [h5, hgk, Int.natCast_nonneg, vmp,↓vmd,seval]
        refine onB_dec (fun e1 => ?_) (fun e1 => ?_)
        ·rw [decide_eq_true e1] at ht
         simp only [bb] at ht
         subst ht
         (first | apply envO | apply envQ); simp only [e1, vmp,↓vmd,seval]; rfl
         simp only [e1, vmp,↓vmd,seval]
         exact gives_pure
        ·rw [decide_eq_false e1] at ht
         simp only [bb] at ht
         (first | apply envO | apply envQ); simp only [e1, vmp,↓vmd,seval]; rfl
         simp only [e1, Bool.false_eq_true, if_false, hgk, Int.natCast_nonneg, vmp,↓vmd,seval]
         refine onB_dec (fun e2 => ?_) (fun e2 => ?_)
         ·rw [decide_eq_true e2] at ht
          simp only [bb] at ht
          subst ht
          (first | apply envO | apply envQ); simp only [e2, vmp,↓vmd,seval]; rfl
          simp only [e2, vmp,↓vmd,seval]
          exact gives_pure
         ·rw [decide_eq_false e2] at ht
          simp only [bb] at ht
          (first | apply envO | apply envQ); simp only [e2, vmp,↓vmd,seval]; rfl
          simp only [e2, vmp,↓vmd,seval]
          refine onBk_to (k + 1) [0, 1] (by simp) rfl (by omega) ⟨hlk, ht⟩ (by simp only [next_at hlk (by omega), kpp,seval]) (by simp only [kpp,seval])
       ·rw [allFrom_end (by omega), Bool.true_and] at ht
        simp only [h5, vmp,↓vmd,seval]
        unfold c29_5
        simp only [vmp,↓vmd,seval]
        refine loop_at (T := Nat) (fun k => [(6, .pure (I (k : Int))), (3, .pure (I (i : Int))), (1, .ptr 0 0 0), (4, .ptr 1 0 0)]) (fun _ => [⟨[.pure (ffV F)], 6, .live⟩, ⟨[.pure (ft x)], 3, .live⟩]) (fun k => k ≤ x.lks.length ∧ (((x.lks.drop k).all fun n => withB n 0 ((F.lks.length : Int) - 1)) && allFrom (fun k => !(decide ((ftAt F.fts k).tag = x.tag) && decide ((ftAt F.fts k).script = x.script))) i 0 && allFrom (featB F) (F.fts.length - (i + 1)) (i + 1)) = out) (fun k => x.lks.length - k)
         0 [0, 1] (by simp) rfl ⟨by simp, ht⟩ (by simp only [kpp,seval]) (by simp only [kpp,seval]) ?_
        rintro k ⟨hk, ht⟩
        unfold c29_4
        simp only [vmp,↓vmd,seval]
        refine onIf_intro fun _ => ?_
        (first | apply envO | apply envQ); simp only [vmp,↓vmd,seval]; rfl
        simp only [vmp,↓vmd,seval]
        refine onB_dec (fun h7 => ?_) (fun h7 => ?_)
        ·have hlk : k < x.lks.length := by omega
         rw [drop_at hlk, List.all_cons] at ht
         have hgk : (x.lks.map I)[k]? = some (I x.lks[k]) := map_at hlk
         generalize x.lks[k] = z at ht hgk
         have hw : IntKind.wrap .i64 ((F.lks.length : Int) - 1) = (F.lks.length : Int) - 1 := wrap_id (by omega) (by omega)
         simp only [h7, hgk, hw, Int.natCast_nonneg, vmp,↓vmd,seval]
         refine onC_q (within_q z 0 ((F.lks.length : Int) - 1)) rfl ?_
         generalize withB z 0 ((F.lks.length : Int) - 1) = b at *
         cases b with
         | false =>
          simp only [bb] at ht
          subst ht
          (first | apply envO | apply envQ); simp only [vmp,↓vmd,seval]; rfl
          simp only [vmp,↓vmd,seval]
          exact gives_pure
         | true =>
          simp only [bb] at ht
          (first | apply envO | apply envQ); simp only [vmp,↓vmd,seval]; rfl
          simp only [vmp,↓vmd,seval]
          refine onBk_to (k + 1) [0, 1] (by simp) rfl (by omega) ⟨hlk, ht⟩ (by simp only [next_at hlk (by omega), kpp,seval]) (by simp only [kpp,seval])
        ·rw [List.drop_of_length_le (by omega), List.all_nil, Bool.true_and] at ht
         simp only [h7, vmp,↓vmd,seval]
         unfold c29_3
         simp only [vmp,↓vmd,seval]
         have ht : (allFrom (fun k => !(decide ((ftAt F.fts k).tag = x.tag) && decide ((ftAt F.fts k).script = x.script))) (i - 0) 0 && allFrom (featB F) (F.fts.length - (i + 1)) (i + 1)) = out := ht
         refine loop_at (T := Nat) (fun k => [(7, .pure (I (k : Int))), (3, .pure (I (i : Int))), (1, .ptr 0 0 0), (4, .ptr 1 0 0)]) (fun _ => [⟨[.pure (ffV F)], 6, .live⟩, ⟨[.pure (ft x)], 3, .live⟩]) (fun k => k ≤ i ∧ (allFrom (fun k => !(decide ((ftAt F.fts k).tag = x.tag) && decide ((ftAt F.fts k).script = x.script))) (i - k) k && allFrom (featB F) (F.fts.length - (i + 1)) (i + 1)) = out) (fun k => i - k)
          0 [0, 1] (by simp) rfl ⟨by simp, ht⟩ (by simp only [kpp,seval]) (by simp only [kpp,seval]) ?_
         rintro k ⟨hk, hu⟩
         unfold c29_2
         simp only [vmp,↓vmd,seval]
         refine onB_dec (fun h8 => ?_) (fun h8 => ?_)
         ·have hlk : k < i := by omega
          rw [allFrom_step hlk] at hu
          have hgk : (F.fts.map ft)[k]? = some (ft (ftAt F.fts k)) := ftAt_eq (by omega)
          generalize ftAt F.fts k = z at hu hgk
          simp only [h8, hgk, Int.natCast_nonneg, vmp,↓vmd,seval]
          by_cases e1 : z.tag = x.tag
          ·have e1' : (z.tag == x.tag) = true := by simp [e1]
           rw [decide_eq_true e1] at hu
           refine onB_t e1' ?_
           (first | apply envO | apply envQ); simp only [e1', vmp,↓vmd,seval]; rfl
           simp only [hgk, Int.natCast_nonneg, vmp,↓vmd,seval]
           refine onB_dec (fun e2 => ?_) (fun e2 => ?_)
           ·rw [decide_eq_true e2] at hu
            simp only [bb] at hu
            subst hu
            simp only [e2, vmp,↓vmd,seval]
            exact gives_pure
           ·rw [decide_eq_false e2] at hu
            simp only [bb] at hu
            simp only [e2, vmp,↓vmd,seval]
            refine onBk_to (k + 1) [0, 1] (by simp) rfl (by omega) ⟨hlk, hu⟩ (by simp only [next_at hlk (by omega), kpp,seval]) (by simp only [kpp,seval])
          ·have e1' : (z.tag == x.tag) = false := by simp [e1]
           rw [decide_eq_false e1] at hu
           simp only [bb] at hu
           refine onB_f e1' ?_
           (first | apply envO | apply envQ); simp only [e1', vmp,↓vmd,seval]; rfl
           simp only [vmp,↓vmd,seval]
           refine onBk_to (k + 1) [0, 1] (by simp) rfl (by omega) ⟨hlk, hu⟩ (by simp only [next_at hlk (by omega), kpp,seval]) (by simp only [kpp,seval])
         ·rw [allFrom_end (by omega), Bool.true_and] at hu
          simp only [h8, vmp,↓vmd,seval]
          unfold c29_1
          simp only [vmp,↓vmd,seval]
          refine onBk_to (i + 1) [0] (by simp) rfl (by omega) ⟨hlt, hu⟩ (by simp only [next_at hlt (by omega), kpp,seval]) (by simp only [kpp,seval])
  ·rw [allFrom_end (by omega)] at hr
   subst hr
   simp only [h1, vmp,↓vmd,seval]
   unfold c29_0
   simp only [vmp,↓vmd,seval]
   exact gives_pure
theorem check_q (F : Ff) : FnQ Tryz.prog 17 [ffV F] [I (checkF F)] := by
 refine k17.q (by simp) ?_
 unfold c17
 have hr : (if (glyphsB F && mapsB F && lookupsB F && featsB F) = true then (0 : Int) else 12) = checkF F := rfl
 generalize checkF F = out at *
 simp only [vmp,↓vmd,seval]
 refine onC_q (glyphs_q F) rfl ?_
 cases hb : glyphsB F with
 | false =>
  rw [hb] at hr
  simp only [bb, Bool.false_eq_true, if_false] at hr
  subst hr
  (first | apply envO | apply envQ); simp only [vmp,↓vmd,seval]; rfl
  simp only [vmp,↓vmd,seval]
  exact gives_pure
 | true =>
  rw [hb] at hr
  simp only [bb] at hr
  (first | apply envO | apply envQ); simp only [vmp,↓vmd,seval]; rfl
  simp only [vmp,↓vmd,seval]
  clear hb
  refine onC_q (maps_q F) rfl ?_
  cases hb : mapsB F with
  | false =>
   rw [hb] at hr
   simp only [bb, Bool.false_eq_true, if_false] at hr
   subst hr
   (first | apply envO | apply envQ); simp only [vmp,↓vmd,seval]; rfl
   simp only [vmp,↓vmd,seval]
   exact gives_pure
  | true =>
   rw [hb] at hr
   simp only [bb] at hr
   (first | apply envO | apply envQ); simp only [vmp,↓vmd,seval]; rfl
   simp only [vmp,↓vmd,seval]
   clear hb
   refine onC_q (lookups_q F) rfl ?_
   cases hb : lookupsB F with
   | false =>
    rw [hb] at hr
    simp only [bb, Bool.false_eq_true, if_false] at hr
    subst hr
    (first | apply envO | apply envQ); simp only [vmp,↓vmd,seval]; rfl
    simp only [vmp,↓vmd,seval]
    exact gives_pure
   | true =>
    rw [hb] at hr
    simp only [bb] at hr
    (first | apply envO | apply envQ); simp only [vmp,↓vmd,seval]; rfl
    simp only [vmp,↓vmd,seval]
    have h64 : F.lks.length ≤ 64 := by
     simp only [lookupsB, Bool.and_eq_true, decide_eq_true_eq] at hb
     exact hb.1
    clear hb
    refine onC_q (feats_q F (by omega)) rfl ?_
    cases hb : featsB F with
    | false =>
     rw [hb] at hr
     simp only [bb, Bool.false_eq_true, if_false] at hr
     subst hr
     (first | apply envO | apply envQ); simp only [vmp,↓vmd,seval]; rfl
     simp only [vmp,↓vmd,seval]
     exact gives_pure
    | true =>
     rw [hb] at hr
     simp only [bb] at hr
     (first | apply envO | apply envQ); simp only [vmp,↓vmd,seval]; rfl
     simp only [vmp,↓vmd,seval]
     simp only [if_true] at hr
     subst hr
     exact gives_pure
end Go.Proofs.YtcjmkpkhjhjepaaGreat.W
