/-
  What a font may be: the document's functions, of pairs, hanging glyphs and marks. No condition.
-/
import Derived.Test.YtcjmkpkhjhjepaaGreatChk2
namespace Go.Proofs.YtcjmkpkhjhjepaaGreat.W
open Go Go.Vm Go.Proofs
set_option maxRecDepth 100000
set_option linter.unusedSimpArgs false
set_option maxHeartbeats 4000000
/-! typecase/typecaseref21.pairs -/
def c69_0 : AC :=
 (.seq (.reg [oo 76 (.mov (.s 1)),
 oo 77 (.len (.s 76)),
 oo 78 (.bin .leq (.s 77) (nI 4096)),
 oo 4 (.mov (.s 78))])
 .ret)
def c69_1 : AC :=
 (.seq (.seq (.reg [oo 7 (.mov (.s 5)),
 oo 8 (.mov (.s 1)),
 oo 9 (.len (.s 8)),
 oo 10 (.bin .lss (.s 7) (.s 9))])
 (.cond (.s 10)
 .skip
 (.exit 0)))
 (.seq (.block 1
 (.seq (.reg [oo 13 (.mov (.s 1)),
 oo 14 (.mov (.s 5)),
 oo 15 (.idxA 8 (.s 13) (.s 14)),
 oo 16 (.load true 8 (.s 15)),
 oo 6 (.box (.c (.pure (.agg [(.int .i64 0), (.int .i64 0), (.int .i64 0), (.int .i64 0), (.int .i64 0), (.int .i64 0), (.int .i64 0), (.int .i64 0)])))),
⟨none, none, .store 8 (.s 6) (.s 16)⟩])
 (.seq (.seq (.reg [oo 17 (.load true 6 (.s 2)),
 oo 18 (.fldA 0 (.s 6)),
 oo 19 (.load false 1 (.s 18)),
 oo 20 (.call 42 [(.s 17), (.s 19)]),
 oo 21 (.un .not (.s 20)),
 oo 22 (.mov (.s 21)),
 og 23 22 false (.load true 6 (.s 2)),
 og 24 22 false (.fldA 1 (.s 6)),
 og 25 22 false (.load false 1 (.s 24)),
 og 26 22 false (.call 42 [(.s 23), (.s 25)]),
 og 27 22 false (.un .not (.s 26)),
 oo 28 (.pick (.s 22) (nB true) (.s 27)),
 oo 29 (.mov (.s 28)),
 og 30 29 false (.fldA 2 (.s 6)),
 og 31 29 false (.load true 3 (.s 30)),
 og 32 29 false (.call 68 [(.s 31)]),
 og 33 29 false (.un .not (.s 32)),
 oo 34 (.pick (.s 29) (nB true) (.s 33)),
 oo 35 (.mov (.s 34)),
 og 36 35 false (.fldA 5 (.s 6)),
 og 37 35 false (.load true 3 (.s 36)),
 og 38 35 false (.call 68 [(.s 37)]),
 og 39 35 false (.un .not (.s 38)),
 oo 40 (.pick (.s 35) (nB true) (.s 39))])
 (.cond (.s 40)
 (.seq (.reg [oo 4 (.mov (nB false))])
 .ret)
 .skip))
 (.seq (.regq [oo 41 (.mov (.s 5)),
 oo 42 (.bin .gtr (.s 41) (nI 0)),
 oo 43 (.mov (.s 42)),
 og 44 43 true (.fldA 0 (.s 6)),
 og 45 43 true (.load false 1 (.s 44)),
 og 46 43 true (.mov (.s 1)),
 og 47 43 true (.mov (.s 5)),
 og 48 43 true (.bin .sub (.s 47) (nI 1)),
 og 49 43 true (.idxA 8 (.s 46) (.s 48)),
 og 50 43 true (.fldA 0 (.s 49)),
 og 51 43 true (.load false 1 (.s 50)),
 og 52 43 true (.bin .lss (.s 45) (.s 51)),
 og 53 43 true (.mov (.s 52)),
 og 54 53 false (.fldA 0 (.s 6)),
 og 55 53 false (.load false 1 (.s 54)),
 og 56 53 false (.mov (.s 1)),
 og 57 53 false (.mov (.s 5)),
 og 58 53 false (.bin .sub (.s 57) (nI 1)),
 og 59 53 false (.idxA 8 (.s 56) (.s 58)),
 og 60 53 false (.fldA 0 (.s 59)),
 og 61 53 false (.load false 1 (.s 60)),
 og 62 53 false (.bin .eql (.s 55) (.s 61)),
 og 63 53 false (.mov (.s 62)),
 og 64 63 true (.fldA 1 (.s 6)),
 og 65 63 true (.load false 1 (.s 64)),
 og 66 63 true (.mov (.s 1)),
 og 67 63 true (.mov (.s 5)),
 og 68 63 true (.bin .sub (.s 67) (nI 1)),
 og 69 63 true (.idxA 8 (.s 66) (.s 68)),
 og 70 63 true (.fldA 1 (.s 69)),
 og 71 63 true (.load false 1 (.s 70))]
[og 72 63 true (.bin .leq (.s 65) (.s 71)),
 og 73 53 false (.pick (.s 63) (.s 72) (nB false)),
 og 74 43 true (.pick (.s 53) (nB true) (.s 73)),
 oo 75 (.pick (.s 43) (.s 74) (nB false))])
 (.cond (.s 75)
 (.seq (.reg [oo 4 (.mov (nB false))])
 .ret)
 .skip)))))
 (.reg [oo 11 (.mov (.s 5)),
 oo 12 (.bin .add (.s 11) (nI 1)),
 oo 5 (.mov (.s 12))])))
def c69 : AC :=
 (.seq (.reg [oo 2 (.box (.s 0)),
 oo 4 (.mov (nB false))])
 (.seq (.seq (.reg [oo 5 (.mov (nI 0))])
 (.block 0
 (.loop c69_1)))
 c69_0))
theorem k69 : OkF 69 Tryz.f69 c69 [.t 4] 79 := ⟨Tryz.func69, by kernel_rfl, by kernel_rfl, by kernel_rfl, Tryz.ntmps69⟩
/-! typecase/typecaseref21.curs -/
def c70_0 : AC :=
 (.seq (.reg [oo 53 (.mov (.s 1)),
 oo 54 (.len (.s 53)),
 oo 55 (.bin .leq (.s 54) (nI 4096)),
 oo 4 (.mov (.s 55))])
 .ret)
def c70_1 : AC :=
 (.seq (.seq (.reg [oo 7 (.mov (.s 5)),
 oo 8 (.mov (.s 1)),
 oo 9 (.len (.s 8)),
 oo 10 (.bin .lss (.s 7) (.s 9))])
 (.cond (.s 10)
 .skip
 (.exit 0)))
 (.seq (.block 1
 (.seq (.reg [oo 13 (.mov (.s 1)),
 oo 14 (.mov (.s 5)),
 oo 15 (.idxA 7 (.s 13) (.s 14)),
 oo 16 (.load true 7 (.s 15)),
 oo 6 (.box (.c (.pure (.agg [(.int .i64 0), (.bool false), (.bool false), (.int .i64 0), (.int .i64 0), (.int .i64 0), (.int .i64 0)])))),
⟨none, none, .store 7 (.s 6) (.s 16)⟩])
 (.seq (.regq [oo 17 (.load true 6 (.s 2)),
 oo 18 (.fldA 0 (.s 6)),
 oo 19 (.load false 1 (.s 18)),
 oo 20 (.call 42 [(.s 17), (.s 19)]),
 oo 21 (.un .not (.s 20)),
 oo 22 (.mov (.s 21)),
 og 23 22 false (.fldA 3 (.s 6)),
 og 24 22 false (.load true 2 (.s 23)),
 og 25 22 false (.fldA 1 (.s 6)),
 og 26 22 false (.load false 1 (.s 25)),
 og 27 22 false (.call 100 [(.s 24), (.s 26)]),
 og 28 22 false (.un .not (.s 27)),
 oo 29 (.pick (.s 22) (nB true) (.s 28)),
 oo 30 (.mov (.s 29)),
 og 31 30 false (.fldA 5 (.s 6)),
 og 32 30 false (.load true 2 (.s 31)),
 og 33 30 false (.fldA 2 (.s 6)),
 og 34 30 false (.load false 1 (.s 33)),
 og 35 30 false (.call 100 [(.s 32), (.s 34)]),
 og 36 30 false (.un .not (.s 35)),
 oo 37 (.pick (.s 30) (nB true) (.s 36)),
 oo 38 (.mov (.s 37)),
 og 39 38 false (.mov (.s 5)),
 og 40 38 false (.bin .gtr (.s 39) (nI 0)),
 og 41 38 false (.mov (.s 40)),
 og 42 41 true (.fldA 0 (.s 6)),
 og 43 41 true (.load false 1 (.s 42)),
 og 44 41 true (.mov (.s 1)),
 og 45 41 true (.mov (.s 5)),
 og 46 41 true (.bin .sub (.s 45) (nI 1)),
 og 47 41 true (.idxA 7 (.s 44) (.s 46)),
 og 48 41 true (.fldA 0 (.s 47)),
 og 49 41 true (.load false 1 (.s 48))]
[og 50 41 true (.bin .leq (.s 43) (.s 49)),
 og 51 38 false (.pick (.s 41) (.s 50) (nB false)),
 oo 52 (.pick (.s 38) (nB true) (.s 51))])
 (.cond (.s 52)
 (.seq (.reg [oo 4 (.mov (nB false))])
 .ret)
 .skip))))
 (.reg [oo 11 (.mov (.s 5)),
 oo 12 (.bin .add (.s 11) (nI 1)),
 oo 5 (.mov (.s 12))])))
def c70 : AC :=
 (.seq (.reg [oo 2 (.box (.s 0)),
 oo 4 (.mov (nB false))])
 (.seq (.seq (.reg [oo 5 (.mov (nI 0))])
 (.block 0
 (.loop c70_1)))
 c70_0))
theorem k70 : OkF 70 Tryz.f70 c70 [.t 4] 56 := ⟨Tryz.func70, by kernel_rfl, by kernel_rfl, by kernel_rfl, Tryz.ntmps70⟩
theorem prAt_eq {l : List Pr} {i : Nat} (h : i < l.length) : (l.map pr)[i]? = some (pr (prAt l i)) := by
 rw [List.getElem?_map, prAt, List.getElem?_eq_getElem h]; rfl
theorem cuAt_eq {l : List Cu} {i : Nat} (h : i < l.length) : (l.map cu)[i]? = some (cu (cuAt l i)) := by
 rw [List.getElem?_map, cuAt, List.getElem?_eq_getElem h]; rfl
theorem mkAt_eq {l : List Mk} {i : Nat} (h : i < l.length) : (l.map mk)[i]? = some (mk (mkAt l i)) := by
 rw [List.getElem?_map, mkAt, List.getElem?_eq_getElem h]; rfl
theorem hoAt_eq {l : List Ho} {i : Nat} (h : i < l.length) : (l.map ho)[i]? = some (ho (hoAt l i)) := by
 rw [List.getElem?_map, hoAt, List.getElem?_eq_getElem h]; rfl
theorem pairs_q (F : Ff) (l : List Pr) : FnQ Tryz.prog 69 [ffV F, .sl (l.map pr)] [.bool (pairsB F l)] := by
 refine k69.q (by simp) ?_
 unfold c69
 have hr : (allFrom (pairB F l) l.length 0 && decide (l.length ≤ 4096)) = pairsB F l := rfl
 generalize pairsB F l = out at *
 simp only [vmp,↓vmd,seval]
 refine loop_at (T := Nat) (fun i => [(5, .pure (I (i : Int))), (1, .pure (.sl (l.map pr))), (2, .ptr 0 0 0)]) (fun _ => [⟨[.pure (ffV F)], 6, .live⟩]) (fun i => i ≤ l.length ∧ (allFrom (pairB F l) (l.length - i) i && decide (l.length ≤ 4096)) = out) (fun i => l.length - i)
  0 [0] (by simp) rfl ⟨by simp, hr⟩ (by simp only [kpp,seval]) (by simp only [kpp,seval]) ?_
 rintro i ⟨hi, hr⟩
 unfold c69_1
 simp only [vmp,↓vmd,seval]
 refine onIf_intro fun _ => ?_
 (first | apply envO | apply envQ); simp only [vmp,↓vmd,seval]; rfl
 simp only [vmp,↓vmd,seval]
 refine onB_dec (fun h1 => ?_) (fun h1 => ?_)
 ·have hlt : i < l.length := by omega
  rw [allFrom_step hlt, pairB] at hr
  have hgi : (l.map pr)[i]? = some (pr (prAt l i)) := prAt_eq hlt
  simp only [h1, hgi, Int.natCast_nonneg, vmp,↓vmd,seval]
  refine onC_q (there_q F (prAt l i).a) rfl ?_
  generalize thereB F (prAt l i).a = b at *
  cases b with
  | false =>
   simp only [bb] at hr
   subst hr
   (first | apply envO | apply envQ); simp only [vmp,↓vmd,seval]; rfl
   simp only [vmp,↓vmd,seval]
   exact gives_pure
  | true =>
   simp only [bb] at hr
   (first | apply envO | apply envQ); simp only [vmp,↓vmd,seval]; rfl
   simp only [vmp,↓vmd,seval]
   refine onC_q (there_q F (prAt l i).b) rfl ?_
   generalize thereB F (prAt l i).b = b at *
   cases b with
   | false =>
    simp only [bb] at hr
    subst hr
    (first | apply envO | apply envQ); simp only [vmp,↓vmd,seval]; rfl
    simp only [vmp,↓vmd,seval]
    exact gives_pure
   | true =>
    simp only [bb] at hr
    (first | apply envO | apply envQ); simp only [vmp,↓vmd,seval]; rfl
    simp only [vmp,↓vmd,seval]
    refine onC_q (value_q (prAt l i).x) rfl ?_
    generalize valueB (prAt l i).x = b at *
    cases b with
    | false =>
     simp only [bb] at hr
     subst hr
     (first | apply envO | apply envQ); simp only [vmp,↓vmd,seval]; rfl
     simp only [vmp,↓vmd,seval]
     exact gives_pure
    | true =>
     simp only [bb] at hr
     (first | apply envO | apply envQ); simp only [vmp,↓vmd,seval]; rfl
     simp only [vmp,↓vmd,seval]
     refine onC_q (value_q (prAt l i).y) rfl ?_
     generalize valueB (prAt l i).y = b at *
     cases b with
     | false =>
      simp only [bb] at hr
      subst hr
      (first | apply envO | apply envQ); simp only [vmp,↓vmd,seval]; rfl
      simp only [vmp,↓vmd,seval]
      exact gives_pure
     | true =>
      simp only [bb] at hr
      (first | apply envO | apply envQ); simp only [vmp,↓vmd,seval]; rfl
      simp only [vmp,↓vmd,seval]
      by_cases h2 : i = 0
      ·have h2' : ¬ (0 : Int) < (i : Int) := by omega
       rw [decide_eq_true h2] at hr
       simp only [bb] at hr
       refine onB_neg h2' ?_
       (first | apply envO | apply envQ); simp only [h2', vmp,↓vmd,seval]; rfl
       simp only [vmp,↓vmd,seval]
       refine onBk_to (i + 1) [0] (by simp) rfl (by omega) ⟨hlt, hr⟩ (by simp only [next_at hlt (by omega), kpp,seval]) (by simp only [kpp,seval])
      ·have h2' : (0 : Int) < (i : Int) := by omega
       rw [decide_eq_false h2] at hr
       simp only [bb] at hr
       have hgp : (l.map pr)[i - 1]? = some (pr (prAt l (i - 1))) := prAt_eq (by omega)
       have hw : IntKind.wrap .i64 ((i : Int) - 1) = ((i - 1 : Nat) : Int) := by rw [wrap_id (by omega) (by omega)]; omega
       refine onB_pos h2' ?_
       (first | apply envO | apply envQ); simp only [h2', vmp,↓vmd,seval]; rfl
       simp only [hw, hgp, Int.natCast_nonneg, Int.toNat_natCast, vmp,↓vmd,seval]
       refine onB_dec (fun h3 => ?_) (fun h3 => ?_)
       ·rw [decide_eq_true h3] at hr
        simp only [bb] at hr
        subst hr
        (first | apply envO | apply envQ); simp only [h3, vmp,↓vmd,seval]; rfl
        simp only [h3, vmp,↓vmd,seval]
        exact gives_pure
       ·rw [decide_eq_false h3] at hr
        simp only [bb] at hr
        (first | apply envO | apply envQ); simp only [h3, vmp,↓vmd,seval]; rfl
        simp only [hw, hgp, Int.natCast_nonneg, Int.toNat_natCast, vmp,↓vmd,seval]
        refine onB_dec (fun h4 => ?_) (fun h4 => ?_)
        ·rw [decide_eq_true h4] at hr
         simp only [bb] at hr
         have h4d : decide ((prAt l i).a = (prAt l (i - 1)).a) = true := decide_eq_true h4
         (first | apply envO | apply envQ); simp only [h4d, vmp,↓vmd,seval]; rfl
         simp only [hw, hgp, Int.natCast_nonneg, Int.toNat_natCast, vmp,↓vmd,seval]
         refine onB_dec (fun h5 => ?_) (fun h5 => ?_)
         ·rw [decide_eq_true h5] at hr
          simp only [bb] at hr
          subst hr
          simp only [h5, vmp,↓vmd,seval]
          exact gives_pure
         ·rw [decide_eq_false h5] at hr
          simp only [bb] at hr
          simp only [h5, vmp,↓vmd,seval]
          refine onBk_to (i + 1) [0] (by simp) rfl (by omega) ⟨hlt, hr⟩ (by simp only [next_at hlt (by omega), kpp,seval]) (by simp only [kpp,seval])
        ·rw [decide_eq_false h4] at hr
         simp only [bb] at hr
         (first | apply envO | apply envQ); simp only [h4, vmp,↓vmd,seval]; rfl
         simp only [h4, vmp,↓vmd,seval]
         refine onBk_to (i + 1) [0] (by simp) rfl (by omega) ⟨hlt, hr⟩ (by simp only [next_at hlt (by omega), kpp,seval]) (by simp only [kpp,seval])
 ·rw [allFrom_end (by omega), Bool.true_and] at hr
  subst hr
  simp only [h1, vmp,↓vmd,seval]
  unfold c69_0
  simp only [vmp,↓vmd,seval]
  refine onIf_intro fun _ => ?_
  (first | apply envO | apply envQ); simp only [vmp,↓vmd,seval]; rfl
  simp only [vmp,↓vmd,seval]
  rw [show decide ((l.length : Int) ≤ 4096) = decide (l.length ≤ 4096) by rw [decide_eq_decide]; omega]
  exact gives_pure
theorem curs_q (F : Ff) (l : List Cu) : FnQ Tryz.prog 70 [ffV F, .sl (l.map cu)] [.bool (cursB F l)] := by
 refine k70.q (by simp) ?_
 unfold c70
 have hr : (allFrom (curB F l) l.length 0 && decide (l.length ≤ 4096)) = cursB F l := rfl
 generalize cursB F l = out at *
 simp only [vmp,↓vmd,seval]
 refine loop_at (T := Nat) (fun i => [(5, .pure (I (i : Int))), (1, .pure (.sl (l.map cu))), (2, .ptr 0 0 0)]) (fun _ => [⟨[.pure (ffV F)], 6, .live⟩]) (fun i => i ≤ l.length ∧ (allFrom (curB F l) (l.length - i) i && decide (l.length ≤ 4096)) = out) (fun i => l.length - i)
  0 [0] (by simp) rfl ⟨by simp, hr⟩ (by simp only [kpp,seval]) (by simp only [kpp,seval]) ?_
 rintro i ⟨hi, hr⟩
 unfold c70_1
 simp only [vmp,↓vmd,seval]
 refine onIf_intro fun _ => ?_
 (first | apply envO | apply envQ); simp only [vmp,↓vmd,seval]; rfl
 simp only [vmp,↓vmd,seval]
 refine onB_dec (fun h1 => ?_) (fun h1 => ?_)
 ·have hlt : i < l.length := by omega
  rw [allFrom_step hlt, curB] at hr
  have hgi : (l.map cu)[i]? = some (cu (cuAt l i)) := cuAt_eq hlt
  simp only [h1, hgi, Int.natCast_nonneg, vmp,↓vmd,seval]
  refine onQ_q (there_q F (cuAt l i).glyph) rfl ?_
  generalize thereB F (cuAt l i).glyph = b at *
  cases b with
  | false =>
   simp only [bb] at hr
   subst hr
   (first | apply envO | apply envQ); simp only [vmp,↓vmd,seval]; rfl
   simp only [vmp,↓vmd,seval]
   exact gives_pure
  | true =>
   simp only [bb] at hr
   (first | apply envO | apply envQ); simp only [vmp,↓vmd,seval]; rfl
   simp only [vmp,↓vmd,seval]
   refine onQ_q (anchor21_q (cuAt l i).ex (cuAt l i).ey (cuAt l i).he) rfl ?_
   generalize anchorB (cuAt l i).ex (cuAt l i).ey (cuAt l i).he = b at *
   cases b with
   | false =>
    simp only [bb] at hr
    subst hr
    (first | apply envO | apply envQ); simp only [vmp,↓vmd,seval]; rfl
    simp only [vmp,↓vmd,seval]
    exact gives_pure
   | true =>
    simp only [bb] at hr
    (first | apply envO | apply envQ); simp only [vmp,↓vmd,seval]; rfl
    simp only [vmp,↓vmd,seval]
    refine onQ_q (anchor21_q (cuAt l i).xx (cuAt l i).xy (cuAt l i).hx) rfl ?_
    generalize anchorB (cuAt l i).xx (cuAt l i).xy (cuAt l i).hx = b at *
    cases b with
    | false =>
     simp only [bb] at hr
     subst hr
     (first | apply envO | apply envQ); simp only [vmp,↓vmd,seval]; rfl
     simp only [vmp,↓vmd,seval]
     exact gives_pure
    | true =>
     simp only [bb] at hr
     (first | apply envO | apply envQ); simp only [vmp,↓vmd,seval]; rfl
     simp only [vmp,↓vmd,seval]
     by_cases h2 : i = 0
     ·have h2' : ¬ (0 : Int) < (i : Int) := by omega
      rw [decide_eq_true h2] at hr
      simp only [bb] at hr
      refine onB_neg h2' ?_
      (first | apply envO | apply envQ); simp only [h2', vmp,↓vmd,seval]; rfl
      simp only [vmp,↓vmd,seval]
      refine onBk_to (i + 1) [0] (by simp) rfl (by omega) ⟨hlt, hr⟩ (by simp only [next_at hlt (by omega), kpp,seval]) (by simp only [kpp,seval])
     ·have h2' : (0 : Int) < (i : Int) := by omega
      rw [decide_eq_false h2] at hr
      simp only [bb] at hr
      have hgp : (l.map cu)[i - 1]? = some (cu (cuAt l (i - 1))) := cuAt_eq (by omega)
      have hw : IntKind.wrap .i64 ((i : Int) - 1) = ((i - 1 : Nat) : Int) := by rw [wrap_id (by omega) (by omega)]; omega
      refine onB_pos h2' ?_
      (first | apply envO | apply envQ); simp only [h2', vmp,↓vmd,seval]; rfl
      simp only [hw, hgp, Int.natCast_nonneg, Int.toNat_natCast, vmp,↓vmd,seval]
      refine onB_dec (fun h3 => ?_) (fun h3 => ?_)
      ·rw [decide_eq_false (show ¬ (cuAt l (i - 1)).glyph < (cuAt l i).glyph by omega)] at hr
       simp only [bb] at hr
       subst hr
       simp only [h3, vmp,↓vmd,seval]
       exact gives_pure
      ·rw [decide_eq_true (show (cuAt l (i - 1)).glyph < (cuAt l i).glyph by omega)] at hr
       simp only [bb] at hr
       simp only [h3, vmp,↓vmd,seval]
       refine onBk_to (i + 1) [0] (by simp) rfl (by omega) ⟨hlt, hr⟩ (by simp only [next_at hlt (by omega), kpp,seval]) (by simp only [kpp,seval])
 ·rw [allFrom_end (by omega), Bool.true_and] at hr
  subst hr
  simp only [h1, vmp,↓vmd,seval]
  unfold c70_0
  simp only [vmp,↓vmd,seval]
  refine onIf_intro fun _ => ?_
  (first | apply envO | apply envQ); simp only [vmp,↓vmd,seval]; rfl
  simp only [vmp,↓vmd,seval]
  rw [show decide ((l.length : Int) ≤ 4096) = decide (l.length ≤ 4096) by rw [decide_eq_decide]; omega]
  exact gives_pure
end Go.Proofs.YtcjmkpkhjhjepaaGreat.W
