/-
  What a font may be: the document's functions, the small ones. No condition.
-/
import Derived.Test.YtcjmkpkhjhjepaaGreatChk0
import Derived.Test.YtcjmkpkhjhjepaaGreatStops
namespace Go.Proofs.YtcjmkpkhjhjepaaGreat.W
open Go Go.Vm Go.Proofs
set_option maxRecDepth 100000
set_option linter.unusedSimpArgs false
set_option maxHeartbeats 4000000
/-! typecase/typecaseref21.within -/
def c38 : AC :=
 (.seq (.reg [oo 6 (.mov (nB false))])
 (.seq (.reg [oo 7 (.mov (.s 0)),
 oo 8 (.mov (.s 1)),
 oo 9 (.bin .geq (.s 7) (.s 8)),
 oo 10 (.mov (.s 9)),
 og 11 10 true (.mov (.s 0)),
 og 12 10 true (.mov (.s 2)),
 og 13 10 true (.bin .leq (.s 11) (.s 12)),
 oo 14 (.pick (.s 10) (.s 13) (nB false)),
 oo 6 (.mov (.s 14))])
 .ret))
theorem k38 : OkF 38 Tryz.f38 c38 [.t 6] 15 := ⟨Tryz.func38, by kernel_rfl, by kernel_rfl, by kernel_rfl, Tryz.ntmps38⟩
/-! typecase/typecaseref21.Measure -/
def c39 : AC :=
 (.seq (.reg [oo 2 (.mov (nB false))])
 (.seq (.reg [oo 3 (.mov (.s 0)),
 oo 4 (.bin .geq (.s 3) (nI (-1048576))),
 oo 5 (.mov (.s 4)),
 og 6 5 true (.mov (.s 0)),
 og 7 5 true (.bin .leq (.s 6) (nI 1048576)),
 oo 8 (.pick (.s 5) (.s 7) (nB false)),
 oo 2 (.mov (.s 8))])
 .ret))
theorem k39 : OkF 39 Tryz.f39 c39 [.t 2] 9 := ⟨Tryz.func39, by kernel_rfl, by kernel_rfl, by kernel_rfl, Tryz.ntmps39⟩
/-! typecase/typecaseref21.there -/
def c42 : AC :=
 (.seq (.reg [oo 2 (.box (.s 0)),
 oo 4 (.mov (nB false))])
 (.seq (.reg [oo 5 (.mov (.s 1)),
 oo 6 (.bin .geq (.s 5) (nI 0)),
 oo 7 (.mov (.s 6)),
 og 8 7 true (.mov (.s 1)),
 og 9 7 true (.fldA 1 (.s 2)),
 og 10 7 true (.load false 1 (.s 9)),
 og 11 7 true (.len (.s 10)),
 og 12 7 true (.bin .lss (.s 8) (.s 11)),
 oo 13 (.pick (.s 7) (.s 12) (nB false)),
 oo 4 (.mov (.s 13))])
 .ret))
theorem k42 : OkF 42 Tryz.f42 c42 [.t 4] 14 := ⟨Tryz.func42, by kernel_rfl, by kernel_rfl, by kernel_rfl, Tryz.ntmps42⟩
/-! typecase/typecaseref21.all -/
def c62_0 : AC :=
 (.seq (.reg [oo 4 (.mov (nB true))])
 .ret)
def c62_1 : AC :=
 (.seq (.seq (.reg [oo 6 (.mov (.s 5)),
 oo 7 (.mov (.s 1)),
 oo 8 (.len (.s 7)),
 oo 9 (.bin .lss (.s 6) (.s 8))])
 (.cond (.s 9)
 .skip
 (.exit 0)))
 (.seq (.block 1
 (.seq (.regq [oo 12 (.load true 6 (.s 2)),
 oo 13 (.mov (.s 1)),
 oo 14 (.mov (.s 5)),
 oo 15 (.idxA 1 (.s 13) (.s 14)),
 oo 16 (.load false 1 (.s 15))]
[oo 17 (.call 42 [(.s 12), (.s 16)]),
 oo 18 (.un .not (.s 17))])
 (.cond (.s 18)
 (.seq (.reg [oo 4 (.mov (nB false))])
 .ret)
 .skip)))
 (.reg [oo 10 (.mov (.s 5)),
 oo 11 (.bin .add (.s 10) (nI 1)),
 oo 5 (.mov (.s 11))])))
def c62 : AC :=
 (.seq (.reg [oo 2 (.box (.s 0)),
 oo 4 (.mov (nB false))])
 (.seq (.seq (.reg [oo 5 (.mov (nI 0))])
 (.block 0
 (.loop c62_1)))
 c62_0))
theorem k62 : OkF 62 Tryz.f62 c62 [.t 4] 19 := ⟨Tryz.func62, by kernel_rfl, by kernel_rfl, by kernel_rfl, Tryz.ntmps62⟩
/-! typecase/typecaseref21.rises -/
def c40_0 : AC :=
 (.seq (.reg [oo 2 (.mov (nB true))])
 .ret)
def c40_1 : AC :=
 (.seq (.seq (.reg [oo 4 (.mov (.s 3)),
 oo 5 (.mov (.s 0)),
 oo 6 (.len (.s 5)),
 oo 7 (.bin .lss (.s 4) (.s 6))])
 (.cond (.s 7)
 .skip
 (.exit 0)))
 (.seq (.block 1
 (.seq (.regq [oo 10 (.mov (.s 0)),
 oo 11 (.mov (.s 3)),
 oo 12 (.idxA 1 (.s 10) (.s 11)),
 oo 13 (.load false 1 (.s 12)),
 oo 14 (.mov (.s 0)),
 oo 15 (.mov (.s 3)),
 oo 16 (.bin .sub (.s 15) (nI 1)),
 oo 17 (.idxA 1 (.s 14) (.s 16)),
 oo 18 (.load false 1 (.s 17))]
[oo 19 (.bin .leq (.s 13) (.s 18))])
 (.cond (.s 19)
 (.seq (.reg [oo 2 (.mov (nB false))])
 .ret)
 .skip)))
 (.reg [oo 8 (.mov (.s 3)),
 oo 9 (.bin .add (.s 8) (nI 1)),
 oo 3 (.mov (.s 9))])))
def c40 : AC :=
 (.seq (.reg [oo 2 (.mov (nB false))])
 (.seq (.seq (.reg [oo 3 (.mov (nI 1))])
 (.block 0
 (.loop c40_1)))
 c40_0))
theorem k40 : OkF 40 Tryz.f40 c40 [.t 2] 20 := ⟨Tryz.func40, by kernel_rfl, by kernel_rfl, by kernel_rfl, Tryz.ntmps40⟩
/-! typecase/typecaseref21.Cover -/
def c43 : AC :=
 (.seq (.reg [oo 2 (.box (.s 0)),
 oo 4 (.mov (nB false))])
 (.seq (.reg [oo 5 (.mov (.s 1)),
 oo 6 (.len (.s 5)),
 oo 7 (.bin .leq (.s 6) (nI 4096)),
 oo 8 (.mov (.s 7)),
 og 9 8 true (.mov (.s 1)),
 og 10 8 true (.call 40 [(.s 9)]),
 oo 11 (.pick (.s 8) (.s 10) (nB false)),
 oo 12 (.mov (.s 11)),
 og 13 12 true (.load true 6 (.s 2)),
 og 14 12 true (.mov (.s 1)),
 og 15 12 true (.call 62 [(.s 13), (.s 14)]),
 oo 16 (.pick (.s 12) (.s 15) (nB false)),
 oo 4 (.mov (.s 16))])
 .ret))
theorem k43 : OkF 43 Tryz.f43 c43 [.t 4] 17 := ⟨Tryz.func43, by kernel_rfl, by kernel_rfl, by kernel_rfl, Tryz.ntmps43⟩
/-! typecase/typecaseref21.covers -/
def c67_0 : AC :=
 (.seq (.reg [oo 21 (.mov (.s 1)),
 oo 22 (.len (.s 21)),
 oo 23 (.mov (.s 2)),
 oo 24 (.call 38 [(.s 22), (.s 23), (nI 16)]),
 oo 6 (.mov (.s 24))])
 .ret)
def c67_1 : AC :=
 (.seq (.seq (.reg [oo 8 (.mov (.s 7)),
 oo 9 (.mov (.s 1)),
 oo 10 (.len (.s 9)),
 oo 11 (.bin .lss (.s 8) (.s 10))])
 (.cond (.s 11)
 .skip
 (.exit 0)))
 (.seq (.block 1
 (.seq (.regq [oo 14 (.load true 6 (.s 3)),
 oo 15 (.mov (.s 1)),
 oo 16 (.mov (.s 7)),
 oo 17 (.idxA 1 (.s 15) (.s 16)),
 oo 18 (.load false 1 (.s 17))]
[oo 19 (.call 43 [(.s 14), (.s 18)]),
 oo 20 (.un .not (.s 19))])
 (.cond (.s 20)
 (.seq (.reg [oo 6 (.mov (nB false))])
 .ret)
 .skip)))
 (.reg [oo 12 (.mov (.s 7)),
 oo 13 (.bin .add (.s 12) (nI 1)),
 oo 7 (.mov (.s 13))])))
def c67 : AC :=
 (.seq (.reg [oo 3 (.box (.s 0)),
 oo 6 (.mov (nB false))])
 (.seq (.seq (.reg [oo 7 (.mov (nI 0))])
 (.block 0
 (.loop c67_1)))
 c67_0))
theorem k67 : OkF 67 Tryz.f67 c67 [.t 6] 25 := ⟨Tryz.func67, by kernel_rfl, by kernel_rfl, by kernel_rfl, Tryz.ntmps67⟩
/-! typecase/typecaseref21.Sorts -/
def c44 : AC :=
 (.seq (.reg [oo 2 (.mov (nI 0))])
 (.seq (.seq (.reg [oo 3 (.mov (.s 0)),
 oo 4 (.call 38 [(.s 3), (nI 1), (nI 5)])])
 (.cond (.s 4)
 (.seq (.reg [oo 2 (.mov (nI 1))])
 .ret)
 .skip))
 (.seq (.seq (.reg [oo 5 (.mov (.s 0)),
 oo 6 (.call 38 [(.s 5), (nI 6), (nI 12)])])
 (.cond (.s 6)
 (.seq (.reg [oo 2 (.mov (nI 2))])
 .ret)
 .skip))
 (.seq (.reg [oo 2 (.mov (nI 0))])
 .ret))))
theorem k44 : OkF 44 Tryz.f44 c44 [.t 2] 7 := ⟨Tryz.func44, by kernel_rfl, by kernel_rfl, by kernel_rfl, Tryz.ntmps44⟩
/-! typecase/typecaseref02.One -/
def c41 : AC :=
 (.seq (.reg [oo 2 (.mov (nB false))])
 (.seq (.reg [oo 3 (.mov (.s 0)),
 oo 4 (.bin .geq (.s 3) (.c (.pure (.int .i32 0)))),
 oo 5 (.mov (.s 4)),
 og 6 5 true (.mov (.s 0)),
 og 7 5 true (.bin .lss (.s 6) (.c (.pure (.int .i32 55296)))),
 oo 8 (.pick (.s 5) (.s 7) (nB false)),
 oo 9 (.mov (.s 8)),
 og 10 9 false (.mov (.s 0)),
 og 11 9 false (.bin .gtr (.s 10) (.c (.pure (.int .i32 57343)))),
 og 12 9 false (.mov (.s 11)),
 og 13 12 true (.mov (.s 0)),
 og 14 12 true (.bin .leq (.s 13) (.c (.pure (.int .i32 1114111)))),
 og 15 9 false (.pick (.s 12) (.s 14) (nB false)),
 oo 16 (.pick (.s 9) (nB true) (.s 15)),
 oo 2 (.mov (.s 16))])
 .ret))
theorem k41 : OkF 41 Tryz.f41 c41 [.t 2] 17 := ⟨Tryz.func41, by kernel_rfl, by kernel_rfl, by kernel_rfl, Tryz.ntmps41⟩
/-! typecase/typecaseref21.value -/
def c68 : AC :=
 (.seq (.reg [oo 1 (.box (.s 0)),
 oo 2 (.mov (nB false))])
 (.seq (.reg [oo 3 (.fldA 0 (.s 1)),
 oo 4 (.load false 1 (.s 3)),
 oo 5 (.call 39 [(.s 4)]),
 oo 6 (.mov (.s 5)),
 og 7 6 true (.fldA 1 (.s 1)),
 og 8 6 true (.load false 1 (.s 7)),
 og 9 6 true (.call 39 [(.s 8)]),
 oo 10 (.pick (.s 6) (.s 9) (nB false)),
 oo 11 (.mov (.s 10)),
 og 12 11 true (.fldA 2 (.s 1)),
 og 13 11 true (.load false 1 (.s 12)),
 og 14 11 true (.call 39 [(.s 13)]),
 oo 15 (.pick (.s 11) (.s 14) (nB false)),
 oo 2 (.mov (.s 15))])
 .ret))
theorem k68 : OkF 68 Tryz.f68 c68 [.t 2] 16 := ⟨Tryz.func68, by kernel_rfl, by kernel_rfl, by kernel_rfl, Tryz.ntmps68⟩
/-! typecase/typecaseref21.anchor -/
def c100 : AC :=
 (.seq (.reg [oo 2 (.box (.s 0)),
 oo 4 (.mov (nB false))])
 (.seq (.reg [oo 5 (.fldA 0 (.s 2)),
 oo 6 (.load false 1 (.s 5)),
 oo 7 (.call 39 [(.s 6)]),
 oo 8 (.mov (.s 7)),
 og 9 8 true (.fldA 1 (.s 2)),
 og 10 8 true (.load false 1 (.s 9)),
 og 11 8 true (.call 39 [(.s 10)]),
 oo 12 (.pick (.s 8) (.s 11) (nB false)),
 oo 13 (.mov (.s 12)),
 og 14 13 true (.mov (.s 1)),
 og 15 13 true (.mov (.s 14)),
 og 16 15 false (.fldA 0 (.s 2)),
 og 17 15 false (.load false 1 (.s 16)),
 og 18 15 false (.bin .eql (.s 17) (nI 0)),
 og 19 15 false (.mov (.s 18)),
 og 20 19 true (.fldA 1 (.s 2)),
 og 21 19 true (.load false 1 (.s 20)),
 og 22 19 true (.bin .eql (.s 21) (nI 0)),
 og 23 15 false (.pick (.s 19) (.s 22) (nB false)),
 og 24 13 true (.pick (.s 15) (nB true) (.s 23)),
 oo 25 (.pick (.s 13) (.s 24) (nB false)),
 oo 4 (.mov (.s 25))])
 .ret))
theorem k100 : OkF 100 Tryz.f100 c100 [.t 4] 26 := ⟨Tryz.func100, by kernel_rfl, by kernel_rfl, by kernel_rfl, Tryz.ntmps100⟩
theorem within_q (n lo hi : Int) : FnQ Tryz.prog 38 [I n, I lo, I hi] [.bool (withB n lo hi)] := by
 refine k38.q (by simp) ?_
 unfold c38
 generalize ho : withB n lo hi = out
 simp only [vmp,↓vmd,seval]
 refine onB_dec (fun h1 => ?_) (fun h1 => ?_)
 ·simp only [h1, vmp,↓vmd,seval]
  rw [← ho, withB, decide_eq_true h1]
  exact gives_pure
 ·simp only [h1, vmp,↓vmd,seval]
  rw [← ho, withB, decide_eq_false h1]
  exact gives_pure
theorem measure_q (n : Int) : FnQ Tryz.prog 39 [I n] [.bool (measB n)] := by
 refine k39.q (by simp) ?_
 unfold c39
 generalize ho : measB n = out
 simp only [vmp,↓vmd,seval]
 refine onB_dec (fun h1 => ?_) (fun h1 => ?_)
 ·simp only [h1, vmp,↓vmd,seval]
  rw [← ho, measB, decide_eq_true h1]
  exact gives_pure
 ·simp only [h1, vmp,↓vmd,seval]
  rw [← ho, measB, decide_eq_false h1]
  exact gives_pure
theorem there_q (F : Ff) (g : Int) : FnQ Tryz.prog 42 [ffV F, I g] [.bool (thereB F g)] := by
 refine k42.q (by simp) ?_
 unfold c42
 generalize ho : thereB F g = out
 simp only [vmp,↓vmd,seval]
 refine onB_dec (fun h1 => ?_) (fun h1 => ?_)
 ·(first | apply envO | apply envQ); simp only [h1, vmp,↓vmd,seval]; rfl
  simp only [h1, vmp,↓vmd,seval]
  refine onIf_intro fun _ => ?_
  (first | apply envO | apply envQ); simp only [h1, vmp,↓vmd,seval]; rfl
  simp only [h1, vmp,↓vmd,seval]
  rw [← ho, thereB, decide_eq_true h1]
  exact gives_pure
 ·simp only [h1, vmp,↓vmd,seval]
  rw [← ho, thereB, decide_eq_false h1]
  exact gives_pure
theorem all_q (F : Ff) (l : List Int) : FnQ Tryz.prog 62 [ffV F, LI l] [.bool (allB F l)] := by
 refine k62.q (by simp) ?_
 unfold c62
 have ho : l.all (thereB F) = allB F l := rfl
 generalize allB F l = out at *
 simp only [vmp,↓vmd,seval]
 refine loop_at (T := Nat) (fun i => [(5, .pure (I (i : Int))), (1, .pure (LI l)), (2, .ptr 0 0 0)]) (fun _ => [⟨[.pure (ffV F)], 6, .live⟩]) (fun i => i ≤ l.length ∧ (l.drop i).all (thereB F) = out) (fun i => l.length - i)
  0 [0] (by simp) rfl ⟨by simp, ho⟩ (by simp only [kpp,seval]) (by simp only [kpp,seval]) ?_
 rintro i ⟨hi, hr⟩
 unfold c62_1
 simp only [vmp,↓vmd,seval]
 refine onIf_intro fun _ => ?_
 (first | apply envO | apply envQ); simp only [vmp,↓vmd,seval]; rfl
 simp only [vmp,↓vmd,seval]
 refine onB_dec (fun h1 => ?_) (fun h1 => ?_)
 ·have hlt : i < l.length := by omega
  rw [drop_at hlt, List.all_cons] at hr
  have hgi : (l.map I)[i]? = some (I l[i]) := map_at hlt
  generalize l[i] = x at hr hgi
  simp only [h1, hgi, Int.natCast_nonneg, vmp,↓vmd,seval]
  refine onC_q (there_q F x) rfl ?_
  generalize thereB F x = b at hr
  cases b with
  | false =>
   rw [Bool.false_and] at hr
   subst hr
   (first | apply envO | apply envQ); simp only [vmp,↓vmd,seval]; rfl
   simp only [vmp,↓vmd,seval]
   exact gives_pure
  | true =>
   rw [Bool.true_and] at hr
   (first | apply envO | apply envQ); simp only [vmp,↓vmd,seval]; rfl
   simp only [vmp,↓vmd,seval]
   refine onBk_to (i + 1) [0] (by simp) rfl (by omega) ⟨hlt, hr⟩ (by simp only [next_at hlt (by omega), kpp,seval]) (by simp only [kpp,seval])
 ·rw [List.drop_of_length_le (by omega)] at hr
  subst hr
  simp only [h1, vmp,↓vmd,seval]
  unfold c62_0
  simp only [vmp,↓vmd,seval]
  exact gives_pure
theorem rises_q (l : List Int) : FnQ Tryz.prog 40 [LI l] [.bool (risesB l)] := by
 refine k40.q (by simp) ?_
 unfold c40
 have ho : allFrom (riseB l) (l.length - 1) 1 = risesB l := rfl
 generalize risesB l = out at *
 simp only [vmp,↓vmd,seval]
 refine loop_at (T := Nat) (fun i => [(3, .pure (I (i : Int))), (0, .pure (LI l))]) (fun _ => []) (fun i => 1 ≤ i ∧ allFrom (riseB l) (l.length - i) i = out) (fun i => l.length - i)
  1 [] (by simp) rfl ⟨Nat.le_refl _, ho⟩ (by simp only [kpp,seval]) (by simp only [kpp,seval]) ?_
 rintro i ⟨i1, hr⟩
 unfold c40_1
 simp only [vmp,↓vmd,seval]
 refine onIf_intro fun _ => ?_
 (first | apply envO | apply envQ); simp only [vmp,↓vmd,seval]; rfl
 simp only [vmp,↓vmd,seval]
 refine onB_dec (fun h1 => ?_) (fun h1 => ?_)
 ·have hlt : i < l.length := by omega
  rw [allFrom_step hlt] at hr
  have hgi : (l.map I)[i]? = some (I (atI l i)) := atI_eq hlt
  have hgp : (l.map I)[i - 1]? = some (I (atI l (i - 1))) := atI_eq (by omega)
  have hw : IntKind.wrap .i64 ((i : Int) - 1) = ((i - 1 : Nat) : Int) := by rw [wrap_id (by omega) (by omega)]; omega
  simp only [h1, hgi, hw, hgp, Int.natCast_nonneg, Int.toNat_natCast, vmp,↓vmd,seval]
  refine onB_dec (fun h2 => ?_) (fun h2 => ?_)
  ·rw [riseB, decide_eq_false (by omega), Bool.false_and] at hr
   subst hr
   simp only [h2, vmp,↓vmd,seval]
   exact gives_pure
  ·rw [riseB, decide_eq_true (by omega), Bool.true_and] at hr
   simp only [h2, vmp,↓vmd,seval]
   refine onBk_to (i + 1) [] (by simp) rfl (by omega) ⟨by omega, hr⟩ (by simp only [next_at hlt (by omega), kpp,seval]) (by simp only [kpp,seval])
 ·rw [allFrom_end (by omega)] at hr
  subst hr
  simp only [h1, vmp,↓vmd,seval]
  unfold c40_0
  simp only [vmp,↓vmd,seval]
  exact gives_pure
theorem cover_q (F : Ff) (l : List Int) : FnQ Tryz.prog 43 [ffV F, LI l] [.bool (coverB F l)] := by
 refine k43.q (by simp) ?_
 unfold c43
 have ho : (decide (l.length ≤ 4096) && risesB l && allB F l) = coverB F l := rfl
 generalize coverB F l = out at *
 simp only [vmp,↓vmd,seval]
 refine onIf_intro fun _ => ?_
 (first | apply envO | apply envQ); simp only [vmp,↓vmd,seval]; rfl
 simp only [vmp,↓vmd,seval]
 refine onB_dec (fun h1 => ?_) (fun h1 => ?_)
 ·(first | apply envO | apply envQ); simp only [h1, vmp,↓vmd,seval]; rfl
  simp only [h1, vmp,↓vmd,seval]
  refine onC_q (rises_q l) rfl ?_
  rw [decide_eq_true (show l.length ≤ 4096 by omega), Bool.true_and] at ho
  generalize risesB l = b at *
  cases b with
  | false =>
   rw [Bool.false_and] at ho
   subst ho
   (first | apply envO | apply envQ); simp only [h1, vmp,↓vmd,seval]; rfl
   simp only [vmp,↓vmd,seval]
   exact gives_pure
  | true =>
   rw [Bool.true_and] at ho
   (first | apply envO | apply envQ); simp only [h1, vmp,↓vmd,seval]; rfl
   simp only [vmp,↓vmd,seval]
   refine onC_q (all_q F l) rfl ?_
   subst ho
   (first | apply envO | apply envQ); simp only [vmp,↓vmd,seval]; rfl
   simp only [vmp,↓vmd,seval]
   exact gives_pure
 ·rw [decide_eq_false (show ¬ l.length ≤ 4096 by omega), Bool.false_and, Bool.false_and] at ho
  subst ho
  (first | apply envO | apply envQ); simp only [h1, vmp,↓vmd,seval]; rfl
  simp only [h1, vmp,↓vmd,seval]
  exact gives_pure
theorem covers_q (F : Ff) (l : List (List Int)) (lo : Int) : FnQ Tryz.prog 67 [ffV F, LL l, I lo] [.bool (coversB F l lo)] := by
 refine k67.q (by simp) ?_
 unfold c67
 have ho : (l.all (coverB F) && withB l.length lo 16) = coversB F l lo := rfl
 generalize coversB F l lo = out at *
 simp only [vmp,↓vmd,seval]
 refine loop_at (T := Nat) (fun i => [(7, .pure (I (i : Int))), (1, .pure (LL l)), (2, .pure (I lo)), (3, .ptr 0 0 0)]) (fun _ => [⟨[.pure (ffV F)], 6, .live⟩]) (fun i => i ≤ l.length ∧ ((l.drop i).all (coverB F) && withB l.length lo 16) = out) (fun i => l.length - i)
  0 [0] (by simp) rfl ⟨by simp, ho⟩ (by simp only [kpp,seval]) (by simp only [kpp,seval]) ?_
 rintro i ⟨hi, hr⟩
 unfold c67_1
 simp only [vmp,↓vmd,seval]
 refine onIf_intro fun _ => ?_
 (first | apply envO | apply envQ); simp only [vmp,↓vmd,seval]; rfl
 simp only [vmp,↓vmd,seval]
 refine onB_dec (fun h1 => ?_) (fun h1 => ?_)
 ·have hlt : i < l.length := by omega
  rw [drop_at hlt, List.all_cons] at hr
  have hgi : (l.map LI)[i]? = some (LI l[i]) := map_at hlt
  generalize l[i] = x at hr hgi
  simp only [h1, hgi, Int.natCast_nonneg, vmp,↓vmd,seval]
  refine onC_q (cover_q F x) rfl ?_
  generalize coverB F x = b at hr
  cases b with
  | false =>
   rw [Bool.false_and, Bool.false_and] at hr
   subst hr
   (first | apply envO | apply envQ); simp only [vmp,↓vmd,seval]; rfl
   simp only [vmp,↓vmd,seval]
   exact gives_pure
  | true =>
   rw [Bool.true_and] at hr
   (first | apply envO | apply envQ); simp only [vmp,↓vmd,seval]; rfl
   simp only [vmp,↓vmd,seval]
   refine onBk_to (i + 1) [0] (by simp) rfl (by omega) ⟨hlt, hr⟩ (by simp only [next_at hlt (by omega), kpp,seval]) (by simp only [kpp,seval])
 ·rw [List.drop_of_length_le (by omega), List.all_nil, Bool.true_and] at hr
  simp only [h1, vmp,↓vmd,seval]
  unfold c67_0
  simp only [vmp,↓vmd,seval]
  refine onIf_intro fun _ => ?_
  (first | apply envO | apply envQ); simp only [vmp,↓vmd,seval]; rfl
  simp only [vmp,↓vmd,seval]
  refine onC_q (within_q _ _ _) rfl ?_
  rw [hr]
  (first | apply envO | apply envQ); simp only [vmp,↓vmd,seval]; rfl
  simp only [vmp,↓vmd,seval]
  exact gives_pure
theorem sorts_q (k : Int) : FnQ Tryz.prog 44 [I k] [I (sortsF k)] := by
 refine k44.q (by simp) ?_
 unfold c44
 have ho : (if withB k 1 5 = true then 1 else if withB k 6 12 = true then 2 else 0) = sortsF k := rfl
 generalize sortsF k = out at *
 simp only [vmp,↓vmd,seval]
 refine onC_q (within_q k 1 5) rfl ?_
 generalize withB k 1 5 = b at *
 cases b with
 | true =>
  rw [if_pos rfl] at ho
  subst ho
  (first | apply envO | apply envQ); simp only [vmp,↓vmd,seval]; rfl
  simp only [vmp,↓vmd,seval]
  exact gives_pure
 | false =>
  rw [if_neg (by simp)] at ho
  (first | apply envO | apply envQ); simp only [vmp,↓vmd,seval]; rfl
  simp only [vmp,↓vmd,seval]
  refine onC_q (within_q k 6 12) rfl ?_
  generalize withB k 6 12 = b at *
  cases b with
  | true =>
   rw [if_pos rfl] at ho
   subst ho
   (first | apply envO | apply envQ); simp only [vmp,↓vmd,seval]; rfl
   simp only [vmp,↓vmd,seval]
   exact gives_pure
  | false =>
   rw [if_neg (by simp)] at ho
   subst ho
   (first | apply envO | apply envQ); simp only [vmp,↓vmd,seval]; rfl
   simp only [vmp,↓vmd,seval]
   exact gives_pure
theorem one_q (r : Int) : FnQ Tryz.prog 41 [.int .i32 r] [.bool (oneB r)] := by
 refine k41.q (by simp) ?_
 unfold c41
 generalize ho : oneB r = out
 unfold oneB at ho
 simp only [vmp,↓vmd,seval]
 by_cases h1 : 0 ≤ r
 ·by_cases h2 : r < 55296
  ·rw [decide_eq_true h1, decide_eq_true h2] at ho
   have ho : true = out := ho
   subst ho
   simp only [h1, h2, vmp,↓vmd,seval]
   exact gives_pure
  ·rw [decide_eq_true h1, decide_eq_false h2] at ho
   by_cases h3 : 57343 < r
   ·rw [decide_eq_true h3] at ho
    have ho : decide (r ≤ 1114111) = out := by simpa using ho
    subst ho
    simp only [h1, h2, h3, vmp,↓vmd,seval]
    exact gives_pure
   ·rw [decide_eq_false h3] at ho
    have ho : false = out := ho
    subst ho
    simp only [h1, h2, h3, vmp,↓vmd,seval]
    exact gives_pure
 ·have h3 : ¬ 57343 < r := by omega
  rw [decide_eq_false h1, decide_eq_false h3] at ho
  have ho : false = out := by simpa using ho
  subst ho
  simp only [h1, h3, vmp,↓vmd,seval]
  exact gives_pure
theorem value_q (v : Sp) : FnQ Tryz.prog 68 [sp v] [.bool (valueB v)] := by
 refine k68.q (by simp) ?_
 unfold c68
 have ho : (measB v.f && measB v.t && measB v.v) = valueB v := rfl
 generalize valueB v = out at *
 simp only [vmp,↓vmd,seval]
 refine onC_q (measure_q v.f) rfl ?_
 generalize measB v.f = b at *
 cases b with
 | false =>
  rw [Bool.false_and, Bool.false_and] at ho
  subst ho
  (first | apply envO | apply envQ); simp only [vmp,↓vmd,seval]; rfl
  simp only [vmp,↓vmd,seval]
  exact gives_pure
 | true =>
  rw [Bool.true_and] at ho
  (first | apply envO | apply envQ); simp only [vmp,↓vmd,seval]; rfl
  simp only [vmp,↓vmd,seval]
  refine onC_q (measure_q v.t) rfl ?_
  generalize measB v.t = b at *
  cases b with
  | false =>
   rw [Bool.false_and] at ho
   subst ho
   (first | apply envO | apply envQ); simp only [vmp,↓vmd,seval]; rfl
   simp only [vmp,↓vmd,seval]
   exact gives_pure
  | true =>
   rw [Bool.true_and] at ho
   (first | apply envO | apply envQ); simp only [vmp,↓vmd,seval]; rfl
   simp only [vmp,↓vmd,seval]
   refine onC_q (measure_q v.v) rfl ?_
   rw [ho]
   (first | apply envO | apply envQ); simp only [vmp,↓vmd,seval]; rfl
   simp only [vmp,↓vmd,seval]
   exact gives_pure
theorem anchor21_q (x y : Int) (has : Bool) : FnQ Tryz.prog 100 [.agg [I x, I y], .bool has] [.bool (anchorB x y has)] := by
 refine k100.q (by simp) ?_
 unfold c100
 have ho : (measB x && measB y && (has || decide (x = 0) && decide (y = 0))) = anchorB x y has := rfl
 generalize anchorB x y has = out at *
 simp only [vmp,↓vmd,seval]
 refine onC_q (measure_q x) rfl ?_
 generalize measB x = b at *
 cases b with
 | false =>
  rw [Bool.false_and, Bool.false_and] at ho
  subst ho
  (first | apply envO | apply envQ); simp only [vmp,↓vmd,seval]; rfl
  simp only [vmp,↓vmd,seval]
  exact gives_pure
 | true =>
  rw [Bool.true_and] at ho
  (first | apply envO | apply envQ); simp only [vmp,↓vmd,seval]; rfl
  simp only [vmp,↓vmd,seval]
  refine onC_q (measure_q y) rfl ?_
  generalize measB y = b at *
  cases b with
  | false =>
   rw [Bool.false_and] at ho
   subst ho
   (first | apply envO | apply envQ); simp only [vmp,↓vmd,seval]; rfl
   simp only [vmp,↓vmd,seval]
   exact gives_pure
  | true =>
   rw [Bool.true_and] at ho
   (first | apply envO | apply envQ); simp only [vmp,↓vmd,seval]; rfl
   cases has with
   | true =>
    rw [Bool.true_or] at ho
    subst ho
    simp only [vmp,↓vmd,seval]
    exact gives_pure
   | false =>
    rw [Bool.false_or] at ho
    by_cases hx : x = 0
    ·rw [decide_eq_true hx, Bool.true_and] at ho
     subst ho
     simp only [hx, vmp,↓vmd,seval]
     exact gives_pure
    ·rw [decide_eq_false hx, Bool.false_and] at ho
     subst ho
     simp only [hx, vmp,↓vmd,seval]
     exact gives_pure
end Go.Proofs.YtcjmkpkhjhjepaaGreat.W
