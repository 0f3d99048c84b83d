/-
  Small fonts: the document's function. No condition.
-/
import Derived.Test.YtcjmkpkhjhjepaaFontD
import Derived.Test.YtcjmkpkhjhjepaaStops
namespace Go.Proofs.Ytcjmkpkhjhjepaa.W
open Go Go.Vm Go.Proofs
set_option maxRecDepth 100000
set_option linter.unusedSimpArgs false
set_option maxHeartbeats 4000000
/-! typecase/typecaseref21.Small -/
def c32_0 : AC :=
  (.seq (.reg [⟨some 2, none, .mov (.c (.pure (.bool true)))⟩])
  .ret)
def c32_1 : AC :=
  (.reg [⟨some 40, none, .mov (.s 3)⟩,
    ⟨some 41, none, .bin .add (.s 40) (.c (.pure (.int .i64 1)))⟩,
    ⟨some 3, none, .mov (.s 41)⟩])
def c32_2 : AC :=
  (.seq (.seq (.reg [⟨some 51, none, .mov (.s 5)⟩,
    ⟨some 52, none, .mov (.s 4)⟩,
    ⟨some 53, none, .len (.s 52)⟩,
    ⟨some 54, none, .bin .lss (.s 51) (.s 53)⟩])
  (.cond (.s 54)
  .skip
  (.exit 2)))
  (.seq (.block 3
  (.seq (.reg [⟨some 57, none, .mov (.s 4)⟩,
    ⟨some 58, none, .mov (.s 5)⟩,
    ⟨some 59, none, .idxA 12 (.s 57) (.s 58)⟩,
    ⟨some 60, none, .load true 12 (.s 59)⟩,
    ⟨some 6, none, .box (.c (.agg [.empty, .empty, .empty, .empty, .empty, .empty, .empty, .empty, .empty, .empty, .empty, .empty]))⟩,
    ⟨none, none, .store 12 (.s 6) (.s 60)⟩])
  (.seq (.reg [⟨some 61, none, .fldA 0 (.s 6)⟩,
    ⟨some 62, none, .load false 1 (.s 61)⟩,
    ⟨some 63, none, .len (.s 62)⟩,
    ⟨some 64, none, .fldA 1 (.s 6)⟩,
    ⟨some 65, none, .load false 1 (.s 64)⟩,
    ⟨some 66, none, .len (.s 65)⟩,
    ⟨some 67, none, .bin .add (.s 63) (.s 66)⟩,
    ⟨some 68, none, .fldA 2 (.s 6)⟩,
    ⟨some 69, none, .load false 1 (.s 68)⟩,
    ⟨some 70, none, .len (.s 69)⟩,
    ⟨some 71, none, .bin .add (.s 67) (.s 70)⟩,
    ⟨some 72, none, .fldA 3 (.s 6)⟩,
    ⟨some 73, none, .load false 1 (.s 72)⟩,
    ⟨some 74, none, .len (.s 73)⟩,
    ⟨some 75, none, .bin .add (.s 71) (.s 74)⟩,
    ⟨some 76, none, .fldA 4 (.s 6)⟩,
    ⟨some 77, none, .load false 1 (.s 76)⟩,
    ⟨some 78, none, .len (.s 77)⟩,
    ⟨some 79, none, .bin .add (.s 75) (.s 78)⟩,
    ⟨some 80, none, .fldA 5 (.s 6)⟩,
    ⟨some 81, none, .load false 1 (.s 80)⟩,
    ⟨some 82, none, .len (.s 81)⟩,
    ⟨some 83, none, .bin .add (.s 79) (.s 82)⟩,
    ⟨some 84, none, .fldA 6 (.s 6)⟩,
    ⟨some 85, none, .load false 1 (.s 84)⟩,
    ⟨some 86, none, .len (.s 85)⟩,
    ⟨some 87, none, .bin .add (.s 83) (.s 86)⟩,
    ⟨some 88, none, .fldA 7 (.s 6)⟩,
    ⟨some 89, none, .load false 1 (.s 88)⟩,
    ⟨some 90, none, .len (.s 89)⟩,
    ⟨some 91, none, .bin .add (.s 87) (.s 90)⟩,
    ⟨some 92, none, .fldA 8 (.s 6)⟩,
    ⟨some 93, none, .load false 1 (.s 92)⟩,
    ⟨some 94, none, .len (.s 93)⟩,
    ⟨some 95, none, .bin .add (.s 91) (.s 94)⟩,
    ⟨some 96, none, .fldA 9 (.s 6)⟩,
    ⟨some 97, none, .load false 1 (.s 96)⟩,
    ⟨some 98, none, .len (.s 97)⟩,
    ⟨some 99, none, .bin .add (.s 95) (.s 98)⟩,
    ⟨some 100, none, .fldA 10 (.s 6)⟩,
    ⟨some 101, none, .load false 1 (.s 100)⟩,
    ⟨some 102, none, .len (.s 101)⟩,
    ⟨some 103, none, .bin .add (.s 99) (.s 102)⟩,
    ⟨some 104, none, .fldA 11 (.s 6)⟩,
    ⟨some 105, none, .load false 1 (.s 104)⟩,
    ⟨some 106, none, .len (.s 105)⟩,
    ⟨some 107, none, .bin .add (.s 103) (.s 106)⟩,
    ⟨some 108, none, .bin .gtr (.s 107) (.c (.pure (.int .i64 200)))⟩])
  (.cond (.s 108)
  (.seq (.reg [⟨some 2, none, .mov (.c (.pure (.bool false)))⟩])
  .ret)
  .skip))))
  (.reg [⟨some 55, none, .mov (.s 5)⟩,
    ⟨some 56, none, .bin .add (.s 55) (.c (.pure (.int .i64 1)))⟩,
    ⟨some 5, none, .mov (.s 56)⟩])))
def c32_3 : AC :=
  (.seq (.seq (.reg [⟨some 35, none, .mov (.s 3)⟩,
    ⟨some 36, none, .fldA 3 (.s 1)⟩,
    ⟨some 37, none, .load false 1 (.s 36)⟩,
    ⟨some 38, none, .len (.s 37)⟩,
    ⟨some 39, none, .bin .lss (.s 35) (.s 38)⟩])
  (.cond (.s 39)
  .skip
  (.exit 0)))
  (.seq (.block 1
  (.seq (.reg [⟨some 42, none, .fldA 3 (.s 1)⟩,
    ⟨some 43, none, .load false 1 (.s 42)⟩,
    ⟨some 44, none, .mov (.s 3)⟩,
    ⟨some 45, none, .idxA 4 (.s 43) (.s 44)⟩,
    ⟨some 46, none, .fldA 3 (.s 45)⟩,
    ⟨some 47, none, .load false 1 (.s 46)⟩,
    ⟨some 4, none, .mov (.s 47)⟩])
  (.seq (.seq (.reg [⟨some 48, none, .mov (.s 4)⟩,
    ⟨some 49, none, .len (.s 48)⟩,
    ⟨some 50, none, .bin .gtr (.s 49) (.c (.pure (.int .i64 10)))⟩])
  (.cond (.s 50)
  (.seq (.reg [⟨some 2, none, .mov (.c (.pure (.bool false)))⟩])
  .ret)
  .skip))
  (.seq (.reg [⟨some 5, none, .mov (.c (.pure (.int .i64 0)))⟩])
  (.block 2
  (.loop c32_2))))))
  c32_1))
def c32 : AC :=
  (.seq (.reg [⟨some 1, none, .box (.s 0)⟩,
    ⟨some 2, none, .mov (.c (.pure (.bool false)))⟩])
  (.seq (.seq (.reg [⟨some 7, none, .fldA 1 (.s 1)⟩,
    ⟨some 8, none, .load false 1 (.s 7)⟩,
    ⟨some 9, none, .len (.s 8)⟩,
    ⟨some 10, none, .bin .gtr (.s 9) (.c (.pure (.int .i64 100)))⟩,
    ⟨some 11, none, .mov (.s 10)⟩,
    ⟨some 12, some (11, false), .fldA 2 (.s 1)⟩,
    ⟨some 13, some (11, false), .load false 1 (.s 12)⟩,
    ⟨some 14, some (11, false), .len (.s 13)⟩,
    ⟨some 15, some (11, false), .bin .gtr (.s 14) (.c (.pure (.int .i64 100)))⟩,
    ⟨some 16, none, .pick (.s 11) (.c (.pure (.bool true))) (.s 15)⟩,
    ⟨some 17, none, .mov (.s 16)⟩,
    ⟨some 18, some (17, false), .fldA 3 (.s 1)⟩,
    ⟨some 19, some (17, false), .load false 1 (.s 18)⟩,
    ⟨some 20, some (17, false), .len (.s 19)⟩,
    ⟨some 21, some (17, false), .bin .gtr (.s 20) (.c (.pure (.int .i64 40)))⟩,
    ⟨some 22, none, .pick (.s 17) (.c (.pure (.bool true))) (.s 21)⟩,
    ⟨some 23, none, .mov (.s 22)⟩,
    ⟨some 24, some (23, false), .fldA 4 (.s 1)⟩,
    ⟨some 25, some (23, false), .load false 1 (.s 24)⟩,
    ⟨some 26, some (23, false), .len (.s 25)⟩,
    ⟨some 27, some (23, false), .bin .gtr (.s 26) (.c (.pure (.int .i64 40)))⟩,
    ⟨some 28, none, .pick (.s 23) (.c (.pure (.bool true))) (.s 27)⟩,
    ⟨some 29, none, .mov (.s 28)⟩,
    ⟨some 30, some (29, false), .fldA 5 (.s 1)⟩,
    ⟨some 31, some (29, false), .load false 1 (.s 30)⟩,
    ⟨some 32, some (29, false), .len (.s 31)⟩,
    ⟨some 33, some (29, false), .bin .gtr (.s 32) (.c (.pure (.int .i64 20)))⟩,
    ⟨some 34, none, .pick (.s 29) (.c (.pure (.bool true))) (.s 33)⟩])
  (.cond (.s 34)
  (.seq (.reg [⟨some 2, none, .mov (.c (.pure (.bool false)))⟩])
  .ret)
  .skip))
  (.seq (.seq (.reg [⟨some 3, none, .mov (.c (.pure (.int .i64 0)))⟩])
  (.block 0
  (.loop c32_3)))
  c32_0)))
theorem k32 : (Try.f32.body.bind fun c => cCode Try.prog Try.f32.ntmps RCs c) = some c32 := by kernel_rfl
theorem h32 : (Try.f32.name == "runtime.NumGoroutine") = false := by kernel_rfl
theorem r32 : resC Try.prog Try.f32.results.toList = some [.t 2] := by kernel_rfl
theorem a32 {args : List S} {H : Heap} {K : S → Heap → Prop} (hn : args.length ≤ 109) (h : aWx Try.prog H.length c32 (PostX [.t 2] K) (argEnv 0 args) H) : CallA Try.prog 32 args H K :=
  callA_of_x mixed Try.func32 h32 k32 r32 (by rw [Try.ntmps32]; exact hn) h
theorem q32 {vs ds : List V} (hn : vs.length ≤ 109) (h : aWx Try.prog 0 c32 (PostX [.t 2] (Gives ds)) (argEnv 0 (vs.map .pure)) []) : FnQ Try.prog 32 vs ds :=
  fnQ_of_call (a32 (by simpa using hn) h)

abbrev addE (a b : Int) : Int := IntKind.wrap .i64 (a + b)
def sizeS (s : Sub) : Int := addE (addE (addE (addE (addE (addE (addE (addE (addE (addE (addE s.cover.length s.to.length) s.ligs.length) s.back.length) s.inn.length) s.ahead.length) s.nests.length) s.values.length) s.pairs.length) s.curs.length) s.marks.length) s.hosts.length
def smallS (s : Sub) : Bool := decide (sizeS s ≤ 200)
def smallK (k : Lk) : Bool := decide (k.subs.length ≤ 10) && k.subs.all smallS
def smallB (F : Ff) : Bool := decide (F.gs.length ≤ 100) && decide (F.maps.length ≤ 100) && decide (F.lks.length ≤ 40) && decide (F.fts.length ≤ 40) && decide (F.sets.length ≤ 20) && F.lks.all smallK
theorem small_q (F : Ff) : FnQ Try.prog 32 [ffV F] [.bool (smallB F)] := by
  refine q32 (by simp) ?_
  unfold c32
  have hr : (decide (F.gs.length ≤ 100) && decide (F.maps.length ≤ 100) && decide (F.lks.length ≤ 40) && decide (F.fts.length ≤ 40) && decide (F.sets.length ≤ 20) && F.lks.all smallK) = smallB F := rfl
  generalize smallB F = out at *
  simp -implicitDefEqProofs only [vmp,↓vmd,seval]
  refine onIf_intro fun _ => ?_
  (first | apply envO | apply envQ); simp -implicitDefEqProofs only [vmp,↓vmd,seval]; rfl
  simp -implicitDefEqProofs only [vmp,↓vmd,seval]
  refine onB_dec (fun h1 => ?_) (fun h1 => ?_)
  · rw [decide_eq_false (show ¬ F.gs.length ≤ 100 by omega)] at hr
    simp only [Bool.false_and, Bool.true_and, Bool.and_false, Bool.and_true, Bool.false_or, Bool.true_or, Bool.or_false, Bool.or_true, Bool.not_true, Bool.not_false] at hr
    subst hr
    (first | apply envO | apply envQ); simp -implicitDefEqProofs only [h1, vmp,↓vmd,seval]; rfl
    simp -implicitDefEqProofs only [h1, vmp,↓vmd,seval]
    exact gives_pure
  · rw [decide_eq_true (show F.gs.length ≤ 100 by omega)] at hr
    simp only [Bool.false_and, Bool.true_and, Bool.and_false, Bool.and_true, Bool.false_or, Bool.true_or, Bool.or_false, Bool.or_true, Bool.not_true, Bool.not_false] at hr
    (first | apply envO | apply envQ); simp -implicitDefEqProofs only [h1, vmp,↓vmd,seval]; rfl
    simp -implicitDefEqProofs only [h1, vmp,↓vmd,seval]
    refine onIf_intro fun _ => ?_
    (first | apply envO | apply envQ); simp -implicitDefEqProofs only [vmp,↓vmd,seval]; rfl
    simp -implicitDefEqProofs only [h1, vmp,↓vmd,seval]
    refine onB_dec (fun h2 => ?_) (fun h2 => ?_)
    · rw [decide_eq_false (show ¬ F.maps.length ≤ 100 by omega)] at hr
      simp only [Bool.false_and, Bool.true_and, Bool.and_false, Bool.and_true, Bool.false_or, Bool.true_or, Bool.or_false, Bool.or_true, Bool.not_true, Bool.not_false] at hr
      subst hr
      (first | apply envO | apply envQ); simp -implicitDefEqProofs only [h2, vmp,↓vmd,seval]; rfl
      simp -implicitDefEqProofs only [h2, vmp,↓vmd,seval]
      exact gives_pure
    · rw [decide_eq_true (show F.maps.length ≤ 100 by omega)] at hr
      simp only [Bool.false_and, Bool.true_and, Bool.and_false, Bool.and_true, Bool.false_or, Bool.true_or, Bool.or_false, Bool.or_true, Bool.not_true, Bool.not_false] at hr
      (first | apply envO | apply envQ); simp -implicitDefEqProofs only [h2, vmp,↓vmd,seval]; rfl
      simp -implicitDefEqProofs only [h2, vmp,↓vmd,seval]
      refine onIf_intro fun _ => ?_
      (first | apply envO | apply envQ); simp -implicitDefEqProofs only [vmp,↓vmd,seval]; rfl
      simp -implicitDefEqProofs only [h2, vmp,↓vmd,seval]
      refine onB_dec (fun h3 => ?_) (fun h3 => ?_)
      · rw [decide_eq_false (show ¬ F.lks.length ≤ 40 by omega)] at hr
        simp only [Bool.false_and, Bool.true_and, Bool.and_false, Bool.and_true, Bool.false_or, Bool.true_or, Bool.or_false, Bool.or_true, Bool.not_true, Bool.not_false] at hr
        subst hr
        (first | apply envO | apply envQ); simp -implicitDefEqProofs only [h3, vmp,↓vmd,seval]; rfl
        simp -implicitDefEqProofs only [h3, vmp,↓vmd,seval]
        exact gives_pure
      · rw [decide_eq_true (show F.lks.length ≤ 40 by omega)] at hr
        simp only [Bool.false_and, Bool.true_and, Bool.and_false, Bool.and_true, Bool.false_or, Bool.true_or, Bool.or_false, Bool.or_true, Bool.not_true, Bool.not_false] at hr
        (first | apply envO | apply envQ); simp -implicitDefEqProofs only [h3, vmp,↓vmd,seval]; rfl
        simp -implicitDefEqProofs only [h3, vmp,↓vmd,seval]
        refine onIf_intro fun _ => ?_
        (first | apply envO | apply envQ); simp -implicitDefEqProofs only [vmp,↓vmd,seval]; rfl
        simp -implicitDefEqProofs only [h3, vmp,↓vmd,seval]
        refine onB_dec (fun h4 => ?_) (fun h4 => ?_)
        · rw [decide_eq_false (show ¬ F.fts.length ≤ 40 by omega)] at hr
          simp only [Bool.false_and, Bool.true_and, Bool.and_false, Bool.and_true, Bool.false_or, Bool.true_or, Bool.or_false, Bool.or_true, Bool.not_true, Bool.not_false] at hr
          subst hr
          (first | apply envO | apply envQ); simp -implicitDefEqProofs only [h4, vmp,↓vmd,seval]; rfl
          simp -implicitDefEqProofs only [h4, vmp,↓vmd,seval]
          exact gives_pure
        · rw [decide_eq_true (show F.fts.length ≤ 40 by omega)] at hr
          simp only [Bool.false_and, Bool.true_and, Bool.and_false, Bool.and_true, Bool.false_or, Bool.true_or, Bool.or_false, Bool.or_true, Bool.not_true, Bool.not_false] at hr
          (first | apply envO | apply envQ); simp -implicitDefEqProofs only [h4, vmp,↓vmd,seval]; rfl
          simp -implicitDefEqProofs only [h4, vmp,↓vmd,seval]
          refine onIf_intro fun _ => ?_
          (first | apply envO | apply envQ); simp -implicitDefEqProofs only [vmp,↓vmd,seval]; rfl
          simp -implicitDefEqProofs only [h4, vmp,↓vmd,seval]
          refine onB_dec (fun h5 => ?_) (fun h5 => ?_)
          · rw [decide_eq_false (show ¬ F.sets.length ≤ 20 by omega)] at hr
            simp only [Bool.false_and, Bool.true_and, Bool.and_false, Bool.and_true, Bool.false_or, Bool.true_or, Bool.or_false, Bool.or_true, Bool.not_true, Bool.not_false] at hr
            subst hr
            (first | apply envO | apply envQ); simp -implicitDefEqProofs only [h5, vmp,↓vmd,seval]; rfl
            simp -implicitDefEqProofs only [h5, vmp,↓vmd,seval]
            exact gives_pure
          · rw [decide_eq_true (show F.sets.length ≤ 20 by omega)] at hr
            simp only [Bool.false_and, Bool.true_and, Bool.and_false, Bool.and_true, Bool.false_or, Bool.true_or, Bool.or_false, Bool.or_true, Bool.not_true, Bool.not_false] at hr
            (first | apply envO | apply envQ); simp -implicitDefEqProofs only [h5, vmp,↓vmd,seval]; rfl
            simp -implicitDefEqProofs only [h5, vmp,↓vmd,seval]
            refine loop_at (T := Nat) (fun i => [(3, .pure (I (i : Int))), (1, .ptr 0 0 0)]) (fun _ => [⟨[.pure (ffV F)], 6, .live⟩]) (fun i => i ≤ F.lks.length ∧ (F.lks.drop i).all smallK = out) (fun i => F.lks.length - i)
              0 [0] (by simp) rfl ⟨by simp, hr⟩ (by simp -implicitDefEqProofs only [kpp,seval]) (by simp -implicitDefEqProofs only [kpp,seval]) ?_
            rintro i ⟨hi, hr⟩
            unfold c32_3
            simp -implicitDefEqProofs only [vmp,↓vmd,seval]
            refine onIf_intro fun _ => ?_
            (first | apply envO | apply envQ); simp -implicitDefEqProofs only [vmp,↓vmd,seval]; rfl
            simp -implicitDefEqProofs only [vmp,↓vmd,seval]
            refine onB_dec (fun h6 => ?_) (fun h6 => ?_)
            · have hlt : i < F.lks.length := by omega
              rw [drop_at hlt, List.all_cons] at hr
              have hgi : (F.lks.map lk)[i]? = some (lk F.lks[i]) := map_at hlt
              generalize F.lks[i] = k at hr hgi
              rw [smallK] at hr
              simp -implicitDefEqProofs only [h6, hgi, Int.natCast_nonneg, vmp,↓vmd,seval]
              refine onIf_intro fun _ => ?_
              (first | apply envO | apply envQ); simp -implicitDefEqProofs only [vmp,↓vmd,seval]; rfl
              simp -implicitDefEqProofs only [vmp,↓vmd,seval]
              refine onB_dec (fun h7 => ?_) (fun h7 => ?_)
              · rw [decide_eq_false (show ¬ k.subs.length ≤ 10 by omega)] at hr
                simp only [Bool.false_and, Bool.true_and, Bool.and_false, Bool.and_true, Bool.false_or, Bool.true_or, Bool.or_false, Bool.or_true, Bool.not_true, Bool.not_false] at hr
                subst hr
                simp -implicitDefEqProofs only [h7, vmp,↓vmd,seval]
                exact gives_pure
              · rw [decide_eq_true (show k.subs.length ≤ 10 by omega)] at hr
                simp only [Bool.false_and, Bool.true_and, Bool.and_false, Bool.and_true, Bool.false_or, Bool.true_or, Bool.or_false, Bool.or_true, Bool.not_true, Bool.not_false] at hr
                simp -implicitDefEqProofs only [h7, vmp,↓vmd,seval]
                refine loop_at (T := Nat) (fun n => [(5, .pure (I (n : Int))), (3, .pure (I (i : Int))), (1, .ptr 0 0 0), (4, .pure (.sl (k.subs.map sub)))]) (fun _ => [⟨[.pure (ffV F)], 6, .live⟩]) (fun n => n ≤ k.subs.length ∧ ((k.subs.drop n).all smallS && (F.lks.drop (i + 1)).all smallK) = out) (fun n => k.subs.length - n)
                  0 [0] (by simp) rfl ⟨by simp, hr⟩ (by simp -implicitDefEqProofs only [kpp,seval]) (by simp -implicitDefEqProofs only [kpp,seval]) ?_
                rintro n ⟨hn, ht⟩
                unfold c32_2
                simp -implicitDefEqProofs only [vmp,↓vmd,seval]
                refine onIf_intro fun _ => ?_
                (first | apply envO | apply envQ); simp -implicitDefEqProofs only [vmp,↓vmd,seval]; rfl
                simp -implicitDefEqProofs only [vmp,↓vmd,seval]
                refine onB_dec (fun h8 => ?_) (fun h8 => ?_)
                · have hln : n < k.subs.length := by omega
                  rw [drop_at hln, List.all_cons] at ht
                  have hgn : (k.subs.map sub)[n]? = some (sub k.subs[n]) := map_at hln
                  generalize k.subs[n] = s at ht hgn
                  rw [smallS, sizeS] at ht
                  simp -implicitDefEqProofs only [h8, hgn, Int.natCast_nonneg, vmp,↓vmd,seval]
                  refine onIf_intro fun _ => ?_
                  (first | apply envO | apply envQ); simp -implicitDefEqProofs only [vmp,↓vmd,seval]; rfl
                  simp -implicitDefEqProofs only [vmp,↓vmd,seval]
                  refine onIf_intro fun _ => ?_
                  (first | apply envO | apply envQ); simp -implicitDefEqProofs only [vmp,↓vmd,seval]; rfl
                  simp -implicitDefEqProofs only [vmp,↓vmd,seval]
                  refine onIf_intro fun _ => ?_
                  (first | apply envO | apply envQ); simp -implicitDefEqProofs only [vmp,↓vmd,seval]; rfl
                  simp -implicitDefEqProofs only [vmp,↓vmd,seval]
                  refine onIf_intro fun _ => ?_
                  (first | apply envO | apply envQ); simp -implicitDefEqProofs only [vmp,↓vmd,seval]; rfl
                  simp -implicitDefEqProofs only [vmp,↓vmd,seval]
                  refine onIf_intro fun _ => ?_
                  (first | apply envO | apply envQ); simp -implicitDefEqProofs only [vmp,↓vmd,seval]; rfl
                  simp -implicitDefEqProofs only [vmp,↓vmd,seval]
                  refine onIf_intro fun _ => ?_
                  (first | apply envO | apply envQ); simp -implicitDefEqProofs only [vmp,↓vmd,seval]; rfl
                  simp -implicitDefEqProofs only [vmp,↓vmd,seval]
                  refine onIf_intro fun _ => ?_
                  (first | apply envO | apply envQ); simp -implicitDefEqProofs only [vmp,↓vmd,seval]; rfl
                  simp -implicitDefEqProofs only [vmp,↓vmd,seval]
                  refine onIf_intro fun _ => ?_
                  (first | apply envO | apply envQ); simp -implicitDefEqProofs only [vmp,↓vmd,seval]; rfl
                  simp -implicitDefEqProofs only [vmp,↓vmd,seval]
                  refine onIf_intro fun _ => ?_
                  (first | apply envO | apply envQ); simp -implicitDefEqProofs only [vmp,↓vmd,seval]; rfl
                  simp -implicitDefEqProofs only [vmp,↓vmd,seval]
                  refine onIf_intro fun _ => ?_
                  (first | apply envO | apply envQ); simp -implicitDefEqProofs only [vmp,↓vmd,seval]; rfl
                  simp -implicitDefEqProofs only [vmp,↓vmd,seval]
                  refine onIf_intro fun _ => ?_
                  (first | apply envO | apply envQ); simp -implicitDefEqProofs only [vmp,↓vmd,seval]; rfl
                  simp -implicitDefEqProofs only [vmp,↓vmd,seval]
                  refine onIf_intro fun _ => ?_
                  (first | apply envO | apply envQ); simp -implicitDefEqProofs only [vmp,↓vmd,seval]; rfl
                  simp -implicitDefEqProofs only [vmp,↓vmd,seval]
                  refine onB_dec (fun h9 => ?_) (fun h9 => ?_)
                  · rw [decide_eq_false (Int.not_le.2 h9)] at ht
                    simp only [Bool.false_and, Bool.true_and, Bool.and_false, Bool.and_true, Bool.false_or, Bool.true_or, Bool.or_false, Bool.or_true, Bool.not_true, Bool.not_false] at ht
                    subst ht
                    simp -implicitDefEqProofs only [h9, vmp,↓vmd,seval]
                    exact gives_pure
                  · rw [decide_eq_true (Int.not_lt.1 h9)] at ht
                    simp only [Bool.false_and, Bool.true_and, Bool.and_false, Bool.and_true, Bool.false_or, Bool.true_or, Bool.or_false, Bool.or_true, Bool.not_true, Bool.not_false] at ht
                    simp -implicitDefEqProofs only [h9, vmp,↓vmd,seval]
                    refine onBk_to (n + 1) [0] (by simp) rfl (by omega) ⟨hln, ht⟩ (by simp -implicitDefEqProofs only [next_at hln (by omega), kpp,seval]) (by simp -implicitDefEqProofs only [kpp,seval])
                · rw [List.drop_of_length_le (by omega), List.all_nil, Bool.true_and] at ht
                  simp -implicitDefEqProofs only [h8, vmp,↓vmd,seval]
                  unfold c32_1
                  simp -implicitDefEqProofs only [vmp,↓vmd,seval]
                  refine onBk_to (i + 1) [0] (by simp) rfl (by omega) ⟨hlt, ht⟩ (by simp -implicitDefEqProofs only [next_at hlt (by omega), kpp,seval]) (by simp -implicitDefEqProofs only [kpp,seval])
            · rw [List.drop_of_length_le (by omega), List.all_nil] at hr
              subst hr
              simp -implicitDefEqProofs only [h6, vmp,↓vmd,seval]
              unfold c32_0
              simp -implicitDefEqProofs only [vmp,↓vmd,seval]
              exact gives_pure
end Go.Proofs.Ytcjmkpkhjhjepaa.W
