/-
  What a glyph hangs by: two functions, one answer. No condition.
-/
import Derived.Test.YtcjmkpkhjhjepaaCur0
import Derived.Test.YtcjmkpkhjhjepaaStops
namespace Go.Proofs.Ytcjmkpkhjhjepaa.W
open Go Go.Vm Go.Proofs
set_option maxRecDepth 100000
set_option linter.unusedSimpArgs false
set_option maxHeartbeats 4000000
/-! typecase/cursive.Find -/
def c13_0 : AC :=
 (.seq (.reg [⟨some 35, none, .build [(.pure (.int .i64 0)), (.pure (.bool false)), (.pure (.bool false)), (.pure (.int .i64 0)), (.pure (.int .i64 0)), (.pure (.int .i64 0)), (.pure (.int .i64 0))] []⟩,
⟨none, none, .store 7 (.s 4) (.s 35)⟩,
⟨some 5, none, .mov (.c (.pure (.bool false)))⟩])
 .ret)
def c13_1 : AC :=
 (.reg [⟨some 34, none, .bin .add (.s 17) (.c (.pure (.int .i64 1)))⟩,
⟨some 17, none, .mov (.s 34)⟩])
def c13_2 : AC :=
 (.seq (.reg [⟨some 25, none, .bin .lss (.s 24) (.s 23)⟩])
 (.seq (.cond (.s 25)
 .skip
 (.exit 2))
 (.seq (.block 3
 (.seq (.reg [⟨some 26, none, .idxA 7 (.s 22) (.s 24)⟩,
⟨some 27, none, .load true 7 (.s 26)⟩,
⟨some 9, none, .box (.c (.pure (.agg [(.int .i64 0), (.bool false), (.bool false), (.int .i64 0), (.int .i64 0), (.int .i64 0), (.int .i64 0)])))⟩,
⟨none, none, .store 7 (.s 9) (.s 27)⟩])
 (.seq (.reg [⟨some 28, none, .fldA 0 (.s 9)⟩,
⟨some 29, none, .load false 1 (.s 28)⟩,
⟨some 30, none, .mov (.s 1)⟩,
⟨some 31, none, .bin .eql (.s 29) (.s 30)⟩])
 (.cond (.s 31)
 (.seq (.reg [⟨some 32, none, .load true 7 (.s 9)⟩,
⟨none, none, .store 7 (.s 4) (.s 32)⟩,
⟨some 5, none, .mov (.c (.pure (.bool true)))⟩])
 .ret)
 .skip))))
 (.reg [⟨some 33, none, .bin .add (.s 24) (.c (.pure (.int .i64 1)))⟩,
⟨some 24, none, .mov (.s 33)⟩]))))
def c13_3 : AC :=
 (.seq (.reg [⟨some 18, none, .bin .lss (.s 17) (.s 16)⟩])
 (.seq (.cond (.s 18)
 .skip
 (.exit 0))
 (.seq (.block 1
 (.seq (.reg [⟨some 19, none, .idxA 12 (.s 15) (.s 17)⟩,
⟨some 20, none, .load true 12 (.s 19)⟩,
⟨some 7, none, .box (.c (.agg [.empty, .empty, .empty, .empty, .empty, .empty, .empty, .empty, .empty, .empty, .empty, .empty]))⟩,
⟨none, none, .store 12 (.s 7) (.s 20)⟩])
 (.seq (.reg [⟨some 21, none, .fldA 9 (.s 7)⟩,
⟨some 22, none, .load false 1 (.s 21)⟩,
⟨some 23, none, .len (.s 22)⟩,
⟨some 24, none, .mov (.c (.pure (.int .i64 0)))⟩])
 (.block 2
 (.loop c13_2)))))
 c13_1)))
def c13 : AC :=
 (.seq (.reg [⟨some 2, none, .box (.s 0)⟩,
⟨some 4, none, .box (.c (.pure (.agg [(.int .i64 0), (.bool false), (.bool false), (.int .i64 0), (.int .i64 0), (.int .i64 0), (.int .i64 0)])))⟩,
⟨some 5, none, .mov (.c (.pure (.bool false)))⟩])
 (.seq (.seq (.reg [⟨some 10, none, .fldA 0 (.s 2)⟩,
⟨some 11, none, .load false 1 (.s 10)⟩,
⟨some 12, none, .bin .neq (.s 11) (.c (.pure (.int .i64 8)))⟩])
 (.cond (.s 12)
 (.seq (.reg [⟨some 13, none, .build [(.pure (.int .i64 0)), (.pure (.bool false)), (.pure (.bool false)), (.pure (.int .i64 0)), (.pure (.int .i64 0)), (.pure (.int .i64 0)), (.pure (.int .i64 0))] []⟩,
⟨none, none, .store 7 (.s 4) (.s 13)⟩,
⟨some 5, none, .mov (.c (.pure (.bool false)))⟩])
 .ret)
 .skip))
 (.seq (.seq (.reg [⟨some 14, none, .fldA 3 (.s 2)⟩,
⟨some 15, none, .load false 1 (.s 14)⟩,
⟨some 16, none, .len (.s 15)⟩,
⟨some 17, none, .mov (.c (.pure (.int .i64 0)))⟩])
 (.block 0
 (.loop c13_3)))
 c13_0)))
theorem k13 : OkF 13 Try.f13 c13 [.c 4 true 7, .t 5] 36 := ⟨Try.func13, by kernel_rfl, by kernel_rfl, by kernel_rfl, Try.ntmps13⟩
/-! typecase/typecaseref33.Find -/
def c14_0 : AC :=
 (.seq (.reg [⟨some 51, none, .build [(.pure (.int .i64 0)), (.pure (.bool false)), (.pure (.bool false)), (.pure (.int .i64 0)), (.pure (.int .i64 0)), (.pure (.int .i64 0)), (.pure (.int .i64 0))] []⟩,
⟨none, none, .store 7 (.s 4) (.s 51)⟩,
⟨some 5, none, .mov (.c (.pure (.bool false)))⟩])
 .ret)
def c14_1 : AC :=
 (.reg [⟨some 17, none, .mov (.s 6)⟩,
⟨some 18, none, .bin .add (.s 17) (.c (.pure (.int .i64 1)))⟩,
⟨some 6, none, .mov (.s 18)⟩])
def c14_2 : AC :=
 (.seq (.seq (.reg [⟨some 19, none, .mov (.s 7)⟩,
⟨some 20, none, .fldA 3 (.s 2)⟩,
⟨some 21, none, .load false 1 (.s 20)⟩,
⟨some 22, none, .mov (.s 6)⟩,
⟨some 23, none, .idxA 12 (.s 21) (.s 22)⟩,
⟨some 24, none, .fldA 9 (.s 23)⟩,
⟨some 25, none, .load false 1 (.s 24)⟩,
⟨some 26, none, .len (.s 25)⟩,
⟨some 27, none, .bin .lss (.s 19) (.s 26)⟩])
 (.cond (.s 27)
 .skip
 (.exit 2)))
 (.seq (.block 3
 (.seq (.reg [⟨some 30, none, .fldA 3 (.s 2)⟩,
⟨some 31, none, .load false 1 (.s 30)⟩,
⟨some 32, none, .mov (.s 6)⟩,
⟨some 33, none, .idxA 12 (.s 31) (.s 32)⟩,
⟨some 34, none, .fldA 9 (.s 33)⟩,
⟨some 35, none, .load false 1 (.s 34)⟩,
⟨some 36, none, .mov (.s 7)⟩,
⟨some 37, none, .idxA 7 (.s 35) (.s 36)⟩,
⟨some 38, none, .fldA 0 (.s 37)⟩,
⟨some 39, none, .load false 1 (.s 38)⟩,
⟨some 40, none, .mov (.s 1)⟩,
⟨some 41, none, .bin .eql (.s 39) (.s 40)⟩])
 (.cond (.s 41)
 (.seq (.reg [⟨some 42, none, .fldA 3 (.s 2)⟩,
⟨some 43, none, .load false 1 (.s 42)⟩,
⟨some 44, none, .mov (.s 6)⟩,
⟨some 45, none, .idxA 12 (.s 43) (.s 44)⟩,
⟨some 46, none, .fldA 9 (.s 45)⟩,
⟨some 47, none, .load false 1 (.s 46)⟩,
⟨some 48, none, .mov (.s 7)⟩,
⟨some 49, none, .idxA 7 (.s 47) (.s 48)⟩,
⟨some 50, none, .load true 7 (.s 49)⟩,
⟨none, none, .store 7 (.s 4) (.s 50)⟩,
⟨some 5, none, .mov (.c (.pure (.bool true)))⟩])
 .ret)
 .skip)))
 (.reg [⟨some 28, none, .mov (.s 7)⟩,
⟨some 29, none, .bin .add (.s 28) (.c (.pure (.int .i64 1)))⟩,
⟨some 7, none, .mov (.s 29)⟩])))
def c14_3 : AC :=
 (.seq (.seq (.reg [⟨some 12, none, .mov (.s 6)⟩,
⟨some 13, none, .fldA 3 (.s 2)⟩,
⟨some 14, none, .load false 1 (.s 13)⟩,
⟨some 15, none, .len (.s 14)⟩,
⟨some 16, none, .bin .lss (.s 12) (.s 15)⟩])
 (.cond (.s 16)
 .skip
 (.exit 0)))
 (.seq (.block 1
 (.seq (.reg [⟨some 7, none, .mov (.c (.pure (.int .i64 0)))⟩])
 (.block 2
 (.loop c14_2))))
 c14_1))
def c14 : AC :=
 (.seq (.reg [⟨some 2, none, .box (.s 0)⟩,
⟨some 4, none, .box (.c (.pure (.agg [(.int .i64 0), (.bool false), (.bool false), (.int .i64 0), (.int .i64 0), (.int .i64 0), (.int .i64 0)])))⟩,
⟨some 5, none, .mov (.c (.pure (.bool false)))⟩])
 (.seq (.seq (.reg [⟨some 8, none, .fldA 0 (.s 2)⟩,
⟨some 9, none, .load false 1 (.s 8)⟩,
⟨some 10, none, .bin .neq (.s 9) (.c (.pure (.int .i64 8)))⟩])
 (.cond (.s 10)
 (.seq (.reg [⟨some 11, none, .build [(.pure (.int .i64 0)), (.pure (.bool false)), (.pure (.bool false)), (.pure (.int .i64 0)), (.pure (.int .i64 0)), (.pure (.int .i64 0)), (.pure (.int .i64 0))] []⟩,
⟨none, none, .store 7 (.s 4) (.s 11)⟩,
⟨some 5, none, .mov (.c (.pure (.bool false)))⟩])
 .ret)
 .skip))
 (.seq (.seq (.reg [⟨some 6, none, .mov (.c (.pure (.int .i64 0)))⟩])
 (.block 0
 (.loop c14_3)))
 c14_0)))
theorem find_q (k : Lk) (g : Int) : FnQ Try.prog 13 [lk k, I g] (curR (curF k g)) := by
 refine k13.q (by simp) ?_
 unfold c13
 have ho : curF k g = if k.kind = 8 then cuS k.subs g else none := rfl
 generalize curF k g = out at *
 simp -implicitDefEqProofs only [vmp,↓vmd,seval]
 refine onB_dec (fun h1 => ?_) (fun h1 => ?_)
 ·rw [if_neg h1] at ho
  subst ho
  (first | apply envO | apply envQ); simp -implicitDefEqProofs only [h1, vmp,↓vmd,seval]; rfl
  simp -implicitDefEqProofs only [h1, vmp,↓vmd,seval]
  exact gives_tup rfl (by simp)
 rw [if_pos (Classical.not_not.1 h1)] at ho
 (first | apply envO | apply envQ); simp -implicitDefEqProofs only [h1, vmp,↓vmd,seval]; rfl
 simp -implicitDefEqProofs only [h1, vmp,↓vmd,seval]
 refine onIf_intro fun _ => ?_
 (first | apply envO | apply envQ); simp -implicitDefEqProofs only [h1, vmp,↓vmd,seval]; rfl
 simp -implicitDefEqProofs only [h1, vmp,↓vmd,seval]
 refine loop_at (T := Nat) (fun i => [(17, .pure (I (i : Int))), (16, .pure (I k.subs.length)), (15, .pure (.sl (k.subs.map sub))), (1, .pure (I g)), (4, .ptr 0 0 0)])
  (fun _ => [⟨[.pure (cu cuZ)], 7, .live⟩]) (fun i => i ≤ k.subs.length ∧ cuS (k.subs.drop i) g = out) (fun i => k.subs.length - i)
  0 [1] (by simp) rfl ⟨by simp, ho.symm⟩ (by simp -implicitDefEqProofs only [kpp,seval]) (by simp -implicitDefEqProofs only [cuZ, kpp,seval]) ?_
 rintro i ⟨hi, hr⟩
 unfold c13_3
 simp -implicitDefEqProofs only [vmp,↓vmd,seval]
 refine onB_dec (fun h2 => ?_) (fun h2 => ?_)
 ·have hlt : i < k.subs.length := by omega
  rw [drop_at hlt, cuS] at hr
  have hgi : (k.subs.map sub)[i]? = some (sub k.subs[i]) := map_at hlt
  generalize k.subs[i] = s at hr hgi
  simp -implicitDefEqProofs only [h2, hgi, Int.natCast_nonneg, vmp,↓vmd,seval]
  refine onIf_intro fun _ => ?_
  (first | apply envO | apply envQ); simp -implicitDefEqProofs only [h2, vmp,↓vmd,seval]; rfl
  simp -implicitDefEqProofs only [h2, vmp,↓vmd,seval]
  refine loop_at (T := Nat) (fun j => [(24, .pure (I (j : Int))), (23, .pure (I s.curs.length)), (22, .pure (.sl (s.curs.map cu))), (17, .pure (I (i : Int))), (16, .pure (I k.subs.length)), (15, .pure (.sl (k.subs.map sub))), (1, .pure (I g)), (4, .ptr 0 0 0)])
   (fun _ => [⟨[.pure (cu cuZ)], 7, .live⟩]) (fun j => j ≤ s.curs.length ∧ cuIn (s.curs.drop j) g = cuIn s.curs g) (fun j => s.curs.length - j)
   0 [0] (by simp) rfl ⟨by simp, by simp⟩ (by simp -implicitDefEqProofs only [kpp,seval]) (by simp -implicitDefEqProofs only [cuZ, kpp,seval]) ?_
  rintro j ⟨hj, hrj⟩
  unfold c13_2
  simp -implicitDefEqProofs only [vmp,↓vmd,seval]
  refine onB_dec (fun h3 => ?_) (fun h3 => ?_)
  ·have hltj : j < s.curs.length := by omega
   rw [drop_at hltj, cuIn] at hrj
   have hgj : (s.curs.map cu)[j]? = some (cu s.curs[j]) := map_at hltj
   generalize s.curs[j] = c at hrj hgj
   simp -implicitDefEqProofs only [h3, hgj, Int.natCast_nonneg, vmp,↓vmd,seval]
   refine onB_dec (fun h4 => ?_) (fun h4 => ?_)
   ·rw [if_pos h4] at hrj
    rw [← hrj] at hr
    simp only at hr
    subst hr
    (first | apply envO | apply envQ); simp -implicitDefEqProofs only [h4, vmp,↓vmd,seval]; rfl
    simp -implicitDefEqProofs only [h4, vmp,↓vmd,seval]
    exact gives_tup rfl (by simp)
   ·rw [if_neg h4] at hrj
    (first | apply envO | apply envQ); simp -implicitDefEqProofs only [h4, vmp,↓vmd,seval]; rfl
    simp -implicitDefEqProofs only [h4, vmp,↓vmd,seval]
    refine onBk_to (j + 1) [0] (by simp) rfl (by omega) ⟨hltj, hrj⟩ (by simp -implicitDefEqProofs only [next_at hltj (by omega), kpp,seval]) (by simp -implicitDefEqProofs only [cuZ, kpp,seval])
  ·rw [List.drop_of_length_le (by omega), cuIn] at hrj
   rw [← hrj] at hr
   simp -implicitDefEqProofs only [h3, vmp,↓vmd,seval]
   unfold c13_1
   simp -implicitDefEqProofs only [vmp,↓vmd,seval]
   refine onBk_to (i + 1) [0] (by simp) rfl (by omega) ⟨hlt, hr⟩ (by simp -implicitDefEqProofs only [next_at hlt (by omega), kpp,seval]) (by simp -implicitDefEqProofs only [cuZ, kpp,seval])
 ·rw [List.drop_of_length_le (by omega), cuS] at hr
  subst hr
  simp -implicitDefEqProofs only [h2, vmp,↓vmd,seval]
  unfold c13_0
  simp -implicitDefEqProofs only [vmp,↓vmd,seval]
  exact gives_tup rfl (by simp)
end Go.Proofs.Ytcjmkpkhjhjepaa.W
