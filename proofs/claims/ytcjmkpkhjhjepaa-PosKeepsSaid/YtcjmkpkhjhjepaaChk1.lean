/-
  What a font may be: the document's functions, the small ones. No condition.
-/
import Derived.Test.YtcjmkpkhjhjepaaChk0
import Derived.Test.YtcjmkpkhjhjepaaStops
namespace Go.Proofs.Ytcjmkpkhjhjepaa.W
open Go Go.Vm Go.Proofs
set_option maxRecDepth 100000
set_option linter.unusedSimpArgs false
set_option maxHeartbeats 4000000
/-! typecase/typecaseref21.within -/
def c75 : AC :=
 (.seq (.reg [⟨some 6, none, .mov (.c (.pure (.bool false)))⟩])
 (.seq (.reg [⟨some 7, none, .mov (.s 0)⟩,
⟨some 8, none, .mov (.s 1)⟩,
⟨some 9, none, .bin .geq (.s 7) (.s 8)⟩,
⟨some 10, none, .mov (.s 9)⟩,
⟨some 11, some (10, true), .mov (.s 0)⟩,
⟨some 12, some (10, true), .mov (.s 2)⟩,
⟨some 13, some (10, true), .bin .leq (.s 11) (.s 12)⟩,
⟨some 14, none, .pick (.s 10) (.s 13) (.c (.pure (.bool false)))⟩,
⟨some 6, none, .mov (.s 14)⟩])
 .ret))
theorem k75 : OkF 75 Try.f75 c75 [.t 6] 15 := ⟨Try.func75, by kernel_rfl, by kernel_rfl, by kernel_rfl, Try.ntmps75⟩
/-! typecase/typecaseref21.Measure -/
def c76 : AC :=
 (.seq (.reg [⟨some 2, none, .mov (.c (.pure (.bool false)))⟩])
 (.seq (.reg [⟨some 3, none, .mov (.s 0)⟩,
⟨some 4, none, .bin .geq (.s 3) (.c (.pure (.int .i64 (-1048576))))⟩,
⟨some 5, none, .mov (.s 4)⟩,
⟨some 6, some (5, true), .mov (.s 0)⟩,
⟨some 7, some (5, true), .bin .leq (.s 6) (.c (.pure (.int .i64 1048576)))⟩,
⟨some 8, none, .pick (.s 5) (.s 7) (.c (.pure (.bool false)))⟩,
⟨some 2, none, .mov (.s 8)⟩])
 .ret))
theorem k76 : OkF 76 Try.f76 c76 [.t 2] 9 := ⟨Try.func76, by kernel_rfl, by kernel_rfl, by kernel_rfl, Try.ntmps76⟩
/-! typecase/typecaseref21.there -/
def c79 : AC :=
 (.seq (.reg [⟨some 2, none, .box (.s 0)⟩,
⟨some 4, none, .mov (.c (.pure (.bool false)))⟩])
 (.seq (.reg [⟨some 5, none, .mov (.s 1)⟩,
⟨some 6, none, .bin .geq (.s 5) (.c (.pure (.int .i64 0)))⟩,
⟨some 7, none, .mov (.s 6)⟩,
⟨some 8, some (7, true), .mov (.s 1)⟩,
⟨some 9, some (7, true), .fldA 1 (.s 2)⟩,
⟨some 10, some (7, true), .load false 1 (.s 9)⟩,
⟨some 11, some (7, true), .len (.s 10)⟩,
⟨some 12, some (7, true), .bin .lss (.s 8) (.s 11)⟩,
⟨some 13, none, .pick (.s 7) (.s 12) (.c (.pure (.bool false)))⟩,
⟨some 4, none, .mov (.s 13)⟩])
 .ret))
theorem k79 : OkF 79 Try.f79 c79 [.t 4] 14 := ⟨Try.func79, by kernel_rfl, by kernel_rfl, by kernel_rfl, Try.ntmps79⟩
/-! typecase/typecaseref21.all -/
def c91_0 : AC :=
 (.seq (.reg [⟨some 4, none, .mov (.c (.pure (.bool true)))⟩])
 .ret)
def c91_1 : AC :=
 (.seq (.seq (.reg [⟨some 6, none, .mov (.s 5)⟩,
⟨some 7, none, .mov (.s 1)⟩,
⟨some 8, none, .len (.s 7)⟩,
⟨some 9, none, .bin .lss (.s 6) (.s 8)⟩])
 (.cond (.s 9)
 .skip
 (.exit 0)))
 (.seq (.block 1
 (.seq (.regq [⟨some 12, none, .load true 6 (.s 2)⟩,
⟨some 13, none, .mov (.s 1)⟩,
⟨some 14, none, .mov (.s 5)⟩,
⟨some 15, none, .idxA 1 (.s 13) (.s 14)⟩,
⟨some 16, none, .load false 1 (.s 15)⟩]
[⟨some 17, none, .call 79 [(.s 12), (.s 16)]⟩,
⟨some 18, none, .un .not (.s 17)⟩])
 (.cond (.s 18)
 (.seq (.reg [⟨some 4, none, .mov (.c (.pure (.bool false)))⟩])
 .ret)
 .skip)))
 (.reg [⟨some 10, none, .mov (.s 5)⟩,
⟨some 11, none, .bin .add (.s 10) (.c (.pure (.int .i64 1)))⟩,
⟨some 5, none, .mov (.s 11)⟩])))
def c91 : AC :=
 (.seq (.reg [⟨some 2, none, .box (.s 0)⟩,
⟨some 4, none, .mov (.c (.pure (.bool false)))⟩])
 (.seq (.seq (.reg [⟨some 5, none, .mov (.c (.pure (.int .i64 0)))⟩])
 (.block 0
 (.loop c91_1)))
 c91_0))
theorem k91 : OkF 91 Try.f91 c91 [.t 4] 19 := ⟨Try.func91, by kernel_rfl, by kernel_rfl, by kernel_rfl, Try.ntmps91⟩
/-! typecase/typecaseref21.rises -/
def c77_0 : AC :=
 (.seq (.reg [⟨some 2, none, .mov (.c (.pure (.bool true)))⟩])
 .ret)
def c77_1 : AC :=
 (.seq (.seq (.reg [⟨some 4, none, .mov (.s 3)⟩,
⟨some 5, none, .mov (.s 0)⟩,
⟨some 6, none, .len (.s 5)⟩,
⟨some 7, none, .bin .lss (.s 4) (.s 6)⟩])
 (.cond (.s 7)
 .skip
 (.exit 0)))
 (.seq (.block 1
 (.seq (.regq [⟨some 10, none, .mov (.s 0)⟩,
⟨some 11, none, .mov (.s 3)⟩,
⟨some 12, none, .idxA 1 (.s 10) (.s 11)⟩,
⟨some 13, none, .load false 1 (.s 12)⟩,
⟨some 14, none, .mov (.s 0)⟩,
⟨some 15, none, .mov (.s 3)⟩,
⟨some 16, none, .bin .sub (.s 15) (.c (.pure (.int .i64 1)))⟩,
⟨some 17, none, .idxA 1 (.s 14) (.s 16)⟩,
⟨some 18, none, .load false 1 (.s 17)⟩]
[⟨some 19, none, .bin .leq (.s 13) (.s 18)⟩])
 (.cond (.s 19)
 (.seq (.reg [⟨some 2, none, .mov (.c (.pure (.bool false)))⟩])
 .ret)
 .skip)))
 (.reg [⟨some 8, none, .mov (.s 3)⟩,
⟨some 9, none, .bin .add (.s 8) (.c (.pure (.int .i64 1)))⟩,
⟨some 3, none, .mov (.s 9)⟩])))
def c77 : AC :=
 (.seq (.reg [⟨some 2, none, .mov (.c (.pure (.bool false)))⟩])
 (.seq (.seq (.reg [⟨some 3, none, .mov (.c (.pure (.int .i64 1)))⟩])
 (.block 0
 (.loop c77_1)))
 c77_0))
theorem k77 : OkF 77 Try.f77 c77 [.t 2] 20 := ⟨Try.func77, by kernel_rfl, by kernel_rfl, by kernel_rfl, Try.ntmps77⟩
/-! typecase/typecaseref21.Cover -/
def c80 : AC :=
 (.seq (.reg [⟨some 2, none, .box (.s 0)⟩,
⟨some 4, none, .mov (.c (.pure (.bool false)))⟩])
 (.seq (.reg [⟨some 5, none, .mov (.s 1)⟩,
⟨some 6, none, .len (.s 5)⟩,
⟨some 7, none, .bin .leq (.s 6) (.c (.pure (.int .i64 4096)))⟩,
⟨some 8, none, .mov (.s 7)⟩,
⟨some 9, some (8, true), .mov (.s 1)⟩,
⟨some 10, some (8, true), .call 77 [(.s 9)]⟩,
⟨some 11, none, .pick (.s 8) (.s 10) (.c (.pure (.bool false)))⟩,
⟨some 12, none, .mov (.s 11)⟩,
⟨some 13, some (12, true), .load true 6 (.s 2)⟩,
⟨some 14, some (12, true), .mov (.s 1)⟩,
⟨some 15, some (12, true), .call 91 [(.s 13), (.s 14)]⟩,
⟨some 16, none, .pick (.s 12) (.s 15) (.c (.pure (.bool false)))⟩,
⟨some 4, none, .mov (.s 16)⟩])
 .ret))
theorem k80 : OkF 80 Try.f80 c80 [.t 4] 17 := ⟨Try.func80, by kernel_rfl, by kernel_rfl, by kernel_rfl, Try.ntmps80⟩
/-! typecase/typecaseref21.covers -/
def c96_0 : AC :=
 (.seq (.reg [⟨some 21, none, .mov (.s 1)⟩,
⟨some 22, none, .len (.s 21)⟩,
⟨some 23, none, .mov (.s 2)⟩,
⟨some 24, none, .call 75 [(.s 22), (.s 23), (.c (.pure (.int .i64 16)))]⟩,
⟨some 6, none, .mov (.s 24)⟩])
 .ret)
def c96_1 : AC :=
 (.seq (.seq (.reg [⟨some 8, none, .mov (.s 7)⟩,
⟨some 9, none, .mov (.s 1)⟩,
⟨some 10, none, .len (.s 9)⟩,
⟨some 11, none, .bin .lss (.s 8) (.s 10)⟩])
 (.cond (.s 11)
 .skip
 (.exit 0)))
 (.seq (.block 1
 (.seq (.regq [⟨some 14, none, .load true 6 (.s 3)⟩,
⟨some 15, none, .mov (.s 1)⟩,
⟨some 16, none, .mov (.s 7)⟩,
⟨some 17, none, .idxA 1 (.s 15) (.s 16)⟩,
⟨some 18, none, .load false 1 (.s 17)⟩]
[⟨some 19, none, .call 80 [(.s 14), (.s 18)]⟩,
⟨some 20, none, .un .not (.s 19)⟩])
 (.cond (.s 20)
 (.seq (.reg [⟨some 6, none, .mov (.c (.pure (.bool false)))⟩])
 .ret)
 .skip)))
 (.reg [⟨some 12, none, .mov (.s 7)⟩,
⟨some 13, none, .bin .add (.s 12) (.c (.pure (.int .i64 1)))⟩,
⟨some 7, none, .mov (.s 13)⟩])))
def c96 : AC :=
 (.seq (.reg [⟨some 3, none, .box (.s 0)⟩,
⟨some 6, none, .mov (.c (.pure (.bool false)))⟩])
 (.seq (.seq (.reg [⟨some 7, none, .mov (.c (.pure (.int .i64 0)))⟩])
 (.block 0
 (.loop c96_1)))
 c96_0))
theorem k96 : OkF 96 Try.f96 c96 [.t 6] 25 := ⟨Try.func96, by kernel_rfl, by kernel_rfl, by kernel_rfl, Try.ntmps96⟩
/-! typecase/typecaseref21.Sorts -/
def c81 : AC :=
 (.seq (.reg [⟨some 2, none, .mov (.c (.pure (.int .i64 0)))⟩])
 (.seq (.seq (.reg [⟨some 3, none, .mov (.s 0)⟩,
⟨some 4, none, .call 75 [(.s 3), (.c (.pure (.int .i64 1))), (.c (.pure (.int .i64 5)))]⟩])
 (.cond (.s 4)
 (.seq (.reg [⟨some 2, none, .mov (.c (.pure (.int .i64 1)))⟩])
 .ret)
 .skip))
 (.seq (.seq (.reg [⟨some 5, none, .mov (.s 0)⟩,
⟨some 6, none, .call 75 [(.s 5), (.c (.pure (.int .i64 6))), (.c (.pure (.int .i64 12)))]⟩])
 (.cond (.s 6)
 (.seq (.reg [⟨some 2, none, .mov (.c (.pure (.int .i64 2)))⟩])
 .ret)
 .skip))
 (.seq (.reg [⟨some 2, none, .mov (.c (.pure (.int .i64 0)))⟩])
 .ret))))
theorem k81 : OkF 81 Try.f81 c81 [.t 2] 7 := ⟨Try.func81, by kernel_rfl, by kernel_rfl, by kernel_rfl, Try.ntmps81⟩
/-! typecase/typecaseref02.One -/
def c78 : AC :=
 (.seq (.reg [⟨some 2, none, .mov (.c (.pure (.bool false)))⟩])
 (.seq (.reg [⟨some 3, none, .mov (.s 0)⟩,
⟨some 4, none, .bin .geq (.s 3) (.c (.pure (.int .i32 0)))⟩,
⟨some 5, none, .mov (.s 4)⟩,
⟨some 6, some (5, true), .mov (.s 0)⟩,
⟨some 7, some (5, true), .bin .lss (.s 6) (.c (.pure (.int .i32 55296)))⟩,
⟨some 8, none, .pick (.s 5) (.s 7) (.c (.pure (.bool false)))⟩,
⟨some 9, none, .mov (.s 8)⟩,
⟨some 10, some (9, false), .mov (.s 0)⟩,
⟨some 11, some (9, false), .bin .gtr (.s 10) (.c (.pure (.int .i32 57343)))⟩,
⟨some 12, some (9, false), .mov (.s 11)⟩,
⟨some 13, some (12, true), .mov (.s 0)⟩,
⟨some 14, some (12, true), .bin .leq (.s 13) (.c (.pure (.int .i32 1114111)))⟩,
⟨some 15, some (9, false), .pick (.s 12) (.s 14) (.c (.pure (.bool false)))⟩,
⟨some 16, none, .pick (.s 9) (.c (.pure (.bool true))) (.s 15)⟩,
⟨some 2, none, .mov (.s 16)⟩])
 .ret))
theorem k78 : OkF 78 Try.f78 c78 [.t 2] 17 := ⟨Try.func78, by kernel_rfl, by kernel_rfl, by kernel_rfl, Try.ntmps78⟩
/-! typecase/typecaseref21.value -/
def c97 : AC :=
 (.seq (.reg [⟨some 1, none, .box (.s 0)⟩,
⟨some 2, none, .mov (.c (.pure (.bool false)))⟩])
 (.seq (.reg [⟨some 3, none, .fldA 0 (.s 1)⟩,
⟨some 4, none, .load false 1 (.s 3)⟩,
⟨some 5, none, .call 76 [(.s 4)]⟩,
⟨some 6, none, .mov (.s 5)⟩,
⟨some 7, some (6, true), .fldA 1 (.s 1)⟩,
⟨some 8, some (6, true), .load false 1 (.s 7)⟩,
⟨some 9, some (6, true), .call 76 [(.s 8)]⟩,
⟨some 10, none, .pick (.s 6) (.s 9) (.c (.pure (.bool false)))⟩,
⟨some 11, none, .mov (.s 10)⟩,
⟨some 12, some (11, true), .fldA 2 (.s 1)⟩,
⟨some 13, some (11, true), .load false 1 (.s 12)⟩,
⟨some 14, some (11, true), .call 76 [(.s 13)]⟩,
⟨some 15, none, .pick (.s 11) (.s 14) (.c (.pure (.bool false)))⟩,
⟨some 2, none, .mov (.s 15)⟩])
 .ret))
theorem k97 : OkF 97 Try.f97 c97 [.t 2] 16 := ⟨Try.func97, by kernel_rfl, by kernel_rfl, by kernel_rfl, Try.ntmps97⟩
/-! typecase/typecaseref21.anchor -/
def c107 : AC :=
 (.seq (.reg [⟨some 2, none, .box (.s 0)⟩,
⟨some 4, none, .mov (.c (.pure (.bool false)))⟩])
 (.seq (.reg [⟨some 5, none, .fldA 0 (.s 2)⟩,
⟨some 6, none, .load false 1 (.s 5)⟩,
⟨some 7, none, .call 76 [(.s 6)]⟩,
⟨some 8, none, .mov (.s 7)⟩,
⟨some 9, some (8, true), .fldA 1 (.s 2)⟩,
⟨some 10, some (8, true), .load false 1 (.s 9)⟩,
⟨some 11, some (8, true), .call 76 [(.s 10)]⟩,
⟨some 12, none, .pick (.s 8) (.s 11) (.c (.pure (.bool false)))⟩,
⟨some 13, none, .mov (.s 12)⟩,
⟨some 14, some (13, true), .mov (.s 1)⟩,
⟨some 15, some (13, true), .mov (.s 14)⟩,
⟨some 16, some (15, false), .fldA 0 (.s 2)⟩,
⟨some 17, some (15, false), .load false 1 (.s 16)⟩,
⟨some 18, some (15, false), .bin .eql (.s 17) (.c (.pure (.int .i64 0)))⟩,
⟨some 19, some (15, false), .mov (.s 18)⟩,
⟨some 20, some (19, true), .fldA 1 (.s 2)⟩,
⟨some 21, some (19, true), .load false 1 (.s 20)⟩,
⟨some 22, some (19, true), .bin .eql (.s 21) (.c (.pure (.int .i64 0)))⟩,
⟨some 23, some (15, false), .pick (.s 19) (.s 22) (.c (.pure (.bool false)))⟩,
⟨some 24, some (13, true), .pick (.s 15) (.c (.pure (.bool true))) (.s 23)⟩,
⟨some 25, none, .pick (.s 13) (.s 24) (.c (.pure (.bool false)))⟩,
⟨some 4, none, .mov (.s 25)⟩])
 .ret))
theorem k107 : OkF 107 Try.f107 c107 [.t 4] 26 := ⟨Try.func107, by kernel_rfl, by kernel_rfl, by kernel_rfl, Try.ntmps107⟩
theorem within_q (n lo hi : Int) : FnQ Try.prog 75 [I n, I lo, I hi] [.bool (withB n lo hi)] := by
 refine k75.q (by simp) ?_
 unfold c75
 generalize ho : withB n lo hi = out
 simp -implicitDefEqProofs only [vmp,↓vmd,seval]
 refine onB_dec (fun h1 => ?_) (fun h1 => ?_)
 ·simp -implicitDefEqProofs only [h1, vmp,↓vmd,seval]
  rw [← ho, withB, decide_eq_true h1]
  exact gives_pure
 ·simp -implicitDefEqProofs only [h1, vmp,↓vmd,seval]
  rw [← ho, withB, decide_eq_false h1]
  exact gives_pure
theorem measure_q (n : Int) : FnQ Try.prog 76 [I n] [.bool (measB n)] := by
 refine k76.q (by simp) ?_
 unfold c76
 generalize ho : measB n = out
 simp -implicitDefEqProofs only [vmp,↓vmd,seval]
 refine onB_dec (fun h1 => ?_) (fun h1 => ?_)
 ·simp -implicitDefEqProofs only [h1, vmp,↓vmd,seval]
  rw [← ho, measB, decide_eq_true h1]
  exact gives_pure
 ·simp -implicitDefEqProofs only [h1, vmp,↓vmd,seval]
  rw [← ho, measB, decide_eq_false h1]
  exact gives_pure
theorem there_q (F : Ff) (g : Int) : FnQ Try.prog 79 [ffV F, I g] [.bool (thereB F g)] := by
 refine k79.q (by simp) ?_
 unfold c79
 generalize ho : thereB F g = out
 simp -implicitDefEqProofs only [vmp,↓vmd,seval]
 refine onB_dec (fun h1 => ?_) (fun h1 => ?_)
 ·(first | apply envO | apply envQ); simp -implicitDefEqProofs only [h1, vmp,↓vmd,seval]; rfl
  simp -implicitDefEqProofs only [h1, vmp,↓vmd,seval]
  refine onIf_intro fun _ => ?_
  (first | apply envO | apply envQ); simp -implicitDefEqProofs only [h1, vmp,↓vmd,seval]; rfl
  simp -implicitDefEqProofs only [h1, vmp,↓vmd,seval]
  rw [← ho, thereB, decide_eq_true h1]
  exact gives_pure
 ·simp -implicitDefEqProofs only [h1, vmp,↓vmd,seval]
  rw [← ho, thereB, decide_eq_false h1]
  exact gives_pure
theorem all_q (F : Ff) (l : List Int) : FnQ Try.prog 91 [ffV F, LI l] [.bool (allB F l)] := by
 refine k91.q (by simp) ?_
 unfold c91
 have ho : l.all (thereB F) = allB F l := rfl
 generalize allB F l = out at *
 simp -implicitDefEqProofs only [vmp,↓vmd,seval]
 refine loop_at (T := Nat) (fun i => [(5, .pure (I (i : Int))), (1, .pure (LI l)), (2, .ptr 0 0 0)]) (fun _ => [⟨[.pure (ffV F)], 6, .live⟩]) (fun i => i ≤ l.length ∧ (l.drop i).all (thereB F) = out) (fun i => l.length - i)
  0 [0] (by simp) rfl ⟨by simp, ho⟩ (by simp -implicitDefEqProofs only [kpp,seval]) (by simp -implicitDefEqProofs only [kpp,seval]) ?_
 rintro i ⟨hi, hr⟩
 unfold c91_1
 simp -implicitDefEqProofs only [vmp,↓vmd,seval]
 refine onIf_intro fun _ => ?_
 (first | apply envO | apply envQ); simp -implicitDefEqProofs only [vmp,↓vmd,seval]; rfl
 simp -implicitDefEqProofs only [vmp,↓vmd,seval]
 refine onB_dec (fun h1 => ?_) (fun h1 => ?_)
 ·have hlt : i < l.length := by omega
  rw [drop_at hlt, List.all_cons] at hr
  have hgi : (l.map I)[i]? = some (I l[i]) := map_at hlt
  generalize l[i] = x at hr hgi
  simp -implicitDefEqProofs only [h1, hgi, Int.natCast_nonneg, vmp,↓vmd,seval]
  refine onC_q (there_q F x) rfl ?_
  generalize thereB F x = b at hr
  cases b with
  | false =>
   rw [Bool.false_and] at hr
   subst hr
   (first | apply envO | apply envQ); simp -implicitDefEqProofs only [vmp,↓vmd,seval]; rfl
   simp -implicitDefEqProofs only [vmp,↓vmd,seval]
   exact gives_pure
  | true =>
   rw [Bool.true_and] at hr
   (first | apply envO | apply envQ); simp -implicitDefEqProofs only [vmp,↓vmd,seval]; rfl
   simp -implicitDefEqProofs only [vmp,↓vmd,seval]
   refine onBk_to (i + 1) [0] (by simp) rfl (by omega) ⟨hlt, hr⟩ (by simp -implicitDefEqProofs only [next_at hlt (by omega), kpp,seval]) (by simp -implicitDefEqProofs only [kpp,seval])
 ·rw [List.drop_of_length_le (by omega)] at hr
  subst hr
  simp -implicitDefEqProofs only [h1, vmp,↓vmd,seval]
  unfold c91_0
  simp -implicitDefEqProofs only [vmp,↓vmd,seval]
  exact gives_pure
theorem rises_q (l : List Int) : FnQ Try.prog 77 [LI l] [.bool (risesB l)] := by
 refine k77.q (by simp) ?_
 unfold c77
 have ho : allFrom (riseB l) (l.length - 1) 1 = risesB l := rfl
 generalize risesB l = out at *
 simp -implicitDefEqProofs only [vmp,↓vmd,seval]
 refine loop_at (T := Nat) (fun i => [(3, .pure (I (i : Int))), (0, .pure (LI l))]) (fun _ => []) (fun i => 1 ≤ i ∧ allFrom (riseB l) (l.length - i) i = out) (fun i => l.length - i)
  1 [] (by simp) rfl ⟨Nat.le_refl _, ho⟩ (by simp -implicitDefEqProofs only [kpp,seval]) (by simp -implicitDefEqProofs only [kpp,seval]) ?_
 rintro i ⟨i1, hr⟩
 unfold c77_1
 simp -implicitDefEqProofs only [vmp,↓vmd,seval]
 refine onIf_intro fun _ => ?_
 (first | apply envO | apply envQ); simp -implicitDefEqProofs only [vmp,↓vmd,seval]; rfl
 simp -implicitDefEqProofs only [vmp,↓vmd,seval]
 refine onB_dec (fun h1 => ?_) (fun h1 => ?_)
 ·have hlt : i < l.length := by omega
  rw [allFrom_step hlt] at hr
  have hgi : (l.map I)[i]? = some (I (atI l i)) := atI_eq hlt
  have hgp : (l.map I)[i - 1]? = some (I (atI l (i - 1))) := atI_eq (by omega)
  have hw : IntKind.wrap .i64 ((i : Int) - 1) = ((i - 1 : Nat) : Int) := by rw [wrap_id (by omega) (by omega)]; omega
  simp -implicitDefEqProofs only [h1, hgi, hw, hgp, Int.natCast_nonneg, Int.toNat_natCast, vmp,↓vmd,seval]
  refine onB_dec (fun h2 => ?_) (fun h2 => ?_)
  ·rw [riseB, decide_eq_false (by omega), Bool.false_and] at hr
   subst hr
   simp -implicitDefEqProofs only [h2, vmp,↓vmd,seval]
   exact gives_pure
  ·rw [riseB, decide_eq_true (by omega), Bool.true_and] at hr
   simp -implicitDefEqProofs only [h2, vmp,↓vmd,seval]
   refine onBk_to (i + 1) [] (by simp) rfl (by omega) ⟨by omega, hr⟩ (by simp -implicitDefEqProofs only [next_at hlt (by omega), kpp,seval]) (by simp -implicitDefEqProofs only [kpp,seval])
 ·rw [allFrom_end (by omega)] at hr
  subst hr
  simp -implicitDefEqProofs only [h1, vmp,↓vmd,seval]
  unfold c77_0
  simp -implicitDefEqProofs only [vmp,↓vmd,seval]
  exact gives_pure
theorem cover_q (F : Ff) (l : List Int) : FnQ Try.prog 80 [ffV F, LI l] [.bool (coverB F l)] := by
 refine k80.q (by simp) ?_
 unfold c80
 have ho : (decide (l.length ≤ 4096) && risesB l && allB F l) = coverB F l := rfl
 generalize coverB F l = out at *
 simp -implicitDefEqProofs only [vmp,↓vmd,seval]
 refine onIf_intro fun _ => ?_
 (first | apply envO | apply envQ); simp -implicitDefEqProofs only [vmp,↓vmd,seval]; rfl
 simp -implicitDefEqProofs only [vmp,↓vmd,seval]
 refine onB_dec (fun h1 => ?_) (fun h1 => ?_)
 ·(first | apply envO | apply envQ); simp -implicitDefEqProofs only [h1, vmp,↓vmd,seval]; rfl
  simp -implicitDefEqProofs only [h1, vmp,↓vmd,seval]
  refine onC_q (rises_q l) rfl ?_
  rw [decide_eq_true (show l.length ≤ 4096 by omega), Bool.true_and] at ho
  generalize risesB l = b at *
  cases b with
  | false =>
   rw [Bool.false_and] at ho
   subst ho
   (first | apply envO | apply envQ); simp -implicitDefEqProofs only [h1, vmp,↓vmd,seval]; rfl
   simp -implicitDefEqProofs only [vmp,↓vmd,seval]
   exact gives_pure
  | true =>
   rw [Bool.true_and] at ho
   (first | apply envO | apply envQ); simp -implicitDefEqProofs only [h1, vmp,↓vmd,seval]; rfl
   simp -implicitDefEqProofs only [vmp,↓vmd,seval]
   refine onC_q (all_q F l) rfl ?_
   subst ho
   (first | apply envO | apply envQ); simp -implicitDefEqProofs only [vmp,↓vmd,seval]; rfl
   simp -implicitDefEqProofs only [vmp,↓vmd,seval]
   exact gives_pure
 ·rw [decide_eq_false (show ¬ l.length ≤ 4096 by omega), Bool.false_and, Bool.false_and] at ho
  subst ho
  (first | apply envO | apply envQ); simp -implicitDefEqProofs only [h1, vmp,↓vmd,seval]; rfl
  simp -implicitDefEqProofs only [h1, vmp,↓vmd,seval]
  exact gives_pure
theorem covers_q (F : Ff) (l : List (List Int)) (lo : Int) : FnQ Try.prog 96 [ffV F, LL l, I lo] [.bool (coversB F l lo)] := by
 refine k96.q (by simp) ?_
 unfold c96
 have ho : (l.all (coverB F) && withB l.length lo 16) = coversB F l lo := rfl
 generalize coversB F l lo = out at *
 simp -implicitDefEqProofs only [vmp,↓vmd,seval]
 refine loop_at (T := Nat) (fun i => [(7, .pure (I (i : Int))), (1, .pure (LL l)), (2, .pure (I lo)), (3, .ptr 0 0 0)]) (fun _ => [⟨[.pure (ffV F)], 6, .live⟩]) (fun i => i ≤ l.length ∧ ((l.drop i).all (coverB F) && withB l.length lo 16) = out) (fun i => l.length - i)
  0 [0] (by simp) rfl ⟨by simp, ho⟩ (by simp -implicitDefEqProofs only [kpp,seval]) (by simp -implicitDefEqProofs only [kpp,seval]) ?_
 rintro i ⟨hi, hr⟩
 unfold c96_1
 simp -implicitDefEqProofs only [vmp,↓vmd,seval]
 refine onIf_intro fun _ => ?_
 (first | apply envO | apply envQ); simp -implicitDefEqProofs only [vmp,↓vmd,seval]; rfl
 simp -implicitDefEqProofs only [vmp,↓vmd,seval]
 refine onB_dec (fun h1 => ?_) (fun h1 => ?_)
 ·have hlt : i < l.length := by omega
  rw [drop_at hlt, List.all_cons] at hr
  have hgi : (l.map LI)[i]? = some (LI l[i]) := map_at hlt
  generalize l[i] = x at hr hgi
  simp -implicitDefEqProofs only [h1, hgi, Int.natCast_nonneg, vmp,↓vmd,seval]
  refine onC_q (cover_q F x) rfl ?_
  generalize coverB F x = b at hr
  cases b with
  | false =>
   rw [Bool.false_and, Bool.false_and] at hr
   subst hr
   (first | apply envO | apply envQ); simp -implicitDefEqProofs only [vmp,↓vmd,seval]; rfl
   simp -implicitDefEqProofs only [vmp,↓vmd,seval]
   exact gives_pure
  | true =>
   rw [Bool.true_and] at hr
   (first | apply envO | apply envQ); simp -implicitDefEqProofs only [vmp,↓vmd,seval]; rfl
   simp -implicitDefEqProofs only [vmp,↓vmd,seval]
   refine onBk_to (i + 1) [0] (by simp) rfl (by omega) ⟨hlt, hr⟩ (by simp -implicitDefEqProofs only [next_at hlt (by omega), kpp,seval]) (by simp -implicitDefEqProofs only [kpp,seval])
 ·rw [List.drop_of_length_le (by omega), List.all_nil, Bool.true_and] at hr
  simp -implicitDefEqProofs only [h1, vmp,↓vmd,seval]
  unfold c96_0
  simp -implicitDefEqProofs only [vmp,↓vmd,seval]
  refine onIf_intro fun _ => ?_
  (first | apply envO | apply envQ); simp -implicitDefEqProofs only [vmp,↓vmd,seval]; rfl
  simp -implicitDefEqProofs only [vmp,↓vmd,seval]
  refine onC_q (within_q _ _ _) rfl ?_
  rw [hr]
  (first | apply envO | apply envQ); simp -implicitDefEqProofs only [vmp,↓vmd,seval]; rfl
  simp -implicitDefEqProofs only [vmp,↓vmd,seval]
  exact gives_pure
theorem sorts_q (k : Int) : FnQ Try.prog 81 [I k] [I (sortsF k)] := by
 refine k81.q (by simp) ?_
 unfold c81
 have ho : (if withB k 1 5 = true then 1 else if withB k 6 12 = true then 2 else 0) = sortsF k := rfl
 generalize sortsF k = out at *
 simp -implicitDefEqProofs only [vmp,↓vmd,seval]
 refine onC_q (within_q k 1 5) rfl ?_
 generalize withB k 1 5 = b at *
 cases b with
 | true =>
  rw [if_pos rfl] at ho
  subst ho
  (first | apply envO | apply envQ); simp -implicitDefEqProofs only [vmp,↓vmd,seval]; rfl
  simp -implicitDefEqProofs only [vmp,↓vmd,seval]
  exact gives_pure
 | false =>
  rw [if_neg (by simp)] at ho
  (first | apply envO | apply envQ); simp -implicitDefEqProofs only [vmp,↓vmd,seval]; rfl
  simp -implicitDefEqProofs only [vmp,↓vmd,seval]
  refine onC_q (within_q k 6 12) rfl ?_
  generalize withB k 6 12 = b at *
  cases b with
  | true =>
   rw [if_pos rfl] at ho
   subst ho
   (first | apply envO | apply envQ); simp -implicitDefEqProofs only [vmp,↓vmd,seval]; rfl
   simp -implicitDefEqProofs only [vmp,↓vmd,seval]
   exact gives_pure
  | false =>
   rw [if_neg (by simp)] at ho
   subst ho
   (first | apply envO | apply envQ); simp -implicitDefEqProofs only [vmp,↓vmd,seval]; rfl
   simp -implicitDefEqProofs only [vmp,↓vmd,seval]
   exact gives_pure
theorem one_q (r : Int) : FnQ Try.prog 78 [.int .i32 r] [.bool (oneB r)] := by
 refine k78.q (by simp) ?_
 unfold c78
 generalize ho : oneB r = out
 unfold oneB at ho
 simp -implicitDefEqProofs only [vmp,↓vmd,seval]
 by_cases h1 : 0 ≤ r
 ·by_cases h2 : r < 55296
  ·rw [decide_eq_true h1, decide_eq_true h2] at ho
   have ho : true = out := ho
   subst ho
   simp -implicitDefEqProofs only [h1, h2, vmp,↓vmd,seval]
   exact gives_pure
  ·rw [decide_eq_true h1, decide_eq_false h2] at ho
   by_cases h3 : 57343 < r
   ·rw [decide_eq_true h3] at ho
    have ho : decide (r ≤ 1114111) = out := by simpa using ho
    subst ho
    simp -implicitDefEqProofs only [h1, h2, h3, vmp,↓vmd,seval]
    exact gives_pure
   ·rw [decide_eq_false h3] at ho
    have ho : false = out := ho
    subst ho
    simp -implicitDefEqProofs only [h1, h2, h3, vmp,↓vmd,seval]
    exact gives_pure
 ·have h3 : ¬ 57343 < r := by omega
  rw [decide_eq_false h1, decide_eq_false h3] at ho
  have ho : false = out := by simpa using ho
  subst ho
  simp -implicitDefEqProofs only [h1, h3, vmp,↓vmd,seval]
  exact gives_pure
theorem value_q (v : Sp) : FnQ Try.prog 97 [sp v] [.bool (valueB v)] := by
 refine k97.q (by simp) ?_
 unfold c97
 have ho : (measB v.f && measB v.t && measB v.v) = valueB v := rfl
 generalize valueB v = out at *
 simp -implicitDefEqProofs only [vmp,↓vmd,seval]
 refine onC_q (measure_q v.f) rfl ?_
 generalize measB v.f = b at *
 cases b with
 | false =>
  rw [Bool.false_and, Bool.false_and] at ho
  subst ho
  (first | apply envO | apply envQ); simp -implicitDefEqProofs only [vmp,↓vmd,seval]; rfl
  simp -implicitDefEqProofs only [vmp,↓vmd,seval]
  exact gives_pure
 | true =>
  rw [Bool.true_and] at ho
  (first | apply envO | apply envQ); simp -implicitDefEqProofs only [vmp,↓vmd,seval]; rfl
  simp -implicitDefEqProofs only [vmp,↓vmd,seval]
  refine onC_q (measure_q v.t) rfl ?_
  generalize measB v.t = b at *
  cases b with
  | false =>
   rw [Bool.false_and] at ho
   subst ho
   (first | apply envO | apply envQ); simp -implicitDefEqProofs only [vmp,↓vmd,seval]; rfl
   simp -implicitDefEqProofs only [vmp,↓vmd,seval]
   exact gives_pure
  | true =>
   rw [Bool.true_and] at ho
   (first | apply envO | apply envQ); simp -implicitDefEqProofs only [vmp,↓vmd,seval]; rfl
   simp -implicitDefEqProofs only [vmp,↓vmd,seval]
   refine onC_q (measure_q v.v) rfl ?_
   rw [ho]
   (first | apply envO | apply envQ); simp -implicitDefEqProofs only [vmp,↓vmd,seval]; rfl
   simp -implicitDefEqProofs only [vmp,↓vmd,seval]
   exact gives_pure
theorem anchor21_q (x y : Int) (has : Bool) : FnQ Try.prog 107 [.agg [I x, I y], .bool has] [.bool (anchorB x y has)] := by
 refine k107.q (by simp) ?_
 unfold c107
 have ho : (measB x && measB y && (has || decide (x = 0) && decide (y = 0))) = anchorB x y has := rfl
 generalize anchorB x y has = out at *
 simp -implicitDefEqProofs only [vmp,↓vmd,seval]
 refine onC_q (measure_q x) rfl ?_
 generalize measB x = b at *
 cases b with
 | false =>
  rw [Bool.false_and, Bool.false_and] at ho
  subst ho
  (first | apply envO | apply envQ); simp -implicitDefEqProofs only [vmp,↓vmd,seval]; rfl
  simp -implicitDefEqProofs only [vmp,↓vmd,seval]
  exact gives_pure
 | true =>
  rw [Bool.true_and] at ho
  (first | apply envO | apply envQ); simp -implicitDefEqProofs only [vmp,↓vmd,seval]; rfl
  simp -implicitDefEqProofs only [vmp,↓vmd,seval]
  refine onC_q (measure_q y) rfl ?_
  generalize measB y = b at *
  cases b with
  | false =>
   rw [Bool.false_and] at ho
   subst ho
   (first | apply envO | apply envQ); simp -implicitDefEqProofs only [vmp,↓vmd,seval]; rfl
   simp -implicitDefEqProofs only [vmp,↓vmd,seval]
   exact gives_pure
  | true =>
   rw [Bool.true_and] at ho
   (first | apply envO | apply envQ); simp -implicitDefEqProofs only [vmp,↓vmd,seval]; rfl
   cases has with
   | true =>
    rw [Bool.true_or] at ho
    subst ho
    simp -implicitDefEqProofs only [vmp,↓vmd,seval]
    exact gives_pure
   | false =>
    rw [Bool.false_or] at ho
    by_cases hx : x = 0
    ·rw [decide_eq_true hx, Bool.true_and] at ho
     subst ho
     simp -implicitDefEqProofs only [hx, vmp,↓vmd,seval]
     exact gives_pure
    ·rw [decide_eq_false hx, Bool.false_and] at ho
     subst ho
     simp -implicitDefEqProofs only [hx, vmp,↓vmd,seval]
     exact gives_pure
end Go.Proofs.Ytcjmkpkhjhjepaa.W
