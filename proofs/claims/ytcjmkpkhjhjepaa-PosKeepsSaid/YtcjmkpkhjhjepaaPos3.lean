/-
  The machine of positions: a lookup at a place, however deep. No condition but on sizes.
-/
import Derived.Test.YtcjmkpkhjhjepaaPos2
import Derived.Test.YtcjmkpkhjhjepaaPMk4
import Derived.Test.YtcjmkpkhjhjepaaCur3
namespace Go.Proofs.Ytcjmkpkhjhjepaa.W
open Go Go.Vm Go.Proofs
set_option maxRecDepth 100000
set_option linter.unusedSimpArgs false
set_option maxHeartbeats 4000000
/-! (*typecase/pos.machine).kind -/
def c90 : AC :=
 (.seq (.reg [⟨some 5, none, .box (.s 0)⟩,
⟨some 6, none, .box (.s 1)⟩,
⟨some 9, none, .box (.s 4)⟩,
⟨some 10, none, .mov (.c .empty)⟩,
⟨some 11, none, .mov (.c (.pure (.int .i64 0)))⟩,
⟨some 12, none, .mov (.c (.pure (.bool false)))⟩])
 (.seq (.seq (.reg [⟨some 15, none, .fldA 0 (.s 6)⟩,
⟨some 16, none, .load false 1 (.s 15)⟩])
 (.block 0
 (.seq (.seq (.reg [⟨some 18, none, .bin .eql (.s 16) (.c (.pure (.int .i64 6)))⟩,
⟨some 17, none, .mov (.s 18)⟩])
 (.cond (.s 17)
 .skip
 (.reg [⟨some 19, none, .bin .eql (.s 16) (.c (.pure (.int .i64 7)))⟩,
⟨some 17, none, .mov (.s 19)⟩])))
 (.cond (.s 17)
 (.seq (.regq [⟨some 20, none, .load false 1 (.s 5)⟩,
⟨some 21, none, .nilck (.s 20)⟩,
⟨some 22, none, .fldA 0 (.s 21)⟩,
⟨some 23, none, .load true 6 (.s 22)⟩,
⟨some 24, none, .load true 4 (.s 6)⟩,
⟨some 25, none, .mov (.s 2)⟩,
⟨some 26, none, .mov (.s 3)⟩,
⟨some 27, none, .call 103 [(.s 23), (.s 24), (.s 25), (.s 26)]⟩,
⟨some 28, none, .ext 0 (.s 27)⟩,
⟨some 29, none, .ext 1 (.s 27)⟩,
⟨some 30, none, .ext 2 (.s 27)⟩]
[⟨some 10, none, .mov (.s 28)⟩,
⟨some 11, none, .mov (.s 29)⟩,
⟨some 12, none, .mov (.s 30)⟩])
 .ret)
 (.seq (.reg [⟨some 32, none, .bin .eql (.s 16) (.c (.pure (.int .i64 8)))⟩,
⟨some 31, none, .mov (.s 32)⟩])
 (.cond (.s 31)
 (.seq (.regq [⟨some 33, none, .load false 1 (.s 5)⟩,
⟨some 34, none, .nilck (.s 33)⟩,
⟨some 35, none, .fldA 0 (.s 34)⟩,
⟨some 36, none, .load true 6 (.s 35)⟩,
⟨some 37, none, .load true 4 (.s 6)⟩,
⟨some 38, none, .mov (.s 2)⟩,
⟨some 39, none, .mov (.s 3)⟩,
⟨some 40, none, .call 16 [(.s 36), (.s 37), (.s 38), (.s 39)]⟩,
⟨some 41, none, .ext 0 (.s 40)⟩,
⟨some 42, none, .ext 1 (.s 40)⟩,
⟨some 43, none, .ext 2 (.s 40)⟩]
[⟨some 10, none, .mov (.s 41)⟩,
⟨some 11, none, .mov (.s 42)⟩,
⟨some 12, none, .mov (.s 43)⟩])
 .ret)
 (.seq (.seq (.reg [⟨some 45, none, .bin .eql (.s 16) (.c (.pure (.int .i64 9)))⟩,
⟨some 44, none, .mov (.s 45)⟩])
 (.cond (.s 44)
 .skip
 (.seq (.reg [⟨some 46, none, .bin .eql (.s 16) (.c (.pure (.int .i64 10)))⟩,
⟨some 44, none, .mov (.s 46)⟩])
 (.cond (.s 44)
 .skip
 (.reg [⟨some 47, none, .bin .eql (.s 16) (.c (.pure (.int .i64 11)))⟩,
⟨some 44, none, .mov (.s 47)⟩])))))
 (.cond (.s 44)
 (.seq (.regq [⟨some 49, none, .load false 1 (.s 5)⟩,
⟨some 50, none, .nilck (.s 49)⟩,
⟨some 51, none, .fldA 0 (.s 50)⟩,
⟨some 52, none, .load true 6 (.s 51)⟩,
⟨some 53, none, .load true 4 (.s 6)⟩,
⟨some 54, none, .mov (.s 2)⟩,
⟨some 55, none, .mov (.s 3)⟩,
⟨some 56, none, .call 104 [(.s 52), (.s 53), (.s 54), (.s 55)]⟩,
⟨some 48, none, .mov (.s 56)⟩,
⟨some 57, none, .ext 0 (.s 48)⟩,
⟨some 58, none, .ext 1 (.s 48)⟩,
⟨some 13, none, .mov (.s 57)⟩]
[⟨some 14, none, .mov (.s 58)⟩])
 (.seq (.reg [⟨some 59, none, .mov (.s 13)⟩,
⟨some 60, none, .mov (.s 3)⟩,
⟨some 61, none, .bin .add (.s 60) (.c (.pure (.int .i64 1)))⟩,
⟨some 62, none, .mov (.s 14)⟩,
⟨some 10, none, .mov (.s 59)⟩,
⟨some 11, none, .mov (.s 61)⟩,
⟨some 12, none, .mov (.s 62)⟩])
 .ret))
 (.seq (.reg [⟨some 64, none, .bin .eql (.s 16) (.c (.pure (.int .i64 12)))⟩,
⟨some 63, none, .mov (.s 64)⟩])
 (.cond (.s 63)
 (.seq (.regd [⟨some 65, none, .load false 1 (.s 5)⟩,
⟨some 66, none, .nilck (.s 65)⟩,
⟨some 67, none, .fldA 0 (.s 66)⟩,
⟨some 68, none, .load true 6 (.s 67)⟩,
⟨some 69, none, .load true 4 (.s 6)⟩,
⟨some 70, none, .mov (.s 2)⟩,
⟨some 71, none, .mov (.s 3)⟩,
⟨some 72, none, .mkfn (.func 106) [] [(.s 5), (.s 9)]⟩]
[⟨some 73, none, .call 105 [(.s 68), (.s 69), (.s 70), (.s 71), (.s 72)]⟩]
[⟨some 74, none, .ext 0 (.s 73)⟩,
⟨some 75, none, .ext 1 (.s 73)⟩,
⟨some 76, none, .ext 2 (.s 73)⟩]
[⟨some 10, none, .mov (.s 74)⟩,
⟨some 11, none, .mov (.s 75)⟩,
⟨some 12, none, .mov (.s 76)⟩])
 .ret)
 .skip))))))))))
 (.seq (.reg [⟨some 10, none, .mov (.c .empty)⟩,
⟨some 11, none, .mov (.c (.pure (.int .i64 0)))⟩,
⟨some 12, none, .mov (.c (.pure (.bool false)))⟩])
 .ret)))
theorem k90 : OkF 90 Try.f90 c90 [.t 10, .t 11, .t 12] 77 := ⟨Try.func90, by kernel_rfl, by kernel_rfl, by kernel_rfl, Try.ntmps90⟩
/-! (*typecase/pos.machine).once -/
def c74 : AC :=
 (.seq (.reg [⟨some 10, none, .mov (.c .empty)⟩,
⟨some 11, none, .mov (.c (.pure (.int .i64 0)))⟩,
⟨some 12, none, .mov (.c (.pure (.bool false)))⟩])
 (.seq (.seq (.reg [⟨some 17, none, .mov (.s 1)⟩,
⟨some 18, none, .bin .lss (.s 17) (.c (.pure (.int .i64 0)))⟩,
⟨some 19, none, .mov (.s 18)⟩,
⟨some 20, some (19, false), .mov (.s 1)⟩,
⟨some 21, some (19, false), .mov (.s 0)⟩,
⟨some 22, some (19, false), .nilck (.s 21)⟩,
⟨some 23, some (19, false), .fldA 0 (.s 22)⟩,
⟨some 24, some (19, false), .fldA 3 (.s 23)⟩,
⟨some 25, some (19, false), .load false 1 (.s 24)⟩,
⟨some 26, some (19, false), .len (.s 25)⟩,
⟨some 27, some (19, false), .bin .geq (.s 20) (.s 26)⟩,
⟨some 28, none, .pick (.s 19) (.c (.pure (.bool true))) (.s 27)⟩,
⟨some 29, none, .mov (.s 28)⟩,
⟨some 30, some (29, false), .mov (.s 3)⟩,
⟨some 31, some (29, false), .bin .lss (.s 30) (.c (.pure (.int .i64 0)))⟩,
⟨some 32, none, .pick (.s 29) (.c (.pure (.bool true))) (.s 31)⟩,
⟨some 33, none, .mov (.s 32)⟩,
⟨some 34, some (33, false), .mov (.s 3)⟩,
⟨some 35, some (33, false), .mov (.s 2)⟩,
⟨some 36, some (33, false), .len (.s 35)⟩,
⟨some 37, some (33, false), .bin .geq (.s 34) (.s 36)⟩,
⟨some 38, none, .pick (.s 33) (.c (.pure (.bool true))) (.s 37)⟩,
⟨some 39, none, .mov (.s 38)⟩,
⟨some 40, some (39, false), .mov (.s 4)⟩,
⟨some 41, some (39, false), .bin .gtr (.s 40) (.c (.pure (.int .i64 8)))⟩,
⟨some 42, none, .pick (.s 39) (.c (.pure (.bool true))) (.s 41)⟩,
⟨some 43, none, .mov (.s 42)⟩,
⟨some 44, some (43, false), .mov (.s 0)⟩,
⟨some 45, some (43, false), .nilck (.s 44)⟩,
⟨some 46, some (43, false), .fldA 6 (.s 45)⟩,
⟨some 47, some (43, false), .load false 1 (.s 46)⟩,
⟨some 48, some (43, false), .bin .lss (.s 47) (.c (.pure (.int .i64 1)))⟩,
⟨some 49, none, .pick (.s 43) (.c (.pure (.bool true))) (.s 48)⟩])
 (.cond (.s 49)
 (.seq (.reg [⟨some 10, none, .mov (.c .empty)⟩,
⟨some 11, none, .mov (.c (.pure (.int .i64 0)))⟩,
⟨some 12, none, .mov (.c (.pure (.bool false)))⟩])
 .ret)
 .skip))
 (.seq (.reg [⟨some 50, none, .mov (.s 0)⟩,
⟨some 51, none, .nilck (.s 50)⟩,
⟨some 52, none, .fldA 0 (.s 51)⟩,
⟨some 53, none, .fldA 3 (.s 52)⟩,
⟨some 54, none, .load false 1 (.s 53)⟩,
⟨some 55, none, .mov (.s 1)⟩,
⟨some 56, none, .idxA 4 (.s 54) (.s 55)⟩,
⟨some 57, none, .load true 4 (.s 56)⟩,
⟨some 13, none, .box (.c (.agg [(.pure (.int .i64 0)), (.pure (.int .i64 0)), (.pure (.int .i64 0)), .empty]))⟩,
⟨none, none, .store 4 (.s 13) (.s 57)⟩])
 (.seq (.seq (.regq [⟨some 58, none, .mov (.s 0)⟩,
⟨some 59, none, .nilck (.s 58)⟩,
⟨some 60, none, .fldA 0 (.s 59)⟩,
⟨some 61, none, .load true 6 (.s 60)⟩,
⟨some 62, none, .load true 4 (.s 13)⟩,
⟨some 63, none, .mov (.s 2)⟩,
⟨some 64, none, .mov (.s 3)⟩,
⟨some 65, none, .idxA 10 (.s 63) (.s 64)⟩,
⟨some 66, none, .fldA 0 (.s 65)⟩,
⟨some 67, none, .load false 1 (.s 66)⟩,
⟨some 68, none, .call 49 [(.s 61), (.s 62), (.s 67)]⟩,
⟨some 69, none, .mov (.s 68)⟩,
⟨some 70, some (69, false), .mov (.s 0)⟩,
⟨some 71, some (69, false), .load true 4 (.s 13)⟩,
⟨some 72, some (69, false), .mov (.s 2)⟩,
⟨some 73, some (69, false), .mov (.s 3)⟩]
[⟨some 74, some (69, false), .call 89 [(.s 70), (.s 71), (.s 72), (.s 73)]⟩,
⟨some 75, some (69, false), .un .not (.s 74)⟩,
⟨some 76, none, .pick (.s 69) (.c (.pure (.bool true))) (.s 75)⟩])
 (.cond (.s 76)
 (.seq (.reg [⟨some 10, none, .mov (.c .empty)⟩,
⟨some 11, none, .mov (.c (.pure (.int .i64 0)))⟩,
⟨some 12, none, .mov (.c (.pure (.bool false)))⟩])
 .ret)
 .skip))
 (.seq (.reg [⟨some 77, none, .mov (.s 0)⟩,
⟨some 78, none, .nilck (.s 77)⟩,
⟨some 79, none, .fldA 6 (.s 78)⟩,
⟨some 80, none, .load false 1 (.s 79)⟩,
⟨some 81, none, .bin .sub (.s 80) (.c (.pure (.int .i64 1)))⟩,
⟨some 82, none, .nilck (.s 77)⟩,
⟨some 83, none, .fldA 6 (.s 82)⟩,
⟨none, none, .store 1 (.s 83) (.s 81)⟩])
 (.seq (.reg [⟨some 85, none, .mov (.s 0)⟩,
⟨some 86, none, .load true 4 (.s 13)⟩,
⟨some 87, none, .mov (.s 2)⟩,
⟨some 88, none, .mov (.s 3)⟩,
⟨some 89, none, .mov (.s 4)⟩,
⟨some 90, none, .call 90 [(.s 85), (.s 86), (.s 87), (.s 88), (.s 89)]⟩,
⟨some 84, none, .mov (.s 90)⟩,
⟨some 91, none, .ext 0 (.s 84)⟩,
⟨some 92, none, .ext 1 (.s 84)⟩,
⟨some 93, none, .ext 2 (.s 84)⟩,
⟨some 14, none, .mov (.s 91)⟩,
⟨some 15, none, .mov (.s 92)⟩,
⟨some 16, none, .mov (.s 93)⟩])
 (.seq (.seq (.reg [⟨some 94, none, .mov (.s 16)⟩,
⟨some 95, none, .un .not (.s 94)⟩])
 (.cond (.s 95)
 (.seq (.reg [⟨some 96, none, .mov (.s 0)⟩,
⟨some 97, none, .nilck (.s 96)⟩,
⟨some 98, none, .fldA 6 (.s 97)⟩,
⟨some 99, none, .load false 1 (.s 98)⟩,
⟨some 100, none, .bin .add (.s 99) (.c (.pure (.int .i64 1)))⟩,
⟨some 101, none, .nilck (.s 96)⟩,
⟨some 102, none, .fldA 6 (.s 101)⟩,
⟨none, none, .store 1 (.s 102) (.s 100)⟩])
 (.seq (.reg [⟨some 10, none, .mov (.c .empty)⟩,
⟨some 11, none, .mov (.c (.pure (.int .i64 0)))⟩,
⟨some 12, none, .mov (.c (.pure (.bool false)))⟩])
 .ret))
 .skip))
 (.seq (.reg [⟨some 103, none, .mov (.s 14)⟩,
⟨some 104, none, .mov (.s 15)⟩,
⟨some 10, none, .mov (.s 103)⟩,
⟨some 11, none, .mov (.s 104)⟩,
⟨some 12, none, .mov (.c (.pure (.bool true)))⟩])
 .ret))))))))
theorem k74 : OkF 74 Try.f74 c74 [.t 10, .t 11, .t 12] 105 := ⟨Try.func74, by kernel_rfl, by kernel_rfl, by kernel_rfl, Try.ntmps74⟩
/-- what the kinds tell: where nothing was done, what is told of it counts for nothing -/
def KindR (r : Option (List Gl × Int)) (s : S) : Prop := match r with
 | some q => s = onceS (some q)
 | none => ∃ a n, s = .tup [a, .pure (I n), .pure (.bool false)] ∧ (a = .empty ∨ ∃ v, a = .pure v)
theorem adjR_kind (r : Option (List Gl × Int)) : KindR r (retS ((adjR r).map .pure)) := by
 cases r with
 | none => exact ⟨_, _, rfl, .inr ⟨_, rfl⟩⟩
 | some q => rfl
theorem kind_c (F : Ff) {m : Nat} (h : OnceC F m) (k : Lk) (hk : PosK k) (l : List Gl) (x left deep : Int) (hl : l.length ≤ 100) (h0 : 0 ≤ left) (h1 : left ≤ 65536) (hd : deep + 1 = 9 - (m : Int)) (hd0 : 0 ≤ deep) :
  ∃ s0, KindR (kindO (onceF F m) F.fo k l x left).1 s0 ∧ CallA Try.prog 90 [.ptr 0 0 0, .pure (lk k), .pure (.sl (l.map gl)), .pure (I x), .pure (I deep)] [mR F left]
   fun s H' => s = s0 ∧ H' = [mR F (kindO (onceF F m) F.fo k l x left).2] := by
 have key : ∀ {s0 : S} {u : Int}, (∀ {n : Nat} {f : Nat → Nat}, S.inb n s0 = true ∧ S.ren f s0 = s0) → CallA Try.prog 90 [.ptr 0 0 0, .pure (lk k), .pure (.sl (l.map gl)), .pure (I x), .pure (I deep)] [mR F left] (fun s H' => s = s0 ∧ ∃ R, H' = mR F u :: R) →
   CallA Try.prog 90 [.ptr 0 0 0, .pure (lk k), .pure (.sl (l.map gl)), .pure (I x), .pure (I deep)] [mR F left] (fun s H' => s = s0 ∧ H' = [mR F u]) := by
  intro s0 u hs hc
  refine hc.weak ?_
  rintro r H' ⟨rfl, R, rfl⟩
  exact ⟨[0], _, _, by simp, rfl, (by simp -implicitDefEqProofs only [kpp,seval]; exact hs), (by simp -implicitDefEqProofs only [kpp,seval]), rfl, rfl⟩
 by_cases h6 : k.kind = 6
 ·have e : kindO (onceF F m) F.fo k l x left = (applyF F.fo k l x, left) := by rw [kindO, if_neg (by omega), singleF, if_pos (by omega)]
  rw [e]
  have hq := apply_q F.fo k l (by omega) x
  rw [ffV_fo] at hq
  refine ⟨retS ((adjR (applyF F.fo k l x)).map .pure), adjR_kind _, key (by cases applyF F.fo k l x <;> exact ⟨rfl, rfl⟩) ?_⟩
  refine k90.a (by simp) ?_
  unfold c90
  generalize applyF F.fo k l x = o at *
  simp -implicitDefEqProofs only [vmp,↓vmd,seval]
  refine onB_pos h6 ?_
  simp -implicitDefEqProofs only [h6, vmp,↓vmd,seval]
  refine onQ_q hq rfl ?_
  cases o with
  | none =>
   (first | apply envO | apply envQ); simp -implicitDefEqProofs only [adjR, vmp,↓vmd,seval]; rfl
   simp -implicitDefEqProofs only [adjR, vmp,↓vmd,seval]
   first | exact ⟨_, rfl⟩ | exact ⟨rfl, _, rfl⟩
  | some q =>
   (first | apply envO | apply envQ); simp -implicitDefEqProofs only [adjR, vmp,↓vmd,seval]; rfl
   simp -implicitDefEqProofs only [adjR, vmp,↓vmd,seval]
   first | exact ⟨_, rfl⟩ | exact ⟨rfl, _, rfl⟩
 by_cases h7 : k.kind = 7
 ·have e : kindO (onceF F m) F.fo k l x left = (applyF F.fo k l x, left) := by rw [kindO, if_neg (by omega), singleF, if_pos (by omega)]
  rw [e]
  have hq := apply_q F.fo k l (by omega) x
  rw [ffV_fo] at hq
  have n6 : ¬ k.kind = 6 := by omega
  refine ⟨retS ((adjR (applyF F.fo k l x)).map .pure), adjR_kind _, key (by cases applyF F.fo k l x <;> exact ⟨rfl, rfl⟩) ?_⟩
  refine k90.a (by simp) ?_
  unfold c90
  generalize applyF F.fo k l x = o at *
  simp -implicitDefEqProofs only [vmp,↓vmd,seval]
  refine onB_neg n6 ?_
  simp -implicitDefEqProofs only [n6, vmp,↓vmd,seval]
  refine onB_pos h7 ?_
  simp -implicitDefEqProofs only [h7, vmp,↓vmd,seval]
  refine onQ_q hq rfl ?_
  cases o with
  | none =>
   (first | apply envO | apply envQ); simp -implicitDefEqProofs only [adjR, vmp,↓vmd,seval]; rfl
   simp -implicitDefEqProofs only [adjR, vmp,↓vmd,seval]
   first | exact ⟨_, rfl⟩ | exact ⟨rfl, _, rfl⟩
  | some q =>
   (first | apply envO | apply envQ); simp -implicitDefEqProofs only [adjR, vmp,↓vmd,seval]; rfl
   simp -implicitDefEqProofs only [adjR, vmp,↓vmd,seval]
   first | exact ⟨_, rfl⟩ | exact ⟨rfl, _, rfl⟩
 by_cases h8 : k.kind = 8
 ·have e : kindO (onceF F m) F.fo k l x left = ((curD F.fo k l x).map fun z => (z.2, z.1), left) := by rw [kindO, if_neg (by omega), singleF, if_neg (by omega), if_pos h8]
  rw [e]
  have hq := capply_q F.fo k l (by omega) x
  rw [ffV_fo, curA] at hq
  have n6 : ¬ k.kind = 6 := by omega
  have n7 : ¬ k.kind = 7 := by omega
  generalize curD F.fo k l x = o at *
  cases o with
  | none =>
   refine ⟨.tup [.pure (.sl (l.map gl)), .pure (I x), .pure (.bool false)], ⟨_, _, rfl, .inr ⟨_, rfl⟩⟩, key ⟨rfl, rfl⟩ ?_⟩
   refine k90.a (by simp) ?_
   unfold c90
   simp -implicitDefEqProofs only [vmp,↓vmd,seval]
   refine onB_neg n6 ?_
   simp -implicitDefEqProofs only [n6, vmp,↓vmd,seval]
   refine onB_neg n7 ?_
   simp -implicitDefEqProofs only [n7, vmp,↓vmd,seval]
   refine onB_pos h8 ?_
   simp -implicitDefEqProofs only [h8, vmp,↓vmd,seval]
   refine onQ_q hq rfl ?_
   (first | apply envO | apply envQ); simp -implicitDefEqProofs only [vmp,↓vmd,seval]; rfl
   simp -implicitDefEqProofs only [vmp,↓vmd,seval]
   first | exact ⟨_, rfl⟩ | exact ⟨rfl, _, rfl⟩
  | some q =>
   refine ⟨onceS (some (q.2, q.1)), rfl, key ⟨rfl, rfl⟩ ?_⟩
   refine k90.a (by simp) ?_
   unfold c90
   simp -implicitDefEqProofs only [vmp,↓vmd,seval]
   refine onB_neg n6 ?_
   simp -implicitDefEqProofs only [n6, vmp,↓vmd,seval]
   refine onB_neg n7 ?_
   simp -implicitDefEqProofs only [n7, vmp,↓vmd,seval]
   refine onB_pos h8 ?_
   simp -implicitDefEqProofs only [h8, vmp,↓vmd,seval]
   refine onQ_q hq rfl ?_
   (first | apply envO | apply envQ); simp -implicitDefEqProofs only [vmp,↓vmd,seval]; rfl
   simp -implicitDefEqProofs only [vmp,↓vmd,seval]
   first | exact ⟨_, rfl⟩ | exact ⟨rfl, _, rfl⟩
 by_cases h9 : k.kind = 9
 ·have e : kindO (onceF F m) F.fo k l x left = ((markF F.fo k l x).map fun a => (a, IntKind.wrap .i64 (x + 1)), left) := by rw [kindO, if_neg (by omega), singleF, if_neg (by omega), if_neg (by omega), if_pos (by omega)]
  rw [e]
  have hq := apply34_q F.fo k l (by omega) (hk.hang (by omega)) x
  rw [ffV_fo] at hq
  have n6 : ¬ k.kind = 6 := by omega
  have n7 : ¬ k.kind = 7 := by omega
  have n8 : ¬ k.kind = 8 := by omega
  generalize markF F.fo k l x = o at *
  cases o with
  | none =>
   have hq' : FnQ Try.prog 104 [ffV F, lk k, .sl (l.map gl), I x] [.sl [], .bool false] := hq
   refine ⟨.tup [.pure (.sl []), .pure (I (IntKind.wrap .i64 (x + 1))), .pure (.bool false)], ⟨_, _, rfl, .inr ⟨_, rfl⟩⟩, key ⟨rfl, rfl⟩ ?_⟩
   refine k90.a (by simp) ?_
   unfold c90
   simp -implicitDefEqProofs only [vmp,↓vmd,seval]
   refine onB_neg n6 ?_
   simp -implicitDefEqProofs only [n6, vmp,↓vmd,seval]
   refine onB_neg n7 ?_
   simp -implicitDefEqProofs only [n7, vmp,↓vmd,seval]
   refine onB_neg n8 ?_
   simp -implicitDefEqProofs only [n8, vmp,↓vmd,seval]
   refine onB_pos h9 ?_
   simp -implicitDefEqProofs only [h9, vmp,↓vmd,seval]
   refine onQ_q hq' rfl ?_
   (first | apply envO | apply envQ); simp -implicitDefEqProofs only [vmp,↓vmd,seval]; rfl
   simp -implicitDefEqProofs only [vmp,↓vmd,seval]
   first | exact ⟨_, rfl⟩ | exact ⟨rfl, _, rfl⟩
  | some q =>
   have hq' : FnQ Try.prog 104 [ffV F, lk k, .sl (l.map gl), I x] [.sl (q.map gl), .bool true] := hq
   refine ⟨onceS (some (q, IntKind.wrap .i64 (x + 1))), rfl, key ⟨rfl, rfl⟩ ?_⟩
   refine k90.a (by simp) ?_
   unfold c90
   simp -implicitDefEqProofs only [vmp,↓vmd,seval]
   refine onB_neg n6 ?_
   simp -implicitDefEqProofs only [n6, vmp,↓vmd,seval]
   refine onB_neg n7 ?_
   simp -implicitDefEqProofs only [n7, vmp,↓vmd,seval]
   refine onB_neg n8 ?_
   simp -implicitDefEqProofs only [n8, vmp,↓vmd,seval]
   refine onB_pos h9 ?_
   simp -implicitDefEqProofs only [h9, vmp,↓vmd,seval]
   refine onQ_q hq' rfl ?_
   (first | apply envO | apply envQ); simp -implicitDefEqProofs only [vmp,↓vmd,seval]; rfl
   simp -implicitDefEqProofs only [vmp,↓vmd,seval]
   first | exact ⟨_, rfl⟩ | exact ⟨rfl, _, rfl⟩
 by_cases h10 : k.kind = 10
 ·have e : kindO (onceF F m) F.fo k l x left = ((markF F.fo k l x).map fun a => (a, IntKind.wrap .i64 (x + 1)), left) := by rw [kindO, if_neg (by omega), singleF, if_neg (by omega), if_neg (by omega), if_pos (by omega)]
  rw [e]
  have hq := apply34_q F.fo k l (by omega) (hk.hang (by omega)) x
  rw [ffV_fo] at hq
  have n6 : ¬ k.kind = 6 := by omega
  have n7 : ¬ k.kind = 7 := by omega
  have n8 : ¬ k.kind = 8 := by omega
  have n9 : ¬ k.kind = 9 := by omega
  generalize markF F.fo k l x = o at *
  cases o with
  | none =>
   have hq' : FnQ Try.prog 104 [ffV F, lk k, .sl (l.map gl), I x] [.sl [], .bool false] := hq
   refine ⟨.tup [.pure (.sl []), .pure (I (IntKind.wrap .i64 (x + 1))), .pure (.bool false)], ⟨_, _, rfl, .inr ⟨_, rfl⟩⟩, key ⟨rfl, rfl⟩ ?_⟩
   refine k90.a (by simp) ?_
   unfold c90
   simp -implicitDefEqProofs only [vmp,↓vmd,seval]
   refine onB_neg n6 ?_
   simp -implicitDefEqProofs only [n6, vmp,↓vmd,seval]
   refine onB_neg n7 ?_
   simp -implicitDefEqProofs only [n7, vmp,↓vmd,seval]
   refine onB_neg n8 ?_
   simp -implicitDefEqProofs only [n8, vmp,↓vmd,seval]
   refine onB_neg n9 ?_
   simp -implicitDefEqProofs only [n9, vmp,↓vmd,seval]
   refine onB_pos h10 ?_
   simp -implicitDefEqProofs only [h10, vmp,↓vmd,seval]
   refine onQ_q hq' rfl ?_
   (first | apply envO | apply envQ); simp -implicitDefEqProofs only [vmp,↓vmd,seval]; rfl
   simp -implicitDefEqProofs only [vmp,↓vmd,seval]
   first | exact ⟨_, rfl⟩ | exact ⟨rfl, _, rfl⟩
  | some q =>
   have hq' : FnQ Try.prog 104 [ffV F, lk k, .sl (l.map gl), I x] [.sl (q.map gl), .bool true] := hq
   refine ⟨onceS (some (q, IntKind.wrap .i64 (x + 1))), rfl, key ⟨rfl, rfl⟩ ?_⟩
   refine k90.a (by simp) ?_
   unfold c90
   simp -implicitDefEqProofs only [vmp,↓vmd,seval]
   refine onB_neg n6 ?_
   simp -implicitDefEqProofs only [n6, vmp,↓vmd,seval]
   refine onB_neg n7 ?_
   simp -implicitDefEqProofs only [n7, vmp,↓vmd,seval]
   refine onB_neg n8 ?_
   simp -implicitDefEqProofs only [n8, vmp,↓vmd,seval]
   refine onB_neg n9 ?_
   simp -implicitDefEqProofs only [n9, vmp,↓vmd,seval]
   refine onB_pos h10 ?_
   simp -implicitDefEqProofs only [h10, vmp,↓vmd,seval]
   refine onQ_q hq' rfl ?_
   (first | apply envO | apply envQ); simp -implicitDefEqProofs only [vmp,↓vmd,seval]; rfl
   simp -implicitDefEqProofs only [vmp,↓vmd,seval]
   first | exact ⟨_, rfl⟩ | exact ⟨rfl, _, rfl⟩
 by_cases h11 : k.kind = 11
 ·have e : kindO (onceF F m) F.fo k l x left = ((markF F.fo k l x).map fun a => (a, IntKind.wrap .i64 (x + 1)), left) := by rw [kindO, if_neg (by omega), singleF, if_neg (by omega), if_neg (by omega), if_pos (by omega)]
  rw [e]
  have hq := apply34_q F.fo k l (by omega) (hk.hang (by omega)) x
  rw [ffV_fo] at hq
  have n6 : ¬ k.kind = 6 := by omega
  have n7 : ¬ k.kind = 7 := by omega
  have n8 : ¬ k.kind = 8 := by omega
  have n9 : ¬ k.kind = 9 := by omega
  have n10 : ¬ k.kind = 10 := by omega
  generalize markF F.fo k l x = o at *
  cases o with
  | none =>
   have hq' : FnQ Try.prog 104 [ffV F, lk k, .sl (l.map gl), I x] [.sl [], .bool false] := hq
   refine ⟨.tup [.pure (.sl []), .pure (I (IntKind.wrap .i64 (x + 1))), .pure (.bool false)], ⟨_, _, rfl, .inr ⟨_, rfl⟩⟩, key ⟨rfl, rfl⟩ ?_⟩
   refine k90.a (by simp) ?_
   unfold c90
   simp -implicitDefEqProofs only [vmp,↓vmd,seval]
   refine onB_neg n6 ?_
   simp -implicitDefEqProofs only [n6, vmp,↓vmd,seval]
   refine onB_neg n7 ?_
   simp -implicitDefEqProofs only [n7, vmp,↓vmd,seval]
   refine onB_neg n8 ?_
   simp -implicitDefEqProofs only [n8, vmp,↓vmd,seval]
   refine onB_neg n9 ?_
   simp -implicitDefEqProofs only [n9, vmp,↓vmd,seval]
   refine onB_neg n10 ?_
   simp -implicitDefEqProofs only [n10, vmp,↓vmd,seval]
   refine onB_pos h11 ?_
   simp -implicitDefEqProofs only [h11, vmp,↓vmd,seval]
   refine onQ_q hq' rfl ?_
   (first | apply envO | apply envQ); simp -implicitDefEqProofs only [vmp,↓vmd,seval]; rfl
   simp -implicitDefEqProofs only [vmp,↓vmd,seval]
   first | exact ⟨_, rfl⟩ | exact ⟨rfl, _, rfl⟩
  | some q =>
   have hq' : FnQ Try.prog 104 [ffV F, lk k, .sl (l.map gl), I x] [.sl (q.map gl), .bool true] := hq
   refine ⟨onceS (some (q, IntKind.wrap .i64 (x + 1))), rfl, key ⟨rfl, rfl⟩ ?_⟩
   refine k90.a (by simp) ?_
   unfold c90
   simp -implicitDefEqProofs only [vmp,↓vmd,seval]
   refine onB_neg n6 ?_
   simp -implicitDefEqProofs only [n6, vmp,↓vmd,seval]
   refine onB_neg n7 ?_
   simp -implicitDefEqProofs only [n7, vmp,↓vmd,seval]
   refine onB_neg n8 ?_
   simp -implicitDefEqProofs only [n8, vmp,↓vmd,seval]
   refine onB_neg n9 ?_
   simp -implicitDefEqProofs only [n9, vmp,↓vmd,seval]
   refine onB_neg n10 ?_
   simp -implicitDefEqProofs only [n10, vmp,↓vmd,seval]
   refine onB_pos h11 ?_
   simp -implicitDefEqProofs only [h11, vmp,↓vmd,seval]
   refine onQ_q hq' rfl ?_
   (first | apply envO | apply envQ); simp -implicitDefEqProofs only [vmp,↓vmd,seval]; rfl
   simp -implicitDefEqProofs only [vmp,↓vmd,seval]
   first | exact ⟨_, rfl⟩ | exact ⟨rfl, _, rfl⟩
 by_cases h12 : k.kind = 12
 ·have e : kindO (onceF F m) F.fo k l x left = ctxO (onceF F m) F.fo k l x left := by rw [kindO, if_pos h12]
  rw [e]
  obtain ⟨hs, hn⟩ := hk.cx h12
  have hc := ctxa_c F h k hs hn l x left deep hl h0 h1 hd hd0
  have n6 : ¬ k.kind = 6 := by omega
  have n7 : ¬ k.kind = 7 := by omega
  have n8 : ¬ k.kind = 8 := by omega
  have n9 : ¬ k.kind = 9 := by omega
  have n10 : ¬ k.kind = 10 := by omega
  have n11 : ¬ k.kind = 11 := by omega
  generalize ctxO (onceF F m) F.fo k l x left = o at *
  obtain ⟨r, left'⟩ := o
  refine ⟨onceS r, by cases r <;> first | rfl | exact ⟨_, _, rfl, .inl rfl⟩, key onceS_k ?_⟩
  refine k90.a (by simp) ?_
  unfold c90
  simp -implicitDefEqProofs only [vmp,↓vmd,seval]
  refine onB_neg n6 ?_
  simp -implicitDefEqProofs only [n6, vmp,↓vmd,seval]
  refine onB_neg n7 ?_
  simp -implicitDefEqProofs only [n7, vmp,↓vmd,seval]
  refine onB_neg n8 ?_
  simp -implicitDefEqProofs only [n8, vmp,↓vmd,seval]
  refine onB_neg n9 ?_
  simp -implicitDefEqProofs only [n9, vmp,↓vmd,seval]
  refine onB_neg n10 ?_
  simp -implicitDefEqProofs only [n10, vmp,↓vmd,seval]
  refine onB_neg n11 ?_
  simp -implicitDefEqProofs only [n11, vmp,↓vmd,seval]
  refine onB_pos h12 ?_
  simp -implicitDefEqProofs only [h12, vmp,↓vmd,seval]
  refine onC_fr hc [0, 1, 3] (by simp) (by simp -implicitDefEqProofs only [kpp,seval]) rfl rfl (by simp) ?_
  cases r with
  | none =>
   (first | apply envO | apply envQ); simp -implicitDefEqProofs only [onceS, vmp,↓vmd,seval]; rfl
   simp -implicitDefEqProofs only [onceS, vmp,↓vmd,seval]
   first | exact ⟨_, rfl⟩ | exact ⟨rfl, _, rfl⟩
  | some q =>
   (first | apply envO | apply envQ); simp -implicitDefEqProofs only [onceS, vmp,↓vmd,seval]; rfl
   simp -implicitDefEqProofs only [onceS, vmp,↓vmd,seval]
   first | exact ⟨_, rfl⟩ | exact ⟨rfl, _, rfl⟩
 ·have e : kindO (onceF F m) F.fo k l x left = (none, left) := by rw [kindO, if_neg h12, singleF, if_neg (by omega), if_neg (by omega), if_neg (by omega)]
  rw [e]
  have n6 : ¬ k.kind = 6 := by omega
  have n7 : ¬ k.kind = 7 := by omega
  have n8 : ¬ k.kind = 8 := by omega
  have n9 : ¬ k.kind = 9 := by omega
  have n10 : ¬ k.kind = 10 := by omega
  have n11 : ¬ k.kind = 11 := by omega
  have n12 : ¬ k.kind = 12 := by omega
  refine ⟨.tup [.empty, .pure (I 0), .pure (.bool false)], ⟨_, _, rfl, .inl rfl⟩, key ⟨rfl, rfl⟩ ?_⟩
  refine k90.a (by simp) ?_
  unfold c90
  simp -implicitDefEqProofs only [vmp,↓vmd,seval]
  refine onB_neg n6 ?_
  simp -implicitDefEqProofs only [n6, vmp,↓vmd,seval]
  refine onB_neg n7 ?_
  simp -implicitDefEqProofs only [n7, vmp,↓vmd,seval]
  refine onB_neg n8 ?_
  simp -implicitDefEqProofs only [n8, vmp,↓vmd,seval]
  refine onB_neg n9 ?_
  simp -implicitDefEqProofs only [n9, vmp,↓vmd,seval]
  refine onB_neg n10 ?_
  simp -implicitDefEqProofs only [n10, vmp,↓vmd,seval]
  refine onB_neg n11 ?_
  simp -implicitDefEqProofs only [n11, vmp,↓vmd,seval]
  refine onB_neg n12 ?_
  simp -implicitDefEqProofs only [n12, vmp,↓vmd,seval]
  first | exact ⟨_, rfl⟩ | exact ⟨rfl, _, rfl⟩
theorem kindO_none {O : Once} {f : Fo} {k : Lk} {l : List Gl} {x u : Int} (h : (kindO O f k l x u).1 = none) : (kindO O f k l x u).2 = u := by
 rw [kindO] at h ⊢
 split
 ·rename_i hk
  rw [if_pos hk] at h
  rw [ctxO] at h ⊢
  split
  ·rfl
  ·rename_i hm
   rw [hm] at h
   cases h
 ·rfl
theorem lkAt_map {l : List Lk} {n : Int} (h0 : 0 ≤ n) (h1 : n < l.length) : (l.map lk)[n.toNat]? = some (lk (lkAt l n)) ∧ lkAt l n ∈ l := by
 have e : l[n.toNat]? = some (l[n.toNat]'(by omega)) := List.getElem?_eq_getElem (by omega)
 rw [List.getElem?_map, lkAt, e]
 exact ⟨rfl, List.getElem_mem _⟩
theorem once_step (F : Ff) (hF : ∀ k ∈ F.lks, PosK k) (n : Nat) (ih : ∀ m, n = m + 1 → OnceC F m) : OnceC F n := by
 intro lookup l x left deep hl h0 h1 hd hd0
 have hno : lookup < 0 ∨ (F.lks.length : Int) ≤ lookup ∨ x < 0 ∨ (l.length : Int) ≤ x ∨ 8 < deep ∨ left < 1 → onceF F n lookup l x left = (none, left) := by
  intro hc
  cases n with
  | zero => rfl
  | succ n => rw [onceF, if_pos (by omega)]
 refine CallA.weak (K := fun s H' => s = onceS (onceF F n lookup l x left).1 ∧ ∃ R, H' = mR F (onceF F n lookup l x left).2 :: R) ?_ ?_
 ·refine k74.a (by simp) ?_
  unfold c74
  generalize ho : onceF F n lookup l x left = out at *
  simp -implicitDefEqProofs only [vmp,↓vmd,seval]
  by_cases c1 : lookup < 0
  ·have := hno (by omega)
   subst this
   refine onB_pos c1 ?_
   simp -implicitDefEqProofs only [c1, onceS, vmp,↓vmd,seval]
   first | exact ⟨_, rfl⟩ | exact ⟨rfl, _, rfl⟩
  refine onB_neg c1 ?_
  simp -implicitDefEqProofs only [c1, vmp,↓vmd,seval]
  refine onIf_intro fun _ => ?_
  (first | apply envO | apply envQ); simp -implicitDefEqProofs only [c1, vmp,↓vmd,seval]; rfl
  simp -implicitDefEqProofs only [c1, vmp,↓vmd,seval]
  by_cases c2 : (F.lks.length : Int) ≤ lookup
  ·have := hno (by omega)
   subst this
   refine onB_pos c2 ?_
   (first | apply envO | apply envQ); simp -implicitDefEqProofs only [c2, vmp,↓vmd,seval]; rfl
   simp -implicitDefEqProofs only [c2, onceS, vmp,↓vmd,seval]
   first | exact ⟨_, rfl⟩ | exact ⟨rfl, _, rfl⟩
  refine onB_neg c2 ?_
  (first | apply envO | apply envQ); simp -implicitDefEqProofs only [c2, vmp,↓vmd,seval]; rfl
  simp -implicitDefEqProofs only [c2, vmp,↓vmd,seval]
  by_cases c3 : x < 0
  ·have := hno (by omega)
   subst this
   refine onB_pos c3 ?_
   (first | apply envO | apply envQ); simp -implicitDefEqProofs only [c3, vmp,↓vmd,seval]; rfl
   simp -implicitDefEqProofs only [c3, onceS, vmp,↓vmd,seval]
   first | exact ⟨_, rfl⟩ | exact ⟨rfl, _, rfl⟩
  refine onB_neg c3 ?_
  (first | apply envO | apply envQ); simp -implicitDefEqProofs only [c3, vmp,↓vmd,seval]; rfl
  simp -implicitDefEqProofs only [c3, vmp,↓vmd,seval]
  refine onIf_intro fun _ => ?_
  (first | apply envO | apply envQ); simp -implicitDefEqProofs only [c3, vmp,↓vmd,seval]; rfl
  simp -implicitDefEqProofs only [c3, vmp,↓vmd,seval]
  by_cases c4 : (l.length : Int) ≤ x
  ·have := hno (by omega)
   subst this
   refine onB_pos c4 ?_
   (first | apply envO | apply envQ); simp -implicitDefEqProofs only [c4, vmp,↓vmd,seval]; rfl
   simp -implicitDefEqProofs only [c4, onceS, vmp,↓vmd,seval]
   first | exact ⟨_, rfl⟩ | exact ⟨rfl, _, rfl⟩
  refine onB_neg c4 ?_
  (first | apply envO | apply envQ); simp -implicitDefEqProofs only [c4, vmp,↓vmd,seval]; rfl
  simp -implicitDefEqProofs only [c4, vmp,↓vmd,seval]
  by_cases c5 : 8 < deep
  ·have := hno (by omega)
   subst this
   refine onB_pos c5 ?_
   (first | apply envO | apply envQ); simp -implicitDefEqProofs only [c5, vmp,↓vmd,seval]; rfl
   simp -implicitDefEqProofs only [c5, onceS, vmp,↓vmd,seval]
   first | exact ⟨_, rfl⟩ | exact ⟨rfl, _, rfl⟩
  refine onB_neg c5 ?_
  (first | apply envO | apply envQ); simp -implicitDefEqProofs only [c5, vmp,↓vmd,seval]; rfl
  simp -implicitDefEqProofs only [c5, vmp,↓vmd,seval]
  by_cases c6 : left < 1
  ·have := hno (by omega)
   subst this
   refine onB_pos c6 ?_
   (first | apply envO | apply envQ); simp -implicitDefEqProofs only [c6, vmp,↓vmd,seval]; rfl
   simp -implicitDefEqProofs only [c6, onceS, vmp,↓vmd,seval]
   first | exact ⟨_, rfl⟩ | exact ⟨rfl, _, rfl⟩
  obtain ⟨m, rfl⟩ : ∃ m, n = m + 1 := ⟨n - 1, by omega⟩
  rw [onceF, if_neg (by omega)] at ho
  obtain ⟨hgk, hmk⟩ := lkAt_map (l := F.lks) (n := lookup) (by omega) (by omega)
  have hk := hF _ hmk
  generalize lkAt F.lks lookup = k at *
  have hgx := glAt_map (ls := l) (y := x) (by omega) (by omega)
  have k0 : 0 ≤ lookup := by omega
  have x0 : 0 ≤ x := by omega
  have hsk := skips_q F.fo k.kind k.flags k.set (glAt l x).id (.sl (k.subs.map sub))
  rw [ffV_fo] at hsk
  have hst := starts_c F k hk l (by omega) x left
  have hkd := kind_c F (ih m rfl) k hk l x (left - 1) deep hl (by omega) (by omega) (by omega) hd0
  have hkn := @kindO_none (onceF F m) F.fo k l x (left - 1)
  generalize skipsF F.fo k.flags k.set (glAt l x).id = b1 at *
  refine onB_neg c6 ?_
  (first | apply envO | apply envQ); simp -implicitDefEqProofs only [c6, vmp,↓vmd,seval]; rfl
  simp -implicitDefEqProofs only [c6, hgk, k0, vmp,↓vmd,seval]
  simp -implicitDefEqProofs only [hgx, x0, vmp,↓vmd,seval]
  refine onQ_q hsk rfl ?_
  cases b1 with
  | true =>
   rw [if_pos rfl] at ho
   subst ho
   (first | apply envO | apply envQ); simp -implicitDefEqProofs only [vmp,↓vmd,seval]; rfl
   simp -implicitDefEqProofs only [onceS, vmp,↓vmd,seval]
   first | exact ⟨_, rfl⟩ | exact ⟨rfl, _, rfl⟩
  | false =>
   rw [if_neg (by simp)] at ho
   (first | apply envO | apply envQ); simp -implicitDefEqProofs only [vmp,↓vmd,seval]; rfl
   simp -implicitDefEqProofs only [vmp,↓vmd,seval]
   have hb2 : (!decide (k.kind = 12) || (matchF F.fo k l x).isSome) = false → (kindO (onceF F m) F.fo k l x (left - 1)).1 = none := by
    intro hb
    simp only [Bool.or_eq_false_iff, Bool.not_eq_false', decide_eq_true_eq] at hb
    cases hm : matchF F.fo k l x with
    | none => rw [kindO, if_pos hb.1, ctxO, hm]
    | some q => rw [hm] at hb; cases hb.2
   have hw1 : IntKind.wrap .i64 (left - 1) = left - 1 := wrap_id (by omega) (by omega)
   have hw2 : IntKind.wrap .i64 (left - 1 + 1) = left := by rw [wrap_id (by omega) (by omega)]; omega
   generalize (!decide (k.kind = 12) || (matchF F.fo k l x).isSome) = b2 at *
   obtain ⟨s0, hR, hc⟩ := hkd
   generalize kindO (onceF F m) F.fo k l x (left - 1) = z at *
   obtain ⟨r, u⟩ := z
   refine onC_fr hst [0] (by simp) (by simp -implicitDefEqProofs only [kpp,seval]) rfl rfl (by simp) ?_
   cases b2 with
   | false =>
    have := hb2 rfl
    simp only at this
    subst this
    subst ho
    (first | apply envO | apply envQ); simp -implicitDefEqProofs only [vmp,↓vmd,seval]; rfl
    simp -implicitDefEqProofs only [onceS, vmp,↓vmd,seval]
    first | exact ⟨_, rfl⟩ | exact ⟨rfl, _, rfl⟩
   | true =>
    (first | apply envO | apply envQ); simp -implicitDefEqProofs only [vmp,↓vmd,seval]; rfl
    simp -implicitDefEqProofs only [hw1, vmp,↓vmd,seval]
    refine onC_fr hc [0] (by simp) (by simp -implicitDefEqProofs only [kpp,seval]) rfl rfl (by simp) ?_
    cases r with
    | none =>
     have hu := hkn rfl
     simp only at hu
     subst hu
     subst ho
     obtain ⟨a, n0, rfl, ha⟩ := hR
     rcases ha with rfl | ⟨v, rfl⟩
     ·(first | apply envO | apply envQ); simp -implicitDefEqProofs only [vmp,↓vmd,seval]; rfl
      simp -implicitDefEqProofs only [hw2, onceS, vmp,↓vmd,seval]
      first | exact ⟨_, rfl⟩ | exact ⟨rfl, _, rfl⟩
     ·(first | apply envO | apply envQ); simp -implicitDefEqProofs only [vmp,↓vmd,seval]; rfl
      simp -implicitDefEqProofs only [hw2, onceS, vmp,↓vmd,seval]
      first | exact ⟨_, rfl⟩ | exact ⟨rfl, _, rfl⟩
    | some q =>
     have hR : s0 = onceS (some q) := hR
     subst hR
     subst ho
     (first | apply envO | apply envQ); simp -implicitDefEqProofs only [onceS, vmp,↓vmd,seval]; rfl
     simp -implicitDefEqProofs only [onceS, vmp,↓vmd,seval]
     first | exact ⟨_, rfl⟩ | exact ⟨rfl, _, rfl⟩
 ·rintro r H' ⟨rfl, R, rfl⟩
  exact ⟨[0], _, _, by simp, rfl, (by simp -implicitDefEqProofs only [kpp,seval]; exact onceS_k), (by simp -implicitDefEqProofs only [kpp,seval]), rfl, rfl⟩
theorem once_c (F : Ff) (hF : ∀ k ∈ F.lks, PosK k) : ∀ n, OnceC F n := by
 intro n
 induction n with
 | zero => exact once_step F hF 0 (fun _ h => by omega)
 | succ n ih => exact once_step F hF (n + 1) (fun m h => by
  obtain rfl : n = m := by omega
  exact ih)
end Go.Proofs.Ytcjmkpkhjhjepaa.W
