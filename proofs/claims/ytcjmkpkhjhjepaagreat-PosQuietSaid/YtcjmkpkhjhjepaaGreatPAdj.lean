/-
  What moves glyphs at a place: the program's functions. No condition but on sizes.
-/
import Derived.Test.YtcjmkpkhjhjepaaGreatRow
import Derived.Test.YtcjmkpkhjhjepaaGreatGls
import Derived.Test.YtcjmkpkhjhjepaaGreatCIndex
import Derived.Test.YtcjmkpkhjhjepaaGreatCloneG
import Derived.Test.YtcjmkpkhjhjepaaGreatStops
namespace Go.Proofs.YtcjmkpkhjhjepaaGreat.W
open Go Go.Vm Go.Proofs
set_option maxRecDepth 100000
set_option linter.unusedSimpArgs false
set_option maxHeartbeats 4000000
/-! typecase/adjust.Pair -/
def c80_0 : AC :=
 (.seq (.reg [oo 43 (.build [(pI 0), (pI 0), (pI 0)] []),
 oo 44 (.build [(pI 0), (pI 0), (pI 0)] []),
⟨none, none, .store 3 (.s 6) (.s 43)⟩,
⟨none, none, .store 3 (.s 7) (.s 44)⟩,
 oo 8 (.mov (nB false))])
 .ret)
def c80_1 : AC :=
 (.reg [oo 42 (.bin .add (.s 16) (nI 1)),
 oo 16 (.mov (.s 42))])
def c80_2 : AC :=
 (.seq (.reg [oo 24 (.bin .lss (.s 23) (.s 22))])
 (.seq (.cond (.s 24)
 .skip
 (.exit 2))
 (.seq (.block 3
 (.seq (.reg [oo 25 (.idxA 8 (.s 21) (.s 23)),
 oo 26 (.load true 8 (.s 25)),
 oo 12 (.box (.c (.pure (.agg [(.int .i64 0), (.int .i64 0), (.int .i64 0), (.int .i64 0), (.int .i64 0), (.int .i64 0), (.int .i64 0), (.int .i64 0)])))),
⟨none, none, .store 8 (.s 12) (.s 26)⟩])
 (.seq (.reg [oo 27 (.fldA 0 (.s 12)),
 oo 28 (.load false 1 (.s 27)),
 oo 29 (.mov (.s 1)),
 oo 30 (.bin .eql (.s 28) (.s 29)),
 oo 31 (.mov (.s 30)),
 og 32 31 true (.fldA 1 (.s 12)),
 og 33 31 true (.load false 1 (.s 32)),
 og 34 31 true (.mov (.s 2)),
 og 35 31 true (.bin .eql (.s 33) (.s 34)),
 oo 36 (.pick (.s 31) (.s 35) (nB false))])
 (.cond (.s 36)
 (.seq (.regs [oo 37 (.fldA 2 (.s 12)),
 oo 38 (.load true 3 (.s 37)),
 oo 39 (.fldA 5 (.s 12)),
 oo 40 (.load true 3 (.s 39))]
⟨none, none, .store 3 (.s 6) (.s 38)⟩
[oo 40 (.load true 3 (.s 39))]
[⟨none, none, .store 3 (.s 7) (.s 40)⟩,
 oo 8 (.mov (nB true))])
 .ret)
 .skip))))
 (.reg [oo 41 (.bin .add (.s 23) (nI 1)),
 oo 23 (.mov (.s 41))]))))
def c80_3 : AC :=
 (.seq (.reg [oo 17 (.bin .lss (.s 16) (.s 15))])
 (.seq (.cond (.s 17)
 .skip
 (.exit 0))
 (.seq (.block 1
 (.seq (.reg [oo 18 (.idxA 12 (.s 14) (.s 16)),
 oo 19 (.load true 12 (.s 18)),
 oo 10 (.box (.c (.agg [.empty, .empty, .empty, .empty, .empty, .empty, .empty, .empty, .empty, .empty, .empty, .empty]))),
⟨none, none, .store 12 (.s 10) (.s 19)⟩])
 (.seq (.reg [oo 20 (.fldA 8 (.s 10)),
 oo 21 (.load false 1 (.s 20)),
 oo 22 (.len (.s 21)),
 oo 23 (.mov (nI 0))])
 (.block 2
 (.loop c80_2)))))
 c80_1)))
def c80 : AC :=
 (.seq (.reg [oo 3 (.box (.s 0)),
 oo 6 (.box (.c (.pure (.agg [(.int .i64 0), (.int .i64 0), (.int .i64 0)])))),
 oo 7 (.box (.c (.pure (.agg [(.int .i64 0), (.int .i64 0), (.int .i64 0)])))),
 oo 8 (.mov (nB false))])
 (.seq (.seq (.reg [oo 13 (.fldA 3 (.s 3)),
 oo 14 (.load false 1 (.s 13)),
 oo 15 (.len (.s 14)),
 oo 16 (.mov (nI 0))])
 (.block 0
 (.loop c80_3)))
 c80_0))
theorem k80 : OkF 80 Tryz.f80 c80 [.c 6 true 3, .c 7 true 3, .t 8] 45 := ⟨Tryz.func80, by kernel_rfl, by kernel_rfl, by kernel_rfl, Tryz.ntmps80⟩
/-! typecase/adjust.alone -/
def c77_0 : AC :=
 (.seq (.reg [oo 38 (.build [(pI 0), (pI 0), (pI 0)] []),
⟨none, none, .store 3 (.s 4) (.s 38)⟩,
 oo 5 (.mov (nB false))])
 .ret)
def c77_1 : AC :=
 (.seq (.reg [oo 14 (.bin .lss (.s 13) (.s 12))])
 (.seq (.cond (.s 14)
 .skip
 (.exit 0))
 (.seq (.block 1
 (.seq (.reg [oo 15 (.idxA 12 (.s 11) (.s 13)),
 oo 16 (.load true 12 (.s 15)),
 oo 7 (.box (.c (.agg [.empty, .empty, .empty, .empty, .empty, .empty, .empty, .empty, .empty, .empty, .empty, .empty]))),
⟨none, none, .store 12 (.s 7) (.s 16)⟩])
 (.seq (.reg [oo 18 (.fldA 0 (.s 7)),
 oo 19 (.load false 1 (.s 18)),
 oo 20 (.mov (.s 1)),
 oo 21 (.call 106 [(.s 19), (.s 20)]),
 oo 17 (.mov (.s 21)),
 oo 22 (.ext 0 (.s 17)),
 oo 23 (.ext 1 (.s 17)),
 oo 8 (.mov (.s 22)),
 oo 9 (.mov (.s 23))])
 (.seq (.reg [oo 24 (.mov (.s 9)),
 oo 25 (.mov (.s 24)),
 og 26 25 true (.mov (.s 8)),
 og 27 25 true (.fldA 7 (.s 7)),
 og 28 25 true (.load false 1 (.s 27)),
 og 29 25 true (.len (.s 28)),
 og 30 25 true (.bin .lss (.s 26) (.s 29)),
 oo 31 (.pick (.s 25) (.s 30) (nB false))])
 (.cond (.s 31)
 (.seq (.reg [oo 32 (.fldA 7 (.s 7)),
 oo 33 (.load false 1 (.s 32)),
 oo 34 (.mov (.s 8)),
 oo 35 (.idxA 3 (.s 33) (.s 34)),
 oo 36 (.load true 3 (.s 35)),
⟨none, none, .store 3 (.s 4) (.s 36)⟩,
 oo 5 (.mov (nB true))])
 .ret)
 .skip)))))
 (.reg [oo 37 (.bin .add (.s 13) (nI 1)),
 oo 13 (.mov (.s 37))]))))
def c77 : AC :=
 (.seq (.reg [oo 2 (.box (.s 0)),
 oo 4 (.box (.c (.pure (.agg [(.int .i64 0), (.int .i64 0), (.int .i64 0)])))),
 oo 5 (.mov (nB false))])
 (.seq (.seq (.reg [oo 10 (.fldA 3 (.s 2)),
 oo 11 (.load false 1 (.s 10)),
 oo 12 (.len (.s 11)),
 oo 13 (.mov (nI 0))])
 (.block 0
 (.loop c77_1)))
 c77_0))
theorem k77 : OkF 77 Tryz.f77 c77 [.c 4 true 3, .t 5] 39 := ⟨Tryz.func77, by kernel_rfl, by kernel_rfl, by kernel_rfl, Tryz.ntmps77⟩
/-! typecase/adjust.Add -/
def c78 : AC :=
 (.seq (.reg [oo 2 (.box (.s 0)),
 oo 3 (.box (.s 1)),
 oo 4 (.box (.c (.pure (.agg [(.int .i64 0), (.int .i64 0), (.int .i64 0), (.int .i64 0), (.int .i64 0), (.int .i64 0), (.int .i64 0), (.int .i64 0), (.int .i64 0), (.int .i64 0)]))))])
 (.seq (.reg [oo 5 (.fldA 2 (.s 2)),
 oo 6 (.load false 1 (.s 5)),
 oo 7 (.fldA 0 (.s 3)),
 oo 8 (.load false 1 (.s 7)),
 oo 9 (.bin .add (.s 6) (.s 8)),
 oo 10 (.fldA 2 (.s 2)),
⟨none, none, .store 1 (.s 10) (.s 9)⟩])
 (.seq (.reg [oo 11 (.fldA 3 (.s 2)),
 oo 12 (.load false 1 (.s 11)),
 oo 13 (.fldA 1 (.s 3)),
 oo 14 (.load false 1 (.s 13)),
 oo 15 (.bin .add (.s 12) (.s 14)),
 oo 16 (.fldA 3 (.s 2)),
⟨none, none, .store 1 (.s 16) (.s 15)⟩])
 (.seq (.reg [oo 17 (.fldA 4 (.s 2)),
 oo 18 (.load false 1 (.s 17)),
 oo 19 (.fldA 2 (.s 3)),
 oo 20 (.load false 1 (.s 19)),
 oo 21 (.bin .add (.s 18) (.s 20)),
 oo 22 (.fldA 4 (.s 2)),
⟨none, none, .store 1 (.s 22) (.s 21)⟩])
 (.seq (.reg [oo 23 (.load true 10 (.s 2)),
⟨none, none, .store 10 (.s 4) (.s 23)⟩])
 .ret)))))
theorem k78 : OkF 78 Tryz.f78 c78 [.c 4 true 10] 24 := ⟨Tryz.func78, by kernel_rfl, by kernel_rfl, by kernel_rfl, Tryz.ntmps78⟩
/-! typecase/adjust.Apply -/
def c49 : AC :=
 (.seq (.reg [oo 4 (.box (.s 0)),
 oo 5 (.box (.s 1)),
 oo 8 (.mov (.c .empty)),
 oo 9 (.mov (nI 0)),
 oo 10 (.mov (nB false))])
 (.seq (.seq (.reg [oo 19 (.mov (.s 3)),
 oo 20 (.bin .lss (.s 19) (nI 0)),
 oo 21 (.mov (.s 20)),
 og 22 21 false (.mov (.s 3)),
 og 23 21 false (.mov (.s 2)),
 og 24 21 false (.len (.s 23)),
 og 25 21 false (.bin .geq (.s 22) (.s 24)),
 oo 26 (.pick (.s 21) (nB true) (.s 25))])
 (.cond (.s 26)
 (.seq (.reg [oo 8 (.mov (.c .empty)),
 oo 9 (.mov (nI 0)),
 oo 10 (.mov (nB false))])
 .ret)
 .skip))
 (.seq (.seq (.reg [oo 27 (.fldA 0 (.s 5)),
 oo 28 (.load false 1 (.s 27))])
 (.block 0
 (.seq (.reg [oo 30 (.bin .eql (.s 28) (nI 6)),
 oo 29 (.mov (.s 30))])
 (.cond (.s 29)
 (.seq (.regq [oo 32 (.load true 4 (.s 5)),
 oo 33 (.mov (.s 2)),
 oo 34 (.mov (.s 3)),
 oo 35 (.idxA 10 (.s 33) (.s 34)),
 oo 36 (.fldA 0 (.s 35)),
 oo 37 (.load false 1 (.s 36)),
 oo 38 (.call 77 [(.s 32), (.s 37)]),
 oo 31 (.mov (.s 38)),
 oo 39 (.ext 0 (.s 31)),
 oo 40 (.ext 1 (.s 31)),
 oo 11 (.box (.c (.pure (.agg [(.int .i64 0), (.int .i64 0), (.int .i64 0)]))))]
[⟨none, none, .store 3 (.s 11) (.s 39)⟩,
 oo 12 (.mov (.s 40))])
 (.seq (.seq (.reg [oo 41 (.mov (.s 12)),
 oo 42 (.un .not (.s 41))])
 (.cond (.s 42)
 (.seq (.reg [oo 8 (.mov (.c .empty)),
 oo 9 (.mov (nI 0)),
 oo 10 (.mov (nB false))])
 .ret)
 .skip))
 (.seq (.reg [oo 43 (.mov (.s 2)),
 oo 44 (.call 24 [(.s 43)]),
 oo 13 (.mov (.s 44))])
 (.seq (.regq [oo 45 (.mov (.s 13)),
 oo 46 (.mov (.s 3)),
 oo 47 (.mov (.s 13)),
 oo 48 (.mov (.s 3)),
 oo 49 (.idxA 10 (.s 47) (.s 48)),
 oo 50 (.load true 10 (.s 49)),
 oo 51 (.load true 3 (.s 11)),
 oo 52 (.call 78 [(.s 50), (.s 51)])]
[oo 53 (.idxA 10 (.s 45) (.s 46)),
⟨none, none, .store 10 (.s 53) (.s 52)⟩])
 (.seq (.reg [oo 54 (.mov (.s 13)),
 oo 55 (.mov (.s 3)),
 oo 56 (.bin .add (.s 55) (nI 1)),
 oo 8 (.mov (.s 54)),
 oo 9 (.mov (.s 56)),
 oo 10 (.mov (nB true))])
 .ret)))))
 (.seq (.reg [oo 58 (.bin .eql (.s 28) (nI 7)),
 oo 57 (.mov (.s 58))])
 (.cond (.s 57)
 (.seq (.reg [oo 59 (.load true 6 (.s 4)),
 oo 60 (.load true 4 (.s 5)),
 oo 61 (.mov (.s 2)),
 oo 62 (.mov (.s 3)),
 oo 63 (.call 79 [(.s 59), (.s 60), (.s 61), (.s 62)]),
 oo 14 (.mov (.s 63))])
 (.seq (.seq (.reg [oo 64 (.mov (.s 14)),
 oo 65 (.bin .eql (.s 64) (nI (-1)))])
 (.cond (.s 65)
 (.seq (.reg [oo 8 (.mov (.c .empty)),
 oo 9 (.mov (nI 0)),
 oo 10 (.mov (nB false))])
 .ret)
 .skip))
 (.seq (.regq [oo 67 (.load true 4 (.s 5)),
 oo 68 (.mov (.s 2)),
 oo 69 (.mov (.s 3)),
 oo 70 (.idxA 10 (.s 68) (.s 69)),
 oo 71 (.fldA 0 (.s 70)),
 oo 72 (.load false 1 (.s 71)),
 oo 73 (.mov (.s 2)),
 oo 74 (.mov (.s 14)),
 oo 75 (.idxA 10 (.s 73) (.s 74)),
 oo 76 (.fldA 0 (.s 75)),
 oo 77 (.load false 1 (.s 76)),
 oo 78 (.call 80 [(.s 67), (.s 72), (.s 77)]),
 oo 66 (.mov (.s 78)),
 oo 79 (.ext 0 (.s 66)),
 oo 80 (.ext 1 (.s 66)),
 oo 81 (.ext 2 (.s 66)),
 oo 15 (.box (.c (.pure (.agg [(.int .i64 0), (.int .i64 0), (.int .i64 0)])))),
 oo 16 (.box (.c (.pure (.agg [(.int .i64 0), (.int .i64 0), (.int .i64 0)]))))]
[⟨none, none, .store 3 (.s 15) (.s 79)⟩,
⟨none, none, .store 3 (.s 16) (.s 80)⟩,
 oo 17 (.mov (.s 81))])
 (.seq (.seq (.reg [oo 82 (.mov (.s 17)),
 oo 83 (.un .not (.s 82))])
 (.cond (.s 83)
 (.seq (.reg [oo 8 (.mov (.c .empty)),
 oo 9 (.mov (nI 0)),
 oo 10 (.mov (nB false))])
 .ret)
 .skip))
 (.seq (.reg [oo 84 (.mov (.s 2)),
 oo 85 (.call 24 [(.s 84)]),
 oo 18 (.mov (.s 85))])
 (.seq (.regq [oo 86 (.mov (.s 18)),
 oo 87 (.mov (.s 3)),
 oo 88 (.mov (.s 18)),
 oo 89 (.mov (.s 14)),
 oo 90 (.mov (.s 18)),
 oo 91 (.mov (.s 3)),
 oo 92 (.idxA 10 (.s 90) (.s 91)),
 oo 93 (.load true 10 (.s 92)),
 oo 94 (.load true 3 (.s 15)),
 oo 95 (.call 78 [(.s 93), (.s 94)]),
 oo 96 (.mov (.s 18)),
 oo 97 (.mov (.s 14)),
 oo 98 (.idxA 10 (.s 96) (.s 97)),
 oo 99 (.load true 10 (.s 98)),
 oo 100 (.load true 3 (.s 16)),
 oo 101 (.call 78 [(.s 99), (.s 100)]),
 oo 102 (.idxA 10 (.s 86) (.s 87))]
[⟨none, none, .store 10 (.s 102) (.s 95)⟩,
 oo 103 (.idxA 10 (.s 88) (.s 89)),
⟨none, none, .store 10 (.s 103) (.s 101)⟩])
 (.seq (.seq (.reg [oo 104 (.load true 3 (.s 16)),
 oo 105 (.build [(pI 0), (pI 0), (pI 0)] []),
 oo 106 (.eqv true [.i, .i, .i] (.s 104) (.s 105))])
 (.cond (.s 106)
 (.reg [oo 107 (.mov (.s 14)),
 oo 108 (.bin .add (.s 107) (nI 1)),
 oo 14 (.mov (.s 108))])
 .skip))
 (.seq (.reg [oo 109 (.mov (.s 18)),
 oo 110 (.mov (.s 14)),
 oo 8 (.mov (.s 109)),
 oo 9 (.mov (.s 110)),
 oo 10 (.mov (nB true))])
 .ret))))))))
 .skip))))))
 (.seq (.reg [oo 8 (.mov (.c .empty)),
 oo 9 (.mov (nI 0)),
 oo 10 (.mov (nB false))])
 .ret))))
theorem k49 : OkF 49 Tryz.f49 c49 [.t 8, .t 9, .t 10] 111 := ⟨Tryz.func49, by kernel_rfl, by kernel_rfl, by kernel_rfl, Tryz.ntmps49⟩
def findPr : List Pr → Int → Int → Option (Sp × Sp)
 | [], _, _ => none
 | p :: r, a, b => if p.a = a ∧ p.b = b then some (p.x, p.y) else findPr r a b
def findSub : List Sub → Int → Int → Option (Sp × Sp)
 | [], _, _ => none
 | s :: r, a, b => match findPr s.pairs a b with
  | some q => some q
  | none => findSub r a b
def zero3 : Sp := ⟨0, 0, 0⟩
def pairF (o : Option (Sp × Sp)) : List V := match o with
 | some q => [sp q.1, sp q.2, .bool true]
 | none => [sp zero3, sp zero3, .bool false]
theorem pair_q (k : Lk) (a b : Int) : FnQ Tryz.prog 80 [lk k, I a, I b] (pairF (findSub k.subs a b)) := by
 refine k80.q (by simp) ?_
 unfold c80
 simp only [*, vmp,↓vmd,seval]
 refine onIf_intro fun hlen => ?_
 simp only [*, vmp,↓vmd,seval]
 refine loop_at (T := Nat) (fun i => [(16, .pure (I i)), (15, .pure (I k.subs.length)), (14, .pure (.sl (k.subs.map sub))), (1, .pure (I a)), (2, .pure (I b)), (6, .ptr 0 0 0), (7, .ptr 1 0 0)])
  (fun _ => [⟨[.pure (sp zero3)], 3, .live⟩, ⟨[.pure (sp zero3)], 3, .live⟩]) (fun i => i ≤ k.subs.length ∧ findSub (k.subs.drop i) a b = findSub k.subs a b) (fun i => k.subs.length - i)
  0 [1, 2] (by simp) rfl ⟨by simp, by simp⟩ (by simp only [kpp,seval]) (by simp only [zero3, kpp,seval]) ?_
 rintro i ⟨hi, hr⟩
 unfold c80_3
 simp only [vmp,↓vmd,seval]
 refine onB_dec (fun h1 => ?_) (fun h1 => ?_)
 ·have hlt : i < k.subs.length := by omega
  rw [drop_at hlt] at hr
  simp only [map_at hlt, Int.natCast_nonneg, *, vmp,↓vmd,seval]
  refine onIf_intro fun hl2 => ?_
  simp only [vmp,↓vmd,seval]
  refine loop_at (T := Nat) (fun j => [(23, .pure (I j)), (22, .pure (I k.subs[i].pairs.length)), (21, .pure (.sl (k.subs[i].pairs.map pr))), (16, .pure (I i)), (15, .pure (I k.subs.length)), (14, .pure (.sl (k.subs.map sub))), (1, .pure (I a)), (2, .pure (I b)), (6, .ptr 0 0 0), (7, .ptr 1 0 0)])
   (fun _ => [⟨[.pure (sp zero3)], 3, .live⟩, ⟨[.pure (sp zero3)], 3, .live⟩]) (fun j => j ≤ k.subs[i].pairs.length ∧ findPr (k.subs[i].pairs.drop j) a b = findPr k.subs[i].pairs a b) (fun j => k.subs[i].pairs.length - j)
   0 [0, 1] (by simp) rfl ⟨by simp, by simp⟩ (by simp only [kpp,seval]) (by simp only [kpp,seval]) ?_
  rintro j ⟨hj, hq⟩
  unfold c80_2
  simp only [vmp,↓vmd,seval]
  refine onB_dec (fun h2 => ?_) (fun h2 => ?_)
  ·have hlt2 : j < k.subs[i].pairs.length := by omega
   rw [drop_at hlt2] at hq
   simp only [h2, map_at hlt2, Int.natCast_nonneg, vmp,↓vmd,seval]
   refine onB_dec (fun h3 => ?_) (fun h3 => ?_)
   ·simp only [h3, vmp,↓vmd,seval]
    refine onB_dec (fun h4 => ?_) (fun h4 => ?_)
    ·simp only [h4, vmp,↓vmd,seval]
     rw [← hr, findSub, ← hq, findPr, if_pos ⟨h3, h4⟩]
     exact gives_tup rfl (by simp)
    ·simp only [h4, vmp,↓vmd,seval]
     refine onBk_to (j + 1) [0, 1] (by simp) rfl (by omega) ⟨hlt2, by rw [← hq, findPr, if_neg (by simp [h4])]⟩ (by simp only [next_at hlt2 hl2, kpp,seval]) (by simp only [kpp,seval])
   ·simp only [h3, vmp,↓vmd,seval]
    refine onBk_to (j + 1) [0, 1] (by simp) rfl (by omega) ⟨hlt2, by rw [← hq, findPr, if_neg (by simp [h3])]⟩ (by simp only [next_at hlt2 hl2, kpp,seval]) (by simp only [kpp,seval])
  ·simp only [h2, vmp,↓vmd,seval]
   unfold c80_1
   simp only [vmp,↓vmd,seval]
   rw [List.drop_of_length_le (by omega)] at hq
   refine onBk_to (i + 1) [0, 1] (by simp) rfl (by omega) ⟨hlt, by rw [← hr, findSub, ← hq]; rfl⟩ (by simp only [next_at hlt hlen, kpp,seval]) (by simp only [kpp,seval])
 ·simp only [*, vmp,↓vmd,seval]
  unfold c80_0
  simp only [*, vmp,↓vmd,seval]
  rw [List.drop_of_length_le (by omega)] at hr
  rw [← hr]
  exact gives_tup rfl (by simp)
def pickV (s : Sub) (g : Int) : Option Sp := if 0 ≤ idxF g 0 s.cover then s.values[(idxF g 0 s.cover).toNat]? else none
def aloneF : List Sub → Int → Option Sp
 | [], _ => none
 | s :: r, g => match pickV s g with
  | some v => some v
  | none => aloneF r g
def oneR : Option Sp → List V
 | some v => [sp v, .bool true]
 | none => [sp zero3, .bool false]
theorem alone_q (k : Lk) (g : Int) : FnQ Tryz.prog 77 [lk k, I g] (oneR (aloneF k.subs g)) := by
 refine k77.q (by simp) ?_
 unfold c77
 simp only [*, vmp,↓vmd,seval]
 refine onIf_intro fun hlen => ?_
 simp only [*, vmp,↓vmd,seval]
 refine loop_at (T := Nat) (fun i => [(13, .pure (I i)), (12, .pure (I k.subs.length)), (11, .pure (.sl (k.subs.map sub))), (1, .pure (I g)), (4, .ptr 0 0 0)]) (fun _ => [⟨[.pure (sp zero3)], 3, .live⟩]) (fun i => i ≤ k.subs.length ∧ aloneF (k.subs.drop i) g = aloneF k.subs g) (fun i => k.subs.length - i)
  0 [1] (by simp) rfl ⟨by simp, by simp⟩ (by simp only [kpp,seval]) (by simp only [zero3, kpp,seval]) ?_
 rintro i ⟨hi, hr⟩
 unfold c77_1
 simp only [vmp,↓vmd,seval]
 refine onB_dec (fun h1 => ?_) (fun h1 => ?_)
 ·have hlt : i < k.subs.length := by omega
  rw [drop_at hlt, aloneF] at hr
  obtain ⟨s, hs'⟩ : ∃ s, s = k.subs[i] := ⟨_, rfl⟩
  have hmap : (k.subs.map sub)[i]? = some (sub s) := by rw [map_at hlt, hs']
  rw [← hs'] at hr
  simp only [h1, hmap, Int.natCast_nonneg, vmp,↓vmd,seval]
  refine onC_q (cindex_q _ _) rfl ?_
  (first | apply envO | apply envQ); simp only [vmp,↓vmd,seval]; rfl
  by_cases h2 : 0 ≤ idxF g 0 s.cover
  ·have hmx : max (idxF g 0 s.cover) 0 = idxF g 0 s.cover := by omega
   rw [hmx]
   simp only [h2, vmp,↓vmd,seval]
   refine onIf_intro fun _ => ?_
   simp only [h2, vmp,↓vmd,seval]
   refine onB_dec (fun h3 => ?_) (fun h3 => ?_)
   ·have hv : (s.values.map sp)[(idxF g 0 s.cover).toNat]? = some (sp (s.values[(idxF g 0 s.cover).toNat]'(by omega))) := by
     rw [List.getElem?_map, List.getElem?_eq_getElem (by omega)]; rfl
    have hp : pickV s g = some (s.values[(idxF g 0 s.cover).toNat]'(by omega)) := by rw [pickV, if_pos h2, List.getElem?_eq_getElem (by omega)]
    rw [hp] at hr
    simp only [h3, h2, hv, vmp,↓vmd,seval]
    rw [← hr]
    exact gives_tup rfl (by simp)
   ·have hp : pickV s g = none := by rw [pickV, if_pos h2, List.getElem?_eq_none (by omega)]
    rw [hp] at hr
    simp only [h3, vmp,↓vmd,seval]
    refine onBk_to (i + 1) [0] (by simp) rfl (by omega) ⟨hlt, hr⟩ (by simp only [next_at hlt hlen, kpp,seval]) (by simp only [kpp,seval])
  ·have hp : pickV s g = none := by rw [pickV, if_neg h2]
   rw [hp] at hr
   simp only [h2, vmp,↓vmd,seval]
   refine onBk_to (i + 1) [0] (by simp) rfl (by omega) ⟨hlt, hr⟩ (by simp only [next_at hlt hlen, kpp,seval]) (by simp only [kpp,seval])
 ·simp only [h1, vmp,↓vmd,seval]
  unfold c77_0
  simp only [vmp,↓vmd,seval]
  rw [List.drop_of_length_le (by omega)] at hr
  rw [← hr]
  exact gives_tup rfl (by simp)
abbrev gla (a0 a1 a2 a3 a4 a5 a6 a7 a8 a9 : Int) : V := .agg [I a0, I a1, I a2, I a3, I a4, I a5, I a6, I a7, I a8, I a9]
theorem add_q (a0 a1 a2 a3 a4 a5 a6 a7 a8 a9 b0 b1 b2 : Int) : FnQ Tryz.prog 78 [gla a0 a1 a2 a3 a4 a5 a6 a7 a8 a9, .agg [I b0, I b1, I b2]] [gla a0 a1 (IntKind.wrap .i64 (a2 + b0)) (IntKind.wrap .i64 (a3 + b1)) (IntKind.wrap .i64 (a4 + b2)) a5 a6 a7 a8 a9] := by
 refine k78.q (by simp) ?_
 unfold c78
 simp only [*, vmp,↓vmd,seval]
 exact gives_pure
def addG (g : Gl) (v : Sp) : Gl := ⟨g.id, g.cl, IntKind.wrap .i64 (g.adv + v.f), IntKind.wrap .i64 (g.dx + v.t), IntKind.wrap .i64 (g.dy + v.v), g.to, g.hang, g.lig, g.comp, g.mask⟩
theorem addG_q (g : Gl) (v : Sp) : FnQ Tryz.prog 78 [gl g, sp v] [gl (addG g v)] := add_q g.id g.cl g.adv g.dx g.dy g.to g.hang g.lig g.comp g.mask v.f v.t v.v
def applyF (f : Fo) (k : Lk) (ls : List Gl) (x : Int) : Option (List Gl × Int) :=
 if x < 0 ∨ (ls.length : Int) ≤ x then none
 else if k.kind = 6 then (match aloneF k.subs (glAt ls x).id with
  | some v => some (ls.set x.toNat (addG (glAt ls x) v), IntKind.wrap .i64 (x + 1))
  | none => none)
 else if k.kind = 7 then
  (if nextF (seesF f k.flags k.set ls) ls.length x = -1 then none
  else match findSub k.subs (glAt ls x).id (glAt ls (nextF (seesF f k.flags k.set ls) ls.length x)).id with
   | some q => some ((ls.set x.toNat (addG (glAt ls x) q.1)).set (nextF (seesF f k.flags k.set ls) ls.length x).toNat (addG (glAt ls (nextF (seesF f k.flags k.set ls) ls.length x)) q.2),
     if q.2 = zero3 then nextF (seesF f k.flags k.set ls) ls.length x else IntKind.wrap .i64 (nextF (seesF f k.flags k.set ls) ls.length x + 1))
   | none => none)
 else none
theorem zero3_b (s : Sp) : (!(decide (s.f = 0) && (decide (s.t = 0) && decide (s.v = 0)))) = !decide (s = zero3) := by
 cases s
 simp [zero3]
def adjR : Option (List Gl × Int) → List V
 | some q => [.sl (q.1.map gl), I q.2, .bool true]
 | none => [.sl [], I 0, .bool false]
theorem apply_q (f : Fo) (k : Lk) (ls : List Gl) (hl : ls.length ≤ 1000) (x : Int) : FnQ Tryz.prog 49 [fo f, lk k, .sl (ls.map gl), I x] (adjR (applyF f k ls x)) := by
 refine k49.q (by simp) ?_
 unfold c49
 simp only [*, vmp,↓vmd,seval]
 by_cases h0 : x < 0
 ·simp only [h0, vmp,↓vmd,seval]
  rw [applyF, if_pos (.inl h0)]
  exact gives_tup rfl (by simp)
 simp only [h0, vmp,↓vmd,seval]
 refine onIf_intro fun _ => ?_
 simp only [h0, vmp,↓vmd,seval]
 by_cases h1 : (ls.length : Int) ≤ x
 ·simp only [h1, vmp,↓vmd,seval]
  rw [applyF, if_pos (.inr h1)]
  exact gives_tup rfl (by simp)
 rw [applyF, if_neg (by omega)]
 simp only [h1, vmp,↓vmd,seval]
 have hx0 : 0 ≤ x := by omega
 have hx1 : x < ls.length := by omega
 have hg := glAt_map hx0 hx1
 have hgr := glAt_row hx0 hx1
 by_cases h6 : k.kind = 6
 ·rw [if_pos h6]
  simp only [h6, hx0, hx1, hg, vmp,↓vmd,seval]
  refine onQ_q (alone_q k _) rfl ?_
  (first | apply envO | apply envQ); simp only [vmp,↓vmd,seval]; rfl
  cases hc : aloneF k.subs (glAt ls x).id with
  | none =>
   simp only [oneR, vmp,↓vmd,seval]
   exact gives_tup rfl (by simp)
  | some v =>
   simp only [oneR, vmp,↓vmd,seval]
   refine onC_fr (cloneG_c ls hl) [] (by simp) trivial rfl rfl (by simp) ?_
   (first | apply envO | apply envQ); simp only [vmp,↓vmd,seval]; rfl
   simp only [hx0, hx1, hgr, vmp,↓vmd,seval]
   refine onQ_q (addG_q _ _) rfl ?_
   (first | apply envO | apply envQ); simp only [vmp,↓vmd,seval]; rfl
   simp only [hx0, hx1, hgr, vmp,↓vmd,seval]
   rw [row_set (f := gl)]
   exact gives_tup (toVs_of (toV_rowN rfl (.inr ⟨rfl, rfl⟩) (by simp)) rfl) (by simp)
 rw [if_neg h6]
 by_cases h7 : k.kind = 7
 ·rw [if_pos h7]
  have hnq := next_q f k.kind k.flags k.set (.sl (k.subs.map sub)) ls x hl
  have hin := nextF_in (p := seesF f k.flags k.set ls) (n := ls.length) (a := x)
  simp only [h6, h7, vmp,↓vmd,seval]
  generalize nextF (seesF f k.flags k.set ls) ls.length x = y at *
  refine onC_q hnq rfl ?_
  (first | apply envO | apply envQ); simp only [vmp,↓vmd,seval]; rfl
  by_cases hy : y = -1
  ·rw [if_pos hy]
   simp only [hy, vmp,↓vmd,seval]
   exact gives_tup rfl (by simp)
  rw [if_neg hy]
  have hy0 : 0 ≤ y := by omega
  have hy1 : y < ls.length := by omega
  have hg2 := glAt_map hy0 hy1
  have hgr2 := glAt_row hy0 hy1
  have hp := pair_q k (glAt ls x).id (glAt ls y).id
  simp only [hy, hx0, hx1, hg, hy0, hy1, hg2, vmp,↓vmd,seval]
  cases hc : findSub k.subs (glAt ls x).id (glAt ls y).id with
  | none =>
   rw [hc] at hp
   have hp' : FnQ Tryz.prog 80 [lk k, I (glAt ls x).id, I (glAt ls y).id] [sp zero3, sp zero3, .bool false] := hp
   refine onQ_q hp' rfl ?_
   (first | apply envO | apply envQ); simp only [vmp,↓vmd,seval]; rfl
   simp only [vmp,↓vmd,seval]
   exact gives_tup rfl (by simp)
  | some q =>
   rw [hc] at hp
   have hp' : FnQ Tryz.prog 80 [lk k, I (glAt ls x).id, I (glAt ls y).id] [sp q.1, sp q.2, .bool true] := hp
   refine onQ_q hp' rfl ?_
   (first | apply envO | apply envQ); simp only [vmp,↓vmd,seval]; rfl
   simp only [vmp,↓vmd,seval]
   refine onC_fr (cloneG_c ls hl) [] (by simp) trivial rfl rfl (by simp) ?_
   (first | apply envO | apply envQ); simp only [vmp,↓vmd,seval]; rfl
   simp only [hx0, hx1, hgr, hy0, hy1, hgr2, vmp,↓vmd,seval]
   refine onQ_q (addG_q _ _) rfl ?_
   (first | apply envO | apply envQ); simp only [vmp,↓vmd,seval]; rfl
   simp only [hx0, hx1, hgr, hy0, hy1, hgr2, vmp,↓vmd,seval]
   refine onQ_q (addG_q _ _) rfl ?_
   (first | apply envO | apply envQ); simp only [vmp,↓vmd,seval]; rfl
   have hrs := row_set (f := gl) (X := ls) (k := x.toNat) (a := addG (glAt ls x) q.1)
   have hgr3 := glAt_row (ls := ls.set x.toNat (addG (glAt ls x) q.1)) (y := y) hy0 (by rw [List.length_set]; exact hy1)
   simp only [hx0, hx1, hgr, hy0, hy1, hrs, hgr3, vmp,↓vmd,seval]
   rw [zero3_b]
   by_cases hz : q.2 = zero3
   ·simp only [hz, vmp,↓vmd,seval]
    rw [row_set (f := gl)]
    exact gives_tup (toVs_of (toV_rowN rfl (.inr ⟨rfl, rfl⟩) (by simp)) rfl) (by simp)
   ·simp only [hz, vmp,↓vmd,seval]
    rw [row_set (f := gl)]
    exact gives_tup (toVs_of (toV_rowN rfl (.inr ⟨rfl, rfl⟩) (by simp)) rfl) (by simp)
 ·rw [if_neg h7]
  simp only [h6, h7, vmp,↓vmd,seval]
  exact gives_tup rfl (by simp)
end Go.Proofs.YtcjmkpkhjhjepaaGreat.W
