/-
  What moves glyphs at a place: the document's functions. No condition but on sizes.
-/
import Derived.Test.YtcjmkpkhjhjepaaGreatPAdj
namespace Go.Proofs.YtcjmkpkhjhjepaaGreat.W
open Go Go.Vm Go.Proofs
set_option maxRecDepth 100000
set_option linter.unusedSimpArgs false
set_option maxHeartbeats 4000000
/-! typecase/typecaseref32.Pair -/
def c93_0 : AC :=
 (.seq (.reg [oo 57 (.build [(pI 0), (pI 0), (pI 0)] []),
 oo 58 (.build [(pI 0), (pI 0), (pI 0)] []),
⟨none, none, .store 3 (.s 6) (.s 57)⟩,
⟨none, none, .store 3 (.s 7) (.s 58)⟩,
 oo 8 (.mov (nB false))])
 .ret)
def c93_1 : AC :=
 (.reg [oo 17 (.mov (.s 9)),
 oo 18 (.bin .add (.s 17) (nI 1)),
 oo 9 (.mov (.s 18))])
def c93_2 : AC :=
 (.seq (.seq (.reg [oo 25 (.mov (.s 11)),
 oo 26 (.mov (.s 10)),
 oo 27 (.len (.s 26)),
 oo 28 (.bin .lss (.s 25) (.s 27))])
 (.cond (.s 28)
 .skip
 (.exit 2)))
 (.seq (.block 3
 (.seq (.reg [oo 31 (.mov (.s 10)),
 oo 32 (.mov (.s 11)),
 oo 33 (.idxA 8 (.s 31) (.s 32)),
 oo 34 (.fldA 0 (.s 33)),
 oo 35 (.load false 1 (.s 34)),
 oo 36 (.mov (.s 1)),
 oo 37 (.bin .eql (.s 35) (.s 36)),
 oo 38 (.mov (.s 37)),
 og 39 38 true (.mov (.s 10)),
 og 40 38 true (.mov (.s 11)),
 og 41 38 true (.idxA 8 (.s 39) (.s 40)),
 og 42 38 true (.fldA 1 (.s 41)),
 og 43 38 true (.load false 1 (.s 42)),
 og 44 38 true (.mov (.s 2)),
 og 45 38 true (.bin .eql (.s 43) (.s 44)),
 oo 46 (.pick (.s 38) (.s 45) (nB false))])
 (.cond (.s 46)
 (.seq (.regs [oo 47 (.mov (.s 10)),
 oo 48 (.mov (.s 11)),
 oo 49 (.idxA 8 (.s 47) (.s 48)),
 oo 50 (.fldA 2 (.s 49)),
 oo 51 (.load true 3 (.s 50)),
 oo 52 (.mov (.s 10)),
 oo 53 (.mov (.s 11)),
 oo 54 (.idxA 8 (.s 52) (.s 53)),
 oo 55 (.fldA 5 (.s 54)),
 oo 56 (.load true 3 (.s 55))]
⟨none, none, .store 3 (.s 6) (.s 51)⟩
[oo 54 (.idxA 8 (.s 52) (.s 53)),
 oo 56 (.load true 3 (.s 55))]
[⟨none, none, .store 3 (.s 7) (.s 56)⟩,
 oo 8 (.mov (nB true))])
 .ret)
 .skip)))
 (.reg [oo 29 (.mov (.s 11)),
 oo 30 (.bin .add (.s 29) (nI 1)),
 oo 11 (.mov (.s 30))])))
def c93_3 : AC :=
 (.seq (.seq (.reg [oo 12 (.mov (.s 9)),
 oo 13 (.fldA 3 (.s 3)),
 oo 14 (.load false 1 (.s 13)),
 oo 15 (.len (.s 14)),
 oo 16 (.bin .lss (.s 12) (.s 15))])
 (.cond (.s 16)
 .skip
 (.exit 0)))
 (.seq (.block 1
 (.seq (.reg [oo 19 (.fldA 3 (.s 3)),
 oo 20 (.load false 1 (.s 19)),
 oo 21 (.mov (.s 9)),
 oo 22 (.idxA 12 (.s 20) (.s 21)),
 oo 23 (.fldA 8 (.s 22)),
 oo 24 (.load false 1 (.s 23)),
 oo 10 (.mov (.s 24))])
 (.seq (.reg [oo 11 (.mov (nI 0))])
 (.block 2
 (.loop c93_2)))))
 c93_1))
def c93 : AC :=
 (.seq (.reg [oo 3 (.box (.s 0)),
 oo 6 (.box (.c (.pure (.agg [(.int .i64 0), (.int .i64 0), (.int .i64 0)])))),
 oo 7 (.box (.c (.pure (.agg [(.int .i64 0), (.int .i64 0), (.int .i64 0)])))),
 oo 8 (.mov (nB false))])
 (.seq (.seq (.reg [oo 9 (.mov (nI 0))])
 (.block 0
 (.loop c93_3)))
 c93_0))
theorem k93 : OkF 93 Tryz.f93 c93 [.c 6 true 3, .c 7 true 3, .t 8] 59 := ⟨Tryz.func93, by kernel_rfl, by kernel_rfl, by kernel_rfl, Tryz.ntmps93⟩
/-! typecase/typecaseref32.one -/
def c90_0 : AC :=
 (.seq (.reg [oo 45 (.build [(pI 0), (pI 0), (pI 0)] []),
⟨none, none, .store 3 (.s 4) (.s 45)⟩,
 oo 5 (.mov (nB false))])
 .ret)
def c90_1 : AC :=
 (.reg [oo 14 (.mov (.s 6)),
 oo 15 (.bin .add (.s 14) (nI 1)),
 oo 6 (.mov (.s 15))])
def c90_2 : AC :=
 (.seq (.seq (.reg [oo 21 (.mov (.s 8)),
 oo 22 (.fldA 0 (.s 7)),
 oo 23 (.load false 1 (.s 22)),
 oo 24 (.len (.s 23)),
 oo 25 (.bin .lss (.s 21) (.s 24))])
 (.cond (.s 25)
 .skip
 (.exit 2)))
 (.seq (.block 3
 (.seq (.seq (.reg [oo 28 (.fldA 0 (.s 7)),
 oo 29 (.load false 1 (.s 28)),
 oo 30 (.mov (.s 8)),
 oo 31 (.idxA 1 (.s 29) (.s 30)),
 oo 32 (.load false 1 (.s 31)),
 oo 33 (.mov (.s 1)),
 oo 34 (.bin .neq (.s 32) (.s 33))])
 (.cond (.s 34)
 (.exit 3)
 .skip))
 (.seq (.seq (.reg [oo 35 (.mov (.s 8)),
 oo 36 (.fldA 7 (.s 7)),
 oo 37 (.load false 1 (.s 36)),
 oo 38 (.len (.s 37)),
 oo 39 (.bin .lss (.s 35) (.s 38))])
 (.cond (.s 39)
 (.seq (.reg [oo 40 (.fldA 7 (.s 7)),
 oo 41 (.load false 1 (.s 40)),
 oo 42 (.mov (.s 8)),
 oo 43 (.idxA 3 (.s 41) (.s 42)),
 oo 44 (.load true 3 (.s 43)),
⟨none, none, .store 3 (.s 4) (.s 44)⟩,
 oo 5 (.mov (nB true))])
 .ret)
 .skip))
 (.exit 2))))
 (.reg [oo 26 (.mov (.s 8)),
 oo 27 (.bin .add (.s 26) (nI 1)),
 oo 8 (.mov (.s 27))])))
def c90_3 : AC :=
 (.seq (.seq (.reg [oo 9 (.mov (.s 6)),
 oo 10 (.fldA 3 (.s 2)),
 oo 11 (.load false 1 (.s 10)),
 oo 12 (.len (.s 11)),
 oo 13 (.bin .lss (.s 9) (.s 12))])
 (.cond (.s 13)
 .skip
 (.exit 0)))
 (.seq (.block 1
 (.seq (.reg [oo 16 (.fldA 3 (.s 2)),
 oo 17 (.load false 1 (.s 16)),
 oo 18 (.mov (.s 6)),
 oo 19 (.idxA 12 (.s 17) (.s 18)),
 oo 20 (.load true 12 (.s 19)),
 oo 7 (.box (.c (.agg [.empty, .empty, .empty, .empty, .empty, .empty, .empty, .empty, .empty, .empty, .empty, .empty]))),
⟨none, none, .store 12 (.s 7) (.s 20)⟩])
 (.seq (.reg [oo 8 (.mov (nI 0))])
 (.block 2
 (.loop c90_2)))))
 c90_1))
def c90 : AC :=
 (.seq (.reg [oo 2 (.box (.s 0)),
 oo 4 (.box (.c (.pure (.agg [(.int .i64 0), (.int .i64 0), (.int .i64 0)])))),
 oo 5 (.mov (nB false))])
 (.seq (.seq (.reg [oo 6 (.mov (nI 0))])
 (.block 0
 (.loop c90_3)))
 c90_0))
theorem k90 : OkF 90 Tryz.f90 c90 [.c 4 true 3, .t 5] 46 := ⟨Tryz.func90, by kernel_rfl, by kernel_rfl, by kernel_rfl, Tryz.ntmps90⟩
/-! typecase/typecaseref32.Add -/
def c91 : AC :=
 (.seq (.reg [oo 2 (.box (.s 0)),
 oo 3 (.box (.s 1)),
 oo 4 (.box (.c (.pure (.agg [(.int .i64 0), (.int .i64 0), (.int .i64 0), (.int .i64 0), (.int .i64 0), (.int .i64 0), (.int .i64 0), (.int .i64 0), (.int .i64 0), (.int .i64 0)]))))])
 (.seq (.reg [oo 5 (.fldA 2 (.s 2)),
 oo 6 (.load false 1 (.s 5)),
 oo 7 (.fldA 0 (.s 3)),
 oo 8 (.load false 1 (.s 7)),
 oo 9 (.bin .add (.s 6) (.s 8)),
 oo 10 (.fldA 2 (.s 2)),
⟨none, none, .store 1 (.s 10) (.s 9)⟩])
 (.seq (.reg [oo 11 (.fldA 3 (.s 2)),
 oo 12 (.load false 1 (.s 11)),
 oo 13 (.fldA 1 (.s 3)),
 oo 14 (.load false 1 (.s 13)),
 oo 15 (.bin .add (.s 12) (.s 14)),
 oo 16 (.fldA 3 (.s 2)),
⟨none, none, .store 1 (.s 16) (.s 15)⟩])
 (.seq (.reg [oo 17 (.fldA 4 (.s 2)),
 oo 18 (.load false 1 (.s 17)),
 oo 19 (.fldA 2 (.s 3)),
 oo 20 (.load false 1 (.s 19)),
 oo 21 (.bin .add (.s 18) (.s 20)),
 oo 22 (.fldA 4 (.s 2)),
⟨none, none, .store 1 (.s 22) (.s 21)⟩])
 (.seq (.reg [oo 23 (.load true 10 (.s 2)),
⟨none, none, .store 10 (.s 4) (.s 23)⟩])
 .ret)))))
theorem k91 : OkF 91 Tryz.f91 c91 [.c 4 true 10] 24 := ⟨Tryz.func91, by kernel_rfl, by kernel_rfl, by kernel_rfl, Tryz.ntmps91⟩
/-! typecase/typecaseref32.Apply -/
def c59 : AC :=
 (.seq (.reg [oo 4 (.box (.s 0)),
 oo 5 (.box (.s 1)),
 oo 8 (.mov (.c .empty)),
 oo 9 (.mov (nI 0)),
 oo 10 (.mov (nB false))])
 (.seq (.seq (.reg [oo 18 (.mov (.s 3)),
 oo 19 (.bin .lss (.s 18) (nI 0)),
 oo 20 (.mov (.s 19)),
 og 21 20 false (.mov (.s 3)),
 og 22 20 false (.mov (.s 2)),
 og 23 20 false (.len (.s 22)),
 og 24 20 false (.bin .geq (.s 21) (.s 23)),
 oo 25 (.pick (.s 20) (nB true) (.s 24))])
 (.cond (.s 25)
 (.seq (.reg [oo 8 (.mov (.c .empty)),
 oo 9 (.mov (nI 0)),
 oo 10 (.mov (nB false))])
 .ret)
 .skip))
 (.seq (.reg [oo 11 (.mov (.c .empty))])
 (.seq (.reg [oo 26 (.mov (.s 11)),
 oo 27 (.mov (.s 2)),
 oo 28 (.app 10 80 (.s 26) (.s 27)),
 oo 11 (.mov (.s 28))])
 (.seq (.seq (.reg [oo 29 (.fldA 0 (.s 5)),
 oo 30 (.load false 1 (.s 29))])
 (.block 0
 (.seq (.reg [oo 32 (.bin .eql (.s 30) (nI 6)),
 oo 31 (.mov (.s 32))])
 (.cond (.s 31)
 (.seq (.regq [oo 34 (.load true 4 (.s 5)),
 oo 35 (.mov (.s 2)),
 oo 36 (.mov (.s 3)),
 oo 37 (.idxA 10 (.s 35) (.s 36)),
 oo 38 (.fldA 0 (.s 37)),
 oo 39 (.load false 1 (.s 38)),
 oo 40 (.call 90 [(.s 34), (.s 39)]),
 oo 33 (.mov (.s 40)),
 oo 41 (.ext 0 (.s 33)),
 oo 42 (.ext 1 (.s 33)),
 oo 12 (.box (.c (.pure (.agg [(.int .i64 0), (.int .i64 0), (.int .i64 0)]))))]
[⟨none, none, .store 3 (.s 12) (.s 41)⟩,
 oo 13 (.mov (.s 42))])
 (.seq (.reg [oo 43 (.mov (.s 13))])
 (.cond (.s 43)
 (.seq (.regq [oo 44 (.mov (.s 11)),
 oo 45 (.mov (.s 3)),
 oo 46 (.mov (.s 2)),
 oo 47 (.mov (.s 3)),
 oo 48 (.idxA 10 (.s 46) (.s 47)),
 oo 49 (.load true 10 (.s 48)),
 oo 50 (.load true 3 (.s 12)),
 oo 51 (.call 91 [(.s 49), (.s 50)])]
[oo 52 (.idxA 10 (.s 44) (.s 45)),
⟨none, none, .store 10 (.s 52) (.s 51)⟩])
 (.seq (.reg [oo 53 (.mov (.s 11)),
 oo 54 (.mov (.s 3)),
 oo 55 (.bin .add (.s 54) (nI 1)),
 oo 8 (.mov (.s 53)),
 oo 9 (.mov (.s 55)),
 oo 10 (.mov (nB true))])
 .ret))
 .skip)))
 (.seq (.reg [oo 57 (.bin .eql (.s 30) (nI 7)),
 oo 56 (.mov (.s 57))])
 (.cond (.s 56)
 (.seq (.reg [oo 58 (.load true 6 (.s 4)),
 oo 59 (.load true 4 (.s 5)),
 oo 60 (.mov (.s 2)),
 oo 61 (.mov (.s 3)),
 oo 62 (.call 92 [(.s 58), (.s 59), (.s 60), (.s 61)]),
 oo 14 (.mov (.s 62))])
 (.seq (.seq (.reg [oo 63 (.mov (.s 14)),
 oo 64 (.bin .eql (.s 63) (nI (-1)))])
 (.cond (.s 64)
 (.seq (.reg [oo 8 (.mov (.c .empty)),
 oo 9 (.mov (nI 0)),
 oo 10 (.mov (nB false))])
 .ret)
 .skip))
 (.seq (.regq [oo 66 (.load true 4 (.s 5)),
 oo 67 (.mov (.s 2)),
 oo 68 (.mov (.s 3)),
 oo 69 (.idxA 10 (.s 67) (.s 68)),
 oo 70 (.fldA 0 (.s 69)),
 oo 71 (.load false 1 (.s 70)),
 oo 72 (.mov (.s 2)),
 oo 73 (.mov (.s 14)),
 oo 74 (.idxA 10 (.s 72) (.s 73)),
 oo 75 (.fldA 0 (.s 74)),
 oo 76 (.load false 1 (.s 75)),
 oo 77 (.call 93 [(.s 66), (.s 71), (.s 76)]),
 oo 65 (.mov (.s 77)),
 oo 78 (.ext 0 (.s 65)),
 oo 79 (.ext 1 (.s 65)),
 oo 80 (.ext 2 (.s 65)),
 oo 15 (.box (.c (.pure (.agg [(.int .i64 0), (.int .i64 0), (.int .i64 0)])))),
 oo 16 (.box (.c (.pure (.agg [(.int .i64 0), (.int .i64 0), (.int .i64 0)]))))]
[⟨none, none, .store 3 (.s 15) (.s 78)⟩,
⟨none, none, .store 3 (.s 16) (.s 79)⟩,
 oo 17 (.mov (.s 80))])
 (.seq (.reg [oo 81 (.mov (.s 17))])
 (.cond (.s 81)
 (.seq (.regq [oo 82 (.mov (.s 11)),
 oo 83 (.mov (.s 3)),
 oo 84 (.mov (.s 2)),
 oo 85 (.mov (.s 3)),
 oo 86 (.idxA 10 (.s 84) (.s 85)),
 oo 87 (.load true 10 (.s 86)),
 oo 88 (.load true 3 (.s 15)),
 oo 89 (.call 91 [(.s 87), (.s 88)])]
[oo 90 (.idxA 10 (.s 82) (.s 83)),
⟨none, none, .store 10 (.s 90) (.s 89)⟩])
 (.seq (.regq [oo 91 (.mov (.s 11)),
 oo 92 (.mov (.s 14)),
 oo 93 (.mov (.s 2)),
 oo 94 (.mov (.s 14)),
 oo 95 (.idxA 10 (.s 93) (.s 94)),
 oo 96 (.load true 10 (.s 95)),
 oo 97 (.load true 3 (.s 16)),
 oo 98 (.call 91 [(.s 96), (.s 97)])]
[oo 99 (.idxA 10 (.s 91) (.s 92)),
⟨none, none, .store 10 (.s 99) (.s 98)⟩])
 (.seq (.seq (.reg [oo 100 (.load true 3 (.s 16)),
 oo 101 (.build [(pI 0), (pI 0), (pI 0)] []),
 oo 102 (.eqv true [.i, .i, .i] (.s 100) (.s 101))])
 (.cond (.s 102)
 (.reg [oo 103 (.mov (.s 14)),
 oo 104 (.bin .add (.s 103) (nI 1)),
 oo 14 (.mov (.s 104))])
 .skip))
 (.seq (.reg [oo 105 (.mov (.s 11)),
 oo 106 (.mov (.s 14)),
 oo 8 (.mov (.s 105)),
 oo 9 (.mov (.s 106)),
 oo 10 (.mov (nB true))])
 .ret))))
 .skip)))))
 .skip))))))
 (.seq (.reg [oo 8 (.mov (.c .empty)),
 oo 9 (.mov (nI 0)),
 oo 10 (.mov (nB false))])
 .ret))))))
theorem k59 : OkF 59 Tryz.f59 c59 [.t 8, .t 9, .t 10] 107 := ⟨Tryz.func59, by kernel_rfl, by kernel_rfl, by kernel_rfl, Tryz.ntmps59⟩
theorem rpair_q (k : Lk) (a b : Int) : FnQ Tryz.prog 93 [lk k, I a, I b] (pairF (findSub k.subs a b)) := by
 refine k93.q (by simp) ?_
 unfold c93
 simp only [*, vmp,↓vmd,seval]
 refine loop_at (T := Nat) (fun i => [(9, .pure (I i)), (3, .ptr 0 0 0), (1, .pure (I a)), (2, .pure (I b)), (6, .ptr 1 0 0), (7, .ptr 2 0 0)])
  (fun _ => [⟨[.pure (lk k)], 4, .live⟩, ⟨[.pure (sp zero3)], 3, .live⟩, ⟨[.pure (sp zero3)], 3, .live⟩]) (fun i => i ≤ k.subs.length ∧ findSub (k.subs.drop i) a b = findSub k.subs a b) (fun i => k.subs.length - i)
  0 [0, 1, 2] (by simp) rfl ⟨by simp, by simp⟩ (by simp only [kpp,seval]) (by simp only [zero3, kpp,seval]) ?_
 rintro i ⟨hi, hr⟩
 unfold c93_3
 simp only [vmp,↓vmd,seval]
 refine onIf_intro fun hlen => ?_
 simp only [vmp,↓vmd,seval]
 refine onB_dec (fun h1 => ?_) (fun h1 => ?_)
 ·have hlt : i < k.subs.length := by omega
  have hlen' : k.subs.length ≤ 9223372036854775807 := by omega
  rw [drop_at hlt] at hr
  simp only [h1, map_at hlt, Int.natCast_nonneg, vmp,↓vmd,seval]
  refine loop_at (T := Nat) (fun j => [(11, .pure (I j)), (10, .pure (.sl (k.subs[i].pairs.map pr))), (9, .pure (I i)), (3, .ptr 0 0 0), (1, .pure (I a)), (2, .pure (I b)), (6, .ptr 1 0 0), (7, .ptr 2 0 0)])
   (fun _ => [⟨[.pure (lk k)], 4, .live⟩, ⟨[.pure (sp zero3)], 3, .live⟩, ⟨[.pure (sp zero3)], 3, .live⟩]) (fun j => j ≤ k.subs[i].pairs.length ∧ findPr (k.subs[i].pairs.drop j) a b = findPr k.subs[i].pairs a b) (fun j => k.subs[i].pairs.length - j)
   0 [0, 1, 2] (by simp) rfl ⟨by simp, by simp⟩ (by simp only [kpp,seval]) (by simp only [kpp,seval]) ?_
  rintro j ⟨hj, hq⟩
  unfold c93_2
  simp only [vmp,↓vmd,seval]
  refine onIf_intro fun hl2 => ?_
  simp only [vmp,↓vmd,seval]
  refine onB_dec (fun h2 => ?_) (fun h2 => ?_)
  ·have hlt2 : j < k.subs[i].pairs.length := by omega
   have hl2' : k.subs[i].pairs.length ≤ 9223372036854775807 := by omega
   rw [drop_at hlt2] at hq
   simp only [h2, map_at hlt2, Int.natCast_nonneg, vmp,↓vmd,seval]
   refine onB_dec (fun h3 => ?_) (fun h3 => ?_)
   ·simp only [h3, map_at hlt2, Int.natCast_nonneg, vmp,↓vmd,seval]
    refine onB_dec (fun h4 => ?_) (fun h4 => ?_)
    ·simp only [h4, map_at hlt2, Int.natCast_nonneg, vmp,↓vmd,seval]
     rw [← hr, findSub, ← hq, findPr, if_pos ⟨h3, h4⟩]
     exact gives_tup rfl (by simp)
    ·simp only [h4, vmp,↓vmd,seval]
     refine onBk_to (j + 1) [0, 1, 2] (by simp) rfl (by omega) ⟨hlt2, by rw [← hq, findPr, if_neg (by simp [h4])]⟩ (by simp only [next_at hlt2 hl2', kpp,seval]) (by simp only [kpp,seval])
   ·simp only [h3, vmp,↓vmd,seval]
    refine onBk_to (j + 1) [0, 1, 2] (by simp) rfl (by omega) ⟨hlt2, by rw [← hq, findPr, if_neg (by simp [h3])]⟩ (by simp only [next_at hlt2 hl2', kpp,seval]) (by simp only [kpp,seval])
  ·simp only [h2, vmp,↓vmd,seval]
   unfold c93_1
   simp only [vmp,↓vmd,seval]
   rw [List.drop_of_length_le (by omega)] at hq
   refine onBk_to (i + 1) [0, 1, 2] (by simp) rfl (by omega) ⟨hlt, by rw [← hr, findSub, ← hq]; rfl⟩ (by simp only [next_at hlt hlen', kpp,seval]) (by simp only [kpp,seval])
 ·simp only [h1, vmp,↓vmd,seval]
  unfold c93_0
  simp only [vmp,↓vmd,seval]
  rw [List.drop_of_length_le (by omega)] at hr
  rw [← hr]
  exact gives_tup rfl (by simp)
theorem rone_q (k : Lk) (g : Int) (hk : ∀ s ∈ k.subs, s.cover.length ≤ 5000) : FnQ Tryz.prog 90 [lk k, I g] (oneR (aloneF k.subs g)) := by
 refine k90.q (by simp) ?_
 unfold c90
 simp only [*, vmp,↓vmd,seval]
 refine loop_at (T := Nat) (fun i => [(6, .pure (I i)), (2, .ptr 0 0 0), (1, .pure (I g)), (4, .ptr 1 0 0)]) (fun _ => [⟨[.pure (lk k)], 4, .live⟩, ⟨[.pure (sp zero3)], 3, .live⟩]) (fun i => i ≤ k.subs.length ∧ aloneF (k.subs.drop i) g = aloneF k.subs g) (fun i => k.subs.length - i)
  0 [0, 1] (by simp) rfl ⟨by simp, by simp⟩ (by simp only [kpp,seval]) (by simp only [zero3, kpp,seval]) ?_
 rintro i ⟨hi, hr⟩
 unfold c90_3
 simp only [vmp,↓vmd,seval]
 refine onIf_intro fun hlen => ?_
 simp only [vmp,↓vmd,seval]
 refine onB_dec (fun h1 => ?_) (fun h1 => ?_)
 ·have hlt : i < k.subs.length := by omega
  have hlen' : k.subs.length ≤ 9223372036854775807 := by omega
  rw [drop_at hlt, aloneF] at hr
  obtain ⟨s, hs'⟩ : ∃ s, s = k.subs[i] := ⟨_, rfl⟩
  have hmap : (k.subs.map sub)[i]? = some (sub s) := by rw [map_at hlt, hs']
  have hc := hk k.subs[i] (List.getElem_mem hlt)
  rw [← hs'] at hr hc
  simp only [h1, hmap, Int.natCast_nonneg, vmp,↓vmd,seval]
  refine loop_at (T := Nat) (fun j => [(8, .pure (I j)), (7, .ptr 2 0 0), (6, .pure (I i)), (2, .ptr 0 0 0), (1, .pure (I g)), (4, .ptr 1 0 0)]) (fun _ => [⟨[.pure (lk k)], 4, .live⟩, ⟨[.pure (sp zero3)], 3, .live⟩, ⟨[.pure (sub s)], 12, .live⟩]) (fun j => j ≤ s.cover.length ∧ idxF g j (s.cover.drop j) = idxF g 0 s.cover) (fun j => s.cover.length - j)
   0 [0, 1, 2] (by simp) rfl ⟨by simp, by simp⟩ (by simp only [kpp,seval]) (by simp only [kpp,seval]) ?_
  rintro j ⟨hj, hq⟩
  unfold c90_2
  simp only [vmp,↓vmd,seval]
  refine onIf_intro fun _ => ?_
  simp only [vmp,↓vmd,seval]
  refine onB_dec (fun h2 => ?_) (fun h2 => ?_)
  ·have hlt2 : j < s.cover.length := by omega
   rw [drop_at hlt2, idxF] at hq
   simp only [h2, map_at hlt2, Int.natCast_nonneg, vmp,↓vmd,seval]
   refine onB_ne (fun h3 => ?_) (fun h3 => ?_)
   ·rw [if_neg (fun e => h3 e.symm)] at hq
    simp only [h3, vmp,↓vmd,seval]
    refine onBk_to (j + 1) [0, 1, 2] (by simp) rfl (by omega) ⟨hlt2, hq⟩ (by simp only [next_at hlt2 (by omega), kpp,seval]) (by simp only [kpp,seval])
   ·rw [if_pos h3.symm] at hq
    simp only [h3, vmp,↓vmd,seval]
    refine onIf_intro fun _ => ?_
    simp only [h3, vmp,↓vmd,seval]
    refine onB_dec (fun h4 => ?_) (fun h4 => ?_)
    ·have hlt3 : j < s.values.length := by omega
     have hp : pickV s g = some s.values[j] := by rw [pickV, ← hq, if_pos (by omega), Int.toNat_natCast, List.getElem?_eq_getElem hlt3]
     rw [hp] at hr
     simp only [h4, map_at hlt3, Int.natCast_nonneg, vmp,↓vmd,seval]
     rw [← hr]
     exact gives_tup rfl (by simp)
    ·have hp : pickV s g = none := by rw [pickV, ← hq, if_pos (by omega), Int.toNat_natCast, List.getElem?_eq_none (by omega)]
     rw [hp] at hr
     simp only [h4, vmp,↓vmd,seval]
     unfold c90_1
     simp only [vmp,↓vmd,seval]
     refine onBk_to (i + 1) [0, 1] (by simp) rfl (by omega) ⟨hlt, hr⟩ (by simp only [next_at hlt hlen', kpp,seval]) (by simp only [kpp,seval])
  ·rw [List.drop_of_length_le (by omega), idxF] at hq
   have hp : pickV s g = none := by rw [pickV, ← hq, if_neg (by omega)]
   rw [hp] at hr
   simp only [h2, vmp,↓vmd,seval]
   unfold c90_1
   simp only [vmp,↓vmd,seval]
   refine onBk_to (i + 1) [0, 1] (by simp) rfl (by omega) ⟨hlt, hr⟩ (by simp only [next_at hlt hlen', kpp,seval]) (by simp only [kpp,seval])
 ·simp only [h1, vmp,↓vmd,seval]
  unfold c90_0
  simp only [vmp,↓vmd,seval]
  rw [List.drop_of_length_le (by omega)] at hr
  rw [← hr]
  exact gives_tup rfl (by simp)
theorem radd_q (a0 a1 a2 a3 a4 a5 a6 a7 a8 a9 b0 b1 b2 : Int) : FnQ Tryz.prog 91 [gla a0 a1 a2 a3 a4 a5 a6 a7 a8 a9, .agg [I b0, I b1, I b2]] [gla a0 a1 (IntKind.wrap .i64 (a2 + b0)) (IntKind.wrap .i64 (a3 + b1)) (IntKind.wrap .i64 (a4 + b2)) a5 a6 a7 a8 a9] := by
 refine k91.q (by simp) ?_
 unfold c91
 simp only [*, vmp,↓vmd,seval]
 exact gives_pure
theorem raddG_q (g : Gl) (v : Sp) : FnQ Tryz.prog 91 [gl g, sp v] [gl (addG g v)] := radd_q g.id g.cl g.adv g.dx g.dy g.to g.hang g.lig g.comp g.mask v.f v.t v.v
theorem rapply_q (f : Fo) (k : Lk) (hk : ∀ s ∈ k.subs, s.cover.length ≤ 5000) (ls : List Gl) (hl : ls.length ≤ 1000) (x : Int) : FnQ Tryz.prog 59 [fo f, lk k, .sl (ls.map gl), I x] (adjR (applyF f k ls x)) := by
 refine k59.q (by simp) ?_
 unfold c59
 simp only [*, vmp,↓vmd,seval]
 by_cases h0 : x < 0
 ·simp only [h0, vmp,↓vmd,seval]
  rw [applyF, if_pos (.inl h0)]
  exact gives_tup rfl (by simp)
 simp only [h0, vmp,↓vmd,seval]
 refine onIf_intro fun _ => ?_
 simp only [h0, vmp,↓vmd,seval]
 by_cases h1 : (ls.length : Int) ≤ x
 ·simp only [h1, vmp,↓vmd,seval]
  rw [applyF, if_pos (.inr h1)]
  exact gives_tup rfl (by simp)
 rw [applyF, if_neg (by omega)]
 simp only [h1, vmp,↓vmd,seval]
 refine onIf'_intro (appOk0_map (fun _ => rfl) (by omega) (by simp [maxLen]; omega)) ?_
 (first | apply envO | apply envQ); simp only [vmp,↓vmd,seval]; rfl
 have hx0 : 0 ≤ x := by omega
 have hx1 : x < ls.length := by omega
 have hg := glAt_map hx0 hx1
 have hgr := glAt_row hx0 hx1
 by_cases h6 : k.kind = 6
 ·rw [if_pos h6]
  simp only [h6, hx0, hx1, hg, vmp,↓vmd,seval]
  refine onQ_q (rone_q k _ hk) rfl ?_
  (first | apply envO | apply envQ); simp only [vmp,↓vmd,seval]; rfl
  cases hc : aloneF k.subs (glAt ls x).id with
  | none =>
   simp only [oneR, vmp,↓vmd,seval]
   exact gives_tup rfl (by simp)
  | some v =>
   simp only [oneR, hx0, hx1, hgr, hg, vmp,↓vmd,seval]
   refine onQ_q (raddG_q _ _) rfl ?_
   (first | apply envO | apply envQ); simp only [vmp,↓vmd,seval]; rfl
   simp only [hx0, hx1, hgr, vmp,↓vmd,seval]
   rw [row_set (f := gl)]
   exact gives_tup (toVs_of (toV_rowN rfl (.inr ⟨rfl, rfl⟩) (by simp)) rfl) (by simp)
 rw [if_neg h6]
 by_cases h7 : k.kind = 7
 ·rw [if_pos h7]
  have hnq := rnext_q f k.kind k.flags k.set (.sl (k.subs.map sub)) ls x hl
  have hin := nextF_in (p := seesF f k.flags k.set ls) (n := ls.length) (a := x)
  simp only [h6, h7, vmp,↓vmd,seval]
  generalize nextF (seesF f k.flags k.set ls) ls.length x = y at *
  refine onC_q hnq rfl ?_
  (first | apply envO | apply envQ); simp only [vmp,↓vmd,seval]; rfl
  by_cases hy : y = -1
  ·rw [if_pos hy]
   simp only [hy, vmp,↓vmd,seval]
   exact gives_tup rfl (by simp)
  rw [if_neg hy]
  have hy0 : 0 ≤ y := by omega
  have hy1 : y < ls.length := by omega
  have hg2 := glAt_map hy0 hy1
  have hgr2 := glAt_row hy0 hy1
  have hp := rpair_q k (glAt ls x).id (glAt ls y).id
  simp only [hy, hx0, hx1, hg, hy0, hy1, hg2, vmp,↓vmd,seval]
  cases hc : findSub k.subs (glAt ls x).id (glAt ls y).id with
  | none =>
   rw [hc] at hp
   have hp' : FnQ Tryz.prog 93 [lk k, I (glAt ls x).id, I (glAt ls y).id] [sp zero3, sp zero3, .bool false] := hp
   refine onQ_q hp' rfl ?_
   (first | apply envO | apply envQ); simp only [vmp,↓vmd,seval]; rfl
   simp only [vmp,↓vmd,seval]
   exact gives_tup rfl (by simp)
  | some q =>
   rw [hc] at hp
   have hp' : FnQ Tryz.prog 93 [lk k, I (glAt ls x).id, I (glAt ls y).id] [sp q.1, sp q.2, .bool true] := hp
   refine onQ_q hp' rfl ?_
   (first | apply envO | apply envQ); simp only [vmp,↓vmd,seval]; rfl
   simp only [hx0, hx1, hg, hgr, hy0, hy1, hgr2, vmp,↓vmd,seval]
   refine onQ_q (raddG_q _ _) rfl ?_
   (first | apply envO | apply envQ); simp only [vmp,↓vmd,seval]; rfl
   have hrs := row_set (f := gl) (X := ls) (k := x.toNat) (a := addG (glAt ls x) q.1)
   have hgr3 := glAt_row (ls := ls.set x.toNat (addG (glAt ls x) q.1)) (y := y) hy0 (by rw [List.length_set]; exact hy1)
   simp only [hx0, hx1, hgr, hy0, hy1, hg2, hrs, hgr3, vmp,↓vmd,seval]
   refine onQ_q (raddG_q _ _) rfl ?_
   (first | apply envO | apply envQ); simp only [vmp,↓vmd,seval]; rfl
   simp only [hx0, hx1, hgr, hy0, hy1, hrs, hgr3, vmp,↓vmd,seval]
   rw [zero3_b]
   by_cases hz : q.2 = zero3
   ·simp only [hz, vmp,↓vmd,seval]
    rw [row_set (f := gl)]
    exact gives_tup (toVs_of (toV_rowN rfl (.inr ⟨rfl, rfl⟩) (by simp)) rfl) (by simp)
   ·simp only [hz, vmp,↓vmd,seval]
    rw [row_set (f := gl)]
    exact gives_tup (toVs_of (toV_rowN rfl (.inr ⟨rfl, rfl⟩) (by simp)) rfl) (by simp)
 ·rw [if_neg h7]
  simp only [h6, h7, vmp,↓vmd,seval]
  exact gives_tup rfl (by simp)
end Go.Proofs.YtcjmkpkhjhjepaaGreat.W
