/-
  The machine of positions: a lookup at a place, however deep. No condition but on sizes.
-/
import Derived.Test.YtcjmkpkhjhjepaaGreatPos2
import Derived.Test.YtcjmkpkhjhjepaaGreatPMk4
import Derived.Test.YtcjmkpkhjhjepaaGreatCur3
namespace Go.Proofs.YtcjmkpkhjhjepaaGreat.W
open Go Go.Vm Go.Proofs
set_option maxRecDepth 100000
set_option linter.unusedSimpArgs false
set_option maxHeartbeats 4000000
/-! (*typecase/pos.machine).kind -/
def c33 : AC :=
 (.seq (.reg [oo 5 (.box (.s 0)),
 oo 6 (.box (.s 1)),
 oo 9 (.box (.s 4)),
 oo 10 (.mov (.c .empty)),
 oo 11 (.mov (nI 0)),
 oo 12 (.mov (nB false))])
 (.seq (.seq (.reg [oo 15 (.fldA 0 (.s 6)),
 oo 16 (.load false 1 (.s 15))])
 (.block 0
 (.seq (.seq (.reg [oo 18 (.bin .eql (.s 16) (nI 6)),
 oo 17 (.mov (.s 18))])
 (.cond (.s 17)
 .skip
 (.reg [oo 19 (.bin .eql (.s 16) (nI 7)),
 oo 17 (.mov (.s 19))])))
 (.cond (.s 17)
 (.seq (.regq [oo 20 (.load false 1 (.s 5)),
 oo 21 (.nilck (.s 20)),
 oo 22 (.fldA 0 (.s 21)),
 oo 23 (.load true 6 (.s 22)),
 oo 24 (.load true 4 (.s 6)),
 oo 25 (.mov (.s 2)),
 oo 26 (.mov (.s 3)),
 oo 27 (.call 49 [(.s 23), (.s 24), (.s 25), (.s 26)]),
 oo 28 (.ext 0 (.s 27)),
 oo 29 (.ext 1 (.s 27)),
 oo 30 (.ext 2 (.s 27))]
[oo 10 (.mov (.s 28)),
 oo 11 (.mov (.s 29)),
 oo 12 (.mov (.s 30))])
 .ret)
 (.seq (.reg [oo 32 (.bin .eql (.s 16) (nI 8)),
 oo 31 (.mov (.s 32))])
 (.cond (.s 31)
 (.seq (.regq [oo 33 (.load false 1 (.s 5)),
 oo 34 (.nilck (.s 33)),
 oo 35 (.fldA 0 (.s 34)),
 oo 36 (.load true 6 (.s 35)),
 oo 37 (.load true 4 (.s 6)),
 oo 38 (.mov (.s 2)),
 oo 39 (.mov (.s 3)),
 oo 40 (.call 50 [(.s 36), (.s 37), (.s 38), (.s 39)]),
 oo 41 (.ext 0 (.s 40)),
 oo 42 (.ext 1 (.s 40)),
 oo 43 (.ext 2 (.s 40))]
[oo 10 (.mov (.s 41)),
 oo 11 (.mov (.s 42)),
 oo 12 (.mov (.s 43))])
 .ret)
 (.seq (.seq (.reg [oo 45 (.bin .eql (.s 16) (nI 9)),
 oo 44 (.mov (.s 45))])
 (.cond (.s 44)
 .skip
 (.seq (.reg [oo 46 (.bin .eql (.s 16) (nI 10)),
 oo 44 (.mov (.s 46))])
 (.cond (.s 44)
 .skip
 (.reg [oo 47 (.bin .eql (.s 16) (nI 11)),
 oo 44 (.mov (.s 47))])))))
 (.cond (.s 44)
 (.seq (.regq [oo 49 (.load false 1 (.s 5)),
 oo 50 (.nilck (.s 49)),
 oo 51 (.fldA 0 (.s 50)),
 oo 52 (.load true 6 (.s 51)),
 oo 53 (.load true 4 (.s 6)),
 oo 54 (.mov (.s 2)),
 oo 55 (.mov (.s 3)),
 oo 56 (.call 51 [(.s 52), (.s 53), (.s 54), (.s 55)]),
 oo 48 (.mov (.s 56)),
 oo 57 (.ext 0 (.s 48)),
 oo 58 (.ext 1 (.s 48)),
 oo 13 (.mov (.s 57))]
[oo 14 (.mov (.s 58))])
 (.seq (.reg [oo 59 (.mov (.s 13)),
 oo 60 (.mov (.s 3)),
 oo 61 (.bin .add (.s 60) (nI 1)),
 oo 62 (.mov (.s 14)),
 oo 10 (.mov (.s 59)),
 oo 11 (.mov (.s 61)),
 oo 12 (.mov (.s 62))])
 .ret))
 (.seq (.reg [oo 64 (.bin .eql (.s 16) (nI 12)),
 oo 63 (.mov (.s 64))])
 (.cond (.s 63)
 (.seq (.regd [oo 65 (.load false 1 (.s 5)),
 oo 66 (.nilck (.s 65)),
 oo 67 (.fldA 0 (.s 66)),
 oo 68 (.load true 6 (.s 67)),
 oo 69 (.load true 4 (.s 6)),
 oo 70 (.mov (.s 2)),
 oo 71 (.mov (.s 3)),
 oo 72 (.mkfn (.func 53) [] [(.s 5), (.s 9)])]
[oo 73 (.call 52 [(.s 68), (.s 69), (.s 70), (.s 71), (.s 72)])]
[oo 74 (.ext 0 (.s 73)),
 oo 75 (.ext 1 (.s 73)),
 oo 76 (.ext 2 (.s 73))]
[oo 10 (.mov (.s 74)),
 oo 11 (.mov (.s 75)),
 oo 12 (.mov (.s 76))])
 .ret)
 .skip))))))))))
 (.seq (.reg [oo 10 (.mov (.c .empty)),
 oo 11 (.mov (nI 0)),
 oo 12 (.mov (nB false))])
 .ret)))
theorem k33 : OkF 33 Tryz.f33 c33 [.t 10, .t 11, .t 12] 77 := ⟨Tryz.func33, by kernel_rfl, by kernel_rfl, by kernel_rfl, Tryz.ntmps33⟩
/-! (*typecase/pos.machine).once -/
def c20 : AC :=
 (.seq (.reg [oo 10 (.mov (.c .empty)),
 oo 11 (.mov (nI 0)),
 oo 12 (.mov (nB false))])
 (.seq (.seq (.reg [oo 17 (.mov (.s 1)),
 oo 18 (.bin .lss (.s 17) (nI 0)),
 oo 19 (.mov (.s 18)),
 og 20 19 false (.mov (.s 1)),
 og 21 19 false (.mov (.s 0)),
 og 22 19 false (.nilck (.s 21)),
 og 23 19 false (.fldA 0 (.s 22)),
 og 24 19 false (.fldA 3 (.s 23)),
 og 25 19 false (.load false 1 (.s 24)),
 og 26 19 false (.len (.s 25)),
 og 27 19 false (.bin .geq (.s 20) (.s 26)),
 oo 28 (.pick (.s 19) (nB true) (.s 27)),
 oo 29 (.mov (.s 28)),
 og 30 29 false (.mov (.s 3)),
 og 31 29 false (.bin .lss (.s 30) (nI 0)),
 oo 32 (.pick (.s 29) (nB true) (.s 31)),
 oo 33 (.mov (.s 32)),
 og 34 33 false (.mov (.s 3)),
 og 35 33 false (.mov (.s 2)),
 og 36 33 false (.len (.s 35)),
 og 37 33 false (.bin .geq (.s 34) (.s 36)),
 oo 38 (.pick (.s 33) (nB true) (.s 37)),
 oo 39 (.mov (.s 38)),
 og 40 39 false (.mov (.s 4)),
 og 41 39 false (.bin .gtr (.s 40) (nI 8)),
 oo 42 (.pick (.s 39) (nB true) (.s 41)),
 oo 43 (.mov (.s 42)),
 og 44 43 false (.mov (.s 0)),
 og 45 43 false (.nilck (.s 44)),
 og 46 43 false (.fldA 6 (.s 45)),
 og 47 43 false (.load false 1 (.s 46)),
 og 48 43 false (.bin .lss (.s 47) (nI 1)),
 oo 49 (.pick (.s 43) (nB true) (.s 48))])
 (.cond (.s 49)
 (.seq (.reg [oo 10 (.mov (.c .empty)),
 oo 11 (.mov (nI 0)),
 oo 12 (.mov (nB false))])
 .ret)
 .skip))
 (.seq (.reg [oo 50 (.mov (.s 0)),
 oo 51 (.nilck (.s 50)),
 oo 52 (.fldA 0 (.s 51)),
 oo 53 (.fldA 3 (.s 52)),
 oo 54 (.load false 1 (.s 53)),
 oo 55 (.mov (.s 1)),
 oo 56 (.idxA 4 (.s 54) (.s 55)),
 oo 57 (.load true 4 (.s 56)),
 oo 13 (.box (.c (.agg [(pI 0), (pI 0), (pI 0), .empty]))),
⟨none, none, .store 4 (.s 13) (.s 57)⟩])
 (.seq (.seq (.regq [oo 58 (.mov (.s 0)),
 oo 59 (.nilck (.s 58)),
 oo 60 (.fldA 0 (.s 59)),
 oo 61 (.load true 6 (.s 60)),
 oo 62 (.load true 4 (.s 13)),
 oo 63 (.mov (.s 2)),
 oo 64 (.mov (.s 3)),
 oo 65 (.idxA 10 (.s 63) (.s 64)),
 oo 66 (.fldA 0 (.s 65)),
 oo 67 (.load false 1 (.s 66)),
 oo 68 (.call 31 [(.s 61), (.s 62), (.s 67)]),
 oo 69 (.mov (.s 68)),
 og 70 69 false (.mov (.s 0)),
 og 71 69 false (.load true 4 (.s 13)),
 og 72 69 false (.mov (.s 2)),
 og 73 69 false (.mov (.s 3))]
[og 74 69 false (.call 32 [(.s 70), (.s 71), (.s 72), (.s 73)]),
 og 75 69 false (.un .not (.s 74)),
 oo 76 (.pick (.s 69) (nB true) (.s 75))])
 (.cond (.s 76)
 (.seq (.reg [oo 10 (.mov (.c .empty)),
 oo 11 (.mov (nI 0)),
 oo 12 (.mov (nB false))])
 .ret)
 .skip))
 (.seq (.reg [oo 77 (.mov (.s 0)),
 oo 78 (.nilck (.s 77)),
 oo 79 (.fldA 6 (.s 78)),
 oo 80 (.load false 1 (.s 79)),
 oo 81 (.bin .sub (.s 80) (nI 1)),
 oo 82 (.nilck (.s 77)),
 oo 83 (.fldA 6 (.s 82)),
⟨none, none, .store 1 (.s 83) (.s 81)⟩])
 (.seq (.reg [oo 85 (.mov (.s 0)),
 oo 86 (.load true 4 (.s 13)),
 oo 87 (.mov (.s 2)),
 oo 88 (.mov (.s 3)),
 oo 89 (.mov (.s 4)),
 oo 90 (.call 33 [(.s 85), (.s 86), (.s 87), (.s 88), (.s 89)]),
 oo 84 (.mov (.s 90)),
 oo 91 (.ext 0 (.s 84)),
 oo 92 (.ext 1 (.s 84)),
 oo 93 (.ext 2 (.s 84)),
 oo 14 (.mov (.s 91)),
 oo 15 (.mov (.s 92)),
 oo 16 (.mov (.s 93))])
 (.seq (.seq (.reg [oo 94 (.mov (.s 16)),
 oo 95 (.un .not (.s 94))])
 (.cond (.s 95)
 (.seq (.reg [oo 96 (.mov (.s 0)),
 oo 97 (.nilck (.s 96)),
 oo 98 (.fldA 6 (.s 97)),
 oo 99 (.load false 1 (.s 98)),
 oo 100 (.bin .add (.s 99) (nI 1)),
 oo 101 (.nilck (.s 96)),
 oo 102 (.fldA 6 (.s 101)),
⟨none, none, .store 1 (.s 102) (.s 100)⟩])
 (.seq (.reg [oo 10 (.mov (.c .empty)),
 oo 11 (.mov (nI 0)),
 oo 12 (.mov (nB false))])
 .ret))
 .skip))
 (.seq (.reg [oo 103 (.mov (.s 14)),
 oo 104 (.mov (.s 15)),
 oo 10 (.mov (.s 103)),
 oo 11 (.mov (.s 104)),
 oo 12 (.mov (nB true))])
 .ret))))))))
theorem k20 : OkF 20 Tryz.f20 c20 [.t 10, .t 11, .t 12] 105 := ⟨Tryz.func20, by kernel_rfl, by kernel_rfl, by kernel_rfl, Tryz.ntmps20⟩
/-- what the kinds tell: where nothing was done, what is told of it counts for nothing -/
def KindR (r : Option (List Gl × Int)) (s : S) : Prop := match r with
 | some q => s = onceS (some q)
 | none => ∃ a n, s = .tup [a, .pure (I n), .pure (.bool false)] ∧ (a = .empty ∨ ∃ v, a = .pure v)
theorem adjR_kind (r : Option (List Gl × Int)) : KindR r (retS ((adjR r).map .pure)) := by
 cases r with
 | none => exact ⟨_, _, rfl, .inr ⟨_, rfl⟩⟩
 | some q => rfl
theorem kind_c (F : Ff) {m : Nat} (h : OnceC F m) (k : Lk) (hk : PosK k) (l : List Gl) (x left deep : Int) (hl : l.length ≤ 100) (h0 : 0 ≤ left) (h1 : left ≤ 65536) (hd : deep + 1 = 9 - (m : Int)) (hd0 : 0 ≤ deep) :
  ∃ s0, KindR (kindO (onceF F m) F.fo k l x left).1 s0 ∧ CallA Tryz.prog 33 [.ptr 0 0 0, .pure (lk k), .pure (.sl (l.map gl)), .pure (I x), .pure (I deep)] [mR F left]
   fun s H' => s = s0 ∧ H' = [mR F (kindO (onceF F m) F.fo k l x left).2] := by
 have key : ∀ {s0 : S} {u : Int}, (∀ {n : Nat} {f : Nat → Nat}, S.inb n s0 = true ∧ S.ren f s0 = s0) → CallA Tryz.prog 33 [.ptr 0 0 0, .pure (lk k), .pure (.sl (l.map gl)), .pure (I x), .pure (I deep)] [mR F left] (fun s H' => s = s0 ∧ ∃ R, H' = mR F u :: R) →
   CallA Tryz.prog 33 [.ptr 0 0 0, .pure (lk k), .pure (.sl (l.map gl)), .pure (I x), .pure (I deep)] [mR F left] (fun s H' => s = s0 ∧ H' = [mR F u]) := by
  intro s0 u hs hc
  refine hc.weak ?_
  rintro r H' ⟨rfl, R, rfl⟩
  exact ⟨[0], _, _, by simp, rfl, (by simp only [kpp,seval]; exact hs), (by simp only [kpp,seval]), rfl, rfl⟩
 by_cases h6 : k.kind = 6
 ·have e : kindO (onceF F m) F.fo k l x left = (applyF F.fo k l x, left) := by rw [kindO, if_neg (by omega), singleF, if_pos (by omega)]
  rw [e]
  have hq := apply_q F.fo k l (by omega) x
  rw [ffV_fo] at hq
  refine ⟨retS ((adjR (applyF F.fo k l x)).map .pure), adjR_kind _, key (by cases applyF F.fo k l x <;> exact ⟨rfl, rfl⟩) ?_⟩
  refine k33.a (by simp) ?_
  unfold c33
  generalize applyF F.fo k l x = o at *
  simp only [vmp,↓vmd,seval]
  refine onB_pos h6 ?_
  simp only [h6, vmp,↓vmd,seval]
  refine onQ_q hq rfl ?_
  cases o with
  | none =>
   (first | apply envO | apply envQ); simp only [adjR, vmp,↓vmd,seval]; rfl
   simp only [adjR, vmp,↓vmd,seval]
   first | exact ⟨_, rfl⟩ | exact ⟨rfl, _, rfl⟩
  | some q =>
   (first | apply envO | apply envQ); simp only [adjR, vmp,↓vmd,seval]; rfl
   simp only [adjR, vmp,↓vmd,seval]
   first | exact ⟨_, rfl⟩ | exact ⟨rfl, _, rfl⟩
 by_cases h7 : k.kind = 7
 ·have e : kindO (onceF F m) F.fo k l x left = (applyF F.fo k l x, left) := by rw [kindO, if_neg (by omega), singleF, if_pos (by omega)]
  rw [e]
  have hq := apply_q F.fo k l (by omega) x
  rw [ffV_fo] at hq
  have n6 : ¬ k.kind = 6 := by omega
  refine ⟨retS ((adjR (applyF F.fo k l x)).map .pure), adjR_kind _, key (by cases applyF F.fo k l x <;> exact ⟨rfl, rfl⟩) ?_⟩
  refine k33.a (by simp) ?_
  unfold c33
  generalize applyF F.fo k l x = o at *
  simp only [vmp,↓vmd,seval]
  refine onB_neg n6 ?_
  simp only [n6, vmp,↓vmd,seval]
  refine onB_pos h7 ?_
  simp only [h7, vmp,↓vmd,seval]
  refine onQ_q hq rfl ?_
  cases o with
  | none =>
   (first | apply envO | apply envQ); simp only [adjR, vmp,↓vmd,seval]; rfl
   simp only [adjR, vmp,↓vmd,seval]
   first | exact ⟨_, rfl⟩ | exact ⟨rfl, _, rfl⟩
  | some q =>
   (first | apply envO | apply envQ); simp only [adjR, vmp,↓vmd,seval]; rfl
   simp only [adjR, vmp,↓vmd,seval]
   first | exact ⟨_, rfl⟩ | exact ⟨rfl, _, rfl⟩
 by_cases h8 : k.kind = 8
 ·have e : kindO (onceF F m) F.fo k l x left = ((curD F.fo k l x).map fun z => (z.2, z.1), left) := by rw [kindO, if_neg (by omega), singleF, if_neg (by omega), if_pos h8]
  rw [e]
  have hq := capply_q F.fo k l (by omega) x
  rw [ffV_fo, curA] at hq
  have n6 : ¬ k.kind = 6 := by omega
  have n7 : ¬ k.kind = 7 := by omega
  generalize curD F.fo k l x = o at *
  cases o with
  | none =>
   refine ⟨.tup [.pure (.sl (l.map gl)), .pure (I x), .pure (.bool false)], ⟨_, _, rfl, .inr ⟨_, rfl⟩⟩, key ⟨rfl, rfl⟩ ?_⟩
   refine k33.a (by simp) ?_
   unfold c33
   simp only [vmp,↓vmd,seval]
   refine onB_neg n6 ?_
   simp only [n6, vmp,↓vmd,seval]
   refine onB_neg n7 ?_
   simp only [n7, vmp,↓vmd,seval]
   refine onB_pos h8 ?_
   simp only [h8, vmp,↓vmd,seval]
   refine onQ_q hq rfl ?_
   (first | apply envO | apply envQ); simp only [vmp,↓vmd,seval]; rfl
   simp only [vmp,↓vmd,seval]
   first | exact ⟨_, rfl⟩ | exact ⟨rfl, _, rfl⟩
  | some q =>
   refine ⟨onceS (some (q.2, q.1)), rfl, key ⟨rfl, rfl⟩ ?_⟩
   refine k33.a (by simp) ?_
   unfold c33
   simp only [vmp,↓vmd,seval]
   refine onB_neg n6 ?_
   simp only [n6, vmp,↓vmd,seval]
   refine onB_neg n7 ?_
   simp only [n7, vmp,↓vmd,seval]
   refine onB_pos h8 ?_
   simp only [h8, vmp,↓vmd,seval]
   refine onQ_q hq rfl ?_
   (first | apply envO | apply envQ); simp only [vmp,↓vmd,seval]; rfl
   simp only [vmp,↓vmd,seval]
   first | exact ⟨_, rfl⟩ | exact ⟨rfl, _, rfl⟩
 by_cases h9 : k.kind = 9
 ·have e : kindO (onceF F m) F.fo k l x left = ((markF F.fo k l x).map fun a => (a, IntKind.wrap .i64 (x + 1)), left) := by rw [kindO, if_neg (by omega), singleF, if_neg (by omega), if_neg (by omega), if_pos (by omega)]
  rw [e]
  have hq := apply34_q F.fo k l (by omega) (hk.hang (by omega)) x
  rw [ffV_fo] at hq
  have n6 : ¬ k.kind = 6 := by omega
  have n7 : ¬ k.kind = 7 := by omega
  have n8 : ¬ k.kind = 8 := by omega
  generalize markF F.fo k l x = o at *
  cases o with
  | none =>
   have hq' : FnQ Tryz.prog 51 [ffV F, lk k, .sl (l.map gl), I x] [.sl [], .bool false] := hq
   refine ⟨.tup [.pure (.sl []), .pure (I (IntKind.wrap .i64 (x + 1))), .pure (.bool false)], ⟨_, _, rfl, .inr ⟨_, rfl⟩⟩, key ⟨rfl, rfl⟩ ?_⟩
   refine k33.a (by simp) ?_
   unfold c33
   simp only [vmp,↓vmd,seval]
   refine onB_neg n6 ?_
   simp only [n6, vmp,↓vmd,seval]
   refine onB_neg n7 ?_
   simp only [n7, vmp,↓vmd,seval]
   refine onB_neg n8 ?_
   simp only [n8, vmp,↓vmd,seval]
   refine onB_pos h9 ?_
   simp only [h9, vmp,↓vmd,seval]
   refine onQ_q hq' rfl ?_
   (first | apply envO | apply envQ); simp only [vmp,↓vmd,seval]; rfl
   simp only [vmp,↓vmd,seval]
   first | exact ⟨_, rfl⟩ | exact ⟨rfl, _, rfl⟩
  | some q =>
   have hq' : FnQ Tryz.prog 51 [ffV F, lk k, .sl (l.map gl), I x] [.sl (q.map gl), .bool true] := hq
   refine ⟨onceS (some (q, IntKind.wrap .i64 (x + 1))), rfl, key ⟨rfl, rfl⟩ ?_⟩
   refine k33.a (by simp) ?_
   unfold c33
   simp only [vmp,↓vmd,seval]
   refine onB_neg n6 ?_
   simp only [n6, vmp,↓vmd,seval]
   refine onB_neg n7 ?_
   simp only [n7, vmp,↓vmd,seval]
   refine onB_neg n8 ?_
   simp only [n8, vmp,↓vmd,seval]
   refine onB_pos h9 ?_
   simp only [h9, vmp,↓vmd,seval]
   refine onQ_q hq' rfl ?_
   (first | apply envO | apply envQ); simp only [vmp,↓vmd,seval]; rfl
   simp only [vmp,↓vmd,seval]
   first | exact ⟨_, rfl⟩ | exact ⟨rfl, _, rfl⟩
 by_cases h10 : k.kind = 10
 ·have e : kindO (onceF F m) F.fo k l x left = ((markF F.fo k l x).map fun a => (a, IntKind.wrap .i64 (x + 1)), left) := by rw [kindO, if_neg (by omega), singleF, if_neg (by omega), if_neg (by omega), if_pos (by omega)]
  rw [e]
  have hq := apply34_q F.fo k l (by omega) (hk.hang (by omega)) x
  rw [ffV_fo] at hq
  have n6 : ¬ k.kind = 6 := by omega
  have n7 : ¬ k.kind = 7 := by omega
  have n8 : ¬ k.kind = 8 := by omega
  have n9 : ¬ k.kind = 9 := by omega
  generalize markF F.fo k l x = o at *
  cases o with
  | none =>
   have hq' : FnQ Tryz.prog 51 [ffV F, lk k, .sl (l.map gl), I x] [.sl [], .bool false] := hq
   refine ⟨.tup [.pure (.sl []), .pure (I (IntKind.wrap .i64 (x + 1))), .pure (.bool false)], ⟨_, _, rfl, .inr ⟨_, rfl⟩⟩, key ⟨rfl, rfl⟩ ?_⟩
   refine k33.a (by simp) ?_
   unfold c33
   simp only [vmp,↓vmd,seval]
   refine onB_neg n6 ?_
   simp only [n6, vmp,↓vmd,seval]
   refine onB_neg n7 ?_
   simp only [n7, vmp,↓vmd,seval]
   refine onB_neg n8 ?_
   simp only [n8, vmp,↓vmd,seval]
   refine onB_neg n9 ?_
   simp only [n9, vmp,↓vmd,seval]
   refine onB_pos h10 ?_
   simp only [h10, vmp,↓vmd,seval]
   refine onQ_q hq' rfl ?_
   (first | apply envO | apply envQ); simp only [vmp,↓vmd,seval]; rfl
   simp only [vmp,↓vmd,seval]
   first | exact ⟨_, rfl⟩ | exact ⟨rfl, _, rfl⟩
  | some q =>
   have hq' : FnQ Tryz.prog 51 [ffV F, lk k, .sl (l.map gl), I x] [.sl (q.map gl), .bool true] := hq
   refine ⟨onceS (some (q, IntKind.wrap .i64 (x + 1))), rfl, key ⟨rfl, rfl⟩ ?_⟩
   refine k33.a (by simp) ?_
   unfold c33
   simp only [vmp,↓vmd,seval]
   refine onB_neg n6 ?_
   simp only [n6, vmp,↓vmd,seval]
   refine onB_neg n7 ?_
   simp only [n7, vmp,↓vmd,seval]
   refine onB_neg n8 ?_
   simp only [n8, vmp,↓vmd,seval]
   refine onB_neg n9 ?_
   simp only [n9, vmp,↓vmd,seval]
   refine onB_pos h10 ?_
   simp only [h10, vmp,↓vmd,seval]
   refine onQ_q hq' rfl ?_
   (first | apply envO | apply envQ); simp only [vmp,↓vmd,seval]; rfl
   simp only [vmp,↓vmd,seval]
   first | exact ⟨_, rfl⟩ | exact ⟨rfl, _, rfl⟩
 by_cases h11 : k.kind = 11
 ·have e : kindO (onceF F m) F.fo k l x left = ((markF F.fo k l x).map fun a => (a, IntKind.wrap .i64 (x + 1)), left) := by rw [kindO, if_neg (by omega), singleF, if_neg (by omega), if_neg (by omega), if_pos (by omega)]
  rw [e]
  have hq := apply34_q F.fo k l (by omega) (hk.hang (by omega)) x
  rw [ffV_fo] at hq
  have n6 : ¬ k.kind = 6 := by omega
  have n7 : ¬ k.kind = 7 := by omega
  have n8 : ¬ k.kind = 8 := by omega
  have n9 : ¬ k.kind = 9 := by omega
  have n10 : ¬ k.kind = 10 := by omega
  generalize markF F.fo k l x = o at *
  cases o with
  | none =>
   have hq' : FnQ Tryz.prog 51 [ffV F, lk k, .sl (l.map gl), I x] [.sl [], .bool false] := hq
   refine ⟨.tup [.pure (.sl []), .pure (I (IntKind.wrap .i64 (x + 1))), .pure (.bool false)], ⟨_, _, rfl, .inr ⟨_, rfl⟩⟩, key ⟨rfl, rfl⟩ ?_⟩
   refine k33.a (by simp) ?_
   unfold c33
   simp only [vmp,↓vmd,seval]
   refine onB_neg n6 ?_
   simp only [n6, vmp,↓vmd,seval]
   refine onB_neg n7 ?_
   simp only [n7, vmp,↓vmd,seval]
   refine onB_neg n8 ?_
   simp only [n8, vmp,↓vmd,seval]
   refine onB_neg n9 ?_
   simp only [n9, vmp,↓vmd,seval]
   refine onB_neg n10 ?_
   simp only [n10, vmp,↓vmd,seval]
   refine onB_pos h11 ?_
   simp only [h11, vmp,↓vmd,seval]
   refine onQ_q hq' rfl ?_
   (first | apply envO | apply envQ); simp only [vmp,↓vmd,seval]; rfl
   simp only [vmp,↓vmd,seval]
   first | exact ⟨_, rfl⟩ | exact ⟨rfl, _, rfl⟩
  | some q =>
   have hq' : FnQ Tryz.prog 51 [ffV F, lk k, .sl (l.map gl), I x] [.sl (q.map gl), .bool true] := hq
   refine ⟨onceS (some (q, IntKind.wrap .i64 (x + 1))), rfl, key ⟨rfl, rfl⟩ ?_⟩
   refine k33.a (by simp) ?_
   unfold c33
   simp only [vmp,↓vmd,seval]
   refine onB_neg n6 ?_
   simp only [n6, vmp,↓vmd,seval]
   refine onB_neg n7 ?_
   simp only [n7, vmp,↓vmd,seval]
   refine onB_neg n8 ?_
   simp only [n8, vmp,↓vmd,seval]
   refine onB_neg n9 ?_
   simp only [n9, vmp,↓vmd,seval]
   refine onB_neg n10 ?_
   simp only [n10, vmp,↓vmd,seval]
   refine onB_pos h11 ?_
   simp only [h11, vmp,↓vmd,seval]
   refine onQ_q hq' rfl ?_
   (first | apply envO | apply envQ); simp only [vmp,↓vmd,seval]; rfl
   simp only [vmp,↓vmd,seval]
   first | exact ⟨_, rfl⟩ | exact ⟨rfl, _, rfl⟩
 by_cases h12 : k.kind = 12
 ·have e : kindO (onceF F m) F.fo k l x left = ctxO (onceF F m) F.fo k l x left := by rw [kindO, if_pos h12]
  rw [e]
  obtain ⟨hs, hn⟩ := hk.cx h12
  have hc := ctxa_c F h k hs hn l x left deep hl h0 h1 hd hd0
  have n6 : ¬ k.kind = 6 := by omega
  have n7 : ¬ k.kind = 7 := by omega
  have n8 : ¬ k.kind = 8 := by omega
  have n9 : ¬ k.kind = 9 := by omega
  have n10 : ¬ k.kind = 10 := by omega
  have n11 : ¬ k.kind = 11 := by omega
  generalize ctxO (onceF F m) F.fo k l x left = o at *
  obtain ⟨r, left'⟩ := o
  refine ⟨onceS r, by cases r <;> first | rfl | exact ⟨_, _, rfl, .inl rfl⟩, key onceS_k ?_⟩
  refine k33.a (by simp) ?_
  unfold c33
  simp only [vmp,↓vmd,seval]
  refine onB_neg n6 ?_
  simp only [n6, vmp,↓vmd,seval]
  refine onB_neg n7 ?_
  simp only [n7, vmp,↓vmd,seval]
  refine onB_neg n8 ?_
  simp only [n8, vmp,↓vmd,seval]
  refine onB_neg n9 ?_
  simp only [n9, vmp,↓vmd,seval]
  refine onB_neg n10 ?_
  simp only [n10, vmp,↓vmd,seval]
  refine onB_neg n11 ?_
  simp only [n11, vmp,↓vmd,seval]
  refine onB_pos h12 ?_
  simp only [h12, vmp,↓vmd,seval]
  refine onC_fr hc [0, 1, 3] (by simp) (by simp only [kpp,seval]) rfl rfl (by simp) ?_
  cases r with
  | none =>
   (first | apply envO | apply envQ); simp only [onceS, vmp,↓vmd,seval]; rfl
   simp only [onceS, vmp,↓vmd,seval]
   first | exact ⟨_, rfl⟩ | exact ⟨rfl, _, rfl⟩
  | some q =>
   (first | apply envO | apply envQ); simp only [onceS, vmp,↓vmd,seval]; rfl
   simp only [onceS, vmp,↓vmd,seval]
   first | exact ⟨_, rfl⟩ | exact ⟨rfl, _, rfl⟩
 ·have e : kindO (onceF F m) F.fo k l x left = (none, left) := by rw [kindO, if_neg h12, singleF, if_neg (by omega), if_neg (by omega), if_neg (by omega)]
  rw [e]
  have n6 : ¬ k.kind = 6 := by omega
  have n7 : ¬ k.kind = 7 := by omega
  have n8 : ¬ k.kind = 8 := by omega
  have n9 : ¬ k.kind = 9 := by omega
  have n10 : ¬ k.kind = 10 := by omega
  have n11 : ¬ k.kind = 11 := by omega
  have n12 : ¬ k.kind = 12 := by omega
  refine ⟨.tup [.empty, .pure (I 0), .pure (.bool false)], ⟨_, _, rfl, .inl rfl⟩, key ⟨rfl, rfl⟩ ?_⟩
  refine k33.a (by simp) ?_
  unfold c33
  simp only [vmp,↓vmd,seval]
  refine onB_neg n6 ?_
  simp only [n6, vmp,↓vmd,seval]
  refine onB_neg n7 ?_
  simp only [n7, vmp,↓vmd,seval]
  refine onB_neg n8 ?_
  simp only [n8, vmp,↓vmd,seval]
  refine onB_neg n9 ?_
  simp only [n9, vmp,↓vmd,seval]
  refine onB_neg n10 ?_
  simp only [n10, vmp,↓vmd,seval]
  refine onB_neg n11 ?_
  simp only [n11, vmp,↓vmd,seval]
  refine onB_neg n12 ?_
  simp only [n12, vmp,↓vmd,seval]
  first | exact ⟨_, rfl⟩ | exact ⟨rfl, _, rfl⟩
theorem kindO_none {O : Once} {f : Fo} {k : Lk} {l : List Gl} {x u : Int} (h : (kindO O f k l x u).1 = none) : (kindO O f k l x u).2 = u := by
 rw [kindO] at h ⊢
 split
 ·rename_i hk
  rw [if_pos hk] at h
  rw [ctxO] at h ⊢
  split
  ·rfl
  ·rename_i hm
   rw [hm] at h
   cases h
 ·rfl
theorem lkAt_map {l : List Lk} {n : Int} (h0 : 0 ≤ n) (h1 : n < l.length) : (l.map lk)[n.toNat]? = some (lk (lkAt l n)) ∧ lkAt l n ∈ l := by
 have e : l[n.toNat]? = some (l[n.toNat]'(by omega)) := List.getElem?_eq_getElem (by omega)
 rw [List.getElem?_map, lkAt, e]
 exact ⟨rfl, List.getElem_mem _⟩
theorem once_step (F : Ff) (hF : ∀ k ∈ F.lks, PosK k) (n : Nat) (ih : ∀ m, n = m + 1 → OnceC F m) : OnceC F n := by
 intro lookup l x left deep hl h0 h1 hd hd0
 have hno : lookup < 0 ∨ (F.lks.length : Int) ≤ lookup ∨ x < 0 ∨ (l.length : Int) ≤ x ∨ 8 < deep ∨ left < 1 → onceF F n lookup l x left = (none, left) := by
  intro hc
  cases n with
  | zero => rfl
  | succ n => rw [onceF, if_pos (by omega)]
 refine CallA.weak (K := fun s H' => s = onceS (onceF F n lookup l x left).1 ∧ ∃ R, H' = mR F (onceF F n lookup l x left).2 :: R) ?_ ?_
 ·refine k20.a (by simp) ?_
  unfold c20
  generalize ho : onceF F n lookup l x left = out at *
  simp only [vmp,↓vmd,seval]
  by_cases c1 : lookup < 0
  ·have := hno (by omega)
   subst this
   refine onB_pos c1 ?_
   simp only [c1, onceS, vmp,↓vmd,seval]
   first | exact ⟨_, rfl⟩ | exact ⟨rfl, _, rfl⟩
  refine onB_neg c1 ?_
  simp only [c1, vmp,↓vmd,seval]
  refine onIf_intro fun _ => ?_
  (first | apply envO | apply envQ); simp only [c1, vmp,↓vmd,seval]; rfl
  simp only [c1, vmp,↓vmd,seval]
  by_cases c2 : (F.lks.length : Int) ≤ lookup
  ·have := hno (by omega)
   subst this
   refine onB_pos c2 ?_
   (first | apply envO | apply envQ); simp only [c2, vmp,↓vmd,seval]; rfl
   simp only [c2, onceS, vmp,↓vmd,seval]
   first | exact ⟨_, rfl⟩ | exact ⟨rfl, _, rfl⟩
  refine onB_neg c2 ?_
  (first | apply envO | apply envQ); simp only [c2, vmp,↓vmd,seval]; rfl
  simp only [c2, vmp,↓vmd,seval]
  by_cases c3 : x < 0
  ·have := hno (by omega)
   subst this
   refine onB_pos c3 ?_
   (first | apply envO | apply envQ); simp only [c3, vmp,↓vmd,seval]; rfl
   simp only [c3, onceS, vmp,↓vmd,seval]
   first | exact ⟨_, rfl⟩ | exact ⟨rfl, _, rfl⟩
  refine onB_neg c3 ?_
  (first | apply envO | apply envQ); simp only [c3, vmp,↓vmd,seval]; rfl
  simp only [c3, vmp,↓vmd,seval]
  refine onIf_intro fun _ => ?_
  (first | apply envO | apply envQ); simp only [c3, vmp,↓vmd,seval]; rfl
  simp only [c3, vmp,↓vmd,seval]
  by_cases c4 : (l.length : Int) ≤ x
  ·have := hno (by omega)
   subst this
   refine onB_pos c4 ?_
   (first | apply envO | apply envQ); simp only [c4, vmp,↓vmd,seval]; rfl
   simp only [c4, onceS, vmp,↓vmd,seval]
   first | exact ⟨_, rfl⟩ | exact ⟨rfl, _, rfl⟩
  refine onB_neg c4 ?_
  (first | apply envO | apply envQ); simp only [c4, vmp,↓vmd,seval]; rfl
  simp only [c4, vmp,↓vmd,seval]
  by_cases c5 : 8 < deep
  ·have := hno (by omega)
   subst this
   refine onB_pos c5 ?_
   (first | apply envO | apply envQ); simp only [c5, vmp,↓vmd,seval]; rfl
   simp only [c5, onceS, vmp,↓vmd,seval]
   first | exact ⟨_, rfl⟩ | exact ⟨rfl, _, rfl⟩
  refine onB_neg c5 ?_
  (first | apply envO | apply envQ); simp only [c5, vmp,↓vmd,seval]; rfl
  simp only [c5, vmp,↓vmd,seval]
  by_cases c6 : left < 1
  ·have := hno (by omega)
   subst this
   refine onB_pos c6 ?_
   (first | apply envO | apply envQ); simp only [c6, vmp,↓vmd,seval]; rfl
   simp only [c6, onceS, vmp,↓vmd,seval]
   first | exact ⟨_, rfl⟩ | exact ⟨rfl, _, rfl⟩
  obtain ⟨m, rfl⟩ : ∃ m, n = m + 1 := ⟨n - 1, by omega⟩
  rw [onceF, if_neg (by omega)] at ho
  obtain ⟨hgk, hmk⟩ := lkAt_map (l := F.lks) (n := lookup) (by omega) (by omega)
  have hk := hF _ hmk
  generalize lkAt F.lks lookup = k at *
  have hgx := glAt_map (ls := l) (y := x) (by omega) (by omega)
  have k0 : 0 ≤ lookup := by omega
  have x0 : 0 ≤ x := by omega
  have hsk := skips_q F.fo k.kind k.flags k.set (glAt l x).id (.sl (k.subs.map sub))
  rw [ffV_fo] at hsk
  have hst := starts_c F k hk l (by omega) x left
  have hkd := kind_c F (ih m rfl) k hk l x (left - 1) deep hl (by omega) (by omega) (by omega) hd0
  have hkn := @kindO_none (onceF F m) F.fo k l x (left - 1)
  generalize skipsF F.fo k.flags k.set (glAt l x).id = b1 at *
  refine onB_neg c6 ?_
  (first | apply envO | apply envQ); simp only [c6, vmp,↓vmd,seval]; rfl
  simp only [c6, hgk, k0, vmp,↓vmd,seval]
  simp only [hgx, x0, vmp,↓vmd,seval]
  refine onQ_q hsk rfl ?_
  cases b1 with
  | true =>
   rw [if_pos rfl] at ho
   subst ho
   (first | apply envO | apply envQ); simp only [vmp,↓vmd,seval]; rfl
   simp only [onceS, vmp,↓vmd,seval]
   first | exact ⟨_, rfl⟩ | exact ⟨rfl, _, rfl⟩
  | false =>
   rw [if_neg (by simp)] at ho
   (first | apply envO | apply envQ); simp only [vmp,↓vmd,seval]; rfl
   simp only [vmp,↓vmd,seval]
   have hb2 : (!decide (k.kind = 12) || (matchF F.fo k l x).isSome) = false → (kindO (onceF F m) F.fo k l x (left - 1)).1 = none := by
    intro hb
    simp only [Bool.or_eq_false_iff, Bool.not_eq_false', decide_eq_true_eq] at hb
    cases hm : matchF F.fo k l x with
    | none => rw [kindO, if_pos hb.1, ctxO, hm]
    | some q => rw [hm] at hb; cases hb.2
   have hw1 : IntKind.wrap .i64 (left - 1) = left - 1 := wrap_id (by omega) (by omega)
   have hw2 : IntKind.wrap .i64 (left - 1 + 1) = left := by rw [wrap_id (by omega) (by omega)]; omega
   generalize (!decide (k.kind = 12) || (matchF F.fo k l x).isSome) = b2 at *
   obtain ⟨s0, hR, hc⟩ := hkd
   generalize kindO (onceF F m) F.fo k l x (left - 1) = z at *
   obtain ⟨r, u⟩ := z
   refine onC_fr hst [0] (by simp) (by simp only [kpp,seval]) rfl rfl (by simp) ?_
   cases b2 with
   | false =>
    have := hb2 rfl
    simp only at this
    subst this
    subst ho
    (first | apply envO | apply envQ); simp only [vmp,↓vmd,seval]; rfl
    simp only [onceS, vmp,↓vmd,seval]
    first | exact ⟨_, rfl⟩ | exact ⟨rfl, _, rfl⟩
   | true =>
    (first | apply envO | apply envQ); simp only [vmp,↓vmd,seval]; rfl
    simp only [hw1, vmp,↓vmd,seval]
    refine onC_fr hc [0] (by simp) (by simp only [kpp,seval]) rfl rfl (by simp) ?_
    cases r with
    | none =>
     have hu := hkn rfl
     simp only at hu
     subst hu
     subst ho
     obtain ⟨a, n0, rfl, ha⟩ := hR
     rcases ha with rfl | ⟨v, rfl⟩
     ·(first | apply envO | apply envQ); simp only [vmp,↓vmd,seval]; rfl
      simp only [hw2, onceS, vmp,↓vmd,seval]
      first | exact ⟨_, rfl⟩ | exact ⟨rfl, _, rfl⟩
     ·(first | apply envO | apply envQ); simp only [vmp,↓vmd,seval]; rfl
      simp only [hw2, onceS, vmp,↓vmd,seval]
      first | exact ⟨_, rfl⟩ | exact ⟨rfl, _, rfl⟩
    | some q =>
     have hR : s0 = onceS (some q) := hR
     subst hR
     subst ho
     (first | apply envO | apply envQ); simp only [onceS, vmp,↓vmd,seval]; rfl
     simp only [onceS, vmp,↓vmd,seval]
     first | exact ⟨_, rfl⟩ | exact ⟨rfl, _, rfl⟩
 ·rintro r H' ⟨rfl, R, rfl⟩
  exact ⟨[0], _, _, by simp, rfl, (by simp only [kpp,seval]; exact onceS_k), (by simp only [kpp,seval]), rfl, rfl⟩
theorem once_c (F : Ff) (hF : ∀ k ∈ F.lks, PosK k) : ∀ n, OnceC F n := by
 intro n
 induction n with
 | zero => exact once_step F hF 0 (fun _ h => by omega)
 | succ n ih => exact once_step F hF (n + 1) (fun m h => by
  obtain rfl : n = m := by omega
  exact ih)
end Go.Proofs.YtcjmkpkhjhjepaaGreat.W
