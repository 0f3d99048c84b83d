/-
  The document's machine of positions: lookups that nest none. No condition but on sizes.
-/
import Derived.Test.YtcjmkpkhjhjepaaGreatPos1
import Derived.Test.YtcjmkpkhjhjepaaGreatRAdj
import Derived.Test.YtcjmkpkhjhjepaaGreatRMk1
import Derived.Test.YtcjmkpkhjhjepaaGreatCur3
namespace Go.Proofs.YtcjmkpkhjhjepaaGreat.W
open Go Go.Vm Go.Proofs
set_option maxRecDepth 100000
set_option linter.unusedSimpArgs false
set_option maxHeartbeats 4000000
/-! typecase/typecaseref35.single -/
def c37 : AC :=
 (.seq (.reg [oo 4 (.box (.s 0)),
 oo 5 (.box (.s 1)),
 oo 8 (.box (.c (.agg [.empty, (pI 0), (.pure (.bool false)), (pI 0)])))])
 (.seq (.seq (.reg [oo 17 (.fldA 0 (.s 5)),
 oo 18 (.load false 1 (.s 17))])
 (.block 0
 (.seq (.seq (.reg [oo 20 (.bin .eql (.s 18) (nI 6)),
 oo 19 (.mov (.s 20))])
 (.cond (.s 19)
 .skip
 (.reg [oo 21 (.bin .eql (.s 18) (nI 7)),
 oo 19 (.mov (.s 21))])))
 (.cond (.s 19)
 (.seq (.reg [oo 23 (.load true 6 (.s 4)),
 oo 24 (.load true 4 (.s 5)),
 oo 25 (.mov (.s 2)),
 oo 26 (.mov (.s 3)),
 oo 27 (.call 59 [(.s 23), (.s 24), (.s 25), (.s 26)]),
 oo 22 (.mov (.s 27)),
 oo 28 (.ext 0 (.s 22)),
 oo 29 (.ext 1 (.s 22)),
 oo 30 (.ext 2 (.s 22)),
 oo 9 (.mov (.s 28)),
 oo 10 (.mov (.s 29)),
 oo 11 (.mov (.s 30))])
 (.seq (.reg [oo 31 (.mov (.s 9)),
 oo 32 (.mov (.s 10)),
 oo 33 (.mov (.s 11)),
 oo 34 (.build [.empty, (pI 0), (.pure (.bool false)), (pI 0)] [(0, 1, (.s 31)), (1, 1, (.s 32)), (2, 1, (.s 33))]),
⟨none, none, .store 4 (.s 8) (.s 34)⟩])
 .ret))
 (.seq (.reg [oo 36 (.bin .eql (.s 18) (nI 8)),
 oo 35 (.mov (.s 36))])
 (.cond (.s 35)
 (.seq (.reg [oo 38 (.load true 6 (.s 4)),
 oo 39 (.load true 4 (.s 5)),
 oo 40 (.mov (.s 2)),
 oo 41 (.mov (.s 3)),
 oo 42 (.call 60 [(.s 38), (.s 39), (.s 40), (.s 41)]),
 oo 37 (.mov (.s 42)),
 oo 43 (.ext 0 (.s 37)),
 oo 44 (.ext 1 (.s 37)),
 oo 45 (.ext 2 (.s 37)),
 oo 12 (.mov (.s 43)),
 oo 13 (.mov (.s 44)),
 oo 14 (.mov (.s 45))])
 (.seq (.reg [oo 46 (.mov (.s 12)),
 oo 47 (.mov (.s 13)),
 oo 48 (.mov (.s 14)),
 oo 49 (.build [.empty, (pI 0), (.pure (.bool false)), (pI 0)] [(0, 1, (.s 46)), (1, 1, (.s 47)), (2, 1, (.s 48))]),
⟨none, none, .store 4 (.s 8) (.s 49)⟩])
 .ret))
 (.seq (.seq (.reg [oo 51 (.bin .eql (.s 18) (nI 9)),
 oo 50 (.mov (.s 51))])
 (.cond (.s 50)
 .skip
 (.seq (.reg [oo 52 (.bin .eql (.s 18) (nI 10)),
 oo 50 (.mov (.s 52))])
 (.cond (.s 50)
 .skip
 (.reg [oo 53 (.bin .eql (.s 18) (nI 11)),
 oo 50 (.mov (.s 53))])))))
 (.cond (.s 50)
 (.seq (.reg [oo 55 (.load true 6 (.s 4)),
 oo 56 (.load true 4 (.s 5)),
 oo 57 (.mov (.s 2)),
 oo 58 (.mov (.s 3)),
 oo 59 (.call 61 [(.s 55), (.s 56), (.s 57), (.s 58)]),
 oo 54 (.mov (.s 59)),
 oo 60 (.ext 0 (.s 54)),
 oo 61 (.ext 1 (.s 54)),
 oo 15 (.mov (.s 60)),
 oo 16 (.mov (.s 61))])
 (.seq (.reg [oo 62 (.mov (.s 15)),
 oo 63 (.mov (.s 3)),
 oo 64 (.bin .add (.s 63) (nI 1)),
 oo 65 (.mov (.s 16)),
 oo 66 (.build [.empty, (pI 0), (.pure (.bool false)), (pI 0)] [(0, 1, (.s 62)), (1, 1, (.s 64)), (2, 1, (.s 65))]),
⟨none, none, .store 4 (.s 8) (.s 66)⟩])
 .ret))
 .skip))))))))
 (.seq (.reg [oo 67 (.build [.empty, (pI 0), (.pure (.bool false)), (pI 0)] []),
⟨none, none, .store 4 (.s 8) (.s 67)⟩])
 .ret)))
theorem k37 : OkF 37 Tryz.f37 c37 [.c 8 true 4] 68 := ⟨Tryz.func37, by kernel_rfl, by kernel_rfl, by kernel_rfl, Tryz.ntmps37⟩
def doneV : Option (List Gl × Int) → Int → V
 | some q, left => .agg [.sl (q.1.map gl), I q.2, .bool true, I left]
 | none, left => .agg [.sl [], I 0, .bool false, I left]
def SingR (r : Option (List Gl × Int)) (v : V) : Prop := match r with
 | some q => v = doneV (some q) 0
 | none => ∃ (X : List Gl) (n : Int), v = .agg [.sl (X.map gl), I n, .bool false, I 0]
theorem rsingle_q (F : Ff) (k : Lk) (hk : PosK k) (l : List Gl) (x : Int) (hl : l.length ≤ 100) : ∃ v, SingR (singleF F.fo k l x) v ∧ FnQ Tryz.prog 37 [ffV F, lk k, .sl (l.map gl), I x] [v] := by
 by_cases h6 : k.kind = 6
 ·have e : singleF F.fo k l x = applyF F.fo k l x := by rw [singleF, if_pos (by omega)]
  rw [e]
  have hq := rapply_q F.fo k (hk.cov (by omega)) l (by omega) x
  rw [ffV_fo] at hq
  generalize applyF F.fo k l x = o at *
  cases o with
  | none =>
   have hq' : FnQ Tryz.prog 59 [ffV F, lk k, .sl (l.map gl), I x] [.sl [], I 0, .bool false] := hq
   refine ⟨.agg [.sl [], I 0, .bool false, I 0], ⟨[], 0, rfl⟩, k37.q (by simp) ?_⟩
   unfold c37
   simp only [vmp,↓vmd,seval]
   refine onB_pos h6 ?_
   simp only [h6, vmp,↓vmd,seval]
   refine onC_q hq' rfl ?_
   (first | apply envO | apply envQ); simp only [vmp,↓vmd,seval]; rfl
   simp only [vmp,↓vmd,seval]
   exact gives_pure
  | some q =>
   have hq' : FnQ Tryz.prog 59 [ffV F, lk k, .sl (l.map gl), I x] [.sl (q.1.map gl), I q.2, .bool true] := hq
   refine ⟨_, rfl, k37.q (by simp) ?_⟩
   unfold c37
   simp only [vmp,↓vmd,seval]
   refine onB_pos h6 ?_
   simp only [h6, vmp,↓vmd,seval]
   refine onC_q hq' rfl ?_
   (first | apply envO | apply envQ); simp only [vmp,↓vmd,seval]; rfl
   simp only [vmp,↓vmd,seval]
   exact gives_pure
 by_cases h7 : k.kind = 7
 ·have e : singleF F.fo k l x = applyF F.fo k l x := by rw [singleF, if_pos (by omega)]
  rw [e]
  have hq := rapply_q F.fo k (hk.cov (by omega)) l (by omega) x
  rw [ffV_fo] at hq
  have n6 : ¬ k.kind = 6 := by omega
  generalize applyF F.fo k l x = o at *
  cases o with
  | none =>
   have hq' : FnQ Tryz.prog 59 [ffV F, lk k, .sl (l.map gl), I x] [.sl [], I 0, .bool false] := hq
   refine ⟨.agg [.sl [], I 0, .bool false, I 0], ⟨[], 0, rfl⟩, k37.q (by simp) ?_⟩
   unfold c37
   simp only [vmp,↓vmd,seval]
   refine onB_neg n6 ?_
   simp only [n6, vmp,↓vmd,seval]
   refine onB_pos h7 ?_
   simp only [h7, vmp,↓vmd,seval]
   refine onC_q hq' rfl ?_
   (first | apply envO | apply envQ); simp only [vmp,↓vmd,seval]; rfl
   simp only [vmp,↓vmd,seval]
   exact gives_pure
  | some q =>
   have hq' : FnQ Tryz.prog 59 [ffV F, lk k, .sl (l.map gl), I x] [.sl (q.1.map gl), I q.2, .bool true] := hq
   refine ⟨_, rfl, k37.q (by simp) ?_⟩
   unfold c37
   simp only [vmp,↓vmd,seval]
   refine onB_neg n6 ?_
   simp only [n6, vmp,↓vmd,seval]
   refine onB_pos h7 ?_
   simp only [h7, vmp,↓vmd,seval]
   refine onC_q hq' rfl ?_
   (first | apply envO | apply envQ); simp only [vmp,↓vmd,seval]; rfl
   simp only [vmp,↓vmd,seval]
   exact gives_pure
 by_cases h8 : k.kind = 8
 ·have e : singleF F.fo k l x = (curD F.fo k l x).map fun z => (z.2, z.1) := by rw [singleF, if_neg (by omega), if_pos h8]
  rw [e]
  have hq := rcapply_q F.fo k l (by omega) x
  rw [ffV_fo, curA] at hq
  have n6 : ¬ k.kind = 6 := by omega
  have n7 : ¬ k.kind = 7 := by omega
  generalize curD F.fo k l x = o at *
  cases o with
  | none =>
   refine ⟨.agg [.sl (l.map gl), I x, .bool false, I 0], ⟨l, x, rfl⟩, k37.q (by simp) ?_⟩
   unfold c37
   simp only [vmp,↓vmd,seval]
   refine onB_neg n6 ?_
   simp only [n6, vmp,↓vmd,seval]
   refine onB_neg n7 ?_
   simp only [n7, vmp,↓vmd,seval]
   refine onB_pos h8 ?_
   simp only [h8, vmp,↓vmd,seval]
   refine onC_q hq rfl ?_
   (first | apply envO | apply envQ); simp only [vmp,↓vmd,seval]; rfl
   simp only [vmp,↓vmd,seval]
   exact gives_pure
  | some q =>
   refine ⟨_, rfl, k37.q (by simp) ?_⟩
   unfold c37
   simp only [vmp,↓vmd,seval]
   refine onB_neg n6 ?_
   simp only [n6, vmp,↓vmd,seval]
   refine onB_neg n7 ?_
   simp only [n7, vmp,↓vmd,seval]
   refine onB_pos h8 ?_
   simp only [h8, vmp,↓vmd,seval]
   refine onC_q hq rfl ?_
   (first | apply envO | apply envQ); simp only [vmp,↓vmd,seval]; rfl
   simp only [vmp,↓vmd,seval]
   exact gives_pure
 by_cases h9 : k.kind = 9
 ·have e : singleF F.fo k l x = (markF F.fo k l x).map fun a => (a, IntKind.wrap .i64 (x + 1)) := by rw [singleF, if_neg (by omega), if_neg (by omega), if_pos (by omega)]
  rw [e]
  have hq := rapply34_q F.fo k l (by omega) (hk.hang (by omega)) x
  rw [ffV_fo] at hq
  have n6 : ¬ k.kind = 6 := by omega
  have n7 : ¬ k.kind = 7 := by omega
  have n8 : ¬ k.kind = 8 := by omega
  generalize markF F.fo k l x = o at *
  cases o with
  | none =>
   have hq' : FnQ Tryz.prog 61 [ffV F, lk k, .sl (l.map gl), I x] [.sl [], .bool false] := hq
   refine ⟨.agg [.sl [], I (IntKind.wrap .i64 (x + 1)), .bool false, I 0], ⟨[], _, rfl⟩, k37.q (by simp) ?_⟩
   unfold c37
   simp only [vmp,↓vmd,seval]
   refine onB_neg n6 ?_
   simp only [n6, vmp,↓vmd,seval]
   refine onB_neg n7 ?_
   simp only [n7, vmp,↓vmd,seval]
   refine onB_neg n8 ?_
   simp only [n8, vmp,↓vmd,seval]
   refine onB_pos h9 ?_
   simp only [h9, vmp,↓vmd,seval]
   refine onC_q hq' rfl ?_
   (first | apply envO | apply envQ); simp only [vmp,↓vmd,seval]; rfl
   simp only [vmp,↓vmd,seval]
   exact gives_pure
  | some q =>
   have hq' : FnQ Tryz.prog 61 [ffV F, lk k, .sl (l.map gl), I x] [.sl (q.map gl), .bool true] := hq
   refine ⟨_, rfl, k37.q (by simp) ?_⟩
   unfold c37
   simp only [vmp,↓vmd,seval]
   refine onB_neg n6 ?_
   simp only [n6, vmp,↓vmd,seval]
   refine onB_neg n7 ?_
   simp only [n7, vmp,↓vmd,seval]
   refine onB_neg n8 ?_
   simp only [n8, vmp,↓vmd,seval]
   refine onB_pos h9 ?_
   simp only [h9, vmp,↓vmd,seval]
   refine onC_q hq' rfl ?_
   (first | apply envO | apply envQ); simp only [vmp,↓vmd,seval]; rfl
   simp only [vmp,↓vmd,seval]
   exact gives_pure
 by_cases h10 : k.kind = 10
 ·have e : singleF F.fo k l x = (markF F.fo k l x).map fun a => (a, IntKind.wrap .i64 (x + 1)) := by rw [singleF, if_neg (by omega), if_neg (by omega), if_pos (by omega)]
  rw [e]
  have hq := rapply34_q F.fo k l (by omega) (hk.hang (by omega)) x
  rw [ffV_fo] at hq
  have n6 : ¬ k.kind = 6 := by omega
  have n7 : ¬ k.kind = 7 := by omega
  have n8 : ¬ k.kind = 8 := by omega
  have n9 : ¬ k.kind = 9 := by omega
  generalize markF F.fo k l x = o at *
  cases o with
  | none =>
   have hq' : FnQ Tryz.prog 61 [ffV F, lk k, .sl (l.map gl), I x] [.sl [], .bool false] := hq
   refine ⟨.agg [.sl [], I (IntKind.wrap .i64 (x + 1)), .bool false, I 0], ⟨[], _, rfl⟩, k37.q (by simp) ?_⟩
   unfold c37
   simp only [vmp,↓vmd,seval]
   refine onB_neg n6 ?_
   simp only [n6, vmp,↓vmd,seval]
   refine onB_neg n7 ?_
   simp only [n7, vmp,↓vmd,seval]
   refine onB_neg n8 ?_
   simp only [n8, vmp,↓vmd,seval]
   refine onB_neg n9 ?_
   simp only [n9, vmp,↓vmd,seval]
   refine onB_pos h10 ?_
   simp only [h10, vmp,↓vmd,seval]
   refine onC_q hq' rfl ?_
   (first | apply envO | apply envQ); simp only [vmp,↓vmd,seval]; rfl
   simp only [vmp,↓vmd,seval]
   exact gives_pure
  | some q =>
   have hq' : FnQ Tryz.prog 61 [ffV F, lk k, .sl (l.map gl), I x] [.sl (q.map gl), .bool true] := hq
   refine ⟨_, rfl, k37.q (by simp) ?_⟩
   unfold c37
   simp only [vmp,↓vmd,seval]
   refine onB_neg n6 ?_
   simp only [n6, vmp,↓vmd,seval]
   refine onB_neg n7 ?_
   simp only [n7, vmp,↓vmd,seval]
   refine onB_neg n8 ?_
   simp only [n8, vmp,↓vmd,seval]
   refine onB_neg n9 ?_
   simp only [n9, vmp,↓vmd,seval]
   refine onB_pos h10 ?_
   simp only [h10, vmp,↓vmd,seval]
   refine onC_q hq' rfl ?_
   (first | apply envO | apply envQ); simp only [vmp,↓vmd,seval]; rfl
   simp only [vmp,↓vmd,seval]
   exact gives_pure
 by_cases h11 : k.kind = 11
 ·have e : singleF F.fo k l x = (markF F.fo k l x).map fun a => (a, IntKind.wrap .i64 (x + 1)) := by rw [singleF, if_neg (by omega), if_neg (by omega), if_pos (by omega)]
  rw [e]
  have hq := rapply34_q F.fo k l (by omega) (hk.hang (by omega)) x
  rw [ffV_fo] at hq
  have n6 : ¬ k.kind = 6 := by omega
  have n7 : ¬ k.kind = 7 := by omega
  have n8 : ¬ k.kind = 8 := by omega
  have n9 : ¬ k.kind = 9 := by omega
  have n10 : ¬ k.kind = 10 := by omega
  generalize markF F.fo k l x = o at *
  cases o with
  | none =>
   have hq' : FnQ Tryz.prog 61 [ffV F, lk k, .sl (l.map gl), I x] [.sl [], .bool false] := hq
   refine ⟨.agg [.sl [], I (IntKind.wrap .i64 (x + 1)), .bool false, I 0], ⟨[], _, rfl⟩, k37.q (by simp) ?_⟩
   unfold c37
   simp only [vmp,↓vmd,seval]
   refine onB_neg n6 ?_
   simp only [n6, vmp,↓vmd,seval]
   refine onB_neg n7 ?_
   simp only [n7, vmp,↓vmd,seval]
   refine onB_neg n8 ?_
   simp only [n8, vmp,↓vmd,seval]
   refine onB_neg n9 ?_
   simp only [n9, vmp,↓vmd,seval]
   refine onB_neg n10 ?_
   simp only [n10, vmp,↓vmd,seval]
   refine onB_pos h11 ?_
   simp only [h11, vmp,↓vmd,seval]
   refine onC_q hq' rfl ?_
   (first | apply envO | apply envQ); simp only [vmp,↓vmd,seval]; rfl
   simp only [vmp,↓vmd,seval]
   exact gives_pure
  | some q =>
   have hq' : FnQ Tryz.prog 61 [ffV F, lk k, .sl (l.map gl), I x] [.sl (q.map gl), .bool true] := hq
   refine ⟨_, rfl, k37.q (by simp) ?_⟩
   unfold c37
   simp only [vmp,↓vmd,seval]
   refine onB_neg n6 ?_
   simp only [n6, vmp,↓vmd,seval]
   refine onB_neg n7 ?_
   simp only [n7, vmp,↓vmd,seval]
   refine onB_neg n8 ?_
   simp only [n8, vmp,↓vmd,seval]
   refine onB_neg n9 ?_
   simp only [n9, vmp,↓vmd,seval]
   refine onB_neg n10 ?_
   simp only [n10, vmp,↓vmd,seval]
   refine onB_pos h11 ?_
   simp only [h11, vmp,↓vmd,seval]
   refine onC_q hq' rfl ?_
   (first | apply envO | apply envQ); simp only [vmp,↓vmd,seval]; rfl
   simp only [vmp,↓vmd,seval]
   exact gives_pure
 ·have e : singleF F.fo k l x = none := by rw [singleF, if_neg (by omega), if_neg (by omega), if_neg (by omega)]
  rw [e]
  have n6 : ¬ k.kind = 6 := by omega
  have n7 : ¬ k.kind = 7 := by omega
  have n8 : ¬ k.kind = 8 := by omega
  have n9 : ¬ k.kind = 9 := by omega
  have n10 : ¬ k.kind = 10 := by omega
  have n11 : ¬ k.kind = 11 := by omega
  refine ⟨.agg [.sl [], I 0, .bool false, I 0], ⟨[], 0, rfl⟩, k37.q (by simp) ?_⟩
  unfold c37
  simp only [vmp,↓vmd,seval]
  refine onB_neg n6 ?_
  simp only [n6, vmp,↓vmd,seval]
  refine onB_neg n7 ?_
  simp only [n7, vmp,↓vmd,seval]
  refine onB_neg n8 ?_
  simp only [n8, vmp,↓vmd,seval]
  refine onB_neg n9 ?_
  simp only [n9, vmp,↓vmd,seval]
  refine onB_neg n10 ?_
  simp only [n10, vmp,↓vmd,seval]
  refine onB_neg n11 ?_
  simp only [n11, vmp,↓vmd,seval]
  exact gives_one rfl
end Go.Proofs.YtcjmkpkhjhjepaaGreat.W
