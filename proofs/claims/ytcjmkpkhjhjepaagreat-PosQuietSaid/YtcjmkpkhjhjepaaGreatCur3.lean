/-
  Glyphs that hang on one another, at one place: two functions, one answer. No condition but on sizes.
-/
import Derived.Test.YtcjmkpkhjhjepaaGreatCur2
import Derived.Test.YtcjmkpkhjhjepaaGreatCopyG
namespace Go.Proofs.YtcjmkpkhjhjepaaGreat.W
open Go Go.Vm Go.Proofs
set_option maxRecDepth 100000
set_option linter.unusedSimpArgs false
set_option maxHeartbeats 4000000
/-! typecase/typecaseref33.Next -/
def c95 : AC :=
 (.seq (.reg [oo 4 (.box (.s 0)),
 oo 5 (.box (.s 1)),
 oo 8 (.mov (nI 0))])
 (.seq (.seq (.reg [oo 14 (.mov (.s 3)),
 oo 15 (.bin .lss (.s 14) (nI 0)),
 oo 16 (.mov (.s 15)),
 og 17 16 false (.mov (.s 3)),
 og 18 16 false (.mov (.s 2)),
 og 19 16 false (.len (.s 18)),
 og 20 16 false (.bin .geq (.s 17) (.s 19)),
 oo 21 (.pick (.s 16) (nB true) (.s 20))])
 (.cond (.s 21)
 (.seq (.reg [oo 8 (.mov (nI (-1)))])
 .ret)
 .skip))
 (.seq (.regq [oo 23 (.load true 4 (.s 5)),
 oo 24 (.mov (.s 2)),
 oo 25 (.mov (.s 3)),
 oo 26 (.idxA 10 (.s 24) (.s 25)),
 oo 27 (.fldA 0 (.s 26)),
 oo 28 (.load false 1 (.s 27)),
 oo 29 (.call 96 [(.s 23), (.s 28)]),
 oo 22 (.mov (.s 29)),
 oo 30 (.ext 0 (.s 22)),
 oo 31 (.ext 1 (.s 22)),
 oo 9 (.box (.c (.pure (.agg [(.int .i64 0), (.bool false), (.bool false), (.int .i64 0), (.int .i64 0), (.int .i64 0), (.int .i64 0)]))))]
[⟨none, none, .store 7 (.s 9) (.s 30)⟩,
 oo 10 (.mov (.s 31))])
 (.seq (.reg [oo 32 (.load true 6 (.s 4)),
 oo 33 (.load true 4 (.s 5)),
 oo 34 (.mov (.s 2)),
 oo 35 (.mov (.s 3)),
 oo 36 (.call 92 [(.s 32), (.s 33), (.s 34), (.s 35)]),
 oo 11 (.mov (.s 36))])
 (.seq (.seq (.reg [oo 37 (.mov (.s 10)),
 oo 38 (.un .not (.s 37)),
 oo 39 (.mov (.s 38)),
 og 40 39 false (.fldA 2 (.s 9)),
 og 41 39 false (.load false 1 (.s 40)),
 og 42 39 false (.un .not (.s 41)),
 oo 43 (.pick (.s 39) (nB true) (.s 42)),
 oo 44 (.mov (.s 43)),
 og 45 44 false (.mov (.s 11)),
 og 46 44 false (.bin .eql (.s 45) (nI (-1))),
 oo 47 (.pick (.s 44) (nB true) (.s 46))])
 (.cond (.s 47)
 (.seq (.reg [oo 8 (.mov (nI (-1)))])
 .ret)
 .skip))
 (.seq (.regq [oo 49 (.load true 4 (.s 5)),
 oo 50 (.mov (.s 2)),
 oo 51 (.mov (.s 11)),
 oo 52 (.idxA 10 (.s 50) (.s 51)),
 oo 53 (.fldA 0 (.s 52)),
 oo 54 (.load false 1 (.s 53)),
 oo 55 (.call 96 [(.s 49), (.s 54)]),
 oo 48 (.mov (.s 55)),
 oo 56 (.ext 0 (.s 48)),
 oo 57 (.ext 1 (.s 48)),
 oo 12 (.box (.c (.pure (.agg [(.int .i64 0), (.bool false), (.bool false), (.int .i64 0), (.int .i64 0), (.int .i64 0), (.int .i64 0)]))))]
[⟨none, none, .store 7 (.s 12) (.s 56)⟩,
 oo 13 (.mov (.s 57))])
 (.seq (.seq (.reg [oo 58 (.mov (.s 13)),
 oo 59 (.un .not (.s 58)),
 oo 60 (.mov (.s 59)),
 og 61 60 false (.fldA 1 (.s 12)),
 og 62 60 false (.load false 1 (.s 61)),
 og 63 60 false (.un .not (.s 62)),
 oo 64 (.pick (.s 60) (nB true) (.s 63))])
 (.cond (.s 64)
 (.seq (.reg [oo 8 (.mov (nI (-1)))])
 .ret)
 .skip))
 (.seq (.reg [oo 65 (.mov (.s 11)),
 oo 8 (.mov (.s 65))])
 .ret))))))))
theorem k95 : OkF 95 Tryz.f95 c95 [.t 8] 66 := ⟨Tryz.func95, by kernel_rfl, by kernel_rfl, by kernel_rfl, Tryz.ntmps95⟩
/-! typecase/cursive.Apply -/
def c50 : AC :=
 (.seq (.reg [oo 4 (.box (.s 0)),
 oo 5 (.box (.s 1)),
 oo 8 (.mov (.c .empty)),
 oo 9 (.mov (nI 0)),
 oo 10 (.mov (nB false))])
 (.seq (.reg [oo 17 (.mov (.s 2)),
 oo 18 (.call 24 [(.s 17)]),
 oo 11 (.mov (.s 18))])
 (.seq (.reg [oo 20 (.load true 6 (.s 4)),
 oo 21 (.load true 4 (.s 5)),
 oo 22 (.mov (.s 2)),
 oo 23 (.mov (.s 3)),
 oo 24 (.call 81 [(.s 20), (.s 21), (.s 22), (.s 23)]),
 oo 19 (.mov (.s 24)),
 oo 25 (.ext 0 (.s 19)),
 oo 26 (.ext 1 (.s 19)),
 oo 27 (.ext 2 (.s 19)),
 oo 28 (.ext 3 (.s 19)),
 oo 13 (.box (.c (.pure (.agg [(.int .i64 0), (.int .i64 0)])))),
 oo 14 (.box (.c (.pure (.agg [(.int .i64 0), (.int .i64 0)])))),
 oo 12 (.mov (.s 25)),
⟨none, none, .store 2 (.s 13) (.s 26)⟩,
⟨none, none, .store 2 (.s 14) (.s 27)⟩,
 oo 15 (.mov (.s 28))])
 (.seq (.seq (.reg [oo 29 (.mov (.s 15)),
 oo 30 (.un .not (.s 29))])
 (.cond (.s 30)
 (.seq (.reg [oo 31 (.mov (.s 11)),
 oo 32 (.mov (.s 3)),
 oo 8 (.mov (.s 31)),
 oo 9 (.mov (.s 32)),
 oo 10 (.mov (nB false))])
 .ret)
 .skip))
 (.seq (.regq [oo 33 (.mov (.s 11)),
 oo 34 (.mov (.s 3)),
 oo 35 (.fldA 0 (.s 13)),
 oo 36 (.load false 1 (.s 35)),
 oo 37 (.mov (.s 11)),
 oo 38 (.mov (.s 3)),
 oo 39 (.idxA 10 (.s 37) (.s 38)),
 oo 40 (.fldA 3 (.s 39)),
 oo 41 (.load false 1 (.s 40)),
 oo 42 (.bin .add (.s 36) (.s 41))]
[oo 43 (.idxA 10 (.s 33) (.s 34)),
 oo 44 (.fldA 2 (.s 43)),
⟨none, none, .store 1 (.s 44) (.s 42)⟩])
 (.seq (.reg [oo 45 (.mov (.s 11)),
 oo 46 (.mov (.s 12)),
 oo 47 (.idxA 10 (.s 45) (.s 46)),
 oo 16 (.mov (.s 47))])
 (.seq (.regq [oo 48 (.mov (.s 16)),
 oo 49 (.nilck (.s 48)),
 oo 50 (.fldA 2 (.s 49)),
 oo 51 (.load false 1 (.s 50)),
 oo 52 (.fldA 0 (.s 14)),
 oo 53 (.load false 1 (.s 52))]
[oo 54 (.bin .sub (.s 51) (.s 53)),
 oo 55 (.nilck (.s 48)),
 oo 56 (.fldA 2 (.s 55)),
⟨none, none, .store 1 (.s 56) (.s 54)⟩])
 (.seq (.regq [oo 57 (.mov (.s 16)),
 oo 58 (.nilck (.s 57)),
 oo 59 (.fldA 3 (.s 58)),
 oo 60 (.load false 1 (.s 59)),
 oo 61 (.fldA 0 (.s 14)),
 oo 62 (.load false 1 (.s 61))]
[oo 63 (.bin .sub (.s 60) (.s 62)),
 oo 64 (.nilck (.s 57)),
 oo 65 (.fldA 3 (.s 64)),
⟨none, none, .store 1 (.s 65) (.s 63)⟩])
 (.seq (.reg [oo 66 (.mov (.s 16)),
 oo 67 (.fldA 1 (.s 13)),
 oo 68 (.load false 1 (.s 67)),
 oo 69 (.fldA 1 (.s 14)),
 oo 70 (.load false 1 (.s 69)),
 oo 71 (.bin .sub (.s 68) (.s 70)),
 oo 72 (.nilck (.s 66)),
 oo 73 (.fldA 4 (.s 72)),
⟨none, none, .store 1 (.s 73) (.s 71)⟩])
 (.seq (.reg [oo 74 (.mov (.s 16)),
 oo 75 (.mov (.s 3)),
 oo 76 (.nilck (.s 74)),
 oo 77 (.fldA 6 (.s 76)),
⟨none, none, .store 1 (.s 77) (.s 75)⟩])
 (.seq (.reg [oo 78 (.mov (.s 11)),
 oo 79 (.mov (.s 12)),
 oo 8 (.mov (.s 78)),
 oo 9 (.mov (.s 79)),
 oo 10 (.mov (nB true))])
 .ret)))))))))))
theorem k50 : OkF 50 Tryz.f50 c50 [.t 8, .t 9, .t 10] 80 := ⟨Tryz.func50, by kernel_rfl, by kernel_rfl, by kernel_rfl, Tryz.ntmps50⟩
/-! typecase/typecaseref33.Apply -/
def c60 : AC :=
 (.seq (.reg [oo 4 (.box (.s 0)),
 oo 5 (.box (.s 1)),
 oo 8 (.mov (.c .empty)),
 oo 9 (.mov (nI 0)),
 oo 10 (.mov (nB false))])
 (.seq (.reg [oo 17 (.mov (.s 2)),
 oo 18 (.call 94 [(.s 17)]),
 oo 11 (.mov (.s 18))])
 (.seq (.reg [oo 19 (.load true 6 (.s 4)),
 oo 20 (.load true 4 (.s 5)),
 oo 21 (.mov (.s 2)),
 oo 22 (.mov (.s 3)),
 oo 23 (.call 95 [(.s 19), (.s 20), (.s 21), (.s 22)]),
 oo 12 (.mov (.s 23))])
 (.seq (.seq (.reg [oo 24 (.mov (.s 12)),
 oo 25 (.bin .eql (.s 24) (nI (-1)))])
 (.cond (.s 25)
 (.seq (.reg [oo 26 (.mov (.s 11)),
 oo 27 (.mov (.s 3)),
 oo 8 (.mov (.s 26)),
 oo 9 (.mov (.s 27)),
 oo 10 (.mov (nB false))])
 .ret)
 .skip))
 (.seq (.regq [oo 29 (.load true 4 (.s 5)),
 oo 30 (.mov (.s 2)),
 oo 31 (.mov (.s 3)),
 oo 32 (.idxA 10 (.s 30) (.s 31)),
 oo 33 (.fldA 0 (.s 32)),
 oo 34 (.load false 1 (.s 33)),
 oo 35 (.call 96 [(.s 29), (.s 34)]),
 oo 28 (.mov (.s 35)),
 oo 36 (.ext 0 (.s 28)),
 oo 37 (.ext 1 (.s 28)),
 oo 13 (.box (.c (.pure (.agg [(.int .i64 0), (.bool false), (.bool false), (.int .i64 0), (.int .i64 0), (.int .i64 0), (.int .i64 0)]))))]
[⟨none, none, .store 7 (.s 13) (.s 36)⟩,
 oo 14 (.mov (.s 37))])
 (.seq (.regq [oo 39 (.load true 4 (.s 5)),
 oo 40 (.mov (.s 2)),
 oo 41 (.mov (.s 12)),
 oo 42 (.idxA 10 (.s 40) (.s 41)),
 oo 43 (.fldA 0 (.s 42)),
 oo 44 (.load false 1 (.s 43)),
 oo 45 (.call 96 [(.s 39), (.s 44)]),
 oo 38 (.mov (.s 45)),
 oo 46 (.ext 0 (.s 38)),
 oo 47 (.ext 1 (.s 38)),
 oo 15 (.box (.c (.pure (.agg [(.int .i64 0), (.bool false), (.bool false), (.int .i64 0), (.int .i64 0), (.int .i64 0), (.int .i64 0)]))))]
[⟨none, none, .store 7 (.s 15) (.s 46)⟩,
 oo 16 (.mov (.s 47))])
 (.seq (.regq [oo 48 (.mov (.s 11)),
 oo 49 (.mov (.s 3)),
 oo 50 (.fldA 5 (.s 13)),
 oo 51 (.fldA 0 (.s 50)),
 oo 52 (.load false 1 (.s 51)),
 oo 53 (.mov (.s 11)),
 oo 54 (.mov (.s 3)),
 oo 55 (.idxA 10 (.s 53) (.s 54)),
 oo 56 (.fldA 3 (.s 55)),
 oo 57 (.load false 1 (.s 56)),
 oo 58 (.bin .add (.s 52) (.s 57))]
[oo 59 (.idxA 10 (.s 48) (.s 49)),
 oo 60 (.fldA 2 (.s 59)),
⟨none, none, .store 1 (.s 60) (.s 58)⟩])
 (.seq (.regq [oo 61 (.mov (.s 11)),
 oo 62 (.mov (.s 12)),
 oo 63 (.mov (.s 11)),
 oo 64 (.mov (.s 12)),
 oo 65 (.idxA 10 (.s 63) (.s 64)),
 oo 66 (.fldA 2 (.s 65)),
 oo 67 (.load false 1 (.s 66)),
 oo 68 (.fldA 3 (.s 15)),
 oo 69 (.fldA 0 (.s 68)),
 oo 70 (.load false 1 (.s 69)),
 oo 71 (.bin .sub (.s 67) (.s 70))]
[oo 72 (.idxA 10 (.s 61) (.s 62)),
 oo 73 (.fldA 2 (.s 72)),
⟨none, none, .store 1 (.s 73) (.s 71)⟩])
 (.seq (.regq [oo 74 (.mov (.s 11)),
 oo 75 (.mov (.s 12)),
 oo 76 (.mov (.s 11)),
 oo 77 (.mov (.s 12)),
 oo 78 (.idxA 10 (.s 76) (.s 77)),
 oo 79 (.fldA 3 (.s 78)),
 oo 80 (.load false 1 (.s 79)),
 oo 81 (.fldA 3 (.s 15)),
 oo 82 (.fldA 0 (.s 81)),
 oo 83 (.load false 1 (.s 82)),
 oo 84 (.bin .sub (.s 80) (.s 83))]
[oo 85 (.idxA 10 (.s 74) (.s 75)),
 oo 86 (.fldA 3 (.s 85)),
⟨none, none, .store 1 (.s 86) (.s 84)⟩])
 (.seq (.reg [oo 87 (.mov (.s 11)),
 oo 88 (.mov (.s 12)),
 oo 89 (.fldA 5 (.s 13)),
 oo 90 (.fldA 1 (.s 89)),
 oo 91 (.load false 1 (.s 90)),
 oo 92 (.fldA 3 (.s 15)),
 oo 93 (.fldA 1 (.s 92)),
 oo 94 (.load false 1 (.s 93)),
 oo 95 (.bin .sub (.s 91) (.s 94)),
 oo 96 (.idxA 10 (.s 87) (.s 88)),
 oo 97 (.fldA 4 (.s 96)),
⟨none, none, .store 1 (.s 97) (.s 95)⟩])
 (.seq (.reg [oo 98 (.mov (.s 11)),
 oo 99 (.mov (.s 12)),
 oo 100 (.mov (.s 3)),
 oo 101 (.idxA 10 (.s 98) (.s 99)),
 oo 102 (.fldA 6 (.s 101)),
⟨none, none, .store 1 (.s 102) (.s 100)⟩])
 (.seq (.reg [oo 103 (.mov (.s 11)),
 oo 104 (.mov (.s 12)),
 oo 8 (.mov (.s 103)),
 oo 9 (.mov (.s 104)),
 oo 10 (.mov (nB true))])
 .ret))))))))))))
theorem k60 : OkF 60 Tryz.f60 c60 [.t 8, .t 9, .t 10] 105 := ⟨Tryz.func60, by kernel_rfl, by kernel_rfl, by kernel_rfl, Tryz.ntmps60⟩
def nxR (o : Option (Int × Cu × Cu)) : Int := match o with
 | some z => z.1
 | none => -1
theorem rnext33_q (f : Fo) (k : Lk) (ls : List Gl) (hl : ls.length ≤ 1000) (x : Int) : FnQ Tryz.prog 95 [fo f, lk k, .sl (ls.map gl), I x] [I (nxR (hangF f k ls x))] := by
 have nx := rnext_q f k.kind k.flags k.set (.sl (k.subs.map sub)) ls x hl
 have hi := @nextF_gt (seesF f k.flags k.set ls) ls.length x
 refine k95.q (by simp) ?_
 unfold c95
 by_cases hx : 0 ≤ x ∧ x < ls.length
 ·rw [hangF, if_pos hx]
  obtain ⟨x0, x1⟩ := hx
  have n0 : ¬ x < 0 := by omega
  have n1 : ¬ (ls.length : Int) ≤ x := by omega
  have hgx := glAt_map x0 x1
  have f1 := rfind_q k (glAt ls x).id
  generalize nextF (seesF f k.flags k.set ls) ls.length x = n at *
  generalize curF k (glAt ls x).id = o1 at *
  simp only [vmp,↓vmd,seval]
  refine onB_neg n0 ?_
  (first | apply envO | apply envQ); simp only [n0, vmp,↓vmd,seval]; rfl
  simp only [n0, vmp,↓vmd,seval]
  refine onIf_intro fun _ => ?_
  (first | apply envO | apply envQ); simp only [n0, n1, vmp,↓vmd,seval]; rfl
  simp only [n0, n1, hgx, x0, vmp,↓vmd,seval]
  first | refine onQ_q f1 rfl ?_ | refine onC_q f1 rfl ?_
  cases o1 with
  | none =>
   (first | apply envO | apply envQ); simp only [vmp,↓vmd,seval]; rfl
   simp only [curR, Option.getD_none, Option.isSome_none, vmp,↓vmd,seval]
   first | refine onQ_q nx rfl ?_ | refine onC_q nx rfl ?_
   (first | apply envO | apply envQ); simp only [vmp,↓vmd,seval]; rfl
   simp only [vmp,↓vmd,seval]
   exact gives_pure
  | some a =>
   simp only
   obtain ⟨ag, ahe, ahx, aex, aey, axx, axy⟩ := a
   (first | apply envO | apply envQ); simp only [vmp,↓vmd,seval]; rfl
   simp only [curR, Option.getD_some, Option.isSome_some, vmp,↓vmd,seval]
   first | refine onQ_q nx rfl ?_ | refine onC_q nx rfl ?_
   cases ahx with
   | false =>
    (first | apply envO | apply envQ); simp only [vmp,↓vmd,seval]; rfl
    simp only [vmp,↓vmd,seval]
    exact gives_pure
   | true =>
    by_cases h2 : n = -1
    ·rw [if_neg (fun h => by have := h.2; omega)]
     (first | apply envO | apply envQ); simp only [vmp,↓vmd,seval]; rfl
     simp only [vmp,↓vmd,seval]
     refine onB_pos h2 ?_
     (first | apply envO | apply envQ); simp only [h2, vmp,↓vmd,seval]; rfl
     simp only [h2, vmp,↓vmd,seval]
     exact gives_pure
    ·have m0 : 0 ≤ n := by omega
     have hgn := glAt_map (ls := ls) (y := n) (by omega) (by omega)
     have f2 := rfind_q k (glAt ls n).id
     rw [if_pos ⟨rfl, m0⟩]
     generalize curF k (glAt ls n).id = o2 at *
     (first | apply envO | apply envQ); simp only [vmp,↓vmd,seval]; rfl
     simp only [vmp,↓vmd,seval]
     refine onB_neg h2 ?_
     (first | apply envO | apply envQ); simp only [h2, vmp,↓vmd,seval]; rfl
     simp only [h2, hgn, m0, vmp,↓vmd,seval]
     first | refine onQ_q f2 rfl ?_ | refine onC_q f2 rfl ?_
     cases o2 with
     | none =>
      (first | apply envO | apply envQ); simp only [vmp,↓vmd,seval]; rfl
      simp only [curR, Option.getD_none, Option.isSome_none, vmp,↓vmd,seval]
      exact gives_pure
     | some b =>
      obtain ⟨bg, bhe, bhx, bex, bey, bxx, bxy⟩ := b
      cases bhe with
      | false =>
       (first | apply envO | apply envQ); simp only [vmp,↓vmd,seval]; rfl
       simp only [curR, Option.getD_some, Option.isSome_some, vmp,↓vmd,seval]
       exact gives_pure
      | true =>
       (first | apply envO | apply envQ); simp only [vmp,↓vmd,seval]; rfl
       simp only [curR, Option.getD_some, Option.isSome_some, vmp,↓vmd,seval]
       exact gives_pure
 ·rw [hangF, if_neg hx]
  simp only [vmp,↓vmd,seval]
  refine onB_dec (fun h1 => ?_) (fun h1 => ?_)
  ·(first | apply envO | apply envQ); simp only [h1, vmp,↓vmd,seval]; rfl
   simp only [h1, vmp,↓vmd,seval]
   exact gives_pure
  ·(first | apply envO | apply envQ); simp only [h1, vmp,↓vmd,seval]; rfl
   simp only [h1, vmp,↓vmd,seval]
   refine onIf_intro fun _ => ?_
   have n1 : (ls.length : Int) ≤ x := by omega
   (first | apply envO | apply envQ); simp only [h1, vmp,↓vmd,seval]; rfl
   simp only [h1, n1, vmp,↓vmd,seval]
   exact gives_pure
theorem set_row {X : List Gl} {i : Nat} {c0 c1 c2 c3 c4 c5 c6 c7 c8 c9 : Int} : ((X.map gl).map S.pure).set i (.pure (.agg [I c0, I c1, I c2, I c3, I c4, I c5, I c6, I c7, I c8, I c9])) = ((X.set i ⟨c0, c1, c2, c3, c4, c5, c6, c7, c8, c9⟩).map gl).map S.pure := by
 rw [List.map_set, List.map_set]
theorem capply_q (f : Fo) (k : Lk) (ls : List Gl) (hl : ls.length ≤ 1000) (x : Int) : FnQ Tryz.prog 50 [fo f, lk k, .sl (ls.map gl), I x] (curA f k ls x) := by
 obtain ⟨r, hq, hr⟩ := hang_q f k ls hl x
 have hin := @hangF_some f k ls x
 have ho : curA f k ls x = [.sl ((((hangF f k ls x).map fun z => (z.1, doC ls x z.1 z.2.1 z.2.2)).getD (x, ls)).2.map gl), I ((((hangF f k ls x).map fun z => (z.1, doC ls x z.1 z.2.1 z.2.2)).getD (x, ls)).1), .bool ((hangF f k ls x).map fun z => (z.1, doC ls x z.1 z.2.1 z.2.2)).isSome] := rfl
 refine k50.q (by simp) ?_
 unfold c50
 generalize curA f k ls x = out at *
 generalize hangF f k ls x = o at *
 simp only [vmp,↓vmd,seval]
 refine onC_fr (cloneG_c ls hl) [] (by simp) trivial rfl rfl (by simp) ?_
 (first | apply envO | apply envQ); simp only [vmp,↓vmd,seval]; rfl
 simp only [vmp,↓vmd,seval]
 cases o with
 | none =>
  obtain ⟨n, a, b, c, d, rfl⟩ := hr
  refine onC_q hq rfl ?_
  subst ho
  (first | apply envO | apply envQ); simp only [vmp,↓vmd,seval]; rfl
  simp only [vmp,↓vmd,seval]
  exact gives_tup (toVs_of (toV_rowN rfl (.inr ⟨rfl, rfl⟩) (by simp)) rfl) (by simp)
 | some z =>
  obtain ⟨n, a, b⟩ := z
  obtain ⟨x0, x1, _, xn, n1, _⟩ := hin rfl
  have hr : r = [I n, .agg [I a.xx, I a.xy], .agg [I b.ex, I b.ey], .bool true] := hr
  subst hr
  have n0 : 0 ≤ n := by omega
  refine onC_q hq rfl ?_
  simp only [Option.map_some, Option.getD_some, Option.isSome_some] at ho
  have hgx := glAt_row x0 x1
  have hgn := glAt_row n0 n1
  have g1 : ∀ A : Gl, (((ls.set x.toNat A).map gl).map S.pure)[n.toNat]? = some (.pure (gl (glAt ls n))) := fun A => by
   rw [← hgn, List.getElem?_map, List.getElem?_map, List.getElem?_map, List.getElem?_map, set_ne (by omega)]
  have g2 : ∀ A B : Gl, ((((ls.set x.toNat A).set n.toNat B).map gl).map S.pure)[n.toNat]? = some (.pure (gl B)) := fun A B => by
   rw [List.getElem?_map, List.getElem?_map, set_i (by rw [List.length_set]; omega)]; rfl
  (first | apply envO | apply envQ); simp only [vmp,↓vmd,seval]; rfl
  simp only [hgx, hgn, x0, x1, n0, n1, set_row, g1, g2, List.set_set, vmp,↓vmd,seval]
  subst ho
  exact gives_tup (toVs_of (toV_rowN (f := gl) (X := doC ls x n a b) rfl (.inr ⟨rfl, rfl⟩) (by simp [doC_len])) rfl) (by simp)
theorem rcapply_q (f : Fo) (k : Lk) (ls : List Gl) (hl : ls.length ≤ 1000) (x : Int) : FnQ Tryz.prog 60 [fo f, lk k, .sl (ls.map gl), I x] (curA f k ls x) := by
 have hq := rnext33_q f k ls hl x
 have hin := @hangF_some f k ls x
 have ho : curA f k ls x = [.sl ((((hangF f k ls x).map fun z => (z.1, doC ls x z.1 z.2.1 z.2.2)).getD (x, ls)).2.map gl), I ((((hangF f k ls x).map fun z => (z.1, doC ls x z.1 z.2.1 z.2.2)).getD (x, ls)).1), .bool ((hangF f k ls x).map fun z => (z.1, doC ls x z.1 z.2.1 z.2.2)).isSome] := rfl
 refine k60.q (by simp) ?_
 unfold c60
 generalize curA f k ls x = out at *
 generalize hangF f k ls x = o at *
 simp only [vmp,↓vmd,seval]
 refine onC_fr (copy27_c ls hl) [] (by simp) trivial rfl rfl (by simp) ?_
 (first | apply envO | apply envQ); simp only [vmp,↓vmd,seval]; rfl
 simp only [vmp,↓vmd,seval]
 refine onC_q hq rfl ?_
 cases o with
 | none =>
  subst ho
  (first | apply envO | apply envQ); simp only [vmp,↓vmd,seval]; rfl
  simp only [nxR, vmp,↓vmd,seval]
  exact gives_tup (toVs_of (toV_rowN rfl (.inr ⟨rfl, rfl⟩) (by simp)) rfl) (by simp)
 | some z =>
  obtain ⟨n, a, b⟩ := z
  obtain ⟨x0, x1, _, xn, n1, hfa, hfb, _⟩ := hin rfl
  have n0 : 0 ≤ n := by omega
  have n2 : ¬ n = -1 := by omega
  simp only [Option.map_some, Option.getD_some, Option.isSome_some] at ho
  have hgx := glAt_row x0 x1
  have hgn := glAt_row n0 n1
  have hlx := glAt_map x0 x1
  have hln := glAt_map n0 n1
  have fa := rfind_q k (glAt ls x).id
  have fb := rfind_q k (glAt ls n).id
  rw [hfa] at fa
  rw [hfb] at fb
  have g1 : ∀ A : Gl, (((ls.set x.toNat A).map gl).map S.pure)[n.toNat]? = some (.pure (gl (glAt ls n))) := fun A => by
   rw [← hgn, List.getElem?_map, List.getElem?_map, List.getElem?_map, List.getElem?_map, set_ne (by omega)]
  have g2 : ∀ A B : Gl, ((((ls.set x.toNat A).set n.toNat B).map gl).map S.pure)[n.toNat]? = some (.pure (gl B)) := fun A B => by
   rw [List.getElem?_map, List.getElem?_map, set_i (by rw [List.length_set]; omega)]; rfl
  (first | apply envO | apply envQ); simp only [vmp,↓vmd,seval]; rfl
  simp only [nxR, vmp,↓vmd,seval]
  refine onB_neg n2 ?_
  (first | apply envO | apply envQ); simp only [n2, vmp,↓vmd,seval]; rfl
  simp only [n2, hlx, x0, vmp,↓vmd,seval]
  first | refine onQ_q fa rfl ?_ | refine onC_q fa rfl ?_
  (first | apply envO | apply envQ); simp only [vmp,↓vmd,seval]; rfl
  simp only [curR, Option.getD_some, Option.isSome_some, hln, n0, vmp,↓vmd,seval]
  first | refine onQ_q fb rfl ?_ | refine onC_q fb rfl ?_
  (first | apply envO | apply envQ); simp only [vmp,↓vmd,seval]; rfl
  simp only [curR, Option.getD_some, Option.isSome_some, hgx, hgn, x0, x1, n0, n1, set_row, g1, g2, List.set_set, vmp,↓vmd,seval]
  subst ho
  exact gives_tup (toVs_of (toV_rowN (f := gl) (X := doC ls x n a b) rfl (.inr ⟨rfl, rfl⟩) (by simp [doC_len])) rfl) (by simp)
end Go.Proofs.YtcjmkpkhjhjepaaGreat.W
