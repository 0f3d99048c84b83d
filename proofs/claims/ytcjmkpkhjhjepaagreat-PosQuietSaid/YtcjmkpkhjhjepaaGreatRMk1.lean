/-
  Marks: the document's functions. No condition but on sizes.
-/
import Derived.Test.YtcjmkpkhjhjepaaGreatPMk4
namespace Go.Proofs.YtcjmkpkhjhjepaaGreat.W
open Go Go.Vm Go.Proofs
set_option maxRecDepth 100000
set_option linter.unusedSimpArgs false
set_option maxHeartbeats 4000000
/-! typecase/typecaseref34.base -/
def c115_0 : AC :=
 (.seq (.reg [oo 31 (.mov (.s 3)),
 oo 8 (.mov (.s 31))])
 .ret)
def c115_1 : AC :=
 (.seq (.seq (.regq [oo 14 (.mov (.s 3)),
 oo 15 (.bin .geq (.s 14) (nI 0)),
 oo 16 (.mov (.s 15)),
 og 17 16 true (.load true 6 (.s 4)),
 og 18 16 true (.mov (.s 2)),
 og 19 16 true (.mov (.s 3)),
 og 20 16 true (.idxA 10 (.s 18) (.s 19)),
 og 21 16 true (.fldA 0 (.s 20)),
 og 22 16 true (.load false 1 (.s 21))]
[og 23 16 true (.call 54 [(.s 17), (.s 22)]),
 og 24 16 true (.bin .eql (.s 23) (nI 3)),
 oo 25 (.pick (.s 16) (.s 24) (nB false))])
 (.cond (.s 25)
 .skip
 (.exit 0)))
 (.block 1
 (.reg [oo 26 (.load true 6 (.s 4)),
 oo 27 (.load true 4 (.s 5)),
 oo 28 (.mov (.s 2)),
 oo 29 (.mov (.s 3)),
 oo 30 (.call 116 [(.s 26), (.s 27), (.s 28), (.s 29)]),
 oo 3 (.mov (.s 30))])))
def c115 : AC :=
 (.seq (.reg [oo 4 (.box (.s 0)),
 oo 5 (.box (.s 1)),
 oo 8 (.mov (nI 0))])
 (.seq (.reg [oo 9 (.load true 6 (.s 4)),
 oo 10 (.load true 4 (.s 5)),
 oo 11 (.mov (.s 2)),
 oo 12 (.mov (.s 3)),
 oo 13 (.call 116 [(.s 9), (.s 10), (.s 11), (.s 12)]),
 oo 3 (.mov (.s 13))])
 (.seq (.block 0
 (.loop c115_1))
 c115_0)))
theorem k115 : OkF 115 Tryz.f115 c115 [.t 8] 32 := ⟨Tryz.func115, by kernel_rfl, by kernel_rfl, by kernel_rfl, Tryz.ntmps115⟩
/-! typecase/typecaseref34.Host -/
def c97 : AC :=
 (.seq (.reg [oo 4 (.box (.s 0)),
 oo 5 (.box (.s 1)),
 oo 8 (.mov (nI 0)),
 oo 9 (.mov (nB false))])
 (.seq (.seq (.regq [oo 11 (.mov (.s 3)),
 oo 12 (.bin .lss (.s 11) (nI 0)),
 oo 13 (.mov (.s 12)),
 og 14 13 false (.mov (.s 3)),
 og 15 13 false (.mov (.s 2)),
 og 16 13 false (.len (.s 15)),
 og 17 13 false (.bin .geq (.s 14) (.s 16)),
 oo 18 (.pick (.s 13) (nB true) (.s 17)),
 oo 19 (.mov (.s 18)),
 og 20 19 false (.load true 6 (.s 4)),
 og 21 19 false (.mov (.s 2)),
 og 22 19 false (.mov (.s 3)),
 og 23 19 false (.idxA 10 (.s 21) (.s 22)),
 og 24 19 false (.fldA 0 (.s 23)),
 og 25 19 false (.load false 1 (.s 24)),
 og 26 19 false (.call 54 [(.s 20), (.s 25)]),
 og 27 19 false (.bin .neq (.s 26) (nI 3)),
 oo 28 (.pick (.s 19) (nB true) (.s 27)),
 oo 29 (.mov (.s 28)),
 og 30 29 false (.load true 6 (.s 4)),
 og 31 29 false (.load true 4 (.s 5)),
 og 32 29 false (.mov (.s 2)),
 og 33 29 false (.mov (.s 3)),
 og 34 29 false (.idxA 10 (.s 32) (.s 33)),
 og 35 29 false (.fldA 0 (.s 34)),
 og 36 29 false (.load false 1 (.s 35))]
[og 37 29 false (.call 34 [(.s 30), (.s 31), (.s 36)]),
 oo 38 (.pick (.s 29) (nB true) (.s 37))])
 (.cond (.s 38)
 (.seq (.reg [oo 8 (.mov (nI 0)),
 oo 9 (.mov (nB false))])
 .ret)
 .skip))
 (.seq (.reg [oo 10 (.mov (nI (-1)))])
 (.seq (.seq (.reg [oo 39 (.fldA 0 (.s 5)),
 oo 40 (.load false 1 (.s 39))])
 (.block 0
 (.seq (.seq (.reg [oo 42 (.bin .eql (.s 40) (nI 9)),
 oo 41 (.mov (.s 42))])
 (.cond (.s 41)
 .skip
 (.reg [oo 43 (.bin .eql (.s 40) (nI 10)),
 oo 41 (.mov (.s 43))])))
 (.cond (.s 41)
 (.seq (.reg [oo 44 (.load true 6 (.s 4)),
 oo 45 (.load true 4 (.s 5)),
 oo 46 (.mov (.s 2)),
 oo 47 (.mov (.s 3)),
 oo 48 (.call 115 [(.s 44), (.s 45), (.s 46), (.s 47)]),
 oo 10 (.mov (.s 48))])
 (.seq (.regq [oo 49 (.mov (.s 10)),
 oo 50 (.bin .geq (.s 49) (nI 0)),
 oo 51 (.mov (.s 50)),
 og 52 51 true (.load true 6 (.s 4)),
 og 53 51 true (.mov (.s 2)),
 og 54 51 true (.mov (.s 10)),
 og 55 51 true (.idxA 10 (.s 53) (.s 54)),
 og 56 51 true (.fldA 0 (.s 55)),
 og 57 51 true (.load false 1 (.s 56)),
 og 58 51 true (.call 54 [(.s 52), (.s 57)]),
 og 59 51 true (.bin .eql (.s 58) (nI 2)),
 og 60 51 true (.fldA 0 (.s 5)),
 og 61 51 true (.load false 1 (.s 60)),
 og 62 51 true (.bin .eql (.s 61) (nI 10))]
[og 63 51 true (.eqb true (.s 59) (.s 62)),
 oo 64 (.pick (.s 51) (.s 63) (nB false))])
 (.cond (.s 64)
 (.reg [oo 10 (.mov (nI (-1)))])
 .skip)))
 (.seq (.reg [oo 66 (.bin .eql (.s 40) (nI 11)),
 oo 65 (.mov (.s 66))])
 (.cond (.s 65)
 (.seq (.reg [oo 67 (.load true 6 (.s 4)),
 oo 68 (.load true 4 (.s 5)),
 oo 69 (.mov (.s 2)),
 oo 70 (.mov (.s 3)),
 oo 71 (.call 116 [(.s 67), (.s 68), (.s 69), (.s 70)]),
 oo 10 (.mov (.s 71))])
 (.seq (.regq [oo 72 (.mov (.s 10)),
 oo 73 (.bin .geq (.s 72) (nI 0)),
 oo 74 (.mov (.s 73)),
 og 75 74 true (.load true 6 (.s 4)),
 og 76 74 true (.mov (.s 2)),
 og 77 74 true (.mov (.s 10)),
 og 78 74 true (.idxA 10 (.s 76) (.s 77)),
 og 79 74 true (.fldA 0 (.s 78)),
 og 80 74 true (.load false 1 (.s 79)),
 og 81 74 true (.call 54 [(.s 75), (.s 80)]),
 og 82 74 true (.bin .neq (.s 81) (nI 3)),
 og 83 74 true (.mov (.s 82)),
 og 84 83 false (.mov (.s 2)),
 og 85 83 false (.mov (.s 10)),
 og 86 83 false (.idxA 10 (.s 84) (.s 85)),
 og 87 83 false (.fldA 7 (.s 86)),
 og 88 83 false (.load false 1 (.s 87)),
 og 89 83 false (.mov (.s 2)),
 og 90 83 false (.mov (.s 3)),
 og 91 83 false (.idxA 10 (.s 89) (.s 90)),
 og 92 83 false (.fldA 7 (.s 91)),
 og 93 83 false (.load false 1 (.s 92)),
 og 94 83 false (.bin .neq (.s 88) (.s 93)),
 og 95 74 true (.pick (.s 83) (nB true) (.s 94)),
 og 96 74 true (.mov (.s 95)),
 og 97 96 false (.mov (.s 2)),
 og 98 96 false (.mov (.s 10)),
 og 99 96 false (.idxA 10 (.s 97) (.s 98)),
 og 100 96 false (.fldA 8 (.s 99)),
 og 101 96 false (.load false 1 (.s 100)),
 og 102 96 false (.mov (.s 2)),
 og 103 96 false (.mov (.s 3)),
 og 104 96 false (.idxA 10 (.s 102) (.s 103)),
 og 105 96 false (.fldA 8 (.s 104)),
 og 106 96 false (.load false 1 (.s 105))]
[og 107 96 false (.bin .neq (.s 101) (.s 106)),
 og 108 74 true (.pick (.s 96) (nB true) (.s 107)),
 oo 109 (.pick (.s 74) (.s 108) (nB false))])
 (.cond (.s 109)
 (.reg [oo 10 (.mov (nI (-1)))])
 .skip)))
 .skip))))))
 (.seq (.seq (.reg [oo 110 (.mov (.s 10)),
 oo 111 (.bin .lss (.s 110) (nI 0))])
 (.cond (.s 111)
 (.seq (.reg [oo 8 (.mov (nI 0)),
 oo 9 (.mov (nB false))])
 .ret)
 .skip))
 (.seq (.reg [oo 112 (.mov (.s 10)),
 oo 8 (.mov (.s 112)),
 oo 9 (.mov (nB true))])
 .ret))))))
theorem k97 : OkF 97 Tryz.f97 c97 [.t 8, .t 9] 113 := ⟨Tryz.func97, by kernel_rfl, by kernel_rfl, by kernel_rfl, Tryz.ntmps97⟩
/-! typecase/typecaseref34.spots -/
def c117 : AC :=
 (.seq (.reg [oo 3 (.box (.s 0)),
 oo 4 (.box (.s 1)),
 oo 6 (.mov (.c .empty))])
 (.seq (.reg [oo 8 (.fldA 1 (.s 4)),
 oo 9 (.load false 1 (.s 8)),
 oo 10 (.len (.s 9)),
 oo 7 (.mov (.s 10))])
 (.seq (.seq (.reg [oo 11 (.mov (.s 7)),
 oo 12 (.bin .eql (.s 11) (nI 0))])
 (.cond (.s 12)
 (.seq (.reg [oo 6 (.mov (.c .empty))])
 .ret)
 .skip))
 (.seq (.seq (.reg [oo 13 (.fldA 0 (.s 3)),
 oo 14 (.load false 1 (.s 13)),
 oo 15 (.bin .neq (.s 14) (nI 10))])
 (.cond (.s 15)
 (.seq (.reg [oo 16 (.fldA 1 (.s 4)),
 oo 17 (.load false 1 (.s 16)),
 oo 18 (.idxA 1 (.s 17) (nI 0)),
 oo 19 (.load false 1 (.s 18)),
 oo 6 (.mov (.s 19))])
 .ret)
 .skip))
 (.seq (.seq (.reg [oo 20 (.mov (.s 2)),
 oo 21 (.bin .lss (.s 20) (nI 0)),
 oo 22 (.mov (.s 21)),
 og 23 22 false (.mov (.s 2)),
 og 24 22 false (.mov (.s 7)),
 og 25 22 false (.bin .geq (.s 23) (.s 24)),
 oo 26 (.pick (.s 22) (nB true) (.s 25))])
 (.cond (.s 26)
 (.seq (.reg [oo 27 (.fldA 1 (.s 4)),
 oo 28 (.load false 1 (.s 27)),
 oo 29 (.mov (.s 7)),
 oo 30 (.bin .sub (.s 29) (nI 1)),
 oo 31 (.idxA 1 (.s 28) (.s 30)),
 oo 32 (.load false 1 (.s 31)),
 oo 6 (.mov (.s 32))])
 .ret)
 .skip))
 (.seq (.reg [oo 33 (.fldA 1 (.s 4)),
 oo 34 (.load false 1 (.s 33)),
 oo 35 (.mov (.s 2)),
 oo 36 (.idxA 1 (.s 34) (.s 35)),
 oo 37 (.load false 1 (.s 36)),
 oo 6 (.mov (.s 37))])
 .ret))))))
theorem k117 : OkF 117 Tryz.f117 c117 [.t 6] 38 := ⟨Tryz.func117, by kernel_rfl, by kernel_rfl, by kernel_rfl, Tryz.ntmps117⟩
/-! typecase/typecaseref34.Anchor -/
def c99_0 : AC :=
 (.seq (.reg [oo 73 (.build [(pI 0), (pI 0)] []),
⟨none, none, .store 2 (.s 10) (.s 73)⟩,
 oo 11 (.mov (nB false))])
 .ret)
def c99_1 : AC :=
 (.seq (.seq (.reg [oo 31 (.mov (.s 13)),
 oo 32 (.mov (.s 12)),
 oo 33 (.len (.s 32)),
 oo 34 (.bin .lss (.s 31) (.s 33))])
 (.cond (.s 34)
 .skip
 (.exit 0)))
 (.seq (.block 1
 (.seq (.seq (.reg [oo 37 (.mov (.s 12)),
 oo 38 (.mov (.s 13)),
 oo 39 (.idxA 2 (.s 37) (.s 38)),
 oo 40 (.fldA 0 (.s 39)),
 oo 41 (.load false 1 (.s 40)),
 oo 42 (.mov (.s 2)),
 oo 43 (.bin .neq (.s 41) (.s 42))])
 (.cond (.s 43)
 (.exit 1)
 .skip))
 (.seq (.regq [oo 44 (.load true 4 (.s 5)),
 oo 45 (.mov (.s 12)),
 oo 46 (.mov (.s 13)),
 oo 47 (.idxA 2 (.s 45) (.s 46)),
 oo 48 (.load true 2 (.s 47)),
 oo 49 (.mov (.s 4))]
[oo 50 (.call 117 [(.s 44), (.s 48), (.s 49)]),
 oo 14 (.mov (.s 50))])
 (.seq (.seq (.reg [oo 51 (.mov (.s 3)),
 oo 52 (.bin .lss (.s 51) (nI 0)),
 oo 53 (.mov (.s 52)),
 og 54 53 false (.mov (.s 3)),
 og 55 53 false (.mov (.s 14)),
 og 56 53 false (.len (.s 55)),
 og 57 53 false (.bin .geq (.s 54) (.s 56)),
 oo 58 (.pick (.s 53) (nB true) (.s 57)),
 oo 59 (.mov (.s 58)),
 og 60 59 false (.mov (.s 14)),
 og 61 59 false (.mov (.s 3)),
 og 62 59 false (.idxA 3 (.s 60) (.s 61)),
 og 63 59 false (.fldA 0 (.s 62)),
 og 64 59 false (.load false 1 (.s 63)),
 og 65 59 false (.un .not (.s 64)),
 oo 66 (.pick (.s 59) (nB true) (.s 65))])
 (.cond (.s 66)
 (.seq (.reg [oo 67 (.build [(pI 0), (pI 0)] []),
⟨none, none, .store 2 (.s 10) (.s 67)⟩,
 oo 11 (.mov (nB false))])
 .ret)
 .skip))
 (.seq (.reg [oo 68 (.mov (.s 14)),
 oo 69 (.mov (.s 3)),
 oo 70 (.idxA 3 (.s 68) (.s 69)),
 oo 71 (.fldA 1 (.s 70)),
 oo 72 (.load true 2 (.s 71)),
⟨none, none, .store 2 (.s 10) (.s 72)⟩,
 oo 11 (.mov (nB true))])
 .ret)))))
 (.reg [oo 35 (.mov (.s 13)),
 oo 36 (.bin .add (.s 35) (nI 1)),
 oo 13 (.mov (.s 36))])))
def c99 : AC :=
 (.seq (.reg [oo 5 (.box (.s 0)),
 oo 10 (.box (.c (.pure (.agg [(.int .i64 0), (.int .i64 0)])))),
 oo 11 (.mov (nB false))])
 (.seq (.seq (.reg [oo 15 (.mov (.s 1)),
 oo 16 (.bin .lss (.s 15) (nI 0)),
 oo 17 (.mov (.s 16)),
 og 18 17 false (.mov (.s 1)),
 og 19 17 false (.fldA 3 (.s 5)),
 og 20 17 false (.load false 1 (.s 19)),
 og 21 17 false (.len (.s 20)),
 og 22 17 false (.bin .geq (.s 18) (.s 21)),
 oo 23 (.pick (.s 17) (nB true) (.s 22))])
 (.cond (.s 23)
 (.seq (.reg [oo 24 (.build [(pI 0), (pI 0)] []),
⟨none, none, .store 2 (.s 10) (.s 24)⟩,
 oo 11 (.mov (nB false))])
 .ret)
 .skip))
 (.seq (.reg [oo 25 (.fldA 3 (.s 5)),
 oo 26 (.load false 1 (.s 25)),
 oo 27 (.mov (.s 1)),
 oo 28 (.idxA 12 (.s 26) (.s 27)),
 oo 29 (.fldA 11 (.s 28)),
 oo 30 (.load false 1 (.s 29)),
 oo 12 (.mov (.s 30))])
 (.seq (.seq (.reg [oo 13 (.mov (nI 0))])
 (.block 0
 (.loop c99_1)))
 c99_0))))
theorem k99 : OkF 99 Tryz.f99 c99 [.c 10 true 2, .t 11] 74 := ⟨Tryz.func99, by kernel_rfl, by kernel_rfl, by kernel_rfl, Tryz.ntmps99⟩
/-! typecase/typecaseref34.mark -/
def c98_0 : AC :=
 (.seq (.reg [oo 27 (.build [(pI 0), (pI 0), (pI 0), (pI 0)] []),
⟨none, none, .store 4 (.s 4) (.s 27)⟩,
 oo 5 (.mov (nB false))])
 .ret)
def c98_1 : AC :=
 (.seq (.seq (.reg [oo 7 (.mov (.s 6)),
 oo 8 (.fldA 10 (.s 2)),
 oo 9 (.load false 1 (.s 8)),
 oo 10 (.len (.s 9)),
 oo 11 (.bin .lss (.s 7) (.s 10))])
 (.cond (.s 11)
 .skip
 (.exit 0)))
 (.seq (.block 1
 (.seq (.reg [oo 14 (.fldA 10 (.s 2)),
 oo 15 (.load false 1 (.s 14)),
 oo 16 (.mov (.s 6)),
 oo 17 (.idxA 4 (.s 15) (.s 16)),
 oo 18 (.fldA 0 (.s 17)),
 oo 19 (.load false 1 (.s 18)),
 oo 20 (.mov (.s 1)),
 oo 21 (.bin .eql (.s 19) (.s 20))])
 (.cond (.s 21)
 (.seq (.reg [oo 22 (.fldA 10 (.s 2)),
 oo 23 (.load false 1 (.s 22)),
 oo 24 (.mov (.s 6)),
 oo 25 (.idxA 4 (.s 23) (.s 24)),
 oo 26 (.load true 4 (.s 25)),
⟨none, none, .store 4 (.s 4) (.s 26)⟩,
 oo 5 (.mov (nB true))])
 .ret)
 .skip)))
 (.reg [oo 12 (.mov (.s 6)),
 oo 13 (.bin .add (.s 12) (nI 1)),
 oo 6 (.mov (.s 13))])))
def c98 : AC :=
 (.seq (.reg [oo 2 (.box (.s 0)),
 oo 4 (.box (.c (.pure (.agg [(.int .i64 0), (.int .i64 0), (.int .i64 0), (.int .i64 0)])))),
 oo 5 (.mov (nB false))])
 (.seq (.seq (.reg [oo 6 (.mov (nI 0))])
 (.block 0
 (.loop c98_1)))
 c98_0))
theorem k98 : OkF 98 Tryz.f98 c98 [.c 4 true 4, .t 5] 28 := ⟨Tryz.func98, by kernel_rfl, by kernel_rfl, by kernel_rfl, Tryz.ntmps98⟩
/-! typecase/typecaseref34.Apply -/
def c61_0 : AC :=
 (.seq (.reg [oo 8 (.mov (.c .empty)),
 oo 9 (.mov (nB false))])
 .ret)
def c61_1 : AC :=
 (.seq (.seq (.reg [oo 53 (.mov (.s 13)),
 oo 54 (.fldA 3 (.s 5)),
 oo 55 (.load false 1 (.s 54)),
 oo 56 (.len (.s 55)),
 oo 57 (.bin .lss (.s 53) (.s 56))])
 (.cond (.s 57)
 .skip
 (.exit 0)))
 (.seq (.block 1
 (.seq (.regq [oo 61 (.fldA 3 (.s 5)),
 oo 62 (.load false 1 (.s 61)),
 oo 63 (.mov (.s 13)),
 oo 64 (.idxA 12 (.s 62) (.s 63)),
 oo 65 (.load true 12 (.s 64)),
 oo 66 (.mov (.s 2)),
 oo 67 (.mov (.s 3)),
 oo 68 (.idxA 10 (.s 66) (.s 67)),
 oo 69 (.fldA 0 (.s 68)),
 oo 70 (.load false 1 (.s 69)),
 oo 71 (.call 98 [(.s 65), (.s 70)]),
 oo 60 (.mov (.s 71)),
 oo 72 (.ext 0 (.s 60)),
 oo 73 (.ext 1 (.s 60)),
 oo 14 (.box (.c (.pure (.agg [(.int .i64 0), (.int .i64 0), (.int .i64 0), (.int .i64 0)]))))]
[⟨none, none, .store 4 (.s 14) (.s 72)⟩,
 oo 15 (.mov (.s 73))])
 (.seq (.seq (.reg [oo 74 (.mov (.s 15)),
 oo 75 (.un .not (.s 74))])
 (.cond (.s 75)
 (.exit 1)
 .skip))
 (.seq (.regq [oo 77 (.load true 4 (.s 5)),
 oo 78 (.mov (.s 13)),
 oo 79 (.mov (.s 2)),
 oo 80 (.mov (.s 10)),
 oo 81 (.idxA 10 (.s 79) (.s 80)),
 oo 82 (.fldA 0 (.s 81)),
 oo 83 (.load false 1 (.s 82)),
 oo 84 (.fldA 1 (.s 14)),
 oo 85 (.load false 1 (.s 84)),
 oo 86 (.mov (.s 12)),
 oo 87 (.call 99 [(.s 77), (.s 78), (.s 83), (.s 85), (.s 86)]),
 oo 76 (.mov (.s 87)),
 oo 88 (.ext 0 (.s 76)),
 oo 89 (.ext 1 (.s 76)),
 oo 16 (.box (.c (.pure (.agg [(.int .i64 0), (.int .i64 0)]))))]
[⟨none, none, .store 2 (.s 16) (.s 88)⟩,
 oo 17 (.mov (.s 89))])
 (.seq (.seq (.reg [oo 90 (.mov (.s 17)),
 oo 91 (.un .not (.s 90))])
 (.cond (.s 91)
 (.exit 1)
 .skip))
 (.seq (.reg [oo 18 (.mov (.c .empty))])
 (.seq (.reg [oo 92 (.mov (.s 18)),
 oo 93 (.mov (.s 2)),
 oo 94 (.app 10 80 (.s 92) (.s 93)),
 oo 18 (.mov (.s 94))])
 (.seq (.reg [oo 95 (.mov (.s 18)),
 oo 96 (.mov (.s 3)),
 oo 97 (.idxA 10 (.s 95) (.s 96)),
 oo 98 (.fldA 2 (.s 97)),
⟨none, none, .store 1 (.s 98) (nI 0)⟩])
 (.seq (.reg [oo 99 (.mov (.s 18)),
 oo 100 (.mov (.s 3)),
 oo 101 (.fldA 0 (.s 16)),
 oo 102 (.load false 1 (.s 101)),
 oo 103 (.fldA 2 (.s 14)),
 oo 104 (.fldA 0 (.s 103)),
 oo 105 (.load false 1 (.s 104)),
 oo 106 (.bin .sub (.s 102) (.s 105)),
 oo 107 (.idxA 10 (.s 99) (.s 100)),
 oo 108 (.fldA 3 (.s 107)),
⟨none, none, .store 1 (.s 108) (.s 106)⟩])
 (.seq (.reg [oo 109 (.mov (.s 18)),
 oo 110 (.mov (.s 3)),
 oo 111 (.fldA 1 (.s 16)),
 oo 112 (.load false 1 (.s 111)),
 oo 113 (.fldA 2 (.s 14)),
 oo 114 (.fldA 1 (.s 113)),
 oo 115 (.load false 1 (.s 114)),
 oo 116 (.bin .sub (.s 112) (.s 115)),
 oo 117 (.idxA 10 (.s 109) (.s 110)),
 oo 118 (.fldA 4 (.s 117)),
⟨none, none, .store 1 (.s 118) (.s 116)⟩])
 (.seq (.reg [oo 119 (.mov (.s 18)),
 oo 120 (.mov (.s 3)),
 oo 121 (.mov (.s 10)),
 oo 122 (.idxA 10 (.s 119) (.s 120)),
 oo 123 (.fldA 5 (.s 122)),
⟨none, none, .store 1 (.s 123) (.s 121)⟩])
 (.seq (.reg [oo 124 (.mov (.s 18)),
 oo 125 (.mov (.s 3)),
 oo 126 (.idxA 10 (.s 124) (.s 125)),
 oo 127 (.fldA 6 (.s 126)),
⟨none, none, .store 1 (.s 127) (nI (-1))⟩])
 (.seq (.reg [oo 128 (.mov (.s 18)),
 oo 8 (.mov (.s 128)),
 oo 9 (.mov (nB true))])
 .ret)))))))))))))
 (.reg [oo 58 (.mov (.s 13)),
 oo 59 (.bin .add (.s 58) (nI 1)),
 oo 13 (.mov (.s 59))])))
def c61 : AC :=
 (.seq (.reg [oo 4 (.box (.s 0)),
 oo 5 (.box (.s 1)),
 oo 8 (.mov (.c .empty)),
 oo 9 (.mov (nB false))])
 (.seq (.reg [oo 20 (.load true 6 (.s 4)),
 oo 21 (.load true 4 (.s 5)),
 oo 22 (.mov (.s 2)),
 oo 23 (.mov (.s 3)),
 oo 24 (.call 97 [(.s 20), (.s 21), (.s 22), (.s 23)]),
 oo 19 (.mov (.s 24)),
 oo 25 (.ext 0 (.s 19)),
 oo 26 (.ext 1 (.s 19)),
 oo 10 (.mov (.s 25)),
 oo 11 (.mov (.s 26))])
 (.seq (.seq (.reg [oo 27 (.mov (.s 11)),
 oo 28 (.un .not (.s 27))])
 (.cond (.s 28)
 (.seq (.reg [oo 8 (.mov (.c .empty)),
 oo 9 (.mov (nB false))])
 .ret)
 .skip))
 (.seq (.reg [oo 12 (.mov (nI (-1)))])
 (.seq (.seq (.regq [oo 29 (.mov (.s 2)),
 oo 30 (.mov (.s 3)),
 oo 31 (.idxA 10 (.s 29) (.s 30)),
 oo 32 (.fldA 7 (.s 31)),
 oo 33 (.load false 1 (.s 32)),
 oo 34 (.bin .neq (.s 33) (nI 0)),
 oo 35 (.mov (.s 34)),
 og 36 35 true (.mov (.s 2)),
 og 37 35 true (.mov (.s 3)),
 og 38 35 true (.idxA 10 (.s 36) (.s 37)),
 og 39 35 true (.fldA 7 (.s 38)),
 og 40 35 true (.load false 1 (.s 39)),
 og 41 35 true (.mov (.s 2)),
 og 42 35 true (.mov (.s 10)),
 og 43 35 true (.idxA 10 (.s 41) (.s 42)),
 og 44 35 true (.fldA 7 (.s 43)),
 og 45 35 true (.load false 1 (.s 44))]
[og 46 35 true (.bin .eql (.s 40) (.s 45)),
 oo 47 (.pick (.s 35) (.s 46) (nB false))])
 (.cond (.s 47)
 (.reg [oo 48 (.mov (.s 2)),
 oo 49 (.mov (.s 3)),
 oo 50 (.idxA 10 (.s 48) (.s 49)),
 oo 51 (.fldA 8 (.s 50)),
 oo 52 (.load false 1 (.s 51)),
 oo 12 (.mov (.s 52))])
 .skip))
 (.seq (.seq (.reg [oo 13 (.mov (nI 0))])
 (.block 0
 (.loop c61_1)))
 c61_0))))))
theorem k61 : OkF 61 Tryz.f61 c61 [.t 8, .t 9] 129 := ⟨Tryz.func61, by kernel_rfl, by kernel_rfl, by kernel_rfl, Tryz.ntmps61⟩
theorem rprv_q (f : Fo) (k : Lk) (ls : List Gl) (hl : ls.length ≤ 1000) (y : Int) : FnQ Tryz.prog 116 [fo f, lk k, .sl (ls.map gl), I y] [I (prvF f k ls y)] := rprev_q f k.kind k.flags k.set (.sl (k.subs.map sub)) ls y hl
theorem rkat_q (f : Fo) (ls : List Gl) (y : Int) : FnQ Tryz.prog 54 [fo f, I (glAt ls y).id] [I (kAt f ls y)] := rkind_q f _
theorem rskp_q (f : Fo) (k : Lk) (g : Int) : FnQ Tryz.prog 34 [fo f, lk k, I g] [.bool (skipsF f k.flags k.set g)] := rskips_q f k.kind k.flags k.set g _
theorem base_q (f : Fo) (k : Lk) (ls : List Gl) (hl : ls.length ≤ 1000) (y : Int) : FnQ Tryz.prog 115 [fo f, lk k, .sl (ls.map gl), I y] [I (baseM f k ls (ls.length + 1) (prvF f k ls y))] := by
 refine k115.q (by simp) ?_
 unfold c115
 simp only [*, vmp,↓vmd,seval]
 refine onC_q (rprv_q f k ls hl y) rfl ?_
 (first | apply envO | apply envQ); simp only [vmp,↓vmd,seval]; rfl
 simp only [vmp,↓vmd,seval]
 have hin := prvF_lt f k ls y
 generalize prvF f k ls y = z at *
 refine loop_at (T := Int) (fun i => [(3, .pure (I i)), (2, .pure (.sl (ls.map gl))), (4, .ptr 0 0 0), (5, .ptr 1 0 0)]) (fun _ => [⟨[.pure (fo f)], 6, .live⟩, ⟨[.pure (lk k)], 4, .live⟩])
  (fun i => -1 ≤ i ∧ i < ls.length ∧ baseM f k ls (ls.length + 1) i = baseM f k ls (ls.length + 1) z) (fun i => (i + 1).toNat)
  z [0, 1] (by simp) rfl ⟨by omega, by omega, rfl⟩ (by simp only [kpp,seval]) (by simp only [kpp,seval]) ?_
 rintro i ⟨hi0, hi1, hr⟩
 unfold c115_1
 simp only [vmp,↓vmd,seval]
 by_cases h0 : 0 ≤ i
 ·have hg := glAt_map h0 hi1
  simp only [h0, hi1, hg, vmp,↓vmd,seval]
  refine onC_q (rkat_q f ls i) rfl ?_
  (first | apply envO | apply envQ); simp only [vmp,↓vmd,seval]; rfl
  by_cases h3 : kAt f ls i = 3
  ·have hn := baseM_next (k := k) h0 hi1 h3
   have hp := prvF_lt f k ls i
   simp only [h0, h3, vmp,↓vmd,seval]
   refine onC_q (rprv_q f k ls hl i) rfl ?_
   (first | apply envO | apply envQ); simp only [vmp,↓vmd,seval]; rfl
   simp only [vmp,↓vmd,seval]
   generalize prvF f k ls i = w at *
   refine onBk_to w [0, 1] (by simp) rfl (by omega) ⟨by omega, by omega, by rw [← hn, hr]⟩ (by simp only [kpp,seval]) (by simp only [kpp,seval])
  ·rw [baseM_at (.inr h3)] at hr
   simp only [h0, h3, vmp,↓vmd,seval]
   unfold c115_0
   simp only [vmp,↓vmd,seval]
   rw [← hr]
   exact gives_pure
 ·rw [baseM_at (.inl (by omega))] at hr
  simp only [h0, vmp,↓vmd,seval]
  unfold c115_0
  simp only [vmp,↓vmd,seval]
  rw [← hr]
  exact gives_pure
theorem rhost_q (f : Fo) (k : Lk) (ls : List Gl) (hl : ls.length ≤ 1000) (y : Int) : FnQ Tryz.prog 97 [fo f, lk k, .sl (ls.map gl), I y] (hostR (hostF f k ls y)) := by
 refine k97.q (by simp) ?_
 unfold c97
 simp only [*, vmp,↓vmd,seval]
 by_cases h0 : y < 0
 ·simp only [h0, vmp,↓vmd,seval]
  rw [hostF, if_pos (.inr (.inl h0))]
  exact gives_tup rfl (by simp)
 simp only [h0, vmp,↓vmd,seval]
 by_cases h1 : (ls.length : Int) ≤ y
 ·simp only [h0, h1, vmp,↓vmd,seval]
  rw [hostF, if_pos (.inr (.inr (.inl h1)))]
  exact gives_tup rfl (by simp)
 have y0 : 0 ≤ y := by omega
 have y1 : y < ls.length := by omega
 have hg := glAt_map y0 y1
 simp only [h0, h1, y0, y1, hg, vmp,↓vmd,seval]
 refine onQ_q (rkat_q f ls y) rfl ?_
 (first | apply envO | apply envQ); simp only [vmp,↓vmd,seval]; rfl
 by_cases h3 : kAt f ls y = 3
 ·simp only [h0, h1, h3, y0, y1, hg, vmp,↓vmd,seval]
  refine onC_q (rskp_q f k _) rfl ?_
  (first | apply envO | apply envQ); simp only [vmp,↓vmd,seval]; rfl
  by_cases hs : skipsF f k.flags k.set (glAt ls y).id = true
  ·simp only [h0, h1, h3, hs, vmp,↓vmd,seval]
   rw [hostF, if_pos (.inr (.inr (.inr (.inr hs))))]
   exact gives_tup rfl (by simp)
  have hs' : skipsF f k.flags k.set (glAt ls y).id = false := by simpa using hs
  simp only [h0, h1, h3, hs', vmp,↓vmd,seval]
  have hv := fun hh => hostF_eq hh h0 h1 h3 hs'
  by_cases h9 : k.kind = 9
  ·replace hv := hv (by simp [hungF, h9])
   have h11 : k.kind ≠ 11 := by omega
   simp only [h9, vmp,↓vmd,seval]
   refine onC_q (base_q f k ls hl y) rfl ?_
   (first | apply envO | apply envQ); simp only [vmp,↓vmd,seval]; rfl
   simp only [h9, vmp,↓vmd,seval]
   have hp := prvF_lt f k ls y
   have hin := baseM_in (f := f) (k := k) (ls := ls) (ls.length + 1) (i := prvF f k ls y) (by omega) (by omega)
   generalize baseM f k ls (ls.length + 1) (prvF f k ls y) = z at *
   generalize prvF f k ls y = w at *
   by_cases hz : z = -1
   ·rw [hostM_n h11 (.inl hz)] at hv
    simp only [h9, hz, vmp,↓vmd,seval]
    rw [hv]
    exact gives_tup rfl (by simp)
   have z0 : 0 ≤ z := by omega
   have z1 : z < ls.length := by omega
   have zn : ¬ z < 0 := by omega
   have hgz := glAt_map z0 z1
   simp only [h9, z0, z1, hgz, vmp,↓vmd,seval]
   refine onQ_q (rkat_q f ls z) rfl ?_
   (first | apply envO | apply envQ); simp only [vmp,↓vmd,seval]; rfl
   by_cases k2 : kAt f ls z = 2
   ·rw [hostM_n h11 (.inr (by simp [k2, h9]))] at hv
    simp only [h9, k2, z0, zn, show (true != false) = true from rfl, show (false != true) = true from rfl, vmp,↓vmd,seval]
    rw [hv]
    exact gives_tup rfl (by simp)
   ·rw [hostM_b h11 hz (by simp [k2, h9])] at hv
    simp only [h9, k2, z0, zn, vmp,↓vmd,seval]
    rw [hv]
    exact gives_tup rfl (by simp)
  by_cases h10 : k.kind = 10
  ·replace hv := hv (by simp [hungF, h10])
   have h11 : k.kind ≠ 11 := by omega
   simp only [h9, h10, vmp,↓vmd,seval]
   refine onC_q (base_q f k ls hl y) rfl ?_
   (first | apply envO | apply envQ); simp only [vmp,↓vmd,seval]; rfl
   simp only [h9, h10, vmp,↓vmd,seval]
   have hp := prvF_lt f k ls y
   have hin := baseM_in (f := f) (k := k) (ls := ls) (ls.length + 1) (i := prvF f k ls y) (by omega) (by omega)
   generalize baseM f k ls (ls.length + 1) (prvF f k ls y) = z at *
   generalize prvF f k ls y = w at *
   by_cases hz : z = -1
   ·rw [hostM_n h11 (.inl hz)] at hv
    simp only [h9, h10, hz, vmp,↓vmd,seval]
    rw [hv]
    exact gives_tup rfl (by simp)
   have z0 : 0 ≤ z := by omega
   have z1 : z < ls.length := by omega
   have zn : ¬ z < 0 := by omega
   have hgz := glAt_map z0 z1
   simp only [h9, h10, z0, z1, hgz, vmp,↓vmd,seval]
   refine onQ_q (rkat_q f ls z) rfl ?_
   (first | apply envO | apply envQ); simp only [vmp,↓vmd,seval]; rfl
   by_cases k2 : kAt f ls z = 2
   ·rw [hostM_b h11 hz (by simp [k2, h10])] at hv
    simp only [h9, h10, k2, z0, zn, vmp,↓vmd,seval]
    rw [hv]
    exact gives_tup rfl (by simp)
   ·rw [hostM_n h11 (.inr (by simp [k2, h10]))] at hv
    simp only [h9, h10, k2, z0, zn, show (true != false) = true from rfl, show (false != true) = true from rfl, vmp,↓vmd,seval]
    rw [hv]
    exact gives_tup rfl (by simp)
  by_cases h11 : k.kind = 11
  ·replace hv := hv (by simp [hungF, h11])
   simp only [h9, h10, h11, vmp,↓vmd,seval]
   refine onC_q (rprv_q f k ls hl y) rfl ?_
   (first | apply envO | apply envQ); simp only [vmp,↓vmd,seval]; rfl
   simp only [h9, h10, h11, vmp,↓vmd,seval]
   have hp := prvF_lt f k ls y
   generalize baseM f k ls (ls.length + 1) (prvF f k ls y) = bb at *
   generalize prvF f k ls y = z at *
   by_cases hz : z = -1
   ·rw [hostM_11n h11 (fun e => e.1 hz)] at hv
    simp only [h9, h10, h11, hz, vmp,↓vmd,seval]
    rw [hv]
    exact gives_tup rfl (by simp)
   have z0 : 0 ≤ z := by omega
   have z1 : z < ls.length := by omega
   have zn : ¬ z < 0 := by omega
   have hgz := glAt_map z0 z1
   simp only [h9, h10, h11, z0, z1, hgz, vmp,↓vmd,seval]
   refine onQ_q (rkat_q f ls z) rfl ?_
   (first | apply envO | apply envQ); simp only [vmp,↓vmd,seval]; rfl
   by_cases k3 : kAt f ls z = 3
   ·simp only [h9, h10, h11, k3, z0, z1, hgz, y0, y1, hg, vmp,↓vmd,seval]
    by_cases kl : (glAt ls z).lig = (glAt ls y).lig
    ·simp only [h9, h10, h11, k3, kl, z0, z1, hgz, y0, y1, hg, vmp,↓vmd,seval]
     by_cases kc : (glAt ls z).comp = (glAt ls y).comp
     ·rw [hostM_11 h11 hz k3 kl kc] at hv
      simp only [h9, h10, h11, k3, kl, kc, z0, zn, vmp,↓vmd,seval]
      rw [hv]
      exact gives_tup rfl (by simp)
     ·rw [hostM_11n h11 (fun e => kc e.2.2.2)] at hv
      simp only [h9, h10, h11, k3, kl, kc, z0, vmp,↓vmd,seval]
      rw [hv]
      exact gives_tup rfl (by simp)
    ·rw [hostM_11n h11 (fun e => kl e.2.2.1)] at hv
     simp only [h9, h10, h11, k3, kl, z0, vmp,↓vmd,seval]
     rw [hv]
     exact gives_tup rfl (by simp)
   ·rw [hostM_11n h11 (fun e => k3 e.2.1)] at hv
    simp only [h9, h10, h11, k3, z0, vmp,↓vmd,seval]
    rw [hv]
    exact gives_tup rfl (by simp)
  ·simp only [h9, h10, h11, vmp,↓vmd,seval]
   rw [hostF, if_pos (.inl (by simp [hungF, h9, h10, h11]))]
   exact gives_tup rfl (by simp)
 ·simp only [h0, h1, h3, vmp,↓vmd,seval]
  rw [hostF, if_pos (.inr (.inr (.inr (.inl h3))))]
  exact gives_tup rfl (by simp)
theorem spots_q (k : Lk) (x : Ho) (comp : Int) : FnQ Tryz.prog 117 [lk k, ho x, I comp] [spr (spotsF k.kind x.spots comp)] := by
 refine k117.q (by simp) ?_
 unfold c117
 simp only [*, vmp,↓vmd,seval]
 refine onIf_intro fun hl => ?_
 (first | apply envO | apply envQ); simp only [vmp,↓vmd,seval]; rfl
 simp only [*, vmp,↓vmd,seval]
 by_cases h0 : x.spots.length = 0
 ·have e : spotsF k.kind x.spots comp = [] := by rw [List.eq_nil_of_length_eq_zero h0]; simp [spotsF]
  simp only [h0, Int.natCast_zero, Int.ofNat_zero, show ((0 : Nat) : Int) = 0 from rfl, vmp,↓vmd,seval]
  rw [e]
  exact gives_empty
 have h0' : ¬ ((x.spots.length : Int) = 0) := by omega
 simp only [h0', vmp,↓vmd,seval]
 by_cases h10 : k.kind = 10
 ·simp only [h10, vmp,↓vmd,seval]
  refine onB_dec (fun h1 => ?_) (fun h1 => ?_)
  ·have w : IntKind.wrap .i64 ((x.spots.length : Int) - 1) = (x.spots.length : Int) - 1 := wrap_id (by omega) (by omega)
   have w0 : 0 ≤ (x.spots.length : Int) - 1 := by omega
   have w1 : (x.spots.length : Int) - 1 < x.spots.length := by omega
   have hc : compM k.kind x.spots.length comp = (x.spots.length : Int) - 1 := by rw [compM, if_neg (by omega), if_pos (.inl h1)]
   have hsp := spotsF_at (kind := k.kind) (l := x.spots) (comp := comp) (by rw [hc]; exact w0) (by rw [hc]; exact w1)
   have hgl := getE (f := spr) w0 w1
   simp only [hc] at hsp
   rw [← hsp] at hgl
   simp only [h1, w, w0, w1, hgl, vmp,↓vmd,seval]
   exact gives_pure
  simp only [h1, vmp,↓vmd,seval]
  refine onB_dec (fun h2 => ?_) (fun h2 => ?_)
  ·have w : IntKind.wrap .i64 ((x.spots.length : Int) - 1) = (x.spots.length : Int) - 1 := wrap_id (by omega) (by omega)
   have w0 : 0 ≤ (x.spots.length : Int) - 1 := by omega
   have w1 : (x.spots.length : Int) - 1 < x.spots.length := by omega
   have hc : compM k.kind x.spots.length comp = (x.spots.length : Int) - 1 := by rw [compM, if_neg (by omega), if_pos (.inr h2)]
   have hsp := spotsF_at (kind := k.kind) (l := x.spots) (comp := comp) (by rw [hc]; exact w0) (by rw [hc]; exact w1)
   have hgl := getE (f := spr) w0 w1
   simp only [hc] at hsp
   rw [← hsp] at hgl
   simp only [h1, h2, w, w0, w1, hgl, vmp,↓vmd,seval]
   exact gives_pure
  ·have w0 : 0 ≤ comp := by omega
   have w1 : comp < x.spots.length := by omega
   have hc : compM k.kind x.spots.length comp = comp := by rw [compM, if_neg (by omega), if_neg (by omega)]
   have hsp := spotsF_at (kind := k.kind) (l := x.spots) (comp := comp) (by rw [hc]; exact w0) (by rw [hc]; exact w1)
   have hgl := getE (f := spr) w0 w1
   simp only [hc] at hsp
   rw [← hsp] at hgl
   simp only [h1, h2, w0, w1, hgl, vmp,↓vmd,seval]
   exact gives_pure
 ·have hc : compM k.kind x.spots.length comp = 0 := by rw [compM, if_pos h10]
  have w1 : (0 : Int) < x.spots.length := by omega
  have hsp := spotsF_at (kind := k.kind) (l := x.spots) (comp := comp) (by rw [hc]; exact Int.le_refl _) (by rw [hc]; exact w1)
  have hgl := getE (f := spr) (Int.le_refl 0) w1
  simp only [hc] at hsp
  rw [← hsp] at hgl
  have hgl : (x.spots.map spr)[0]? = some (spr (spotsF k.kind x.spots comp)) := hgl
  simp only [h10, w1, hgl, vmp,↓vmd,seval]
  exact gives_pure
theorem ranchor_q (k : Lk) (hs : ∀ s ∈ k.subs, s.hosts.length ≤ 5000) (sb host cls comp : Int) : FnQ Tryz.prog 99 [lk k, I sb, I host, I cls, I comp] (ancR (anchorF k sb host cls comp)) := by
 refine k99.q (by simp) ?_
 unfold c99
 simp only [*, vmp,↓vmd,seval]
 refine onB_dec (fun h0 => ?_) (fun h0 => ?_)
 ·simp only [h0, vmp,↓vmd,seval]
  rw [show anchorF k sb host cls comp = none by rw [anchorF, if_pos h0]]
  exact gives_tup rfl (by simp)
 simp only [h0, vmp,↓vmd,seval]
 refine onIf_intro fun _ => ?_
 (first | apply envO | apply envQ); simp only [vmp,↓vmd,seval]; rfl
 simp only [h0, vmp,↓vmd,seval]
 refine onB_dec (fun h1 => ?_) (fun h1 => ?_)
 ·simp only [h0, h1, vmp,↓vmd,seval]
  rw [show anchorF k sb host cls comp = none by rw [anchorF, if_neg h0, List.getElem?_eq_none (by omega)]]
  exact gives_tup rfl (by simp)
 have b0 : 0 ≤ sb := by omega
 have b1 : sb < k.subs.length := by omega
 have hv := anchorF_at (host := host) (cls := cls) (comp := comp) b0 b1
 obtain ⟨s, hse⟩ : ∃ s, s = k.subs[sb.toNat]'(by omega) := ⟨_, rfl⟩
 have hg : (k.subs.map sub)[sb.toNat]? = some (sub s) := by rw [hse]; exact getE b0 b1
 have hh : s.hosts.length ≤ 5000 := hs s (by rw [hse]; exact List.getElem_mem _)
 rw [← hse] at hv
 generalize anchorF k sb host cls comp = out at hv
 simp only [h0, h1, b0, b1, hg, vmp,↓vmd,seval]
 refine loop_at (T := Nat) (fun j => [(13, .pure (I j)), (12, .pure (.sl (s.hosts.map ho))), (2, .pure (I host)), (3, .pure (I cls)), (4, .pure (I comp)), (5, .ptr 0 0 0), (10, .ptr 1 0 0)])
  (fun _ => [⟨[.pure (lk k)], 4, .live⟩, ⟨[.pure (.agg [I 0, I 0])], 2, .live⟩]) (fun j => j ≤ s.hosts.length ∧ findHo (s.hosts.drop j) host = findHo s.hosts host) (fun j => s.hosts.length - j)
  0 [0, 1] (by simp) rfl ⟨by simp, by simp⟩ (by simp only [kpp,seval]) (by simp only [kpp,seval]) ?_
 rintro j ⟨hj, hr⟩
 unfold c99_1
 simp only [vmp,↓vmd,seval]
 refine onIf_intro fun _ => ?_
 (first | apply envO | apply envQ); simp only [vmp,↓vmd,seval]; rfl
 simp only [vmp,↓vmd,seval]
 refine onB_dec (fun h2 => ?_) (fun h2 => ?_)
 ·have hlt : j < s.hosts.length := by omega
  rw [drop_at hlt, findHo] at hr
  have hgj : (s.hosts.map ho)[j]? = some (ho s.hosts[j]) := map_at hlt
  generalize s.hosts[j] = h at hr hgj
  simp only [h2, hgj, Int.natCast_nonneg, vmp,↓vmd,seval]
  by_cases h3 : h.glyph = host
  ·rw [if_pos h3] at hr
   rw [← hr] at hv
   simp only at hv
   simp only [h2, h3, hgj, Int.natCast_nonneg, vmp,↓vmd,seval]
   refine onC_q (spots_q k h comp) rfl ?_
   generalize spotsF k.kind h.spots comp = l at hv
   (first | apply envO | apply envQ); simp only [vmp,↓vmd,seval]; rfl
   simp only [h2, h3, vmp,↓vmd,seval]
   refine onB_dec (fun h5 => ?_) (fun h5 => ?_)
   ·rw [spotF_out (.inl h5)] at hv
    subst hv
    simp only [h5, vmp,↓vmd,seval]
    exact gives_tup rfl (by simp)
   simp only [h5, vmp,↓vmd,seval]
   refine onIf_intro fun _ => ?_
   (first | apply envO | apply envQ); simp only [vmp,↓vmd,seval]; rfl
   simp only [h5, vmp,↓vmd,seval]
   refine onB_dec (fun h6 => ?_) (fun h6 => ?_)
   ·rw [spotF_out (.inr h6)] at hv
    subst hv
    simp only [h5, h6, vmp,↓vmd,seval]
    exact gives_tup rfl (by simp)
   have x0 : 0 ≤ cls := by omega
   have x1 : cls < l.length := by omega
   have hgs := getE (f := spt) x0 x1
   rw [spotF_at x0 x1] at hv
   generalize l[cls.toNat]'(by omega) = q at hv hgs
   simp only [h5, h6, x0, x1, hgs, vmp,↓vmd,seval]
   have two : q.has = false ∨ q.has = true := by cases q.has <;> simp
   rcases two with h7 | h7
   ·rw [if_neg (by rw [h7]; simp)] at hv
    subst hv
    simp only [h5, h6, h7, vmp,↓vmd,seval]
    exact gives_tup rfl (by simp)
   ·rw [if_pos h7] at hv
    subst hv
    simp only [h5, h6, h7, x0, x1, hgs, vmp,↓vmd,seval]
    exact gives_tup rfl (by simp)
  ·rw [if_neg h3] at hr
   simp only [h3, vmp,↓vmd,seval]
   refine onBk_to (j + 1) [0, 1] (by simp) rfl (by omega) ⟨hlt, hr⟩ (by simp only [next_at hlt (by omega), kpp,seval]) (by simp only [kpp,seval])
 ·rw [List.drop_of_length_le (by omega), findHo] at hr
  rw [← hr] at hv
  simp only at hv
  subst hv
  simp only [h2, vmp,↓vmd,seval]
  unfold c99_0
  simp only [vmp,↓vmd,seval]
  exact gives_tup rfl (by simp)
def markR (o : Option Mk) : List V := [mk (o.getD ⟨0, 0, 0, 0⟩), .bool o.isSome]
theorem mark_q (s : Sub) (g : Int) : FnQ Tryz.prog 98 [sub s, I g] (markR (findMk s.marks g)) := by
 refine k98.q (by simp) ?_
 unfold c98
 simp only [*, vmp,↓vmd,seval]
 refine loop_at (T := Nat) (fun j => [(6, .pure (I j)), (1, .pure (I g)), (2, .ptr 0 0 0), (4, .ptr 1 0 0)])
  (fun _ => [⟨[.pure (sub s)], 12, .live⟩, ⟨[.pure (.agg [I 0, I 0, I 0, I 0])], 4, .live⟩]) (fun j => j ≤ s.marks.length ∧ findMk (s.marks.drop j) g = findMk s.marks g) (fun j => s.marks.length - j)
  0 [0, 1] (by simp) rfl ⟨by simp, by simp⟩ (by simp only [kpp,seval]) (by simp only [kpp,seval]) ?_
 rintro j ⟨hj, hr⟩
 unfold c98_1
 generalize findMk s.marks g = out at *
 simp only [vmp,↓vmd,seval]
 refine onIf_intro fun _ => ?_
 (first | apply envO | apply envQ); simp only [vmp,↓vmd,seval]; rfl
 simp only [vmp,↓vmd,seval]
 refine onB_dec (fun h2 => ?_) (fun h2 => ?_)
 ·have hlt : j < s.marks.length := by omega
  rw [drop_at hlt, findMk] at hr
  have hgj : (s.marks.map mk)[j]? = some (mk s.marks[j]) := map_at hlt
  generalize s.marks[j] = m at hr hgj
  simp only [h2, hgj, Int.natCast_nonneg, vmp,↓vmd,seval]
  by_cases h3 : m.glyph = g
  ·rw [if_pos h3] at hr
   subst hr
   simp only [h2, h3, hgj, Int.natCast_nonneg, vmp,↓vmd,seval]
   exact gives_tup rfl (by simp)
  ·rw [if_neg h3] at hr
   simp only [h3, vmp,↓vmd,seval]
   refine onBk_to (j + 1) [0, 1] (by simp) rfl (by omega) ⟨hlt, hr⟩ (by simp only [next_at hlt (by omega), kpp,seval]) (by simp only [kpp,seval])
 ·rw [List.drop_of_length_le (by omega), findMk] at hr
  subst hr
  simp only [h2, vmp,↓vmd,seval]
  unfold c98_0
  simp only [vmp,↓vmd,seval]
  exact gives_tup rfl (by simp)
def envR (ls : List Gl) (y p c : Int) (i : Nat) : Env := [(13, .pure (I i)), (2, .pure (.sl (ls.map gl))), (3, .pure (I y)), (5, .ptr 0 0 0), (10, .pure (I p)), (12, .pure (I c))]
theorem envR_eq {ls : List Gl} {y p c : Int} {i : Nat} : envR ls y p c i = [(13, .pure (I i)), (2, .pure (.sl (ls.map gl))), (3, .pure (I y)), (5, .ptr 0 0 0), (10, .pure (I p)), (12, .pure (I c))] := rfl
theorem rapply34_loop (k : Lk) (ls : List Gl) (hl : ls.length ≤ 1000) (hs : ∀ s ∈ k.subs, s.marks.length ≤ 5000 ∧ s.hosts.length ≤ 5000) (y p c : Int) (y0 : 0 ≤ y) (y1 : y < ls.length) (p0 : 0 ≤ p) (p2 : p < ls.length) (out : Option (List Gl))
  (hv : out = hangM ls y p (goM k (glAt ls y).id (glAt ls p).id c 0 k.subs)) (l : List Nat) (hln : l.Nodup) {env : Env} {H : Heap} (hE : keepE env l.length (pick l) (envR ls y p c 0)) (hH : keepH H l.length (pick l) l [⟨[.pure (lk k)], 4, .live⟩]) :
  aWx Tryz.prog 0 (.loop c61_1) (blockA 0 (thenA (aWx Tryz.prog 0 c61_0 (PostX [.t 8, .t 9] (Gives (hangR out)))) (PostX [.t 8, .t 9] (Gives (hangR out))))) env H := by
 have hgy := glAt_map y0 y1
 have hgp := glAt_map p0 p2
 refine loop_at (T := Nat) (envR ls y p c) (fun _ => [⟨[.pure (lk k)], 4, .live⟩]) (fun i => i ≤ k.subs.length ∧ goM k (glAt ls y).id (glAt ls p).id c i (k.subs.drop i) = goM k (glAt ls y).id (glAt ls p).id c 0 k.subs) (fun i => k.subs.length - i)
  0 l hln rfl ⟨by simp, by simp⟩ hE hH ?_
 rintro i ⟨hi, hr⟩
 rw [envR_eq]
 unfold c61_1
 simp only [vmp,↓vmd,seval]
 refine onIf_intro fun hk => ?_
 (first | apply envO | apply envQ); simp only [vmp,↓vmd,seval]; rfl
 simp only [vmp,↓vmd,seval]
 refine onB_dec (fun h1 => ?_) (fun h1 => ?_)
 ·have hlt : i < k.subs.length := by omega
  rw [drop_at hlt, goM_step] at hr
  have hgi : (k.subs.map sub)[i]? = some (sub k.subs[i]) := map_at hlt
  generalize k.subs[i] = s at hr hgi
  simp only [h1, hgi, Int.natCast_nonneg, y0, y1, hgy, vmp,↓vmd,seval]
  refine onQ_q (mark_q s (glAt ls y).id) rfl ?_
  generalize findMk s.marks (glAt ls y).id = m at hr
  cases m with
  | none =>
   simp only at hr
   (first | apply envO | apply envQ); simp only [vmp,↓vmd,seval]; rfl
   simp only [markR, Option.getD_none, Option.isSome_none, vmp,↓vmd,seval]
   refine onBk_to (i + 1) [0] (by simp) rfl (by omega) ⟨hlt, hr⟩ (by simp only [envR_eq, next_at hlt (by omega), kpp,seval]) (by simp only [kpp,seval])
  | some m =>
   simp only at hr
   (first | apply envO | apply envQ); simp only [vmp,↓vmd,seval]; rfl
   simp only [markR, Option.getD_some, Option.isSome_some, p0, p2, hgp, vmp,↓vmd,seval]
   refine onQ_q (ranchor_q k (fun s h => (hs s h).2) (i : Int) (glAt ls p).id m.cls c) rfl ?_
   generalize anchorF k (i : Int) (glAt ls p).id m.cls c = a at hr
   cases a with
   | none =>
    simp only at hr
    (first | apply envO | apply envQ); simp only [vmp,↓vmd,seval]; rfl
    simp only [ancR, Option.getD_none, Option.isSome_none, vmp,↓vmd,seval]
    refine onBk_to (i + 1) [0] (by simp) rfl (by omega) ⟨hlt, hr⟩ (by simp only [envR_eq, next_at hlt (by omega), kpp,seval]) (by simp only [kpp,seval])
   | some a =>
    simp only at hr
    rw [← hr] at hv
    rw [hangM] at hv
    simp only at hv
    subst hv
    (first | apply envO | apply envQ); simp only [vmp,↓vmd,seval]; rfl
    simp only [ancR, Option.getD_some, Option.isSome_some, vmp,↓vmd,seval]
    refine onIf'_intro (appOk0_map (fun _ => rfl) (by omega) (by simp [maxLen]; omega)) ?_
    (first | apply envO | apply envQ); simp only [vmp,↓vmd,seval]; rfl
    have hgr := glAt_row y0 y1
    have hset : ∀ (L : List Gl) (c0 c1 c2 c3 c4 c5 c6 c7 c8 c9 : Int), ((L.map gl).map S.pure).set y.toNat (.pure (.agg [I c0, I c1, I c2, I c3, I c4, I c5, I c6, I c7, I c8, I c9])) = ((L.set y.toNat ⟨c0, c1, c2, c3, c4, c5, c6, c7, c8, c9⟩).map gl).map S.pure := fun L c0 c1 c2 c3 c4 c5 c6 c7 c8 c9 => row_set (f := gl) (a := ⟨c0, c1, c2, c3, c4, c5, c6, c7, c8, c9⟩)
    have hat : ∀ g, (((ls.set y.toNat g).map gl).map S.pure)[y.toNat]? = some (.pure (gl g)) := fun g => by
     have := glAt_row (ls := ls.set y.toNat g) y0 (by rw [List.length_set]; exact y1)
     rw [this, glAt_set, if_pos ⟨rfl, by omega⟩]
    simp only [y0, y1, hgr, hset, hat, List.set_set, vmp,↓vmd,seval]
    exact gives_tup (toVs_of (toV_rowN rfl (.inr ⟨rfl, rfl⟩) (by simp)) rfl) (by simp)
 ·rw [List.drop_of_length_le (by omega), goM] at hr
  rw [← hr, hangM] at hv
  subst hv
  simp only [h1, vmp,↓vmd,seval]
  unfold c61_0
  simp only [vmp,↓vmd,seval]
  exact gives_tup rfl (by simp)
theorem rapply34_q (f : Fo) (k : Lk) (ls : List Gl) (hl : ls.length ≤ 1000) (hs : ∀ s ∈ k.subs, s.marks.length ≤ 5000 ∧ s.hosts.length ≤ 5000) (y : Int) : FnQ Tryz.prog 61 [fo f, lk k, .sl (ls.map gl), I y] (hangR (markF f k ls y)) := by
 refine k61.q (by simp) ?_
 unfold c61
 have hq := rhost_q f k ls hl y
 have hin := @hostF_in f k ls y
 have hv : markF f k ls y = match hostF f k ls y with
  | none => none
  | some p => hangM ls y p (goM k (glAt ls y).id (glAt ls p).id (compF (glAt ls y) (glAt ls p)) 0 k.subs) := by
  rw [markF]
  cases hostF f k ls y with
  | none => rfl
  | some p =>
   simp only
   cases goM k (glAt ls y).id (glAt ls p).id (compF (glAt ls y) (glAt ls p)) 0 k.subs <;> rfl
 generalize markF f k ls y = out at *
 generalize hostF f k ls y = o at *
 simp only [*, vmp,↓vmd,seval]
 refine onC_q hq rfl ?_
 cases o with
 | none =>
  subst hv
  simp only [hostR, Option.getD_none, Option.isSome_none, vmp,↓vmd,seval]
  exact gives_tup rfl (by simp)
 | some p =>
  obtain ⟨y0, y1, h3, p0, p1⟩ := hin rfl
  have p2 : p < ls.length := by omega
  have hgy := glAt_map y0 y1
  have hgp := glAt_map p0 p2
  simp only at hv
  simp only [hostR, Option.getD_some, Option.isSome_some, y0, y1, hgy, vmp,↓vmd,seval]
  by_cases hlig : (glAt ls y).lig = 0
  ·rw [compF, if_neg (fun e => e.1 hlig)] at hv
   simp only [hlig, vmp,↓vmd,seval]
   exact rapply34_loop k ls hl hs y p (-1) y0 y1 p0 p2 out hv [1] (by simp) (by simp only [envR_eq, kpp,seval]) (by simp only [kpp,seval])
  simp only [hlig, p0, p2, hgp, y0, y1, hgy, vmp,↓vmd,seval]
  by_cases hl2 : (glAt ls y).lig = (glAt ls p).lig
  ·rw [compF, if_pos ⟨hlig, hl2⟩] at hv
   simp only [hlig, eq_true hl2, y0, y1, hgy, vmp,↓vmd,seval]
   exact rapply34_loop k ls hl hs y p (glAt ls y).comp y0 y1 p0 p2 out hv [1] (by simp) (by simp only [envR_eq, kpp,seval]) (by simp only [kpp,seval])
  ·rw [compF, if_neg (fun e => hl2 e.2)] at hv
   simp only [hlig, hl2, vmp,↓vmd,seval]
   exact rapply34_loop k ls hl hs y p (-1) y0 y1 p0 p2 out hv [1] (by simp) (by simp only [envR_eq, kpp,seval]) (by simp only [kpp,seval])
end Go.Proofs.YtcjmkpkhjhjepaaGreat.W
