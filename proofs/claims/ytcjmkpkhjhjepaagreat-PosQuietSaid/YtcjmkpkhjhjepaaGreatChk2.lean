/-
  What a font may be: the document's functions, of glyphs, maps and tables. No condition.
-/
import Derived.Test.YtcjmkpkhjhjepaaGreatChk1
namespace Go.Proofs.YtcjmkpkhjhjepaaGreat.W
open Go Go.Vm Go.Proofs
set_option maxRecDepth 100000
set_option linter.unusedSimpArgs false
set_option maxHeartbeats 4000000
/-! typecase/typecaseref21.glyphs -/
def c26_0 : AC :=
 (.seq (.reg [oo 2 (.mov (nB true))])
 .ret)
def c26_1 : AC :=
 (.reg [oo 22 (.mov (.s 3)),
 oo 23 (.bin .add (.s 22) (nI 1)),
 oo 3 (.mov (.s 23))])
def c26_2 : AC :=
 (.seq (.seq (.reg [oo 68 (.mov (.s 5)),
 oo 69 (.fldA 3 (.s 4)),
 oo 70 (.load false 1 (.s 69)),
 oo 71 (.len (.s 70)),
 oo 72 (.bin .lss (.s 68) (.s 71))])
 (.cond (.s 72)
 .skip
 (.exit 2)))
 (.seq (.block 3
 (.seq (.reg [oo 75 (.fldA 3 (.s 4)),
 oo 76 (.load false 1 (.s 75)),
 oo 77 (.mov (.s 5)),
 oo 78 (.idxA 1 (.s 76) (.s 77)),
 oo 79 (.load false 1 (.s 78)),
 oo 80 (.call 39 [(.s 79)]),
 oo 81 (.un .not (.s 80))])
 (.cond (.s 81)
 (.seq (.reg [oo 2 (.mov (nB false))])
 .ret)
 .skip)))
 (.reg [oo 73 (.mov (.s 5)),
 oo 74 (.bin .add (.s 73) (nI 1)),
 oo 5 (.mov (.s 74))])))
def c26_3 : AC :=
 (.seq (.seq (.reg [oo 17 (.mov (.s 3)),
 oo 18 (.fldA 1 (.s 1)),
 oo 19 (.load false 1 (.s 18)),
 oo 20 (.len (.s 19)),
 oo 21 (.bin .lss (.s 17) (.s 20))])
 (.cond (.s 21)
 .skip
 (.exit 0)))
 (.seq (.block 1
 (.seq (.reg [oo 24 (.fldA 1 (.s 1)),
 oo 25 (.load false 1 (.s 24)),
 oo 26 (.mov (.s 3)),
 oo 27 (.idxA 4 (.s 25) (.s 26)),
 oo 28 (.load true 4 (.s 27)),
 oo 4 (.box (.c (.agg [(pI 0), (pI 0), (pI 0), .empty]))),
⟨none, none, .store 4 (.s 4) (.s 28)⟩])
 (.seq (.seq (.reg [oo 29 (.fldA 0 (.s 4)),
 oo 30 (.load false 1 (.s 29)),
 oo 31 (.call 39 [(.s 30)]),
 oo 32 (.un .not (.s 31)),
 oo 33 (.mov (.s 32)),
 og 34 33 false (.fldA 1 (.s 4)),
 og 35 33 false (.load false 1 (.s 34)),
 og 36 33 false (.call 38 [(.s 35), (nI 0), (nI 3)]),
 og 37 33 false (.un .not (.s 36)),
 oo 38 (.pick (.s 33) (nB true) (.s 37)),
 oo 39 (.mov (.s 38)),
 og 40 39 false (.fldA 2 (.s 4)),
 og 41 39 false (.load false 1 (.s 40)),
 og 42 39 false (.call 38 [(.s 41), (nI 0), (nI 255)]),
 og 43 39 false (.un .not (.s 42)),
 oo 44 (.pick (.s 39) (nB true) (.s 43)),
 oo 45 (.mov (.s 44)),
 og 46 45 false (.fldA 3 (.s 4)),
 og 47 45 false (.load false 1 (.s 46)),
 og 48 45 false (.len (.s 47)),
 og 49 45 false (.bin .gtr (.s 48) (nI 15)),
 oo 50 (.pick (.s 45) (nB true) (.s 49)),
 oo 51 (.mov (.s 50)),
 og 52 51 false (.fldA 3 (.s 4)),
 og 53 51 false (.load false 1 (.s 52)),
 og 54 51 false (.call 40 [(.s 53)]),
 og 55 51 false (.un .not (.s 54)),
 oo 56 (.pick (.s 51) (nB true) (.s 55)),
 oo 57 (.mov (.s 56)),
 og 58 57 false (.fldA 3 (.s 4)),
 og 59 57 false (.load false 1 (.s 58)),
 og 60 57 false (.len (.s 59)),
 og 61 57 false (.bin .gtr (.s 60) (nI 0)),
 og 62 57 false (.mov (.s 61)),
 og 63 62 true (.fldA 1 (.s 4)),
 og 64 62 true (.load false 1 (.s 63)),
 og 65 62 true (.bin .neq (.s 64) (nI 2)),
 og 66 57 false (.pick (.s 62) (.s 65) (nB false)),
 oo 67 (.pick (.s 57) (nB true) (.s 66))])
 (.cond (.s 67)
 (.seq (.reg [oo 2 (.mov (nB false))])
 .ret)
 .skip))
 (.seq (.reg [oo 5 (.mov (nI 0))])
 (.block 2
 (.loop c26_2))))))
 c26_1))
def c26 : AC :=
 (.seq (.reg [oo 1 (.box (.s 0)),
 oo 2 (.mov (nB false))])
 (.seq (.seq (.reg [oo 6 (.fldA 0 (.s 1)),
 oo 7 (.load false 1 (.s 6)),
 oo 8 (.call 38 [(.s 7), (nI 1), (nI 16384)]),
 oo 9 (.un .not (.s 8)),
 oo 10 (.mov (.s 9)),
 og 11 10 false (.fldA 1 (.s 1)),
 og 12 10 false (.load false 1 (.s 11)),
 og 13 10 false (.len (.s 12)),
 og 14 10 false (.call 38 [(.s 13), (nI 1), (nI 4096)]),
 og 15 10 false (.un .not (.s 14)),
 oo 16 (.pick (.s 10) (nB true) (.s 15))])
 (.cond (.s 16)
 (.seq (.reg [oo 2 (.mov (nB false))])
 .ret)
 .skip))
 (.seq (.seq (.reg [oo 3 (.mov (nI 0))])
 (.block 0
 (.loop c26_3)))
 c26_0)))
theorem k26 : OkF 26 Tryz.f26 c26 [.t 2] 82 := ⟨Tryz.func26, by kernel_rfl, by kernel_rfl, by kernel_rfl, Tryz.ntmps26⟩
/-! typecase/typecaseref21.maps -/
def c27_0 : AC :=
 (.seq (.reg [oo 2 (.mov (nB true))])
 .ret)
def c27_1 : AC :=
 (.seq (.seq (.reg [oo 55 (.mov (.s 5)),
 oo 56 (.fldA 5 (.s 1)),
 oo 57 (.load false 1 (.s 56)),
 oo 58 (.len (.s 57)),
 oo 59 (.bin .lss (.s 55) (.s 58))])
 (.cond (.s 59)
 .skip
 (.exit 2)))
 (.seq (.block 3
 (.seq (.regq [oo 62 (.load true 6 (.s 1)),
 oo 63 (.fldA 5 (.s 1)),
 oo 64 (.load false 1 (.s 63)),
 oo 65 (.mov (.s 5)),
 oo 66 (.idxA 1 (.s 64) (.s 65)),
 oo 67 (.load false 1 (.s 66))]
[oo 68 (.call 43 [(.s 62), (.s 67)]),
 oo 69 (.un .not (.s 68))])
 (.cond (.s 69)
 (.seq (.reg [oo 2 (.mov (nB false))])
 .ret)
 .skip)))
 (.reg [oo 60 (.mov (.s 5)),
 oo 61 (.bin .add (.s 60) (nI 1)),
 oo 5 (.mov (.s 61))])))
def c27_2 : AC :=
 (.seq (.seq (.reg [oo 5 (.mov (nI 0))])
 (.block 2
 (.loop c27_1)))
 c27_0)
def c27_3 : AC :=
 (.seq (.seq (.reg [oo 16 (.mov (.s 3)),
 oo 17 (.fldA 2 (.s 1)),
 oo 18 (.load false 1 (.s 17)),
 oo 19 (.len (.s 18)),
 oo 20 (.bin .lss (.s 16) (.s 19))])
 (.cond (.s 20)
 .skip
 (.exit 0)))
 (.seq (.block 1
 (.seq (.reg [oo 23 (.fldA 2 (.s 1)),
 oo 24 (.load false 1 (.s 23)),
 oo 25 (.mov (.s 3)),
 oo 26 (.idxA 2 (.s 24) (.s 25)),
 oo 27 (.load true 2 (.s 26)),
 oo 4 (.box (.c (.pure (.agg [(.int .i32 0), (.int .i64 0)])))),
⟨none, none, .store 2 (.s 4) (.s 27)⟩])
 (.seq (.regq [oo 28 (.fldA 0 (.s 4)),
 oo 29 (.load false 1 (.s 28)),
 oo 30 (.call 41 [(.s 29)]),
 oo 31 (.un .not (.s 30)),
 oo 32 (.mov (.s 31)),
 og 33 32 false (.load true 6 (.s 1)),
 og 34 32 false (.fldA 1 (.s 4)),
 og 35 32 false (.load false 1 (.s 34)),
 og 36 32 false (.call 42 [(.s 33), (.s 35)]),
 og 37 32 false (.un .not (.s 36)),
 oo 38 (.pick (.s 32) (nB true) (.s 37)),
 oo 39 (.mov (.s 38)),
 og 40 39 false (.mov (.s 3)),
 og 41 39 false (.bin .gtr (.s 40) (nI 0)),
 og 42 39 false (.mov (.s 41)),
 og 43 42 true (.fldA 0 (.s 4)),
 og 44 42 true (.load false 1 (.s 43)),
 og 45 42 true (.fldA 2 (.s 1)),
 og 46 42 true (.load false 1 (.s 45)),
 og 47 42 true (.mov (.s 3)),
 og 48 42 true (.bin .sub (.s 47) (nI 1)),
 og 49 42 true (.idxA 2 (.s 46) (.s 48)),
 og 50 42 true (.fldA 0 (.s 49)),
 og 51 42 true (.load false 1 (.s 50))]
[og 52 42 true (.bin .leq (.s 44) (.s 51)),
 og 53 39 false (.pick (.s 42) (.s 52) (nB false)),
 oo 54 (.pick (.s 39) (nB true) (.s 53))])
 (.cond (.s 54)
 (.seq (.reg [oo 2 (.mov (nB false))])
 .ret)
 .skip))))
 (.reg [oo 21 (.mov (.s 3)),
 oo 22 (.bin .add (.s 21) (nI 1)),
 oo 3 (.mov (.s 22))])))
def c27 : AC :=
 (.seq (.reg [oo 1 (.box (.s 0)),
 oo 2 (.mov (nB false))])
 (.seq (.seq (.reg [oo 6 (.fldA 2 (.s 1)),
 oo 7 (.load false 1 (.s 6)),
 oo 8 (.len (.s 7)),
 oo 9 (.bin .gtr (.s 8) (nI 4096)),
 oo 10 (.mov (.s 9)),
 og 11 10 false (.fldA 5 (.s 1)),
 og 12 10 false (.load false 1 (.s 11)),
 og 13 10 false (.len (.s 12)),
 og 14 10 false (.bin .gtr (.s 13) (nI 16)),
 oo 15 (.pick (.s 10) (nB true) (.s 14))])
 (.cond (.s 15)
 (.seq (.reg [oo 2 (.mov (nB false))])
 .ret)
 .skip))
 (.seq (.seq (.reg [oo 3 (.mov (nI 0))])
 (.block 0
 (.loop c27_3)))
 c27_2)))
theorem k27 : OkF 27 Tryz.f27 c27 [.t 2] 70 := ⟨Tryz.func27, by kernel_rfl, by kernel_rfl, by kernel_rfl, Tryz.ntmps27⟩
/-! typecase/typecaseref21.to -/
def c64_0 : AC :=
 (.seq (.reg [oo 8 (.mov (nB true))])
 .ret)
def c64_1 : AC :=
 (.seq (.seq (.reg [oo 24 (.mov (.s 9)),
 oo 25 (.fldA 1 (.s 5)),
 oo 26 (.load false 1 (.s 25)),
 oo 27 (.len (.s 26)),
 oo 28 (.bin .lss (.s 24) (.s 27))])
 (.cond (.s 28)
 .skip
 (.exit 0)))
 (.seq (.block 1
 (.seq (.regq [oo 31 (.fldA 1 (.s 5)),
 oo 32 (.load false 1 (.s 31)),
 oo 33 (.mov (.s 9)),
 oo 34 (.idxA 1 (.s 32) (.s 33)),
 oo 35 (.load false 1 (.s 34)),
 oo 36 (.len (.s 35)),
 oo 37 (.mov (.s 2)),
 oo 38 (.mov (.s 3)),
 oo 39 (.call 38 [(.s 36), (.s 37), (.s 38)]),
 oo 40 (.un .not (.s 39)),
 oo 41 (.mov (.s 40)),
 og 42 41 false (.load true 6 (.s 4)),
 og 43 41 false (.fldA 1 (.s 5)),
 og 44 41 false (.load false 1 (.s 43)),
 og 45 41 false (.mov (.s 9)),
 og 46 41 false (.idxA 1 (.s 44) (.s 45)),
 og 47 41 false (.load false 1 (.s 46))]
[og 48 41 false (.call 62 [(.s 42), (.s 47)]),
 og 49 41 false (.un .not (.s 48)),
 oo 50 (.pick (.s 41) (nB true) (.s 49))])
 (.cond (.s 50)
 (.seq (.reg [oo 8 (.mov (nB false))])
 .ret)
 .skip)))
 (.reg [oo 29 (.mov (.s 9)),
 oo 30 (.bin .add (.s 29) (nI 1)),
 oo 9 (.mov (.s 30))])))
def c64 : AC :=
 (.seq (.reg [oo 4 (.box (.s 0)),
 oo 5 (.box (.s 1)),
 oo 8 (.mov (nB false))])
 (.seq (.seq (.reg [oo 10 (.load true 6 (.s 4)),
 oo 11 (.fldA 0 (.s 5)),
 oo 12 (.load false 1 (.s 11)),
 oo 13 (.call 43 [(.s 10), (.s 12)]),
 oo 14 (.un .not (.s 13)),
 oo 15 (.mov (.s 14)),
 og 16 15 false (.fldA 1 (.s 5)),
 og 17 15 false (.load false 1 (.s 16)),
 og 18 15 false (.len (.s 17)),
 og 19 15 false (.fldA 0 (.s 5)),
 og 20 15 false (.load false 1 (.s 19)),
 og 21 15 false (.len (.s 20)),
 og 22 15 false (.bin .neq (.s 18) (.s 21)),
 oo 23 (.pick (.s 15) (nB true) (.s 22))])
 (.cond (.s 23)
 (.seq (.reg [oo 8 (.mov (nB false))])
 .ret)
 .skip))
 (.seq (.seq (.reg [oo 9 (.mov (nI 0))])
 (.block 0
 (.loop c64_1)))
 c64_0)))
theorem k64 : OkF 64 Tryz.f64 c64 [.t 8] 51 := ⟨Tryz.func64, by kernel_rfl, by kernel_rfl, by kernel_rfl, Tryz.ntmps64⟩
/-! typecase/typecaseref21.ligs -/
def c65_0 : AC :=
 (.seq (.reg [oo 75 (.mov (.s 5)),
 oo 76 (.bin .leq (.s 75) (nI 4096)),
 oo 4 (.mov (.s 76))])
 .ret)
def c65_1 : AC :=
 (.reg [oo 28 (.mov (.s 6)),
 oo 29 (.bin .add (.s 28) (nI 1)),
 oo 6 (.mov (.s 29))])
def c65_2 : AC :=
 (.seq (.seq (.reg [oo 38 (.mov (.s 7)),
 oo 39 (.fldA 2 (.s 3)),
 oo 40 (.load false 1 (.s 39)),
 oo 41 (.mov (.s 6)),
 oo 42 (.idxA 1 (.s 40) (.s 41)),
 oo 43 (.load false 1 (.s 42)),
 oo 44 (.len (.s 43)),
 oo 45 (.bin .lss (.s 38) (.s 44))])
 (.cond (.s 45)
 .skip
 (.exit 2)))
 (.seq (.block 3
 (.seq (.reg [oo 48 (.fldA 2 (.s 3)),
 oo 49 (.load false 1 (.s 48)),
 oo 50 (.mov (.s 6)),
 oo 51 (.idxA 1 (.s 49) (.s 50)),
 oo 52 (.load false 1 (.s 51)),
 oo 53 (.mov (.s 7)),
 oo 54 (.idxA 2 (.s 52) (.s 53)),
 oo 55 (.load true 2 (.s 54)),
 oo 8 (.box (.c (.agg [.empty, (pI 0)]))),
⟨none, none, .store 2 (.s 8) (.s 55)⟩])
 (.seq (.reg [oo 56 (.fldA 0 (.s 8)),
 oo 57 (.load false 1 (.s 56)),
 oo 58 (.len (.s 57)),
 oo 59 (.call 38 [(.s 58), (nI 1), (nI 15)]),
 oo 60 (.un .not (.s 59)),
 oo 61 (.mov (.s 60)),
 og 62 61 false (.load true 6 (.s 2)),
 og 63 61 false (.fldA 0 (.s 8)),
 og 64 61 false (.load false 1 (.s 63)),
 og 65 61 false (.call 62 [(.s 62), (.s 64)]),
 og 66 61 false (.un .not (.s 65)),
 oo 67 (.pick (.s 61) (nB true) (.s 66)),
 oo 68 (.mov (.s 67)),
 og 69 68 false (.load true 6 (.s 2)),
 og 70 68 false (.fldA 1 (.s 8)),
 og 71 68 false (.load false 1 (.s 70)),
 og 72 68 false (.call 42 [(.s 69), (.s 71)]),
 og 73 68 false (.un .not (.s 72)),
 oo 74 (.pick (.s 68) (nB true) (.s 73))])
 (.cond (.s 74)
 (.seq (.reg [oo 4 (.mov (nB false))])
 .ret)
 .skip))))
 (.reg [oo 46 (.mov (.s 7)),
 oo 47 (.bin .add (.s 46) (nI 1)),
 oo 7 (.mov (.s 47))])))
def c65_3 : AC :=
 (.seq (.seq (.reg [oo 23 (.mov (.s 6)),
 oo 24 (.fldA 2 (.s 3)),
 oo 25 (.load false 1 (.s 24)),
 oo 26 (.len (.s 25)),
 oo 27 (.bin .lss (.s 23) (.s 26))])
 (.cond (.s 27)
 .skip
 (.exit 0)))
 (.seq (.block 1
 (.seq (.reg [oo 30 (.mov (.s 5)),
 oo 31 (.fldA 2 (.s 3)),
 oo 32 (.load false 1 (.s 31)),
 oo 33 (.mov (.s 6)),
 oo 34 (.idxA 1 (.s 32) (.s 33)),
 oo 35 (.load false 1 (.s 34)),
 oo 36 (.len (.s 35)),
 oo 37 (.bin .add (.s 30) (.s 36)),
 oo 5 (.mov (.s 37))])
 (.seq (.reg [oo 7 (.mov (nI 0))])
 (.block 2
 (.loop c65_2)))))
 c65_1))
def c65 : AC :=
 (.seq (.reg [oo 2 (.box (.s 0)),
 oo 3 (.box (.s 1)),
 oo 4 (.mov (nB false))])
 (.seq (.seq (.reg [oo 9 (.load true 6 (.s 2)),
 oo 10 (.fldA 0 (.s 3)),
 oo 11 (.load false 1 (.s 10)),
 oo 12 (.call 43 [(.s 9), (.s 11)]),
 oo 13 (.un .not (.s 12)),
 oo 14 (.mov (.s 13)),
 og 15 14 false (.fldA 2 (.s 3)),
 og 16 14 false (.load false 1 (.s 15)),
 og 17 14 false (.len (.s 16)),
 og 18 14 false (.fldA 0 (.s 3)),
 og 19 14 false (.load false 1 (.s 18)),
 og 20 14 false (.len (.s 19)),
 og 21 14 false (.bin .neq (.s 17) (.s 20)),
 oo 22 (.pick (.s 14) (nB true) (.s 21))])
 (.cond (.s 22)
 (.seq (.reg [oo 4 (.mov (nB false))])
 .ret)
 .skip))
 (.seq (.reg [oo 5 (.mov (nI 0))])
 (.seq (.seq (.reg [oo 6 (.mov (nI 0))])
 (.block 0
 (.loop c65_3)))
 c65_0))))
theorem k65 : OkF 65 Tryz.f65 c65 [.t 4] 77 := ⟨Tryz.func65, by kernel_rfl, by kernel_rfl, by kernel_rfl, Tryz.ntmps65⟩
/-! typecase/typecaseref21.around -/
def c66_0 : AC :=
 (.seq (.reg [oo 6 (.mov (nB true))])
 .ret)
def c66_1 : AC :=
 (.seq (.seq (.reg [oo 34 (.mov (.s 7)),
 oo 35 (.fldA 6 (.s 5)),
 oo 36 (.load false 1 (.s 35)),
 oo 37 (.len (.s 36)),
 oo 38 (.bin .lss (.s 34) (.s 37))])
 (.cond (.s 38)
 .skip
 (.exit 0)))
 (.seq (.block 1
 (.seq (.reg [oo 41 (.fldA 6 (.s 5)),
 oo 42 (.load false 1 (.s 41)),
 oo 43 (.mov (.s 7)),
 oo 44 (.idxA 2 (.s 42) (.s 43)),
 oo 45 (.load true 2 (.s 44)),
 oo 8 (.box (.c (.pure (.agg [(.int .i64 0), (.int .i64 0)])))),
⟨none, none, .store 2 (.s 8) (.s 45)⟩])
 (.seq (.regq [oo 46 (.fldA 0 (.s 8)),
 oo 47 (.load false 1 (.s 46)),
 oo 48 (.fldA 4 (.s 5)),
 oo 49 (.load false 1 (.s 48)),
 oo 50 (.len (.s 49)),
 oo 51 (.bin .sub (.s 50) (nI 1)),
 oo 52 (.call 38 [(.s 47), (nI 0), (.s 51)]),
 oo 53 (.un .not (.s 52)),
 oo 54 (.mov (.s 53)),
 og 55 54 false (.fldA 1 (.s 8)),
 og 56 54 false (.load false 1 (.s 55)),
 og 57 54 false (.fldA 3 (.s 3)),
 og 58 54 false (.load false 1 (.s 57)),
 og 59 54 false (.len (.s 58)),
 og 60 54 false (.bin .sub (.s 59) (nI 1)),
 og 61 54 false (.call 38 [(.s 56), (nI 0), (.s 60)]),
 og 62 54 false (.un .not (.s 61)),
 oo 63 (.pick (.s 54) (nB true) (.s 62)),
 oo 64 (.mov (.s 63)),
 og 65 64 false (.fldA 3 (.s 3)),
 og 66 64 false (.load false 1 (.s 65)),
 og 67 64 false (.fldA 1 (.s 8)),
 og 68 64 false (.load false 1 (.s 67)),
 og 69 64 false (.idxA 4 (.s 66) (.s 68)),
 og 70 64 false (.fldA 0 (.s 69)),
 og 71 64 false (.load false 1 (.s 70)),
 og 72 64 false (.call 44 [(.s 71)]),
 og 73 64 false (.fldA 0 (.s 4)),
 og 74 64 false (.load false 1 (.s 73))]
[og 75 64 false (.call 44 [(.s 74)]),
 og 76 64 false (.bin .neq (.s 72) (.s 75)),
 oo 77 (.pick (.s 64) (nB true) (.s 76))])
 (.cond (.s 77)
 (.seq (.reg [oo 6 (.mov (nB false))])
 .ret)
 .skip))))
 (.reg [oo 39 (.mov (.s 7)),
 oo 40 (.bin .add (.s 39) (nI 1)),
 oo 7 (.mov (.s 40))])))
def c66 : AC :=
 (.seq (.reg [oo 3 (.box (.s 0)),
 oo 4 (.box (.s 1)),
 oo 5 (.box (.s 2)),
 oo 6 (.mov (nB false))])
 (.seq (.seq (.reg [oo 9 (.load true 6 (.s 3)),
 oo 10 (.fldA 4 (.s 5)),
 oo 11 (.load false 1 (.s 10)),
 oo 12 (.call 67 [(.s 9), (.s 11), (nI 1)]),
 oo 13 (.un .not (.s 12)),
 oo 14 (.mov (.s 13)),
 og 15 14 false (.load true 6 (.s 3)),
 og 16 14 false (.fldA 3 (.s 5)),
 og 17 14 false (.load false 1 (.s 16)),
 og 18 14 false (.call 67 [(.s 15), (.s 17), (nI 0)]),
 og 19 14 false (.un .not (.s 18)),
 oo 20 (.pick (.s 14) (nB true) (.s 19)),
 oo 21 (.mov (.s 20)),
 og 22 21 false (.load true 6 (.s 3)),
 og 23 21 false (.fldA 5 (.s 5)),
 og 24 21 false (.load false 1 (.s 23)),
 og 25 21 false (.call 67 [(.s 22), (.s 24), (nI 0)]),
 og 26 21 false (.un .not (.s 25)),
 oo 27 (.pick (.s 21) (nB true) (.s 26)),
 oo 28 (.mov (.s 27)),
 og 29 28 false (.fldA 6 (.s 5)),
 og 30 28 false (.load false 1 (.s 29)),
 og 31 28 false (.len (.s 30)),
 og 32 28 false (.bin .gtr (.s 31) (nI 16)),
 oo 33 (.pick (.s 28) (nB true) (.s 32))])
 (.cond (.s 33)
 (.seq (.reg [oo 6 (.mov (nB false))])
 .ret)
 .skip))
 (.seq (.seq (.reg [oo 7 (.mov (nI 0))])
 (.block 0
 (.loop c66_1)))
 c66_0)))
theorem k66 : OkF 66 Tryz.f66 c66 [.t 6] 78 := ⟨Tryz.func66, by kernel_rfl, by kernel_rfl, by kernel_rfl, Tryz.ntmps66⟩
theorem glyphs_q (F : Ff) : FnQ Tryz.prog 26 [ffV F] [.bool (glyphsB F)] := by
 refine k26.q (by simp) ?_
 unfold c26
 have hr : (withB F.em 1 16384 && withB F.gs.length 1 4096 && F.gs.all glyphB) = glyphsB F := rfl
 generalize glyphsB F = out at *
 simp only [vmp,↓vmd,seval]
 refine onC_q (within_q F.em 1 16384) rfl ?_
 generalize withB F.em 1 16384 = b at *
 cases b with
 | false =>
  simp only [bb] at hr
  subst hr
  (first | apply envO | apply envQ); simp only [vmp,↓vmd,seval]; rfl
  simp only [vmp,↓vmd,seval]
  exact gives_pure
 | true =>
  simp only [bb] at hr
  (first | apply envO | apply envQ); simp only [vmp,↓vmd,seval]; rfl
  simp only [vmp,↓vmd,seval]
  refine onIf_intro fun _ => ?_
  (first | apply envO | apply envQ); simp only [vmp,↓vmd,seval]; rfl
  simp only [vmp,↓vmd,seval]
  refine onC_q (within_q F.gs.length 1 4096) rfl ?_
  generalize withB F.gs.length 1 4096 = b at *
  cases b with
  | false =>
   simp only [bb] at hr
   subst hr
   (first | apply envO | apply envQ); simp only [vmp,↓vmd,seval]; rfl
   simp only [vmp,↓vmd,seval]
   exact gives_pure
  | true =>
   simp only [bb] at hr
   (first | apply envO | apply envQ); simp only [vmp,↓vmd,seval]; rfl
   simp only [vmp,↓vmd,seval]
   refine loop_at (T := Nat) (fun i => [(3, .pure (I (i : Int))), (1, .ptr 0 0 0)]) (fun _ => [⟨[.pure (ffV F)], 6, .live⟩]) (fun i => i ≤ F.gs.length ∧ (F.gs.drop i).all glyphB = out) (fun i => F.gs.length - i)
    0 [0] (by simp) rfl ⟨by simp, hr⟩ (by simp only [kpp,seval]) (by simp only [kpp,seval]) ?_
   rintro i ⟨hi, hr⟩
   unfold c26_3
   simp only [vmp,↓vmd,seval]
   refine onIf_intro fun _ => ?_
   (first | apply envO | apply envQ); simp only [vmp,↓vmd,seval]; rfl
   simp only [vmp,↓vmd,seval]
   refine onB_dec (fun h1 => ?_) (fun h1 => ?_)
   ·have hlt : i < F.gs.length := by omega
    rw [drop_at hlt, List.all_cons] at hr
    have hgi : (F.gs.map gi)[i]? = some (gi F.gs[i]) := map_at hlt
    generalize F.gs[i] = g at hr hgi
    rw [glyphB] at hr
    simp only [h1, hgi, Int.natCast_nonneg, vmp,↓vmd,seval]
    refine onC_q (measure_q g.adv) rfl ?_
    generalize measB g.adv = b at *
    cases b with
    | false =>
     simp only [bb] at hr
     subst hr
     (first | apply envO | apply envQ); simp only [vmp,↓vmd,seval]; rfl
     simp only [vmp,↓vmd,seval]
     exact gives_pure
    | true =>
     simp only [bb] at hr
     (first | apply envO | apply envQ); simp only [vmp,↓vmd,seval]; rfl
     simp only [vmp,↓vmd,seval]
     refine onC_q (within_q g.kind 0 3) rfl ?_
     generalize withB g.kind 0 3 = b at *
     cases b with
     | false =>
      simp only [bb] at hr
      subst hr
      (first | apply envO | apply envQ); simp only [vmp,↓vmd,seval]; rfl
      simp only [vmp,↓vmd,seval]
      exact gives_pure
     | true =>
      simp only [bb] at hr
      (first | apply envO | apply envQ); simp only [vmp,↓vmd,seval]; rfl
      simp only [vmp,↓vmd,seval]
      refine onC_q (within_q g.att 0 255) rfl ?_
      generalize withB g.att 0 255 = b at *
      cases b with
      | false =>
       simp only [bb] at hr
       subst hr
       (first | apply envO | apply envQ); simp only [vmp,↓vmd,seval]; rfl
       simp only [vmp,↓vmd,seval]
       exact gives_pure
      | true =>
       simp only [bb] at hr
       (first | apply envO | apply envQ); simp only [vmp,↓vmd,seval]; rfl
       simp only [vmp,↓vmd,seval]
       refine onIf_intro fun _ => ?_
       (first | apply envO | apply envQ); simp only [vmp,↓vmd,seval]; rfl
       simp only [vmp,↓vmd,seval]
       refine onB_dec (fun h4 => ?_) (fun h4 => ?_)
       ·rw [decide_eq_false (show ¬ g.car.length ≤ 15 by omega)] at hr
        simp only [bb] at hr
        subst hr
        (first | apply envO | apply envQ); simp only [h4, vmp,↓vmd,seval]; rfl
        simp only [h4, vmp,↓vmd,seval]
        exact gives_pure
       ·rw [decide_eq_true (show g.car.length ≤ 15 by omega)] at hr
        simp only [bb] at hr
        (first | apply envO | apply envQ); simp only [h4, vmp,↓vmd,seval]; rfl
        simp only [h4, vmp,↓vmd,seval]
        refine onC_q (rises_q g.car) rfl ?_
        generalize risesB g.car = b at *
        cases b with
        | false =>
         simp only [bb] at hr
         subst hr
         (first | apply envO | apply envQ); simp only [vmp,↓vmd,seval]; rfl
         simp only [vmp,↓vmd,seval]
         exact gives_pure
        | true =>
         simp only [bb] at hr
         (first | apply envO | apply envQ); simp only [vmp,↓vmd,seval]; rfl
         simp only [vmp,↓vmd,seval]
         refine onIf_intro fun _ => ?_
         (first | apply envO | apply envQ); simp only [vmp,↓vmd,seval]; rfl
         simp only [vmp,↓vmd,seval]
         refine onB_dec (fun h6 => ?_) (fun h6 => ?_)
         ·by_cases h7 : g.kind = 2
          ·rw [decide_eq_true h7] at hr
           simp only [bb] at hr
           (first | apply envO | apply envQ); simp only [h6, h7, vmp,↓vmd,seval]; rfl
           simp only [h6, h7, vmp,↓vmd,seval]
           refine loop_at (T := Nat) (fun j => [(5, .pure (I (j : Int))), (3, .pure (I (i : Int))), (1, .ptr 0 0 0), (4, .ptr 1 0 0)]) (fun _ => [⟨[.pure (ffV F)], 6, .live⟩, ⟨[.pure (gi g)], 4, .live⟩]) (fun j => j ≤ g.car.length ∧ ((g.car.drop j).all measB && (F.gs.drop (i + 1)).all glyphB) = out) (fun j => g.car.length - j)
            0 [0, 1] (by simp) rfl ⟨by simp, hr⟩ (by simp only [kpp,seval]) (by simp only [kpp,seval]) ?_
           rintro j ⟨hj, ht⟩
           unfold c26_2
           simp only [vmp,↓vmd,seval]
           refine onIf_intro fun _ => ?_
           (first | apply envO | apply envQ); simp only [vmp,↓vmd,seval]; rfl
           simp only [vmp,↓vmd,seval]
           refine onB_dec (fun h5 => ?_) (fun h5 => ?_)
           ·have hlj : j < g.car.length := by omega
            rw [drop_at hlj, List.all_cons] at ht
            have hgj : (g.car.map I)[j]? = some (I g.car[j]) := map_at hlj
            generalize g.car[j] = x at ht hgj
            simp only [h5, hgj, Int.natCast_nonneg, vmp,↓vmd,seval]
            refine onC_q (measure_q x) rfl ?_
            generalize measB x = b at *
            cases b with
            | false =>
             simp only [bb] at ht
             subst ht
             (first | apply envO | apply envQ); simp only [vmp,↓vmd,seval]; rfl
             simp only [vmp,↓vmd,seval]
             exact gives_pure
            | true =>
             simp only [bb] at ht
             (first | apply envO | apply envQ); simp only [vmp,↓vmd,seval]; rfl
             simp only [vmp,↓vmd,seval]
             refine onBk_to (j + 1) [0, 1] (by simp) rfl (by omega) ⟨hlj, ht⟩ (by simp only [next_at hlj (by omega), kpp,seval]) (by simp only [kpp,seval])
           ·rw [List.drop_of_length_le (by omega), List.all_nil, Bool.true_and] at ht
            simp only [h5, vmp,↓vmd,seval]
            unfold c26_1
            simp only [vmp,↓vmd,seval]
            refine onBk_to (i + 1) [0] (by simp) rfl (by omega) ⟨hlt, ht⟩ (by simp only [next_at hlt (by omega), kpp,seval]) (by simp only [kpp,seval])
          ·rw [decide_eq_false (show ¬ g.car.length = 0 by omega), decide_eq_false h7] at hr
           simp only [bb] at hr
           subst hr
           (first | apply envO | apply envQ); simp only [h6, h7, vmp,↓vmd,seval]; rfl
           simp only [h6, h7, vmp,↓vmd,seval]
           exact gives_pure
         ·rw [decide_eq_true (show g.car.length = 0 by omega)] at hr
          simp only [bb] at hr
          (first | apply envO | apply envQ); simp only [h6, vmp,↓vmd,seval]; rfl
          simp only [h6, vmp,↓vmd,seval]
          refine loop_at (T := Nat) (fun j => [(5, .pure (I (j : Int))), (3, .pure (I (i : Int))), (1, .ptr 0 0 0), (4, .ptr 1 0 0)]) (fun _ => [⟨[.pure (ffV F)], 6, .live⟩, ⟨[.pure (gi g)], 4, .live⟩]) (fun j => j ≤ g.car.length ∧ ((g.car.drop j).all measB && (F.gs.drop (i + 1)).all glyphB) = out) (fun j => g.car.length - j)
           0 [0, 1] (by simp) rfl ⟨by simp, hr⟩ (by simp only [kpp,seval]) (by simp only [kpp,seval]) ?_
          rintro j ⟨hj, ht⟩
          unfold c26_2
          simp only [vmp,↓vmd,seval]
          refine onIf_intro fun _ => ?_
          (first | apply envO | apply envQ); simp only [vmp,↓vmd,seval]; rfl
          simp only [vmp,↓vmd,seval]
          refine onB_dec (fun h5 => ?_) (fun h5 => ?_)
          ·have hlj : j < g.car.length := by omega
           rw [drop_at hlj, List.all_cons] at ht
           have hgj : (g.car.map I)[j]? = some (I g.car[j]) := map_at hlj
           generalize g.car[j] = x at ht hgj
           simp only [h5, hgj, Int.natCast_nonneg, vmp,↓vmd,seval]
           refine onC_q (measure_q x) rfl ?_
           generalize measB x = b at *
           cases b with
           | false =>
            simp only [bb] at ht
            subst ht
            (first | apply envO | apply envQ); simp only [vmp,↓vmd,seval]; rfl
            simp only [vmp,↓vmd,seval]
            exact gives_pure
           | true =>
            simp only [bb] at ht
            (first | apply envO | apply envQ); simp only [vmp,↓vmd,seval]; rfl
            simp only [vmp,↓vmd,seval]
            refine onBk_to (j + 1) [0, 1] (by simp) rfl (by omega) ⟨hlj, ht⟩ (by simp only [next_at hlj (by omega), kpp,seval]) (by simp only [kpp,seval])
          ·rw [List.drop_of_length_le (by omega), List.all_nil, Bool.true_and] at ht
           simp only [h5, vmp,↓vmd,seval]
           unfold c26_1
           simp only [vmp,↓vmd,seval]
           refine onBk_to (i + 1) [0] (by simp) rfl (by omega) ⟨hlt, ht⟩ (by simp only [next_at hlt (by omega), kpp,seval]) (by simp only [kpp,seval])
   ·rw [List.drop_of_length_le (by omega), List.all_nil] at hr
    subst hr
    simp only [h1, vmp,↓vmd,seval]
    unfold c26_0
    simp only [vmp,↓vmd,seval]
    exact gives_pure
theorem mpAt_eq {l : List Mp} {i : Nat} (h : i < l.length) : (l.map mp)[i]? = some (mp (mpAt l i)) := by
 rw [List.getElem?_map, mpAt, List.getElem?_eq_getElem h]; rfl
theorem maps_q (F : Ff) : FnQ Tryz.prog 27 [ffV F] [.bool (mapsB F)] := by
 refine k27.q (by simp) ?_
 unfold c27
 have hr : (decide (F.maps.length ≤ 4096) && decide (F.sets.length ≤ 16) && allFrom (mapB F) F.maps.length 0 && F.sets.all (coverB F)) = mapsB F := rfl
 generalize mapsB F = out at *
 simp only [vmp,↓vmd,seval]
 refine onIf_intro fun _ => ?_
 (first | apply envO | apply envQ); simp only [vmp,↓vmd,seval]; rfl
 simp only [vmp,↓vmd,seval]
 refine onB_dec (fun h1 => ?_) (fun h1 => ?_)
 ·rw [decide_eq_false (show ¬ F.maps.length ≤ 4096 by omega)] at hr
  simp only [bb] at hr
  subst hr
  (first | apply envO | apply envQ); simp only [h1, vmp,↓vmd,seval]; rfl
  simp only [h1, vmp,↓vmd,seval]
  exact gives_pure
 ·rw [decide_eq_true (show F.maps.length ≤ 4096 by omega)] at hr
  simp only [bb] at hr
  (first | apply envO | apply envQ); simp only [h1, vmp,↓vmd,seval]; rfl
  simp only [h1, vmp,↓vmd,seval]
  refine onIf_intro fun _ => ?_
  (first | apply envO | apply envQ); simp only [vmp,↓vmd,seval]; rfl
  simp only [h1, vmp,↓vmd,seval]
  refine onB_dec (fun h2 => ?_) (fun h2 => ?_)
  ·rw [decide_eq_false (show ¬ F.sets.length ≤ 16 by omega)] at hr
   simp only [bb] at hr
   subst hr
   (first | apply envO | apply envQ); simp only [h2, vmp,↓vmd,seval]; rfl
   simp only [h2, vmp,↓vmd,seval]
   exact gives_pure
  ·rw [decide_eq_true (show F.sets.length ≤ 16 by omega)] at hr
   simp only [bb] at hr
   (first | apply envO | apply envQ); simp only [h2, vmp,↓vmd,seval]; rfl
   simp only [h2, vmp,↓vmd,seval]
   refine loop_at (T := Nat) (fun i => [(3, .pure (I (i : Int))), (1, .ptr 0 0 0)]) (fun _ => [⟨[.pure (ffV F)], 6, .live⟩]) (fun i => i ≤ F.maps.length ∧ (allFrom (mapB F) (F.maps.length - i) i && F.sets.all (coverB F)) = out) (fun i => F.maps.length - i)
    0 [0] (by simp) rfl ⟨by simp, hr⟩ (by simp only [kpp,seval]) (by simp only [kpp,seval]) ?_
   rintro i ⟨hi, hr⟩
   unfold c27_3
   simp only [vmp,↓vmd,seval]
   refine onIf_intro fun _ => ?_
   (first | apply envO | apply envQ); simp only [vmp,↓vmd,seval]; rfl
   simp only [vmp,↓vmd,seval]
   refine onB_dec (fun h1 => ?_) (fun h1 => ?_)
   ·have hlt : i < F.maps.length := by omega
    rw [allFrom_step hlt, mapB] at hr
    have hgi : (F.maps.map mp)[i]? = some (mp (mpAt F.maps i)) := mpAt_eq hlt
    simp only [h1, hgi, Int.natCast_nonneg, vmp,↓vmd,seval]
    refine onQ_q (one_q (mpAt F.maps i).code) rfl ?_
    generalize oneB (mpAt F.maps i).code = b at *
    cases b with
    | false =>
     simp only [bb] at hr
     subst hr
     (first | apply envO | apply envQ); simp only [vmp,↓vmd,seval]; rfl
     simp only [vmp,↓vmd,seval]
     exact gives_pure
    | true =>
     simp only [bb] at hr
     (first | apply envO | apply envQ); simp only [vmp,↓vmd,seval]; rfl
     simp only [vmp,↓vmd,seval]
     refine onQ_q (there_q F (mpAt F.maps i).glyph) rfl ?_
     generalize thereB F (mpAt F.maps i).glyph = b at *
     cases b with
     | false =>
      simp only [bb] at hr
      subst hr
      (first | apply envO | apply envQ); simp only [vmp,↓vmd,seval]; rfl
      simp only [vmp,↓vmd,seval]
      exact gives_pure
     | true =>
      simp only [bb] at hr
      (first | apply envO | apply envQ); simp only [vmp,↓vmd,seval]; rfl
      simp only [vmp,↓vmd,seval]
      by_cases h2 : i = 0
      ·have h2' : ¬ (0 : Int) < (i : Int) := by omega
       rw [decide_eq_true h2] at hr
       simp only [bb] at hr
       refine onB_neg h2' ?_
       (first | apply envO | apply envQ); simp only [h2', vmp,↓vmd,seval]; rfl
       simp only [vmp,↓vmd,seval]
       refine onBk_to (i + 1) [0] (by simp) rfl (by omega) ⟨hlt, hr⟩ (by simp only [next_at hlt (by omega), kpp,seval]) (by simp only [kpp,seval])
      ·have h2' : (0 : Int) < (i : Int) := by omega
       rw [decide_eq_false h2] at hr
       simp only [bb] at hr
       have hgp : (F.maps.map mp)[i - 1]? = some (mp (mpAt F.maps (i - 1))) := mpAt_eq (by omega)
       have hw : IntKind.wrap .i64 ((i : Int) - 1) = ((i - 1 : Nat) : Int) := by rw [wrap_id (by omega) (by omega)]; omega
       refine onB_pos h2' ?_
       (first | apply envO | apply envQ); simp only [h2', vmp,↓vmd,seval]; rfl
       simp only [hw, hgp, Int.natCast_nonneg, Int.toNat_natCast, vmp,↓vmd,seval]
       refine onB_dec (fun h3 => ?_) (fun h3 => ?_)
       ·rw [decide_eq_false (show ¬ (mpAt F.maps (i - 1)).code < (mpAt F.maps i).code by omega)] at hr
        simp only [bb] at hr
        subst hr
        simp only [h3, vmp,↓vmd,seval]
        exact gives_pure
       ·rw [decide_eq_true (show (mpAt F.maps (i - 1)).code < (mpAt F.maps i).code by omega)] at hr
        simp only [bb] at hr
        simp only [h3, vmp,↓vmd,seval]
        refine onBk_to (i + 1) [0] (by simp) rfl (by omega) ⟨hlt, hr⟩ (by simp only [next_at hlt (by omega), kpp,seval]) (by simp only [kpp,seval])
   ·rw [allFrom_end (by omega), Bool.true_and] at hr
    simp only [h1, vmp,↓vmd,seval]
    unfold c27_2
    simp only [vmp,↓vmd,seval]
    refine loop_at (T := Nat) (fun i => [(5, .pure (I (i : Int))), (1, .ptr 0 0 0)]) (fun _ => [⟨[.pure (ffV F)], 6, .live⟩]) (fun i => i ≤ F.sets.length ∧ (F.sets.drop i).all (coverB F) = out) (fun i => F.sets.length - i)
     0 [0] (by simp) rfl ⟨by simp, hr⟩ (by simp only [kpp,seval]) (by simp only [kpp,seval]) ?_
    rintro i ⟨hi, hr⟩
    unfold c27_1
    simp only [vmp,↓vmd,seval]
    refine onIf_intro fun _ => ?_
    (first | apply envO | apply envQ); simp only [vmp,↓vmd,seval]; rfl
    simp only [vmp,↓vmd,seval]
    refine onB_dec (fun h1 => ?_) (fun h1 => ?_)
    ·have hlt : i < F.sets.length := by omega
     rw [drop_at hlt, List.all_cons] at hr
     have hgi : (F.sets.map LI)[i]? = some (LI F.sets[i]) := map_at hlt
     generalize F.sets[i] = x at hr hgi
     simp only [h1, hgi, Int.natCast_nonneg, vmp,↓vmd,seval]
     refine onC_q (cover_q F x) rfl ?_
     generalize coverB F x = b at *
     cases b with
     | false =>
      simp only [bb] at hr
      subst hr
      (first | apply envO | apply envQ); simp only [vmp,↓vmd,seval]; rfl
      simp only [vmp,↓vmd,seval]
      exact gives_pure
     | true =>
      simp only [bb] at hr
      (first | apply envO | apply envQ); simp only [vmp,↓vmd,seval]; rfl
      simp only [vmp,↓vmd,seval]
      refine onBk_to (i + 1) [0] (by simp) rfl (by omega) ⟨hlt, hr⟩ (by simp only [next_at hlt (by omega), kpp,seval]) (by simp only [kpp,seval])
    ·rw [List.drop_of_length_le (by omega), List.all_nil] at hr
     subst hr
     simp only [h1, vmp,↓vmd,seval]
     unfold c27_0
     simp only [vmp,↓vmd,seval]
     exact gives_pure
theorem to_q (F : Ff) (s : Sub) (lo hi : Int) : FnQ Tryz.prog 64 [ffV F, sub s, I lo, I hi] [.bool (toB F s lo hi)] := by
 refine k64.q (by simp) ?_
 unfold c64
 have hr : (coverB F s.cover && decide (s.to.length = s.cover.length) && s.to.all fun t => withB t.length lo hi && allB F t) = toB F s lo hi := rfl
 generalize toB F s lo hi = out at *
 simp only [vmp,↓vmd,seval]
 refine onC_q (cover_q F s.cover) rfl ?_
 generalize coverB F s.cover = b at *
 cases b with
 | false =>
  simp only [bb] at hr
  subst hr
  (first | apply envO | apply envQ); simp only [vmp,↓vmd,seval]; rfl
  simp only [vmp,↓vmd,seval]
  exact gives_pure
 | true =>
  simp only [bb] at hr
  (first | apply envO | apply envQ); simp only [vmp,↓vmd,seval]; rfl
  simp only [vmp,↓vmd,seval]
  refine onIf_intro fun _ => ?_
  (first | apply envO | apply envQ); simp only [vmp,↓vmd,seval]; rfl
  simp only [vmp,↓vmd,seval]
  refine onIf_intro fun _ => ?_
  (first | apply envO | apply envQ); simp only [vmp,↓vmd,seval]; rfl
  simp only [vmp,↓vmd,seval]
  refine onB_dec (fun h1 => ?_) (fun h1 => ?_)
  ·rw [decide_eq_false (show ¬ s.to.length = s.cover.length by omega)] at hr
   simp only [bb] at hr
   subst hr
   simp only [h1, vmp,↓vmd,seval]
   exact gives_pure
  ·rw [decide_eq_true (show s.to.length = s.cover.length by omega)] at hr
   simp only [bb] at hr
   simp only [h1, vmp,↓vmd,seval]
   refine loop_at (T := Nat) (fun i => [(9, .pure (I (i : Int))), (2, .pure (I lo)), (3, .pure (I hi)), (4, .ptr 0 0 0), (5, .ptr 1 0 0)]) (fun _ => [⟨[.pure (ffV F)], 6, .live⟩, ⟨[.pure (sub s)], 12, .live⟩]) (fun i => i ≤ s.to.length ∧ ((s.to.drop i).all fun t => withB t.length lo hi && allB F t) = out) (fun i => s.to.length - i)
    0 [0, 1] (by simp) rfl ⟨by simp, hr⟩ (by simp only [kpp,seval]) (by simp only [kpp,seval]) ?_
   rintro i ⟨hil, hr⟩
   unfold c64_1
   simp only [vmp,↓vmd,seval]
   refine onIf_intro fun _ => ?_
   (first | apply envO | apply envQ); simp only [vmp,↓vmd,seval]; rfl
   simp only [vmp,↓vmd,seval]
   refine onB_dec (fun h1 => ?_) (fun h1 => ?_)
   ·have hlt : i < s.to.length := by omega
    rw [drop_at hlt, List.all_cons] at hr
    have hgi : (s.to.map LI)[i]? = some (LI s.to[i]) := map_at hlt
    generalize s.to[i] = x at hr hgi
    simp only [h1, hgi, Int.natCast_nonneg, vmp,↓vmd,seval]
    refine onQ_q (within_q x.length lo hi) rfl ?_
    generalize withB x.length lo hi = b at *
    cases b with
    | false =>
     simp only [bb] at hr
     subst hr
     (first | apply envO | apply envQ); simp only [vmp,↓vmd,seval]; rfl
     simp only [vmp,↓vmd,seval]
     exact gives_pure
    | true =>
     simp only [bb] at hr
     (first | apply envO | apply envQ); simp only [vmp,↓vmd,seval]; rfl
     simp only [hgi, Int.natCast_nonneg, vmp,↓vmd,seval]
     refine onC_q (all_q F x) rfl ?_
     generalize allB F x = b at *
     cases b with
     | false =>
      simp only [bb] at hr
      subst hr
      (first | apply envO | apply envQ); simp only [vmp,↓vmd,seval]; rfl
      simp only [vmp,↓vmd,seval]
      exact gives_pure
     | true =>
      simp only [bb] at hr
      (first | apply envO | apply envQ); simp only [vmp,↓vmd,seval]; rfl
      simp only [vmp,↓vmd,seval]
      refine onBk_to (i + 1) [0, 1] (by simp) rfl (by omega) ⟨hlt, hr⟩ (by simp only [next_at hlt (by omega), kpp,seval]) (by simp only [kpp,seval])
   ·rw [List.drop_of_length_le (by omega), List.all_nil] at hr
    subst hr
    simp only [h1, vmp,↓vmd,seval]
    unfold c64_0
    simp only [vmp,↓vmd,seval]
    exact gives_pure
theorem ligs_q (F : Ff) (s : Sub) : FnQ Tryz.prog 65 [ffV F, sub s] [.bool (ligsB F s)] := by
 refine k65.q (by simp) ?_
 unfold c65
 have hr : (coverB F s.cover && decide (s.ligs.length = s.cover.length) && (s.ligs.all fun r => r.all (ligB F)) && decide (sumL 0 s.ligs ≤ 4096)) = ligsB F s := rfl
 generalize ligsB F s = out at *
 simp only [vmp,↓vmd,seval]
 refine onC_q (cover_q F s.cover) rfl ?_
 generalize coverB F s.cover = b at *
 cases b with
 | false =>
  simp only [bb] at hr
  subst hr
  (first | apply envO | apply envQ); simp only [vmp,↓vmd,seval]; rfl
  simp only [vmp,↓vmd,seval]
  exact gives_pure
 | true =>
  simp only [bb] at hr
  (first | apply envO | apply envQ); simp only [vmp,↓vmd,seval]; rfl
  simp only [vmp,↓vmd,seval]
  refine onIf_intro fun _ => ?_
  (first | apply envO | apply envQ); simp only [vmp,↓vmd,seval]; rfl
  simp only [vmp,↓vmd,seval]
  refine onIf_intro fun _ => ?_
  (first | apply envO | apply envQ); simp only [vmp,↓vmd,seval]; rfl
  simp only [vmp,↓vmd,seval]
  refine onB_dec (fun h1 => ?_) (fun h1 => ?_)
  ·rw [decide_eq_false (show ¬ s.ligs.length = s.cover.length by omega)] at hr
   simp only [bb] at hr
   subst hr
   simp only [h1, vmp,↓vmd,seval]
   exact gives_pure
  ·rw [decide_eq_true (show s.ligs.length = s.cover.length by omega)] at hr
   simp only [bb] at hr
   simp only [h1, vmp,↓vmd,seval]
   refine loop_at (T := Nat × Int) (fun y => [(6, .pure (I (y.1 : Int))), (5, .pure (I y.2)), (2, .ptr 0 0 0), (3, .ptr 1 0 0)]) (fun _ => [⟨[.pure (ffV F)], 6, .live⟩, ⟨[.pure (sub s)], 12, .live⟩])
    (fun y => y.1 ≤ s.ligs.length ∧ (((s.ligs.drop y.1).all fun r => r.all (ligB F)) && decide (sumL y.2 (s.ligs.drop y.1) ≤ 4096)) = out) (fun y => s.ligs.length - y.1)
    (0, 0) [0, 1] (by simp) rfl ⟨by simp, hr⟩ (by simp only [kpp,seval]) (by simp only [kpp,seval]) ?_
   rintro ⟨i, n⟩ ⟨hi, hr⟩
   simp only at hi hr ⊢
   unfold c65_3
   simp only [vmp,↓vmd,seval]
   refine onIf_intro fun _ => ?_
   (first | apply envO | apply envQ); simp only [vmp,↓vmd,seval]; rfl
   simp only [vmp,↓vmd,seval]
   refine onB_dec (fun h2 => ?_) (fun h2 => ?_)
   ·have hlt : i < s.ligs.length := by omega
    rw [drop_at hlt, List.all_cons, sumL, List.foldl_cons] at hr
    have hgi : (s.ligs.map lgr)[i]? = some (lgr s.ligs[i]) := map_at hlt
    generalize s.ligs[i] = x at hr hgi
    simp only [h2, hgi, Int.natCast_nonneg, vmp,↓vmd,seval]
    refine onIf_intro fun _ => ?_
    (first | apply envO | apply envQ); simp only [vmp,↓vmd,seval]; rfl
    simp only [vmp,↓vmd,seval]
    refine loop_at (T := Nat) (fun j => [(7, .pure (I (j : Int))), (6, .pure (I (i : Int))), (5, .pure (I (IntKind.wrap .i64 (n + (x.length : Int))))), (2, .ptr 0 0 0), (3, .ptr 1 0 0)]) (fun _ => [⟨[.pure (ffV F)], 6, .live⟩, ⟨[.pure (sub s)], 12, .live⟩])
     (fun j => j ≤ x.length ∧ ((x.drop j).all (ligB F) && ((s.ligs.drop (i + 1)).all fun r => r.all (ligB F)) && decide (sumL (IntKind.wrap .i64 (n + (x.length : Int))) (s.ligs.drop (i + 1)) ≤ 4096)) = out) (fun j => x.length - j)
     0 [0, 1] (by simp) rfl ⟨by simp, hr⟩ (by simp only [kpp,seval]) (by simp only [kpp,seval]) ?_
    rintro j ⟨hj, ht⟩
    unfold c65_2
    simp only [hgi, Int.natCast_nonneg, vmp,↓vmd,seval]
    refine onIf_intro fun _ => ?_
    (first | apply envO | apply envQ); simp only [vmp,↓vmd,seval]; rfl
    simp only [vmp,↓vmd,seval]
    refine onB_dec (fun h5 => ?_) (fun h5 => ?_)
    ·have hlj : j < x.length := by omega
     rw [drop_at hlj, List.all_cons] at ht
     have hgj : (x.map lg)[j]? = some (lg x[j]) := map_at hlj
     generalize x[j] = y at ht hgj
     rw [ligB] at ht
     simp only [h5, hgi, hgj, Int.natCast_nonneg, vmp,↓vmd,seval]
     refine onIf_intro fun _ => ?_
     (first | apply envO | apply envQ); simp only [vmp,↓vmd,seval]; rfl
     simp only [vmp,↓vmd,seval]
     refine onC_q (within_q y.parts.length 1 15) rfl ?_
     generalize withB y.parts.length 1 15 = b at *
     cases b with
     | false =>
      simp only [bb] at ht
      subst ht
      (first | apply envO | apply envQ); simp only [vmp,↓vmd,seval]; rfl
      simp only [vmp,↓vmd,seval]
      exact gives_pure
     | true =>
      simp only [bb] at ht
      (first | apply envO | apply envQ); simp only [vmp,↓vmd,seval]; rfl
      simp only [vmp,↓vmd,seval]
      refine onC_q (all_q F y.parts) rfl ?_
      generalize allB F y.parts = b at *
      cases b with
      | false =>
       simp only [bb] at ht
       subst ht
       (first | apply envO | apply envQ); simp only [vmp,↓vmd,seval]; rfl
       simp only [vmp,↓vmd,seval]
       exact gives_pure
      | true =>
       simp only [bb] at ht
       (first | apply envO | apply envQ); simp only [vmp,↓vmd,seval]; rfl
       simp only [vmp,↓vmd,seval]
       refine onC_q (there_q F y.gid) rfl ?_
       generalize thereB F y.gid = b at *
       cases b with
       | false =>
        simp only [bb] at ht
        subst ht
        (first | apply envO | apply envQ); simp only [vmp,↓vmd,seval]; rfl
        simp only [vmp,↓vmd,seval]
        exact gives_pure
       | true =>
        simp only [bb] at ht
        (first | apply envO | apply envQ); simp only [vmp,↓vmd,seval]; rfl
        simp only [vmp,↓vmd,seval]
        refine onBk_to (j + 1) [0, 1] (by simp) rfl (by omega) ⟨hlj, ht⟩ (by simp only [next_at hlj (by omega), kpp,seval]) (by simp only [kpp,seval])
    ·rw [List.drop_of_length_le (by omega), List.all_nil, Bool.true_and] at ht
     simp only [h5, vmp,↓vmd,seval]
     unfold c65_1
     simp only [vmp,↓vmd,seval]
     refine onBk_to (i + 1, IntKind.wrap .i64 (n + (x.length : Int))) [0, 1] (by simp) rfl (by simp only; omega) ⟨hlt, ht⟩ (by simp only [next_at hlt (by omega), kpp,seval]) (by simp only [kpp,seval])
   ·rw [List.drop_of_length_le (by omega), List.all_nil, Bool.true_and] at hr
    have hr : decide (n ≤ 4096) = out := hr
    subst hr
    simp only [h2, vmp,↓vmd,seval]
    unfold c65_0
    simp only [vmp,↓vmd,seval]
    exact gives_pure
theorem lkAt_eq {l : List Lk} {i : Int} (h0 : 0 ≤ i) (h : i < l.length) : (l.map lk)[i.toNat]? = some (lk (lkAt l i)) := by
 rw [List.getElem?_map, lkAt, List.getElem?_eq_getElem (by omega)]; rfl
theorem around_q (F : Ff) (hF : F.lks.length ≤ 1000) (k : Lk) (s : Sub) : FnQ Tryz.prog 66 [ffV F, lk k, sub s] [.bool (aroundB F k s)] := by
 refine k66.q (by simp) ?_
 unfold c66
 have hr : (coversB F s.inn 1 && coversB F s.back 0 && coversB F s.ahead 0 && decide (s.nests.length ≤ 16) && s.nests.all (nestB F k s)) = aroundB F k s := rfl
 generalize aroundB F k s = out at *
 have hin16 : coversB F s.inn 1 = true → s.inn.length ≤ 16 := fun h => by
  rw [coversB, Bool.and_eq_true] at h
  have := (withB_iff.1 h.2).2
  omega
 simp only [vmp,↓vmd,seval]
 refine onC_q (covers_q F s.inn 1) rfl ?_
 generalize coversB F s.inn 1 = b at *
 cases b with
 | false =>
  simp only [bb] at hr
  subst hr
  (first | apply envO | apply envQ); simp only [vmp,↓vmd,seval]; rfl
  simp only [vmp,↓vmd,seval]
  exact gives_pure
 | true =>
  simp only [bb] at hr
  (first | apply envO | apply envQ); simp only [vmp,↓vmd,seval]; rfl
  simp only [vmp,↓vmd,seval]
  have hin16 := hin16 rfl
  refine onC_q (covers_q F s.back 0) rfl ?_
  generalize coversB F s.back 0 = b at *
  cases b with
  | false =>
   simp only [bb] at hr
   subst hr
   (first | apply envO | apply envQ); simp only [vmp,↓vmd,seval]; rfl
   simp only [vmp,↓vmd,seval]
   exact gives_pure
  | true =>
   simp only [bb] at hr
   (first | apply envO | apply envQ); simp only [vmp,↓vmd,seval]; rfl
   simp only [vmp,↓vmd,seval]
   refine onC_q (covers_q F s.ahead 0) rfl ?_
   generalize coversB F s.ahead 0 = b at *
   cases b with
   | false =>
    simp only [bb] at hr
    subst hr
    (first | apply envO | apply envQ); simp only [vmp,↓vmd,seval]; rfl
    simp only [vmp,↓vmd,seval]
    exact gives_pure
   | true =>
    simp only [bb] at hr
    (first | apply envO | apply envQ); simp only [vmp,↓vmd,seval]; rfl
    simp only [vmp,↓vmd,seval]
    refine onIf_intro fun _ => ?_
    (first | apply envO | apply envQ); simp only [vmp,↓vmd,seval]; rfl
    simp only [vmp,↓vmd,seval]
    refine onB_dec (fun h4 => ?_) (fun h4 => ?_)
    ·rw [decide_eq_false (show ¬ s.nests.length ≤ 16 by omega)] at hr
     simp only [bb] at hr
     subst hr
     (first | apply envO | apply envQ); simp only [h4, vmp,↓vmd,seval]; rfl
     simp only [h4, vmp,↓vmd,seval]
     exact gives_pure
    ·rw [decide_eq_true (show s.nests.length ≤ 16 by omega)] at hr
     simp only [bb] at hr
     (first | apply envO | apply envQ); simp only [h4, vmp,↓vmd,seval]; rfl
     simp only [h4, vmp,↓vmd,seval]
     refine loop_at (T := Nat) (fun i => [(7, .pure (I (i : Int))), (3, .ptr 0 0 0), (4, .ptr 1 0 0), (5, .ptr 2 0 0)]) (fun _ => [⟨[.pure (ffV F)], 6, .live⟩, ⟨[.pure (lk k)], 4, .live⟩, ⟨[.pure (sub s)], 12, .live⟩]) (fun i => i ≤ s.nests.length ∧ (s.nests.drop i).all (nestB F k s) = out) (fun i => s.nests.length - i)
      0 [0, 1, 2] (by simp) rfl ⟨by simp, hr⟩ (by simp only [kpp,seval]) (by simp only [kpp,seval]) ?_
     rintro i ⟨hi, hr⟩
     unfold c66_1
     simp only [vmp,↓vmd,seval]
     refine onIf_intro fun _ => ?_
     (first | apply envO | apply envQ); simp only [vmp,↓vmd,seval]; rfl
     simp only [vmp,↓vmd,seval]
     refine onB_dec (fun h1 => ?_) (fun h1 => ?_)
     ·have hlt : i < s.nests.length := by omega
      rw [drop_at hlt, List.all_cons] at hr
      have hgi : (s.nests.map ns)[i]? = some (ns s.nests[i]) := map_at hlt
      generalize s.nests[i] = n at hr hgi
      rw [nestB] at hr
      have hw1 : IntKind.wrap .i64 ((s.inn.length : Int) - 1) = (s.inn.length : Int) - 1 := wrap_id (by omega) (by have := hin16; omega)
      simp only [h1, hgi, Int.natCast_nonneg, hw1, vmp,↓vmd,seval]
      have hw2 : IntKind.wrap .i64 ((F.lks.length : Int) - 1) = (F.lks.length : Int) - 1 := wrap_id (by omega) (by omega)
      refine onQ_q (within_q n.at_ 0 ((s.inn.length : Int) - 1)) rfl ?_
      cases hbA : withB n.at_ 0 ((s.inn.length : Int) - 1) with
      | false =>
       rw [hbA] at hr
       simp only [bb] at hr
       subst hr
       (first | apply envO | apply envQ); simp only [vmp,↓vmd,seval]; rfl
       simp only [vmp,↓vmd,seval]
       exact gives_pure
      | true =>
       rw [hbA] at hr
       simp only [bb] at hr
       have hinA := withB_iff.1 hbA
       (first | apply envO | apply envQ); simp only [vmp,↓vmd,seval]; rfl
       simp only [vmp,↓vmd,seval]
       simp only [hw2, vmp,↓vmd,seval]
       refine onQ_q (within_q n.lookup 0 ((F.lks.length : Int) - 1)) rfl ?_
       cases hbL : withB n.lookup 0 ((F.lks.length : Int) - 1) with
       | false =>
        rw [hbL] at hr
        simp only [bb] at hr
        subst hr
        (first | apply envO | apply envQ); simp only [vmp,↓vmd,seval]; rfl
        simp only [vmp,↓vmd,seval]
        exact gives_pure
       | true =>
        rw [hbL] at hr
        simp only [bb] at hr
        have hinL := withB_iff.1 hbL
        (first | apply envO | apply envQ); simp only [vmp,↓vmd,seval]; rfl
        simp only [vmp,↓vmd,seval]
        have hgl : (F.lks.map lk)[n.lookup.toNat]? = some (lk (lkAt F.lks n.lookup)) := lkAt_eq (by omega) (by omega)
        have l0 : 0 ≤ n.lookup := by omega
        simp only [hgl, l0, vmp,↓vmd,seval]
        refine onQ_q (sorts_q _) rfl ?_
        (first | apply envO | apply envQ); simp only [vmp,↓vmd,seval]; rfl
        simp only [vmp,↓vmd,seval]
        refine onC_q (sorts_q _) rfl ?_
        (first | apply envO | apply envQ); simp only [vmp,↓vmd,seval]; rfl
        simp only [vmp,↓vmd,seval]
        refine onB_dec (fun h6 => ?_) (fun h6 => ?_)
        ·rw [decide_eq_false h6] at hr
         simp only [bb] at hr
         subst hr
         simp only [h6, vmp,↓vmd,seval]
         exact gives_pure
        ·rw [decide_eq_true (Classical.not_not.1 h6)] at hr
         simp only [bb] at hr
         simp only [h6, vmp,↓vmd,seval]
         refine onBk_to (i + 1) [0, 1, 2] (by simp) rfl (by omega) ⟨hlt, hr⟩ (by simp only [next_at hlt (by omega), kpp,seval]) (by simp only [kpp,seval])
     ·rw [List.drop_of_length_le (by omega), List.all_nil] at hr
      subst hr
      simp only [h1, vmp,↓vmd,seval]
      unfold c66_0
      simp only [vmp,↓vmd,seval]
      exact gives_pure
end Go.Proofs.YtcjmkpkhjhjepaaGreat.W
