/-
  Texts: the plain side: how long a form is, whether one stands, its rune. No condition but on sizes.
-/
import Derived.Test.YtcngcapbikfbnaaDoorU3
namespace Go.Proofs.YtcngcapbikfbnaaDoor.W
open Go Go.Vm Go.Proofs
set_option maxRecDepth 100000
set_option linter.unusedSimpArgs false
set_option maxHeartbeats 1000000
/-! typecase/typecaseref02.long -/
def c36 : AC :=
 (.seq (.reg [oo 2 (.mov (nI 0))])
 (.seq (.seq (.reg [oo 3 (.mov (.s 0)),
 oo 4 (.bin .lss (.s 3) (nI 128))])
 (.cond (.s 4)
 (.seq (.reg [oo 2 (.mov (nI 1))])
 .ret)
 .skip))
 (.seq (.seq (.reg [oo 5 (.mov (.s 0)),
 oo 6 (.bin .lss (.s 5) (nI 194)),
 oo 7 (.mov (.s 6)),
 og 8 7 false (.mov (.s 0)),
 og 9 7 false (.bin .gtr (.s 8) (nI 244)),
 oo 10 (.pick (.s 7) (nB true) (.s 9))])
 (.cond (.s 10)
 (.seq (.reg [oo 2 (.mov (nI 0))])
 .ret)
 .skip))
 (.seq (.seq (.reg [oo 11 (.mov (.s 0)),
 oo 12 (.bin .lss (.s 11) (nI 224))])
 (.cond (.s 12)
 (.seq (.reg [oo 2 (.mov (nI 2))])
 .ret)
 .skip))
 (.seq (.seq (.reg [oo 13 (.mov (.s 0)),
 oo 14 (.bin .lss (.s 13) (nI 240))])
 (.cond (.s 14)
 (.seq (.reg [oo 2 (.mov (nI 3))])
 .ret)
 .skip))
 (.seq (.reg [oo 2 (.mov (nI 4))])
 .ret))))))
/-! typecase/typecaseref02.second -/
def c40 : AC :=
 (.seq (.reg [oo 4 (.mov (nB false))])
 (.seq (.reg [oo 5 (.mov (nI 128)),
 oo 6 (.mov (nI 191))])
 (.seq (.seq (.reg [oo 7 (.mov (.s 0)),
 oo 8 (.bin .eql (.s 7) (nI 224))])
 (.cond (.s 8)
 (.reg [oo 5 (.mov (nI 160))])
 .skip))
 (.seq (.seq (.reg [oo 9 (.mov (.s 0)),
 oo 10 (.bin .eql (.s 9) (nI 237))])
 (.cond (.s 10)
 (.reg [oo 6 (.mov (nI 159))])
 .skip))
 (.seq (.seq (.reg [oo 11 (.mov (.s 0)),
 oo 12 (.bin .eql (.s 11) (nI 240))])
 (.cond (.s 12)
 (.reg [oo 5 (.mov (nI 144))])
 .skip))
 (.seq (.seq (.reg [oo 13 (.mov (.s 0)),
 oo 14 (.bin .eql (.s 13) (nI 244))])
 (.cond (.s 14)
 (.reg [oo 6 (.mov (nI 143))])
 .skip))
 (.seq (.reg [oo 15 (.mov (.s 1)),
 oo 16 (.mov (.s 5)),
 oo 17 (.bin .geq (.s 15) (.s 16)),
 oo 18 (.mov (.s 17)),
 og 19 18 true (.mov (.s 1)),
 og 20 18 true (.mov (.s 6)),
 og 21 18 true (.bin .leq (.s 19) (.s 20)),
 oo 22 (.pick (.s 18) (.s 21) (nB false)),
 oo 4 (.mov (.s 22))])
 .ret)))))))
/-! typecase/typecaseref02.Stands -/
def c35_0 : AC :=
 (.seq (.reg [oo 58 (.mov (.s 7)),
 oo 59 (.mov (.s 7)),
 oo 60 (.mov (.s 6)),
 oo 61 (.bin .eql (.s 59) (.s 60)),
 oo 4 (.mov (.s 58)),
 oo 5 (.mov (.s 61))])
 .ret)
def c35_1 : AC :=
 (.seq (.seq (.reg [oo 17 (.mov (.s 7)),
 oo 18 (.mov (.s 6)),
 oo 19 (.bin .lss (.s 17) (.s 18)),
 oo 20 (.mov (.s 19)),
 og 21 20 true (.mov (.s 1)),
 og 22 20 true (.mov (.s 7)),
 og 23 20 true (.bin .add (.s 21) (.s 22)),
 og 24 20 true (.mov (.s 0)),
 og 25 20 true (.len (.s 24)),
 og 26 20 true (.bin .lss (.s 23) (.s 25)),
 oo 27 (.pick (.s 20) (.s 26) (nB false))])
 (.cond (.s 27)
 .skip
 (.exit 0)))
 (.block 1
 (.seq (.reg [oo 28 (.mov (.s 0)),
 oo 29 (.mov (.s 1)),
 oo 30 (.mov (.s 7)),
 oo 31 (.bin .add (.s 29) (.s 30)),
 oo 32 (.idxA 1 (.s 28) (.s 31)),
 oo 33 (.load false 1 (.s 32)),
 oo 34 (.conv .i64 (.s 33)),
 oo 8 (.mov (.s 34))])
 (.seq (.seq (.reg [oo 35 (.mov (.s 7)),
 oo 36 (.bin .eql (.s 35) (nI 1)),
 oo 37 (.mov (.s 36)),
 og 38 37 true (.mov (.s 0)),
 og 39 37 true (.mov (.s 1)),
 og 40 37 true (.idxA 1 (.s 38) (.s 39)),
 og 41 37 true (.load false 1 (.s 40)),
 og 42 37 true (.conv .i64 (.s 41)),
 og 43 37 true (.mov (.s 8)),
 og 44 37 true (.call 40 [(.s 42), (.s 43)]),
 og 45 37 true (.un .not (.s 44)),
 oo 46 (.pick (.s 37) (.s 45) (nB false)),
 oo 47 (.mov (.s 46)),
 og 48 47 false (.mov (.s 8)),
 og 49 47 false (.bin .lss (.s 48) (nI 128)),
 oo 50 (.pick (.s 47) (nB true) (.s 49)),
 oo 51 (.mov (.s 50)),
 og 52 51 false (.mov (.s 8)),
 og 53 51 false (.bin .gtr (.s 52) (nI 191)),
 oo 54 (.pick (.s 51) (nB true) (.s 53))])
 (.cond (.s 54)
 (.seq (.reg [oo 55 (.mov (.s 7)),
 oo 4 (.mov (.s 55)),
 oo 5 (.mov (nB false))])
 .ret)
 .skip))
 (.reg [oo 56 (.mov (.s 7)),
 oo 57 (.bin .add (.s 56) (nI 1)),
 oo 7 (.mov (.s 57))])))))
def c35 : AC :=
 (.seq (.reg [oo 4 (.mov (nI 0)),
 oo 5 (.mov (nB false))])
 (.seq (.reg [oo 9 (.mov (.s 0)),
 oo 10 (.mov (.s 1)),
 oo 11 (.idxA 1 (.s 9) (.s 10)),
 oo 12 (.load false 1 (.s 11)),
 oo 13 (.conv .i64 (.s 12)),
 oo 14 (.call 36 [(.s 13)]),
 oo 6 (.mov (.s 14))])
 (.seq (.seq (.reg [oo 15 (.mov (.s 6)),
 oo 16 (.bin .eql (.s 15) (nI 0))])
 (.cond (.s 16)
 (.seq (.reg [oo 4 (.mov (nI 1)),
 oo 5 (.mov (nB false))])
 .ret)
 .skip))
 (.seq (.reg [oo 7 (.mov (nI 1))])
 (.seq (.block 0
 (.loop c35_1))
 c35_0)))))
/-! typecase/typecaseref02.rune1 -/
def c37_0 : AC :=
 (.seq (.reg [oo 39 (.mov (.s 3)),
 oo 40 (.conv .i32 (.s 39)),
 oo 2 (.mov (.s 40))])
 .ret)
def c37_1 : AC :=
 (.seq (.seq (.reg [oo 24 (.mov (.s 4)),
 oo 25 (.mov (.s 0)),
 oo 26 (.len (.s 25)),
 oo 27 (.bin .lss (.s 24) (.s 26))])
 (.cond (.s 27)
 .skip
 (.exit 0)))
 (.seq (.block 1
 (.reg [oo 30 (.mov (.s 3)),
 oo 31 (.bin .mul (.s 30) (nI 64)),
 oo 32 (.mov (.s 0)),
 oo 33 (.mov (.s 4)),
 oo 34 (.idxA 1 (.s 32) (.s 33)),
 oo 35 (.load false 1 (.s 34)),
 oo 36 (.conv .i64 (.s 35)),
 oo 37 (.bin .add (.s 31) (.s 36)),
 oo 38 (.bin .sub (.s 37) (nI 128)),
 oo 3 (.mov (.s 38))]))
 (.reg [oo 28 (.mov (.s 4)),
 oo 29 (.bin .add (.s 28) (nI 1)),
 oo 4 (.mov (.s 29))])))
def c37 : AC :=
 (.seq (.reg [oo 2 (.mov (.c (.pure (.int .i32 0))))])
 (.seq (.reg [oo 5 (.mov (.s 0)),
 oo 6 (.idxA 1 (.s 5) (nI 0)),
 oo 7 (.load false 1 (.s 6)),
 oo 8 (.conv .i64 (.s 7)),
 oo 3 (.mov (.s 8))])
 (.seq (.seq (.reg [oo 9 (.mov (.s 0)),
 oo 10 (.len (.s 9)),
 oo 11 (.bin .eql (.s 10) (nI 2))])
 (.cond (.s 11)
 (.reg [oo 12 (.mov (.s 3)),
 oo 13 (.bin .sub (.s 12) (nI 192)),
 oo 3 (.mov (.s 13))])
 .skip))
 (.seq (.seq (.reg [oo 14 (.mov (.s 0)),
 oo 15 (.len (.s 14)),
 oo 16 (.bin .eql (.s 15) (nI 3))])
 (.cond (.s 16)
 (.reg [oo 17 (.mov (.s 3)),
 oo 18 (.bin .sub (.s 17) (nI 224)),
 oo 3 (.mov (.s 18))])
 .skip))
 (.seq (.seq (.reg [oo 19 (.mov (.s 0)),
 oo 20 (.len (.s 19)),
 oo 21 (.bin .eql (.s 20) (nI 4))])
 (.cond (.s 21)
 (.reg [oo 22 (.mov (.s 3)),
 oo 23 (.bin .sub (.s 22) (nI 240)),
 oo 3 (.mov (.s 23))])
 .skip))
 (.seq (.seq (.reg [oo 4 (.mov (nI 1))])
 (.block 0
 (.loop c37_1)))
 c37_0))))))
theorem hd_drop {b : List Int} {k : Nat} (h : k < b.length) : hd (b.drop k) = b[k] := by
 rw [List.drop_eq_getElem_cons h]
 rfl
theorem drop_ne {b : List Int} {k : Nat} (h : k < b.length) : b.drop k ≠ [] := by
 intro e
 have := congrArg List.length e
 simp at this
 omega
/-- the number of the first bytes of a form, as it grows -/
def grow (a : Int) : List Int → Int
 | [] => a
 | c :: r => grow (a * 64 + c - 128) r
def lead (a : Int) (L : Nat) : Int := if L = 2 then a - 192 else if L = 3 then a - 224 else if L = 4 then a - 240 else a
end Go.Proofs.YtcngcapbikfbnaaDoor.W
