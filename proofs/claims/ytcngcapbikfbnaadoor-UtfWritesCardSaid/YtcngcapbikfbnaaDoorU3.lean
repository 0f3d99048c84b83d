/-
  Texts: the form that stands first (the library's tables). No condition but on sizes.
-/
import Derived.Test.YtcngcapbikfbnaaDoorU1
namespace Go.Proofs.YtcngcapbikfbnaaDoor.W
open Go Go.Vm Go.Proofs
set_option maxRecDepth 100000
set_option linter.unusedSimpArgs false
set_option maxHeartbeats 1000000
/-! unicode/utf8.decodeRuneSlow -/
def c41 : AC :=
 (.seq (.reg [oo 2 (.mov (.c (.pure (.int .i32 0)))),
 oo 3 (.mov (nI 0))])
 (.seq (.reg [oo 13 (.mov (.s 0)),
 oo 14 (.len (.s 13)),
 oo 4 (.mov (.s 14))])
 (.seq (.seq (.reg [oo 15 (.mov (.s 4)),
 oo 16 (.bin .lss (.s 15) (nI 1))])
 (.cond (.s 16)
 (.seq (.reg [oo 2 (.mov (.c (.pure (.int .i32 65533)))),
 oo 3 (.mov (nI 0))])
 .ret)
 .skip))
 (.seq (.reg [oo 17 (.mov (.s 0)),
 oo 18 (.idxA 1 (.s 17) (nI 0)),
 oo 19 (.load false 1 (.s 18)),
 oo 5 (.mov (.s 19))])
 (.seq (.reg [oo 20 (.mov (.s 5)),
 oo 21 (.idxAA 256 1 (.c (.pptr tabV256 0)) (.s 20)),
 oo 22 (.load false 1 (.s 21)),
 oo 6 (.mov (.s 22))])
 (.seq (.seq (.reg [oo 23 (.mov (.s 6)),
 oo 24 (.bin .geq (.s 23) (.c (.pure (.int .u8 240))))])
 (.cond (.s 24)
 (.seq (.reg [oo 25 (.mov (.s 6)),
 oo 26 (.conv .i32 (.s 25)),
 oo 27 (.bin .shl (.s 26) (.c (.pure (.int .u64 31)))),
 oo 28 (.bin .shr (.s 27) (.c (.pure (.int .u64 31)))),
 oo 7 (.mov (.s 28))])
 (.seq (.reg [oo 29 (.mov (.s 0)),
 oo 30 (.idxA 1 (.s 29) (nI 0)),
 oo 31 (.load false 1 (.s 30)),
 oo 32 (.conv .i32 (.s 31)),
 oo 33 (.mov (.s 7)),
 oo 34 (.bin .andNot (.s 32) (.s 33)),
 oo 35 (.mov (.s 7)),
 oo 36 (.bin .and (.c (.pure (.int .i32 65533))) (.s 35)),
 oo 37 (.bin .or (.s 34) (.s 36)),
 oo 2 (.mov (.s 37)),
 oo 3 (.mov (nI 1))])
 .ret))
 .skip))
 (.seq (.reg [oo 38 (.mov (.s 6)),
 oo 39 (.bin .and (.s 38) (.c (.pure (.int .u8 7)))),
 oo 40 (.conv .i64 (.s 39)),
 oo 8 (.mov (.s 40))])
 (.seq (.reg [oo 41 (.mov (.s 6)),
 oo 42 (.bin .shr (.s 41) (.c (.pure (.int .u64 4)))),
 oo 43 (.idxAA 16 2 (.c (.pptr tabV32 0)) (.s 42)),
 oo 44 (.load true 2 (.s 43)),
 oo 9 (.box (.c (.pure (.agg [(.int .u8 0), (.int .u8 0)])))),
⟨none, none, .store 2 (.s 9) (.s 44)⟩])
 (.seq (.seq (.reg [oo 45 (.mov (.s 4)),
 oo 46 (.mov (.s 8)),
 oo 47 (.bin .lss (.s 45) (.s 46))])
 (.cond (.s 47)
 (.seq (.reg [oo 2 (.mov (.c (.pure (.int .i32 65533)))),
 oo 3 (.mov (nI 1))])
 .ret)
 .skip))
 (.seq (.reg [oo 48 (.mov (.s 0)),
 oo 49 (.idxA 1 (.s 48) (nI 1)),
 oo 50 (.load false 1 (.s 49)),
 oo 10 (.mov (.s 50))])
 (.seq (.seq (.reg [oo 51 (.mov (.s 10)),
 oo 52 (.fldA 0 (.s 9)),
 oo 53 (.load false 1 (.s 52)),
 oo 54 (.bin .lss (.s 51) (.s 53)),
 oo 55 (.mov (.s 54)),
 og 56 55 false (.fldA 1 (.s 9)),
 og 57 55 false (.load false 1 (.s 56)),
 og 58 55 false (.mov (.s 10)),
 og 59 55 false (.bin .lss (.s 57) (.s 58)),
 oo 60 (.pick (.s 55) (nB true) (.s 59))])
 (.cond (.s 60)
 (.seq (.reg [oo 2 (.mov (.c (.pure (.int .i32 65533)))),
 oo 3 (.mov (nI 1))])
 .ret)
 .skip))
 (.seq (.seq (.reg [oo 61 (.mov (.s 8)),
 oo 62 (.bin .leq (.s 61) (nI 2))])
 (.cond (.s 62)
 (.seq (.reg [oo 63 (.mov (.s 5)),
 oo 64 (.bin .and (.s 63) (.c (.pure (.int .u8 31)))),
 oo 65 (.conv .i32 (.s 64)),
 oo 66 (.bin .shl (.s 65) (.c (.pure (.int .u64 6)))),
 oo 67 (.mov (.s 10)),
 oo 68 (.bin .and (.s 67) (.c (.pure (.int .u8 63)))),
 oo 69 (.conv .i32 (.s 68)),
 oo 70 (.bin .or (.s 66) (.s 69)),
 oo 2 (.mov (.s 70)),
 oo 3 (.mov (nI 2))])
 .ret)
 .skip))
 (.seq (.reg [oo 71 (.mov (.s 0)),
 oo 72 (.idxA 1 (.s 71) (nI 2)),
 oo 73 (.load false 1 (.s 72)),
 oo 11 (.mov (.s 73))])
 (.seq (.seq (.reg [oo 74 (.mov (.s 11)),
 oo 75 (.bin .lss (.s 74) (.c (.pure (.int .u8 128)))),
 oo 76 (.mov (.s 75)),
 og 77 76 false (.mov (.s 11)),
 og 78 76 false (.bin .lss (.c (.pure (.int .u8 191))) (.s 77)),
 oo 79 (.pick (.s 76) (nB true) (.s 78))])
 (.cond (.s 79)
 (.seq (.reg [oo 2 (.mov (.c (.pure (.int .i32 65533)))),
 oo 3 (.mov (nI 1))])
 .ret)
 .skip))
 (.seq (.seq (.reg [oo 80 (.mov (.s 8)),
 oo 81 (.bin .leq (.s 80) (nI 3))])
 (.cond (.s 81)
 (.seq (.reg [oo 82 (.mov (.s 5)),
 oo 83 (.bin .and (.s 82) (.c (.pure (.int .u8 15)))),
 oo 84 (.conv .i32 (.s 83)),
 oo 85 (.bin .shl (.s 84) (.c (.pure (.int .u64 12)))),
 oo 86 (.mov (.s 10)),
 oo 87 (.bin .and (.s 86) (.c (.pure (.int .u8 63)))),
 oo 88 (.conv .i32 (.s 87)),
 oo 89 (.bin .shl (.s 88) (.c (.pure (.int .u64 6)))),
 oo 90 (.bin .or (.s 85) (.s 89)),
 oo 91 (.mov (.s 11)),
 oo 92 (.bin .and (.s 91) (.c (.pure (.int .u8 63)))),
 oo 93 (.conv .i32 (.s 92)),
 oo 94 (.bin .or (.s 90) (.s 93)),
 oo 2 (.mov (.s 94)),
 oo 3 (.mov (nI 3))])
 .ret)
 .skip))
 (.seq (.reg [oo 95 (.mov (.s 0)),
 oo 96 (.idxA 1 (.s 95) (nI 3)),
 oo 97 (.load false 1 (.s 96)),
 oo 12 (.mov (.s 97))])
 (.seq (.seq (.reg [oo 98 (.mov (.s 12)),
 oo 99 (.bin .lss (.s 98) (.c (.pure (.int .u8 128)))),
 oo 100 (.mov (.s 99)),
 og 101 100 false (.mov (.s 12)),
 og 102 100 false (.bin .lss (.c (.pure (.int .u8 191))) (.s 101)),
 oo 103 (.pick (.s 100) (nB true) (.s 102))])
 (.cond (.s 103)
 (.seq (.reg [oo 2 (.mov (.c (.pure (.int .i32 65533)))),
 oo 3 (.mov (nI 1))])
 .ret)
 .skip))
 (.seq (.reg [oo 104 (.mov (.s 5)),
 oo 105 (.bin .and (.s 104) (.c (.pure (.int .u8 7)))),
 oo 106 (.conv .i32 (.s 105)),
 oo 107 (.bin .shl (.s 106) (.c (.pure (.int .u64 18)))),
 oo 108 (.mov (.s 10)),
 oo 109 (.bin .and (.s 108) (.c (.pure (.int .u8 63)))),
 oo 110 (.conv .i32 (.s 109)),
 oo 111 (.bin .shl (.s 110) (.c (.pure (.int .u64 12)))),
 oo 112 (.bin .or (.s 107) (.s 111)),
 oo 113 (.mov (.s 11)),
 oo 114 (.bin .and (.s 113) (.c (.pure (.int .u8 63)))),
 oo 115 (.conv .i32 (.s 114)),
 oo 116 (.bin .shl (.s 115) (.c (.pure (.int .u64 6)))),
 oo 117 (.bin .or (.s 112) (.s 116)),
 oo 118 (.mov (.s 12)),
 oo 119 (.bin .and (.s 118) (.c (.pure (.int .u8 63)))),
 oo 120 (.conv .i32 (.s 119)),
 oo 121 (.bin .or (.s 117) (.s 120)),
 oo 2 (.mov (.s 121)),
 oo 3 (.mov (nI 4))])
 .ret))))))))))))))))))
theorem k41 : OkF 41 Tryd.f41 c41 [.t 2, .t 3] 122 := ⟨Tryd.func41, by kernel_rfl, by kernel_rfl, by kernel_rfl, Tryd.ntmps41⟩
/-! unicode/utf8.DecodeRune -/
def c39_0 : AC :=
 (.seq (.reg [oo 18 (.mov (.s 0)),
 oo 19 (.call 41 [(.s 18)]),
 oo 17 (.mov (.s 19)),
 oo 20 (.ext 0 (.s 17)),
 oo 21 (.ext 1 (.s 17)),
 oo 2 (.mov (.s 20)),
 oo 3 (.mov (.s 21))])
 .ret)
def c39_1 : AC :=
 (.seq (.reg [oo 9 (.bin .lss (.s 8) (.s 7))])
 (.seq (.cond (.s 9)
 .skip
 (.exit 0))
 (.seq (.block 1
 (.seq (.reg [oo 10 (.idxA 1 (.s 6) (.s 8)),
 oo 11 (.load false 1 (.s 10)),
 oo 5 (.mov (.s 11))])
 (.seq (.seq (.reg [oo 12 (.mov (.s 5)),
 oo 13 (.bin .lss (.s 12) (.c (.pure (.int .u8 128))))])
 (.cond (.s 13)
 (.seq (.reg [oo 14 (.mov (.s 5)),
 oo 15 (.conv .i32 (.s 14)),
 oo 2 (.mov (.s 15)),
 oo 3 (.mov (nI 1))])
 .ret)
 .skip))
 (.exit 0))))
 (.reg [oo 16 (.bin .add (.s 8) (nI 1)),
 oo 8 (.mov (.s 16))]))))
def c39 : AC :=
 (.seq (.reg [oo 2 (.mov (.c (.pure (.int .i32 0)))),
 oo 3 (.mov (nI 0))])
 (.seq (.seq (.reg [oo 6 (.mov (.s 0)),
 oo 7 (.len (.s 6)),
 oo 8 (.mov (nI 0))])
 (.block 0
 (.loop c39_1)))
 c39_0))
theorem k39 : OkF 39 Tryd.f39 c39 [.t 2, .t 3] 22 := ⟨Tryd.func39, by kernel_rfl, by kernel_rfl, by kernel_rfl, Tryd.ntmps39⟩
/-! typecase/utf.form -/
def c33 : AC :=
 (.seq (.reg [oo 2 (.mov (.c (.pure (.int .i32 0)))),
 oo 3 (.mov (nI 0))])
 (.seq (.reg [oo 7 (.mov (.s 0)),
 oo 8 (.call 39 [(.s 7)]),
 oo 6 (.mov (.s 8)),
 oo 9 (.ext 0 (.s 6)),
 oo 10 (.ext 1 (.s 6)),
 oo 4 (.mov (.s 9)),
 oo 5 (.mov (.s 10))])
 (.seq (.seq (.reg [oo 11 (.mov (.s 5)),
 oo 12 (.bin .eql (.s 11) (nI 0)),
 oo 13 (.mov (.s 12)),
 og 14 13 false (.mov (.s 4)),
 og 15 13 false (.bin .eql (.s 14) (.c (.pure (.int .i32 65533)))),
 og 16 13 false (.mov (.s 15)),
 og 17 16 true (.mov (.s 5)),
 og 18 16 true (.bin .eql (.s 17) (nI 1)),
 og 19 13 false (.pick (.s 16) (.s 18) (nB false)),
 oo 20 (.pick (.s 13) (nB true) (.s 19))])
 (.cond (.s 20)
 (.seq (.reg [oo 2 (.mov (.c (.pure (.int .i32 0)))),
 oo 3 (.mov (nI 0))])
 .ret)
 .skip))
 (.seq (.reg [oo 21 (.mov (.s 4)),
 oo 22 (.mov (.s 5)),
 oo 2 (.mov (.s 21)),
 oo 3 (.mov (.s 22))])
 .ret))))
theorem k33 : OkF 33 Tryd.f33 c33 [.t 2, .t 3] 23 := ⟨Tryd.func33, by kernel_rfl, by kernel_rfl, by kernel_rfl, Tryd.ntmps33⟩
/-! typecase/utf.beginning -/
def c34_0 : AC :=
 (.seq (.reg [oo 71 (.mov (.s 7)),
 oo 2 (.mov (.s 71))])
 .ret)
def c34_1 : AC :=
 (.seq (.seq (.reg [oo 43 (.mov (.s 7)),
 oo 44 (.mov (.s 3)),
 oo 45 (.bin .sub (.s 44) (nI 1)),
 oo 46 (.bin .lss (.s 43) (.s 45)),
 oo 47 (.mov (.s 46)),
 og 48 47 true (.mov (.s 7)),
 og 49 47 true (.mov (.s 0)),
 og 50 47 true (.len (.s 49)),
 og 51 47 true (.bin .lss (.s 48) (.s 50)),
 oo 52 (.pick (.s 47) (.s 51) (nB false)),
 oo 53 (.mov (.s 52)),
 og 54 53 true (.mov (.s 0)),
 og 55 53 true (.mov (.s 7)),
 og 56 53 true (.idxA 1 (.s 54) (.s 55)),
 og 57 53 true (.load false 1 (.s 56)),
 og 58 53 true (.mov (.s 4)),
 og 59 53 true (.bin .geq (.s 57) (.s 58)),
 oo 60 (.pick (.s 53) (.s 59) (nB false)),
 oo 61 (.mov (.s 60)),
 og 62 61 true (.mov (.s 0)),
 og 63 61 true (.mov (.s 7)),
 og 64 61 true (.idxA 1 (.s 62) (.s 63)),
 og 65 61 true (.load false 1 (.s 64)),
 og 66 61 true (.mov (.s 5)),
 og 67 61 true (.bin .leq (.s 65) (.s 66)),
 oo 68 (.pick (.s 61) (.s 67) (nB false))])
 (.cond (.s 68)
 .skip
 (.exit 2)))
 (.block 3
 (.seq (.reg [oo 4 (.mov (.c (.pure (.int .u8 128)))),
 oo 5 (.mov (.c (.pure (.int .u8 191))))])
 (.reg [oo 69 (.mov (.s 7)),
 oo 70 (.bin .add (.s 69) (nI 1)),
 oo 7 (.mov (.s 70))]))))
def c34 : AC :=
 (.seq (.reg [oo 2 (.mov (nI 0))])
 (.seq (.seq (.reg [oo 8 (.mov (.s 0)),
 oo 9 (.len (.s 8)),
 oo 10 (.bin .eql (.s 9) (nI 0)),
 oo 11 (.mov (.s 10)),
 og 12 11 false (.mov (.s 0)),
 og 13 11 false (.idxA 1 (.s 12) (nI 0)),
 og 14 11 false (.load false 1 (.s 13)),
 og 15 11 false (.bin .lss (.s 14) (.c (.pure (.int .u8 194)))),
 oo 16 (.pick (.s 11) (nB true) (.s 15)),
 oo 17 (.mov (.s 16)),
 og 18 17 false (.mov (.s 0)),
 og 19 17 false (.idxA 1 (.s 18) (nI 0)),
 og 20 17 false (.load false 1 (.s 19)),
 og 21 17 false (.bin .gtr (.s 20) (.c (.pure (.int .u8 244)))),
 oo 22 (.pick (.s 17) (nB true) (.s 21))])
 (.cond (.s 22)
 (.seq (.reg [oo 2 (.mov (nI 0))])
 .ret)
 .skip))
 (.seq (.reg [oo 3 (.mov (nI 2)),
 oo 4 (.mov (.c (.pure (.int .u8 128)))),
 oo 5 (.mov (.c (.pure (.int .u8 191))))])
 (.seq (.seq (.reg [oo 23 (.mov (.s 0)),
 oo 24 (.idxA 1 (.s 23) (nI 0)),
 oo 25 (.load false 1 (.s 24)),
 oo 6 (.mov (.s 25))])
 (.block 0
 (.seq (.reg [oo 27 (.mov (.s 6)),
 oo 28 (.bin .geq (.s 27) (.c (.pure (.int .u8 240)))),
 oo 26 (.mov (.s 28))])
 (.cond (.s 26)
 (.reg [oo 3 (.mov (nI 4))])
 (.seq (.reg [oo 30 (.mov (.s 6)),
 oo 31 (.bin .geq (.s 30) (.c (.pure (.int .u8 224)))),
 oo 29 (.mov (.s 31))])
 (.cond (.s 29)
 (.reg [oo 3 (.mov (nI 3))])
 .skip))))))
 (.seq (.seq (.reg [oo 32 (.mov (.s 0)),
 oo 33 (.idxA 1 (.s 32) (nI 0)),
 oo 34 (.load false 1 (.s 33))])
 (.block 1
 (.seq (.reg [oo 36 (.bin .eql (.s 34) (.c (.pure (.int .u8 224)))),
 oo 35 (.mov (.s 36))])
 (.cond (.s 35)
 (.reg [oo 4 (.mov (.c (.pure (.int .u8 160))))])
 (.seq (.reg [oo 38 (.bin .eql (.s 34) (.c (.pure (.int .u8 237)))),
 oo 37 (.mov (.s 38))])
 (.cond (.s 37)
 (.reg [oo 5 (.mov (.c (.pure (.int .u8 159))))])
 (.seq (.reg [oo 40 (.bin .eql (.s 34) (.c (.pure (.int .u8 240)))),
 oo 39 (.mov (.s 40))])
 (.cond (.s 39)
 (.reg [oo 4 (.mov (.c (.pure (.int .u8 144))))])
 (.seq (.reg [oo 42 (.bin .eql (.s 34) (.c (.pure (.int .u8 244)))),
 oo 41 (.mov (.s 42))])
 (.cond (.s 41)
 (.reg [oo 5 (.mov (.c (.pure (.int .u8 143))))])
 .skip))))))))))
 (.seq (.reg [oo 7 (.mov (nI 1))])
 (.seq (.block 2
 (.loop c34_1))
 c34_0)))))))
theorem k34 : OkF 34 Tryd.f34 c34 [.t 2] 72 := ⟨Tryd.func34, by kernel_rfl, by kernel_rfl, by kernel_rfl, Tryd.ntmps34⟩
/-- what the tables tell of a byte: none; or how many, and between what the next one lies -/
def fstZ (a : Int) : Int := if a < 194 ∨ 244 < a then 241 else if a < 224 then 2 else if a = 224 then 19 else if a = 237 then 35 else if a < 240 then 3 else if a = 240 then 52 else if a = 244 then 68 else 4
theorem first_at : ∀ n : Fin 256, 128 ≤ n.val → (Pinned.utf8FirstZ[n.val]?).map (fun (x : Nat) => (x : Int)) = some (fstZ n.val) := by decide +kernel
theorem tab_first {a : Int} (h0 : 128 ≤ a) (h1 : a ≤ 255) : (List.map S.pure tabV256.cells)[a.toNat * 1]? = some (.pure (B (fstZ a))) := by
 obtain ⟨n, rfl⟩ := Int.eq_ofNat_of_zero_le (show 0 ≤ a by omega)
 have := first_at ⟨n, by omega⟩ (by simp only; omega)
 simp only at this
 rw [Int.toNat_natCast, Nat.mul_one]
 show ((Pinned.utf8FirstZ.map fun (n : Nat) => V.int .u8 (n : Int)).map S.pure)[n]? = _
 rw [List.getElem?_map, List.getElem?_map]
 obtain ⟨x, hx, e⟩ := Option.map_eq_some_iff.1 this
 rw [hx, ← e]
 rfl
theorem bin_andNot {k : IntKind} {a b : Int} : binF .andNot (.pure (.int k a)) (.pure (.int k b)) = some (.pure (.int k (k.wrap (BitVec.ofInt k.bits a &&& ~~~BitVec.ofInt k.bits b).toNat))) := by simp [binF, intF]
theorem mask1 : IntKind.wrap .i32 (241 * 2 ^ min 31 (IntKind.bits .i32)) = -2147483648 := by decide +kernel
theorem mask2 : Int.fdiv (-2147483648) (2 ^ min 31 (IntKind.bits .i32)) = -1 := by decide +kernel
theorem mask3 (a : Int) : IntKind.wrap .i32 ((BitVec.ofInt (IntKind.bits .i32) a &&& ~~~BitVec.ofInt (IntKind.bits .i32) (-1)).toNat : Int) = 0 := by
 have e : (~~~BitVec.ofInt (IntKind.bits .i32) (-1)) = 0#(IntKind.bits .i32) := by decide +kernel
 rw [e, BitVec.and_zero]
 decide +kernel
theorem mask4 : IntKind.wrap .i32 ((BitVec.ofInt (IntKind.bits .i32) 65533 &&& BitVec.ofInt (IntKind.bits .i32) (-1)).toNat : Int) = 65533 := by decide +kernel
theorem mask5 : IntKind.wrap .i32 ((BitVec.ofInt (IntKind.bits .i32) 0 ||| BitVec.ofInt (IntKind.bits .i32) 65533).toNat : Int) = 65533 := by decide +kernel
def decF (b : List Int) : Int × Int := if b = [] then (65533, 0) else if okB b = true then (valF (b.take (lng (hd b))), lng (hd b)) else (65533, 1)
theorem okz {b : List Int} (h : lng (hd b) = 0) : okB b = false := by
 cases b with
 | nil => rfl
 | cons a r => exact ok0 h
theorem fst_facts {a : Int} (h : ¬ (a < 194 ∨ 244 < a)) : 0 ≤ fstZ a ∧ fstZ a < 240 ∧ fstZ a % 8 = lng a ∧ 2 ≤ lng a ∧ ∃ i : Nat, fstZ a / 16 = i ∧ i < 5 ∧ rangesZ[2 * i]? = some (lo2 a).toNat ∧ rangesZ[2 * i + 1]? = some (hi2 a).toNat ∧ 128 ≤ lo2 a ∧ hi2 a ≤ 191 := by
 by_cases h1 : a < 224
 ·have e : fstZ a = 2 := by rw [fstZ, if_neg h, if_pos h1]
  have l : lng a = 2 := by rw [lng, if_neg (by omega), if_neg h, if_pos h1]
  have lo : lo2 a = 128 := by rw [lo2, if_neg (by omega), if_neg (by omega)]
  have hi : hi2 a = 191 := by rw [hi2, if_neg (by omega), if_neg (by omega)]
  rw [e, l, lo, hi]
  exact ⟨by omega, by omega, by decide, by omega, 0, rfl, by omega, rfl, rfl, by omega, by omega⟩
 by_cases h2 : a = 224
 ·subst h2
  exact ⟨by decide, by decide, by decide, by decide, 1, rfl, by decide, rfl, rfl, by decide, by decide⟩
 by_cases h3 : a = 237
 ·subst h3
  exact ⟨by decide, by decide, by decide, by decide, 2, rfl, by decide, rfl, rfl, by decide, by decide⟩
 by_cases h4 : a < 240
 ·have e : fstZ a = 3 := by rw [fstZ, if_neg h, if_neg h1, if_neg h2, if_neg h3, if_pos h4]
  have l : lng a = 3 := by rw [lng, if_neg (by omega), if_neg h, if_neg h1, if_pos h4]
  have lo : lo2 a = 128 := by rw [lo2, if_neg (by omega), if_neg (by omega)]
  have hi : hi2 a = 191 := by rw [hi2, if_neg (by omega), if_neg (by omega)]
  rw [e, l, lo, hi]
  exact ⟨by omega, by omega, by decide, by omega, 0, rfl, by omega, rfl, rfl, by omega, by omega⟩
 by_cases h5 : a = 240
 ·subst h5
  exact ⟨by decide, by decide, by decide, by decide, 3, rfl, by decide, rfl, rfl, by decide, by decide⟩
 by_cases h6 : a = 244
 ·subst h6
  exact ⟨by decide, by decide, by decide, by decide, 4, rfl, by decide, rfl, rfl, by decide, by decide⟩
 ·have e : fstZ a = 4 := by rw [fstZ, if_neg h, if_neg h1, if_neg h2, if_neg h3, if_neg h4, if_neg h5, if_neg h6]
  have l : lng a = 4 := by rw [lng, if_neg (by omega), if_neg h, if_neg h1, if_neg h4]
  have lo : lo2 a = 128 := by rw [lo2, if_neg (by omega), if_neg (by omega)]
  have hi : hi2 a = 191 := by rw [hi2, if_neg (by omega), if_neg (by omega)]
  rw [e, l, lo, hi]
  exact ⟨by omega, by omega, by decide, by omega, 0, rfl, by omega, rfl, rfl, by omega, by omega⟩
theorem rng_at {i : Nat} {a : Int} (hi5 : i < 5) (rlo : rangesZ[2 * i]? = some (lo2 a).toNat) (rhi : rangesZ[2 * i + 1]? = some (hi2 a).toNat) (h0 : 0 ≤ lo2 a) (h1 : 0 ≤ hi2 a) :
  (if i * 2 = 0 ∧ 2 = tabV32.cells.length ∧ tabV32.isCell = false then some (S.pure tabV32)
  else if i * 2 + 2 ≤ tabV32.cells.length then some (mkA (S.allPure (List.take 2 (List.drop (i * 2) (List.map S.pure tabV32.cells)))) (List.take 2 (List.drop (i * 2) (List.map S.pure tabV32.cells)))) else none) = some (.pure (.agg [B (lo2 a), B (hi2 a)])) := by
 match i, hi5 with
 | 0, _ =>
  simp [rangesZ] at rlo rhi
  rw [show lo2 a = 128 by omega, show hi2 a = 191 by omega]
  rfl
 | 1, _ =>
  simp [rangesZ] at rlo rhi
  rw [show lo2 a = 160 by omega, show hi2 a = 191 by omega]
  rfl
 | 2, _ =>
  simp [rangesZ] at rlo rhi
  rw [show lo2 a = 128 by omega, show hi2 a = 159 by omega]
  rfl
 | 3, _ =>
  simp [rangesZ] at rlo rhi
  rw [show lo2 a = 144 by omega, show hi2 a = 191 by omega]
  rfl
 | 4, _ =>
  simp [rangesZ] at rlo rhi
  rw [show lo2 a = 128 by omega, show hi2 a = 143 by omega]
  rfl
theorem hi2_pos {a : Int} : 0 ≤ hi2 a := by
 unfold hi2
 repeat' split
 all_goals omega
theorem lng2 {a : Int} (h : lng a = 2) : 194 ≤ a ∧ a < 224 := by
 unfold lng at h
 repeat' split at h
 all_goals omega
theorem lng3 {a : Int} (h : lng a = 3) : 224 ≤ a ∧ a < 240 := by
 unfold lng at h
 repeat' split at h
 all_goals omega
theorem lng4 {a : Int} (h : lng a = 4) : 240 ≤ a ∧ a ≤ 244 := by
 unfold lng at h
 repeat' split at h
 all_goals omega
theorem slow_q (b : List Int) (hb : Byt b) (h0 : b ≠ [] → 128 ≤ hd b) (hl : b.length ≤ 1000000) : FnQ Tryd.prog 41 [.sl (b.map B)] [R (decF b).1, I (decF b).2] := by
 refine k41.q (by simp) ?_
 unfold c41
 simp only [vmp,↓vmd,seval]
 refine onIf_intro fun hlen => ?_
 simp only [vmp,↓vmd,seval]
 by_cases h1 : (b.length : Int) < 1
 ·refine onB_pos h1 ?_
  obtain rfl : b = [] := List.length_eq_zero_iff.1 (by omega)
  simp only [vmp,↓vmd,seval]
  exact gives_tup rfl (by simp)
 refine onB_neg h1 ?_
 have hlt : 0 < b.length := by omega
 have hne : b ≠ [] := List.length_pos_iff.1 hlt
 have ha0 := h0 hne
 have ha1 := (hb.at hlt).2
 have m0 := map_at (f := B) hlt
 rw [hd_at hlt] at ha1 m0
 have hlz : (0 : Int) < (b.length : Int) := by omega
 have tf := tab_first ha0 ha1
 have hz : (0 : Int) ≤ hd b := by omega
 have hz1 : hd b < 256 := by omega
 simp only [h1, hlz, m0, hz, hz1, tf, vmp,↓vmd,seval]
 have wa := wi32_id (n := hd b) (by omega) (by omega)
 by_cases h2 : hd b < 194 ∨ 244 < hd b
 ·have e : fstZ (hd b) = 241 := by rw [fstZ, if_pos h2]
  have el : lng (hd b) = 0 := by rw [lng, if_neg (by omega), if_pos h2]
  have ed : decF b = (65533, 1) := by rw [decF, if_neg hne, if_neg (by rw [okz el]; simp)]
  rw [e]
  have w241 : IntKind.wrap .i32 241 = 241 := wi32_id (by omega) (by omega)
  simp only [show (240 : Int) ≤ 241 by omega, hlz, m0, w241, wa, mask1, mask2, mask3 (hd b), mask4, mask5, bin_andNot, ed, vmp,↓vmd,seval]
  exact gives_tup rfl (by simp)
 obtain ⟨x0, x1, x7, l2, i, xi, hi5, rlo, rhi, hlo, hhi⟩ := fst_facts h2
 have l4 := lng_le (c := hd b)
 generalize fstZ (hd b) = x at *
 have x240 : ¬ (240 : Int) ≤ x := by omega
 have wx7 : IntKind.wrap .u8 ((BitVec.ofInt (IntKind.bits .u8) x &&& BitVec.ofInt (IntKind.bits .u8) 7).toNat : Int) = lng (hd b) := by rw [and7 x0 (by omega), x7]
 have wl : IntKind.wrap .i64 (lng (hd b) : Int) = lng (hd b) := wrap_id (by omega) (by omega)
 have wx4 : Int.fdiv x (2 ^ min 4 (IntKind.bits .u8)) = i := by rw [show min 4 (IntKind.bits .u8) = 4 from rfl, shr_div, ← xi]; rfl
 have hi0 : (0 : Int) ≤ (i : Int) := by omega
 have hi16 : (i : Int) < 16 := by omega
 refine onB_neg x240 ?_
 simp only [x240, wx7, wl, wx4, hi0, hi16, vmp,↓vmd,seval]
 refine onS_eq (rng_at hi5 rlo rhi (by omega) hi2_pos) ?_
 by_cases c1 : (b.length : Int) < lng (hd b)
 ·have ed : decF b = (65533, 1) := by
   rw [decF, if_neg hne, if_neg]
   intro h
   have := ok_lng h
   omega
  (first | apply envO | apply envQ); simp only [vmp,↓vmd,seval]; rfl
  simp only [vmp,↓vmd,seval]
  refine onB_pos c1 ?_
  simp only [c1, ed, vmp,↓vmd,seval]
  exact gives_tup rfl (by simp)
 have d1 : 1 < b.length := by omega
 have m1 := map_at (f := B) d1
 have b1 := hb.at d1
 have lt1 : (1 : Int) < (b.length : Int) := by omega
 generalize hb1 : b[1] = p1 at *
 (first | apply envO | apply envQ); simp only [vmp,↓vmd,seval]; rfl
 simp only [vmp,↓vmd,seval]
 refine onB_neg c1 ?_
 simp only [c1, lt1, m1, vmp,↓vmd,seval]
 have bad : okB b = false → decF b = (65533, 1) := fun h => by rw [decF, if_neg hne, if_neg (by rw [h]; simp)]
 have good : okB b = true → decF b = (valF (b.take (lng (hd b))), (lng (hd b) : Int)) := fun h => by rw [decF, if_neg hne, if_pos h]
 have g1 : okB b = true → gd (hd b) 1 p1 := fun h => by
  rw [← hb1]
  rcases (show lng (hd b) = 2 ∨ lng (hd b) = 3 ∨ lng (hd b) = 4 by omega) with e | e | e
  ·exact ((ok2 e).1 h).2
  ·exact ((ok3 e).1 h).2.1
  ·exact ((ok4 e).1 h).2.1
 by_cases c2 : p1 < lo2 (hd b)
 ·have ed := bad (by cases h : okB b; rfl; exact absurd (gd_one.1 (g1 h)).1 (by omega))
  refine onB_pos c2 ?_
  simp only [c2, ed, vmp,↓vmd,seval]
  exact gives_tup rfl (by simp)
 refine onB_neg c2 ?_
 simp only [c2, vmp,↓vmd,seval]
 by_cases c3 : hi2 (hd b) < p1
 ·have ed := bad (by cases h : okB b; rfl; exact absurd (gd_one.1 (g1 h)).2 (by omega))
  refine onB_pos c3 ?_
  simp only [c3, ed, vmp,↓vmd,seval]
  exact gives_tup rfl (by simp)
 refine onB_neg c3 ?_
 have gg1 : gd (hd b) 1 p1 := gd_one.2 ⟨by omega, by omega⟩
 have p1r := gd_in gg1
 simp only [c3, vmp,↓vmd,seval]
 have k6 : ∀ n : Int, 0 ≤ n → n ≤ 4194303 → IntKind.wrap .i32 (n * 2 ^ min 6 (IntKind.bits .i32)) = n * 64 := fun n h0 h9 => by
  rw [show min 6 (IntKind.bits .i32) = 6 from rfl]
  exact wi32_id (by omega) (by omega)
 have k12 : ∀ n : Int, 0 ≤ n → n ≤ 4095 → IntKind.wrap .i32 (n * 2 ^ min 12 (IntKind.bits .i32)) = n * 4096 := fun n h0 h9 => by
  rw [show min 12 (IntKind.bits .i32) = 12 from rfl]
  exact wi32_id (by omega) (by omega)
 have k18 : ∀ n : Int, 0 ≤ n → n ≤ 7 → IntKind.wrap .i32 (n * 2 ^ min 18 (IntKind.bits .i32)) = n * 262144 := fun n h0 h9 => by
  rw [show min 18 (IntKind.bits .i32) = 18 from rfl]
  exact wi32_id (by omega) (by omega)
 have a1 := and63 (z := p1) (by omega) (by omega)
 have w1 := wi32_id (n := p1 % 64) (by omega) (by omega)
 by_cases c4 : lng (hd b) = 2
 ·have ok : okB b = true := (ok2 c4).2 ⟨d1, by rw [hb1]; exact gg1⟩
  have ed := good ok
  have lr := lng2 c4
  rw [c4, val2 d1, hd_at hlt, hb1] at ed
  have e0 := and31 (z := hd b) (by omega) (by omega)
  have w0 := wi32_id (n := hd b % 32) (by omega) (by omega)
  have s0 := k6 (hd b % 32) (by omega) (by omega)
  have o := or32 6 (x := hd b % 32 * 64) (y := p1 % 64) (a := hd b % 32) (by omega) (by omega) (by omega) (by omega) (by omega) (by omega)
  have ev : hd b % 32 * 64 + p1 % 64 = (hd b - 192) * 64 + p1 - 128 := by omega
  have c5 : (lng (hd b) : Int) ≤ 2 := by omega
  refine onB_pos c5 ?_
  simp only [c5, e0, w0, s0, a1, w1, o, ev, ed, vmp,↓vmd,seval]
  exact gives_tup rfl (by simp)
 have c5 : ¬ (lng (hd b) : Int) ≤ 2 := by omega
 have d2 : 2 < b.length := by omega
 have m2 := map_at (f := B) d2
 have b2 := hb.at d2
 have lt2 : (2 : Int) < (b.length : Int) := by omega
 generalize hb2 : b[2] = p2 at *
 refine onB_neg c5 ?_
 have g2 : okB b = true → gd (hd b) 2 p2 := fun h => by
  rw [← hb2]
  rcases (show lng (hd b) = 3 ∨ lng (hd b) = 4 by omega) with e | e
  ·exact ((ok3 e).1 h).2.2
  ·exact ((ok4 e).1 h).2.2.1
 simp only [c5, lt2, m2, vmp,↓vmd,seval]
 by_cases c6 : p2 < 128
 ·have ed := bad (by cases h : okB b; rfl; exact absurd ((gd_up (by omega)).1 (g2 h)).1 (by omega))
  refine onB_pos c6 ?_
  simp only [c6, ed, vmp,↓vmd,seval]
  exact gives_tup rfl (by simp)
 refine onB_neg c6 ?_
 simp only [c6, vmp,↓vmd,seval]
 by_cases c7 : 191 < p2
 ·have ed := bad (by cases h : okB b; rfl; exact absurd ((gd_up (by omega)).1 (g2 h)).2 (by omega))
  refine onB_pos c7 ?_
  simp only [c7, ed, vmp,↓vmd,seval]
  exact gives_tup rfl (by simp)
 refine onB_neg c7 ?_
 have gg2 : gd (hd b) 2 p2 := (gd_up (by omega)).2 ⟨by omega, by omega⟩
 have a2 := and63 (z := p2) (by omega) (by omega)
 have w2 := wi32_id (n := p2 % 64) (by omega) (by omega)
 simp only [c7, vmp,↓vmd,seval]
 by_cases c8 : lng (hd b) = 3
 ·have ok : okB b = true := (ok3 c8).2 ⟨d2, by rw [hb1]; exact gg1, by rw [hb2]; exact gg2⟩
  have ed := good ok
  have lr := lng3 c8
  rw [c8, val3 d2, hd_at hlt, hb1, hb2] at ed
  have e0 := and15 (z := hd b) (by omega) (by omega)
  have w0 := wi32_id (n := hd b % 16) (by omega) (by omega)
  have s0 := k12 (hd b % 16) (by omega) (by omega)
  have s1 := k6 (p1 % 64) (by omega) (by omega)
  have o := or32 12 (x := hd b % 16 * 4096) (y := p1 % 64 * 64) (a := hd b % 16) (by omega) (by omega) (by omega) (by omega) (by omega) (by omega)
  have o2 := or32 6 (x := hd b % 16 * 4096 + p1 % 64 * 64) (y := p2 % 64) (a := hd b % 16 * 64 + p1 % 64) (by omega) (by omega) (by omega) (by omega) (by omega) (by omega)
  have ev : hd b % 16 * 4096 + p1 % 64 * 64 + p2 % 64 = ((hd b - 224) * 64 + p1 - 128) * 64 + p2 - 128 := by omega
  have c9 : (lng (hd b) : Int) ≤ 3 := by omega
  refine onB_pos c9 ?_
  simp only [c9, e0, w0, s0, s1, a1, w1, a2, w2, o, o2, ev, ed, vmp,↓vmd,seval]
  exact gives_tup rfl (by simp)
 have l4' : lng (hd b) = 4 := by omega
 have c9 : ¬ (lng (hd b) : Int) ≤ 3 := by omega
 have d3 : 3 < b.length := by omega
 have m3 := map_at (f := B) d3
 have b3 := hb.at d3
 have lt3 : (3 : Int) < (b.length : Int) := by omega
 generalize hb3 : b[3] = p3 at *
 refine onB_neg c9 ?_
 have g3 : okB b = true → gd (hd b) 3 p3 := fun h => by
  rw [← hb3]
  exact ((ok4 l4').1 h).2.2.2
 simp only [c9, lt3, m3, vmp,↓vmd,seval]
 by_cases c10 : p3 < 128
 ·have ed := bad (by cases h : okB b; rfl; exact absurd ((gd_up (by omega)).1 (g3 h)).1 (by omega))
  refine onB_pos c10 ?_
  simp only [c10, ed, vmp,↓vmd,seval]
  exact gives_tup rfl (by simp)
 refine onB_neg c10 ?_
 simp only [c10, vmp,↓vmd,seval]
 by_cases c11 : 191 < p3
 ·have ed := bad (by cases h : okB b; rfl; exact absurd ((gd_up (by omega)).1 (g3 h)).2 (by omega))
  refine onB_pos c11 ?_
  simp only [c11, ed, vmp,↓vmd,seval]
  exact gives_tup rfl (by simp)
 refine onB_neg c11 ?_
 have gg3 : gd (hd b) 3 p3 := (gd_up (by omega)).2 ⟨by omega, by omega⟩
 have a3 := and63 (z := p3) (by omega) (by omega)
 have w3 := wi32_id (n := p3 % 64) (by omega) (by omega)
 have ok : okB b = true := (ok4 l4').2 ⟨d3, by rw [hb1]; exact gg1, by rw [hb2]; exact gg2, by rw [hb3]; exact gg3⟩
 have ed := good ok
 have lr := lng4 l4'
 rw [l4', val4 d3, hd_at hlt, hb1, hb2, hb3] at ed
 have e0 := and7 (z := hd b) (by omega) (by omega)
 have w0 := wi32_id (n := hd b % 8) (by omega) (by omega)
 have s0 := k18 (hd b % 8) (by omega) (by omega)
 have s1 := k12 (p1 % 64) (by omega) (by omega)
 have s2 := k6 (p2 % 64) (by omega) (by omega)
 have o := or32 18 (x := hd b % 8 * 262144) (y := p1 % 64 * 4096) (a := hd b % 8) (by omega) (by omega) (by omega) (by omega) (by omega) (by omega)
 have o2 := or32 12 (x := hd b % 8 * 262144 + p1 % 64 * 4096) (y := p2 % 64 * 64) (a := hd b % 8 * 64 + p1 % 64) (by omega) (by omega) (by omega) (by omega) (by omega) (by omega)
 have o3 := or32 6 (x := hd b % 8 * 262144 + p1 % 64 * 4096 + p2 % 64 * 64) (y := p3 % 64) (a := hd b % 8 * 4096 + p1 % 64 * 64 + p2 % 64) (by omega) (by omega) (by omega) (by omega) (by omega) (by omega)
 have ev : hd b % 8 * 262144 + p1 % 64 * 4096 + p2 % 64 * 64 + p3 % 64 = (((hd b - 240) * 64 + p1 - 128) * 64 + p2 - 128) * 64 + p3 - 128 := by omega
 simp only [e0, w0, s0, s1, s2, a1, w1, a2, w2, a3, w3, o, o2, o3, ev, ed, vmp,↓vmd,seval]
 exact gives_tup rfl (by simp)
theorem lng1 {a : Int} (h : a < 128) : lng a = 1 := by rw [lng, if_pos h]
theorem decF_ascii {b : List Int} (hne : b ≠ []) (h : hd b < 128) : decF b = (hd b, 1) := by
 cases b with
 | nil => exact absurd rfl hne
 | cons a r =>
  simp only [hd] at h
  rw [decF, if_neg hne, if_pos (ok1 (lng1 h))]
  simp only [hd, lng1 h]
  rfl
theorem dec_q (b : List Int) (hb : Byt b) (hl : b.length ≤ 1000000) : FnQ Tryd.prog 39 [.sl (b.map B)] [R (decF b).1, I (decF b).2] := by
 refine k39.q (by simp) ?_
 unfold c39
 simp only [vmp,↓vmd,seval]
 refine onIf_intro fun hlen => ?_
 simp only [vmp,↓vmd,seval]
 refine loop_at (T := Unit) (fun _ => [(8, .pure (I 0)), (7, .pure (I b.length)), (6, .pure (.sl (b.map B))), (0, .pure (.sl (b.map B)))]) (fun _ => []) (fun _ => True) (fun _ => 0)
  () [] (by simp) rfl trivial (by simp only [kpp,seval]) (by simp only [kpp,seval]) ?_
 intro _ _
 unfold c39_1
 simp only [vmp,↓vmd,seval]
 by_cases h1 : (0 : Int) < (b.length : Int)
 ·have hlt : 0 < b.length := by omega
  have hne : b ≠ [] := List.length_pos_iff.1 hlt
  have m0 := map_at (f := B) hlt
  have b0 := hb.at hlt
  rw [hd_at hlt] at m0 b0
  refine onB_pos h1 ?_
  simp only [h1, m0, vmp,↓vmd,seval]
  by_cases h2 : hd b < 128
  ·have ed := decF_ascii hne h2
   have w := wi32_id (n := hd b) (by omega) (by omega)
   refine onB_pos h2 ?_
   simp only [h2, w, ed, vmp,↓vmd,seval]
   exact gives_tup rfl (by simp)
  ·refine onB_neg h2 ?_
   simp only [h2, vmp,↓vmd,seval]
   unfold c39_0
   simp only [vmp,↓vmd,seval]
   refine onC_q (slow_q b hb (fun _ => by omega) hl) rfl ?_
   (first | apply envO | apply envQ); simp only [vmp,↓vmd,seval]; rfl
   simp only [vmp,↓vmd,seval]
   exact gives_tup rfl (by simp)
 ·refine onB_neg h1 ?_
  simp only [h1, vmp,↓vmd,seval]
  unfold c39_0
  simp only [vmp,↓vmd,seval]
  obtain rfl : b = [] := List.length_eq_zero_iff.1 (by omega)
  refine onC_q (slow_q [] hb (fun h => absurd rfl h) hl) rfl ?_
  (first | apply envO | apply envQ); simp only [vmp,↓vmd,seval]; rfl
  simp only [vmp,↓vmd,seval]
  exact gives_tup rfl (by simp)
/-- the form that stands first; none: nothing of no length -/
def frmF (b : List Int) : Int × Int := if okB b = true then (valF (b.take (lng (hd b))), lng (hd b)) else (0, 0)
theorem frm_q (b : List Int) (hb : Byt b) (hl : b.length ≤ 1000000) : FnQ Tryd.prog 33 [.sl (b.map B)] [R (frmF b).1, I (frmF b).2] := by
 refine k33.q (by simp) ?_
 unfold c33
 simp only [vmp,↓vmd,seval]
 refine onC_q (dec_q b hb hl) rfl ?_
 cases hok : okB b
 ·have ef : frmF b = (0, 0) := by rw [frmF, if_neg (by rw [hok]; simp)]
  by_cases hne : b = []
  ·have ed : decF b = (65533, 0) := by rw [decF, if_pos hne]
   rw [ed, ef]
   (first | apply envO | apply envQ); simp only [vmp,↓vmd,seval]; rfl
   simp only [vmp,↓vmd,seval]
   exact gives_tup rfl (by simp)
  ·have ed : decF b = (65533, 1) := by rw [decF, if_neg hne, if_neg (by rw [hok]; simp)]
   rw [ed, ef]
   (first | apply envO | apply envQ); simp only [vmp,↓vmd,seval]; rfl
   simp only [vmp,↓vmd,seval]
   exact gives_tup rfl (by simp)
 ·have ef : frmF b = (valF (b.take (lng (hd b))), (lng (hd b) : Int)) := by rw [frmF, if_pos hok]
  have hne : b ≠ [] := by rintro rfl; cases hok
  have ed : decF b = (valF (b.take (lng (hd b))), (lng (hd b) : Int)) := by rw [decF, if_neg hne, if_pos hok]
  have l0 := (ok_lng hok).1
  rw [ed, ef]
  have n0 : ¬ (lng (hd b) : Int) = 0 := by omega
  by_cases n1 : (lng (hd b) : Int) = 1
  ·have ha : hd b < 128 := by
    by_cases h : hd b < 128
    ·exact h
    ·exfalso
     have : lng (hd b) ≠ 1 := by
      rw [lng, if_neg h]
      repeat' split
      all_goals simp
     omega
   have e2 := decF_ascii hne ha
   have e3 : valF (b.take (lng (hd b))) = hd b := by rw [ed] at e2; exact (Prod.mk.inj e2).1
   have n2 : ¬ hd b = 65533 := by omega
   rw [e3]
   (first | apply envO | apply envQ); simp only [vmp,↓vmd,seval]; rfl
   simp only [n0, n1, vmp,↓vmd,seval]
   refine onB_neg n2 ?_
   simp only [n0, n1, n2, vmp,↓vmd,seval]
   exact gives_tup rfl (by simp)
  ·obtain ⟨v, hv⟩ : ∃ v, valF (b.take (lng (hd b))) = v := ⟨_, rfl⟩
   rw [hv]
   (first | apply envO | apply envQ); simp only [vmp,↓vmd,seval]; rfl
   simp only [n0, n1, vmp,↓vmd,seval]
   refine onB_dec (fun n2 => ?_) (fun n2 => ?_)
   ·simp only [n0, n1, n2, vmp,↓vmd,seval]
    exact gives_tup rfl (by simp)
   ·simp only [n0, n1, n2, vmp,↓vmd,seval]
    exact gives_tup rfl (by simp)
theorem cnt_go {a : Int} {L k : Nat} {b : List Int} (h : k < b.length) : cnt a L k (b.drop k) = if k < L ∧ gd a k b[k] then cnt a L (k + 1) (b.drop (k + 1)) else k := by
 rw [List.drop_eq_getElem_cons h]
 rfl
theorem cnt_end {a : Int} {L k : Nat} {b : List Int} (h : b.length ≤ k) : cnt a L k (b.drop k) = k := by
 rw [List.drop_eq_nil_of_le h]
 rfl
theorem st_drop {b : List Int} (h : b ≠ []) : st b = cnt (hd b) (lng (hd b)) 1 (b.drop 1) := by
 cases b with
 | nil => exact absurd rfl h
 | cons a r => rfl
/-- how much of a beginning stands -/
def begF (b : List Int) : Int := if b = [] ∨ hd b < 194 ∨ 244 < hd b then 0 else cnt (hd b) (lng (hd b) - 1) 1 (b.drop 1)
theorem ite_gd {a c : Int} {k : Nat} : gd a k c ↔ (if k = 1 then lo2 a else 128) ≤ c ∧ c ≤ (if k = 1 then hi2 a else 191) := by
 by_cases e : k = 1 <;> simp [gd, e]
theorem beg_q (b : List Int) (hb : Byt b) (hl : b.length ≤ 1000000) : FnQ Tryd.prog 34 [.sl (b.map B)] [I (begF b)] := by
 refine k34.q (by simp) ?_
 unfold c34
 by_cases hne : b = []
 ·subst hne
  simp only [vmp,↓vmd,seval]
  exact gives_pure
 have hlt : 0 < b.length := List.length_pos_iff.2 hne
 have hlz : (0 : Int) < (b.length : Int) := by omega
 have hz : ¬ (b.length : Int) = 0 := by omega
 have m0 := map_at (f := B) hlt
 have b0 := hb.at hlt
 rw [hd_at hlt] at m0 b0
 simp only [vmp,↓vmd,seval]
 refine onIf_intro fun hlen => ?_
 simp only [hlz, hz, m0, vmp,↓vmd,seval]
 by_cases h1 : hd b < 194
 ·have e : begF b = 0 := by rw [begF, if_pos (.inr (.inl h1))]
  refine onB_pos h1 ?_
  simp only [h1, e, vmp,↓vmd,seval]
  exact gives_pure
 refine onB_neg h1 ?_
 simp only [hlz, h1, m0, vmp,↓vmd,seval]
 by_cases h2 : 244 < hd b
 ·have e : begF b = 0 := by rw [begF, if_pos (.inr (.inr h2))]
  refine onB_pos h2 ?_
  simp only [h2, e, vmp,↓vmd,seval]
  exact gives_pure
 refine onB_neg h2 ?_
 have e : begF b = cnt (hd b) (lng (hd b) - 1) 1 (b.drop 1) := by rw [begF, if_neg (by simp [hne]; omega)]
 have hlng : 2 ≤ lng (hd b) ∧ lng (hd b) ≤ 4 := ⟨by
  rw [lng, if_neg (by omega), if_neg (by omega)]
  repeat' split
  all_goals omega, lng_le⟩
 simp only [hlz, h2, m0, vmp,↓vmd,seval]
 obtain ⟨M, hM⟩ : ∃ M, lng (hd b) - 1 = M := ⟨_, rfl⟩
 have wM : IntKind.wrap .i64 ((lng (hd b) : Int) - 1) = (M : Int) := by rw [wrap_id (by omega) (by omega)]; omega
 rw [hM] at e
 rcases (show (hd b < 224) ∨ (hd b = 224) ∨ (224 < hd b ∧ hd b < 240 ∧ hd b ≠ 237) ∨ (hd b = 237) ∨ (hd b = 240) ∨ (240 < hd b ∧ hd b < 244) ∨ (hd b = 244) by omega) with p | p | p | p | p | p | p
 have eL : lng (hd b) = 2 := by
  unfold lng
  repeat' split
  all_goals omega
 have elo : lo2 (hd b) = 128 := by
  unfold lo2
  repeat' split
  all_goals omega
 have ehi : hi2 (hd b) = 191 := by
  unfold hi2
  repeat' split
  all_goals omega
 have t0 : ¬ 240 ≤ hd b := by omega
 have t1 : ¬ 224 ≤ hd b := by omega
 have t2 : ¬ hd b = 224 := by omega
 have t3 : ¬ hd b = 237 := by omega
 have t4 : ¬ hd b = 240 := by omega
 have t5 : ¬ hd b = 244 := by omega
 refine onB_neg t0 ?_
 simp only [t0, hlz, m0, vmp,↓vmd,seval]
 refine onB_neg t1 ?_
 simp only [t1, hlz, m0, vmp,↓vmd,seval]
 refine onB_neg t2 ?_
 simp only [t2, hlz, m0, vmp,↓vmd,seval]
 refine onB_neg t3 ?_
 simp only [t3, hlz, m0, vmp,↓vmd,seval]
 refine onB_neg t4 ?_
 simp only [t4, hlz, m0, vmp,↓vmd,seval]
 refine onB_neg t5 ?_
 simp only [t5, hlz, m0, vmp,↓vmd,seval]
 rotate_left
 have eL : lng (hd b) = 3 := by
  unfold lng
  repeat' split
  all_goals omega
 have elo : lo2 (hd b) = 160 := by
  unfold lo2
  repeat' split
  all_goals omega
 have ehi : hi2 (hd b) = 191 := by
  unfold hi2
  repeat' split
  all_goals omega
 have t0 : ¬ 240 ≤ hd b := by omega
 have t1 : 224 ≤ hd b := by omega
 have t2 : hd b = 224 := by omega
 refine onB_neg t0 ?_
 simp only [t0, hlz, m0, vmp,↓vmd,seval]
 refine onB_pos t1 ?_
 simp only [t1, hlz, m0, vmp,↓vmd,seval]
 refine onB_pos t2 ?_
 simp only [t2, hlz, m0, vmp,↓vmd,seval]
 rotate_left
 have eL : lng (hd b) = 3 := by
  unfold lng
  repeat' split
  all_goals omega
 have elo : lo2 (hd b) = 128 := by
  unfold lo2
  repeat' split
  all_goals omega
 have ehi : hi2 (hd b) = 191 := by
  unfold hi2
  repeat' split
  all_goals omega
 have t0 : ¬ 240 ≤ hd b := by omega
 have t1 : 224 ≤ hd b := by omega
 have t2 : ¬ hd b = 224 := by omega
 have t3 : ¬ hd b = 237 := by omega
 have t4 : ¬ hd b = 240 := by omega
 have t5 : ¬ hd b = 244 := by omega
 refine onB_neg t0 ?_
 simp only [t0, hlz, m0, vmp,↓vmd,seval]
 refine onB_pos t1 ?_
 simp only [t1, hlz, m0, vmp,↓vmd,seval]
 refine onB_neg t2 ?_
 simp only [t2, hlz, m0, vmp,↓vmd,seval]
 refine onB_neg t3 ?_
 simp only [t3, hlz, m0, vmp,↓vmd,seval]
 refine onB_neg t4 ?_
 simp only [t4, hlz, m0, vmp,↓vmd,seval]
 refine onB_neg t5 ?_
 simp only [t5, hlz, m0, vmp,↓vmd,seval]
 rotate_left
 have eL : lng (hd b) = 3 := by
  unfold lng
  repeat' split
  all_goals omega
 have elo : lo2 (hd b) = 128 := by
  unfold lo2
  repeat' split
  all_goals omega
 have ehi : hi2 (hd b) = 159 := by
  unfold hi2
  repeat' split
  all_goals omega
 have t0 : ¬ 240 ≤ hd b := by omega
 have t1 : 224 ≤ hd b := by omega
 have t2 : ¬ hd b = 224 := by omega
 have t3 : hd b = 237 := by omega
 refine onB_neg t0 ?_
 simp only [t0, hlz, m0, vmp,↓vmd,seval]
 refine onB_pos t1 ?_
 simp only [t1, hlz, m0, vmp,↓vmd,seval]
 refine onB_neg t2 ?_
 simp only [t2, hlz, m0, vmp,↓vmd,seval]
 refine onB_pos t3 ?_
 simp only [t3, hlz, m0, vmp,↓vmd,seval]
 rotate_left
 have eL : lng (hd b) = 4 := by
  unfold lng
  repeat' split
  all_goals omega
 have elo : lo2 (hd b) = 144 := by
  unfold lo2
  repeat' split
  all_goals omega
 have ehi : hi2 (hd b) = 191 := by
  unfold hi2
  repeat' split
  all_goals omega
 have t0 : 240 ≤ hd b := by omega
 have t1 : ¬ hd b = 224 := by omega
 have t2 : ¬ hd b = 237 := by omega
 have t3 : hd b = 240 := by omega
 refine onB_pos t0 ?_
 simp only [t0, hlz, m0, vmp,↓vmd,seval]
 refine onB_neg t1 ?_
 simp only [t1, hlz, m0, vmp,↓vmd,seval]
 refine onB_neg t2 ?_
 simp only [t2, hlz, m0, vmp,↓vmd,seval]
 refine onB_pos t3 ?_
 simp only [t3, hlz, m0, vmp,↓vmd,seval]
 rotate_left
 have eL : lng (hd b) = 4 := by
  unfold lng
  repeat' split
  all_goals omega
 have elo : lo2 (hd b) = 128 := by
  unfold lo2
  repeat' split
  all_goals omega
 have ehi : hi2 (hd b) = 191 := by
  unfold hi2
  repeat' split
  all_goals omega
 have t0 : 240 ≤ hd b := by omega
 have t1 : ¬ hd b = 224 := by omega
 have t2 : ¬ hd b = 237 := by omega
 have t3 : ¬ hd b = 240 := by omega
 have t4 : ¬ hd b = 244 := by omega
 refine onB_pos t0 ?_
 simp only [t0, hlz, m0, vmp,↓vmd,seval]
 refine onB_neg t1 ?_
 simp only [t1, hlz, m0, vmp,↓vmd,seval]
 refine onB_neg t2 ?_
 simp only [t2, hlz, m0, vmp,↓vmd,seval]
 refine onB_neg t3 ?_
 simp only [t3, hlz, m0, vmp,↓vmd,seval]
 refine onB_neg t4 ?_
 simp only [t4, hlz, m0, vmp,↓vmd,seval]
 rotate_left
 have eL : lng (hd b) = 4 := by
  unfold lng
  repeat' split
  all_goals omega
 have elo : lo2 (hd b) = 128 := by
  unfold lo2
  repeat' split
  all_goals omega
 have ehi : hi2 (hd b) = 143 := by
  unfold hi2
  repeat' split
  all_goals omega
 have t0 : 240 ≤ hd b := by omega
 have t1 : ¬ hd b = 224 := by omega
 have t2 : ¬ hd b = 237 := by omega
 have t3 : ¬ hd b = 240 := by omega
 have t4 : hd b = 244 := by omega
 refine onB_pos t0 ?_
 simp only [t0, hlz, m0, vmp,↓vmd,seval]
 refine onB_neg t1 ?_
 simp only [t1, hlz, m0, vmp,↓vmd,seval]
 refine onB_neg t2 ?_
 simp only [t2, hlz, m0, vmp,↓vmd,seval]
 refine onB_neg t3 ?_
 simp only [t3, hlz, m0, vmp,↓vmd,seval]
 refine onB_pos t4 ?_
 simp only [t4, hlz, m0, vmp,↓vmd,seval]
 rotate_left
 all_goals (
  refine loop_at (T := Nat) (fun k => [(7, .pure (I k)), (5, .pure (B (if k = 1 then hi2 (hd b) else 191))), (4, .pure (B (if k = 1 then lo2 (hd b) else 128))), (3, .pure (I (lng (hd b)))), (0, .pure (.sl (b.map B)))]) (fun _ => []) (fun k => 1 ≤ k ∧ k ≤ M ∧ cnt (hd b) M k (b.drop k) = cnt (hd b) M 1 (b.drop 1)) (fun k => M - k)
   1 [] (by simp) rfl ⟨by omega, by omega, rfl⟩ (by simp only [eL, elo, ehi, kpp,seval]) (by simp only [eL, elo, ehi, kpp,seval]) ?_
  clear eL elo ehi
  rintro k ⟨k1, kM, hc⟩
  unfold c34_1
  have fin : cnt (hd b) M k (b.drop k) = k → begF b = k := fun h => by rw [e, ← hc, h]
  simp only [wM, vmp,↓vmd,seval]
  by_cases c1 : (k : Int) < (M : Int)
  case' neg => (
   have ef := fin (by
    by_cases hk : k < b.length
    ·rw [cnt_go hk, if_neg (by rintro ⟨h, _⟩; omega)]
    ·exact cnt_end (by omega))
   refine onB_neg c1 ?_
   simp only [c1, vmp,↓vmd,seval]
   unfold c34_0
   simp only [ef, vmp,↓vmd,seval]
   exact gives_pure)
  refine onB_pos c1 ?_
  simp only [c1, vmp,↓vmd,seval]
  refine onIf_intro fun _ => ?_
  simp only [c1, vmp,↓vmd,seval]
  by_cases c2 : (k : Int) < (b.length : Int)
  case' neg => (
   have ef := fin (cnt_end (by omega))
   refine onB_neg c2 ?_
   simp only [c2, vmp,↓vmd,seval]
   unfold c34_0
   simp only [ef, vmp,↓vmd,seval]
   exact gives_pure)
  have hk : k < b.length := by omega
  have mk := map_at (f := B) hk
  refine onB_pos c2 ?_
  simp only [c2, mk, Int.natCast_nonneg, vmp,↓vmd,seval]
  have gi := ite_gd (a := hd b) (c := b[k]) (k := k)
  have bk := hb.at hk
  have hcg := cnt_go (a := hd b) (L := M) hk
  by_cases c3 : (if k = 1 then lo2 (hd b) else 128) ≤ b[k]
  case' neg => (
   have ef := fin (by rw [hcg, if_neg (by rw [gi]; rintro ⟨_, h, _⟩; exact c3 h)])
   refine onB_neg c3 ?_
   simp only [c3, vmp,↓vmd,seval]
   unfold c34_0
   simp only [ef, vmp,↓vmd,seval]
   exact gives_pure)
  refine onB_pos c3 ?_
  simp only [c2, c3, mk, Int.natCast_nonneg, vmp,↓vmd,seval]
  by_cases c4 : b[k] ≤ (if k = 1 then hi2 (hd b) else 191)
  case' neg => (
   have ef := fin (by rw [hcg, if_neg (by rw [gi]; rintro ⟨_, _, h⟩; exact c4 h)])
   refine onB_neg c4 ?_
   simp only [c4, vmp,↓vmd,seval]
   unfold c34_0
   simp only [ef, vmp,↓vmd,seval]
   exact gives_pure)
  have hn : cnt (hd b) M (k + 1) (b.drop (k + 1)) = cnt (hd b) M 1 (b.drop 1) := by rw [← hc, hcg, if_pos ⟨by omega, gi.2 ⟨c3, c4⟩⟩]
  have kne : ¬ k = 0 := by omega
  refine onB_pos c4 ?_
  simp only [c4, vmp,↓vmd,seval]
  refine onBk_to (k + 1) [] (by simp) rfl (by omega) ⟨by omega, by omega, hn⟩ (by simp only [next_at hk hlen, kne, if_false, kpp,seval]) (by simp only [kpp,seval]))
/-- a beginning and what stands well -/
theorem begF_st {b : List Int} (hne : b ≠ []) (h : okB b = false) : (begF b = 0 ∧ lng (hd b) = 0 ∧ st b = 1) ∨ (begF b = st b ∧ 1 ≤ st b ∧ st b < lng (hd b)) := by
 have hp := (st_pos hne).1
 by_cases h1 : hd b < 194 ∨ 244 < hd b
 ·left
  have e : begF b = 0 := by rw [begF, if_pos (.inr h1)]
  have el : lng (hd b) = 0 := by
   by_cases ha : hd b < 128
   ·cases b with
    | nil => exact absurd rfl hne
    | cons a r =>
     rw [ok1 (lng1 (show a < 128 from ha))] at h
     cases h
   ·rw [lng, if_neg ha, if_pos h1]
  refine ⟨e, el, ?_⟩
  rw [st_drop hne, el]
  cases b.drop 1 <;> simp [cnt]
 ·right
  have e : begF b = cnt (hd b) (lng (hd b) - 1) 1 (b.drop 1) := by rw [begF, if_neg (by simp [hne]; omega)]
  have l2 : 2 ≤ lng (hd b) := by
   rw [lng, if_neg (by omega), if_neg h1]
   repeat' split
   all_goals omega
  have hb := st_bad hne h
  rw [cnt_min (L := lng (hd b)) (by omega) (by omega), ← st_drop hne] at e
  refine ⟨by rw [e]; omega, hp, by omega⟩
end Go.Proofs.YtcngcapbikfbnaaDoor.W
