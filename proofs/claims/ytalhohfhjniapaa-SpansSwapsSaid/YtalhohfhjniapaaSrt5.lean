/-
  Parting rows. No condition but on sizes.
-/
import Derived.Test.YtalhohfhjniapaaSrt4
namespace Go.Proofs.Ytalhohfhjniapaa.W
open Go Go.Vm Go.Proofs
set_option maxRecDepth 100000
set_option linter.unusedSimpArgs false
set_option maxHeartbeats 4000000
/-! slices.partitionEqualOrdered[int] -/
def c31_0 : AC :=
 (.seq (.reg [oo 83 (.mov (.s 9)),
 oo 8 (.mov (.s 83))])
 .ret)
def c31_1 : AC :=
 (.seq (.seq (.reg [oo 62 (.mov (.s 9)),
 oo 63 (.mov (.s 10)),
 oo 64 (.bin .gtr (.s 62) (.s 63))])
 (.cond (.s 64)
 (.exit 0)
 .skip))
 (.seq (.regq [oo 65 (.mov (.s 0)),
 oo 66 (.mov (.s 9)),
 oo 67 (.mov (.s 0)),
 oo 68 (.mov (.s 10)),
 oo 69 (.mov (.s 0)),
 oo 70 (.mov (.s 10)),
 oo 71 (.idxA 1 (.s 69) (.s 70)),
 oo 72 (.load false 1 (.s 71)),
 oo 73 (.mov (.s 0)),
 oo 74 (.mov (.s 9)),
 oo 75 (.idxA 1 (.s 73) (.s 74)),
 oo 76 (.load false 1 (.s 75)),
 oo 77 (.idxA 1 (.s 65) (.s 66))]
[⟨none, none, .store 1 (.s 77) (.s 72)⟩,
 oo 78 (.idxA 1 (.s 67) (.s 68)),
⟨none, none, .store 1 (.s 78) (.s 76)⟩])
 (.seq (.reg [oo 79 (.mov (.s 9)),
 oo 80 (.bin .add (.s 79) (nI 1)),
 oo 9 (.mov (.s 80))])
 (.reg [oo 81 (.mov (.s 10)),
 oo 82 (.bin .sub (.s 81) (nI 1)),
 oo 10 (.mov (.s 82))]))))
def c31_2 : AC :=
 (.seq (.seq (.regq [oo 46 (.mov (.s 9)),
 oo 47 (.mov (.s 10)),
 oo 48 (.bin .leq (.s 46) (.s 47)),
 oo 49 (.mov (.s 48)),
 og 50 49 true (.mov (.s 0)),
 og 51 49 true (.mov (.s 1)),
 og 52 49 true (.idxA 1 (.s 50) (.s 51)),
 og 53 49 true (.load false 1 (.s 52)),
 og 54 49 true (.mov (.s 0)),
 og 55 49 true (.mov (.s 10)),
 og 56 49 true (.idxA 1 (.s 54) (.s 55)),
 og 57 49 true (.load false 1 (.s 56))]
[og 58 49 true (.call 30 [(.s 53), (.s 57)]),
 oo 59 (.pick (.s 49) (.s 58) (nB false))])
 (.cond (.s 59)
 .skip
 (.exit 4)))
 (.block 5
 (.reg [oo 60 (.mov (.s 10)),
 oo 61 (.bin .sub (.s 60) (nI 1)),
 oo 10 (.mov (.s 61))])))
def c31_3 : AC :=
 (.seq (.block 4
 (.loop c31_2))
 c31_1)
def c31_4 : AC :=
 (.seq (.seq (.regq [oo 29 (.mov (.s 9)),
 oo 30 (.mov (.s 10)),
 oo 31 (.bin .leq (.s 29) (.s 30)),
 oo 32 (.mov (.s 31)),
 og 33 32 true (.mov (.s 0)),
 og 34 32 true (.mov (.s 1)),
 og 35 32 true (.idxA 1 (.s 33) (.s 34)),
 og 36 32 true (.load false 1 (.s 35)),
 og 37 32 true (.mov (.s 0)),
 og 38 32 true (.mov (.s 9)),
 og 39 32 true (.idxA 1 (.s 37) (.s 38)),
 og 40 32 true (.load false 1 (.s 39))]
[og 41 32 true (.call 30 [(.s 36), (.s 40)]),
 og 42 32 true (.un .not (.s 41)),
 oo 43 (.pick (.s 32) (.s 42) (nB false))])
 (.cond (.s 43)
 .skip
 (.exit 2)))
 (.block 3
 (.reg [oo 44 (.mov (.s 9)),
 oo 45 (.bin .add (.s 44) (nI 1)),
 oo 9 (.mov (.s 45))])))
def c31_5 : AC :=
 (.block 1
 (.seq (.block 2
 (.loop c31_4))
 c31_3))
def c31 : AC :=
 (.seq (.reg [oo 8 (.mov (nI 0))])
 (.seq (.regq [oo 11 (.mov (.s 0)),
 oo 12 (.mov (.s 1)),
 oo 13 (.mov (.s 0)),
 oo 14 (.mov (.s 3)),
 oo 15 (.mov (.s 0)),
 oo 16 (.mov (.s 3)),
 oo 17 (.idxA 1 (.s 15) (.s 16)),
 oo 18 (.load false 1 (.s 17)),
 oo 19 (.mov (.s 0)),
 oo 20 (.mov (.s 1)),
 oo 21 (.idxA 1 (.s 19) (.s 20)),
 oo 22 (.load false 1 (.s 21)),
 oo 23 (.idxA 1 (.s 11) (.s 12))]
[⟨none, none, .store 1 (.s 23) (.s 18)⟩,
 oo 24 (.idxA 1 (.s 13) (.s 14)),
⟨none, none, .store 1 (.s 24) (.s 22)⟩])
 (.seq (.reg [oo 25 (.mov (.s 1)),
 oo 26 (.bin .add (.s 25) (nI 1)),
 oo 27 (.mov (.s 2)),
 oo 28 (.bin .sub (.s 27) (nI 1)),
 oo 9 (.mov (.s 26)),
 oo 10 (.mov (.s 28))])
 (.seq (.block 0
 (.loop c31_5))
 c31_0))))
theorem k31 : OkF 31 Try.f31 c31 [.t 8] 84 := ⟨Try.func31, by kernel_rfl, by kernel_rfl, by kernel_rfl, Try.ntmps31⟩
/-! slices.partitionOrdered[int] -/
def c32_0 : AC :=
 (.seq (.regq [oo 153 (.mov (.s 0)),
 oo 154 (.mov (.s 11)),
 oo 155 (.mov (.s 0)),
 oo 156 (.mov (.s 1)),
 oo 157 (.mov (.s 0)),
 oo 158 (.mov (.s 1)),
 oo 159 (.idxA 1 (.s 157) (.s 158)),
 oo 160 (.load false 1 (.s 159)),
 oo 161 (.mov (.s 0)),
 oo 162 (.mov (.s 11)),
 oo 163 (.idxA 1 (.s 161) (.s 162)),
 oo 164 (.load false 1 (.s 163)),
 oo 165 (.idxA 1 (.s 153) (.s 154))]
[⟨none, none, .store 1 (.s 165) (.s 160)⟩,
 oo 166 (.idxA 1 (.s 155) (.s 156)),
⟨none, none, .store 1 (.s 166) (.s 164)⟩])
 (.seq (.reg [oo 167 (.mov (.s 11)),
 oo 8 (.mov (.s 167)),
 oo 9 (.mov (nB false))])
 .ret))
def c32_1 : AC :=
 (.seq (.seq (.reg [oo 132 (.mov (.s 10)),
 oo 133 (.mov (.s 11)),
 oo 134 (.bin .gtr (.s 132) (.s 133))])
 (.cond (.s 134)
 (.exit 4)
 .skip))
 (.seq (.regq [oo 135 (.mov (.s 0)),
 oo 136 (.mov (.s 10)),
 oo 137 (.mov (.s 0)),
 oo 138 (.mov (.s 11)),
 oo 139 (.mov (.s 0)),
 oo 140 (.mov (.s 11)),
 oo 141 (.idxA 1 (.s 139) (.s 140)),
 oo 142 (.load false 1 (.s 141)),
 oo 143 (.mov (.s 0)),
 oo 144 (.mov (.s 10)),
 oo 145 (.idxA 1 (.s 143) (.s 144)),
 oo 146 (.load false 1 (.s 145)),
 oo 147 (.idxA 1 (.s 135) (.s 136))]
[⟨none, none, .store 1 (.s 147) (.s 142)⟩,
 oo 148 (.idxA 1 (.s 137) (.s 138)),
⟨none, none, .store 1 (.s 148) (.s 146)⟩])
 (.seq (.reg [oo 149 (.mov (.s 10)),
 oo 150 (.bin .add (.s 149) (nI 1)),
 oo 10 (.mov (.s 150))])
 (.reg [oo 151 (.mov (.s 11)),
 oo 152 (.bin .sub (.s 151) (nI 1)),
 oo 11 (.mov (.s 152))]))))
def c32_2 : AC :=
 (.seq (.seq (.regq [oo 115 (.mov (.s 10)),
 oo 116 (.mov (.s 11)),
 oo 117 (.bin .leq (.s 115) (.s 116)),
 oo 118 (.mov (.s 117)),
 og 119 118 true (.mov (.s 0)),
 og 120 118 true (.mov (.s 11)),
 og 121 118 true (.idxA 1 (.s 119) (.s 120)),
 og 122 118 true (.load false 1 (.s 121)),
 og 123 118 true (.mov (.s 0)),
 og 124 118 true (.mov (.s 1)),
 og 125 118 true (.idxA 1 (.s 123) (.s 124)),
 og 126 118 true (.load false 1 (.s 125))]
[og 127 118 true (.call 30 [(.s 122), (.s 126)]),
 og 128 118 true (.un .not (.s 127)),
 oo 129 (.pick (.s 118) (.s 128) (nB false))])
 (.cond (.s 129)
 .skip
 (.exit 8)))
 (.block 9
 (.reg [oo 130 (.mov (.s 11)),
 oo 131 (.bin .sub (.s 130) (nI 1)),
 oo 11 (.mov (.s 131))])))
def c32_3 : AC :=
 (.seq (.block 8
 (.loop c32_2))
 c32_1)
def c32_4 : AC :=
 (.seq (.seq (.regq [oo 99 (.mov (.s 10)),
 oo 100 (.mov (.s 11)),
 oo 101 (.bin .leq (.s 99) (.s 100)),
 oo 102 (.mov (.s 101)),
 og 103 102 true (.mov (.s 0)),
 og 104 102 true (.mov (.s 10)),
 og 105 102 true (.idxA 1 (.s 103) (.s 104)),
 og 106 102 true (.load false 1 (.s 105)),
 og 107 102 true (.mov (.s 0)),
 og 108 102 true (.mov (.s 1)),
 og 109 102 true (.idxA 1 (.s 107) (.s 108)),
 og 110 102 true (.load false 1 (.s 109))]
[og 111 102 true (.call 30 [(.s 106), (.s 110)]),
 oo 112 (.pick (.s 102) (.s 111) (nB false))])
 (.cond (.s 112)
 .skip
 (.exit 6)))
 (.block 7
 (.reg [oo 113 (.mov (.s 10)),
 oo 114 (.bin .add (.s 113) (nI 1)),
 oo 10 (.mov (.s 114))])))
def c32_5 : AC :=
 (.block 5
 (.seq (.block 6
 (.loop c32_4))
 c32_3))
def c32_6 : AC :=
 (.seq (.seq (.reg [oo 63 (.mov (.s 10)),
 oo 64 (.mov (.s 11)),
 oo 65 (.bin .gtr (.s 63) (.s 64))])
 (.cond (.s 65)
 (.seq (.regq [oo 66 (.mov (.s 0)),
 oo 67 (.mov (.s 11)),
 oo 68 (.mov (.s 0)),
 oo 69 (.mov (.s 1)),
 oo 70 (.mov (.s 0)),
 oo 71 (.mov (.s 1)),
 oo 72 (.idxA 1 (.s 70) (.s 71)),
 oo 73 (.load false 1 (.s 72)),
 oo 74 (.mov (.s 0)),
 oo 75 (.mov (.s 11)),
 oo 76 (.idxA 1 (.s 74) (.s 75)),
 oo 77 (.load false 1 (.s 76)),
 oo 78 (.idxA 1 (.s 66) (.s 67))]
[⟨none, none, .store 1 (.s 78) (.s 73)⟩,
 oo 79 (.idxA 1 (.s 68) (.s 69)),
⟨none, none, .store 1 (.s 79) (.s 77)⟩])
 (.seq (.reg [oo 80 (.mov (.s 11)),
 oo 8 (.mov (.s 80)),
 oo 9 (.mov (nB true))])
 .ret))
 .skip))
 (.seq (.regq [oo 81 (.mov (.s 0)),
 oo 82 (.mov (.s 10)),
 oo 83 (.mov (.s 0)),
 oo 84 (.mov (.s 11)),
 oo 85 (.mov (.s 0)),
 oo 86 (.mov (.s 11)),
 oo 87 (.idxA 1 (.s 85) (.s 86)),
 oo 88 (.load false 1 (.s 87)),
 oo 89 (.mov (.s 0)),
 oo 90 (.mov (.s 10)),
 oo 91 (.idxA 1 (.s 89) (.s 90)),
 oo 92 (.load false 1 (.s 91)),
 oo 93 (.idxA 1 (.s 81) (.s 82))]
[⟨none, none, .store 1 (.s 93) (.s 88)⟩,
 oo 94 (.idxA 1 (.s 83) (.s 84)),
⟨none, none, .store 1 (.s 94) (.s 92)⟩])
 (.seq (.reg [oo 95 (.mov (.s 10)),
 oo 96 (.bin .add (.s 95) (nI 1)),
 oo 10 (.mov (.s 96))])
 (.seq (.reg [oo 97 (.mov (.s 11)),
 oo 98 (.bin .sub (.s 97) (nI 1)),
 oo 11 (.mov (.s 98))])
 (.seq (.block 4
 (.loop c32_5))
 c32_0)))))
def c32_7 : AC :=
 (.seq (.seq (.regq [oo 46 (.mov (.s 10)),
 oo 47 (.mov (.s 11)),
 oo 48 (.bin .leq (.s 46) (.s 47)),
 oo 49 (.mov (.s 48)),
 og 50 49 true (.mov (.s 0)),
 og 51 49 true (.mov (.s 11)),
 og 52 49 true (.idxA 1 (.s 50) (.s 51)),
 og 53 49 true (.load false 1 (.s 52)),
 og 54 49 true (.mov (.s 0)),
 og 55 49 true (.mov (.s 1)),
 og 56 49 true (.idxA 1 (.s 54) (.s 55)),
 og 57 49 true (.load false 1 (.s 56))]
[og 58 49 true (.call 30 [(.s 53), (.s 57)]),
 og 59 49 true (.un .not (.s 58)),
 oo 60 (.pick (.s 49) (.s 59) (nB false))])
 (.cond (.s 60)
 .skip
 (.exit 2)))
 (.block 3
 (.reg [oo 61 (.mov (.s 11)),
 oo 62 (.bin .sub (.s 61) (nI 1)),
 oo 11 (.mov (.s 62))])))
def c32_8 : AC :=
 (.seq (.block 2
 (.loop c32_7))
 c32_6)
def c32_9 : AC :=
 (.seq (.seq (.regq [oo 30 (.mov (.s 10)),
 oo 31 (.mov (.s 11)),
 oo 32 (.bin .leq (.s 30) (.s 31)),
 oo 33 (.mov (.s 32)),
 og 34 33 true (.mov (.s 0)),
 og 35 33 true (.mov (.s 10)),
 og 36 33 true (.idxA 1 (.s 34) (.s 35)),
 og 37 33 true (.load false 1 (.s 36)),
 og 38 33 true (.mov (.s 0)),
 og 39 33 true (.mov (.s 1)),
 og 40 33 true (.idxA 1 (.s 38) (.s 39)),
 og 41 33 true (.load false 1 (.s 40))]
[og 42 33 true (.call 30 [(.s 37), (.s 41)]),
 oo 43 (.pick (.s 33) (.s 42) (nB false))])
 (.cond (.s 43)
 .skip
 (.exit 0)))
 (.block 1
 (.reg [oo 44 (.mov (.s 10)),
 oo 45 (.bin .add (.s 44) (nI 1)),
 oo 10 (.mov (.s 45))])))
def c32 : AC :=
 (.seq (.reg [oo 8 (.mov (nI 0)),
 oo 9 (.mov (nB false))])
 (.seq (.regq [oo 12 (.mov (.s 0)),
 oo 13 (.mov (.s 1)),
 oo 14 (.mov (.s 0)),
 oo 15 (.mov (.s 3)),
 oo 16 (.mov (.s 0)),
 oo 17 (.mov (.s 3)),
 oo 18 (.idxA 1 (.s 16) (.s 17)),
 oo 19 (.load false 1 (.s 18)),
 oo 20 (.mov (.s 0)),
 oo 21 (.mov (.s 1)),
 oo 22 (.idxA 1 (.s 20) (.s 21)),
 oo 23 (.load false 1 (.s 22)),
 oo 24 (.idxA 1 (.s 12) (.s 13))]
[⟨none, none, .store 1 (.s 24) (.s 19)⟩,
 oo 25 (.idxA 1 (.s 14) (.s 15)),
⟨none, none, .store 1 (.s 25) (.s 23)⟩])
 (.seq (.reg [oo 26 (.mov (.s 1)),
 oo 27 (.bin .add (.s 26) (nI 1)),
 oo 28 (.mov (.s 2)),
 oo 29 (.bin .sub (.s 28) (nI 1)),
 oo 10 (.mov (.s 27)),
 oo 11 (.mov (.s 29))])
 (.seq (.block 0
 (.loop c32_9))
 c32_8))))
theorem k32 : OkF 32 Try.f32 c32 [.t 8, .t 9] 168 := ⟨Try.func32, by kernel_rfl, by kernel_rfl, by kernel_rfl, Try.ntmps32⟩
theorem sd_snoc {a i : Int} {X : List Int} (h : Sd a i X) (hl : gA X (i - 1) ≤ gA X i) : Sd a (i + 1) X := by
 intro p q h1 h2 h3
 by_cases e : q = i
 ·rw [e]
  by_cases e2 : p = i - 1
  ·rw [e2]; exact hl
  ·exact Int.le_trans (h p (i - 1) h1 (by omega) (by omega)) hl
 ·exact h p q h1 h2 (by omega)
theorem peq_c (X : List Int) (a b m : Int) (ha : 0 ≤ a) (hb : b ≤ X.length) (hX : X.length ≤ 1000) (hm : a ≤ m) (hm' : m < b) (hmin : ∀ p, a ≤ p → p < b → gA X m ≤ gA X p) : CallA Try.prog 31 [.rsl 0 0 X.length, .pure (I a), .pure (I b), .pure (I m)] [rI X]
  fun s H' => ∃ z : {z : List Int × Int // Pm a b X z.1 ∧ a < z.2 ∧ z.2 ≤ b ∧ (∀ p, a ≤ p → p < z.2 → gA z.1 p = gA X m) ∧ ∀ p, z.2 ≤ p → p < b → gA X m ≤ gA z.1 p}, s = .pure (I z.1.2) ∧ H' = [rI z.1.1] := by
 refine CallA.weak (K := fun s H' => ∃ z : List Int × Int, (Pm a b X z.1 ∧ a < z.2 ∧ z.2 ≤ b ∧ (∀ p, a ≤ p → p < z.2 → gA z.1 p = gA X m) ∧ ∀ p, z.2 ≤ p → p < b → gA X m ≤ gA z.1 p) ∧ s = .pure (I z.2) ∧ H' = [rI z.1]) ?_ ?_
 ·refine k31.a (by simp) ?_
  unfold c31
  have w := fun (k : Int) (h1 : -5000 ≤ k) (h2 : k ≤ 5000) => wrap_id (n := k) (by omega) (by omega)
  have q1 := rI_at (X := X) (i := a) (by omega) (by omega)
  have q2 := rI_at (X := X) (i := m) (by omega) (by omega)
  have q3 := rI_at2 (X := X) (n := (a).toNat) (v := gA X (m)) (i := m) (by omega) (by omega)
  have d1 : 0 ≤ a := by omega
  have d2 : a < (X.length : Int) := by omega
  have d3 : 0 ≤ m := by omega
  have d4 : m < (X.length : Int) := by omega
  have hs : (X.set (a).toNat (gA X (m))).set (m).toNat (gA X (a)) = swp X (a) (m) := rfl
  simp only [q1, q2, q3, d1, d2, d3, d4, rI_set, hs, w (a + 1) (by omega) (by omega), w (b - 1) (by omega) (by omega), vmp,↓vmd,seval]
  have e0 : gA (swp X a m) a = gA X m := by
   rw [gA_swp (by omega) (by omega) (by omega) (by omega) ha]
   split
   ·rename_i e; rw [← e]
   ·rw [if_pos rfl]
  have hall : ∀ Y, Pm a b X Y → ∀ p, a ≤ p → p < b → gA X m ≤ gA Y p := fun Y h => h.all ha hb (p := fun v => gA X m ≤ v) hmin
  generalize gA X m = v at *
  refine loop_at (T := Int × Int × List Int) (fun z => [(9, .pure (I z.1)), (10, .pure (I z.2.1)), (0, .rsl 0 0 X.length), (1, .pure (I a)), (2, .pure (I b))]) (fun z => [rI z.2.2])
   (fun z => a + 1 ≤ z.1 ∧ z.1 ≤ z.2.1 + 1 ∧ z.2.1 < b ∧ Pm a b X z.2.2 ∧ gA z.2.2 a = v ∧ ∀ p, a ≤ p → p < z.1 → gA z.2.2 p ≤ v) (fun z => (z.2.1 + 1 - z.1).toNat)
   (a + 1, b - 1, swp X a m) [0] (by simp) rfl ⟨by simp, by simp only; omega, by simp only; omega, Pm.refl.swap (by omega) (by omega) (by omega) (by omega), e0, fun p p1 p2 => by
    simp only at p2
    obtain rfl : p = a := by omega
    simp only
    omega⟩ (by simp only [kpp,seval]) (by simp only [kpp,seval]) ?_
  clear q1 q2 q3 d1 d2 d3 d4 hs e0
  rintro ⟨i0, j, Y⟩ ⟨hi1, hi2, hj, hP, hv, hle⟩
  simp only at hi1 hi2 hj hP hv hle
  have hl := hP.len
  unfold c31_5
  simp only [vmp,↓vmd,seval]
  refine loop_at (T := Int) (fun z => [(9, .pure (I z)), (10, .pure (I j)), (0, .rsl 0 0 X.length), (1, .pure (I a)), (2, .pure (I b))]) (fun _ => [rI Y]) (fun z => i0 ≤ z ∧ z ≤ j + 1 ∧ ∀ p, a ≤ p → p < z → gA Y p ≤ v) (fun z => (j + 1 - z).toNat)
   i0 [0] (by simp) rfl ⟨by omega, by omega, hle⟩ (by simp only [kpp,seval]) (by simp only [kpp,seval]) ?_
  rintro k ⟨hk1, hk2, hk3⟩
  unfold c31_4
  simp only [vmp,↓vmd,seval]
  by_cases h2 : k ≤ j
  case' pos => (
   have r1 := rI_at (X := Y) (i := k) (by omega) (by omega)
   have r2 := rI_at (X := Y) (i := a) (by omega) (by omega)
   have w1 := w (k + 1) (by omega) (by omega)
   have b1 : 0 ≤ k := by omega
   have b2 : k < (X.length : Int) := by omega
   have b4 : a < (X.length : Int) := by omega
   refine onB_pos h2 ?_
   (first | apply envO | apply envQ); simp only [h2, vmp,↓vmd,seval]; rfl
   simp only [h2, r1, r2, b1, b2, ha, b4, vmp,↓vmd,seval]
   refine onC_q (less_q _ _) rfl ?_
   by_cases h3 : gA Y a < gA Y k
   case' neg => (
    rw [decide_eq_false h3]
    (first | apply envO | apply envQ); simp only [vmp,↓vmd,seval]; rfl
    simp only [w1, vmp,↓vmd,seval]
    refine onBk_to (k + 1) [0] (by simp) rfl (by omega) ⟨by omega, by omega, fun p p1 p2 => by
     by_cases e : p = k
     ·rw [e]; rw [hv] at h3; omega
     ·exact hk3 p p1 (by omega)⟩ (by simp only [kpp,seval]) (by simp only [kpp,seval]))
   rw [decide_eq_true h3]
   (first | apply envO | apply envQ); simp only [vmp,↓vmd,seval]; rfl
   simp only [vmp,↓vmd,seval]
   have hx : ¬ k ≤ j ∨ (gA Y a < gA Y k) := .inr h3)
  case' neg => (
   refine onB_neg h2 ?_
   (first | apply envO | apply envQ); simp only [h2, vmp,↓vmd,seval]; rfl
   simp only [h2, vmp,↓vmd,seval]
   have hx : ¬ k ≤ j ∨ (gA Y a < gA Y k) := .inl h2)
  all_goals (
   have hy := hx
   clear hx h2
   replace hle := hk3
   generalize k = i at *
   unfold c31_3
   simp only [vmp,↓vmd,seval]
   refine loop_at (T := Int) (fun z => [(10, .pure (I z)), (9, .pure (I i)), (0, .rsl 0 0 X.length), (1, .pure (I a)), (2, .pure (I b))]) (fun _ => [rI Y]) (fun z => i ≤ z + 1 ∧ z ≤ j ∧ True) (fun z => (z + 1 - i).toNat)
    j [0] (by simp) rfl ⟨by omega, by omega, trivial⟩ (by simp only [kpp,seval]) (by simp only [kpp,seval]) ?_
   rintro k ⟨hk1, hk2, hk3⟩
   unfold c31_2
   simp only [vmp,↓vmd,seval]
   by_cases h2 : i ≤ k
   case' pos => (
    have r1 := rI_at (X := Y) (i := k) (by omega) (by omega)
    have r2 := rI_at (X := Y) (i := a) (by omega) (by omega)
    have w1 := w (k - 1) (by omega) (by omega)
    have b1 : 0 ≤ k := by omega
    have b2 : k < (X.length : Int) := by omega
    have b4 : a < (X.length : Int) := by omega
    refine onB_pos h2 ?_
    (first | apply envO | apply envQ); simp only [h2, vmp,↓vmd,seval]; rfl
    simp only [h2, r1, r2, b1, b2, ha, b4, vmp,↓vmd,seval]
    refine onC_q (less_q _ _) rfl ?_
    by_cases h3 : gA Y a < gA Y k
    case' pos => (
     rw [decide_eq_true h3]
     (first | apply envO | apply envQ); simp only [vmp,↓vmd,seval]; rfl
     simp only [w1, vmp,↓vmd,seval]
     refine onBk_to (k - 1) [0] (by simp) rfl (by omega) ⟨by omega, by omega, trivial⟩ (by simp only [kpp,seval]) (by simp only [kpp,seval]))
    rw [decide_eq_false h3]
    (first | apply envO | apply envQ); simp only [vmp,↓vmd,seval]; rfl
    simp only [vmp,↓vmd,seval]
    have hx : ¬ i ≤ k ∨ (¬ gA Y a < gA Y k) := .inr h3)
   case' neg => (
    refine onB_neg h2 ?_
    (first | apply envO | apply envQ); simp only [h2, vmp,↓vmd,seval]; rfl
    simp only [h2, vmp,↓vmd,seval]
    have hx : ¬ i ≤ k ∨ (¬ gA Y a < gA Y k) := .inl h2)
   all_goals (
    unfold c31_1
    simp only [vmp,↓vmd,seval]
    by_cases h5 : i > k
    case' pos => (
     refine onB_pos h5 ?_
     simp only [vmp,↓vmd,seval]
     unfold c31_0
     simp only [vmp,↓vmd,seval]
     exact ⟨(Y, i), ⟨hP, by simp only; omega, by simp only; omega, fun p p1 p2 => Int.le_antisymm (hle p p1 p2) (hall Y hP p p1 (by simp only at p2; omega)), fun p p1 p2 => hall Y hP p (by simp only at p1; omega) p2⟩, rfl, rfl⟩)
    have q1 := rI_at (X := Y) (i := i) (by omega) (by omega)
    have q2 := rI_at (X := Y) (i := k) (by omega) (by omega)
    have q3 := rI_at2 (X := Y) (n := (i).toNat) (v := gA Y (k)) (i := k) (by omega) (by omega)
    have d1 : 0 ≤ i := by omega
    have d2 : i < (X.length : Int) := by omega
    have d3 : 0 ≤ k := by omega
    have d4 : k < (X.length : Int) := by omega
    have hs : (Y.set (i).toNat (gA Y (k))).set (k).toNat (gA Y (i)) = swp Y (i) (k) := rfl
    refine onB_neg h5 ?_
    simp only [q1, q2, q3, d1, d2, d3, d4, rI_set, hs, w (i + 1) (by omega) (by omega), w (k - 1) (by omega) (by omega), vmp,↓vmd,seval]
    have e := fun p (hp : 0 ≤ p) => gA_swp (X := Y) (i := i) (j := k) (k := p) (by omega) (by omega) (by omega) (by omega) hp
    have g1 : gA Y k ≤ v := by
     rcases hx with hx | hx
     ·omega
     ·rw [hv] at hx; omega
    have g2 : v < gA Y i := by
     rcases hy with hy | hy
     ·omega
     ·rw [hv] at hy; omega
    have g3 : i ≠ k := fun e => by rw [e] at g2; omega
    refine onBk_to (i + 1, k - 1, swp Y i k) [0] (by simp) rfl (by simp only; omega) ⟨by simp only; omega, by simp only; omega, by simp only; omega, hP.swap (by omega) (by omega) (by omega) (by omega), ?_, ?_⟩ (by simp only [kpp,seval]) (by simp only [kpp,seval])
    ·simp only
     rw [e a ha, if_neg (by omega), if_neg (by omega), hv]
    ·intro p p1 p2
     simp only at p2 ⊢
     rw [e p (by omega), if_neg (by omega)]
     split
     ·exact g1
     ·exact hle p p1 (by omega)))
 ·rintro r H' ⟨z, hz, rfl, rfl⟩
  exact ⟨[0], _, _, by simp, rfl, (by simp only [kpp,seval]), (by simp only [kpp,seval]), ⟨z, hz⟩, rfl, rfl⟩
theorem part_c (X : List Int) (a b m : Int) (ha : 0 ≤ a) (hb : b ≤ X.length) (hX : X.length ≤ 1000) (hm : a ≤ m) (hm' : m < b) : CallA Try.prog 32 [.rsl 0 0 X.length, .pure (I a), .pure (I b), .pure (I m)] [rI X]
  fun s H' => ∃ z : {z : List Int × Int × Bool // Pm a b X z.1 ∧ a ≤ z.2.1 ∧ z.2.1 < b ∧ Md a b z.2.1 z.1}, s = .tup [.pure (I z.1.2.1), .pure (.bool z.1.2.2)] ∧ H' = [rI z.1.1] := by
 refine CallA.weak (K := fun s H' => ∃ z : List Int × Int × Bool, (Pm a b X z.1 ∧ a ≤ z.2.1 ∧ z.2.1 < b ∧ Md a b z.2.1 z.1) ∧ s = .tup [.pure (I z.2.1), .pure (.bool z.2.2)] ∧ H' = [rI z.1]) ?_ ?_
 ·refine k32.a (by simp) ?_
  unfold c32
  have w := fun (k : Int) (h1 : -5000 ≤ k) (h2 : k ≤ 5000) => wrap_id (n := k) (by omega) (by omega)
  have q1 := rI_at (X := X) (i := a) (by omega) (by omega)
  have q2 := rI_at (X := X) (i := m) (by omega) (by omega)
  have q3 := rI_at2 (X := X) (n := (a).toNat) (v := gA X (m)) (i := m) (by omega) (by omega)
  have d1 : 0 ≤ a := by omega
  have d2 : a < (X.length : Int) := by omega
  have d3 : 0 ≤ m := by omega
  have d4 : m < (X.length : Int) := by omega
  have hs : (X.set (a).toNat (gA X (m))).set (m).toNat (gA X (a)) = swp X (a) (m) := rfl
  simp only [q1, q2, q3, d1, d2, d3, d4, rI_set, hs, w (a + 1) (by omega) (by omega), w (b - 1) (by omega) (by omega), vmp,↓vmd,seval]
  have hP := (Pm.refl (a := a) (b := b) (X := X)).swap (i := a) (j := m) (by omega) (by omega) (by omega) (by omega)
  have hl := hP.len
  clear q1 q2 q3 hs
  generalize swp X a m = Y at *
  refine loop_at (T := Int) (fun z => [(10, .pure (I z)), (11, .pure (I (b - 1))), (0, .rsl 0 0 X.length), (1, .pure (I a)), (2, .pure (I b))]) (fun _ => [rI Y]) (fun z => (a + 1) ≤ z ∧ z ≤ (b - 1) + 1 ∧ ∀ p, a < p → p < z → gA Y p ≤ gA Y a) (fun z => ((b - 1) + 1 - z).toNat)
   (a + 1) [0] (by simp) rfl ⟨by omega, by omega, fun p p1 p2 => by omega⟩ (by simp only [kpp,seval]) (by simp only [kpp,seval]) ?_
  rintro k ⟨hk1, hk2, hk3⟩
  unfold c32_9
  simp only [vmp,↓vmd,seval]
  by_cases h2 : k ≤ (b - 1)
  case' pos => (
   have r1 := rI_at (X := Y) (i := k) (by omega) (by omega)
   have r2 := rI_at (X := Y) (i := a) (by omega) (by omega)
   have w1 := w (k + 1) (by omega) (by omega)
   have b1 : 0 ≤ k := by omega
   have b2 : k < (X.length : Int) := by omega
   have b4 : a < (X.length : Int) := by omega
   refine onB_pos h2 ?_
   (first | apply envO | apply envQ); simp only [h2, vmp,↓vmd,seval]; rfl
   simp only [h2, r1, r2, b1, b2, ha, b4, vmp,↓vmd,seval]
   refine onC_q (less_q _ _) rfl ?_
   by_cases h3 : gA Y k < gA Y a
   case' pos => (
    rw [decide_eq_true h3]
    (first | apply envO | apply envQ); simp only [vmp,↓vmd,seval]; rfl
    simp only [w1, vmp,↓vmd,seval]
    refine onBk_to (k + 1) [0] (by simp) rfl (by omega) ⟨by omega, by omega, fun p p1 p2 => by
     by_cases e : p = k
     ·rw [e]; omega
     ·exact hk3 p p1 (by omega)⟩ (by simp only [kpp,seval]) (by simp only [kpp,seval]))
   rw [decide_eq_false h3]
   (first | apply envO | apply envQ); simp only [vmp,↓vmd,seval]; rfl
   simp only [vmp,↓vmd,seval]
   have hx : ¬ k ≤ (b - 1) ∨ (¬ gA Y k < gA Y a) := .inr h3)
  case' neg => (
   refine onB_neg h2 ?_
   (first | apply envO | apply envQ); simp only [h2, vmp,↓vmd,seval]; rfl
   simp only [h2, vmp,↓vmd,seval]
   have hx : ¬ k ≤ (b - 1) ∨ (¬ gA Y k < gA Y a) := .inl h2)
  all_goals (
   have hy := hx
   clear hx h2
   have hA := hk3
   clear hk3
   generalize k = i at *
   unfold c32_8
   simp only [vmp,↓vmd,seval]
   refine loop_at (T := Int) (fun z => [(11, .pure (I z)), (10, .pure (I i)), (0, .rsl 0 0 X.length), (1, .pure (I a)), (2, .pure (I b))]) (fun _ => [rI Y]) (fun z => i ≤ z + 1 ∧ z ≤ (b - 1) ∧ ∀ p, z < p → p < b → gA Y a ≤ gA Y p) (fun z => (z + 1 - i).toNat)
    (b - 1) [0] (by simp) rfl ⟨by omega, by omega, fun p p1 p2 => by omega⟩ (by simp only [kpp,seval]) (by simp only [kpp,seval]) ?_
   rintro k ⟨hk1, hk2, hk3⟩
   unfold c32_7
   simp only [vmp,↓vmd,seval]
   by_cases h2 : i ≤ k
   case' pos => (
    have r1 := rI_at (X := Y) (i := k) (by omega) (by omega)
    have r2 := rI_at (X := Y) (i := a) (by omega) (by omega)
    have w1 := w (k - 1) (by omega) (by omega)
    have b1 : 0 ≤ k := by omega
    have b2 : k < (X.length : Int) := by omega
    have b4 : a < (X.length : Int) := by omega
    refine onB_pos h2 ?_
    (first | apply envO | apply envQ); simp only [h2, vmp,↓vmd,seval]; rfl
    simp only [h2, r1, r2, b1, b2, ha, b4, vmp,↓vmd,seval]
    refine onC_q (less_q _ _) rfl ?_
    by_cases h3 : gA Y k < gA Y a
    case' neg => (
     rw [decide_eq_false h3]
     (first | apply envO | apply envQ); simp only [vmp,↓vmd,seval]; rfl
     simp only [w1, vmp,↓vmd,seval]
     refine onBk_to (k - 1) [0] (by simp) rfl (by omega) ⟨by omega, by omega, fun p p1 p2 => by
      by_cases e : p = k
      ·rw [e]; omega
      ·exact hk3 p (by omega) p2⟩ (by simp only [kpp,seval]) (by simp only [kpp,seval]))
    rw [decide_eq_true h3]
    (first | apply envO | apply envQ); simp only [vmp,↓vmd,seval]; rfl
    simp only [vmp,↓vmd,seval]
    have hx : ¬ i ≤ k ∨ (gA Y k < gA Y a) := .inr h3)
   case' neg => (
    refine onB_neg h2 ?_
    (first | apply envO | apply envQ); simp only [h2, vmp,↓vmd,seval]; rfl
    simp only [h2, vmp,↓vmd,seval]
    have hx : ¬ i ≤ k ∨ (gA Y k < gA Y a) := .inl h2)
   all_goals (
    unfold c32_6
    simp only [vmp,↓vmd,seval]
    by_cases h5 : i > k
    case' pos => (
     refine onB_pos h5 ?_
     have q1 := rI_at (X := Y) (i := k) (by omega) (by omega)
     have q2 := rI_at (X := Y) (i := a) (by omega) (by omega)
     have q3 := rI_at2 (X := Y) (n := (k).toNat) (v := gA Y (a)) (i := a) (by omega) (by omega)
     have d1 : 0 ≤ k := by omega
     have d2 : k < (X.length : Int) := by omega
     have d3 : 0 ≤ a := by omega
     have d4 : a < (X.length : Int) := by omega
     have hs : (Y.set (k).toNat (gA Y (a))).set (a).toNat (gA Y (k)) = swp Y (k) (a) := rfl
     simp only [q1, q2, q3, d1, d2, d3, d4, rI_set, hs, vmp,↓vmd,seval]
     exact ⟨(swp Y k a, k, true), ⟨hP.swap (by omega) (by omega) (by omega) (by omega), (show a ≤ k by omega), (show k < b by omega), pt_end (i := i) (j := k) ⟨hA, hk3⟩ ha (by omega) (by omega) (by omega) (by omega)⟩, rfl, rfl⟩)
    have q1 := rI_at (X := Y) (i := i) (by omega) (by omega)
    have q2 := rI_at (X := Y) (i := k) (by omega) (by omega)
    have q3 := rI_at2 (X := Y) (n := (i).toNat) (v := gA Y (k)) (i := k) (by omega) (by omega)
    have d1 : 0 ≤ i := by omega
    have d2 : i < (X.length : Int) := by omega
    have d3 : 0 ≤ k := by omega
    have d4 : k < (X.length : Int) := by omega
    have hs : (Y.set (i).toNat (gA Y (k))).set (k).toNat (gA Y (i)) = swp Y (i) (k) := rfl
    refine onB_neg h5 ?_
    have g1 : gA Y k < gA Y a := by
     rcases hx with hx | hx
     ·omega
     ·exact hx
    have g2 : gA Y a ≤ gA Y i := by
     rcases hy with hy | hy
     ·omega
     ·omega
    have g3 : i ≠ k := fun e => by rw [e] at g2; omega
    have hP2 := hP.swap (i := i) (j := k) (by omega) (by omega) (by omega) (by omega)
    have hT2 := pt_swap (i := i) (j := k) ⟨hA, hk3⟩ ha (by omega) (by omega) (by omega) (by omega) g2 (by omega)
    simp only [q1, q2, q3, d1, d2, d3, d4, rI_set, hs, w (i + 1) (by omega) (by omega), w (k - 1) (by omega) (by omega), vmp,↓vmd,seval]
    generalize swp Y i k = Y2 at *
    refine loop_at (T := Int × Int × List Int) (fun z => [(10, .pure (I z.1)), (11, .pure (I z.2.1)), (0, .rsl 0 0 X.length), (1, .pure (I a)), (2, .pure (I b))]) (fun z => [rI z.2.2])
     (fun z => a + 1 ≤ z.1 ∧ z.1 ≤ z.2.1 + 1 ∧ z.2.1 < b ∧ Pm a b X z.2.2 ∧ Pt a b z.1 z.2.1 z.2.2) (fun z => (z.2.1 + 1 - z.1).toNat)
     (i + 1, k - 1, Y2) [0] (by simp) rfl ⟨by simp only; omega, by simp only; omega, by simp only; omega, hP2, hT2⟩ (by simp only [kpp,seval]) (by simp only [kpp,seval]) ?_
    clear hP2 hT2 hP hl hA hk3 hx hy g1 g2 q1 q2 q3 hs
    rintro ⟨i0, j0, Y⟩ ⟨hi1, hi2, hj, hP, hT⟩
    simp only at hi1 hi2 hj hP hT
    have hl := hP.len
    unfold c32_5
    simp only [vmp,↓vmd,seval]
    refine loop_at (T := Int) (fun z => [(10, .pure (I z)), (11, .pure (I (j0))), (0, .rsl 0 0 X.length), (1, .pure (I a)), (2, .pure (I b))]) (fun _ => [rI Y]) (fun z => (i0) ≤ z ∧ z ≤ (j0) + 1 ∧ ∀ p, a < p → p < z → gA Y p ≤ gA Y a) (fun z => ((j0) + 1 - z).toNat)
     (i0) [0] (by simp) rfl ⟨by omega, by omega, hT.1⟩ (by simp only [kpp,seval]) (by simp only [kpp,seval]) ?_
    rintro k ⟨hk1, hk2, hk3⟩
    unfold c32_4
    simp only [vmp,↓vmd,seval]
    by_cases h2 : k ≤ (j0)
    case' pos => (
     have r1 := rI_at (X := Y) (i := k) (by omega) (by omega)
     have r2 := rI_at (X := Y) (i := a) (by omega) (by omega)
     have w1 := w (k + 1) (by omega) (by omega)
     have b1 : 0 ≤ k := by omega
     have b2 : k < (X.length : Int) := by omega
     have b4 : a < (X.length : Int) := by omega
     refine onB_pos h2 ?_
     (first | apply envO | apply envQ); simp only [h2, vmp,↓vmd,seval]; rfl
     simp only [h2, r1, r2, b1, b2, ha, b4, vmp,↓vmd,seval]
     refine onC_q (less_q _ _) rfl ?_
     by_cases h3 : gA Y k < gA Y a
     case' pos => (
      rw [decide_eq_true h3]
      (first | apply envO | apply envQ); simp only [vmp,↓vmd,seval]; rfl
      simp only [w1, vmp,↓vmd,seval]
      refine onBk_to (k + 1) [0] (by simp) rfl (by omega) ⟨by omega, by omega, fun p p1 p2 => by
       by_cases e : p = k
       ·rw [e]; omega
       ·exact hk3 p p1 (by omega)⟩ (by simp only [kpp,seval]) (by simp only [kpp,seval]))
     rw [decide_eq_false h3]
     (first | apply envO | apply envQ); simp only [vmp,↓vmd,seval]; rfl
     simp only [vmp,↓vmd,seval]
     have hx : ¬ k ≤ (j0) ∨ (¬ gA Y k < gA Y a) := .inr h3)
    case' neg => (
     refine onB_neg h2 ?_
     (first | apply envO | apply envQ); simp only [h2, vmp,↓vmd,seval]; rfl
     simp only [h2, vmp,↓vmd,seval]
     have hx : ¬ k ≤ (j0) ∨ (¬ gA Y k < gA Y a) := .inl h2)
    all_goals (
     have hy := hx
     clear hx h2
     have hA := hk3
     clear hk3
     generalize k = i at *
     unfold c32_3
     simp only [vmp,↓vmd,seval]
     refine loop_at (T := Int) (fun z => [(11, .pure (I z)), (10, .pure (I i)), (0, .rsl 0 0 X.length), (1, .pure (I a)), (2, .pure (I b))]) (fun _ => [rI Y]) (fun z => i ≤ z + 1 ∧ z ≤ (j0) ∧ ∀ p, z < p → p < b → gA Y a ≤ gA Y p) (fun z => (z + 1 - i).toNat)
      (j0) [0] (by simp) rfl ⟨by omega, by omega, hT.2⟩ (by simp only [kpp,seval]) (by simp only [kpp,seval]) ?_
     rintro k ⟨hk1, hk2, hk3⟩
     unfold c32_2
     simp only [vmp,↓vmd,seval]
     by_cases h2 : i ≤ k
     case' pos => (
      have r1 := rI_at (X := Y) (i := k) (by omega) (by omega)
      have r2 := rI_at (X := Y) (i := a) (by omega) (by omega)
      have w1 := w (k - 1) (by omega) (by omega)
      have b1 : 0 ≤ k := by omega
      have b2 : k < (X.length : Int) := by omega
      have b4 : a < (X.length : Int) := by omega
      refine onB_pos h2 ?_
      (first | apply envO | apply envQ); simp only [h2, vmp,↓vmd,seval]; rfl
      simp only [h2, r1, r2, b1, b2, ha, b4, vmp,↓vmd,seval]
      refine onC_q (less_q _ _) rfl ?_
      by_cases h3 : gA Y k < gA Y a
      case' neg => (
       rw [decide_eq_false h3]
       (first | apply envO | apply envQ); simp only [vmp,↓vmd,seval]; rfl
       simp only [w1, vmp,↓vmd,seval]
       refine onBk_to (k - 1) [0] (by simp) rfl (by omega) ⟨by omega, by omega, fun p p1 p2 => by
        by_cases e : p = k
        ·rw [e]; omega
        ·exact hk3 p (by omega) p2⟩ (by simp only [kpp,seval]) (by simp only [kpp,seval]))
      rw [decide_eq_true h3]
      (first | apply envO | apply envQ); simp only [vmp,↓vmd,seval]; rfl
      simp only [vmp,↓vmd,seval]
      have hx : ¬ i ≤ k ∨ (gA Y k < gA Y a) := .inr h3)
     case' neg => (
      refine onB_neg h2 ?_
      (first | apply envO | apply envQ); simp only [h2, vmp,↓vmd,seval]; rfl
      simp only [h2, vmp,↓vmd,seval]
      have hx : ¬ i ≤ k ∨ (gA Y k < gA Y a) := .inl h2)
     all_goals (
      unfold c32_1
      simp only [vmp,↓vmd,seval]
      by_cases h5 : i > k
      case' pos => (
       refine onB_pos h5 ?_
       have q1 := rI_at (X := Y) (i := k) (by omega) (by omega)
       have q2 := rI_at (X := Y) (i := a) (by omega) (by omega)
       have q3 := rI_at2 (X := Y) (n := (k).toNat) (v := gA Y (a)) (i := a) (by omega) (by omega)
       have d1 : 0 ≤ k := by omega
       have d2 : k < (X.length : Int) := by omega
       have d3 : 0 ≤ a := by omega
       have d4 : a < (X.length : Int) := by omega
       have hs : (Y.set (k).toNat (gA Y (a))).set (a).toNat (gA Y (k)) = swp Y (k) (a) := rfl
       simp only [vmp,↓vmd,seval]
       unfold c32_0
       simp only [q1, q2, q3, d1, d2, d3, d4, rI_set, hs, vmp,↓vmd,seval]
       exact ⟨(swp Y k a, k, false), ⟨hP.swap (by omega) (by omega) (by omega) (by omega), (show a ≤ k by omega), (show k < b by omega), pt_end (i := i) (j := k) ⟨hA, hk3⟩ ha (by omega) (by omega) (by omega) (by omega)⟩, rfl, rfl⟩)
      have q1 := rI_at (X := Y) (i := i) (by omega) (by omega)
      have q2 := rI_at (X := Y) (i := k) (by omega) (by omega)
      have q3 := rI_at2 (X := Y) (n := (i).toNat) (v := gA Y (k)) (i := k) (by omega) (by omega)
      have d1 : 0 ≤ i := by omega
      have d2 : i < (X.length : Int) := by omega
      have d3 : 0 ≤ k := by omega
      have d4 : k < (X.length : Int) := by omega
      have hs : (Y.set (i).toNat (gA Y (k))).set (k).toNat (gA Y (i)) = swp Y (i) (k) := rfl
      refine onB_neg h5 ?_
      have g1 : gA Y k < gA Y a := by
       rcases hx with hx | hx
       ·omega
       ·exact hx
      have g2 : gA Y a ≤ gA Y i := by
       rcases hy with hy | hy
       ·omega
       ·omega
      have g3 : i ≠ k := fun e => by rw [e] at g2; omega
      have hP2 := hP.swap (i := i) (j := k) (by omega) (by omega) (by omega) (by omega)
      have hT2 := pt_swap (i := i) (j := k) ⟨hA, hk3⟩ ha (by omega) (by omega) (by omega) (by omega) g2 (by omega)
      simp only [q1, q2, q3, d1, d2, d3, d4, rI_set, hs, w (i + 1) (by omega) (by omega), w (k - 1) (by omega) (by omega), vmp,↓vmd,seval]
      refine onBk_to (i + 1, k - 1, swp Y i k) [0] (by simp) rfl (by simp only; omega) ⟨by simp only; omega, by simp only; omega, by simp only; omega, hP2, hT2⟩ (by simp only [kpp,seval]) (by simp only [kpp,seval])))))
 ·rintro r H' ⟨z, hz, rfl, rfl⟩
  exact ⟨[0], _, _, by simp, rfl, (by simp only [kpp,seval]), (by simp only [kpp,seval]), ⟨z, hz⟩, rfl, rfl⟩
end Go.Proofs.Ytalhohfhjniapaa.W
