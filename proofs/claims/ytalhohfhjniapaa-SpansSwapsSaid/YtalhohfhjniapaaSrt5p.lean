/-
  A row that is nearly sorted: a few swaps. No condition but on sizes.
-/
import Derived.Test.YtalhohfhjniapaaSrt5
namespace Go.Proofs.Ytalhohfhjniapaa.W
open Go Go.Vm Go.Proofs
set_option maxRecDepth 100000
set_option linter.unusedSimpArgs false
set_option maxHeartbeats 4000000
/-! slices.partialInsertionSortOrdered[int] -/
def c29_0 : AC :=
 (.seq (.reg [oo 6 (.mov (nB false))])
 .ret)
def c29_1 : AC :=
 (.reg [oo 15 (.mov (.s 8)),
 oo 16 (.bin .add (.s 15) (nI 1)),
 oo 8 (.mov (.s 16))])
def c29_2 : AC :=
 (.seq (.seq (.reg [oo 101 (.mov (.s 10)),
 oo 102 (.mov (.s 2)),
 oo 103 (.bin .lss (.s 101) (.s 102))])
 (.cond (.s 103)
 .skip
 (.exit 6)))
 (.seq (.block 7
 (.seq (.seq (.regq [oo 106 (.mov (.s 0)),
 oo 107 (.mov (.s 10)),
 oo 108 (.idxA 1 (.s 106) (.s 107)),
 oo 109 (.load false 1 (.s 108)),
 oo 110 (.mov (.s 0)),
 oo 111 (.mov (.s 10)),
 oo 112 (.bin .sub (.s 111) (nI 1)),
 oo 113 (.idxA 1 (.s 110) (.s 112)),
 oo 114 (.load false 1 (.s 113))]
[oo 115 (.call 30 [(.s 109), (.s 114)]),
 oo 116 (.un .not (.s 115))])
 (.cond (.s 116)
 (.exit 6)
 .skip))
 (.regq [oo 117 (.mov (.s 0)),
 oo 118 (.mov (.s 10)),
 oo 119 (.mov (.s 0)),
 oo 120 (.mov (.s 10)),
 oo 121 (.bin .sub (.s 120) (nI 1)),
 oo 122 (.mov (.s 0)),
 oo 123 (.mov (.s 10)),
 oo 124 (.bin .sub (.s 123) (nI 1)),
 oo 125 (.idxA 1 (.s 122) (.s 124)),
 oo 126 (.load false 1 (.s 125)),
 oo 127 (.mov (.s 0)),
 oo 128 (.mov (.s 10)),
 oo 129 (.idxA 1 (.s 127) (.s 128)),
 oo 130 (.load false 1 (.s 129)),
 oo 131 (.idxA 1 (.s 117) (.s 118))]
[⟨none, none, .store 1 (.s 131) (.s 126)⟩,
 oo 132 (.idxA 1 (.s 119) (.s 121)),
⟨none, none, .store 1 (.s 132) (.s 130)⟩])))
 (.reg [oo 104 (.mov (.s 10)),
 oo 105 (.bin .add (.s 104) (nI 1)),
 oo 10 (.mov (.s 105))])))
def c29_3 : AC :=
 (.seq (.reg [oo 95 (.mov (.s 2)),
 oo 96 (.mov (.s 7)),
 oo 97 (.bin .sub (.s 95) (.s 96)),
 oo 98 (.bin .geq (.s 97) (nI 2))])
 (.cond (.s 98)
 (.seq (.reg [oo 99 (.mov (.s 7)),
 oo 100 (.bin .add (.s 99) (nI 1)),
 oo 10 (.mov (.s 100))])
 (.block 6
 (.loop c29_2)))
 .skip))
def c29_4 : AC :=
 (.seq (.seq (.reg [oo 64 (.mov (.s 9)),
 oo 65 (.bin .geq (.s 64) (nI 1))])
 (.cond (.s 65)
 .skip
 (.exit 4)))
 (.seq (.block 5
 (.seq (.seq (.regq [oo 68 (.mov (.s 0)),
 oo 69 (.mov (.s 9)),
 oo 70 (.idxA 1 (.s 68) (.s 69)),
 oo 71 (.load false 1 (.s 70)),
 oo 72 (.mov (.s 0)),
 oo 73 (.mov (.s 9)),
 oo 74 (.bin .sub (.s 73) (nI 1)),
 oo 75 (.idxA 1 (.s 72) (.s 74)),
 oo 76 (.load false 1 (.s 75))]
[oo 77 (.call 30 [(.s 71), (.s 76)]),
 oo 78 (.un .not (.s 77))])
 (.cond (.s 78)
 (.exit 4)
 .skip))
 (.regq [oo 79 (.mov (.s 0)),
 oo 80 (.mov (.s 9)),
 oo 81 (.mov (.s 0)),
 oo 82 (.mov (.s 9)),
 oo 83 (.bin .sub (.s 82) (nI 1)),
 oo 84 (.mov (.s 0)),
 oo 85 (.mov (.s 9)),
 oo 86 (.bin .sub (.s 85) (nI 1)),
 oo 87 (.idxA 1 (.s 84) (.s 86)),
 oo 88 (.load false 1 (.s 87)),
 oo 89 (.mov (.s 0)),
 oo 90 (.mov (.s 9)),
 oo 91 (.idxA 1 (.s 89) (.s 90)),
 oo 92 (.load false 1 (.s 91)),
 oo 93 (.idxA 1 (.s 79) (.s 80))]
[⟨none, none, .store 1 (.s 93) (.s 88)⟩,
 oo 94 (.idxA 1 (.s 81) (.s 83)),
⟨none, none, .store 1 (.s 94) (.s 92)⟩])))
 (.reg [oo 66 (.mov (.s 9)),
 oo 67 (.bin .sub (.s 66) (nI 1)),
 oo 9 (.mov (.s 67))])))
def c29_5 : AC :=
 (.seq (.seq (.reg [oo 35 (.mov (.s 7)),
 oo 36 (.mov (.s 2)),
 oo 37 (.bin .eql (.s 35) (.s 36))])
 (.cond (.s 37)
 (.seq (.reg [oo 6 (.mov (nB true))])
 .ret)
 .skip))
 (.seq (.seq (.reg [oo 38 (.mov (.s 2)),
 oo 39 (.mov (.s 1)),
 oo 40 (.bin .sub (.s 38) (.s 39)),
 oo 41 (.bin .lss (.s 40) (nI 50))])
 (.cond (.s 41)
 (.seq (.reg [oo 6 (.mov (nB false))])
 .ret)
 .skip))
 (.seq (.regq [oo 42 (.mov (.s 0)),
 oo 43 (.mov (.s 7)),
 oo 44 (.mov (.s 0)),
 oo 45 (.mov (.s 7)),
 oo 46 (.bin .sub (.s 45) (nI 1)),
 oo 47 (.mov (.s 0)),
 oo 48 (.mov (.s 7)),
 oo 49 (.bin .sub (.s 48) (nI 1)),
 oo 50 (.idxA 1 (.s 47) (.s 49)),
 oo 51 (.load false 1 (.s 50)),
 oo 52 (.mov (.s 0)),
 oo 53 (.mov (.s 7)),
 oo 54 (.idxA 1 (.s 52) (.s 53)),
 oo 55 (.load false 1 (.s 54)),
 oo 56 (.idxA 1 (.s 42) (.s 43))]
[⟨none, none, .store 1 (.s 56) (.s 51)⟩,
 oo 57 (.idxA 1 (.s 44) (.s 46)),
⟨none, none, .store 1 (.s 57) (.s 55)⟩])
 (.seq (.seq (.reg [oo 58 (.mov (.s 7)),
 oo 59 (.mov (.s 1)),
 oo 60 (.bin .sub (.s 58) (.s 59)),
 oo 61 (.bin .geq (.s 60) (nI 2))])
 (.cond (.s 61)
 (.seq (.reg [oo 62 (.mov (.s 7)),
 oo 63 (.bin .sub (.s 62) (nI 1)),
 oo 9 (.mov (.s 63))])
 (.block 4
 (.loop c29_4)))
 .skip))
 c29_3))))
def c29_6 : AC :=
 (.seq (.seq (.regq [oo 17 (.mov (.s 7)),
 oo 18 (.mov (.s 2)),
 oo 19 (.bin .lss (.s 17) (.s 18)),
 oo 20 (.mov (.s 19)),
 og 21 20 true (.mov (.s 0)),
 og 22 20 true (.mov (.s 7)),
 og 23 20 true (.idxA 1 (.s 21) (.s 22)),
 og 24 20 true (.load false 1 (.s 23)),
 og 25 20 true (.mov (.s 0)),
 og 26 20 true (.mov (.s 7)),
 og 27 20 true (.bin .sub (.s 26) (nI 1)),
 og 28 20 true (.idxA 1 (.s 25) (.s 27)),
 og 29 20 true (.load false 1 (.s 28))]
[og 30 20 true (.call 30 [(.s 24), (.s 29)]),
 og 31 20 true (.un .not (.s 30)),
 oo 32 (.pick (.s 20) (.s 31) (nB false))])
 (.cond (.s 32)
 .skip
 (.exit 2)))
 (.block 3
 (.reg [oo 33 (.mov (.s 7)),
 oo 34 (.bin .add (.s 33) (nI 1)),
 oo 7 (.mov (.s 34))])))
def c29_7 : AC :=
 (.seq (.seq (.reg [oo 13 (.mov (.s 8)),
 oo 14 (.bin .lss (.s 13) (nI 5))])
 (.cond (.s 14)
 .skip
 (.exit 0)))
 (.seq (.block 1
 (.seq (.block 2
 (.loop c29_6))
 c29_5))
 c29_1))
def c29 : AC :=
 (.seq (.reg [oo 6 (.mov (nB false))])
 (.seq (.reg [oo 11 (.mov (.s 1)),
 oo 12 (.bin .add (.s 11) (nI 1)),
 oo 7 (.mov (.s 12))])
 (.seq (.seq (.reg [oo 8 (.mov (nI 0))])
 (.block 0
 (.loop c29_7)))
 c29_0)))
theorem k29 : OkF 29 Try.f29 c29 [.t 6] 133 := ⟨Try.func29, by kernel_rfl, by kernel_rfl, by kernel_rfl, Try.ntmps29⟩
theorem sd_swp {a i : Int} {X : List Int} {p q : Int} (h : Sd a i X) (ha : 0 ≤ a) (hp : i ≤ p) (hp' : p < X.length) (hq : i ≤ q) (hq' : q < X.length) (hi : 0 ≤ i) : Sd a i (swp X p q) := by
 intro u v h1 h2 h3
 rw [gA_swp (by omega) hp' (by omega) hq' (by omega), if_neg (by omega), if_neg (by omega), gA_swp (by omega) hp' (by omega) hq' (by omega), if_neg (by omega), if_neg (by omega)]
 exact h u v h1 h2 h3
theorem partial_c (X : List Int) (a b : Int) (ha : 0 ≤ a) (hab : a + 8 ≤ b) (hb : b ≤ X.length) (hX : X.length ≤ 1000) (hpre : 0 < a → ∀ q, a ≤ q → q < b → gA X (a - 1) ≤ gA X q) : CallA Try.prog 29 [.rsl 0 0 X.length, .pure (I a), .pure (I b)] [rI X]
  fun s H' => ∃ z : {z : Bool × List Int // Pm a b X z.2 ∧ (z.1 = true → Sd a b z.2)}, s = .pure (.bool z.1.1) ∧ H' = [rI z.1.2] := by
 refine CallA.weak (K := fun s H' => ∃ z : Bool × List Int, (Pm a b X z.2 ∧ (z.1 = true → Sd a b z.2)) ∧ s = .pure (.bool z.1) ∧ H' = [rI z.2]) ?_ ?_
 ·refine k29.a (by simp) ?_
  unfold c29
  have w := fun (k : Int) (h1 : -5000 ≤ k) (h2 : k ≤ 5000) => wrap_id (n := k) (by omega) (by omega)
  simp only [w (a + 1) (by omega) (by omega), vmp,↓vmd,seval]
  refine loop_at (T := Nat × Int × List Int) (fun z => [(8, .pure (I z.1)), (7, .pure (I z.2.1)), (6, .pure (.bool false)), (0, .rsl 0 0 X.length), (1, .pure (I a)), (2, .pure (I b))]) (fun z => [rI z.2.2]) (fun z => z.1 ≤ 5 ∧ a + 1 ≤ z.2.1 ∧ z.2.1 ≤ b ∧ Pm a b X z.2.2 ∧ Sd a z.2.1 z.2.2) (fun z => 5 - z.1)
   (0, a + 1, X) [0] (by simp) rfl ⟨by simp, by simp, by simp only; omega, .refl, fun p q h1 h2 h3 => by simp only at h3; omega⟩ (by simp only [kpp,seval]) (by simp only [kpp,seval]) ?_
  rintro ⟨j, i0, Y⟩ ⟨hj, hj1, hj2, hP, hS0⟩
  simp only at hj hj1 hj2 hP hS0
  unfold c29_7
  simp only [vmp,↓vmd,seval]
  by_cases h0 : (j : Int) < 5
  case' neg => (
   refine onB_neg h0 ?_
   simp only [h0, vmp,↓vmd,seval]
   unfold c29_0
   simp only [vmp,↓vmd,seval]
   exact ⟨(false, Y), ⟨hP, fun h => by cases h⟩, rfl, rfl⟩)
  refine onB_pos h0 ?_
  simp only [h0, vmp,↓vmd,seval]
  have hl := hP.len
  refine loop_at (T := Int) (fun i => [(7, .pure (I i)), (8, .pure (I j)), (6, .pure (.bool false)), (0, .rsl 0 0 X.length), (1, .pure (I a)), (2, .pure (I b))]) (fun _ => [rI Y]) (fun i => a + 1 ≤ i ∧ i ≤ b ∧ Sd a i Y) (fun i => (b - i).toNat)
   i0 [0] (by simp) rfl ⟨hj1, hj2, hS0⟩ (by simp only [kpp,seval]) (by simp only [kpp,seval]) ?_
  rintro i ⟨hi1, hi2, hS⟩
  unfold c29_6
  simp only [vmp,↓vmd,seval]
  by_cases h1 : i < b
  case' neg => (
   refine onB_neg h1 ?_
   (first | apply envO | apply envQ); simp only [h1, vmp,↓vmd,seval]; rfl
   simp only [h1, vmp,↓vmd,seval]
   unfold c29_5
   simp only [vmp,↓vmd,seval]
   obtain rfl : i = b := by omega
   refine onB_pos rfl ?_
   simp only [vmp,↓vmd,seval]
   exact ⟨(true, Y), ⟨hP, fun _ => hS⟩, rfl, rfl⟩)
  have r1 := rI_at (X := Y) (i := i) (by omega) (by omega)
  have r2 := rI_at (X := Y) (i := i - 1) (by omega) (by omega)
  have w1 := w (i - 1) (by omega) (by omega)
  have w2 := w (i + 1) (by omega) (by omega)
  have w3 := w (b - a) (by omega) (by omega)
  have b1 : 0 ≤ i := by omega
  have b2 : i < (X.length : Int) := by omega
  have b3 : 0 ≤ i - 1 := by omega
  have b4 : i - 1 < (X.length : Int) := by omega
  refine onB_pos h1 ?_
  (first | apply envO | apply envQ); simp only [h1, vmp,↓vmd,seval]; rfl
  simp only [h1, r1, r2, w1, b1, b2, b3, b4, vmp,↓vmd,seval]
  refine onC_q (less_q _ _) rfl ?_
  by_cases h2 : gA Y i < gA Y (i - 1)
  case' neg => (
   rw [decide_eq_false h2]
   (first | apply envO | apply envQ); simp only [vmp,↓vmd,seval]; rfl
   simp only [w2, vmp,↓vmd,seval]
   refine onBk_to (i + 1) [0] (by simp) rfl (by omega) ⟨by omega, by omega, sd_snoc hS (by omega)⟩ (by simp only [kpp,seval]) (by simp only [kpp,seval]))
  rw [decide_eq_true h2]
  (first | apply envO | apply envQ); simp only [vmp,↓vmd,seval]; rfl
  simp only [vmp,↓vmd,seval]
  unfold c29_5
  simp only [vmp,↓vmd,seval]
  refine onB_neg (show ¬ i = b by omega) ?_
  simp only [w3, vmp,↓vmd,seval]
  by_cases h3 : b - a < 50
  case' pos => (
   refine onB_pos h3 ?_
   simp only [vmp,↓vmd,seval]
   exact ⟨(false, Y), ⟨hP, fun h => by cases h⟩, rfl, rfl⟩)
  have r3 := rI_at2 (X := Y) (n := i.toNat) (v := gA Y (i - 1)) (i := i - 1) (by omega) (by omega)
  have hs : (Y.set i.toNat (gA Y (i - 1))).set (i - 1).toNat (gA Y i) = swp Y i (i - 1) := rfl
  have w4 := w (i - a) (by omega) (by omega)
  have w5 := w (b - i) (by omega) (by omega)
  refine onB_neg h3 ?_
  (first | apply envO | apply envQ); simp only [h3, vmp,↓vmd,seval]; rfl
  simp only [h3, r1, r2, w1, w4, b1, b2, b3, b4, rI_set, r3, hs, vmp,↓vmd,seval]
  have hP0 : Pm a b X (swp Y i (i - 1)) := .swap hP (by omega) h1 (by omega) (by omega)
  have hSi : Sd a (i - 1) (swp Y i (i - 1)) := sd_swp (i := i - 1) (fun p q k1 k2 k3 => hS p q k1 k2 (by omega)) ha (by omega) (by omega) (by omega) (by omega) (by omega)
  generalize swp Y i (i - 1) = Y0 at *
  clear hs r1 r2 r3 h2 hS0 hj1 hj2 hP hS
  by_cases h4 : 2 ≤ i - a
  case' neg => (
   refine onB_neg h4 ?_
   (first | apply envO | apply envQ); simp only [h4, vmp,↓vmd,seval]; rfl
   simp only [h4, vmp,↓vmd,seval]
   have hPZ := hP0
   have hS2 : Sd a i Y0 := fun p q k1 k2 k3 => by omega
   clear hP0 hSi
   generalize Y0 = Z at *)
  case' pos => (
   refine onB_pos h4 ?_
   (first | apply envO | apply envQ); simp only [h4, vmp,↓vmd,seval]; rfl
   simp only [h4, w1, vmp,↓vmd,seval]
   refine loop_at (T := Int × List Int) (fun z => [(9, .pure (I z.1)), (7, .pure (I i)), (8, .pure (I j)), (6, .pure (.bool false)), (0, .rsl 0 0 X.length), (1, .pure (I a)), (2, .pure (I b))]) (fun z => [rI z.2]) (fun z => a ≤ z.1 ∧ z.1 ≤ i - 1 ∧ Pm a b X z.2 ∧ Ins a (i - 1) z.1 z.2) (fun z => (z.1 - a).toNat)
    (i - 1, Y0) [0] (by simp) rfl ⟨by simp only; omega, by simp, hP0, ins_init hSi⟩ (by simp only [kpp,seval]) (by simp only [kpp,seval]) ?_
   clear hP0 hSi
   rintro ⟨m, Z⟩ ⟨hm1, hm2, hPZ, hI⟩
   simp only at hm1 hm2 hPZ hI
   have hlz := hPZ.len
   unfold c29_4
   simp only [vmp,↓vmd,seval]
   by_cases h5 : 1 ≤ m
   case' neg => (
    refine onB_neg h5 ?_
    simp only [h5, vmp,↓vmd,seval]
    have hS2 : Sd a i Z := by
     have := ins_end hI (.inl (by omega))
     rwa [show i - 1 + 1 = i by omega] at this)
   case' pos => (
    have q1 := rI_at (X := Z) (i := m) (by omega) (by omega)
    have q2 := rI_at (X := Z) (i := m - 1) (by omega) (by omega)
    have u1 := w (m - 1) (by omega) (by omega)
    have g1 : 0 ≤ m := by omega
    have g2 : m < (X.length : Int) := by omega
    have g3 : 0 ≤ m - 1 := by omega
    have g4 : m - 1 < (X.length : Int) := by omega
    refine onB_pos h5 ?_
    (first | apply envO | apply envQ); simp only [h5, vmp,↓vmd,seval]; rfl
    simp only [h5, q1, q2, u1, g1, g2, g3, g4, vmp,↓vmd,seval]
    refine onC_q (less_q _ _) rfl ?_
    by_cases h6 : gA Z m < gA Z (m - 1)
    case' pos => (
     have hma : a < m := by
      refine Classical.byContradiction fun hc => ?_
      obtain rfl : m = a := by omega
      have e1 := hPZ.out ha hb (k := m - 1) (by omega) (.inl (by omega))
      have e2 := hPZ.all ha hb (p := fun v => gA X (m - 1) ≤ v) (hpre (by omega)) m (by omega) (by omega)
      omega
     rw [decide_eq_true h6]
     have q3 := rI_at2 (X := Z) (n := m.toNat) (v := gA Z (m - 1)) (i := m - 1) (by omega) (by omega)
     have hs : (Z.set m.toNat (gA Z (m - 1))).set (m - 1).toNat (gA Z m) = swp Z m (m - 1) := rfl
     (first | apply envO | apply envQ); simp only [vmp,↓vmd,seval]; rfl
     simp only [q1, q2, u1, g1, g2, g3, g4, rI_set, q3, hs, vmp,↓vmd,seval]
     refine onBk_to (m - 1, swp Z m (m - 1)) [0] (by simp) rfl (by simp only; omega) ⟨by simp only; omega, by simp only; omega, .swap hPZ (by omega) (by omega) (by omega) (by omega), ins_step hI ha hma hm2 (by omega) h6⟩ (by simp only [u1, kpp,seval]) (by simp only [kpp,seval]))
    case' neg => (
     rw [decide_eq_false h6]
     (first | apply envO | apply envQ); simp only [vmp,↓vmd,seval]; rfl
     simp only [vmp,↓vmd,seval]
     have hS2 : Sd a i Z := by
      have := ins_end hI (.inr (by omega))
      rwa [show i - 1 + 1 = i by omega] at this)))
  all_goals (
   have hlz := hPZ.len
   try unfold c29_3
   have w6 : IntKind.wrap .i64 ((j : Int) + 1) = ((j + 1 : Nat) : Int) := by rw [w _ (by omega) (by omega)]; omega
   simp only [w5, vmp,↓vmd,seval]
   by_cases h7 : 2 ≤ b - i
   case' neg => (
    refine onB_neg h7 ?_
    (first | apply envO | apply envQ); simp only [h7, vmp,↓vmd,seval]; rfl
    simp only [h7, w6, vmp,↓vmd,seval]
    refine onBk_to (j + 1, i, Z) [0] (by simp) rfl (by simp only; omega) ⟨by simp only; omega, hi1, hi2, hPZ, hS2⟩ (by simp only [kpp,seval]) (by simp only [kpp,seval]))
   case' pos => (
    refine onB_pos h7 ?_
    (first | apply envO | apply envQ); simp only [h7, vmp,↓vmd,seval]; rfl
    simp only [h7, w2, vmp,↓vmd,seval]
    refine loop_at (T := Int × List Int) (fun z => [(10, .pure (I z.1)), (7, .pure (I i)), (8, .pure (I j)), (6, .pure (.bool false)), (0, .rsl 0 0 X.length), (1, .pure (I a)), (2, .pure (I b))]) (fun z => [rI z.2]) (fun z => i + 1 ≤ z.1 ∧ z.1 ≤ b ∧ Pm a b X z.2 ∧ Sd a i z.2) (fun z => (b - z.1).toNat)
     (i + 1, Z) [0] (by simp) rfl ⟨by simp, by simp only; omega, hPZ, hS2⟩ (by simp only [kpp,seval]) (by simp only [kpp,seval]) ?_
    clear hPZ hS2 hlz
    rintro ⟨m2, W⟩ ⟨hn1, hn2, hPW, hSW⟩
    simp only at hn1 hn2 hPW hSW
    have hlw := hPW.len
    unfold c29_2
    simp only [vmp,↓vmd,seval]
    by_cases h8 : m2 < b
    case' neg => (
     refine onB_neg h8 ?_
     simp only [h8, vmp,↓vmd,seval]
     unfold c29_1
     simp only [w6, vmp,↓vmd,seval]
     refine onBk_to (j + 1, i, W) [0] (by simp) rfl (by simp only; omega) ⟨by simp only; omega, hi1, hi2, hPW, hSW⟩ (by simp only [kpp,seval]) (by simp only [kpp,seval]))
    case' pos => (
     have q1 := rI_at (X := W) (i := m2) (by omega) (by omega)
     have q2 := rI_at (X := W) (i := m2 - 1) (by omega) (by omega)
     have u1 := w (m2 - 1) (by omega) (by omega)
     have u2 := w (m2 + 1) (by omega) (by omega)
     have g1 : 0 ≤ m2 := by omega
     have g2 : m2 < (X.length : Int) := by omega
     have g3 : 0 ≤ m2 - 1 := by omega
     have g4 : m2 - 1 < (X.length : Int) := by omega
     refine onB_pos h8 ?_
     (first | apply envO | apply envQ); simp only [h8, vmp,↓vmd,seval]; rfl
     simp only [h8, q1, q2, u1, g1, g2, g3, g4, vmp,↓vmd,seval]
     refine onC_q (less_q _ _) rfl ?_
     by_cases h9 : gA W m2 < gA W (m2 - 1)
     case' pos => (
      rw [decide_eq_true h9]
      have q3 := rI_at2 (X := W) (n := m2.toNat) (v := gA W (m2 - 1)) (i := m2 - 1) (by omega) (by omega)
      have hs : (W.set m2.toNat (gA W (m2 - 1))).set (m2 - 1).toNat (gA W m2) = swp W m2 (m2 - 1) := rfl
      (first | apply envO | apply envQ); simp only [vmp,↓vmd,seval]; rfl
      simp only [q1, q2, u1, u2, g1, g2, g3, g4, rI_set, q3, hs, vmp,↓vmd,seval]
      refine onBk_to (m2 + 1, swp W m2 (m2 - 1)) [0] (by simp) rfl (by simp only; omega) ⟨by simp only; omega, by simp only; omega, .swap hPW (by omega) (by omega) (by omega) (by omega), sd_swp hSW ha (by omega) (by omega) (by omega) (by omega) (by omega)⟩ (by simp only [u2, kpp,seval]) (by simp only [kpp,seval]))
     case' neg => (
      rw [decide_eq_false h9]
      (first | apply envO | apply envQ); simp only [vmp,↓vmd,seval]; rfl
      simp only [vmp,↓vmd,seval]
      unfold c29_1
      simp only [w6, vmp,↓vmd,seval]
      refine onBk_to (j + 1, i, W) [0] (by simp) rfl (by simp only; omega) ⟨by simp only; omega, hi1, hi2, hPW, hSW⟩ (by simp only [kpp,seval]) (by simp only [kpp,seval])))))
 ·rintro r H' ⟨z, hz, rfl, rfl⟩
  exact ⟨[0], _, _, by simp, rfl, (by simp only [kpp,seval]), (by simp only [kpp,seval]), ⟨z, hz⟩, rfl, rfl⟩
end Go.Proofs.Ytalhohfhjniapaa.W
