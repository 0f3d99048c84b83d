/-
  The sort of a row of numbers: what stands in it, in order. No condition but on sizes.
-/
import Derived.Test.YtalhohfhjniapaaSrt6
namespace Go.Proofs.Ytalhohfhjniapaa.W
open Go Go.Vm Go.Proofs
set_option maxRecDepth 100000
set_option linter.unusedSimpArgs false
set_option maxHeartbeats 8000000
/-! slices.pdqsortOrdered[int] -/
def c22_0 : AC :=
 (.block 1
 (.seq (.reg [oo 19 (.mov (.s 2)),
 oo 20 (.mov (.s 1)),
 oo 21 (.bin .sub (.s 19) (.s 20)),
 oo 10 (.mov (.s 21))])
 (.seq (.seq (.reg [oo 22 (.mov (.s 10)),
 oo 23 (.bin .leq (.s 22) (nI 12))])
 (.cond (.s 23)
 (.seq (.reg [oo 24 (.mov (.s 0)),
 oo 25 (.mov (.s 1)),
 oo 26 (.mov (.s 2)),
 oo 27 (.call 24 [(.s 24), (.s 25), (.s 26)])])
 .ret)
 .skip))
 (.seq (.seq (.reg [oo 28 (.mov (.s 3)),
 oo 29 (.bin .eql (.s 28) (nI 0))])
 (.cond (.s 29)
 (.seq (.reg [oo 30 (.mov (.s 0)),
 oo 31 (.mov (.s 1)),
 oo 32 (.mov (.s 2)),
 oo 33 (.call 25 [(.s 30), (.s 31), (.s 32)])])
 .ret)
 .skip))
 (.seq (.seq (.reg [oo 34 (.mov (.s 8)),
 oo 35 (.un .not (.s 34))])
 (.cond (.s 35)
 (.seq (.reg [oo 36 (.mov (.s 0)),
 oo 37 (.mov (.s 1)),
 oo 38 (.mov (.s 2)),
 oo 39 (.call 26 [(.s 36), (.s 37), (.s 38)])])
 (.reg [oo 40 (.mov (.s 3)),
 oo 41 (.bin .sub (.s 40) (nI 1)),
 oo 3 (.mov (.s 41))]))
 .skip))
 (.seq (.reg [oo 43 (.mov (.s 0)),
 oo 44 (.mov (.s 1)),
 oo 45 (.mov (.s 2)),
 oo 46 (.call 27 [(.s 43), (.s 44), (.s 45)]),
 oo 42 (.mov (.s 46)),
 oo 47 (.ext 0 (.s 42)),
 oo 48 (.ext 1 (.s 42)),
 oo 11 (.mov (.s 47)),
 oo 12 (.mov (.s 48))])
 (.seq (.seq (.reg [oo 49 (.mov (.s 12)),
 oo 50 (.bin .eql (.s 49) (nI 2))])
 (.cond (.s 50)
 (.seq (.reg [oo 51 (.mov (.s 0)),
 oo 52 (.mov (.s 1)),
 oo 53 (.mov (.s 2)),
 oo 54 (.call 28 [(.s 51), (.s 52), (.s 53)])])
 (.seq (.reg [oo 55 (.mov (.s 2)),
 oo 56 (.bin .sub (.s 55) (nI 1)),
 oo 57 (.mov (.s 11)),
 oo 58 (.mov (.s 1)),
 oo 59 (.bin .sub (.s 57) (.s 58)),
 oo 60 (.bin .sub (.s 56) (.s 59)),
 oo 11 (.mov (.s 60))])
 (.reg [oo 12 (.mov (nI 1))])))
 .skip))
 (.seq (.seq (.reg [oo 61 (.mov (.s 8)),
 oo 62 (.mov (.s 61)),
 og 63 62 true (.mov (.s 9)),
 oo 64 (.pick (.s 62) (.s 63) (nB false)),
 oo 65 (.mov (.s 64)),
 og 66 65 true (.mov (.s 12)),
 og 67 65 true (.bin .eql (.s 66) (nI 1)),
 oo 68 (.pick (.s 65) (.s 67) (nB false))])
 (.cond (.s 68)
 (.seq (.reg [oo 69 (.mov (.s 0)),
 oo 70 (.mov (.s 1)),
 oo 71 (.mov (.s 2)),
 oo 72 (.call 29 [(.s 69), (.s 70), (.s 71)])])
 (.cond (.s 72)
 .ret
 .skip))
 .skip))
 (.seq (.seq (.regq [oo 73 (.mov (.s 1)),
 oo 74 (.bin .gtr (.s 73) (nI 0)),
 oo 75 (.mov (.s 74)),
 og 76 75 true (.mov (.s 0)),
 og 77 75 true (.mov (.s 1)),
 og 78 75 true (.bin .sub (.s 77) (nI 1)),
 og 79 75 true (.idxA 1 (.s 76) (.s 78)),
 og 80 75 true (.load false 1 (.s 79)),
 og 81 75 true (.mov (.s 0)),
 og 82 75 true (.mov (.s 11)),
 og 83 75 true (.idxA 1 (.s 81) (.s 82)),
 og 84 75 true (.load false 1 (.s 83))]
[og 85 75 true (.call 30 [(.s 80), (.s 84)]),
 og 86 75 true (.un .not (.s 85)),
 oo 87 (.pick (.s 75) (.s 86) (nB false))])
 (.cond (.s 87)
 (.seq (.reg [oo 88 (.mov (.s 0)),
 oo 89 (.mov (.s 1)),
 oo 90 (.mov (.s 2)),
 oo 91 (.mov (.s 11)),
 oo 92 (.call 31 [(.s 88), (.s 89), (.s 90), (.s 91)]),
 oo 13 (.mov (.s 92))])
 (.seq (.reg [oo 93 (.mov (.s 13)),
 oo 1 (.mov (.s 93))])
 (.exit 1)))
 .skip))
 (.seq (.reg [oo 95 (.mov (.s 0)),
 oo 96 (.mov (.s 1)),
 oo 97 (.mov (.s 2)),
 oo 98 (.mov (.s 11)),
 oo 99 (.call 32 [(.s 95), (.s 96), (.s 97), (.s 98)]),
 oo 94 (.mov (.s 99)),
 oo 100 (.ext 0 (.s 94)),
 oo 101 (.ext 1 (.s 94)),
 oo 14 (.mov (.s 100)),
 oo 15 (.mov (.s 101))])
 (.seq (.reg [oo 102 (.mov (.s 15)),
 oo 9 (.mov (.s 102))])
 (.seq (.reg [oo 103 (.mov (.s 14)),
 oo 104 (.mov (.s 1)),
 oo 105 (.bin .sub (.s 103) (.s 104)),
 oo 106 (.mov (.s 2)),
 oo 107 (.mov (.s 14)),
 oo 108 (.bin .sub (.s 106) (.s 107)),
 oo 16 (.mov (.s 105)),
 oo 17 (.mov (.s 108))])
 (.seq (.reg [oo 109 (.mov (.s 10)),
 oo 110 (.bin .quo (.s 109) (nI 8)),
 oo 18 (.mov (.s 110))])
 (.seq (.reg [oo 111 (.mov (.s 16)),
 oo 112 (.mov (.s 17)),
 oo 113 (.bin .lss (.s 111) (.s 112))])
 (.cond (.s 113)
 (.seq (.reg [oo 114 (.mov (.s 16)),
 oo 115 (.mov (.s 18)),
 oo 116 (.bin .geq (.s 114) (.s 115)),
 oo 8 (.mov (.s 116))])
 (.seq (.reg [oo 117 (.mov (.s 0)),
 oo 118 (.mov (.s 1)),
 oo 119 (.mov (.s 14)),
 oo 120 (.mov (.s 3)),
 oo 121 (.call 22 [(.s 117), (.s 118), (.s 119), (.s 120)])])
 (.reg [oo 122 (.mov (.s 14)),
 oo 123 (.bin .add (.s 122) (nI 1)),
 oo 1 (.mov (.s 123))])))
 (.seq (.reg [oo 124 (.mov (.s 17)),
 oo 125 (.mov (.s 18)),
 oo 126 (.bin .geq (.s 124) (.s 125)),
 oo 8 (.mov (.s 126))])
 (.seq (.reg [oo 127 (.mov (.s 0)),
 oo 128 (.mov (.s 14)),
 oo 129 (.bin .add (.s 128) (nI 1)),
 oo 130 (.mov (.s 2)),
 oo 131 (.mov (.s 3)),
 oo 132 (.call 22 [(.s 127), (.s 129), (.s 130), (.s 131)])])
 (.reg [oo 133 (.mov (.s 14)),
 oo 2 (.mov (.s 133))]))))))))))))))))))
def c22 : AC :=
 (.seq (.reg [oo 8 (.mov (nB true))])
 (.seq (.reg [oo 9 (.mov (nB true))])
 (.block 0
 (.loop c22_0))))
theorem k22 : OkF 22 Try.f22 c22 [] 134 := ⟨Try.func22, by kernel_rfl, by kernel_rfl, by kernel_rfl, Try.ntmps22⟩
/-! slices.Sort[[]int,int] -/
def c15 : AC :=
 (.seq (.reg [oo 3 (.mov (.s 0)),
 oo 4 (.len (.s 3)),
 oo 2 (.mov (.s 4))])
 (.reg [oo 5 (.mov (.s 0)),
 oo 6 (.mov (.s 2)),
 oo 7 (.mov (.s 2)),
 oo 8 (.conv .u64 (.s 7)),
 oo 9 (.call 23 [(.s 8)]),
 oo 10 (.call 22 [(.s 5), (nI 0), (.s 6), (.s 9)])]))
theorem k15 : OkF 15 Try.f15 c15 [] 11 := ⟨Try.func15, by kernel_rfl, by kernel_rfl, by kernel_rfl, Try.ntmps15⟩
theorem pdq_c : ∀ (N : Nat) (X : List Int) (a b L : Int), 0 ≤ a → a ≤ b → b ≤ X.length → b < a + 200 → X.length ≤ 1000 → (b - a).toNat ≤ N → (0 < a → ∀ q, a ≤ q → q < b → gA X (a - 1) ≤ gA X q) →
  CallA Try.prog 22 [.rsl 0 0 X.length, .pure (I a), .pure (I b), .pure (I L)] [rI X] fun s H' => s = .tup [] ∧ ∃ Y : {Y // Pm a b X Y ∧ Sd a b Y}, H' = [rI Y.1] := by
 intro N
 induction N using Nat.strongRecOn with
 | ind N ih0 =>
 intro X a b L ha hab hb hab' hX hN hpre
 have ih : ∀ (X2 : List Int) (a2 b2 L2 : Int), 0 ≤ a2 → a2 ≤ b2 → b2 ≤ X2.length → b2 < a2 + 200 → X2.length ≤ 1000 → (b2 - a2).toNat < N → (0 < a2 → ∀ q, a2 ≤ q → q < b2 → gA X2 (a2 - 1) ≤ gA X2 q) →
   CallA Try.prog 22 [.rsl 0 0 X2.length, .pure (I a2), .pure (I b2), .pure (I L2)] [rI X2] fun s H' => s = .tup [] ∧ ∃ Y : {Y // Pm a2 b2 X2 Y ∧ Sd a2 b2 Y}, H' = [rI Y.1] :=
  fun X2 a2 b2 L2 h1 h2 h3 h4 h5 h6 h7 => ih0 (b2 - a2).toNat h6 X2 a2 b2 L2 h1 h2 h3 h4 h5 (Nat.le_refl _) h7
 refine CallA.weak (K := fun s H' => s = .tup [] ∧ ∃ Y, (Pm a b X Y ∧ Sd a b Y) ∧ H' = [rI Y]) ?_ ?_
 ·refine k22.a (by simp) ?_
  unfold c22
  have w := fun (k : Int) (h1 : -5000 ≤ k) (h2 : k ≤ 5000) => wrap_id (n := k) (by omega) (by omega)
  simp only [vmp,↓vmd,seval]
  refine loop_at (T := Int × Int × Int × Bool × Bool × List Int) (fun z => [(1, .pure (I z.1)), (2, .pure (I z.2.1)), (3, .pure (I z.2.2.1)), (8, .pure (.bool z.2.2.2.1)), (9, .pure (.bool z.2.2.2.2.1)), (0, .rsl 0 0 X.length)]) (fun z => [rI z.2.2.2.2.2])
   (fun z => a ≤ z.1 ∧ z.1 ≤ z.2.1 ∧ z.2.1 ≤ b ∧ Pm a b X z.2.2.2.2.2 ∧ Lft a b z.1 z.2.1 z.2.2.2.2.2) (fun z => (z.2.1 - z.1).toNat)
   (a, b, L, true, true, X) [0] (by simp) rfl ⟨by simp, hab, by simp, .refl, lft_init⟩ (by simp only [kpp,seval]) (by simp only [kpp,seval]) ?_
  rintro ⟨c, d, L, wb, wp, Y⟩ ⟨hc1, hcd, hd1, hP, hL⟩
  simp only at hc1 hcd hd1 hP hL
  have hl := hP.len
  have hc0 : 0 ≤ c := by omega
  unfold c22_0
  simp only [w (d - c) (by omega) (by omega), vmp,↓vmd,seval]
  refine onB_dec (fun h1 => ?_) (fun h1 => ?_)
  ·(first | apply envO | apply envQ); simp only [h1, vmp,↓vmd,seval]; rfl
   simp only [h1, vmp,↓vmd,seval]
   have hc := ins_c Y c d hc0 (by omega) (by omega) (by omega)
   rw [hl] at hc
   refine onC_fr' hc [0] (by simp) (by simp only [kpp,seval]) rfl rfl ?_
   rintro ⟨Z, hZ1, hZ2⟩
   refine ⟨by simp, ?_⟩
   (first | apply envO | apply envQ); simp only [vmp,↓vmd,seval]; rfl
   simp only [vmp,↓vmd,seval]
   exact ⟨Z, ⟨hP.trans (hZ1.mono (by omega) (by omega)), lft_end (lft_perm hL hZ1 (by omega) (by omega) (by omega) (by omega) (by omega)) hZ2 (by omega) (by omega) (by omega)⟩, rfl⟩
  (first | apply envO | apply envQ); simp only [h1, vmp,↓vmd,seval]; rfl
  simp only [h1, vmp,↓vmd,seval]
  refine onB_dec (fun h2 => ?_) (fun h2 => ?_)
  ·(first | apply envO | apply envQ); simp only [h2, vmp,↓vmd,seval]; rfl
   simp only [h2, vmp,↓vmd,seval]
   have hc := heap_c Y c d hc0 (by omega) (by omega) (by omega)
   rw [hl] at hc
   refine onC_fr' hc [0] (by simp) (by simp only [kpp,seval]) rfl rfl ?_
   rintro ⟨Z, hZ1, hZ2⟩
   refine ⟨by simp, ?_⟩
   (first | apply envO | apply envQ); simp only [vmp,↓vmd,seval]; rfl
   simp only [vmp,↓vmd,seval]
   exact ⟨Z, ⟨hP.trans (hZ1.mono (by omega) (by omega)), lft_end (lft_perm hL hZ1 (by omega) (by omega) (by omega) (by omega) (by omega)) hZ2 (by omega) (by omega) (by omega)⟩, rfl⟩
  (first | apply envO | apply envQ); simp only [h2, vmp,↓vmd,seval]; rfl
  simp only [h2, vmp,↓vmd,seval]
  cases hwb : wb
  case' false => (
   have hwp : True := trivial
   simp only [vmp,↓vmd,seval]
   have hc := break_c Y c d hc0 (by omega) (by omega) (by omega) (by omega)
   rw [hl] at hc
   refine onC_fr' hc [0] (by simp) (by simp only [kpp,seval]) rfl rfl ?_
   rintro ⟨Z, hZ⟩
   refine ⟨by simp, ?_⟩
   (first | apply envO | apply envQ); simp only [vmp,↓vmd,seval]; rfl
   simp only [vmp,↓vmd,seval]
   replace hP := hP.trans (hZ.mono (by omega) (by omega))
   replace hL := lft_perm hL hZ (by omega) (by omega) (by omega) (by omega) (by omega)
   replace hl := hP.len
   clear hZ
   generalize Z = Y at *
   generalize IntKind.wrap .i64 (L - 1) = L at *
   have hc := pivot_c Y c d hc0 (by omega) (by omega) (by omega)
   rw [hl] at hc
   refine onC_fe hc [0] (by simp) (by simp only [kpp,seval]) rfl rfl ?_
   rintro ⟨⟨p, h⟩, hp1, hp2⟩
   simp only at hp1 hp2
   refine ⟨by simp, ?_⟩
   (first | apply envO | apply envQ); simp only [vmp,↓vmd,seval]; rfl
   simp only [vmp,↓vmd,seval]
   by_cases h3 : h = 2
   case' pos => (
    refine onB_pos h3 ?_
    (first | apply envO | apply envQ); simp only [h3, vmp,↓vmd,seval]; rfl
    simp only [h3, vmp,↓vmd,seval]
    have hc := rev_c Y c d hc0 (by omega) (by omega) (by omega)
    rw [hl] at hc
    refine onC_fr' hc [0] (by simp) (by simp only [kpp,seval]) rfl rfl ?_
    rintro ⟨Z, hZ⟩
    refine ⟨by simp, ?_⟩
    have w1 := w (d - 1) (by omega) (by omega)
    have w2 := w (p - c) (by omega) (by omega)
    have w3 := w (d - 1 - (p - c)) (by omega) (by omega)
    (first | apply envO | apply envQ); simp only [w1, w2, w3, vmp,↓vmd,seval]; rfl
    simp only [w1, w2, w3, vmp,↓vmd,seval]
    replace hP := hP.trans (hZ.mono (by omega) (by omega))
    replace hL := lft_perm hL hZ (by omega) (by omega) (by omega) (by omega) (by omega)
    replace hl := hP.len
    clear hZ
    generalize Z = Y at *
    have hq1 : c ≤ d - 1 - (p - c) := by omega
    have hq2 : d - 1 - (p - c) < d := by omega
    clear w1 w2 w3 hp1 hp2
    generalize d - 1 - (p - c) = p at *)
   case' neg => (
    refine onB_neg h3 ?_
    (first | apply envO | apply envQ); simp only [h3, vmp,↓vmd,seval]; rfl
    simp only [h3, vmp,↓vmd,seval]
    have hq1 := hp1
    have hq2 := hp2))
  case' true => (
   cases hwp : wp
   all_goals simp only [vmp,↓vmd,seval]
   case' false => (
    have hc := pivot_c Y c d hc0 (by omega) (by omega) (by omega)
    rw [hl] at hc
    refine onC_fe hc [0] (by simp) (by simp only [kpp,seval]) rfl rfl ?_
    rintro ⟨⟨p, h⟩, hp1, hp2⟩
    simp only at hp1 hp2
    refine ⟨by simp, ?_⟩
    (first | apply envO | apply envQ); simp only [vmp,↓vmd,seval]; rfl
    simp only [vmp,↓vmd,seval]
    by_cases h3 : h = 2
    case' pos => (
     refine onB_pos h3 ?_
     (first | apply envO | apply envQ); simp only [h3, vmp,↓vmd,seval]; rfl
     simp only [h3, vmp,↓vmd,seval]
     have hc := rev_c Y c d hc0 (by omega) (by omega) (by omega)
     rw [hl] at hc
     refine onC_fr' hc [0] (by simp) (by simp only [kpp,seval]) rfl rfl ?_
     rintro ⟨Z, hZ⟩
     refine ⟨by simp, ?_⟩
     have w1 := w (d - 1) (by omega) (by omega)
     have w2 := w (p - c) (by omega) (by omega)
     have w3 := w (d - 1 - (p - c)) (by omega) (by omega)
     (first | apply envO | apply envQ); simp only [w1, w2, w3, vmp,↓vmd,seval]; rfl
     simp only [w1, w2, w3, vmp,↓vmd,seval]
     replace hP := hP.trans (hZ.mono (by omega) (by omega))
     replace hL := lft_perm hL hZ (by omega) (by omega) (by omega) (by omega) (by omega)
     replace hl := hP.len
     clear hZ
     generalize Z = Y at *
     have hq1 : c ≤ d - 1 - (p - c) := by omega
     have hq2 : d - 1 - (p - c) < d := by omega
     clear w1 w2 w3 hp1 hp2
     generalize d - 1 - (p - c) = p at *)
    case' neg => (
     refine onB_neg h3 ?_
     (first | apply envO | apply envQ); simp only [h3, vmp,↓vmd,seval]; rfl
     simp only [h3, vmp,↓vmd,seval]
     have hq1 := hp1
     have hq2 := hp2))
   case' true => (
    have hc := pivot_c Y c d hc0 (by omega) (by omega) (by omega)
    rw [hl] at hc
    refine onC_fe hc [0] (by simp) (by simp only [kpp,seval]) rfl rfl ?_
    rintro ⟨⟨p, h⟩, hp1, hp2⟩
    simp only at hp1 hp2
    refine ⟨by simp, ?_⟩
    (first | apply envO | apply envQ); simp only [vmp,↓vmd,seval]; rfl
    simp only [vmp,↓vmd,seval]
    by_cases h3 : h = 2
    case' pos => (
     refine onB_pos h3 ?_
     (first | apply envO | apply envQ); simp only [h3, vmp,↓vmd,seval]; rfl
     simp only [h3, vmp,↓vmd,seval]
     have hc := rev_c Y c d hc0 (by omega) (by omega) (by omega)
     rw [hl] at hc
     refine onC_fr' hc [0] (by simp) (by simp only [kpp,seval]) rfl rfl ?_
     rintro ⟨Z, hZ⟩
     refine ⟨by simp, ?_⟩
     have w1 := w (d - 1) (by omega) (by omega)
     have w2 := w (p - c) (by omega) (by omega)
     have w3 := w (d - 1 - (p - c)) (by omega) (by omega)
     (first | apply envO | apply envQ); simp only [w1, w2, w3, vmp,↓vmd,seval]; rfl
     simp only [w1, w2, w3, vmp,↓vmd,seval]
     replace hP := hP.trans (hZ.mono (by omega) (by omega))
     replace hL := lft_perm hL hZ (by omega) (by omega) (by omega) (by omega) (by omega)
     replace hl := hP.len
     clear hZ
     generalize Z = Y at *
     have hq1 : c ≤ d - 1 - (p - c) := by omega
     have hq2 : d - 1 - (p - c) < d := by omega
     clear w1 w2 w3 hp1 hp2
     generalize d - 1 - (p - c) = p at *
     have hpre2 : 0 < c → ∀ q, c ≤ q → q < d → gA Y (c - 1) ≤ gA Y q := fun h0 q q1 q2 => by
      by_cases e : c = a
      ·have hx := (hP.out ha hb (k := c - 1) (by omega) (.inl (by omega)))
       rw [hx]
       rw [e]
       exact hP.all ha hb (p := fun v => gA X (a - 1) ≤ v) (hpre (by omega)) q (by omega) (by omega)
      ·exact hL.lm (c - 1) q (by omega) (by omega) q1 (by omega)
     have hc := partial_c Y c d hc0 (by omega) (by omega) (by omega) hpre2
     rw [hl] at hc
     refine onC_fe hc [0] (by simp) (by simp only [kpp,seval]) rfl rfl ?_
     rintro ⟨⟨z, Z⟩, hZ, hz⟩
     simp only at hZ hz
     refine ⟨by simp, ?_⟩
     (first | apply envO | apply envQ); simp only [vmp,↓vmd,seval]; rfl
     simp only [vmp,↓vmd,seval]
     clear hpre2
     replace hP := hP.trans (hZ.mono (by omega) (by omega))
     replace hL := lft_perm hL hZ (by omega) (by omega) (by omega) (by omega) (by omega)
     replace hl := hP.len
     cases z
     case' true => (
      simp only [vmp,↓vmd,seval]
      exact ⟨Z, ⟨hP, lft_end hL (hz rfl) (by omega) (by omega) (by omega)⟩, rfl⟩)
     simp only [vmp,↓vmd,seval]
     generalize Z = Y at *)
    case' neg => (
     refine onB_neg h3 ?_
     (first | apply envO | apply envQ); simp only [h3, vmp,↓vmd,seval]; rfl
     simp only [h3, vmp,↓vmd,seval]
     have hq1 := hp1
     have hq2 := hp2
     by_cases h7 : h = 1
     case' pos => (
      refine onB_pos h7 ?_
      (first | apply envO | apply envQ); simp only [h7, vmp,↓vmd,seval]; rfl
      simp only [h7, vmp,↓vmd,seval]
      have hpre2 : 0 < c → ∀ q, c ≤ q → q < d → gA Y (c - 1) ≤ gA Y q := fun h0 q q1 q2 => by
       by_cases e : c = a
       ·have hx := (hP.out ha hb (k := c - 1) (by omega) (.inl (by omega)))
        rw [hx]
        rw [e]
        exact hP.all ha hb (p := fun v => gA X (a - 1) ≤ v) (hpre (by omega)) q (by omega) (by omega)
       ·exact hL.lm (c - 1) q (by omega) (by omega) q1 (by omega)
      have hc := partial_c Y c d hc0 (by omega) (by omega) (by omega) hpre2
      rw [hl] at hc
      refine onC_fe hc [0] (by simp) (by simp only [kpp,seval]) rfl rfl ?_
      rintro ⟨⟨z, Z⟩, hZ, hz⟩
      simp only at hZ hz
      refine ⟨by simp, ?_⟩
      (first | apply envO | apply envQ); simp only [vmp,↓vmd,seval]; rfl
      simp only [vmp,↓vmd,seval]
      clear hpre2
      replace hP := hP.trans (hZ.mono (by omega) (by omega))
      replace hL := lft_perm hL hZ (by omega) (by omega) (by omega) (by omega) (by omega)
      replace hl := hP.len
      cases z
      case' true => (
       simp only [vmp,↓vmd,seval]
       exact ⟨Z, ⟨hP, lft_end hL (hz rfl) (by omega) (by omega) (by omega)⟩, rfl⟩)
      simp only [vmp,↓vmd,seval]
      generalize Z = Y at *)
     case' neg => (
      refine onB_neg h7 ?_
      (first | apply envO | apply envQ); simp only [h7, vmp,↓vmd,seval]; rfl
      simp only [h7, vmp,↓vmd,seval]))))
  all_goals (
   have hpre2 : 0 < c → ∀ q, c ≤ q → q < d → gA Y (c - 1) ≤ gA Y q := fun h0 q q1 q2 => by
    by_cases e : c = a
    ·have hx := (hP.out ha hb (k := c - 1) (by omega) (.inl (by omega)))
     rw [hx]
     rw [e]
     exact hP.all ha hb (p := fun v => gA X (a - 1) ≤ v) (hpre (by omega)) q (by omega) (by omega)
    ·exact hL.lm (c - 1) q (by omega) (by omega) q1 (by omega)
   by_cases h4 : 0 < c
   case' pos => (
    have r1 := rI_at (X := Y) (i := c - 1) (by omega) (by omega)
    have r2 := rI_at (X := Y) (i := p) (by omega) (by omega)
    have w1 := w (c - 1) (by omega) (by omega)
    have b1 : 0 ≤ c - 1 := by omega
    have b2 : c - 1 < (X.length : Int) := by omega
    have b3 : 0 ≤ p := by omega
    have b4 : p < (X.length : Int) := by omega
    refine onB_pos h4 ?_
    (first | apply envO | apply envQ); simp only [h4, vmp,↓vmd,seval]; rfl
    simp only [h4, r1, r2, w1, b1, b2, b3, b4, vmp,↓vmd,seval]
    refine onC_q (less_q _ _) rfl ?_
    by_cases h5 : gA Y (c - 1) < gA Y p
    case' neg => (
     rw [decide_eq_false h5]
     (first | apply envO | apply envQ); simp only [vmp,↓vmd,seval]; rfl
     simp only [vmp,↓vmd,seval]
     have hc := peq_c Y c d p hc0 (by omega) (by omega) hq1 hq2 (fun q q1 q2 => Int.le_trans (by omega) (hpre2 h4 q q1 q2))
     rw [hl] at hc
     refine onC_fe hc [0] (by simp) (by simp only [kpp,seval]) rfl rfl ?_
     rintro ⟨⟨Z, m⟩, hZ, m1, m2, m3, m4⟩
     simp only at hZ m1 m2 m3 m4
     refine ⟨by simp, ?_⟩
     (first | apply envO | apply envQ); simp only [vmp,↓vmd,seval]; rfl
     simp only [vmp,↓vmd,seval]
     refine onBk_to (m, d, L, wb, wp, Z) [0] (by simp) rfl (by simp only; omega) ⟨by simp only; omega, m2, hd1, hP.trans (hZ.mono (by omega) (by omega)), lft_same (lft_perm hL hZ (by omega) (by omega) (by omega) (by omega) (by omega)) m3 m4 (by omega) (by omega) (by omega) (by omega)⟩ (by simp only [hwb, hwp, kpp,seval]) (by simp only [kpp,seval]))
    rw [decide_eq_true h5]
    (first | apply envO | apply envQ); simp only [vmp,↓vmd,seval]; rfl
    simp only [vmp,↓vmd,seval])
   case' neg => (
    refine onB_neg h4 ?_
    (first | apply envO | apply envQ); simp only [h4, vmp,↓vmd,seval]; rfl
    simp only [h4, vmp,↓vmd,seval])
   all_goals (
    have hc := part_c Y c d p hc0 (by omega) (by omega) hq1 hq2
    rw [hl] at hc
    refine onC_fe hc [0] (by simp) (by simp only [kpp,seval]) rfl rfl ?_
    rintro ⟨⟨Z, m, al⟩, hZ, m1, m2, hM⟩
    simp only at hZ m1 m2 hM
    have hzl := hZ.len
    refine ⟨by simp, ?_⟩
    have w1 := w (m - c) (by omega) (by omega)
    have w2 := w (d - m) (by omega) (by omega)
    have w3 := w (m + 1) (by omega) (by omega)
    simp only [w1, w2, vmp,↓vmd,seval]
    replace hP := hP.trans (hZ.mono (by omega) (by omega))
    replace hL := lft_perm hL hZ (by omega) (by omega) (by omega) (by omega) (by omega)
    replace hl := hP.len
    refine onB_dec (fun h6 => ?_) (fun h6 => ?_)
    ·have hr := ih Z c m L hc0 m1 (by omega) (by omega) (by omega) (by omega) (fun h0 q q1 q2 => by
      have := hZ.out hc0 (by omega) (k := c - 1) (by omega) (.inl (by omega))
      rw [this]
      exact hZ.all hc0 (by omega) (p := fun v => gA Y (c - 1) ≤ v) (hpre2 h0) q q1 (by omega))
     rw [hl] at hr
     simp only [h6, w1, w2, w3, vmp,↓vmd,seval]
     refine onC_fr' hr [0] (by simp) (by simp only [kpp,seval]) rfl rfl ?_
     rintro ⟨W, hW1, hW2⟩
     refine ⟨by simp, ?_⟩
     simp only [w3, vmp,↓vmd,seval]
     have hM2 : Md c d m W := ⟨fun q q1 q2 => by
      rw [hW1.out hc0 (by omega) (k := m) (by omega) (.inr (by omega))]
      exact hW1.all hc0 (by omega) (p := fun v => v ≤ gA Z m) hM.1 q q1 q2, fun q q1 q2 => by
      rw [hW1.out hc0 (by omega) (k := m) (by omega) (.inr (by omega)), hW1.out hc0 (by omega) (k := q) (by omega) (.inr (by omega))]
      exact hM.2 q q1 q2⟩
     have hL2 : Lft a b (m + 1) d W := lft_left (lft_perm hL (hW1.mono (Int.le_refl _) (by omega)) (by omega) (by omega) (by omega) (by omega) (by omega)) hM2 hW2 (by omega) m1 m2 (by omega)
     refine onBk_to (m + 1, d, L, decide (IntKind.wrap .i64 ((d - c).tdiv 8) ≤ m - c), al, W) [0] (by simp) rfl (by simp only; omega) ⟨by simp only; omega, by simp only; omega, hd1, hP.trans (hW1.mono (by omega) (by omega)), hL2⟩ (by simp only [kpp,seval]) (by simp only [kpp,seval])
    ·have hr := ih Z (m + 1) d L (by omega) (by omega) (by omega) (by omega) (by omega) (by omega) (fun h0 q q1 q2 => by
      rw [show m + 1 - 1 = m by omega]
      exact hM.2 q (by omega) q2)
     rw [hl] at hr
     simp only [h6, w1, w2, w3, vmp,↓vmd,seval]
     refine onC_fr' hr [0] (by simp) (by simp only [kpp,seval]) rfl rfl ?_
     rintro ⟨W, hW1, hW2⟩
     refine ⟨by simp, ?_⟩
     simp only [vmp,↓vmd,seval]
     have hM2 : Md c d m W := ⟨fun q q1 q2 => by
      rw [hW1.out (by omega) (by omega) (k := m) (by omega) (.inl (by omega)), hW1.out (by omega) (by omega) (k := q) (by omega) (.inl (by omega))]
      exact hM.1 q q1 q2, fun q q1 q2 => by
      rw [hW1.out (by omega) (by omega) (k := m) (by omega) (.inl (by omega))]
      exact hW1.all (by omega) (by omega) (p := fun v => gA Z m ≤ v) (fun k k1 k2 => hM.2 k (by omega) k2) q (by omega) q2⟩
     have hL2 : Lft a b c m W := lft_right (lft_perm hL (hW1.mono (by omega) (Int.le_refl _)) (by omega) (by omega) (by omega) (by omega) (by omega)) hM2 hW2 (by omega) m1 m2 (by omega)
     refine onBk_to (c, m, L, decide (IntKind.wrap .i64 ((d - c).tdiv 8) ≤ d - m), al, W) [0] (by simp) rfl (by simp only; omega) ⟨hc1, by simp only; omega, by simp only; omega, hP.trans (hW1.mono (by omega) (by omega)), hL2⟩ (by simp only [kpp,seval]) (by simp only [kpp,seval])))
 ·rintro r H' ⟨rfl, Y, hY, rfl⟩
  exact ⟨[0], _, _, by simp, rfl, (by simp only [kpp,seval]), (by simp only [kpp,seval]), rfl, ⟨Y, hY⟩, rfl⟩
theorem sort_c (X : List Int) (hX : X.length < 200) : CallA Try.prog 15 [.rsl 0 0 X.length] [rI X]
  fun s H' => s = .tup [] ∧ ∃ Y : {Y // Pm 0 X.length X Y ∧ Sd 0 X.length Y}, H' = [rI Y.1] := by
 refine CallA.weak (K := fun s H' => s = .tup [] ∧ ∃ Y, (Pm 0 X.length X Y ∧ Sd 0 X.length Y) ∧ H' = [rI Y]) ?_ ?_
 ·refine k15.a (by simp) ?_
  unfold c15
  obtain ⟨t, ht⟩ : ∃ t, lenT[X.length]? = some t := ⟨_, List.getElem?_eq_getElem (show X.length < lenT.length by simp; omega)⟩
  have w1 : IntKind.wrap .u64 (X.length : Int) = X.length := by simp [IntKind.wrap, IntKind.bits, IntKind.signed]; omega
  simp only [w1, vmp,↓vmd,seval]
  refine onIf_intro fun _ => ?_
  simp only [w1, vmp,↓vmd,seval]
  refine onC_q (len_q X.length (by omega) t ht) rfl ?_
  (first | apply envO | apply envQ); simp only [vmp,↓vmd,seval]; rfl
  simp only [vmp,↓vmd,seval]
  refine onC_fr' (pdq_c X.length X 0 X.length t.toNat (by omega) (by omega) (by omega) (by omega) (by omega) (by omega) (fun h => by omega)) [0] (by simp) (by simp only [kpp,seval]) rfl rfl ?_
  rintro ⟨Z, hZ1, hZ2⟩
  refine ⟨by simp, ?_⟩
  simp only [vmp,↓vmd,seval]
  exact ⟨Z, ⟨hZ1, hZ2⟩, rfl⟩
 ·rintro r H' ⟨rfl, Y, hY, rfl⟩
  exact ⟨[0], _, _, by simp, rfl, (by simp only [kpp,seval]), (by simp only [kpp,seval]), rfl, ⟨Y, hY⟩, rfl⟩
end Go.Proofs.Ytalhohfhjniapaa.W
