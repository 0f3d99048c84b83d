/-
  Sorting by heaps. No condition but on sizes.
-/
import Derived.Test.YtalhohfhjniapaaSrt2
namespace Go.Proofs.Ytalhohfhjniapaa.W
open Go Go.Vm Go.Proofs
set_option maxRecDepth 100000
set_option linter.unusedSimpArgs false
set_option maxHeartbeats 4000000
/-! slices.siftDownOrdered[int] -/
def c35_0 : AC :=
 (.block 1
 (.seq (.reg [oo 11 (.mov (.s 8)),
 oo 12 (.bin .mul (nI 2) (.s 11)),
 oo 13 (.bin .add (.s 12) (nI 1)),
 oo 9 (.mov (.s 13))])
 (.seq (.seq (.reg [oo 14 (.mov (.s 9)),
 oo 15 (.mov (.s 2)),
 oo 16 (.bin .geq (.s 14) (.s 15))])
 (.cond (.s 16)
 (.exit 0)
 .skip))
 (.seq (.seq (.regq [oo 17 (.mov (.s 9)),
 oo 18 (.bin .add (.s 17) (nI 1)),
 oo 19 (.mov (.s 2)),
 oo 20 (.bin .lss (.s 18) (.s 19)),
 oo 21 (.mov (.s 20)),
 og 22 21 true (.mov (.s 0)),
 og 23 21 true (.mov (.s 3)),
 og 24 21 true (.mov (.s 9)),
 og 25 21 true (.bin .add (.s 23) (.s 24)),
 og 26 21 true (.idxA 1 (.s 22) (.s 25)),
 og 27 21 true (.load false 1 (.s 26)),
 og 28 21 true (.mov (.s 0)),
 og 29 21 true (.mov (.s 3)),
 og 30 21 true (.mov (.s 9)),
 og 31 21 true (.bin .add (.s 29) (.s 30)),
 og 32 21 true (.bin .add (.s 31) (nI 1)),
 og 33 21 true (.idxA 1 (.s 28) (.s 32)),
 og 34 21 true (.load false 1 (.s 33))]
[og 35 21 true (.call 30 [(.s 27), (.s 34)]),
 oo 36 (.pick (.s 21) (.s 35) (nB false))])
 (.cond (.s 36)
 (.reg [oo 37 (.mov (.s 9)),
 oo 38 (.bin .add (.s 37) (nI 1)),
 oo 9 (.mov (.s 38))])
 .skip))
 (.seq (.seq (.regq [oo 39 (.mov (.s 0)),
 oo 40 (.mov (.s 3)),
 oo 41 (.mov (.s 8)),
 oo 42 (.bin .add (.s 40) (.s 41)),
 oo 43 (.idxA 1 (.s 39) (.s 42)),
 oo 44 (.load false 1 (.s 43)),
 oo 45 (.mov (.s 0)),
 oo 46 (.mov (.s 3)),
 oo 47 (.mov (.s 9)),
 oo 48 (.bin .add (.s 46) (.s 47)),
 oo 49 (.idxA 1 (.s 45) (.s 48)),
 oo 50 (.load false 1 (.s 49))]
[oo 51 (.call 30 [(.s 44), (.s 50)]),
 oo 52 (.un .not (.s 51))])
 (.cond (.s 52)
 .ret
 .skip))
 (.seq (.regq [oo 53 (.mov (.s 0)),
 oo 54 (.mov (.s 3)),
 oo 55 (.mov (.s 8)),
 oo 56 (.bin .add (.s 54) (.s 55)),
 oo 57 (.mov (.s 0)),
 oo 58 (.mov (.s 3)),
 oo 59 (.mov (.s 9)),
 oo 60 (.bin .add (.s 58) (.s 59)),
 oo 61 (.mov (.s 0)),
 oo 62 (.mov (.s 3)),
 oo 63 (.mov (.s 9)),
 oo 64 (.bin .add (.s 62) (.s 63)),
 oo 65 (.idxA 1 (.s 61) (.s 64)),
 oo 66 (.load false 1 (.s 65)),
 oo 67 (.mov (.s 0)),
 oo 68 (.mov (.s 3)),
 oo 69 (.mov (.s 8)),
 oo 70 (.bin .add (.s 68) (.s 69)),
 oo 71 (.idxA 1 (.s 67) (.s 70)),
 oo 72 (.load false 1 (.s 71)),
 oo 73 (.idxA 1 (.s 53) (.s 56))]
[⟨none, none, .store 1 (.s 73) (.s 66)⟩,
 oo 74 (.idxA 1 (.s 57) (.s 60)),
⟨none, none, .store 1 (.s 74) (.s 72)⟩])
 (.reg [oo 75 (.mov (.s 9)),
 oo 8 (.mov (.s 75))])))))))
def c35 : AC :=
 (.seq (.reg [oo 10 (.mov (.s 1)),
 oo 8 (.mov (.s 10))])
 (.block 0
 (.loop c35_0)))
theorem k35 : OkF 35 Try.f35 c35 [] 76 := ⟨Try.func35, by kernel_rfl, by kernel_rfl, by kernel_rfl, Try.ntmps35⟩
/-! slices.heapSortOrdered[int] -/
def c25_0 : AC :=
 (.seq (.seq (.reg [oo 29 (.mov (.s 10)),
 oo 30 (.bin .geq (.s 29) (nI 0))])
 (.cond (.s 30)
 .skip
 (.exit 2)))
 (.seq (.block 3
 (.seq (.regq [oo 33 (.mov (.s 0)),
 oo 34 (.mov (.s 6)),
 oo 35 (.mov (.s 0)),
 oo 36 (.mov (.s 6)),
 oo 37 (.mov (.s 10)),
 oo 38 (.bin .add (.s 36) (.s 37)),
 oo 39 (.mov (.s 0)),
 oo 40 (.mov (.s 6)),
 oo 41 (.mov (.s 10)),
 oo 42 (.bin .add (.s 40) (.s 41)),
 oo 43 (.idxA 1 (.s 39) (.s 42)),
 oo 44 (.load false 1 (.s 43)),
 oo 45 (.mov (.s 0)),
 oo 46 (.mov (.s 6)),
 oo 47 (.idxA 1 (.s 45) (.s 46)),
 oo 48 (.load false 1 (.s 47)),
 oo 49 (.idxA 1 (.s 33) (.s 34))]
[⟨none, none, .store 1 (.s 49) (.s 44)⟩,
 oo 50 (.idxA 1 (.s 35) (.s 38)),
⟨none, none, .store 1 (.s 50) (.s 48)⟩])
 (.reg [oo 51 (.mov (.s 0)),
 oo 52 (.mov (.s 7)),
 oo 53 (.mov (.s 10)),
 oo 54 (.mov (.s 6)),
 oo 55 (.call 35 [(.s 51), (.s 52), (.s 53), (.s 54)])])))
 (.reg [oo 31 (.mov (.s 10)),
 oo 32 (.bin .sub (.s 31) (nI 1)),
 oo 10 (.mov (.s 32))])))
def c25_1 : AC :=
 (.seq (.reg [oo 27 (.mov (.s 8)),
 oo 28 (.bin .sub (.s 27) (nI 1)),
 oo 10 (.mov (.s 28))])
 (.block 2
 (.loop c25_0)))
def c25_2 : AC :=
 (.seq (.seq (.reg [oo 18 (.mov (.s 9)),
 oo 19 (.bin .geq (.s 18) (nI 0))])
 (.cond (.s 19)
 .skip
 (.exit 0)))
 (.seq (.block 1
 (.reg [oo 22 (.mov (.s 0)),
 oo 23 (.mov (.s 9)),
 oo 24 (.mov (.s 8)),
 oo 25 (.mov (.s 6)),
 oo 26 (.call 35 [(.s 22), (.s 23), (.s 24), (.s 25)])]))
 (.reg [oo 20 (.mov (.s 9)),
 oo 21 (.bin .sub (.s 20) (nI 1)),
 oo 9 (.mov (.s 21))])))
def c25 : AC :=
 (.seq (.reg [oo 11 (.mov (.s 1)),
 oo 6 (.mov (.s 11))])
 (.seq (.reg [oo 7 (.mov (nI 0))])
 (.seq (.reg [oo 12 (.mov (.s 2)),
 oo 13 (.mov (.s 1)),
 oo 14 (.bin .sub (.s 12) (.s 13)),
 oo 8 (.mov (.s 14))])
 (.seq (.seq (.reg [oo 15 (.mov (.s 8)),
 oo 16 (.bin .sub (.s 15) (nI 1)),
 oo 17 (.bin .quo (.s 16) (nI 2)),
 oo 9 (.mov (.s 17))])
 (.block 0
 (.loop c25_2)))
 c25_1))))
theorem k25 : OkF 25 Try.f25 c25 [] 56 := ⟨Try.func25, by kernel_rfl, by kernel_rfl, by kernel_rfl, Try.ntmps25⟩
theorem sift_c (X : List Int) (lo hi f : Int) (hf : 0 ≤ f) (h0 : 0 ≤ lo) (hlo : lo ≤ hi) (hh : f + hi ≤ X.length) (hX : X.length ≤ 1000) (hH : Hp f (lo + 1) hi X) : CallA Try.prog 35 [.rsl 0 0 X.length, .pure (I lo), .pure (I hi), .pure (I f)] [rI X]
  fun s H' => s = .tup [] ∧ ∃ Y : {Y // Pm f (f + hi) X Y ∧ Hp f lo hi Y}, H' = [rI Y.1] := by
 refine CallA.weak (K := fun s H' => s = .tup [] ∧ ∃ Y, (Pm f (f + hi) X Y ∧ Hp f lo hi Y) ∧ H' = [rI Y]) ?_ ?_
 ·refine k35.a (by simp) ?_
  unfold c35
  have w := fun (k : Int) (h1 : -5000 ≤ k) (h2 : k ≤ 5000) => wrap_id (n := k) (by omega) (by omega)
  simp only [vmp,↓vmd,seval]
  refine loop_at (T := Int × List Int) (fun z => [(8, .pure (I z.1)), (0, .rsl 0 0 X.length), (2, .pure (I hi)), (3, .pure (I f))]) (fun z => [rI z.2]) (fun z => lo ≤ z.1 ∧ (z.1 < hi ∨ z.1 = lo) ∧ Pm f (f + hi) X z.2 ∧ Hr f lo hi z.1 z.2) (fun z => (hi - z.1).toNat)
   (lo, X) [0] (by simp) rfl ⟨by simp, .inr rfl, .refl, hr_init hH h0⟩ (by simp only [kpp,seval]) (by simp only [kpp,seval]) ?_
  rintro ⟨r, Z⟩ ⟨hr1, hr2, hQ, hI⟩
  simp only at hr1 hr2 hQ hI
  have hl := hQ.len
  unfold c35_0
  have wa := w (2 * r) (by omega) (by omega)
  have wb := w (2 * r + 1) (by omega) (by omega)
  simp only [wa, wb, vmp,↓vmd,seval]
  refine onB_dec (fun h1 => ?_) (fun h1 => ?_)
  ·simp only [h1, vmp,↓vmd,seval]
   exact ⟨Z, ⟨hQ, hr_end hI fun d k1 k2 => by omega⟩, rfl⟩
  ·have wc := w (2 * r + 1 + 1) (by omega) (by omega)
   simp only [h1, wc, vmp,↓vmd,seval]
   by_cases h2 : 2 * r + 1 + 1 < hi
   ·have q1 := rI_at (X := Z) (i := f + (2 * r + 1)) (by omega) (by omega)
    have q2 := rI_at (X := Z) (i := f + (2 * r + 1) + 1) (by omega) (by omega)
    have v1 := w (f + (2 * r + 1)) (by omega) (by omega)
    have v2 := w (f + (2 * r + 1) + 1) (by omega) (by omega)
    have d1 : 0 ≤ f + (2 * r + 1) := by omega
    have d2 : f + (2 * r + 1) < (X.length : Int) := by omega
    have d3 : 0 ≤ f + (2 * r + 1) + 1 := by omega
    have d4 : f + (2 * r + 1) + 1 < (X.length : Int) := by omega
    refine onB_pos h2 ?_
    (first | apply envO | apply envQ); simp only [h2, wc, vmp,↓vmd,seval]; rfl
    simp only [h2, q1, q2, v1, v2, d1, d2, d3, d4, vmp,↓vmd,seval]
    refine onC_q (less_q _ _) rfl ?_
    by_cases h3 : gA Z (f + (2 * r + 1)) < gA Z (f + (2 * r + 1) + 1)
    ·rw [decide_eq_true h3]
     (first | apply envO | apply envQ); simp only [vmp,↓vmd,seval]; rfl
     simp only [wc, vmp,↓vmd,seval]
     have r1 := rI_at (X := Z) (i := f + r) (by omega) (by omega)
     have r2 := rI_at (X := Z) (i := f + (2 * r + 1 + 1)) (by omega) (by omega)
     have w1 := w (f + r) (by omega) (by omega)
     have w2 := w (f + (2 * r + 1 + 1)) (by omega) (by omega)
     have b1 : 0 ≤ f + r := by omega
     have b2 : f + r < (X.length : Int) := by omega
     have b3 : 0 ≤ f + (2 * r + 1 + 1) := by omega
     have b4 : f + (2 * r + 1 + 1) < (X.length : Int) := by omega
     have hmax : ∀ d, (d = 2 * r + 1 ∨ d = 2 * r + 2) → d < hi → gA Z (f + d) ≤ gA Z (f + (2 * r + 1 + 1)) := by
      rintro d (rfl | rfl) _
      ·rw [show f + (2 * r + 1 + 1) = f + (2 * r + 1) + 1 by omega]; omega
      ·rw [show f + (2 * r + 1 + 1) = f + (2 * r + 2) by omega]; exact Int.le_refl _
     simp only [r1, r2, w1, w2, b1, b2, b3, b4, vmp,↓vmd,seval]
     refine onC_q (less_q _ _) rfl ?_
     by_cases h4 : gA Z (f + r) < gA Z (f + (2 * r + 1 + 1))
     ·rw [decide_eq_true h4]
      have r3 := rI_at2 (X := Z) (n := (f + r).toNat) (v := gA Z (f + (2 * r + 1 + 1))) (i := f + (2 * r + 1 + 1)) (by omega) (by omega)
      have hs : (Z.set (f + r).toNat (gA Z (f + (2 * r + 1 + 1)))).set (f + (2 * r + 1 + 1)).toNat (gA Z (f + r)) = swp Z (f + r) (f + (2 * r + 1 + 1)) := rfl
      (first | apply envO | apply envQ); simp only [vmp,↓vmd,seval]; rfl
      simp only [r1, r2, w1, w2, b1, b2, b3, b4, rI_set, r3, hs, vmp,↓vmd,seval]
      refine onBk_to (2 * r + 1 + 1, swp Z (f + r) (f + (2 * r + 1 + 1))) [0] (by simp) rfl (by simp only; omega) ⟨by simp only; omega, by simp only; omega, .swap hQ (by omega) (by omega) (by omega) (by omega), hr_step hI hf h0 hr1 (by omega) (by omega) (by omega) hmax h4⟩ (by simp only [kpp,seval]) (by simp only [kpp,seval])
     ·rw [decide_eq_false h4]
      (first | apply envO | apply envQ); simp only [vmp,↓vmd,seval]; rfl
      simp only [vmp,↓vmd,seval]
      exact ⟨Z, ⟨hQ, hr_end hI fun d k1 k2 => Int.le_trans (hmax d k1 k2) (by omega)⟩, rfl⟩
    ·rw [decide_eq_false h3]
     (first | apply envO | apply envQ); simp only [vmp,↓vmd,seval]; rfl
     simp only [vmp,↓vmd,seval]
     have r1 := rI_at (X := Z) (i := f + r) (by omega) (by omega)
     have r2 := rI_at (X := Z) (i := f + (2 * r + 1)) (by omega) (by omega)
     have w1 := w (f + r) (by omega) (by omega)
     have w2 := w (f + (2 * r + 1)) (by omega) (by omega)
     have b1 : 0 ≤ f + r := by omega
     have b2 : f + r < (X.length : Int) := by omega
     have b3 : 0 ≤ f + (2 * r + 1) := by omega
     have b4 : f + (2 * r + 1) < (X.length : Int) := by omega
     have hmax : ∀ d, (d = 2 * r + 1 ∨ d = 2 * r + 2) → d < hi → gA Z (f + d) ≤ gA Z (f + (2 * r + 1)) := by
      rintro d (rfl | rfl) _
      ·exact Int.le_refl _
      ·rw [show f + (2 * r + 2) = f + (2 * r + 1) + 1 by omega]; omega
     simp only [r1, r2, w1, w2, b1, b2, b3, b4, vmp,↓vmd,seval]
     refine onC_q (less_q _ _) rfl ?_
     by_cases h4 : gA Z (f + r) < gA Z (f + (2 * r + 1))
     ·rw [decide_eq_true h4]
      have r3 := rI_at2 (X := Z) (n := (f + r).toNat) (v := gA Z (f + (2 * r + 1))) (i := f + (2 * r + 1)) (by omega) (by omega)
      have hs : (Z.set (f + r).toNat (gA Z (f + (2 * r + 1)))).set (f + (2 * r + 1)).toNat (gA Z (f + r)) = swp Z (f + r) (f + (2 * r + 1)) := rfl
      (first | apply envO | apply envQ); simp only [vmp,↓vmd,seval]; rfl
      simp only [r1, r2, w1, w2, b1, b2, b3, b4, rI_set, r3, hs, vmp,↓vmd,seval]
      refine onBk_to (2 * r + 1, swp Z (f + r) (f + (2 * r + 1))) [0] (by simp) rfl (by simp only; omega) ⟨by simp only; omega, by simp only; omega, .swap hQ (by omega) (by omega) (by omega) (by omega), hr_step hI hf h0 hr1 (by omega) (by omega) (by omega) hmax h4⟩ (by simp only [kpp,seval]) (by simp only [kpp,seval])
     ·rw [decide_eq_false h4]
      (first | apply envO | apply envQ); simp only [vmp,↓vmd,seval]; rfl
      simp only [vmp,↓vmd,seval]
      exact ⟨Z, ⟨hQ, hr_end hI fun d k1 k2 => Int.le_trans (hmax d k1 k2) (by omega)⟩, rfl⟩
   ·refine onB_neg h2 ?_
    (first | apply envO | apply envQ); simp only [h2, vmp,↓vmd,seval]; rfl
    simp only [h2, vmp,↓vmd,seval]
    have r1 := rI_at (X := Z) (i := f + r) (by omega) (by omega)
    have r2 := rI_at (X := Z) (i := f + (2 * r + 1)) (by omega) (by omega)
    have w1 := w (f + r) (by omega) (by omega)
    have w2 := w (f + (2 * r + 1)) (by omega) (by omega)
    have b1 : 0 ≤ f + r := by omega
    have b2 : f + r < (X.length : Int) := by omega
    have b3 : 0 ≤ f + (2 * r + 1) := by omega
    have b4 : f + (2 * r + 1) < (X.length : Int) := by omega
    have hmax : ∀ d, (d = 2 * r + 1 ∨ d = 2 * r + 2) → d < hi → gA Z (f + d) ≤ gA Z (f + (2 * r + 1)) := by
     rintro d (rfl | rfl) k
     ·exact Int.le_refl _
     ·omega
    simp only [r1, r2, w1, w2, b1, b2, b3, b4, vmp,↓vmd,seval]
    refine onC_q (less_q _ _) rfl ?_
    by_cases h4 : gA Z (f + r) < gA Z (f + (2 * r + 1))
    ·rw [decide_eq_true h4]
     have r3 := rI_at2 (X := Z) (n := (f + r).toNat) (v := gA Z (f + (2 * r + 1))) (i := f + (2 * r + 1)) (by omega) (by omega)
     have hs : (Z.set (f + r).toNat (gA Z (f + (2 * r + 1)))).set (f + (2 * r + 1)).toNat (gA Z (f + r)) = swp Z (f + r) (f + (2 * r + 1)) := rfl
     (first | apply envO | apply envQ); simp only [vmp,↓vmd,seval]; rfl
     simp only [r1, r2, w1, w2, b1, b2, b3, b4, rI_set, r3, hs, vmp,↓vmd,seval]
     refine onBk_to (2 * r + 1, swp Z (f + r) (f + (2 * r + 1))) [0] (by simp) rfl (by simp only; omega) ⟨by simp only; omega, by simp only; omega, .swap hQ (by omega) (by omega) (by omega) (by omega), hr_step hI hf h0 hr1 (by omega) (by omega) (by omega) hmax h4⟩ (by simp only [kpp,seval]) (by simp only [kpp,seval])
    ·rw [decide_eq_false h4]
     (first | apply envO | apply envQ); simp only [vmp,↓vmd,seval]; rfl
     simp only [vmp,↓vmd,seval]
     exact ⟨Z, ⟨hQ, hr_end hI fun d k1 k2 => Int.le_trans (hmax d k1 k2) (by omega)⟩, rfl⟩
 ·rintro r H' ⟨rfl, Y, hY, rfl⟩
  exact ⟨[0], _, _, by simp, rfl, (by simp only [kpp,seval]), (by simp only [kpp,seval]), rfl, ⟨Y, hY⟩, rfl⟩
theorem heap_c (X : List Int) (a b : Int) (ha : 0 ≤ a) (hab : a < b) (hb : b ≤ X.length) (hX : X.length ≤ 1000) : CallA Try.prog 25 [.rsl 0 0 X.length, .pure (I a), .pure (I b)] [rI X]
  fun s H' => s = .tup [] ∧ ∃ Y : {Y // Pm a b X Y ∧ Sd a b Y}, H' = [rI Y.1] := by
 refine CallA.weak (K := fun s H' => s = .tup [] ∧ ∃ Y, (Pm a b X Y ∧ Sd a b Y) ∧ H' = [rI Y]) ?_ ?_
 ·refine k25.a (by simp) ?_
  unfold c25
  have w := fun (k : Int) (h1 : -5000 ≤ k) (h2 : k ≤ 5000) => wrap_id (n := k) (by omega) (by omega)
  have e1 := w (b - a) (by omega) (by omega)
  obtain ⟨n, hn⟩ : ∃ n, b - a = n := ⟨_, rfl⟩
  rw [hn] at e1
  have e2 := w (n - 1) (by omega) (by omega)
  have e3 : IntKind.wrap .i64 ((n - 1).tdiv 2) = (n - 1) / 2 := by
   rw [Int.tdiv_eq_ediv_of_nonneg (by omega)]
   exact w _ (by omega) (by omega)
  simp only [hn, e1, e2, e3, vmp,↓vmd,seval]
  refine loop_at (T := Int × List Int) (fun z => [(9, .pure (I z.1)), (0, .rsl 0 0 X.length), (6, .pure (I a)), (7, .pure (I 0)), (8, .pure (I n))]) (fun z => [rI z.2]) (fun z => -1 ≤ z.1 ∧ z.1 ≤ (n - 1) / 2 ∧ Pm a b X z.2 ∧ Hp a (z.1 + 1) n z.2) (fun z => (z.1 + 1).toNat)
   ((n - 1) / 2, X) [0] (by simp) rfl ⟨by simp only; omega, by simp, .refl, fun p c h1 h2 h3 => by simp only at h1; omega⟩ (by simp only [kpp,seval]) (by simp only [kpp,seval]) ?_
  rintro ⟨i, Y⟩ ⟨hi1, hi2, hP, hH⟩
  simp only at hi1 hi2 hP hH
  have hl := hP.len
  unfold c25_2
  simp only [vmp,↓vmd,seval]
  refine onB_dec (fun h1 => ?_) (fun h1 => ?_)
  ·have hc := sift_c Y i n a ha (by omega) (by omega) (by omega) (by omega) hH
   rw [hl] at hc
   have w1 := w (i - 1) (by omega) (by omega)
   (first | apply envO | apply envQ); simp only [h1, vmp,↓vmd,seval]; rfl
   simp only [h1, vmp,↓vmd,seval]
   refine onC_fr' hc [0] (by simp) (by simp only [kpp,seval]) rfl rfl ?_
   rintro ⟨Z, hZ1, hZ2⟩
   refine ⟨by simp, ?_⟩
   (first | apply envO | apply envQ); simp only [vmp,↓vmd,seval]; rfl
   simp only [w1, vmp,↓vmd,seval]
   refine onBk_to (i - 1, Z) [0] (by simp) rfl (by simp only; omega) ⟨by simp only; omega, by simp only; omega, hP.trans (hZ1.mono (Int.le_refl _) (by omega)), by simp only; rw [show i - 1 + 1 = i by omega]; exact hZ2⟩ (by simp only [kpp,seval]) (by simp only [kpp,seval])
  ·simp only [h1, vmp,↓vmd,seval]
   unfold c25_1
   simp only [e2, vmp,↓vmd,seval]
   have hH0 : Hp a 0 n Y := by rw [show (0 : Int) = i + 1 by omega]; exact hH
   refine loop_at (T := Int × List Int) (fun z => [(10, .pure (I z.1)), (0, .rsl 0 0 X.length), (6, .pure (I a)), (7, .pure (I 0)), (8, .pure (I n))]) (fun z => [rI z.2]) (fun z => -1 ≤ z.1 ∧ z.1 < n ∧ Pm a b X z.2 ∧ Po a z.1 n z.2) (fun z => (z.1 + 1).toNat)
    (n - 1, Y) [0] (by simp) rfl ⟨by simp only; omega, by simp only; omega, hP, po_init hH0⟩ (by simp only [kpp,seval]) (by simp only [kpp,seval]) ?_
   clear hP hH hH0 hl h1 hi1 hi2
   rintro ⟨i, Y⟩ ⟨hi1, hi2, hP, hH⟩
   simp only at hi1 hi2 hP hH
   have hl := hP.len
   unfold c25_0
   simp only [vmp,↓vmd,seval]
   refine onB_dec (fun h1 => ?_) (fun h1 => ?_)
   ·have h1' : 0 ≤ i := h1
    obtain ⟨k1, k2, k3⟩ := po_swap hH ha h1' hi2 (by omega)
    have hc := sift_c (swp Y a (a + i)) 0 i a ha (by omega) h1' (by rw [swp_len]; omega) (by rw [swp_len]; omega) k1
    rw [swp_len, hl] at hc
    have r1 := rI_at (X := Y) (i := a) (by omega) (by omega)
    have r2 := rI_at (X := Y) (i := a + i) (by omega) (by omega)
    have r3 := rI_at2 (X := Y) (n := a.toNat) (v := gA Y (a + i)) (i := a + i) (by omega) (by omega)
    have w1 := w (a + i) (by omega) (by omega)
    have w2 := w (i - 1) (by omega) (by omega)
    have b1 : 0 ≤ a + i := by omega
    have b2 : a + i < (X.length : Int) := by omega
    have b3 : a < (X.length : Int) := by omega
    have hs : (Y.set a.toNat (gA Y (a + i))).set (a + i).toNat (gA Y a) = swp Y a (a + i) := rfl
    (first | apply envO | apply envQ); simp only [h1, vmp,↓vmd,seval]; rfl
    simp only [h1, ha, r1, r2, r3, w1, b1, b2, b3, rI_set, hs, vmp,↓vmd,seval]
    refine onC_fr' hc [0] (by simp) (by simp only [kpp,seval]) rfl rfl ?_
    rintro ⟨Z, hZ1, hZ2⟩
    refine ⟨by simp, ?_⟩
    (first | apply envO | apply envQ); simp only [vmp,↓vmd,seval]; rfl
    simp only [w2, vmp,↓vmd,seval]
    refine onBk_to (i - 1, Z) [0] (by simp) rfl (by simp only; omega) ⟨by simp only; omega, by simp only; omega, (hP.swap (by omega) (by omega) (by omega) (by omega)).trans (hZ1.mono (Int.le_refl _) (by omega)), po_next k2 k3 ha h1' hi2 (by rw [swp_len]; omega) hZ1 hZ2⟩ (by simp only [kpp,seval]) (by simp only [kpp,seval])
   ·obtain rfl : i = -1 := by omega
    have hS := po_end hH
    rw [show a + n = b by omega] at hS
    simp only [h1, vmp,↓vmd,seval]
    exact ⟨Y, ⟨hP, hS⟩, rfl⟩
 ·rintro r H' ⟨rfl, Y, hY, rfl⟩
  exact ⟨[0], _, _, by simp, rfl, (by simp only [kpp,seval]), (by simp only [kpp,seval]), rfl, ⟨Y, hY⟩, rfl⟩
end Go.Proofs.Ytalhohfhjniapaa.W
