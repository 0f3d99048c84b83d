/-
  Turning a row round; choosing what to part by. No condition but on sizes.
-/
import Derived.Test.YtalhohfhjniapaaSrt3
namespace Go.Proofs.Ytalhohfhjniapaa.W
open Go Go.Vm Go.Proofs
set_option maxRecDepth 100000
set_option linter.unusedSimpArgs false
set_option maxHeartbeats 4000000
/-! slices.reverseRangeOrdered[int] -/
def c28_0 : AC :=
 (.seq (.seq (.reg [oo 11 (.mov (.s 6)),
 oo 12 (.mov (.s 7)),
 oo 13 (.bin .lss (.s 11) (.s 12))])
 (.cond (.s 13)
 .skip
 (.exit 0)))
 (.block 1
 (.seq (.regq [oo 14 (.mov (.s 0)),
 oo 15 (.mov (.s 6)),
 oo 16 (.mov (.s 0)),
 oo 17 (.mov (.s 7)),
 oo 18 (.mov (.s 0)),
 oo 19 (.mov (.s 7)),
 oo 20 (.idxA 1 (.s 18) (.s 19)),
 oo 21 (.load false 1 (.s 20)),
 oo 22 (.mov (.s 0)),
 oo 23 (.mov (.s 6)),
 oo 24 (.idxA 1 (.s 22) (.s 23)),
 oo 25 (.load false 1 (.s 24)),
 oo 26 (.idxA 1 (.s 14) (.s 15))]
[⟨none, none, .store 1 (.s 26) (.s 21)⟩,
 oo 27 (.idxA 1 (.s 16) (.s 17)),
⟨none, none, .store 1 (.s 27) (.s 25)⟩])
 (.seq (.reg [oo 28 (.mov (.s 6)),
 oo 29 (.bin .add (.s 28) (nI 1)),
 oo 6 (.mov (.s 29))])
 (.reg [oo 30 (.mov (.s 7)),
 oo 31 (.bin .sub (.s 30) (nI 1)),
 oo 7 (.mov (.s 31))])))))
def c28 : AC :=
 (.seq (.reg [oo 8 (.mov (.s 1)),
 oo 6 (.mov (.s 8))])
 (.seq (.reg [oo 9 (.mov (.s 2)),
 oo 10 (.bin .sub (.s 9) (nI 1)),
 oo 7 (.mov (.s 10))])
 (.block 0
 (.loop c28_0))))
theorem k28 : OkF 28 Try.f28 c28 [] 32 := ⟨Try.func28, by kernel_rfl, by kernel_rfl, by kernel_rfl, Try.ntmps28⟩
/-! slices.order2Ordered[int] -/
def c41 : AC :=
 (.seq (.reg [oo 8 (.mov (nI 0)),
 oo 9 (.mov (nI 0))])
 (.seq (.seq (.regq [oo 10 (.mov (.s 0)),
 oo 11 (.mov (.s 2)),
 oo 12 (.idxA 1 (.s 10) (.s 11)),
 oo 13 (.load false 1 (.s 12)),
 oo 14 (.mov (.s 0)),
 oo 15 (.mov (.s 1)),
 oo 16 (.idxA 1 (.s 14) (.s 15)),
 oo 17 (.load false 1 (.s 16))]
[oo 18 (.call 30 [(.s 13), (.s 17)])])
 (.cond (.s 18)
 (.seq (.reg [oo 19 (.mov (.s 3)),
 oo 20 (.nilck (.s 19)),
 oo 21 (.load false 1 (.s 20)),
 oo 22 (.bin .add (.s 21) (nI 1)),
 oo 23 (.nilck (.s 19)),
⟨none, none, .store 1 (.s 23) (.s 22)⟩])
 (.seq (.reg [oo 24 (.mov (.s 2)),
 oo 25 (.mov (.s 1)),
 oo 8 (.mov (.s 24)),
 oo 9 (.mov (.s 25))])
 .ret))
 .skip))
 (.seq (.reg [oo 26 (.mov (.s 1)),
 oo 27 (.mov (.s 2)),
 oo 8 (.mov (.s 26)),
 oo 9 (.mov (.s 27))])
 .ret)))
theorem k41 : OkF 41 Try.f41 c41 [.t 8, .t 9] 28 := ⟨Try.func41, by kernel_rfl, by kernel_rfl, by kernel_rfl, Try.ntmps41⟩
/-! slices.medianOrdered[int] -/
def c39 : AC :=
 (.seq (.reg [oo 10 (.mov (nI 0))])
 (.seq (.reg [oo 12 (.mov (.s 0)),
 oo 13 (.mov (.s 1)),
 oo 14 (.mov (.s 2)),
 oo 15 (.mov (.s 4)),
 oo 16 (.call 41 [(.s 12), (.s 13), (.s 14), (.s 15)]),
 oo 11 (.mov (.s 16)),
 oo 17 (.ext 0 (.s 11)),
 oo 18 (.ext 1 (.s 11)),
 oo 1 (.mov (.s 17)),
 oo 2 (.mov (.s 18))])
 (.seq (.reg [oo 20 (.mov (.s 0)),
 oo 21 (.mov (.s 2)),
 oo 22 (.mov (.s 3)),
 oo 23 (.mov (.s 4)),
 oo 24 (.call 41 [(.s 20), (.s 21), (.s 22), (.s 23)]),
 oo 19 (.mov (.s 24)),
 oo 25 (.ext 0 (.s 19)),
 oo 26 (.ext 1 (.s 19)),
 oo 2 (.mov (.s 25)),
 oo 3 (.mov (.s 26))])
 (.seq (.reg [oo 28 (.mov (.s 0)),
 oo 29 (.mov (.s 1)),
 oo 30 (.mov (.s 2)),
 oo 31 (.mov (.s 4)),
 oo 32 (.call 41 [(.s 28), (.s 29), (.s 30), (.s 31)]),
 oo 27 (.mov (.s 32)),
 oo 33 (.ext 0 (.s 27)),
 oo 34 (.ext 1 (.s 27)),
 oo 1 (.mov (.s 33)),
 oo 2 (.mov (.s 34))])
 (.seq (.reg [oo 35 (.mov (.s 2)),
 oo 10 (.mov (.s 35))])
 .ret)))))
theorem k39 : OkF 39 Try.f39 c39 [.t 10] 36 := ⟨Try.func39, by kernel_rfl, by kernel_rfl, by kernel_rfl, Try.ntmps39⟩
/-! slices.medianAdjacentOrdered[int] -/
def c38 : AC :=
 (.seq (.reg [oo 6 (.mov (nI 0))])
 (.seq (.reg [oo 7 (.mov (.s 0)),
 oo 8 (.mov (.s 1)),
 oo 9 (.bin .sub (.s 8) (nI 1)),
 oo 10 (.mov (.s 1)),
 oo 11 (.mov (.s 1)),
 oo 12 (.bin .add (.s 11) (nI 1)),
 oo 13 (.mov (.s 2)),
 oo 14 (.call 39 [(.s 7), (.s 9), (.s 10), (.s 12), (.s 13)]),
 oo 6 (.mov (.s 14))])
 .ret))
theorem k38 : OkF 38 Try.f38 c38 [.t 6] 15 := ⟨Try.func38, by kernel_rfl, by kernel_rfl, by kernel_rfl, Try.ntmps38⟩
/-! slices.choosePivotOrdered[int] -/
def c27 : AC :=
 (.seq (.reg [oo 6 (.mov (nI 0)),
 oo 7 (.mov (nI 0))])
 (.seq (.reg [oo 13 (.mov (.s 2)),
 oo 14 (.mov (.s 1)),
 oo 15 (.bin .sub (.s 13) (.s 14)),
 oo 8 (.mov (.s 15))])
 (.seq (.reg [oo 9 (.box (nI 0))])
 (.seq (.reg [oo 16 (.mov (.s 1)),
 oo 17 (.mov (.s 8)),
 oo 18 (.bin .quo (.s 17) (nI 4)),
 oo 19 (.bin .mul (.s 18) (nI 1)),
 oo 20 (.bin .add (.s 16) (.s 19)),
 oo 10 (.mov (.s 20))])
 (.seq (.reg [oo 21 (.mov (.s 1)),
 oo 22 (.mov (.s 8)),
 oo 23 (.bin .quo (.s 22) (nI 4)),
 oo 24 (.bin .mul (.s 23) (nI 2)),
 oo 25 (.bin .add (.s 21) (.s 24)),
 oo 11 (.mov (.s 25))])
 (.seq (.reg [oo 26 (.mov (.s 1)),
 oo 27 (.mov (.s 8)),
 oo 28 (.bin .quo (.s 27) (nI 4)),
 oo 29 (.bin .mul (.s 28) (nI 3)),
 oo 30 (.bin .add (.s 26) (.s 29)),
 oo 12 (.mov (.s 30))])
 (.seq (.seq (.reg [oo 31 (.mov (.s 8)),
 oo 32 (.bin .geq (.s 31) (nI 8))])
 (.cond (.s 32)
 (.seq (.seq (.reg [oo 33 (.mov (.s 8)),
 oo 34 (.bin .geq (.s 33) (nI 50))])
 (.cond (.s 34)
 (.seq (.reg [oo 35 (.mov (.s 0)),
 oo 36 (.mov (.s 10)),
 oo 37 (.call 38 [(.s 35), (.s 36), (.s 9)]),
 oo 10 (.mov (.s 37))])
 (.seq (.reg [oo 38 (.mov (.s 0)),
 oo 39 (.mov (.s 11)),
 oo 40 (.call 38 [(.s 38), (.s 39), (.s 9)]),
 oo 11 (.mov (.s 40))])
 (.reg [oo 41 (.mov (.s 0)),
 oo 42 (.mov (.s 12)),
 oo 43 (.call 38 [(.s 41), (.s 42), (.s 9)]),
 oo 12 (.mov (.s 43))])))
 .skip))
 (.reg [oo 44 (.mov (.s 0)),
 oo 45 (.mov (.s 10)),
 oo 46 (.mov (.s 11)),
 oo 47 (.mov (.s 12)),
 oo 48 (.call 39 [(.s 44), (.s 45), (.s 46), (.s 47), (.s 9)]),
 oo 11 (.mov (.s 48))]))
 .skip))
 (.seq (.reg [oo 49 (.load false 1 (.s 9))])
 (.block 0
 (.seq (.reg [oo 52 (.bin .eql (.s 49) (nI 0)),
 oo 51 (.mov (.s 52))])
 (.cond (.s 51)
 (.seq (.reg [oo 53 (.mov (.s 11)),
 oo 6 (.mov (.s 53)),
 oo 7 (.mov (nI 1))])
 .ret)
 (.seq (.reg [oo 55 (.bin .eql (.s 49) (nI 12)),
 oo 54 (.mov (.s 55))])
 (.cond (.s 54)
 (.seq (.reg [oo 56 (.mov (.s 11)),
 oo 6 (.mov (.s 56)),
 oo 7 (.mov (nI 2))])
 .ret)
 (.seq (.reg [oo 50 (.mov (.s 11)),
 oo 6 (.mov (.s 50)),
 oo 7 (.mov (nI 0))])
 .ret))))))))))))))
theorem k27 : OkF 27 Try.f27 c27 [.t 6, .t 7] 57 := ⟨Try.func27, by kernel_rfl, by kernel_rfl, by kernel_rfl, Try.ntmps27⟩
/-- a call of which one knows that what it answers is one of many -/
theorem onC_fe {P : Program} {f : Nat} {args0 : List S} {H0 : Heap} {α : Type} {SS : α → S} {HH : α → Heap} (h : CallA P f args0 H0 fun s H' => ∃ a, s = SS a ∧ H' = HH a) {H : Heap} {args : List S} {K : S → Heap → Prop} (l : List Nat) (hl : l.Nodup)
  (hH : sameH H l.length (pick l) l H0) (hargs : args = args0.map (S.ren (pick l))) (hin : args0.all (S.inb l.length) = true)
  (hK : ∀ a, l.length ≤ (HH a).length ∧ K ((SS a).ren (ext l H.length)) (emb l H (HH a))) : @onC P f args H ⟨K⟩ :=
 h.frame l hl hH hargs (fun a ha => List.all_eq_true.1 hin a ha) (by rintro _ _ ⟨a, rfl, rfl⟩; exact hK a)
theorem rev_c (X : List Int) (a b : Int) (ha : 0 ≤ a) (hab : a ≤ b) (hb : b ≤ X.length) (hX : X.length ≤ 1000) : CallA Try.prog 28 [.rsl 0 0 X.length, .pure (I a), .pure (I b)] [rI X]
  fun s H' => s = .tup [] ∧ ∃ Y : {Y // Pm a b X Y}, H' = [rI Y.1] := by
 refine CallA.weak (K := fun s H' => s = .tup [] ∧ ∃ Y, Pm a b X Y ∧ H' = [rI Y]) ?_ ?_
 ·refine k28.a (by simp) ?_
  unfold c28
  have w := fun (k : Int) (h1 : -5000 ≤ k) (h2 : k ≤ 5000) => wrap_id (n := k) (by omega) (by omega)
  simp only [w (b - 1) (by omega) (by omega), vmp,↓vmd,seval]
  refine loop_at (T := Int × Int × List Int) (fun z => [(6, .pure (I z.1)), (7, .pure (I z.2.1)), (0, .rsl 0 0 X.length)]) (fun z => [rI z.2.2]) (fun z => a ≤ z.1 ∧ z.1 ≤ b ∧ z.2.1 < b ∧ a - 1 ≤ z.2.1 ∧ Pm a b X z.2.2) (fun z => (z.2.1 - z.1).toNat)
   (a, b - 1, X) [0] (by simp) rfl ⟨by simp, by simp only; omega, by simp only; omega, by simp only; omega, .refl⟩ (by simp only [kpp,seval]) (by simp only [kpp,seval]) ?_
  rintro ⟨i, j, Y⟩ ⟨hi1, hi2, hj1, hj2, hP⟩
  simp only at hi1 hi2 hj1 hj2 hP
  have hl := hP.len
  unfold c28_0
  simp only [vmp,↓vmd,seval]
  refine onB_dec (fun h1 => ?_) (fun h1 => ?_)
  ·have r1 := rI_at (X := Y) (i := i) (by omega) (by omega)
   have r2 := rI_at (X := Y) (i := j) (by omega) (by omega)
   have r3 := rI_at2 (X := Y) (n := i.toNat) (v := gA Y j) (i := j) (by omega) (by omega)
   have w1 := w (i + 1) (by omega) (by omega)
   have w2 := w (j - 1) (by omega) (by omega)
   have b1 : 0 ≤ i := by omega
   have b2 : i < (X.length : Int) := by omega
   have b3 : 0 ≤ j := by omega
   have b4 : j < (X.length : Int) := by omega
   have hs : (Y.set i.toNat (gA Y j)).set j.toNat (gA Y i) = swp Y i j := rfl
   simp only [h1, r1, r2, r3, w1, w2, b1, b2, b3, b4, rI_set, hs, vmp,↓vmd,seval]
   refine onBk_to (i + 1, j - 1, swp Y i j) [0] (by simp) rfl (by simp only; omega) ⟨by simp only; omega, by simp only; omega, by simp only; omega, by simp only; omega, hP.swap (by omega) (by omega) (by omega) (by omega)⟩ (by simp only [kpp,seval]) (by simp only [kpp,seval])
  ·simp only [h1, vmp,↓vmd,seval]
   exact ⟨Y, hP, rfl⟩
 ·rintro r H' ⟨rfl, Y, hY, rfl⟩
  exact ⟨[0], _, _, by simp, rfl, (by simp only [kpp,seval]), (by simp only [kpp,seval]), rfl, ⟨Y, hY⟩, rfl⟩
abbrev rM (m : Int) : Row := ⟨[.pure (I m)], 1, .live⟩
abbrev two (x y : Int) : S := .tup [.pure (I x), .pure (I y)]
theorem order_c (X : List Int) (a b m : Int) (ha : 0 ≤ a) (ha' : a < X.length) (hb : 0 ≤ b) (hb' : b < X.length) : CallA Try.prog 41 [.rsl 0 0 X.length, .pure (I a), .pure (I b), .ptr 1 0 0] [rI X, rM m]
  fun s H' => ∃ z : {z : Int × Int × Int // (z.1 = a ∧ z.2.1 = b) ∨ (z.1 = b ∧ z.2.1 = a)}, s = two z.1.1 z.1.2.1 ∧ H' = [rI X, rM z.1.2.2] := by
 refine CallA.weak (K := fun s H' => ∃ z : Int × Int × Int, ((z.1 = a ∧ z.2.1 = b) ∨ (z.1 = b ∧ z.2.1 = a)) ∧ s = two z.1 z.2.1 ∧ H' = [rI X, rM z.2.2]) ?_ ?_
 ·refine k41.a (by simp) ?_
  unfold c41
  have r1 := rI_at ha ha'
  have r2 := rI_at hb hb'
  simp only [ha, ha', hb, hb', r1, r2, vmp,↓vmd,seval]
  refine onC_q (less_q _ _) rfl ?_
  by_cases h : gA X b < gA X a
  ·rw [decide_eq_true h]
   (first | apply envO | apply envQ); simp only [vmp,↓vmd,seval]; rfl
   simp only [vmp,↓vmd,seval]
   exact ⟨(b, a, _), .inr ⟨rfl, rfl⟩, rfl, rfl⟩
  ·rw [decide_eq_false h]
   (first | apply envO | apply envQ); simp only [vmp,↓vmd,seval]; rfl
   simp only [vmp,↓vmd,seval]
   exact ⟨(a, b, m), .inl ⟨rfl, rfl⟩, rfl, rfl⟩
 ·rintro r H' ⟨z, hz, rfl, rfl⟩
  exact ⟨[0, 1], _, _, by simp, rfl, (by simp only [kpp,seval]), (by simp only [kpp,seval]), ⟨z, hz⟩, rfl, rfl⟩
theorem median_c (X : List Int) (a b c m : Int) (ha : 0 ≤ a) (ha' : a < X.length) (hb : 0 ≤ b) (hb' : b < X.length) (hc : 0 ≤ c) (hc' : c < X.length) : CallA Try.prog 39 [.rsl 0 0 X.length, .pure (I a), .pure (I b), .pure (I c), .ptr 1 0 0] [rI X, rM m]
  fun s H' => ∃ z : {z : Int × Int // z.1 = a ∨ z.1 = b ∨ z.1 = c}, s = .pure (I z.1.1) ∧ H' = [rI X, rM z.1.2] := by
 refine CallA.weak (K := fun s H' => ∃ z : Int × Int, (z.1 = a ∨ z.1 = b ∨ z.1 = c) ∧ s = .pure (I z.1) ∧ H' = [rI X, rM z.2]) ?_ ?_
 ·refine k39.a (by simp) ?_
  unfold c39
  simp only [vmp,↓vmd,seval]
  refine onC_fe (order_c X a b m ha ha' hb hb') [0, 1] (by simp) (by simp only [kpp,seval]) rfl rfl ?_
  rintro ⟨⟨x, y, m1⟩, h1⟩
  simp only at h1
  refine ⟨by simp, ?_⟩
  (first | apply envO | apply envQ); simp only [vmp,↓vmd,seval]; rfl
  simp only [vmp,↓vmd,seval]
  refine onC_fe (order_c X y c m1 (by omega) (by omega) hc hc') [0, 1] (by simp) (by simp only [kpp,seval]) rfl rfl ?_
  rintro ⟨⟨x2, y2, m2⟩, h2⟩
  simp only at h2
  refine ⟨by simp, ?_⟩
  (first | apply envO | apply envQ); simp only [vmp,↓vmd,seval]; rfl
  simp only [vmp,↓vmd,seval]
  refine onC_fe (order_c X x x2 m2 (by omega) (by omega) (by omega) (by omega)) [0, 1] (by simp) (by simp only [kpp,seval]) rfl rfl ?_
  rintro ⟨⟨x3, y3, m3⟩, h3⟩
  simp only at h3
  refine ⟨by simp, ?_⟩
  (first | apply envO | apply envQ); simp only [vmp,↓vmd,seval]; rfl
  simp only [vmp,↓vmd,seval]
  exact ⟨(y3, m3), by simp only; omega, rfl, rfl⟩
 ·rintro r H' ⟨z, hz, rfl, rfl⟩
  exact ⟨[0, 1], _, _, by simp, rfl, (by simp only [kpp,seval]), (by simp only [kpp,seval]), ⟨z, hz⟩, rfl, rfl⟩
theorem madj_c (X : List Int) (a m : Int) (ha : 1 ≤ a) (ha' : a + 1 < X.length) (hX : X.length ≤ 1000) : CallA Try.prog 38 [.rsl 0 0 X.length, .pure (I a), .ptr 1 0 0] [rI X, rM m]
  fun s H' => ∃ z : {z : Int × Int // a - 1 ≤ z.1 ∧ z.1 ≤ a + 1}, s = .pure (I z.1.1) ∧ H' = [rI X, rM z.1.2] := by
 refine CallA.weak (K := fun s H' => ∃ z : Int × Int, (a - 1 ≤ z.1 ∧ z.1 ≤ a + 1) ∧ s = .pure (I z.1) ∧ H' = [rI X, rM z.2]) ?_ ?_
 ·refine k38.a (by simp) ?_
  unfold c38
  have w1 := wrap_id (n := a - 1) (by omega) (by omega)
  have w2 := wrap_id (n := a + 1) (by omega) (by omega)
  simp only [w1, w2, vmp,↓vmd,seval]
  refine onC_fe (median_c X (a - 1) a (a + 1) m (by omega) (by omega) (by omega) (by omega) (by omega) (by omega)) [0, 1] (by simp) (by simp only [kpp,seval]) rfl rfl ?_
  rintro ⟨⟨j, m⟩, hj⟩
  simp only at hj
  refine ⟨by simp, ?_⟩
  (first | apply envO | apply envQ); simp only [vmp,↓vmd,seval]; rfl
  simp only [vmp,↓vmd,seval]
  exact ⟨(j, m), by simp only; omega, rfl, rfl⟩
 ·rintro r H' ⟨z, hz, rfl, rfl⟩
  exact ⟨[0, 1], _, _, by simp, rfl, (by simp only [kpp,seval]), (by simp only [kpp,seval]), ⟨z, hz⟩, rfl, rfl⟩
theorem pivot_c (X : List Int) (a b : Int) (ha : 0 ≤ a) (hab : a + 8 ≤ b) (hb : b ≤ X.length) (hX : X.length ≤ 1000) : CallA Try.prog 27 [.rsl 0 0 X.length, .pure (I a), .pure (I b)] [rI X]
  fun s H' => ∃ z : {z : Int × Int // a ≤ z.1 ∧ z.1 < b}, s = two z.1.1 z.1.2 ∧ H' = [rI X] := by
 refine CallA.weak (K := fun s H' => ∃ z : Int × Int, (a ≤ z.1 ∧ z.1 < b) ∧ s = two z.1 z.2 ∧ ∃ m, H' = [rI X, rM m]) ?_ ?_
 ·refine k27.a (by simp) ?_
  unfold c27
  have w := fun (k : Int) (h1 : -5000 ≤ k) (h2 : k ≤ 5000) => wrap_id (n := k) (by omega) (by omega)
  have e1 := w (b - a) (by omega) (by omega)
  obtain ⟨n, hn⟩ : ∃ n, b - a = n := ⟨_, rfl⟩
  rw [hn] at e1
  obtain ⟨q, hq⟩ : ∃ q, n / 4 = q := ⟨_, rfl⟩
  have e2 : IntKind.wrap .i64 (n.tdiv 4) = q := by
   rw [Int.tdiv_eq_ediv_of_nonneg (by omega), hq]
   exact w _ (by omega) (by omega)
  have e3 := w (q * 1) (by omega) (by omega)
  have e4 := w (q * 2) (by omega) (by omega)
  have e5 := w (q * 3) (by omega) (by omega)
  have e6 := w (a + q * 1) (by omega) (by omega)
  have e7 := w (a + q * 2) (by omega) (by omega)
  have e8 := w (a + q * 3) (by omega) (by omega)
  simp only [hn, e1, e2, e3, e4, e5, e6, e7, e8, vmp,↓vmd,seval]
  refine onB_pos (show 8 ≤ n by omega) ?_
  simp only [vmp,↓vmd,seval]
  have key : ∀ (i j k m : Int), a ≤ i → i < b → a ≤ j → j < b → a ≤ k → k < b → CallA Try.prog 39 [.rsl 0 0 X.length, .pure (I i), .pure (I j), .pure (I k), .ptr 1 0 0] [rI X, rM m]
    fun s H' => ∃ z : {z : Int × Int // a ≤ z.1 ∧ z.1 < b}, s = .pure (I z.1.1) ∧ H' = [rI X, rM z.1.2] := fun i j k m h1 h2 h3 h4 h5 h6 =>
   (median_c X i j k m (by omega) (by omega) (by omega) (by omega) (by omega) (by omega)).mono (by
    rintro s H' ⟨⟨z, hz⟩, rfl, rfl⟩
    exact ⟨⟨z, by rcases hz with e | e | e <;> rw [e] <;> omega⟩, rfl, rfl⟩)
  by_cases h50 : 50 ≤ n
  case' neg => (
   refine onB_neg h50 ?_
   simp only [vmp,↓vmd,seval]
   refine onC_fe (key (a + q * 1) (a + q * 2) (a + q * 3) 0 (by omega) (by omega) (by omega) (by omega) (by omega) (by omega)) [0, 1] (by simp) (by simp only [kpp,seval]) rfl rfl ?_)
  case' pos => (
   refine onB_pos h50 ?_
   simp only [vmp,↓vmd,seval]
   refine onC_fe (madj_c X (a + q * 1) 0 (by omega) (by omega) hX) [0, 1] (by simp) (by simp only [kpp,seval]) rfl rfl ?_
   rintro ⟨⟨j1, m1⟩, hj1⟩
   simp only at hj1
   refine ⟨by simp, ?_⟩
   (first | apply envO | apply envQ); simp only [vmp,↓vmd,seval]; rfl
   simp only [vmp,↓vmd,seval]
   refine onC_fe (madj_c X (a + q * 2) m1 (by omega) (by omega) hX) [0, 1] (by simp) (by simp only [kpp,seval]) rfl rfl ?_
   rintro ⟨⟨j2, m2⟩, hj2⟩
   simp only at hj2
   refine ⟨by simp, ?_⟩
   (first | apply envO | apply envQ); simp only [vmp,↓vmd,seval]; rfl
   simp only [vmp,↓vmd,seval]
   refine onC_fe (madj_c X (a + q * 3) m2 (by omega) (by omega) hX) [0, 1] (by simp) (by simp only [kpp,seval]) rfl rfl ?_
   rintro ⟨⟨j3, m3⟩, hj3⟩
   simp only at hj3
   refine ⟨by simp, ?_⟩
   (first | apply envO | apply envQ); simp only [vmp,↓vmd,seval]; rfl
   simp only [vmp,↓vmd,seval]
   refine onC_fe (key j1 j2 j3 m3 (by omega) (by omega) (by omega) (by omega) (by omega) (by omega)) [0, 1] (by simp) (by simp only [kpp,seval]) rfl rfl ?_)
  all_goals (
   rintro ⟨⟨j, m⟩, hj⟩
   simp only at hj
   refine ⟨by simp, ?_⟩
   (first | apply envO | apply envQ); simp only [vmp,↓vmd,seval]; rfl
   simp only [vmp,↓vmd,seval]
   refine onB_dec (fun h1 => ?_) (fun h1 => ?_)
   ·(first | apply envO | apply envQ); simp only [h1, vmp,↓vmd,seval]; rfl
    simp only [h1, vmp,↓vmd,seval]
    exact ⟨(j, 1), hj, rfl, _, rfl⟩
   ·(first | apply envO | apply envQ); simp only [h1, vmp,↓vmd,seval]; rfl
    simp only [h1, vmp,↓vmd,seval]
    refine onB_dec (fun h2 => ?_) (fun h2 => ?_)
    ·(first | apply envO | apply envQ); simp only [h2, vmp,↓vmd,seval]; rfl
     simp only [h2, vmp,↓vmd,seval]
     exact ⟨(j, 2), hj, rfl, _, rfl⟩
    ·(first | apply envO | apply envQ); simp only [h2, vmp,↓vmd,seval]; rfl
     simp only [h2, vmp,↓vmd,seval]
     exact ⟨(j, 0), hj, rfl, _, rfl⟩)
 ·rintro r H' ⟨z, hz, rfl, m, rfl⟩
  exact ⟨[0], _, _, by simp, rfl, (by simp only [kpp,seval]), (by simp only [kpp,seval]), ⟨z, hz⟩, rfl, rfl⟩
end Go.Proofs.Ytalhohfhjniapaa.W
