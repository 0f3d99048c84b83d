/-
  Sorting by insertion. No condition but on sizes.
-/
import Derived.Test.YtalhohfhjniapaaSrt1
import Derived.Test.YtalhohfhjniapaaStops
namespace Go.Proofs.Ytalhohfhjniapaa.W
open Go Go.Vm Go.Proofs
set_option maxRecDepth 100000
set_option linter.unusedSimpArgs false
set_option maxHeartbeats 4000000
/-! cmp.isNaN[int] -/
def c40 : AC :=
 (.seq (.reg [oo 2 (.mov (nB false))])
 (.seq (.reg [oo 3 (.mov (.s 0)),
 oo 4 (.mov (.s 0)),
 oo 5 (.bin .neq (.s 3) (.s 4)),
 oo 2 (.mov (.s 5))])
 .ret))
theorem k40 : OkF 40 Try.f40 c40 [.t 2] 6 := ⟨Try.func40, by kernel_rfl, by kernel_rfl, by kernel_rfl, Try.ntmps40⟩
/-! cmp.Less[int] -/
def c30 : AC :=
 (.seq (.reg [oo 4 (.mov (nB false))])
 (.seq (.reg [oo 5 (.mov (.s 0)),
 oo 6 (.call 40 [(.s 5)]),
 oo 7 (.mov (.s 6)),
 og 8 7 true (.mov (.s 1)),
 og 9 7 true (.call 40 [(.s 8)]),
 og 10 7 true (.un .not (.s 9)),
 oo 11 (.pick (.s 7) (.s 10) (nB false)),
 oo 12 (.mov (.s 11)),
 og 13 12 false (.mov (.s 0)),
 og 14 12 false (.mov (.s 1)),
 og 15 12 false (.bin .lss (.s 13) (.s 14)),
 oo 16 (.pick (.s 12) (nB true) (.s 15)),
 oo 4 (.mov (.s 16))])
 .ret))
theorem k30 : OkF 30 Try.f30 c30 [.t 4] 17 := ⟨Try.func30, by kernel_rfl, by kernel_rfl, by kernel_rfl, Try.ntmps30⟩
/-! slices.insertionSortOrdered[int] -/
def c24_0 : AC :=
 (.reg [oo 13 (.mov (.s 6)),
 oo 14 (.bin .add (.s 13) (nI 1)),
 oo 6 (.mov (.s 14))])
def c24_1 : AC :=
 (.seq (.seq (.regq [oo 16 (.mov (.s 7)),
 oo 17 (.mov (.s 1)),
 oo 18 (.bin .gtr (.s 16) (.s 17)),
 oo 19 (.mov (.s 18)),
 og 20 19 true (.mov (.s 0)),
 og 21 19 true (.mov (.s 7)),
 og 22 19 true (.idxA 1 (.s 20) (.s 21)),
 og 23 19 true (.load false 1 (.s 22)),
 og 24 19 true (.mov (.s 0)),
 og 25 19 true (.mov (.s 7)),
 og 26 19 true (.bin .sub (.s 25) (nI 1)),
 og 27 19 true (.idxA 1 (.s 24) (.s 26)),
 og 28 19 true (.load false 1 (.s 27))]
[og 29 19 true (.call 30 [(.s 23), (.s 28)]),
 oo 30 (.pick (.s 19) (.s 29) (nB false))])
 (.cond (.s 30)
 .skip
 (.exit 2)))
 (.seq (.block 3
 (.regq [oo 33 (.mov (.s 0)),
 oo 34 (.mov (.s 7)),
 oo 35 (.mov (.s 0)),
 oo 36 (.mov (.s 7)),
 oo 37 (.bin .sub (.s 36) (nI 1)),
 oo 38 (.mov (.s 0)),
 oo 39 (.mov (.s 7)),
 oo 40 (.bin .sub (.s 39) (nI 1)),
 oo 41 (.idxA 1 (.s 38) (.s 40)),
 oo 42 (.load false 1 (.s 41)),
 oo 43 (.mov (.s 0)),
 oo 44 (.mov (.s 7)),
 oo 45 (.idxA 1 (.s 43) (.s 44)),
 oo 46 (.load false 1 (.s 45)),
 oo 47 (.idxA 1 (.s 33) (.s 34))]
[⟨none, none, .store 1 (.s 47) (.s 42)⟩,
 oo 48 (.idxA 1 (.s 35) (.s 37)),
⟨none, none, .store 1 (.s 48) (.s 46)⟩]))
 (.reg [oo 31 (.mov (.s 7)),
 oo 32 (.bin .sub (.s 31) (nI 1)),
 oo 7 (.mov (.s 32))])))
def c24_2 : AC :=
 (.seq (.seq (.reg [oo 10 (.mov (.s 6)),
 oo 11 (.mov (.s 2)),
 oo 12 (.bin .lss (.s 10) (.s 11))])
 (.cond (.s 12)
 .skip
 (.exit 0)))
 (.seq (.block 1
 (.seq (.reg [oo 15 (.mov (.s 6)),
 oo 7 (.mov (.s 15))])
 (.block 2
 (.loop c24_1))))
 c24_0))
def c24 : AC :=
 (.seq (.reg [oo 8 (.mov (.s 1)),
 oo 9 (.bin .add (.s 8) (nI 1)),
 oo 6 (.mov (.s 9))])
 (.block 0
 (.loop c24_2)))
theorem k24 : OkF 24 Try.f24 c24 [] 49 := ⟨Try.func24, by kernel_rfl, by kernel_rfl, by kernel_rfl, Try.ntmps24⟩
theorem nan_q (x : Int) : FnQ Try.prog 40 [I x] [.bool false] := by
 refine k40.q (by simp) ?_
 unfold c40
 simp only [vmp,↓vmd,seval]
 exact gives_pure
theorem less_q (x y : Int) : FnQ Try.prog 30 [I x, I y] [.bool (decide (x < y))] := by
 refine k30.q (by simp) ?_
 unfold c30
 simp only [vmp,↓vmd,seval]
 refine onC_q (nan_q x) rfl ?_
 (first | apply envO | apply envQ); simp only [vmp,↓vmd,seval]; rfl
 simp only [vmp,↓vmd,seval]
 exact gives_pure
abbrev rI (X : List Int) : Row := ⟨(X.map I).map .pure, 1, .live⟩
theorem rI_at {X : List Int} {i : Int} (h0 : 0 ≤ i) (h1 : i < X.length) : ((X.map I).map S.pure)[i.toNat]? = some (.pure (I (gA X i))) := by
 rw [List.getElem?_map, List.getElem?_map, gA, List.getElem?_eq_getElem (by omega)]
 rfl
theorem rI_set {X : List Int} {n : Nat} {v : Int} : ((X.map I).map S.pure).set n (.pure (I v)) = ((X.set n v).map I).map S.pure := by
 rw [List.map_set, List.map_set]
theorem rI_at2 {X : List Int} {n : Nat} {v i : Int} (h0 : 0 ≤ i) (h1 : i < X.length) : (((X.set n v).map I).map S.pure)[i.toNat]? = some (.pure (I (gA (X.set n v) i))) := rI_at h0 (by simpa using h1)
theorem ins_c (X : List Int) (a b : Int) (ha : 0 ≤ a) (hab : a ≤ b) (hb : b ≤ X.length) (hX : X.length ≤ 1000) : CallA Try.prog 24 [.rsl 0 0 X.length, .pure (I a), .pure (I b)] [rI X]
  fun s H' => s = .tup [] ∧ ∃ Y : {Y // Pm a b X Y ∧ Sd a b Y}, H' = [rI Y.1] := by
 refine CallA.weak (K := fun s H' => s = .tup [] ∧ ∃ Y, (Pm a b X Y ∧ Sd a b Y) ∧ H' = [rI Y]) ?_ ?_
 ·refine k24.a (by simp) ?_
  unfold c24
  have w := fun (k : Int) (h1 : -2000 ≤ k) (h2 : k ≤ 2000) => wrap_id (n := k) (by omega) (by omega)
  simp only [w (a + 1) (by omega) (by omega), vmp,↓vmd,seval]
  refine loop_at (T := Int × List Int) (fun z => [(6, .pure (I z.1)), (0, .rsl 0 0 X.length), (1, .pure (I a)), (2, .pure (I b))]) (fun z => [rI z.2]) (fun z => a + 1 ≤ z.1 ∧ z.1 ≤ b + 1 ∧ Pm a b X z.2 ∧ Sd a z.1 z.2) (fun z => (b - z.1).toNat)
   (a + 1, X) [0] (by simp) rfl ⟨by simp, by simp only; omega, .refl, fun i j h1 h2 h3 => by simp only at h3; omega⟩ (by simp only [kpp,seval]) (by simp only [kpp,seval]) ?_
  rintro ⟨i, Y⟩ ⟨hi1, hi2, hP, hS⟩
  simp only at hi1 hi2 hP hS
  unfold c24_2
  simp only [vmp,↓vmd,seval]
  refine onB_dec (fun h1 => ?_) (fun h1 => ?_)
  ·simp only [h1, vmp,↓vmd,seval]
   refine loop_at (T := Int × List Int) (fun z => [(7, .pure (I z.1)), (6, .pure (I i)), (0, .rsl 0 0 X.length), (1, .pure (I a)), (2, .pure (I b))]) (fun z => [rI z.2]) (fun z => a ≤ z.1 ∧ z.1 ≤ i ∧ Pm a b X z.2 ∧ Ins a i z.1 z.2) (fun z => (z.1 - a).toNat)
    (i, Y) [0] (by simp) rfl ⟨by simp only; omega, by simp, hP, ins_init hS⟩ (by simp only [kpp,seval]) (by simp only [kpp,seval]) ?_
   rintro ⟨j, Z⟩ ⟨hj1, hj2, hQ, hI⟩
   simp only at hj1 hj2 hQ hI
   have hl := hQ.len
   unfold c24_1
   simp only [vmp,↓vmd,seval]
   by_cases h2 : a < j
   ·have r1 := rI_at (X := Z) (i := j) (by omega) (by omega)
    have r2 := rI_at (X := Z) (i := j - 1) (by omega) (by omega)
    have w1 := w (j - 1) (by omega) (by omega)
    have b1 : 0 ≤ j := by omega
    have b2 : j < (X.length : Int) := by omega
    have b3 : 0 ≤ j - 1 := by omega
    have b4 : j - 1 < (X.length : Int) := by omega
    refine onB_pos h2 ?_
    (first | apply envO | apply envQ); simp only [h2, vmp,↓vmd,seval]; rfl
    simp only [h2, r1, r2, w1, b1, b2, b3, b4, vmp,↓vmd,seval]
    refine onC_q (less_q _ _) rfl ?_
    by_cases h3 : gA Z j < gA Z (j - 1)
    ·rw [decide_eq_true h3]
     have r3 := rI_at2 (X := Z) (n := j.toNat) (v := gA Z (j - 1)) (i := j - 1) (by omega) (by omega)
     have hs : (Z.set j.toNat (gA Z (j - 1))).set (j - 1).toNat (gA Z j) = swp Z j (j - 1) := rfl
     (first | apply envO | apply envQ); simp only [vmp,↓vmd,seval]; rfl
     simp only [r1, r2, w1, b1, b2, b3, b4, rI_set, r3, hs, vmp,↓vmd,seval]
     refine onBk_to (j - 1, swp Z j (j - 1)) [0] (by simp) rfl (by simp only; omega) ⟨by simp only; omega, by simp only; omega, .swap hQ (by omega) (by omega) (by omega) (by omega), ins_step hI ha h2 hj2 (by omega) h3⟩ (by simp only [w1, kpp,seval]) (by simp only [kpp,seval])
    ·rw [decide_eq_false h3]
     (first | apply envO | apply envQ); simp only [vmp,↓vmd,seval]; rfl
     simp only [vmp,↓vmd,seval]
     have hS2 := ins_end hI (.inr (by omega))
     unfold c24_0
     simp only [w (i + 1) (by omega) (by omega), vmp,↓vmd,seval]
     refine onBk_to (i + 1, Z) [0] (by simp) rfl (by simp only; omega) ⟨by simp only; omega, by simp only; omega, hQ, hS2⟩ (by simp only [kpp,seval]) (by simp only [kpp,seval])
   ·refine onB_neg h2 ?_
    simp only [h2, vmp,↓vmd,seval]
    have hS2 := ins_end hI (.inl (by omega))
    unfold c24_0
    simp only [w (i + 1) (by omega) (by omega), vmp,↓vmd,seval]
    refine onBk_to (i + 1, Z) [0] (by simp) rfl (by simp only; omega) ⟨by simp only; omega, by simp only; omega, hQ, hS2⟩ (by simp only [kpp,seval]) (by simp only [kpp,seval])
  ·simp only [h1, vmp,↓vmd,seval]
   exact ⟨Y, ⟨hP, fun p q k1 k2 k3 => hS p q k1 k2 (by omega)⟩, rfl⟩
 ·rintro r H' ⟨rfl, Y, hY, rfl⟩
  exact ⟨[0], _, _, by simp, rfl, (by simp only [kpp,seval]), (by simp only [kpp,seval]), rfl, ⟨Y, hY⟩, rfl⟩
end Go.Proofs.Ytalhohfhjniapaa.W
