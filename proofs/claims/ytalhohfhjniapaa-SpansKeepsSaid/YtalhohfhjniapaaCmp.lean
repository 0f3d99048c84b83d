/-
  Of a sorted row of numbers each is kept once (slices.Compact). No condition but on sizes.
-/
import Derived.Test.YtalhohfhjniapaaSrt4
namespace Go.Proofs.Ytalhohfhjniapaa.W
open Go Go.Vm Go.Proofs
set_option maxRecDepth 100000
set_option linter.unusedSimpArgs false
set_option maxHeartbeats 4000000
/-! slices.Compact[[]int,int] -/
def c16_0 : AC :=
 (.seq (.reg [oo 60 (.mov (.s 0)),
 oo 2 (.mov (.s 60))])
 .ret)
def c16_1 : AC :=
 (.reg [oo 14 (.mov (.s 3)),
 oo 15 (.bin .add (.s 14) (nI 1)),
 oo 3 (.mov (.s 15))])
def c16_2 : AC :=
 (.seq (.reg [oo 54 (.mov (.s 0)),
 oo 55 (.mov (.s 3)),
 oo 56 (.slc 1 (.s 54) (some (.s 55)) none none),
⟨none, none, .clr 1 (.s 56)⟩])
 (.seq (.reg [oo 57 (.mov (.s 0)),
 oo 58 (.mov (.s 3)),
 oo 59 (.slc 1 (.s 57) none (some (.s 58)) none),
 oo 2 (.mov (.s 59))])
 .ret))
def c16_3 : AC :=
 (.seq (.seq (.reg [oo 29 (.mov (.s 5)),
 oo 30 (.mov (.s 4)),
 oo 31 (.len (.s 30)),
 oo 32 (.bin .lss (.s 29) (.s 31))])
 (.cond (.s 32)
 .skip
 (.exit 2)))
 (.seq (.block 3
 (.seq (.regq [oo 35 (.mov (.s 4)),
 oo 36 (.mov (.s 5)),
 oo 37 (.idxA 1 (.s 35) (.s 36)),
 oo 38 (.load false 1 (.s 37)),
 oo 39 (.mov (.s 4)),
 oo 40 (.mov (.s 5)),
 oo 41 (.bin .sub (.s 40) (nI 1)),
 oo 42 (.idxA 1 (.s 39) (.s 41)),
 oo 43 (.load false 1 (.s 42))]
[oo 44 (.bin .neq (.s 38) (.s 43))])
 (.cond (.s 44)
 (.seq (.reg [oo 45 (.mov (.s 0)),
 oo 46 (.mov (.s 3)),
 oo 47 (.mov (.s 4)),
 oo 48 (.mov (.s 5)),
 oo 49 (.idxA 1 (.s 47) (.s 48)),
 oo 50 (.load false 1 (.s 49)),
 oo 51 (.idxA 1 (.s 45) (.s 46)),
⟨none, none, .store 1 (.s 51) (.s 50)⟩])
 (.reg [oo 52 (.mov (.s 3)),
 oo 53 (.bin .add (.s 52) (nI 1)),
 oo 3 (.mov (.s 53))]))
 .skip)))
 (.reg [oo 33 (.mov (.s 5)),
 oo 34 (.bin .add (.s 33) (nI 1)),
 oo 5 (.mov (.s 34))])))
def c16_4 : AC :=
 (.seq (.seq (.reg [oo 10 (.mov (.s 3)),
 oo 11 (.mov (.s 0)),
 oo 12 (.len (.s 11)),
 oo 13 (.bin .lss (.s 10) (.s 12))])
 (.cond (.s 13)
 .skip
 (.exit 0)))
 (.seq (.block 1
 (.seq (.regq [oo 16 (.mov (.s 0)),
 oo 17 (.mov (.s 3)),
 oo 18 (.idxA 1 (.s 16) (.s 17)),
 oo 19 (.load false 1 (.s 18)),
 oo 20 (.mov (.s 0)),
 oo 21 (.mov (.s 3)),
 oo 22 (.bin .sub (.s 21) (nI 1)),
 oo 23 (.idxA 1 (.s 20) (.s 22)),
 oo 24 (.load false 1 (.s 23))]
[oo 25 (.bin .eql (.s 19) (.s 24))])
 (.cond (.s 25)
 (.seq (.reg [oo 26 (.mov (.s 0)),
 oo 27 (.mov (.s 3)),
 oo 28 (.slc 1 (.s 26) (some (.s 27)) none none),
 oo 4 (.mov (.s 28))])
 (.seq (.seq (.reg [oo 5 (.mov (nI 1))])
 (.block 2
 (.loop c16_3)))
 c16_2))
 .skip)))
 c16_1))
def c16 : AC :=
 (.seq (.reg [oo 2 (.mov (.c .empty))])
 (.seq (.seq (.reg [oo 6 (.mov (.s 0)),
 oo 7 (.len (.s 6)),
 oo 8 (.bin .lss (.s 7) (nI 2))])
 (.cond (.s 8)
 (.seq (.reg [oo 9 (.mov (.s 0)),
 oo 2 (.mov (.s 9))])
 .ret)
 .skip))
 (.seq (.seq (.reg [oo 3 (.mov (nI 1))])
 (.block 0
 (.loop c16_4)))
 c16_0)))
theorem k16 : OkF 16 Try.f16 c16 [.t 2] 61 := ⟨Try.func16, by kernel_rfl, by kernel_rfl, by kernel_rfl, Try.ntmps16⟩
theorem gA_set {X : List Int} {n : Nat} {v i : Int} (hn : n < X.length) (hi : 0 ≤ i) : gA (X.set n v) i = if i = n then v else gA X i := by
 simp only [gA]
 by_cases e : i = n
 ·subst e
  rw [if_pos rfl, Int.toNat_natCast, List.getElem?_set_self hn]
  rfl
 ·rw [if_neg e, List.getElem?_set_ne (by omega)]
/-- rising, each once -/
def Up1 (k : Int) (Z : List Int) : Prop := ∀ p q, 0 ≤ p → p < q → q < k → gA Z p < gA Z q
/-- up to j all has been looked at; the first k of Z are what is kept of it -/
structure Cp (Y : List Int) (k j : Nat) (Z : List Int) : Prop where
 k1 : 1 ≤ k
 kj : k ≤ j
 jn : j < Y.length
 len : Z.length = Y.length
 same : ∀ i : Int, j ≤ i → i < Y.length → gA Z i = gA Y i
 up : Up1 k Z
 of : ∀ p : Int, 0 ≤ p → p < k → ∃ q : Int, 0 ≤ q ∧ q ≤ j ∧ gA Z p = gA Y q
 to : ∀ q : Int, 0 ≤ q → q ≤ j → ∃ p : Int, 0 ≤ p ∧ p < k ∧ gA Z p = gA Y q
 last : gA Z ((k : Int) - 1) = gA Y j
theorem cp_init {Y : List Int} {k : Nat} (hk : 1 ≤ k) (hn : k < Y.length) (hu : Up1 k Y) (he : gA Y k = gA Y ((k : Int) - 1)) : Cp Y k k Y :=
 ⟨hk, Nat.le_refl _, hn, rfl, fun _ _ _ => rfl, hu, fun p h0 h1 => ⟨p, h0, by omega, rfl⟩, fun q h0 h1 => by
  by_cases e : q = k
  ·exact ⟨(k : Int) - 1, by omega, by omega, by rw [e, he]⟩
  ·exact ⟨q, h0, by omega, rfl⟩, he.symm⟩
theorem cp_same {Y Z : List Int} {k j : Nat} (h : Cp Y k j Z) (hn : j + 1 < Y.length) (he : gA Y ((j : Int) + 1) = gA Y j) : Cp Y k (j + 1) Z :=
 ⟨h.k1, by have := h.kj; omega, hn, h.len, fun i h0 h1 => h.same i (by omega) h1, h.up, fun p h0 h1 => by
  obtain ⟨q, q0, q1, e⟩ := h.of p h0 h1
  exact ⟨q, q0, by omega, e⟩, fun q h0 h1 => by
  by_cases e : q = (j : Int) + 1
  ·obtain ⟨p, p0, p1, e1⟩ := h.to j (by omega) (by omega)
   exact ⟨p, p0, p1, by rw [e1, e, he]⟩
  ·exact h.to q h0 (by omega), by rw [h.last]; push_cast; rw [he]⟩
theorem cp_next {Y Z : List Int} {k j : Nat} (h : Cp Y k j Z) (hs : Sd 0 Y.length Y) (hn : j + 1 < Y.length) (hne : gA Y ((j : Int) + 1) ≠ gA Y j) : Cp Y (k + 1) (j + 1) (Z.set k (gA Y ((j : Int) + 1))) := by
 have h1 := h.kj
 have h2 := h.k1
 have h3 := h.len
 have hle := hs j ((j : Int) + 1) (by omega) (by omega) (by omega)
 have e : ∀ {i v : Int}, 0 ≤ i → gA (Z.set k v) i = if i = k then v else gA Z i := fun hi => gA_set (by omega) hi
 refine ⟨by omega, by omega, hn, by simp [h3], fun i i0 i1 => ?_, fun p q p0 pq q1 => ?_, fun p p0 p1 => ?_, fun q q0 q1 => ?_, ?_⟩
 ·rw [e (by omega), if_neg (by omega)]
  exact h.same i (by omega) i1
 ·rw [e p0, e (by omega), if_neg (by omega)]
  split
  ·have hl := h.last
   by_cases ep : p = (k : Int) - 1
   ·rw [ep, hl]; omega
   ·have := h.up p ((k : Int) - 1) p0 (by omega) (by omega)
    omega
  ·exact h.up p q p0 pq (by omega)
 ·rw [e p0]
  split
  ·exact ⟨(j : Int) + 1, by omega, by omega, rfl⟩
  ·obtain ⟨q, q0, q1, e1⟩ := h.of p p0 (by omega)
   exact ⟨q, q0, by omega, e1⟩
 ·by_cases eq : q = (j : Int) + 1
  ·exact ⟨k, by omega, by omega, by rw [e (by omega), if_pos rfl, eq]⟩
  ·obtain ⟨p, p0, p1, e1⟩ := h.to q q0 (by omega)
   exact ⟨p, p0, by omega, by rw [e p0, if_neg (by omega), e1]⟩
 ·rw [e (by omega), if_pos (by omega)]
  push_cast
  rfl
/-- what is left: the same numbers, each once, rising -/
structure Ou (Y Z : List Int) : Prop where
 mem : ∀ v, v ∈ Z ↔ v ∈ Y
 up : Up1 Z.length Z
 len : Z.length ≤ Y.length
theorem gA_take {X : List Int} {k : Nat} {i : Int} (h0 : 0 ≤ i) (h1 : i < k) : gA (X.take k) i = gA X i := by
 simp only [gA]
 rw [List.getElem?_take_of_lt (by omega)]
theorem cp_end {Y Z : List Int} {k j : Nat} (h : Cp Y k j Z) (he : j + 1 = Y.length) : Ou Y (Z.take k) := by
 have h1 := h.kj
 have h3 := h.len
 have hl : (Z.take k).length = k := by simp; omega
 refine ⟨fun v => ?_, fun p q p0 pq q1 => ?_, by omega⟩
 ·rw [gA_mem, gA_mem, hl]
  constructor
  ·rintro ⟨p, p0, p1, rfl⟩
   obtain ⟨q, q0, q1, e⟩ := h.of p p0 p1
   exact ⟨q, q0, by omega, by rw [gA_take p0 p1, e]⟩
  ·rintro ⟨q, q0, q1, rfl⟩
   obtain ⟨p, p0, p1, e⟩ := h.to q q0 (by omega)
   exact ⟨p, p0, p1, by rw [gA_take p0 p1, e]⟩
 ·rw [hl] at q1
  rw [gA_take p0 (by omega), gA_take (by omega) q1]
  exact h.up p q p0 pq q1
theorem ou_self {Y : List Int} (h : Up1 Y.length Y) : Ou Y Y := ⟨fun _ => Iff.rfl, h, Nat.le_refl _⟩
theorem rI_take {X : List Int} {k : Nat} : ((X.map I).map S.pure).take k = ((X.take k).map I).map S.pure := by rw [List.map_take, List.map_take]
theorem rI_nat {X : List Int} {n : Nat} (h : n < X.length) : ((X.map I).map S.pure)[n]? = some (.pure (I (gA X n))) := by
 have := rI_at (X := X) (i := n) (by omega) (by omega)
 rwa [Int.toNat_natCast] at this
theorem slcR_mid {n b off len l h : Nat} {es : List S} (h0 : l ≤ h) (h1 : h ≤ len) : slcR n b off len true (some (l : Int)) (some (h : Int)) (some ⟨es, n, .live⟩) = some (.rsl b (off + l) (h - l)) := by
 simp only [slcR]
 rw [if_pos ⟨trivial, trivial, by omega, by omega, by omega⟩]
 simp only [Int.toNat_natCast, Option.some.injEq, S.rsl.injEq, true_and]
 omega
theorem cmp_c (Y : List Int) (hs : Sd 0 Y.length Y) (hn : Y.length ≤ 1000) : CallA Try.prog 16 [.rsl 0 0 Y.length] [rI Y]
  fun s H' => ∃ Z : {Z // Ou Y Z}, s = .rsl 0 0 Z.1.length ∧ H' = [rI Z.1] := by
 refine k16.a (by simp) ?_
 unfold c16
 have w := fun (k : Int) (h1 : -5000 ≤ k) (h2 : k ≤ 5000) => wrap_id (n := k) (by omega) (by omega)
 simp only [vmp,↓vmd,seval]
 refine onIf_intro fun _ => ?_
 simp only [vmp,↓vmd,seval]
 refine onB_dec (fun h1 => ?_) (fun h1 => ?_)
 ·simp only [h1, vmp,↓vmd,seval]
  exact ⟨⟨Y, ou_self fun p q p0 pq q1 => by omega⟩, rfl, rfl⟩
 simp only [h1, vmp,↓vmd,seval]
 refine loop_at (T := Nat) (fun k => [(3, .pure (I k)), (0, .rsl 0 0 Y.length)]) (fun _ => [rI Y]) (fun k => 1 ≤ k ∧ k ≤ Y.length ∧ Up1 k Y) (fun k => Y.length - k)
  1 [0] (by simp) rfl ⟨by simp, by omega, fun p q p0 pq q1 => by omega⟩ (by simp only [kpp,seval]) (by simp only [kpp,seval]) ?_
 rintro k ⟨k1, kn, hu⟩
 unfold c16_4
 simp only [vmp,↓vmd,seval]
 refine onIf_intro fun _ => ?_
 simp only [vmp,↓vmd,seval]
 refine onB_dec (fun h2 => ?_) (fun h2 => ?_)
 case' refine_2 => (
  simp only [h2, vmp,↓vmd,seval]
  unfold c16_0
  simp only [vmp,↓vmd,seval]
  obtain rfl : k = Y.length := by omega
  exact ⟨⟨Y, ou_self hu⟩, rfl, rfl⟩)
 have b0 : (0 : Int) ≤ k := by omega
 have b1 : (0 : Int) ≤ (k : Int) - 1 := by omega
 have b2 : (k : Int) - 1 < (Y.length : Int) := by omega
 have r1 := rI_nat (X := Y) (n := k) (by omega)
 have r2 := rI_at (X := Y) (i := (k : Int) - 1) (by omega) (by omega)
 have w1 := w ((k : Int) - 1) (by omega) (by omega)
 have w2 : IntKind.wrap .i64 ((k : Int) + 1) = ((k + 1 : Nat) : Int) := by rw [w _ (by omega) (by omega)]; omega
 simp only [h2, b0, b1, b2, r1, r2, w1, vmp,↓vmd,seval]
 refine onB_dec (fun h3 => ?_) (fun h3 => ?_)
 case' refine_2 => (
  (first | apply envO | apply envQ); simp only [h3, vmp,↓vmd,seval]; rfl
  simp only [h3, w2, vmp,↓vmd,seval]
  refine onBk_to (k + 1) [0] (by simp) rfl (by omega) ⟨by omega, by omega, fun p q p0 pq q1 => ?_⟩ (by simp only [kpp,seval]) (by simp only [kpp,seval])
  have hle := hs ((k : Int) - 1) k (by omega) (by omega) (by omega)
  by_cases e : q = k
  ·subst e
   by_cases e2 : p = (k : Int) - 1
   ·rw [e2]; omega
   ·have := hu p ((k : Int) - 1) p0 (by omega) (by omega)
    omega
  ·exact hu p q p0 pq (by omega))
 have s1 := slcR_mid (n := 1) (b := 0) (off := 0) (len := Y.length) (l := k) (h := Y.length) (es := (Y.map I).map S.pure) kn (Nat.le_refl _)
 (first | apply envO | apply envQ); simp only [h3, vmp,↓vmd,seval]; rfl
 simp only [h3, s1, vmp,↓vmd,seval]
 refine loop_at (T := Nat × Nat × List Int) (fun z => [(3, .pure (I z.1)), (5, .pure (I z.2.1)), (0, .rsl 0 0 Y.length), (4, .rsl 0 k (Y.length - k))]) (fun z => [rI z.2.2]) (fun z => 1 ≤ z.2.1 ∧ Cp Y z.1 (k + z.2.1 - 1) z.2.2) (fun z => Y.length - z.2.1)
  (k, 1, Y) [0] (by simp) rfl ⟨by simp, by simpa using cp_init k1 (by omega) hu h3⟩ (by simp only [kpp,seval]) (by simp only [kpp,seval]) ?_
 rintro ⟨m, k2, Z⟩ ⟨k21, hc⟩
 simp only at k21 hc
 have hl := hc.len
 have hj := hc.jn
 have hm1 := hc.k1
 have hm2 := hc.kj
 unfold c16_3
 simp only [vmp,↓vmd,seval]
 refine onIf_intro fun _ => ?_
 simp only [vmp,↓vmd,seval]
 obtain ⟨j, hjj⟩ : ∃ j : Nat, j = k + k2 - 1 := ⟨_, rfl⟩
 rw [← hjj] at hc hj hm2
 by_cases h4 : (k2 : Int) < ((Y.length - k : Nat) : Int)
 case' neg => (
  refine onB_neg h4 ?_
  simp only [h4, vmp,↓vmd,seval]
  unfold c16_2
  have s2 := slcR_mid (n := 1) (b := 0) (off := 0) (len := Y.length) (l := m) (h := Y.length) (es := (Z.map I).map S.pure) (by omega) (Nat.le_refl _)
  have s3 := slcR_mid (n := 1) (b := 0) (off := 0) (len := Y.length) (l := 0) (h := m) (es := ((Z.take m).map I).map S.pure) (by omega) (by omega)
  have e0 : ((0 : Nat) : Int) = 0 := rfl
  rw [e0] at s3
  simp only [s2, s3, rI_take, vmp,↓vmd,seval]
  have hz : (Z.take m).length = m := by simp; omega
  exact ⟨⟨Z.take m, cp_end hc (by omega)⟩, by simp only [hz, Nat.zero_add, Nat.sub_zero], by simp only [Nat.zero_add, rI_take]⟩)
 have r3 := rI_nat (X := Z) (n := k + k2) (by omega)
 have r4 := rI_nat (X := Z) (n := j) (by omega)
 have r5 := rI_nat (X := Z) (n := m) (by omega)
 have ej : j = k + ((k2 : Int) - 1).toNat := by omega
 have w3 := w ((k2 : Int) - 1) (by omega) (by omega)
 have w4 : IntKind.wrap .i64 ((k2 : Int) + 1) = ((k2 + 1 : Nat) : Int) := by rw [w _ (by omega) (by omega)]; omega
 have w5 : IntKind.wrap .i64 ((m : Int) + 1) = ((m + 1 : Nat) : Int) := by rw [w _ (by omega) (by omega)]; omega
 have b3 : (0 : Int) ≤ k2 := by omega
 have b4 : (0 : Int) ≤ (k2 : Int) - 1 := by omega
 have b5 : (k2 : Int) - 1 < ((Y.length - k : Nat) : Int) := by omega
 have b6 : (0 : Int) ≤ m := by omega
 have b7 : (m : Int) < (Y.length : Int) := by omega
 have b8 : ((m : Int) < (Y.length : Int)) = True := by simp only [b7]
 have v3 := hc.same ((k + k2 : Nat) : Int) (by omega) (by omega)
 have v4 := hc.same j (by omega) (by omega)
 have vj : (((k + k2 : Nat) : Int)) = (j : Int) + 1 := by omega
 rw [v3, vj] at r3
 rw [v4, ej] at r4
 refine onB_pos h4 ?_
 (first | apply envO | apply envQ); simp only [h4, vmp,↓vmd,seval]; rfl
 simp only [h4, w3, b3, b4, b5, r3, r4, vmp,↓vmd,seval]
 rw [← ej]
 have b9 : (j : Int) + 1 < (Y.length : Int) := by omega
 by_cases h5 : gA Y ((j : Int) + 1) = gA Y j
 ·refine onB_neg (by simpa using h5) ?_
  (first | apply envO | apply envQ); simp only [h5, vmp,↓vmd,seval]; rfl
  simp only [h5, w4, vmp,↓vmd,seval]
  refine onBk_to (m, k2 + 1, Z) [0] (by simp) rfl (by simp only; omega) ⟨by simp, ?_⟩ (by simp only [kpp,seval]) (by simp only [kpp,seval])
  have := cp_same hc (by omega) h5
  simp only
  rwa [show k + (k2 + 1) - 1 = j + 1 by omega]
 ·refine onB_pos h5 ?_
  (first | apply envO | apply envQ); simp only [h5, vmp,↓vmd,seval]; rfl
  simp only [h5, w4, w5, b3, b6, b7, h4, r3, r5, rI_set, hl, vmp,↓vmd,seval]
  refine onBk_to (m + 1, k2 + 1, Z.set m (gA Y ((j : Int) + 1))) [0] (by simp) rfl (by simp only; omega) ⟨by simp, ?_⟩ (by simp only [kpp,seval]) (by simp only [kpp,seval])
  have := cp_next hc hs (by omega) h5
  simp only
  rwa [show k + (k2 + 1) - 1 = j + 1 by omega]
end Go.Proofs.Ytalhohfhjniapaa.W
