/-
  Breaking patterns of a row. No condition but on sizes.
-/
import Derived.Test.YtalhohfhjniapaaSrt5p
namespace Go.Proofs.Ytalhohfhjniapaa.W
open Go Go.Vm Go.Proofs
set_option maxRecDepth 100000
set_option linter.unusedSimpArgs false
set_option maxHeartbeats 4000000
/-! math/bits.Len64 -/
def c34 : AC :=
 (.seq (.reg [oo 2 (.mov (nI 0))])
 (.seq (.seq (.reg [oo 3 (.mov (.s 0)),
 oo 4 (.bin .geq (.s 3) (.c (.pure (.int .u64 4294967296))))])
 (.cond (.s 4)
 (.seq (.reg [oo 5 (.mov (.s 0)),
 oo 6 (.bin .shr (.s 5) (.c (.pure (.int .u64 32)))),
 oo 0 (.mov (.s 6))])
 (.reg [oo 2 (.mov (nI 32))]))
 .skip))
 (.seq (.seq (.reg [oo 7 (.mov (.s 0)),
 oo 8 (.bin .geq (.s 7) (.c (.pure (.int .u64 65536))))])
 (.cond (.s 8)
 (.seq (.reg [oo 9 (.mov (.s 0)),
 oo 10 (.bin .shr (.s 9) (.c (.pure (.int .u64 16)))),
 oo 0 (.mov (.s 10))])
 (.reg [oo 11 (.mov (.s 2)),
 oo 12 (.bin .add (.s 11) (nI 16)),
 oo 2 (.mov (.s 12))]))
 .skip))
 (.seq (.seq (.reg [oo 13 (.mov (.s 0)),
 oo 14 (.bin .geq (.s 13) (.c (.pure (.int .u64 256))))])
 (.cond (.s 14)
 (.seq (.reg [oo 15 (.mov (.s 0)),
 oo 16 (.bin .shr (.s 15) (.c (.pure (.int .u64 8)))),
 oo 0 (.mov (.s 16))])
 (.reg [oo 17 (.mov (.s 2)),
 oo 18 (.bin .add (.s 17) (nI 8)),
 oo 2 (.mov (.s 18))]))
 .skip))
 (.seq (.reg [oo 19 (.mov (.s 2)),
 oo 20 (.mov (.s 0)),
 oo 21 (.conv .u8 (.s 20)),
 oo 22 (.idxS (.c (.pure (.str [0, 1, 2, 2, 3, 3, 3, 3, 4, 4, 4, 4, 4, 4, 4, 4, 5, 5, 5, 5, 5, 5, 5, 5, 5, 5, 5, 5, 5, 5, 5, 5, 6, 6, 6, 6, 6, 6, 6, 6, 6, 6, 6, 6, 6, 6, 6, 6, 6, 6, 6, 6, 6, 6, 6, 6, 6, 6, 6, 6, 6, 6, 6, 6, 7, 7, 7, 7, 7, 7, 7, 7, 7, 7, 7, 7, 7, 7, 7, 7, 7, 7, 7, 7, 7, 7, 7, 7, 7, 7, 7, 7, 7, 7, 7, 7, 7, 7, 7, 7, 7, 7, 7, 7, 7, 7, 7, 7, 7, 7, 7, 7, 7, 7, 7, 7, 7, 7, 7, 7, 7, 7, 7, 7, 7, 7, 7, 7, 8, 8, 8, 8, 8, 8, 8, 8, 8, 8, 8, 8, 8, 8, 8, 8, 8, 8, 8, 8, 8, 8, 8, 8, 8, 8, 8, 8, 8, 8, 8, 8, 8, 8, 8, 8, 8, 8, 8, 8, 8, 8, 8, 8, 8, 8, 8, 8, 8, 8, 8, 8, 8, 8, 8, 8, 8, 8, 8, 8, 8, 8, 8, 8, 8, 8, 8, 8, 8, 8, 8, 8, 8, 8, 8, 8, 8, 8, 8, 8, 8, 8, 8, 8, 8, 8, 8, 8, 8, 8, 8, 8, 8, 8, 8, 8, 8, 8, 8, 8, 8, 8, 8, 8, 8, 8, 8, 8, 8, 8, 8, 8, 8, 8, 8, 8, 8, 8, 8, 8, 8, 8, 8, 8, 8, 8, 8, 8]))) (.s 21)),
 oo 23 (.conv .i64 (.s 22)),
 oo 24 (.bin .add (.s 19) (.s 23)),
 oo 2 (.mov (.s 24))])
 .ret)))))
theorem k34 : OkF 34 Try.f34 c34 [.t 2] 25 := ⟨Try.func34, by kernel_rfl, by kernel_rfl, by kernel_rfl, Try.ntmps34⟩
/-! math/bits.Len -/
def c23 : AC :=
 (.seq (.reg [oo 2 (.mov (nI 0))])
 (.seq (.cond (nB false)
 (.seq (.reg [oo 3 (.mov (.s 0)),
 oo 4 (.conv .u32 (.s 3)),
 oo 5 (.call 33 [(.s 4)]),
 oo 2 (.mov (.s 5))])
 .ret)
 .skip)
 (.seq (.reg [oo 6 (.mov (.s 0)),
 oo 7 (.call 34 [(.s 6)]),
 oo 2 (.mov (.s 7))])
 .ret)))
theorem k23 : OkF 23 Try.f23 c23 [.t 2] 8 := ⟨Try.func23, by kernel_rfl, by kernel_rfl, by kernel_rfl, Try.ntmps23⟩
/-! slices.nextPowerOfTwo -/
def c36 : AC :=
 (.seq (.reg [oo 2 (.mov (.c (.pure (.int .u64 0))))])
 (.seq (.reg [oo 3 (.mov (.s 0)),
 oo 4 (.conv .u64 (.s 3)),
 oo 5 (.call 23 [(.s 4)]),
 oo 6 (.bin .shl (.c (.pure (.int .u64 1))) (.s 5)),
 oo 2 (.mov (.s 6))])
 .ret))
theorem k36 : OkF 36 Try.f36 c36 [.t 2] 7 := ⟨Try.func36, by kernel_rfl, by kernel_rfl, by kernel_rfl, Try.ntmps36⟩
/-! (*slices.xorshift).Next -/
def c37 : AC :=
 (.seq (.reg [oo 2 (.mov (.c (.pure (.int .u64 0))))])
 (.seq (.regq [oo 3 (.mov (.s 0)),
 oo 4 (.nilck (.s 3)),
 oo 5 (.load false 1 (.s 4)),
 oo 6 (.mov (.s 0)),
 oo 7 (.nilck (.s 6)),
 oo 8 (.load false 1 (.s 7)),
 oo 9 (.bin .shl (.s 8) (.c (.pure (.int .u64 13))))]
[oo 10 (.bin .xor (.s 5) (.s 9)),
 oo 11 (.nilck (.s 3)),
⟨none, none, .store 1 (.s 11) (.s 10)⟩])
 (.seq (.regq [oo 12 (.mov (.s 0)),
 oo 13 (.nilck (.s 12)),
 oo 14 (.load false 1 (.s 13)),
 oo 15 (.mov (.s 0)),
 oo 16 (.nilck (.s 15)),
 oo 17 (.load false 1 (.s 16)),
 oo 18 (.bin .shr (.s 17) (.c (.pure (.int .u64 7))))]
[oo 19 (.bin .xor (.s 14) (.s 18)),
 oo 20 (.nilck (.s 12)),
⟨none, none, .store 1 (.s 20) (.s 19)⟩])
 (.seq (.regq [oo 21 (.mov (.s 0)),
 oo 22 (.nilck (.s 21)),
 oo 23 (.load false 1 (.s 22)),
 oo 24 (.mov (.s 0)),
 oo 25 (.nilck (.s 24)),
 oo 26 (.load false 1 (.s 25)),
 oo 27 (.bin .shl (.s 26) (.c (.pure (.int .u64 17))))]
[oo 28 (.bin .xor (.s 23) (.s 27)),
 oo 29 (.nilck (.s 21)),
⟨none, none, .store 1 (.s 29) (.s 28)⟩])
 (.seq (.reg [oo 30 (.mov (.s 0)),
 oo 31 (.nilck (.s 30)),
 oo 32 (.load false 1 (.s 31)),
 oo 2 (.mov (.s 32))])
 .ret)))))
theorem k37 : OkF 37 Try.f37 c37 [.t 2] 33 := ⟨Try.func37, by kernel_rfl, by kernel_rfl, by kernel_rfl, Try.ntmps37⟩
/-! slices.breakPatternsOrdered[int] -/
def c26_0 : AC :=
 (.seq (.seq (.reg [oo 26 (.mov (.s 9)),
 oo 27 (.mov (.s 1)),
 oo 28 (.mov (.s 6)),
 oo 29 (.bin .quo (.s 28) (nI 4)),
 oo 30 (.bin .mul (.s 29) (nI 2)),
 oo 31 (.bin .add (.s 27) (.s 30)),
 oo 32 (.bin .add (.s 31) (nI 1)),
 oo 33 (.bin .leq (.s 26) (.s 32))])
 (.cond (.s 33)
 .skip
 (.exit 0)))
 (.seq (.block 1
 (.seq (.reg [oo 36 (.call 37 [(.s 7)]),
 oo 37 (.mov (.s 8)),
 oo 38 (.bin .sub (.s 37) (.c (.pure (.int .u64 1)))),
 oo 39 (.bin .and (.s 36) (.s 38)),
 oo 40 (.conv .i64 (.s 39)),
 oo 10 (.mov (.s 40))])
 (.seq (.seq (.reg [oo 41 (.mov (.s 10)),
 oo 42 (.mov (.s 6)),
 oo 43 (.bin .geq (.s 41) (.s 42))])
 (.cond (.s 43)
 (.reg [oo 44 (.mov (.s 10)),
 oo 45 (.mov (.s 6)),
 oo 46 (.bin .sub (.s 44) (.s 45)),
 oo 10 (.mov (.s 46))])
 .skip))
 (.regq [oo 47 (.mov (.s 0)),
 oo 48 (.mov (.s 9)),
 oo 49 (.mov (.s 0)),
 oo 50 (.mov (.s 1)),
 oo 51 (.mov (.s 10)),
 oo 52 (.bin .add (.s 50) (.s 51)),
 oo 53 (.mov (.s 0)),
 oo 54 (.mov (.s 1)),
 oo 55 (.mov (.s 10)),
 oo 56 (.bin .add (.s 54) (.s 55)),
 oo 57 (.idxA 1 (.s 53) (.s 56)),
 oo 58 (.load false 1 (.s 57)),
 oo 59 (.mov (.s 0)),
 oo 60 (.mov (.s 9)),
 oo 61 (.idxA 1 (.s 59) (.s 60)),
 oo 62 (.load false 1 (.s 61)),
 oo 63 (.idxA 1 (.s 47) (.s 48))]
[⟨none, none, .store 1 (.s 63) (.s 58)⟩,
 oo 64 (.idxA 1 (.s 49) (.s 52)),
⟨none, none, .store 1 (.s 64) (.s 62)⟩]))))
 (.reg [oo 34 (.mov (.s 9)),
 oo 35 (.bin .add (.s 34) (nI 1)),
 oo 9 (.mov (.s 35))])))
def c26 : AC :=
 (.seq (.reg [oo 11 (.mov (.s 2)),
 oo 12 (.mov (.s 1)),
 oo 13 (.bin .sub (.s 11) (.s 12)),
 oo 6 (.mov (.s 13))])
 (.seq (.reg [oo 14 (.mov (.s 6)),
 oo 15 (.bin .geq (.s 14) (nI 8))])
 (.cond (.s 15)
 (.seq (.reg [oo 16 (.mov (.s 6)),
 oo 17 (.conv .u64 (.s 16)),
 oo 7 (.box (.c (.pure (.int .u64 0)))),
⟨none, none, .store 1 (.s 7) (.s 17)⟩])
 (.seq (.reg [oo 18 (.mov (.s 6)),
 oo 19 (.call 36 [(.s 18)]),
 oo 8 (.mov (.s 19))])
 (.seq (.reg [oo 20 (.mov (.s 1)),
 oo 21 (.mov (.s 6)),
 oo 22 (.bin .quo (.s 21) (nI 4)),
 oo 23 (.bin .mul (.s 22) (nI 2)),
 oo 24 (.bin .add (.s 20) (.s 23)),
 oo 25 (.bin .sub (.s 24) (nI 1)),
 oo 9 (.mov (.s 25))])
 (.block 0
 (.loop c26_0)))))
 .skip)))
theorem k26 : OkF 26 Try.f26 c26 [] 65 := ⟨Try.func26, by kernel_rfl, by kernel_rfl, by kernel_rfl, Try.ntmps26⟩
abbrev lenT : List UInt8 := [0, 1, 2, 2, 3, 3, 3, 3, 4, 4, 4, 4, 4, 4, 4, 4, 5, 5, 5, 5, 5, 5, 5, 5, 5, 5, 5, 5, 5, 5, 5, 5, 6, 6, 6, 6, 6, 6, 6, 6, 6, 6, 6, 6, 6, 6, 6, 6, 6, 6, 6, 6, 6, 6, 6, 6, 6, 6, 6, 6, 6, 6, 6, 6, 7, 7, 7, 7, 7, 7, 7, 7, 7, 7, 7, 7, 7, 7, 7, 7, 7, 7, 7, 7, 7, 7, 7, 7, 7, 7, 7, 7, 7, 7, 7, 7, 7, 7, 7, 7, 7, 7, 7, 7, 7, 7, 7, 7, 7, 7, 7, 7, 7, 7, 7, 7, 7, 7, 7, 7, 7, 7, 7, 7, 7, 7, 7, 7, 8, 8, 8, 8, 8, 8, 8, 8, 8, 8, 8, 8, 8, 8, 8, 8, 8, 8, 8, 8, 8, 8, 8, 8, 8, 8, 8, 8, 8, 8, 8, 8, 8, 8, 8, 8, 8, 8, 8, 8, 8, 8, 8, 8, 8, 8, 8, 8, 8, 8, 8, 8, 8, 8, 8, 8, 8, 8, 8, 8, 8, 8, 8, 8, 8, 8, 8, 8, 8, 8, 8, 8, 8, 8, 8, 8, 8, 8, 8, 8, 8, 8, 8, 8, 8, 8, 8, 8, 8, 8, 8, 8, 8, 8, 8, 8, 8, 8, 8, 8, 8, 8, 8, 8, 8, 8, 8, 8, 8, 8, 8, 8, 8, 8, 8, 8, 8, 8, 8, 8, 8, 8, 8, 8, 8, 8, 8, 8]
theorem lenT_p : ∀ n : Fin 200, 8 ≤ n.val → 2 ^ ((lenT[n.val]?).getD 0).toNat ≤ 2 * n.val := by decide +kernel
theorem len64_q (n : Nat) (h : n < 256) (t : UInt8) (ht : lenT[n]? = some t) : FnQ Try.prog 34 [.int .u64 n] [I t.toNat] := by
 refine k34.q (by simp) ?_
 unfold c34
 have hb := t.toNat_lt
 have w1 : IntKind.wrap .u8 (n : Int) = n := by simp [IntKind.wrap, IntKind.bits, IntKind.signed]; omega
 have w2 : IntKind.wrap .i64 (t.toNat : Int) = t.toNat := wrap_id (by omega) (by omega)
 have w3 : IntKind.wrap .i64 (0 + (t.toNat : Int)) = t.toNat := by rw [Int.zero_add]; exact w2
 have w4 : 0 ≤ (n : Int) := by omega
 simp only [vmp,↓vmd,seval]
 refine onB_neg (show ¬ (4294967296 : Int) ≤ (n : Int) by omega) ?_
 simp only [vmp,↓vmd,seval]
 refine onB_neg (show ¬ (65536 : Int) ≤ (n : Int) by omega) ?_
 simp only [vmp,↓vmd,seval]
 refine onB_neg (show ¬ (256 : Int) ≤ (n : Int) by omega) ?_
 simp only [w1, w2, w3, w4, ht, vmp,↓vmd,seval]
 exact gives_pure
theorem len_q (n : Nat) (h : n < 256) (t : UInt8) (ht : lenT[n]? = some t) : FnQ Try.prog 23 [.int .u64 n] [I t.toNat] := by
 refine k23.q (by simp) ?_
 unfold c23
 simp only [vmp,↓vmd,seval]
 refine onC_q (len64_q n h t ht) rfl ?_
 (first | apply envO | apply envQ); simp only [vmp,↓vmd,seval]; rfl
 simp only [vmp,↓vmd,seval]
 exact gives_pure
theorem pow_q (n : Nat) (h1 : 8 ≤ n) (h2 : n < 200) : ∃ M : Nat, 0 < M ∧ M ≤ 2 * n ∧ FnQ Try.prog 36 [I n] [.int .u64 M] := by
 have hp := lenT_p ⟨n, h2⟩ h1
 obtain ⟨t, ht⟩ : ∃ t, lenT[n]? = some t := ⟨_, List.getElem?_eq_getElem (show n < lenT.length by simp; omega)⟩
 simp only [ht, Option.getD_some] at hp
 have ht8 : t.toNat ≤ 8 := by
  refine Classical.byContradiction fun hc => ?_
  have : 2 ^ 9 ≤ 2 ^ t.toNat := Nat.pow_le_pow_right (by omega) (by omega)
  omega
 have hpos : 0 < 2 ^ t.toNat := Nat.pos_of_ne_zero (by simp)
 refine ⟨2 ^ t.toNat, hpos, hp, ?_⟩
 refine k36.q (by simp) ?_
 unfold c36
 have w1 : IntKind.wrap .u64 (n : Int) = n := by simp [IntKind.wrap, IntKind.bits, IntKind.signed]; omega
 have w2 : IntKind.wrap .u64 (1 * 2 ^ (min (t.toNat : Int).toNat (IntKind.bits .u64))) = (2 ^ t.toNat : Nat) := by
  have e : min (t.toNat : Int).toNat (IntKind.bits .u64) = t.toNat := by simp [IntKind.bits]; omega
  rw [e, Int.one_mul]
  have : ((2 ^ t.toNat : Nat) : Int) = 2 ^ t.toNat := by simp
  rw [← this]
  simp only [IntKind.wrap, IntKind.bits, IntKind.signed]
  simp
  omega
 have w3 : ¬ (t.toNat : Int) < 0 := by omega
 simp only [Int.toNat_natCast] at w2
 simp only [w1, vmp,↓vmd,seval]
 refine onC_q (len_q n (by omega) t ht) rfl ?_
 (first | apply envO | apply envQ); simp only [vmp,↓vmd,seval]; rfl
 simp only [w2, w3, vmp,↓vmd,seval]
 exact gives_pure
abbrev rU (v : Int) : Row := ⟨[.pure (.int .u64 v)], 1, .live⟩
theorem bin_xor {k : IntKind} {a b : Int} : binF .xor (.pure (.int k a)) (.pure (.int k b)) = some (.pure (.int k (k.wrap (BitVec.ofInt k.bits a ^^^ BitVec.ofInt k.bits b).toNat))) := by simp [binF, intF]
theorem next_c (v : Int) : CallA Try.prog 37 [.ptr 0 0 0] [rU v] fun s H' => ∃ u : Int, s = .pure (.int .u64 u) ∧ H' = [rU u] := by
 refine CallA.weak (K := fun s H' => ∃ u : Int, s = .pure (.int .u64 u) ∧ H' = [rU u]) ?_ ?_
 ·refine k37.a (by simp) ?_
  unfold c37
  simp only [bin_xor, vmp,↓vmd,seval]
  exact ⟨_, rfl, rfl⟩
 ·rintro r H' ⟨u, rfl, rfl⟩
  exact ⟨[0], _, _, by simp, rfl, (by simp only [kpp,seval]), (by simp only [kpp,seval]), u, rfl, rfl⟩
theorem and_lt (x : Int) (M : Nat) (h0 : 0 < M) (h1 : M ≤ 1000) : ∃ k : Nat, k < M ∧ IntKind.wrap .i64 (IntKind.wrap .u64 ((BitVec.ofInt (IntKind.bits .u64) x &&& BitVec.ofInt (IntKind.bits .u64) (IntKind.wrap .u64 ((M : Int) - 1))).toNat : Int)) = k := by
 have e1 : IntKind.wrap .u64 ((M : Int) - 1) = ((M - 1 : Nat) : Int) := by
  simp only [IntKind.wrap, IntKind.bits, IntKind.signed]
  simp
  omega
 rw [e1]
 have e2 : (BitVec.ofInt (IntKind.bits .u64) x &&& BitVec.ofInt (IntKind.bits .u64) ((M - 1 : Nat) : Int)).toNat ≤ M - 1 := by
  rw [BitVec.toNat_and]
  refine Nat.le_trans Nat.and_le_right ?_
  simp only [IntKind.bits, BitVec.toNat_ofInt]
  omega
 generalize (BitVec.ofInt (IntKind.bits .u64) x &&& BitVec.ofInt (IntKind.bits .u64) ((M - 1 : Nat) : Int)).toNat = k at *
 refine ⟨k, by omega, ?_⟩
 simp only [IntKind.wrap, IntKind.bits, IntKind.signed]
 simp
 omega
theorem break_c (X : List Int) (a b : Int) (ha : 0 ≤ a) (hab : a + 8 ≤ b) (hab' : b < a + 200) (hb : b ≤ X.length) (hX : X.length ≤ 1000) : CallA Try.prog 26 [.rsl 0 0 X.length, .pure (I a), .pure (I b)] [rI X]
  fun s H' => s = .tup [] ∧ ∃ Y : {Y // Pm a b X Y}, H' = [rI Y.1] := by
 refine CallA.weak (K := fun s H' => s = .tup [] ∧ ∃ Y : List Int × Int, Pm a b X Y.1 ∧ H' = [rI Y.1, rU Y.2]) ?_ ?_
 ·refine k26.a (by simp) ?_
  unfold c26
  have w := fun (k : Int) (h1 : -5000 ≤ k) (h2 : k ≤ 5000) => wrap_id (n := k) (by omega) (by omega)
  obtain ⟨n, hn⟩ : ∃ n : Nat, b - a = n := ⟨(b - a).toNat, by omega⟩
  have e1 := w n (by omega) (by omega)
  obtain ⟨q, hq⟩ : ∃ q, (n : Int) / 4 = q := ⟨_, rfl⟩
  have e2 : IntKind.wrap .i64 ((n : Int).tdiv 4) = q := by
   rw [Int.tdiv_eq_ediv_of_nonneg (by omega), hq]
   exact w _ (by omega) (by omega)
  have e3 := w (q * 2) (by omega) (by omega)
  have e4 := w (a + q * 2) (by omega) (by omega)
  have e5 := w (a + q * 2 - 1) (by omega) (by omega)
  have e6 := w (a + q * 2 + 1) (by omega) (by omega)
  obtain ⟨M, hM0, hM, hpow⟩ := pow_q n (by omega) (by omega)
  simp only [hn, e1, vmp,↓vmd,seval]
  refine onB_pos (show (8 : Int) ≤ n by omega) ?_
  simp only [vmp,↓vmd,seval]
  refine onC_q hpow rfl ?_
  (first | apply envO | apply envQ); simp only [vmp,↓vmd,seval]; rfl
  simp only [e2, e3, e4, e5, vmp,↓vmd,seval]
  generalize IntKind.wrap .u64 (n : Int) = v at *
  refine loop_at (T := Int × List Int × Int) (fun z => [(9, .pure (I z.1)), (7, .ptr 1 0 0), (8, .pure (.int .u64 M)), (6, .pure (I n)), (0, .rsl 0 0 X.length), (1, .pure (I a))]) (fun z => [rI z.2.1, rU z.2.2])
   (fun z => a + q * 2 - 1 ≤ z.1 ∧ z.1 ≤ a + q * 2 + 2 ∧ Pm a b X z.2.1) (fun z => (a + q * 2 + 2 - z.1).toNat)
   (a + q * 2 - 1, X, v) [0, 1] (by simp) rfl ⟨by simp, by simp only; omega, .refl⟩ (by simp only [kpp,seval]) (by simp only [kpp,seval]) ?_
  rintro ⟨i, Y, v⟩ ⟨hi1, hi2, hP⟩
  simp only at hi1 hi2 hP
  have hl := hP.len
  unfold c26_0
  simp only [e2, e3, e4, e6, vmp,↓vmd,seval]
  refine onB_dec (fun h1 => ?_) (fun h1 => ?_)
  ·have w1 := w (i + 1) (by omega) (by omega)
   (first | apply envO | apply envQ); simp only [h1, vmp,↓vmd,seval]; rfl
   simp only [h1, vmp,↓vmd,seval]
   refine onC_fe (next_c v) [1] (by simp) (by simp only [kpp,seval]) rfl rfl ?_
   intro u
   refine ⟨by simp, ?_⟩
   obtain ⟨k, hk, ek⟩ := and_lt u M hM0 (by omega)
   (first | apply envO | apply envQ); simp only [ek, vmp,↓vmd,seval]; rfl
   simp only [ek, vmp,↓vmd,seval]
   by_cases h2 : (n : Int) ≤ (k : Int)
   ·have w2 := w ((k : Int) - n) (by omega) (by omega)
    refine onB_pos h2 ?_
    simp only [w2, vmp,↓vmd,seval]
    have w3 := w (a + ((k : Int) - n)) (by omega) (by omega)
    have r1 := rI_at (X := Y) (i := i) (by omega) (by omega)
    have r2 := rI_at (X := Y) (i := a + ((k : Int) - n)) (by omega) (by omega)
    have r3 := rI_at2 (X := Y) (n := i.toNat) (v := gA Y (a + ((k : Int) - n))) (i := a + ((k : Int) - n)) (by omega) (by omega)
    have b1 : 0 ≤ i := by omega
    have b2 : i < (X.length : Int) := by omega
    have b3 : 0 ≤ a + ((k : Int) - n) := by omega
    have b4 : a + ((k : Int) - n) < (X.length : Int) := by omega
    have hs : (Y.set i.toNat (gA Y (a + ((k : Int) - n)))).set (a + ((k : Int) - n)).toNat (gA Y i) = swp Y i (a + ((k : Int) - n)) := rfl
    simp only [w3, r1, r2, r3, b1, b2, b3, b4, rI_set, hs, w1, vmp,↓vmd,seval]
    refine onBk_to (i + 1, swp Y i (a + ((k : Int) - n)), u) [0, 1] (by simp) rfl (by simp only; omega) ⟨by simp only; omega, by simp only; omega, hP.swap (by omega) (by omega) (by omega) (by omega)⟩ (by simp only [kpp,seval]) (by simp only [kpp,seval])
   ·refine onB_neg h2 ?_
    simp only [vmp,↓vmd,seval]
    have w3 := w (a + (k : Int)) (by omega) (by omega)
    have r1 := rI_at (X := Y) (i := i) (by omega) (by omega)
    have r2 := rI_at (X := Y) (i := a + (k : Int)) (by omega) (by omega)
    have r3 := rI_at2 (X := Y) (n := i.toNat) (v := gA Y (a + (k : Int))) (i := a + (k : Int)) (by omega) (by omega)
    have b1 : 0 ≤ i := by omega
    have b2 : i < (X.length : Int) := by omega
    have b3 : 0 ≤ a + (k : Int) := by omega
    have b4 : a + (k : Int) < (X.length : Int) := by omega
    have hs : (Y.set i.toNat (gA Y (a + (k : Int)))).set (a + (k : Int)).toNat (gA Y i) = swp Y i (a + (k : Int)) := rfl
    simp only [w3, r1, r2, r3, b1, b2, b3, b4, rI_set, hs, w1, vmp,↓vmd,seval]
    refine onBk_to (i + 1, swp Y i (a + (k : Int)), u) [0, 1] (by simp) rfl (by simp only; omega) ⟨by simp only; omega, by simp only; omega, hP.swap (by omega) (by omega) (by omega) (by omega)⟩ (by simp only [kpp,seval]) (by simp only [kpp,seval])
  ·simp only [h1, vmp,↓vmd,seval]
   exact ⟨(Y, v), hP, rfl⟩
 ·rintro r H' ⟨rfl, Y, hY, rfl⟩
  exact ⟨[0], _, _, by simp, rfl, (by simp only [kpp,seval]), (by simp only [kpp,seval]), rfl, ⟨Y.1, hY⟩, rfl⟩
end Go.Proofs.Ytalhohfhjniapaa.W
