/-
  Bits of bytes and of runes. Plain numbers. No program in sight.
-/
import Derived.Test.YtcngcapbikfbnaaDoorUPl
namespace Go.Proofs.YtcngcapbikfbnaaDoor.W
open Go Go.Vm Go.Proofs
set_option maxRecDepth 100000
set_option linter.unusedSimpArgs false
theorem wu8 {n : Int} (_h0 : 0 ≤ n) : IntKind.wrap .u8 n = n % 256 := by simp [IntKind.wrap, IntKind.bits, IntKind.signed]
theorem wu8_id {n : Int} (h0 : 0 ≤ n) (h1 : n ≤ 255) : IntKind.wrap .u8 n = n := by rw [wu8 h0]; omega
theorem wu16_id {n : Int} (h0 : 0 ≤ n) (h1 : n ≤ 65535) : IntKind.wrap .u16 n = n := by simp [IntKind.wrap, IntKind.bits, IntKind.signed]; omega
theorem wu32_id {n : Int} (h0 : 0 ≤ n) (h1 : n ≤ 4294967295) : IntKind.wrap .u32 n = n := by simp [IntKind.wrap, IntKind.bits, IntKind.signed]; omega
theorem wi32_id {n : Int} (h0 : -2147483648 ≤ n) (h1 : n ≤ 2147483647) : IntKind.wrap .i32 n = n := by simp [IntKind.wrap, IntKind.bits, IntKind.signed]; omega
theorem ofi8 (a : Nat) (h : a < 256) : (BitVec.ofInt (IntKind.bits .u8) (a : Int)).toNat = a := by
 simp only [IntKind.bits, BitVec.toNat_ofInt]
 omega
theorem ofi32 (a : Nat) (h : a < 2147483648) : (BitVec.ofInt (IntKind.bits .i32) (a : Int)).toNat = a := by
 simp only [IntKind.bits, BitVec.toNat_ofInt]
 omega
theorem and8n (a b : Nat) (ha : a < 256) (hb : b < 256) : IntKind.wrap .u8 ((BitVec.ofInt (IntKind.bits .u8) (a : Int) &&& BitVec.ofInt (IntKind.bits .u8) (b : Int)).toNat : Int) = ((a &&& b : Nat) : Int) := by
 have e : (BitVec.ofInt (IntKind.bits .u8) (a : Int) &&& BitVec.ofInt (IntKind.bits .u8) (b : Int)).toNat = a &&& b := by
  rw [BitVec.toNat_and, ofi8 a ha, ofi8 b hb]
 rw [e]
 have := Nat.and_le_left (n := a) (m := b)
 exact wu8_id (by omega) (by omega)
theorem or8n (a b : Nat) (ha : a < 256) (hb : b < 256) : IntKind.wrap .u8 ((BitVec.ofInt (IntKind.bits .u8) (a : Int) ||| BitVec.ofInt (IntKind.bits .u8) (b : Int)).toNat : Int) = ((a ||| b : Nat) : Int) := by
 have e : (BitVec.ofInt (IntKind.bits .u8) (a : Int) ||| BitVec.ofInt (IntKind.bits .u8) (b : Int)).toNat = a ||| b := by
  rw [BitVec.toNat_or, ofi8 a ha, ofi8 b hb]
 rw [e]
 have := Nat.or_lt_two_pow (n := 8) (x := a) (y := b) (by omega) (by omega)
 exact wu8_id (by omega) (by omega)
theorem or32n (a b : Nat) (ha : a < 2147483648) (hb : b < 2147483648) : IntKind.wrap .i32 ((BitVec.ofInt (IntKind.bits .i32) (a : Int) ||| BitVec.ofInt (IntKind.bits .i32) (b : Int)).toNat : Int) = ((a ||| b : Nat) : Int) := by
 have e : (BitVec.ofInt (IntKind.bits .i32) (a : Int) ||| BitVec.ofInt (IntKind.bits .i32) (b : Int)).toNat = a ||| b := by
  rw [BitVec.toNat_or, ofi32 a ha, ofi32 b hb]
 rw [e]
 have := Nat.or_lt_two_pow (n := 31) (x := a) (y := b) (by omega) (by omega)
 exact wi32_id (by omega) (by omega)
theorem and32n (a b : Nat) (ha : a < 2147483648) (hb : b < 2147483648) : IntKind.wrap .i32 ((BitVec.ofInt (IntKind.bits .i32) (a : Int) &&& BitVec.ofInt (IntKind.bits .i32) (b : Int)).toNat : Int) = ((a &&& b : Nat) : Int) := by
 have e : (BitVec.ofInt (IntKind.bits .i32) (a : Int) &&& BitVec.ofInt (IntKind.bits .i32) (b : Int)).toNat = a &&& b := by
  rw [BitVec.toNat_and, ofi32 a ha, ofi32 b hb]
 rw [e]
 have := Nat.and_le_left (n := a) (m := b)
 exact wi32_id (by omega) (by omega)
theorem or_pow {a b : Nat} (i : Nat) (hb : b < 2 ^ i) : (2 ^ i * a) ||| b = 2 ^ i * a + b := (Nat.two_pow_add_eq_or_of_lt hb a).symm
/-! bytes -/
theorem or128 {z : Int} (h0 : 0 ≤ z) (h1 : z < 64) : IntKind.wrap .u8 ((BitVec.ofInt (IntKind.bits .u8) 128 ||| BitVec.ofInt (IntKind.bits .u8) z).toNat : Int) = 128 + z := by
 obtain ⟨n, rfl⟩ := Int.eq_ofNat_of_zero_le h0
 have := or8n 128 n (by omega) (by omega)
 rw [or_pow (a := 2) 6 (by omega)] at this
 simpa using this
theorem or192 {z : Int} (h0 : 0 ≤ z) (h1 : z < 32) : IntKind.wrap .u8 ((BitVec.ofInt (IntKind.bits .u8) 192 ||| BitVec.ofInt (IntKind.bits .u8) z).toNat : Int) = 192 + z := by
 obtain ⟨n, rfl⟩ := Int.eq_ofNat_of_zero_le h0
 have := or8n 192 n (by omega) (by omega)
 rw [or_pow (a := 6) 5 (by omega)] at this
 simpa using this
theorem or224 {z : Int} (h0 : 0 ≤ z) (h1 : z < 16) : IntKind.wrap .u8 ((BitVec.ofInt (IntKind.bits .u8) 224 ||| BitVec.ofInt (IntKind.bits .u8) z).toNat : Int) = 224 + z := by
 obtain ⟨n, rfl⟩ := Int.eq_ofNat_of_zero_le h0
 have := or8n 224 n (by omega) (by omega)
 rw [or_pow (a := 14) 4 (by omega)] at this
 simpa using this
theorem or240 {z : Int} (h0 : 0 ≤ z) (h1 : z < 8) : IntKind.wrap .u8 ((BitVec.ofInt (IntKind.bits .u8) 240 ||| BitVec.ofInt (IntKind.bits .u8) z).toNat : Int) = 240 + z := by
 obtain ⟨n, rfl⟩ := Int.eq_ofNat_of_zero_le h0
 have := or8n 240 n (by omega) (by omega)
 rw [or_pow (a := 30) 3 (by omega)] at this
 simpa using this
theorem and8 (i : Nat) (hi : 2 ^ i - 1 < 256) {z m : Int} (hm : m = ((2 ^ i - 1 : Nat) : Int)) (h0 : 0 ≤ z) (h1 : z < 256) : IntKind.wrap .u8 ((BitVec.ofInt (IntKind.bits .u8) z &&& BitVec.ofInt (IntKind.bits .u8) m).toNat : Int) = z % 2 ^ i := by
 obtain ⟨n, rfl⟩ := Int.eq_ofNat_of_zero_le h0
 rw [hm, and8n n _ (by omega) hi, Nat.and_two_pow_sub_one_eq_mod]
 simp
theorem and63 {z : Int} (h0 : 0 ≤ z) (h1 : z < 256) : IntKind.wrap .u8 ((BitVec.ofInt (IntKind.bits .u8) z &&& BitVec.ofInt (IntKind.bits .u8) 63).toNat : Int) = z % 64 := and8 6 (by decide) rfl h0 h1
theorem and31 {z : Int} (h0 : 0 ≤ z) (h1 : z < 256) : IntKind.wrap .u8 ((BitVec.ofInt (IntKind.bits .u8) z &&& BitVec.ofInt (IntKind.bits .u8) 31).toNat : Int) = z % 32 := and8 5 (by decide) rfl h0 h1
theorem and15 {z : Int} (h0 : 0 ≤ z) (h1 : z < 256) : IntKind.wrap .u8 ((BitVec.ofInt (IntKind.bits .u8) z &&& BitVec.ofInt (IntKind.bits .u8) 15).toNat : Int) = z % 16 := and8 4 (by decide) rfl h0 h1
theorem and7 {z : Int} (h0 : 0 ≤ z) (h1 : z < 256) : IntKind.wrap .u8 ((BitVec.ofInt (IntKind.bits .u8) z &&& BitVec.ofInt (IntKind.bits .u8) 7).toNat : Int) = z % 8 := and8 3 (by decide) rfl h0 h1
/-! runes -/
theorem or32 (i : Nat) {x y : Int} {a : Int} (hx : x = 2 ^ i * a) (ha : 0 ≤ a) (hx1 : x < 2147483648) (hy : 0 ≤ y) (hy1 : y < 2 ^ i) (hy2 : y < 2147483648) :
  IntKind.wrap .i32 ((BitVec.ofInt (IntKind.bits .i32) x ||| BitVec.ofInt (IntKind.bits .i32) y).toNat : Int) = x + y := by
 obtain ⟨n, rfl⟩ := Int.eq_ofNat_of_zero_le ha
 obtain ⟨m, rfl⟩ := Int.eq_ofNat_of_zero_le hy
 have e : x = ((2 ^ i * n : Nat) : Int) := by rw [hx]; simp
 have hm : m < 2 ^ i := by
  have : ((m : Nat) : Int) < ((2 ^ i : Nat) : Int) := by simpa using hy1
  omega
 rw [e, or32n _ _ (by omega) (by omega), or_pow i hm]
 simp
theorem and1023 {z : Int} (h0 : 0 ≤ z) (h1 : z < 2147483648) : IntKind.wrap .i32 ((BitVec.ofInt (IntKind.bits .i32) z &&& BitVec.ofInt (IntKind.bits .i32) 1023).toNat : Int) = z % 1024 := by
 obtain ⟨n, rfl⟩ := Int.eq_ofNat_of_zero_le h0
 have := and32n n 1023 (by omega) (by omega)
 rw [show (1023 : Nat) = 2 ^ 10 - 1 from rfl, Nat.and_two_pow_sub_one_eq_mod] at this
 simpa using this
theorem shr_div {r : Int} {i : Nat} : Int.fdiv r (2 ^ i) = r / 2 ^ i := by
 rw [Int.fdiv_eq_ediv_of_nonneg _ (Int.le_of_lt (Int.pow_pos (by omega)))]
end Go.Proofs.YtcngcapbikfbnaaDoor.W
