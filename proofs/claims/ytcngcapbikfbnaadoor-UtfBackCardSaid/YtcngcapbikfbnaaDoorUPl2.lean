/-
  Texts: what is written reads back; what is read writes back. Plain lists. No program in sight.
-/
import Derived.Test.YtcngcapbikfbnaaDoorU6
import Derived.Test.YtcngcapbikfbnaaDoorU8
import Derived.Test.YtcngcapbikfbnaaDoorU9
namespace Go.Proofs.YtcngcapbikfbnaaDoor.W
open Go Go.Vm Go.Proofs
set_option maxRecDepth 100000
set_option linter.unusedSimpArgs false
theorem lng_a {a : Int} (h0 : 194 ≤ a) : (a < 224 → lng a = 2) ∧ (224 ≤ a → a < 240 → lng a = 3) ∧ (240 ≤ a → a ≤ 244 → lng a = 4) := by
 refine ⟨fun h => ?_, fun h h' => ?_, fun h h' => ?_⟩
 ·rw [lng, if_neg (by omega), if_neg (by omega), if_pos h]
 ·rw [lng, if_neg (by omega), if_neg (by omega), if_neg (by omega), if_pos h']
 ·rw [lng, if_neg (by omega), if_neg (by omega), if_neg (by omega), if_neg (by omega)]
theorem gd_of {a c : Int} (h0 : 128 ≤ c) (h1 : c ≤ 191) (e1 : a = 224 → 160 ≤ c) (e2 : a = 237 → c ≤ 159) (e3 : a = 240 → 144 ≤ c) (e4 : a = 244 → c ≤ 143) : gd a 1 c := by
 rw [gd_one, lo2, hi2]
 constructor
 ·split
  ·exact e1 (by assumption)
  ·split
   ·exact e3 (by assumption)
   ·exact h0
 ·split
  ·exact e2 (by assumption)
  ·split
   ·exact e4 (by assumption)
   ·exact h1
/-- a right rune's form stands, and is that rune's -/
theorem val_form {r : Int} (hr : rightF r = true) (q : List Int) : okB (formF r ++ q) = true ∧ lng (hd (formF r ++ q)) = (formF r).length ∧ valF (formF r) = r := by
 obtain ⟨h1, h2, h3⟩ := right_iff.1 hr
 by_cases c1 : r < 128
 ·have e : formF r = [r] := by rw [formF, if_pos c1]
  rw [e]
  exact ⟨ok1 (lng1 c1), lng1 c1, rfl⟩
 by_cases c2 : r < 2048
 ·have e : formF r = [192 + r / 64, 128 + r % 64] := by rw [formF, if_neg c1, if_pos c2]
  have l : lng (192 + r / 64) = 2 := (lng_a (by omega)).1 (by omega)
  rw [e]
  refine ⟨(ok2 (b := [192 + r / 64, 128 + r % 64] ++ q) l).2 ⟨by simp, ?_⟩, l, ?_⟩
  ·exact gd_of (a := 192 + r / 64) (c := 128 + r % 64) (by omega) (by omega) (by omega) (by omega) (by omega) (by omega)
  ·show (192 + r / 64 - 192) * 64 + (128 + r % 64) - 128 = r
   omega
 by_cases c3 : r < 65536
 ·have e : formF r = [224 + r / 4096, 128 + r / 64 % 64, 128 + r % 64] := by rw [formF, if_neg c1, if_neg c2, if_pos c3]
  have l : lng (224 + r / 4096) = 3 := (lng_a (by omega)).2.1 (by omega) (by omega)
  rw [e]
  refine ⟨(ok3 (b := [224 + r / 4096, 128 + r / 64 % 64, 128 + r % 64] ++ q) l).2 ⟨by simp, ?_, ?_⟩, l, ?_⟩
  ·exact gd_of (a := 224 + r / 4096) (c := 128 + r / 64 % 64) (by omega) (by omega) (by omega) (by omega) (by omega) (by omega)
  ·exact (gd_up (a := 224 + r / 4096) (c := 128 + r % 64) (k := 2) (by omega)).2 ⟨by omega, by omega⟩
  ·show ((224 + r / 4096 - 224) * 64 + (128 + r / 64 % 64) - 128) * 64 + (128 + r % 64) - 128 = r
   omega
 ·have e : formF r = [240 + r / 262144, 128 + r / 4096 % 64, 128 + r / 64 % 64, 128 + r % 64] := by rw [formF, if_neg c1, if_neg c2, if_neg c3]
  have l : lng (240 + r / 262144) = 4 := (lng_a (by omega)).2.2 (by omega) (by omega)
  rw [e]
  refine ⟨(ok4 (b := [240 + r / 262144, 128 + r / 4096 % 64, 128 + r / 64 % 64, 128 + r % 64] ++ q) l).2 ⟨by simp, ?_, ?_, ?_⟩, l, ?_⟩
  ·exact gd_of (a := 240 + r / 262144) (c := 128 + r / 4096 % 64) (by omega) (by omega) (by omega) (by omega) (by omega) (by omega)
  ·exact (gd_up (a := 240 + r / 262144) (c := 128 + r / 64 % 64) (k := 2) (by omega)).2 ⟨by omega, by omega⟩
  ·exact (gd_up (a := 240 + r / 262144) (c := 128 + r % 64) (k := 3) (by omega)).2 ⟨by omega, by omega⟩
  ·show (((240 + r / 262144 - 240) * 64 + (128 + r / 4096 % 64) - 128) * 64 + (128 + r / 64 % 64) - 128) * 64 + (128 + r % 64) - 128 = r
   omega
/-! lossy reading -/
/-! reading -/
theorem deco_enc : ∀ {t : List Int} {f : Nat} {a : Int} {acc : List Int}, t.all rightF = true → (encF t).length ≤ f → decoF f (encF t) a acc = (acc ++ t, a + (encF t).length, 0)
 | [], f, a, acc, _, _ => by
  rw [show encF [] = [] from rfl, deco_nil]
  simp
 | r :: t, f, a, acc, h, hl => by
  rw [List.all_cons, Bool.and_eq_true] at h
  obtain ⟨v1, v2, v3⟩ := val_form h.1 (encF t)
  have e : encF (r :: t) = formF r ++ encF t := rfl
  have hfl := form_len (r := r)
  rw [e, List.length_append] at hl
  cases f with
  | zero => omega
  | succ f =>
   rw [e, deco_one (by intro h0; have := congrArg List.length h0; simp at this; rw [this.1] at hfl; simp at hfl) v1, v2, List.drop_left, List.take_left, v3, deco_enc h.2 (by omega)]
   simp only [List.append_assoc, List.cons_append, List.nil_append, List.length_append, Prod.mk.injEq, true_and, and_true]
   omega
/-! units -/
theorem from_enc : ∀ {t : List Int} {f : Nat} {a : Int} {acc : List Int}, t.all rightF = true → (unitsF t).length ≤ f → fromF f (unitsF t) a acc = (acc ++ t, a + (unitsF t).length, 0)
 | [], f, a, acc, _, _ => by
  rw [show unitsF [] = [] from rfl, from_nil]
  simp
 | r :: t, f, a, acc, h, hl => by
  rw [List.all_cons, Bool.and_eq_true] at h
  obtain ⟨h1, h2, h3⟩ := right_iff.1 h.1
  have e : unitsF (r :: t) = unitF r ++ unitsF t := rfl
  by_cases c : r < 65536
  ·have eu : unitF r = [r] := by rw [unitF, if_pos c]
   rw [e, eu, List.length_append] at hl
   cases f with
   | zero => simp at hl
   | succ f =>
    rw [e, eu, fromF, if_neg (by simp), if_pos (by show r < 55296 ∨ 57343 < r; exact h3)]
    show fromF f (unitsF t) (a + 1) (acc ++ [r]) = _
    rw [from_enc h.2 (by simp at hl; omega)]
    simp only [List.append_assoc, List.cons_append, List.nil_append, List.length_append, List.length_cons, List.length_nil, Prod.mk.injEq, true_and, and_true]
    omega
  ·have eu : unitF r = [55296 + (r - 65536) / 1024, 56320 + (r - 65536) % 1024] := by rw [unitF, if_neg c]
   rw [e, eu, List.length_append] at hl
   cases f with
   | zero => simp at hl
   | succ f =>
    rw [e, eu, fromF, if_neg (by simp)]
    show (if 55296 + (r - 65536) / 1024 < 55296 ∨ 57343 < 55296 + (r - 65536) / 1024 then _ else if 56319 < 55296 + (r - 65536) / 1024 then _ else if (unitsF t).length + 1 + 1 = 1 then _ else
     if 56320 ≤ 56320 + (r - 65536) % 1024 ∧ 56320 + (r - 65536) % 1024 ≤ 57343 then fromF f (unitsF t) (a + 2) (acc ++ [65536 + (55296 + (r - 65536) / 1024 - 55296) * 1024 + (56320 + (r - 65536) % 1024 - 56320)]) else _) = _
    rw [if_neg (by omega), if_neg (by omega), if_neg (by omega), if_pos (by omega), show 65536 + (55296 + (r - 65536) / 1024 - 55296) * 1024 + (56320 + (r - 65536) % 1024 - 56320) = r by omega]
    rw [from_enc h.2 (by simp at hl; omega)]
    simp only [List.append_assoc, List.cons_append, List.nil_append, List.length_append, List.length_cons, List.length_nil, Prod.mk.injEq, true_and, and_true]
    omega
/-! places -/
theorem plc_sum : ∀ {t : List Int} {i : Nat} {j : Int}, i ≤ t.length → plcF t j (sumF (t.take i)) = j + i
 | [], i, j, h => by
  obtain rfl : i = 0 := by simpa using h
  simp [plcF, sumF, encF]
 | r :: t, 0, j, _ => by
  have := szF_pos (r := r)
  rw [show sumF ((r :: t).take 0) = 0 from rfl, plcF, if_pos (by omega)]
  simp
 | r :: t, i + 1, j, h => by
  have e : sumF ((r :: t).take (i + 1)) = szF r + sumF (t.take i) := by simp [sumF, encF, szF]
  have h0 := (sum_le (t := t) (k := i)).1
  rw [e, plcF, if_neg (by omega), show szF r + sumF (t.take i) - szF r = sumF (t.take i) by omega, plc_sum (by simpa using h)]
  simp only [Int.natCast_add, Int.natCast_one]
  omega
end Go.Proofs.YtcngcapbikfbnaaDoor.W
