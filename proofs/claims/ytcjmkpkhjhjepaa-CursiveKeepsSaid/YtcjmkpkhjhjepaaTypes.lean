/-
  The shapes of the program's types: spans, glyphs, lookups, fonts. No condition.
-/
import Derived.Test.YtcjmkpkhjhjepaaSkip
namespace Go.Proofs.Ytcjmkpkhjhjepaa.W
open Go Go.Vm Go.Proofs
set_option maxRecDepth 100000
def foC : List CT := [N64, .sl true [N64, N64, N64, .sl false [N64]], .sl true [.int .i32, N64], .sl true lkC, .sl true [.str, N64, .sl false [N64]], .sl false [.sl false [N64]]]
theorem ty_lookup : tyC Try.prog 20 31 = some (true, lkC) := by kernel_rfl
theorem ty_font : tyC Try.prog 20 28 = some (true, foC) := by kernel_rfl
theorem ty_int : tyC Try.prog 20 3 = some (false, [.int .i64]) := by kernel_rfl
theorem ty_ints : tyC Try.prog 20 72 = some (false, [.sl false [.int .i64]]) := by kernel_rfl
theorem ty_lists : tyC Try.prog 20 26 = some (false, [.sl false [.sl false [.int .i64]]]) := by kernel_rfl
theorem ty_glyphs : tyC Try.prog 20 43 = some (false, [.sl true (List.replicate 10 N64)]) := by kernel_rfl
theorem font_of {v : V} (h : OkT Try.prog 28 v) : ∃ f, v = fo f := fo_of (h _ _ _ ty_font)
theorem lookup_of {v : V} (h : OkT Try.prog 31 v) : ∃ a b c s, v = lkV a b c s ∧ s.isCell = true := lkV_of (h _ _ _ ty_lookup)
theorem lookup_of' {v : V} (h : OkT Try.prog 31 v) : ∃ k, v = lk k := by
  obtain ⟨k, h1, _⟩ := lk_of (h _ _ _ ty_lookup)
  exact ⟨k, h1⟩
theorem int_of' {v : V} (h : OkT Try.prog 3 v) : ∃ n, v = I n ∧ OkN n := okN_of (cell_of (h _ _ _ ty_int))
end Go.Proofs.Ytcjmkpkhjhjepaa.W
