/-
  The shapes of the program's types: spans, glyphs, lookups, fonts. No condition.
-/
import Derived.Test.YtcjmkpkhjhjepaaGreatSkip
namespace Go.Proofs.YtcjmkpkhjhjepaaGreat.W
open Go Go.Vm Go.Proofs
set_option maxRecDepth 100000
def foC : List CT := [N64, .sl true [N64, N64, N64, .sl false [N64]], .sl true [.int .i32, N64], .sl true lkC, .sl true [.str, N64, .sl false [N64]], .sl false [.sl false [N64]]]
theorem ty_font : tyC Tryz.prog 20 28 = some (true, foC) := by kernel_rfl
theorem ty_glyphs : tyC Tryz.prog 20 29 = some (false, [.sl true (List.replicate 10 N64)]) := by kernel_rfl
end Go.Proofs.YtcjmkpkhjhjepaaGreat.W
