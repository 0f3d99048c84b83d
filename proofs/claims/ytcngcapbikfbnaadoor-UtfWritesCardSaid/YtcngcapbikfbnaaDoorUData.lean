/-
  The shapes of texts: runes, bytes, units. No condition.
-/
import Derived.Test.YtcngcapbikfbnaaDoorData
import Derived.Test.YtcngcapbikfbnaaDoorUPl
namespace Go.Proofs.YtcngcapbikfbnaaDoor.W
open Go Go.Vm Go.Proofs
set_option maxRecDepth 100000
theorem ty_runes : tyC Tryd.prog 20 22 = some (false, [.sl false [.int .i32]]) := by kernel_rfl
theorem runes_of {v : V} (h : OkT Tryd.prog 22 v) : ∃ l : List Int, v = .sl (l.map R) := by
 obtain ⟨l, h1, _⟩ := lists_of (f := R) (p := fun _ => True) (fun e he => by
  obtain ⟨n, rfl, _⟩ := int_of (cell_of he)
  exact ⟨n, rfl, trivial⟩) (cell_of (h _ _ _ ty_runes))
 exact ⟨l, h1⟩
end Go.Proofs.YtcngcapbikfbnaaDoor.W
