/-
  The shapes of texts: runes, bytes, units. No condition.
-/
import Derived.Test.YtcngcapbikfbnaaDoorData
import Derived.Test.YtcngcapbikfbnaaDoorUPl
namespace Go.Proofs.YtcngcapbikfbnaaDoor.W
open Go Go.Vm Go.Proofs
set_option maxRecDepth 100000
theorem ty_bytes : tyC Tryd.prog 20 24 = some (false, [.sl false [.int .u8]]) := by kernel_rfl
theorem bytes_of {v : V} (h : OkT Tryd.prog 24 v) : ∃ l : List Int, v = .sl (l.map B) ∧ ∀ c ∈ l, 0 ≤ c ∧ c ≤ 255 := by
 obtain ⟨l, h1, _, h2⟩ := lists_of (f := B) (p := fun c => 0 ≤ c ∧ c ≤ 255) (fun e he => by
  obtain ⟨n, rfl, hn⟩ := int_of (cell_of he)
  simp [Lit.wf, IntKind.min, IntKind.max, IntKind.bits, IntKind.signed] at hn
  exact ⟨n, rfl, by omega, by omega⟩) (cell_of (h _ _ _ ty_bytes))
 exact ⟨l, h1, h2⟩
end Go.Proofs.YtcngcapbikfbnaaDoor.W
