/-
  Closed facts of the program that each statement's row asks for. No condition.
-/
import Derived.Test.YtalhohfhjniapaaRows
import Derived.JoinedOf
import Derived.KernelRfl
namespace Go.Proofs.Ytalhohfhjniapaa.W
open Go Go.Proofs
set_option maxRecDepth 100000
theorem j7 : mapsRowed Try.prog = true := by kernel_rfl
theorem j8 : (Try.prog.stops == []) = true := by kernel_rfl
theorem j9 : (Try.prog.stopKnobs == []) = true := by kernel_rfl
theorem mayEnter : Try.prog.mayEnter = true := by kernel_rfl
theorem make : Try.prog.make = some .cut := by kernel_rfl
theorem final : Try.prog.liftsFinal = false := by kernel_rfl
end Go.Proofs.Ytalhohfhjniapaa.W
