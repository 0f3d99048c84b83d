/-
  Closed facts of the program that each statement's row asks for. No condition.
-/
import Derived.Test.YtcngcapbikfbnaaDoorRows
import Derived.JoinedOf
import Derived.KernelRfl
namespace Go.Proofs.YtcngcapbikfbnaaDoor.W
open Go Go.Proofs
set_option maxRecDepth 100000
theorem j7 : mapsRowed Tryd.prog = true := by kernel_rfl
theorem j8 : (Tryd.prog.stops == []) = true := by kernel_rfl
theorem j9 : (Tryd.prog.stopKnobs == []) = true := by kernel_rfl
theorem mayEnter : Tryd.prog.mayEnter = true := by kernel_rfl
theorem make : Tryd.prog.make = some .cut := by kernel_rfl
theorem final : Tryd.prog.liftsFinal = false := by kernel_rfl
end Go.Proofs.YtcngcapbikfbnaaDoor.W
