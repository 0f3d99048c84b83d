/-
  Closed facts of the program that each statement's row asks for. No condition.
-/
import Derived.Test.YtcjmkpkhjhjepaaGreatRows
import Derived.JoinedOf
import Derived.KernelRfl
namespace Go.Proofs.YtcjmkpkhjhjepaaGreat.W
open Go Go.Proofs
set_option maxRecDepth 100000
theorem j7 : mapsRowed Tryz.prog = true := by kernel_rfl
theorem j8 : (Tryz.prog.stops == []) = true := by kernel_rfl
theorem j9 : (Tryz.prog.stopKnobs == []) = true := by kernel_rfl
theorem mayEnter : Tryz.prog.mayEnter = true := by kernel_rfl
theorem make : Tryz.prog.make = some .cut := by kernel_rfl
theorem final : Tryz.prog.liftsFinal = false := by kernel_rfl
end Go.Proofs.YtcjmkpkhjhjepaaGreat.W
