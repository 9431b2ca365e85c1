/- The program's maps are rowed, as the row's form asks. -/
import Derived.Test.YtadmeeabbkpmlaaGreatDoorCards
import Derived.ProofKit
set_option linter.unusedSimpArgs false
set_option linter.unusedVariables false
namespace Go.Ev
open Go.Proofs Go.Proofs.YtadmeeabbkpmlaaGreatDoor
set_option maxRecDepth 100000
theorem maps_rowed : mapsRowed Tryz.prog = true := by kernel_rfl
end Go.Ev
