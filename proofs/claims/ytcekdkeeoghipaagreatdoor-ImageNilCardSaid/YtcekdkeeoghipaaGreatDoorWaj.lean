/- Does the statement's code start goroutines? As its row tells it. -/
import Derived.Test.YtcekdkeeoghipaaGreatDoorCards
import Derived.ProofKit
set_option linter.unusedSimpArgs false
set_option linter.unusedVariables false
namespace Go.Ev
open Go.Proofs Go.Proofs.YtcekdkeeoghipaaGreatDoor
set_option maxRecDepth 100000
theorem goes_by : false = Rows.imageNilRow.goesBy Tryz.pinned.checked.prog := by kernel_rfl
end Go.Ev
