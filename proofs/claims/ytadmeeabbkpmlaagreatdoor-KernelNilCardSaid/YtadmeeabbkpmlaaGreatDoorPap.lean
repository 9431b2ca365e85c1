/- The closed facts of the statement's row, together. -/
import Derived.Test.YtadmeeabbkpmlaaGreatDoorPal
import Derived.Test.YtadmeeabbkpmlaaGreatDoorPam
import Derived.Test.YtadmeeabbkpmlaaGreatDoorPan
set_option linter.unusedSimpArgs false
set_option linter.unusedVariables false
namespace Go.Ev
open Go.Proofs Go.Proofs.YtadmeeabbkpmlaaGreatDoor
set_option maxRecDepth 100000
theorem joined : joinedFacts Tryz.prog 3 Tryz.f3 Rows.kernelNilSpec Rows.kernelNilRow = true := by
  obtain ⟨h1, h2, h3, h4⟩ := reach_is
  unfold joinedFacts
  rw [laid_out, maps_rowed, h1, h2, h3, h4]
  kernel_rfl
theorem named_is : Tryz.prog.funcNamed Rows.kernelNilRow.func = some 3 := by kernel_rfl
end Go.Ev
