/- The closed facts of the statement's row, together. -/
import Derived.Test.YtcekdkeeoghipaaGreatDoorWac
import Derived.Test.YtcekdkeeoghipaaGreatDoorWad
import Derived.Test.YtcekdkeeoghipaaGreatDoorWai
set_option linter.unusedSimpArgs false
set_option linter.unusedVariables false
namespace Go.Ev
open Go.Proofs Go.Proofs.YtcekdkeeoghipaaGreatDoor
set_option maxRecDepth 100000
theorem joined : joinedFacts Tryz.prog 3 Tryz.f3 Rows.imageNilSpec Rows.imageNilRow = true := by
  obtain ⟨h1, h2, h3, h4⟩ := reach_is
  unfold joinedFacts
  rw [laid_out, maps_rowed, h1, h2, h3, h4]
  kernel_rfl
theorem named_is : Tryz.prog.funcNamed Rows.imageNilRow.func = some 3 := by kernel_rfl
end Go.Ev
