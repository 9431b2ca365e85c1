/- The closed facts of the statement's row, together. -/
import Derived.Test.YtcekdkeeoghipaaGreatDoorVan
import Derived.Test.YtcekdkeeoghipaaGreatDoorVao
import Derived.Test.YtcekdkeeoghipaaGreatDoorXag
set_option linter.unusedSimpArgs false
set_option linter.unusedVariables false
namespace Go.Ev
open Go.Proofs Go.Proofs.YtcekdkeeoghipaaGreatDoor
set_option maxRecDepth 100000
theorem joined : joinedFacts Tryz.prog 4 Tryz.f4 Rows.execveNilSpec Rows.execveNilRow = true := by
  obtain ⟨h1, h2, h3, h4⟩ := reach_is
  unfold joinedFacts
  rw [laid_out, maps_rowed, h1, h2, h3, h4]
  kernel_rfl
theorem named_is : Tryz.prog.funcNamed Rows.execveNilRow.func = some 4 := by kernel_rfl
end Go.Ev
