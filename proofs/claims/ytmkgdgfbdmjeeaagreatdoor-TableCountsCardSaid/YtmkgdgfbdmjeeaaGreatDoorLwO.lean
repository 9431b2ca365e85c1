/- The table's laws: what they have in common: behind over a pool that may not be; what a law answers. -/
import Derived.Test.YtmkgdgfbdmjeeaaGreatDoorTsZ
import Derived.Test.YtmkgdgfbdmjeeaaGreatDoorLwD
namespace Go.Proofs.YtmkgdgfbdmjeeaaGreatDoor
open Go.RowKit Go.Sort
set_option linter.unusedSimpArgs false
set_option linter.unusedVariables false

set_option maxRecDepth 100000 in
set_option maxHeartbeats 2000000 in
theorem behind_bad (n : Int) (A : Option Addr) (len cap : Nat) (w : World) (h : n < 1) (hw0 : 0 < w.heap.size) : Calls Tryz.prog 27 #[.int .i64 n, .slice A len cap] w fun e w' => e = .returned (.tuple #[.pointer none, .bool true]) ∧ Below w.heap.size w w' := by
  go_enter Tryz.func27, Tryz.ntmps27
  go_wp2_with fail
  refine (made_bad n w h hw0).mono ?_
  rintro e w1 ⟨rfl, hb1⟩
  go_wp2_with fail
  go_ret2
  exact ⟨rfl, hb1⟩
theorem findRes_same {T T' : Tab} {X : Int} (h : T'.lf (X.toNat / 4096) = T.lf (X.toNat / 4096)) : findRes T' X = findRes T X := by
  unfold findRes
  rw [h]
def LawPost (w : World) (e : Ending) (w' : World) : Prop := e = .returned (.bool true) ∧ Below w.heap.size w w'

end Go.Proofs.YtmkgdgfbdmjeeaaGreatDoor
