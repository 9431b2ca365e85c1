/- What the statement's code reaches, as its row tells it. -/
import Derived.Test.YtcekdkeeoghipaaGreatDoorCards
import Derived.ProofKit
set_option linter.unusedSimpArgs false
set_option linter.unusedVariables false
namespace Go.Ev
open Go.Proofs Go.Proofs.YtcekdkeeoghipaaGreatDoor
set_option maxRecDepth 100000
theorem reach_all : ((Tryz.prog.unfollowed 4 == Rows.execveNilRow.unfollowed) && (Tryz.prog.inPlace 4 == Rows.execveNilRow.inPlace) && (Tryz.prog.recurses 4 == Rows.execveNilRow.recurses) && (Tryz.prog.varsNamed 4 == Rows.execveNilRow.named)) = true := by kernel_rfl
theorem reach_is : Tryz.prog.unfollowed 4 = Rows.execveNilRow.unfollowed ∧ Tryz.prog.inPlace 4 = Rows.execveNilRow.inPlace ∧ Tryz.prog.recurses 4 = Rows.execveNilRow.recurses ∧ Tryz.prog.varsNamed 4 = Rows.execveNilRow.named := by
  have h := reach_all
  simp only [Bool.and_eq_true, beq_iff_eq] at h
  exact ⟨h.1.1.1, h.1.1.2, h.1.2, h.2⟩
end Go.Ev
