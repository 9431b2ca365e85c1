/- What the statement's code reaches, as its row tells it. -/
import Derived.Test.YtadmeeabbkpmlaaGreatDoorCards
import Derived.ProofKit
set_option linter.unusedSimpArgs false
set_option linter.unusedVariables false
namespace Go.Ev
open Go.Proofs Go.Proofs.YtadmeeabbkpmlaaGreatDoor
set_option maxRecDepth 100000
theorem reach_all : ((Tryz.prog.unfollowed 3 == Rows.kernelNilRow.unfollowed) && (Tryz.prog.inPlace 3 == Rows.kernelNilRow.inPlace) && (Tryz.prog.recurses 3 == Rows.kernelNilRow.recurses) && (Tryz.prog.varsNamed 3 == Rows.kernelNilRow.named)) = true := by kernel_rfl
theorem reach_is : Tryz.prog.unfollowed 3 = Rows.kernelNilRow.unfollowed ∧ Tryz.prog.inPlace 3 = Rows.kernelNilRow.inPlace ∧ Tryz.prog.recurses 3 = Rows.kernelNilRow.recurses ∧ Tryz.prog.varsNamed 3 = Rows.kernelNilRow.named := by
  have h := reach_all
  simp only [Bool.and_eq_true, beq_iff_eq] at h
  exact ⟨h.1.1.1, h.1.1.2, h.1.2, h.2⟩
end Go.Ev
