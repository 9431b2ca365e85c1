/- Does the statement's code start goroutines? No function of the program does. -/
import Derived.Test.YtadmeeabbkpmlaaGreatDoorCards
import Derived.ProofKit
set_option linter.unusedSimpArgs false
set_option linter.unusedVariables false
namespace Go.Ev
open Go.Proofs Go.Proofs.YtadmeeabbkpmlaaGreatDoor
set_option maxRecDepth 100000
theorem none_goes : Tryz.prog.funcs.toList.any Func.goes = false := by kernel_rfl
theorem goes_of {P : Program} (h : P.funcs.toList.any Func.goes = false) (f : FuncId) : P.goes f = false := by
  have h1 : ∀ g : Nat, (P.funcs[g]?).any Func.goes = false := fun g => by
    cases hg : P.funcs[g]? with
    | none => rfl
    | some fn =>
      obtain ⟨hlt, he⟩ := Array.getElem?_eq_some_iff.1 hg
      have := (List.any_eq_false.1 h) fn (by rw [← he]; exact Array.getElem_mem_toList hlt)
      simpa using this
  unfold Program.goes
  have h2 : ((P.closure f).any fun g => (P.funcs[g]?).any Func.goes) = false := List.any_eq_false.2 fun g _ => by rw [h1 g]; simp
  have h3 : P.funcs.any Func.goes = false := by rw [← Array.any_toList]; exact h
  rw [h2, h3, Bool.and_false, Bool.or_false]
theorem goes_by : false = Rows.kernelNilRow.goesBy Tryz.pinned.checked.prog := by
  have h := goes_of none_goes
  unfold OpenClaim.goesBy Program.goesAt Program.goesFrom
  show false = ((Tryz.prog.funcNamed Rows.kernelNilRow.func).any Tryz.prog.goes || false)
  cases Tryz.prog.funcNamed Rows.kernelNilRow.func with
  | none => rfl
  | some f => simp [h f]
end Go.Ev
