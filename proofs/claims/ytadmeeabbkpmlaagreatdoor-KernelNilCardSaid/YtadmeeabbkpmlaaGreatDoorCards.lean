/-
  DERIVED. GIVEN WITH THE SEED: THE CARDS: each row of YtadmeeabbkpmlaaGreatDoorRows.lean that lists a variable, with what it lists TIED to the program's text (the seventh form; the later family's looks); each row that meets fmt, with fmt's text TOLD by the authors' own Lean function (tested against real Go, not proved from fmt's source: count such statements apart). THE CARD IS WHAT COUNTS. Prove the row's statement (the work); the ties are given (YtadmeeabbkpmlaaGreatDoorTie.lean); close each card by the builder's one call (the guide's Derived/Test/ToyasCard.lean, 'card_holds'). Laid BY PROGRAM, IN A SANDBOX (cutbox-door.mjs). By AI agents, Wed Nov 11 2026. No macro, syntax, notation, axiom, sorry.
-/
import Derived.Test.YtadmeeabbkpmlaaGreatDoorRows
import GoSem.ClaimSeven
namespace Go.Proofs.YtadmeeabbkpmlaaGreatDoor
namespace Rows

/-- THE TIED CARD OF 'hostellaw26.KernelNil'. -/
def kernelNilCard : Claim7 := { stood := { row := kernelNilRow, standIns := [], harness := (true, "7b91ef10ac68dc7c248e750d4f81da5a03ed65f9013ee36181fdcb60ff8dc306"), looks := true }, kinds := [], alts := [], laidByText := true, laidKinds := [.data, .data, .pinned], laidTests := true, laidLooks := .later }
def KernelNilCardSaid : Prop := Claim7.holds Tryz.pinned (.plain (OpenSpec.ofChange kernelNilSpec)) kernelNilCard

/-- THE SECOND FORM's CARD OF 'hostellaw26.KernelNil'. -/
def kernelNilUptoCard : Claim7 := { stood := { row := kernelNilUptoRow, standIns := [], harness := (true, "7b91ef10ac68dc7c248e750d4f81da5a03ed65f9013ee36181fdcb60ff8dc306"), looks := true }, kinds := [], alts := [], laidByText := true, laidKinds := [.data, .data, .pinned], laidTests := true, laidLooks := .later }
def KernelNilUptoCardSaid : Prop := Claim7.holds Tryz.pinned (.plain (OpenSpec.upto kernelNilSpec)) kernelNilUptoCard
end Rows
end Go.Proofs.YtadmeeabbkpmlaaGreatDoor
