/-
  DERIVED. GIVEN WITH THE SEED: THE CARDS: each row of YtcekdkeeoghipaaGreatDoorRows.lean that lists a variable, with what it lists TIED to the program's text (the seventh form; the later family's looks); each row that meets fmt, with fmt's text TOLD by the authors' own Lean function (tested against real Go, not proved from fmt's source: count such statements apart). THE CARD IS WHAT COUNTS. Prove the row's statement (the work); the ties are given (YtcekdkeeoghipaaGreatDoorTie.lean); close each card by the builder's one call (the guide's Derived/Test/ToyasCard.lean, 'card_holds'). Laid BY PROGRAM, IN A SANDBOX (cutbox-door.mjs). By AI agents, Wed Nov 11 2026. No macro, syntax, notation, axiom, sorry.
-/
import Derived.Test.YtcekdkeeoghipaaGreatDoorRows
import GoSem.ClaimSeven
namespace Go.Proofs.YtcekdkeeoghipaaGreatDoor
namespace Rows

/-- THE TIED CARD OF 'hostellaw22.ImageNil'. -/
def imageNilCard : Claim7 := { stood := { row := imageNilRow, standIns := [], harness := (true, "e0039c0a0133eacda440c15a1d57724d537a25ee421413a4aea750058cfd9f16"), looks := true }, kinds := [], alts := [], laidByText := true, laidKinds := [.data, .pinned], laidTests := true, laidLooks := .later }
def ImageNilCardSaid : Prop := Claim7.holds Tryz.pinned (.plain (OpenSpec.ofChange imageNilSpec)) imageNilCard

/-- THE TIED CARD OF 'hostellaw23.ExecveNil'. -/
def execveNilCard : Claim7 := { stood := { row := execveNilRow, standIns := [], harness := (true, "e0039c0a0133eacda440c15a1d57724d537a25ee421413a4aea750058cfd9f16"), looks := true }, kinds := [], alts := [], laidByText := true, laidKinds := [.data, .data, .pinned], laidTests := true, laidLooks := .later }
def ExecveNilCardSaid : Prop := Claim7.holds Tryz.pinned (.plain (OpenSpec.ofChange execveNilSpec)) execveNilCard

/-- THE TIED CARD OF 'hostellaw24.ProcsNil'. -/
def procsNilCard : Claim7 := { stood := { row := procsNilRow, standIns := [], harness := (true, "e0039c0a0133eacda440c15a1d57724d537a25ee421413a4aea750058cfd9f16"), looks := true }, kinds := [], alts := [], laidByText := true, laidKinds := [.data, .data, .pinned], laidTests := true, laidLooks := .later }
def ProcsNilCardSaid : Prop := Claim7.holds Tryz.pinned (.plain (OpenSpec.ofChange procsNilSpec)) procsNilCard

/-- THE SECOND FORM's CARD OF 'hostellaw22.ImageNil'. -/
def imageNilUptoCard : Claim7 := { stood := { row := imageNilUptoRow, standIns := [], harness := (true, "e0039c0a0133eacda440c15a1d57724d537a25ee421413a4aea750058cfd9f16"), looks := true }, kinds := [], alts := [], laidByText := true, laidKinds := [.data, .pinned], laidTests := true, laidLooks := .later }
def ImageNilUptoCardSaid : Prop := Claim7.holds Tryz.pinned (.plain (OpenSpec.upto imageNilSpec)) imageNilUptoCard

/-- THE SECOND FORM's CARD OF 'hostellaw23.ExecveNil'. -/
def execveNilUptoCard : Claim7 := { stood := { row := execveNilUptoRow, standIns := [], harness := (true, "e0039c0a0133eacda440c15a1d57724d537a25ee421413a4aea750058cfd9f16"), looks := true }, kinds := [], alts := [], laidByText := true, laidKinds := [.data, .data, .pinned], laidTests := true, laidLooks := .later }
def ExecveNilUptoCardSaid : Prop := Claim7.holds Tryz.pinned (.plain (OpenSpec.upto execveNilSpec)) execveNilUptoCard

/-- THE SECOND FORM's CARD OF 'hostellaw24.ProcsNil'. -/
def procsNilUptoCard : Claim7 := { stood := { row := procsNilUptoRow, standIns := [], harness := (true, "e0039c0a0133eacda440c15a1d57724d537a25ee421413a4aea750058cfd9f16"), looks := true }, kinds := [], alts := [], laidByText := true, laidKinds := [.data, .data, .pinned], laidTests := true, laidLooks := .later }
def ProcsNilUptoCardSaid : Prop := Claim7.holds Tryz.pinned (.plain (OpenSpec.upto procsNilSpec)) procsNilUptoCard
end Rows
end Go.Proofs.YtcekdkeeoghipaaGreatDoor
