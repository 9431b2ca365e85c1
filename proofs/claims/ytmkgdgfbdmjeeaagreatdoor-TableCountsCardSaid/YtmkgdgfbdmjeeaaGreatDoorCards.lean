/-
  DERIVED. GIVEN WITH THE SEED: THE CARDS: each row of YtmkgdgfbdmjeeaaGreatDoorRows.lean that lists a variable, with what it lists TIED to the program's text (the seventh form; the later family's looks); each row that meets fmt, with fmt's text TOLD by the authors' own Lean function (tested against real Go, not proved from fmt's source: count such statements apart). THE CARD IS WHAT COUNTS. Prove the row's statement (the work); the ties are given (YtmkgdgfbdmjeeaaGreatDoorTie.lean); close each card by the builder's one call (the guide's Derived/Test/ToyasCard.lean, 'card_holds'). Laid BY PROGRAM, IN A SANDBOX (cutbox-door.mjs). By AI agents, Wed Nov 11 2026. No macro, syntax, notation, axiom, sorry.
-/
import Derived.Test.YtmkgdgfbdmjeeaaGreatDoorRows
import GoSem.ClaimSeven
namespace Go.Proofs.YtmkgdgfbdmjeeaaGreatDoor
namespace Rows

/-- THE TIED CARD OF 'hostellaw09.TablePlays'. -/
def tablePlaysCard : Claim7 := { stood := { row := tablePlaysRow, standIns := [], harness := (true, "c4891cf371827958be6b5734128865f0df9e25d1baf0826ac1905ce13aceb56d"), looks := true }, kinds := [], alts := [], laidByText := true, laidKinds := [.data], laidTests := true, laidLooks := .later }
def TablePlaysCardSaid : Prop := Claim7.holds Tryz.pinned (.plain (OpenSpec.ofChange tablePlaysSpec)) tablePlaysCard

/-- THE TIED CARD OF 'hostellaw08.CachePlays'. -/
def cachePlaysCard : Claim7 := { stood := { row := cachePlaysRow, standIns := [], harness := (true, "c4891cf371827958be6b5734128865f0df9e25d1baf0826ac1905ce13aceb56d"), looks := true }, kinds := [], alts := [], laidByText := true, laidKinds := [.data], laidTests := true, laidLooks := .later }
def CachePlaysCardSaid : Prop := Claim7.holds Tryz.pinned (.plain (OpenSpec.ofChange cachePlaysSpec)) cachePlaysCard

/-- THE TIED CARD OF 'hostellaw09.TableCounts'. -/
def tableCountsCard : Claim7 := { stood := { row := tableCountsRow, standIns := [], harness := (true, "c4891cf371827958be6b5734128865f0df9e25d1baf0826ac1905ce13aceb56d"), looks := true }, kinds := [], alts := [], laidByText := true, laidKinds := [.data], laidTests := true, laidLooks := .later }
def TableCountsCardSaid : Prop := Claim7.holds Tryz.pinned (.plain (OpenSpec.ofChange tableCountsSpec)) tableCountsCard

/-- THE TIED CARD OF 'hostellaw09.TableUndone'. -/
def tableUndoneCard : Claim7 := { stood := { row := tableUndoneRow, standIns := [], harness := (true, "c4891cf371827958be6b5734128865f0df9e25d1baf0826ac1905ce13aceb56d"), looks := true }, kinds := [], alts := [], laidByText := true, laidKinds := [.data], laidTests := true, laidLooks := .later }
def TableUndoneCardSaid : Prop := Claim7.holds Tryz.pinned (.plain (OpenSpec.ofChange tableUndoneSpec)) tableUndoneCard

/-- THE SECOND FORM's CARD OF 'hostellaw09.TablePlays'. -/
def tablePlaysUptoCard : Claim7 := { stood := { row := tablePlaysUptoRow, standIns := [], harness := (true, "c4891cf371827958be6b5734128865f0df9e25d1baf0826ac1905ce13aceb56d"), looks := true }, kinds := [], alts := [], laidByText := true, laidKinds := [.data], laidTests := true, laidLooks := .later }
def TablePlaysUptoCardSaid : Prop := Claim7.holds Tryz.pinned (.plain (OpenSpec.upto tablePlaysSpec)) tablePlaysUptoCard

/-- THE SECOND FORM's CARD OF 'hostellaw08.CachePlays'. -/
def cachePlaysUptoCard : Claim7 := { stood := { row := cachePlaysUptoRow, standIns := [], harness := (true, "c4891cf371827958be6b5734128865f0df9e25d1baf0826ac1905ce13aceb56d"), looks := true }, kinds := [], alts := [], laidByText := true, laidKinds := [.data], laidTests := true, laidLooks := .later }
def CachePlaysUptoCardSaid : Prop := Claim7.holds Tryz.pinned (.plain (OpenSpec.upto cachePlaysSpec)) cachePlaysUptoCard

/-- THE SECOND FORM's CARD OF 'hostellaw09.TableCounts'. -/
def tableCountsUptoCard : Claim7 := { stood := { row := tableCountsUptoRow, standIns := [], harness := (true, "c4891cf371827958be6b5734128865f0df9e25d1baf0826ac1905ce13aceb56d"), looks := true }, kinds := [], alts := [], laidByText := true, laidKinds := [.data], laidTests := true, laidLooks := .later }
def TableCountsUptoCardSaid : Prop := Claim7.holds Tryz.pinned (.plain (OpenSpec.upto tableCountsSpec)) tableCountsUptoCard

/-- THE SECOND FORM's CARD OF 'hostellaw09.TableUndone'. -/
def tableUndoneUptoCard : Claim7 := { stood := { row := tableUndoneUptoRow, standIns := [], harness := (true, "c4891cf371827958be6b5734128865f0df9e25d1baf0826ac1905ce13aceb56d"), looks := true }, kinds := [], alts := [], laidByText := true, laidKinds := [.data], laidTests := true, laidLooks := .later }
def TableUndoneUptoCardSaid : Prop := Claim7.holds Tryz.pinned (.plain (OpenSpec.upto tableUndoneSpec)) tableUndoneUptoCard
end Rows
end Go.Proofs.YtmkgdgfbdmjeeaaGreatDoor
