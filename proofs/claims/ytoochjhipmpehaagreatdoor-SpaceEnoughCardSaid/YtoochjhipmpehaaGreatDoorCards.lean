/-
  DERIVED. GIVEN WITH THE SEED: THE CARDS: each row of YtoochjhipmpehaaGreatDoorRows.lean that lists a variable, with what it lists TIED to the program's text (the seventh form; the later family's looks); each row that meets fmt, with fmt's text TOLD by the authors' own Lean function (tested against real Go, not proved from fmt's source: count such statements apart). THE CARD IS WHAT COUNTS. Prove the row's statement (the work); the ties are given (YtoochjhipmpehaaGreatDoorTie.lean); close each card by the builder's one call (the guide's Derived/Test/ToyasCard.lean, 'card_holds'). Laid BY PROGRAM, IN A SANDBOX (cutbox-door.mjs). By AI agents, Wed Nov 11 2026. No macro, syntax, notation, axiom, sorry.
-/
import Derived.Test.YtoochjhipmpehaaGreatDoorRows
import GoSem.ClaimSeven
namespace Go.Proofs.YtoochjhipmpehaaGreatDoor
namespace Rows

/-- THE TIED CARD OF 'hostellaw11.SpaceEnough'. -/
def spaceEnoughCard : Claim7 := { stood := { row := spaceEnoughRow, standIns := [], harness := (true, "1906f103e407e6e71d66ee16ee707fb3159242296617e1d9c3c76fb904777e45"), looks := true }, kinds := [], alts := [], laidByText := true, laidKinds := [.data], laidTests := true, laidLooks := .later }
def SpaceEnoughCardSaid : Prop := Claim7.holds Tryz.pinned (.plain (OpenSpec.ofChange spaceEnoughSpec)) spaceEnoughCard

/-- THE TIED CARD OF 'hostellaw11.SpaceApart'. -/
def spaceApartCard : Claim7 := { stood := { row := spaceApartRow, standIns := [], harness := (true, "1906f103e407e6e71d66ee16ee707fb3159242296617e1d9c3c76fb904777e45"), looks := true }, kinds := [], alts := [], laidByText := true, laidKinds := [.data], laidTests := true, laidLooks := .later }
def SpaceApartCardSaid : Prop := Claim7.holds Tryz.pinned (.plain (OpenSpec.ofChange spaceApartSpec)) spaceApartCard

/-- THE TIED CARD OF 'hostellaw11.SpaceFrees'. -/
def spaceFreesCard : Claim7 := { stood := { row := spaceFreesRow, standIns := [], harness := (true, "1906f103e407e6e71d66ee16ee707fb3159242296617e1d9c3c76fb904777e45"), looks := true }, kinds := [], alts := [], laidByText := true, laidKinds := [.data], laidTests := true, laidLooks := .later }
def SpaceFreesCardSaid : Prop := Claim7.holds Tryz.pinned (.plain (OpenSpec.ofChange spaceFreesSpec)) spaceFreesCard

/-- THE TIED CARD OF 'hostellaw11.SpaceNil'. -/
def spaceNilCard : Claim7 := { stood := { row := spaceNilRow, standIns := [], harness := (true, "1906f103e407e6e71d66ee16ee707fb3159242296617e1d9c3c76fb904777e45"), looks := true }, kinds := [], alts := [], laidByText := true, laidKinds := [.data], laidTests := true, laidLooks := .later }
def SpaceNilCardSaid : Prop := Claim7.holds Tryz.pinned (.plain (OpenSpec.ofChange spaceNilSpec)) spaceNilCard

/-- THE TIED CARD OF 'hostellaw11.SpaceRefuses'. -/
def spaceRefusesCard : Claim7 := { stood := { row := spaceRefusesRow, standIns := [], harness := (true, "1906f103e407e6e71d66ee16ee707fb3159242296617e1d9c3c76fb904777e45"), looks := true }, kinds := [], alts := [], laidByText := true, laidKinds := [.data], laidTests := true, laidLooks := .later }
def SpaceRefusesCardSaid : Prop := Claim7.holds Tryz.pinned (.plain (OpenSpec.ofChange spaceRefusesSpec)) spaceRefusesCard

/-- THE TIED CARD OF 'hostellaw11.SpaceCounts'. -/
def spaceCountsCard : Claim7 := { stood := { row := spaceCountsRow, standIns := [], harness := (true, "1906f103e407e6e71d66ee16ee707fb3159242296617e1d9c3c76fb904777e45"), looks := true }, kinds := [], alts := [], laidByText := true, laidKinds := [.data], laidTests := true, laidLooks := .later }
def SpaceCountsCardSaid : Prop := Claim7.holds Tryz.pinned (.plain (OpenSpec.ofChange spaceCountsSpec)) spaceCountsCard

/-- THE SECOND FORM's CARD OF 'hostellaw11.SpaceEnough'. -/
def spaceEnoughUptoCard : Claim7 := { stood := { row := spaceEnoughUptoRow, standIns := [], harness := (true, "1906f103e407e6e71d66ee16ee707fb3159242296617e1d9c3c76fb904777e45"), looks := true }, kinds := [], alts := [], laidByText := true, laidKinds := [.data], laidTests := true, laidLooks := .later }
def SpaceEnoughUptoCardSaid : Prop := Claim7.holds Tryz.pinned (.plain (OpenSpec.upto spaceEnoughSpec)) spaceEnoughUptoCard

/-- THE SECOND FORM's CARD OF 'hostellaw11.SpaceApart'. -/
def spaceApartUptoCard : Claim7 := { stood := { row := spaceApartUptoRow, standIns := [], harness := (true, "1906f103e407e6e71d66ee16ee707fb3159242296617e1d9c3c76fb904777e45"), looks := true }, kinds := [], alts := [], laidByText := true, laidKinds := [.data], laidTests := true, laidLooks := .later }
def SpaceApartUptoCardSaid : Prop := Claim7.holds Tryz.pinned (.plain (OpenSpec.upto spaceApartSpec)) spaceApartUptoCard

/-- THE SECOND FORM's CARD OF 'hostellaw11.SpaceFrees'. -/
def spaceFreesUptoCard : Claim7 := { stood := { row := spaceFreesUptoRow, standIns := [], harness := (true, "1906f103e407e6e71d66ee16ee707fb3159242296617e1d9c3c76fb904777e45"), looks := true }, kinds := [], alts := [], laidByText := true, laidKinds := [.data], laidTests := true, laidLooks := .later }
def SpaceFreesUptoCardSaid : Prop := Claim7.holds Tryz.pinned (.plain (OpenSpec.upto spaceFreesSpec)) spaceFreesUptoCard

/-- THE SECOND FORM's CARD OF 'hostellaw11.SpaceNil'. -/
def spaceNilUptoCard : Claim7 := { stood := { row := spaceNilUptoRow, standIns := [], harness := (true, "1906f103e407e6e71d66ee16ee707fb3159242296617e1d9c3c76fb904777e45"), looks := true }, kinds := [], alts := [], laidByText := true, laidKinds := [.data], laidTests := true, laidLooks := .later }
def SpaceNilUptoCardSaid : Prop := Claim7.holds Tryz.pinned (.plain (OpenSpec.upto spaceNilSpec)) spaceNilUptoCard

/-- THE SECOND FORM's CARD OF 'hostellaw11.SpaceRefuses'. -/
def spaceRefusesUptoCard : Claim7 := { stood := { row := spaceRefusesUptoRow, standIns := [], harness := (true, "1906f103e407e6e71d66ee16ee707fb3159242296617e1d9c3c76fb904777e45"), looks := true }, kinds := [], alts := [], laidByText := true, laidKinds := [.data], laidTests := true, laidLooks := .later }
def SpaceRefusesUptoCardSaid : Prop := Claim7.holds Tryz.pinned (.plain (OpenSpec.upto spaceRefusesSpec)) spaceRefusesUptoCard

/-- THE SECOND FORM's CARD OF 'hostellaw11.SpaceCounts'. -/
def spaceCountsUptoCard : Claim7 := { stood := { row := spaceCountsUptoRow, standIns := [], harness := (true, "1906f103e407e6e71d66ee16ee707fb3159242296617e1d9c3c76fb904777e45"), looks := true }, kinds := [], alts := [], laidByText := true, laidKinds := [.data], laidTests := true, laidLooks := .later }
def SpaceCountsUptoCardSaid : Prop := Claim7.holds Tryz.pinned (.plain (OpenSpec.upto spaceCountsSpec)) spaceCountsUptoCard
end Rows
end Go.Proofs.YtoochjhipmpehaaGreatDoor
