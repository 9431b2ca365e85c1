/-
  DERIVED. GIVEN WITH THE SEED: THE CARDS: each row of YtmkgdgfbdmjeeaaDoorRows.lean that lists a variable, with what it lists TIED to the program's text (the seventh form; the later family's looks); each row that meets fmt, with fmt's text TOLD by the authors' own Lean function (tested against real Go, not proved from fmt's source: count such statements apart). THE CARD IS WHAT COUNTS. Prove the row's statement (the work); the ties are given (YtmkgdgfbdmjeeaaDoorTie.lean); close each card by the builder's one call (the guide's Derived/Test/ToyasCard.lean, 'card_holds'). Laid BY PROGRAM, IN A SANDBOX (cutbox-door.mjs). By AI agents, Wed Nov 11 2026. No macro, syntax, notation, axiom, sorry.
-/
import Derived.Test.YtmkgdgfbdmjeeaaDoorRows
import GoSem.ClaimSeven
namespace Go.Proofs.YtmkgdgfbdmjeeaaDoor
namespace Rows

/-- THE TIED CARD OF 'hostellaw09.TableNil'. -/
def tableNilCard : Claim7 := { stood := { row := tableNilRow, standIns := [], harness := (true, "e3e76bf680d1acb02e2c05c2f077b24f3c5a7f01d676d5d35162753797497083"), looks := true }, kinds := [], alts := [], laidByText := true, laidKinds := [.data], laidTests := true, laidLooks := .later }
def TableNilCardSaid : Prop := Claim7.holds Tryd.pinned (.plain (OpenSpec.ofChange tableNilSpec)) tableNilCard

/-- THE TIED CARD OF 'hostellaw09.TableApart'. -/
def tableApartCard : Claim7 := { stood := { row := tableApartRow, standIns := [], harness := (true, "e3e76bf680d1acb02e2c05c2f077b24f3c5a7f01d676d5d35162753797497083"), looks := true }, kinds := [], alts := [], laidByText := true, laidKinds := [.data], laidTests := true, laidLooks := .later }
def TableApartCardSaid : Prop := Claim7.holds Tryd.pinned (.plain (OpenSpec.ofChange tableApartSpec)) tableApartCard

/-- THE TIED CARD OF 'hostellaw09.TableFrees'. -/
def tableFreesCard : Claim7 := { stood := { row := tableFreesRow, standIns := [], harness := (true, "e3e76bf680d1acb02e2c05c2f077b24f3c5a7f01d676d5d35162753797497083"), looks := true }, kinds := [], alts := [], laidByText := true, laidKinds := [.data], laidTests := true, laidLooks := .later }
def TableFreesCardSaid : Prop := Claim7.holds Tryd.pinned (.plain (OpenSpec.ofChange tableFreesSpec)) tableFreesCard

/-- THE TIED CARD OF 'hostellaw09.TableWords'. -/
def tableWordsCard : Claim7 := { stood := { row := tableWordsRow, standIns := [], harness := (true, "e3e76bf680d1acb02e2c05c2f077b24f3c5a7f01d676d5d35162753797497083"), looks := true }, kinds := [], alts := [], laidByText := true, laidKinds := [.data], laidTests := true, laidLooks := .later }
def TableWordsCardSaid : Prop := Claim7.holds Tryd.pinned (.plain (OpenSpec.ofChange tableWordsSpec)) tableWordsCard

/-- THE TIED CARD OF 'hostellaw09.TableBack'. -/
def tableBackCard : Claim7 := { stood := { row := tableBackRow, standIns := [], harness := (true, "e3e76bf680d1acb02e2c05c2f077b24f3c5a7f01d676d5d35162753797497083"), looks := true }, kinds := [], alts := [], laidByText := true, laidKinds := [.data], laidTests := true, laidLooks := .later }
def TableBackCardSaid : Prop := Claim7.holds Tryd.pinned (.plain (OpenSpec.ofChange tableBackSpec)) tableBackCard

/-- THE TIED CARD OF 'hostellaw08.CacheNil'. -/
def cacheNilCard : Claim7 := { stood := { row := cacheNilRow, standIns := [], harness := (true, "e3e76bf680d1acb02e2c05c2f077b24f3c5a7f01d676d5d35162753797497083"), looks := true }, kinds := [], alts := [], laidByText := true, laidKinds := [.data], laidTests := true, laidLooks := .later }
def CacheNilCardSaid : Prop := Claim7.holds Tryd.pinned (.plain (OpenSpec.ofChange cacheNilSpec)) cacheNilCard

/-- THE TIED CARD OF 'hostellaw08.CacheHolds'. -/
def cacheHoldsCard : Claim7 := { stood := { row := cacheHoldsRow, standIns := [], harness := (true, "e3e76bf680d1acb02e2c05c2f077b24f3c5a7f01d676d5d35162753797497083"), looks := true }, kinds := [], alts := [], laidByText := true, laidKinds := [.data], laidTests := true, laidLooks := .later }
def CacheHoldsCardSaid : Prop := Claim7.holds Tryd.pinned (.plain (OpenSpec.ofChange cacheHoldsSpec)) cacheHoldsCard

/-- THE TIED CARD OF 'hostellaw08.CacheCounts'. -/
def cacheCountsCard : Claim7 := { stood := { row := cacheCountsRow, standIns := [], harness := (true, "e3e76bf680d1acb02e2c05c2f077b24f3c5a7f01d676d5d35162753797497083"), looks := true }, kinds := [], alts := [], laidByText := true, laidKinds := [.data], laidTests := true, laidLooks := .later }
def CacheCountsCardSaid : Prop := Claim7.holds Tryd.pinned (.plain (OpenSpec.ofChange cacheCountsSpec)) cacheCountsCard

/-- THE TIED CARD OF 'hostellaw08.CacheFills'. -/
def cacheFillsCard : Claim7 := { stood := { row := cacheFillsRow, standIns := [], harness := (true, "e3e76bf680d1acb02e2c05c2f077b24f3c5a7f01d676d5d35162753797497083"), looks := true }, kinds := [], alts := [], laidByText := true, laidKinds := [.data], laidTests := true, laidLooks := .later }
def CacheFillsCardSaid : Prop := Claim7.holds Tryd.pinned (.plain (OpenSpec.ofChange cacheFillsSpec)) cacheFillsCard

/-- THE TIED CARD OF 'hostellaw08.CacheRoom'. -/
def cacheRoomCard : Claim7 := { stood := { row := cacheRoomRow, standIns := [], harness := (true, "e3e76bf680d1acb02e2c05c2f077b24f3c5a7f01d676d5d35162753797497083"), looks := true }, kinds := [], alts := [], laidByText := true, laidKinds := [.data], laidTests := true, laidLooks := .later }
def CacheRoomCardSaid : Prop := Claim7.holds Tryd.pinned (.plain (OpenSpec.ofChange cacheRoomSpec)) cacheRoomCard

/-- THE TIED CARD OF 'hostellaw08.CacheDrops'. -/
def cacheDropsCard : Claim7 := { stood := { row := cacheDropsRow, standIns := [], harness := (true, "e3e76bf680d1acb02e2c05c2f077b24f3c5a7f01d676d5d35162753797497083"), looks := true }, kinds := [], alts := [], laidByText := true, laidKinds := [.data], laidTests := true, laidLooks := .later }
def CacheDropsCardSaid : Prop := Claim7.holds Tryd.pinned (.plain (OpenSpec.ofChange cacheDropsSpec)) cacheDropsCard

/-- THE SECOND FORM's CARD OF 'hostellaw09.TableNil'. -/
def tableNilUptoCard : Claim7 := { stood := { row := tableNilUptoRow, standIns := [], harness := (true, "e3e76bf680d1acb02e2c05c2f077b24f3c5a7f01d676d5d35162753797497083"), looks := true }, kinds := [], alts := [], laidByText := true, laidKinds := [.data], laidTests := true, laidLooks := .later }
def TableNilUptoCardSaid : Prop := Claim7.holds Tryd.pinned (.plain (OpenSpec.upto tableNilSpec)) tableNilUptoCard

/-- THE SECOND FORM's CARD OF 'hostellaw09.TableApart'. -/
def tableApartUptoCard : Claim7 := { stood := { row := tableApartUptoRow, standIns := [], harness := (true, "e3e76bf680d1acb02e2c05c2f077b24f3c5a7f01d676d5d35162753797497083"), looks := true }, kinds := [], alts := [], laidByText := true, laidKinds := [.data], laidTests := true, laidLooks := .later }
def TableApartUptoCardSaid : Prop := Claim7.holds Tryd.pinned (.plain (OpenSpec.upto tableApartSpec)) tableApartUptoCard

/-- THE SECOND FORM's CARD OF 'hostellaw09.TableFrees'. -/
def tableFreesUptoCard : Claim7 := { stood := { row := tableFreesUptoRow, standIns := [], harness := (true, "e3e76bf680d1acb02e2c05c2f077b24f3c5a7f01d676d5d35162753797497083"), looks := true }, kinds := [], alts := [], laidByText := true, laidKinds := [.data], laidTests := true, laidLooks := .later }
def TableFreesUptoCardSaid : Prop := Claim7.holds Tryd.pinned (.plain (OpenSpec.upto tableFreesSpec)) tableFreesUptoCard

/-- THE SECOND FORM's CARD OF 'hostellaw09.TableWords'. -/
def tableWordsUptoCard : Claim7 := { stood := { row := tableWordsUptoRow, standIns := [], harness := (true, "e3e76bf680d1acb02e2c05c2f077b24f3c5a7f01d676d5d35162753797497083"), looks := true }, kinds := [], alts := [], laidByText := true, laidKinds := [.data], laidTests := true, laidLooks := .later }
def TableWordsUptoCardSaid : Prop := Claim7.holds Tryd.pinned (.plain (OpenSpec.upto tableWordsSpec)) tableWordsUptoCard

/-- THE SECOND FORM's CARD OF 'hostellaw09.TableBack'. -/
def tableBackUptoCard : Claim7 := { stood := { row := tableBackUptoRow, standIns := [], harness := (true, "e3e76bf680d1acb02e2c05c2f077b24f3c5a7f01d676d5d35162753797497083"), looks := true }, kinds := [], alts := [], laidByText := true, laidKinds := [.data], laidTests := true, laidLooks := .later }
def TableBackUptoCardSaid : Prop := Claim7.holds Tryd.pinned (.plain (OpenSpec.upto tableBackSpec)) tableBackUptoCard

/-- THE SECOND FORM's CARD OF 'hostellaw08.CacheNil'. -/
def cacheNilUptoCard : Claim7 := { stood := { row := cacheNilUptoRow, standIns := [], harness := (true, "e3e76bf680d1acb02e2c05c2f077b24f3c5a7f01d676d5d35162753797497083"), looks := true }, kinds := [], alts := [], laidByText := true, laidKinds := [.data], laidTests := true, laidLooks := .later }
def CacheNilUptoCardSaid : Prop := Claim7.holds Tryd.pinned (.plain (OpenSpec.upto cacheNilSpec)) cacheNilUptoCard

/-- THE SECOND FORM's CARD OF 'hostellaw08.CacheHolds'. -/
def cacheHoldsUptoCard : Claim7 := { stood := { row := cacheHoldsUptoRow, standIns := [], harness := (true, "e3e76bf680d1acb02e2c05c2f077b24f3c5a7f01d676d5d35162753797497083"), looks := true }, kinds := [], alts := [], laidByText := true, laidKinds := [.data], laidTests := true, laidLooks := .later }
def CacheHoldsUptoCardSaid : Prop := Claim7.holds Tryd.pinned (.plain (OpenSpec.upto cacheHoldsSpec)) cacheHoldsUptoCard

/-- THE SECOND FORM's CARD OF 'hostellaw08.CacheCounts'. -/
def cacheCountsUptoCard : Claim7 := { stood := { row := cacheCountsUptoRow, standIns := [], harness := (true, "e3e76bf680d1acb02e2c05c2f077b24f3c5a7f01d676d5d35162753797497083"), looks := true }, kinds := [], alts := [], laidByText := true, laidKinds := [.data], laidTests := true, laidLooks := .later }
def CacheCountsUptoCardSaid : Prop := Claim7.holds Tryd.pinned (.plain (OpenSpec.upto cacheCountsSpec)) cacheCountsUptoCard

/-- THE SECOND FORM's CARD OF 'hostellaw08.CacheFills'. -/
def cacheFillsUptoCard : Claim7 := { stood := { row := cacheFillsUptoRow, standIns := [], harness := (true, "e3e76bf680d1acb02e2c05c2f077b24f3c5a7f01d676d5d35162753797497083"), looks := true }, kinds := [], alts := [], laidByText := true, laidKinds := [.data], laidTests := true, laidLooks := .later }
def CacheFillsUptoCardSaid : Prop := Claim7.holds Tryd.pinned (.plain (OpenSpec.upto cacheFillsSpec)) cacheFillsUptoCard

/-- THE SECOND FORM's CARD OF 'hostellaw08.CacheRoom'. -/
def cacheRoomUptoCard : Claim7 := { stood := { row := cacheRoomUptoRow, standIns := [], harness := (true, "e3e76bf680d1acb02e2c05c2f077b24f3c5a7f01d676d5d35162753797497083"), looks := true }, kinds := [], alts := [], laidByText := true, laidKinds := [.data], laidTests := true, laidLooks := .later }
def CacheRoomUptoCardSaid : Prop := Claim7.holds Tryd.pinned (.plain (OpenSpec.upto cacheRoomSpec)) cacheRoomUptoCard

/-- THE SECOND FORM's CARD OF 'hostellaw08.CacheDrops'. -/
def cacheDropsUptoCard : Claim7 := { stood := { row := cacheDropsUptoRow, standIns := [], harness := (true, "e3e76bf680d1acb02e2c05c2f077b24f3c5a7f01d676d5d35162753797497083"), looks := true }, kinds := [], alts := [], laidByText := true, laidKinds := [.data], laidTests := true, laidLooks := .later }
def CacheDropsUptoCardSaid : Prop := Claim7.holds Tryd.pinned (.plain (OpenSpec.upto cacheDropsSpec)) cacheDropsUptoCard
end Rows
end Go.Proofs.YtmkgdgfbdmjeeaaDoor
