/-
  DERIVED. GIVEN WITH THE SEED: THE CARDS: each row of YtkfdgodngbinlaaGreatDoorRows.lean that lists a variable, with what it lists TIED to the program's text (the seventh form; the later family's looks); each row that meets fmt, with fmt's text TOLD by the authors' own Lean function (tested against real Go, not proved from fmt's source: count such statements apart). THE CARD IS WHAT COUNTS. Prove the row's statement (the work); the ties are given (YtkfdgodngbinlaaGreatDoorTie.lean); close each card by the builder's one call (the guide's Derived/Test/ToyasCard.lean, 'card_holds'). Laid BY PROGRAM, IN A SANDBOX (cutbox-door.mjs). By AI agents, Wed Nov 11 2026. No macro, syntax, notation, axiom, sorry.
-/
import Derived.Test.YtkfdgodngbinlaaGreatDoorRows
import GoSem.ClaimSeven
namespace Go.Proofs.YtkfdgodngbinlaaGreatDoor
namespace Rows

/-- THE TIED CARD OF 'sedimentlaw15.StateSmall'. -/
def stateSmallCard : Claim7 := { stood := { row := stateSmallRow, standIns := [], harness := (true, "185475be7a672672c08aa27641e0bc5a420bccb39e05d696f5c2471f5018ace0"), looks := true }, kinds := [], alts := [], laidByText := true, laidKinds := [.data, .pinned], laidTests := true, laidLooks := .later }
def StateSmallCardSaid : Prop := Claim7.holds Tryz.pinned (.plain (OpenSpec.ofChange stateSmallSpec)) stateSmallCard

/-- THE TIED CARD OF 'sedimentlaw15.StateRoom'. -/
def stateRoomCard : Claim7 := { stood := { row := stateRoomRow, standIns := [], harness := (true, "185475be7a672672c08aa27641e0bc5a420bccb39e05d696f5c2471f5018ace0"), looks := true }, kinds := [], alts := [], laidByText := true, laidKinds := [.data, .pinned], laidTests := true, laidLooks := .later }
def StateRoomCardSaid : Prop := Claim7.holds Tryz.pinned (.plain (OpenSpec.ofChange stateRoomSpec)) stateRoomCard

/-- THE TIED CARD OF 'sedimentlaw15.StateCopies'. -/
def stateCopiesCard : Claim7 := { stood := { row := stateCopiesRow, standIns := [], harness := (true, "185475be7a672672c08aa27641e0bc5a420bccb39e05d696f5c2471f5018ace0"), looks := true }, kinds := [], alts := [], laidByText := true, laidKinds := [.data, .pinned], laidTests := true, laidLooks := .later }
def StateCopiesCardSaid : Prop := Claim7.holds Tryz.pinned (.plain (OpenSpec.ofChange stateCopiesSpec)) stateCopiesCard

/-- THE TIED CARD OF 'sedimentlaw15.StatePending'. -/
def statePendingCard : Claim7 := { stood := { row := statePendingRow, standIns := [], harness := (true, "185475be7a672672c08aa27641e0bc5a420bccb39e05d696f5c2471f5018ace0"), looks := true }, kinds := [], alts := [], laidByText := true, laidKinds := [.data, .pinned], laidTests := true, laidLooks := .later }
def StatePendingCardSaid : Prop := Claim7.holds Tryz.pinned (.plain (OpenSpec.ofChange statePendingSpec)) statePendingCard

/-- THE TIED CARD OF 'sedimentlaw15.StateAborts'. -/
def stateAbortsCard : Claim7 := { stood := { row := stateAbortsRow, standIns := [], harness := (true, "185475be7a672672c08aa27641e0bc5a420bccb39e05d696f5c2471f5018ace0"), looks := true }, kinds := [], alts := [], laidByText := true, laidKinds := [.data, .pinned], laidTests := true, laidLooks := .later }
def StateAbortsCardSaid : Prop := Claim7.holds Tryz.pinned (.plain (OpenSpec.ofChange stateAbortsSpec)) stateAbortsCard

/-- THE TIED CARD OF 'sedimentlaw20.OplogParts'. -/
def oplogPartsCard : Claim7 := { stood := { row := oplogPartsRow, standIns := [], harness := (true, "185475be7a672672c08aa27641e0bc5a420bccb39e05d696f5c2471f5018ace0"), looks := true }, kinds := [], alts := [], laidByText := true, laidKinds := [.data, .pinned], laidTests := true, laidLooks := .later }
def OplogPartsCardSaid : Prop := Claim7.holds Tryz.pinned (.plain (OpenSpec.ofChange oplogPartsSpec)) oplogPartsCard

/-- THE TIED CARD OF 'sedimentlaw20.OplogText'. -/
def oplogTextCard : Claim7 := { stood := { row := oplogTextRow, standIns := [], harness := (true, "185475be7a672672c08aa27641e0bc5a420bccb39e05d696f5c2471f5018ace0"), looks := true }, kinds := [], alts := [], laidByText := true, laidKinds := [.data, .pinned], laidTests := true, laidLooks := .later }
def OplogTextCardSaid : Prop := Claim7.holds Tryz.pinned (.plain (OpenSpec.ofChange oplogTextSpec)) oplogTextCard

/-- THE SECOND FORM's CARD OF 'sedimentlaw15.StateSmall'. -/
def stateSmallUptoCard : Claim7 := { stood := { row := stateSmallUptoRow, standIns := [], harness := (true, "185475be7a672672c08aa27641e0bc5a420bccb39e05d696f5c2471f5018ace0"), looks := true }, kinds := [], alts := [], laidByText := true, laidKinds := [.data, .pinned], laidTests := true, laidLooks := .later }
def StateSmallUptoCardSaid : Prop := Claim7.holds Tryz.pinned (.plain (OpenSpec.upto stateSmallSpec)) stateSmallUptoCard

/-- THE SECOND FORM's CARD OF 'sedimentlaw15.StateRoom'. -/
def stateRoomUptoCard : Claim7 := { stood := { row := stateRoomUptoRow, standIns := [], harness := (true, "185475be7a672672c08aa27641e0bc5a420bccb39e05d696f5c2471f5018ace0"), looks := true }, kinds := [], alts := [], laidByText := true, laidKinds := [.data, .pinned], laidTests := true, laidLooks := .later }
def StateRoomUptoCardSaid : Prop := Claim7.holds Tryz.pinned (.plain (OpenSpec.upto stateRoomSpec)) stateRoomUptoCard

/-- THE SECOND FORM's CARD OF 'sedimentlaw15.StateCopies'. -/
def stateCopiesUptoCard : Claim7 := { stood := { row := stateCopiesUptoRow, standIns := [], harness := (true, "185475be7a672672c08aa27641e0bc5a420bccb39e05d696f5c2471f5018ace0"), looks := true }, kinds := [], alts := [], laidByText := true, laidKinds := [.data, .pinned], laidTests := true, laidLooks := .later }
def StateCopiesUptoCardSaid : Prop := Claim7.holds Tryz.pinned (.plain (OpenSpec.upto stateCopiesSpec)) stateCopiesUptoCard

/-- THE SECOND FORM's CARD OF 'sedimentlaw15.StatePending'. -/
def statePendingUptoCard : Claim7 := { stood := { row := statePendingUptoRow, standIns := [], harness := (true, "185475be7a672672c08aa27641e0bc5a420bccb39e05d696f5c2471f5018ace0"), looks := true }, kinds := [], alts := [], laidByText := true, laidKinds := [.data, .pinned], laidTests := true, laidLooks := .later }
def StatePendingUptoCardSaid : Prop := Claim7.holds Tryz.pinned (.plain (OpenSpec.upto statePendingSpec)) statePendingUptoCard

/-- THE SECOND FORM's CARD OF 'sedimentlaw15.StateAborts'. -/
def stateAbortsUptoCard : Claim7 := { stood := { row := stateAbortsUptoRow, standIns := [], harness := (true, "185475be7a672672c08aa27641e0bc5a420bccb39e05d696f5c2471f5018ace0"), looks := true }, kinds := [], alts := [], laidByText := true, laidKinds := [.data, .pinned], laidTests := true, laidLooks := .later }
def StateAbortsUptoCardSaid : Prop := Claim7.holds Tryz.pinned (.plain (OpenSpec.upto stateAbortsSpec)) stateAbortsUptoCard

/-- THE SECOND FORM's CARD OF 'sedimentlaw20.OplogParts'. -/
def oplogPartsUptoCard : Claim7 := { stood := { row := oplogPartsUptoRow, standIns := [], harness := (true, "185475be7a672672c08aa27641e0bc5a420bccb39e05d696f5c2471f5018ace0"), looks := true }, kinds := [], alts := [], laidByText := true, laidKinds := [.data, .pinned], laidTests := true, laidLooks := .later }
def OplogPartsUptoCardSaid : Prop := Claim7.holds Tryz.pinned (.plain (OpenSpec.upto oplogPartsSpec)) oplogPartsUptoCard

/-- THE SECOND FORM's CARD OF 'sedimentlaw20.OplogText'. -/
def oplogTextUptoCard : Claim7 := { stood := { row := oplogTextUptoRow, standIns := [], harness := (true, "185475be7a672672c08aa27641e0bc5a420bccb39e05d696f5c2471f5018ace0"), looks := true }, kinds := [], alts := [], laidByText := true, laidKinds := [.data, .pinned], laidTests := true, laidLooks := .later }
def OplogTextUptoCardSaid : Prop := Claim7.holds Tryz.pinned (.plain (OpenSpec.upto oplogTextSpec)) oplogTextUptoCard
end Rows
end Go.Proofs.YtkfdgodngbinlaaGreatDoor
