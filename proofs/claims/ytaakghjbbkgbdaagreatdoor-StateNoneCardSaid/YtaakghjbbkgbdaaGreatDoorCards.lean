/-
  DERIVED. GIVEN WITH THE SEED: THE CARDS: each row of YtaakghjbbkgbdaaGreatDoorRows.lean that lists a variable, with what it lists TIED to the program's text (the seventh form; the later family's looks); each row that meets fmt, with fmt's text TOLD by the authors' own Lean function (tested against real Go, not proved from fmt's source: count such statements apart). THE CARD IS WHAT COUNTS. Prove the row's statement (the work); the ties are given (YtaakghjbbkgbdaaGreatDoorTie.lean); close each card by the builder's one call (the guide's Derived/Test/ToyasCard.lean, 'card_holds'). Laid BY PROGRAM, IN A SANDBOX (cutbox-door.mjs). By AI agents, Wed Nov 11 2026. No macro, syntax, notation, axiom, sorry.
-/
import Derived.Test.YtaakghjbbkgbdaaGreatDoorRows
import GoSem.ClaimSeven
namespace Go.Proofs.YtaakghjbbkgbdaaGreatDoor
namespace Rows

/-- THE TIED CARD OF 'sedimentlaw23.CatTells'. -/
def catTellsCard : Claim7 := { stood := { row := catTellsRow, standIns := [], harness := (true, "5ee7230b8e5bf29ec99ca12e17b9204f12e44a4f16607e605fc5f2bbda0b0d48"), looks := true }, kinds := [], alts := [], laidByText := true, laidKinds := [.data, .data, .data, .data, .pinned], laidTests := true, laidLooks := .later }
def CatTellsCardSaid : Prop := Claim7.holds Tryz.pinned (.plain (OpenSpec.ofChange catTellsSpec)) catTellsCard

/-- THE TIED CARD OF 'sedimentlaw23.CatSpoilt'. -/
def catSpoiltCard : Claim7 := { stood := { row := catSpoiltRow, standIns := [], harness := (true, "5ee7230b8e5bf29ec99ca12e17b9204f12e44a4f16607e605fc5f2bbda0b0d48"), looks := true }, kinds := [], alts := [], laidByText := true, laidKinds := [.data, .data, .data, .data, .pinned], laidTests := true, laidLooks := .later }
def CatSpoiltCardSaid : Prop := Claim7.holds Tryz.pinned (.plain (OpenSpec.ofChange catSpoiltSpec)) catSpoiltCard

/-- THE TIED CARD OF 'sedimentlaw23.CatApart'. -/
def catApartCard : Claim7 := { stood := { row := catApartRow, standIns := [], harness := (true, "5ee7230b8e5bf29ec99ca12e17b9204f12e44a4f16607e605fc5f2bbda0b0d48"), looks := true }, kinds := [], alts := [], laidByText := true, laidKinds := [.data, .data, .data, .data, .pinned], laidTests := true, laidLooks := .later }
def CatApartCardSaid : Prop := Claim7.holds Tryz.pinned (.plain (OpenSpec.ofChange catApartSpec)) catApartCard

/-- THE TIED CARD OF 'sedimentlaw15.StateModel'. -/
def stateModelCard : Claim7 := { stood := { row := stateModelRow, standIns := [], harness := (true, "5ee7230b8e5bf29ec99ca12e17b9204f12e44a4f16607e605fc5f2bbda0b0d48"), looks := true }, kinds := [], alts := [], laidByText := true, laidKinds := [.data, .pinned], laidTests := true, laidLooks := .later }
def StateModelCardSaid : Prop := Claim7.holds Tryz.pinned (.plain (OpenSpec.ofChange stateModelSpec)) stateModelCard

/-- THE TIED CARD OF 'sedimentlaw15.StateSmall'. -/
def stateSmallCard : Claim7 := { stood := { row := stateSmallRow, standIns := [], harness := (true, "5ee7230b8e5bf29ec99ca12e17b9204f12e44a4f16607e605fc5f2bbda0b0d48"), looks := true }, kinds := [], alts := [], laidByText := true, laidKinds := [.data, .pinned], laidTests := true, laidLooks := .later }
def StateSmallCardSaid : Prop := Claim7.holds Tryz.pinned (.plain (OpenSpec.ofChange stateSmallSpec)) stateSmallCard

/-- THE TIED CARD OF 'sedimentlaw15.StateRoom'. -/
def stateRoomCard : Claim7 := { stood := { row := stateRoomRow, standIns := [], harness := (true, "5ee7230b8e5bf29ec99ca12e17b9204f12e44a4f16607e605fc5f2bbda0b0d48"), looks := true }, kinds := [], alts := [], laidByText := true, laidKinds := [.data, .pinned], laidTests := true, laidLooks := .later }
def StateRoomCardSaid : Prop := Claim7.holds Tryz.pinned (.plain (OpenSpec.ofChange stateRoomSpec)) stateRoomCard

/-- THE TIED CARD OF 'sedimentlaw15.StateNone'. -/
def stateNoneCard : Claim7 := { stood := { row := stateNoneRow, standIns := [], harness := (true, "5ee7230b8e5bf29ec99ca12e17b9204f12e44a4f16607e605fc5f2bbda0b0d48"), looks := true }, kinds := [], alts := [], laidByText := true, laidKinds := [.data, .pinned], laidTests := true, laidLooks := .later }
def StateNoneCardSaid : Prop := Claim7.holds Tryz.pinned (.plain (OpenSpec.ofChange stateNoneSpec)) stateNoneCard

/-- THE TIED CARD OF 'sedimentlaw15.StateCopies'. -/
def stateCopiesCard : Claim7 := { stood := { row := stateCopiesRow, standIns := [], harness := (true, "5ee7230b8e5bf29ec99ca12e17b9204f12e44a4f16607e605fc5f2bbda0b0d48"), looks := true }, kinds := [], alts := [], laidByText := true, laidKinds := [.data, .pinned], laidTests := true, laidLooks := .later }
def StateCopiesCardSaid : Prop := Claim7.holds Tryz.pinned (.plain (OpenSpec.ofChange stateCopiesSpec)) stateCopiesCard

/-- THE TIED CARD OF 'sedimentlaw15.StatePending'. -/
def statePendingCard : Claim7 := { stood := { row := statePendingRow, standIns := [], harness := (true, "5ee7230b8e5bf29ec99ca12e17b9204f12e44a4f16607e605fc5f2bbda0b0d48"), looks := true }, kinds := [], alts := [], laidByText := true, laidKinds := [.data, .pinned], laidTests := true, laidLooks := .later }
def StatePendingCardSaid : Prop := Claim7.holds Tryz.pinned (.plain (OpenSpec.ofChange statePendingSpec)) statePendingCard

/-- THE TIED CARD OF 'sedimentlaw15.StateAborts'. -/
def stateAbortsCard : Claim7 := { stood := { row := stateAbortsRow, standIns := [], harness := (true, "5ee7230b8e5bf29ec99ca12e17b9204f12e44a4f16607e605fc5f2bbda0b0d48"), looks := true }, kinds := [], alts := [], laidByText := true, laidKinds := [.data, .pinned], laidTests := true, laidLooks := .later }
def StateAbortsCardSaid : Prop := Claim7.holds Tryz.pinned (.plain (OpenSpec.ofChange stateAbortsSpec)) stateAbortsCard

/-- THE TIED CARD OF 'sedimentlaw15.StateMakes'. -/
def stateMakesCard : Claim7 := { stood := { row := stateMakesRow, standIns := [], harness := (true, "5ee7230b8e5bf29ec99ca12e17b9204f12e44a4f16607e605fc5f2bbda0b0d48"), looks := true }, kinds := [], alts := [], laidByText := true, laidKinds := [.data, .pinned], laidTests := true, laidLooks := .later }
def StateMakesCardSaid : Prop := Claim7.holds Tryz.pinned (.plain (OpenSpec.ofChange stateMakesSpec)) stateMakesCard

/-- THE TIED CARD OF 'sedimentlaw15.StatePlays'. -/
def statePlaysCard : Claim7 := { stood := { row := statePlaysRow, standIns := [], harness := (true, "5ee7230b8e5bf29ec99ca12e17b9204f12e44a4f16607e605fc5f2bbda0b0d48"), looks := true }, kinds := [], alts := [], laidByText := true, laidKinds := [.data, .pinned], laidTests := true, laidLooks := .later }
def StatePlaysCardSaid : Prop := Claim7.holds Tryz.pinned (.plain (OpenSpec.ofChange statePlaysSpec)) statePlaysCard

/-- THE SECOND FORM's CARD OF 'sedimentlaw23.CatTells'. -/
def catTellsUptoCard : Claim7 := { stood := { row := catTellsUptoRow, standIns := [], harness := (true, "5ee7230b8e5bf29ec99ca12e17b9204f12e44a4f16607e605fc5f2bbda0b0d48"), looks := true }, kinds := [], alts := [], laidByText := true, laidKinds := [.data, .data, .data, .data, .pinned], laidTests := true, laidLooks := .later }
def CatTellsUptoCardSaid : Prop := Claim7.holds Tryz.pinned (.plain (OpenSpec.upto catTellsSpec)) catTellsUptoCard

/-- THE SECOND FORM's CARD OF 'sedimentlaw23.CatSpoilt'. -/
def catSpoiltUptoCard : Claim7 := { stood := { row := catSpoiltUptoRow, standIns := [], harness := (true, "5ee7230b8e5bf29ec99ca12e17b9204f12e44a4f16607e605fc5f2bbda0b0d48"), looks := true }, kinds := [], alts := [], laidByText := true, laidKinds := [.data, .data, .data, .data, .pinned], laidTests := true, laidLooks := .later }
def CatSpoiltUptoCardSaid : Prop := Claim7.holds Tryz.pinned (.plain (OpenSpec.upto catSpoiltSpec)) catSpoiltUptoCard

/-- THE SECOND FORM's CARD OF 'sedimentlaw23.CatApart'. -/
def catApartUptoCard : Claim7 := { stood := { row := catApartUptoRow, standIns := [], harness := (true, "5ee7230b8e5bf29ec99ca12e17b9204f12e44a4f16607e605fc5f2bbda0b0d48"), looks := true }, kinds := [], alts := [], laidByText := true, laidKinds := [.data, .data, .data, .data, .pinned], laidTests := true, laidLooks := .later }
def CatApartUptoCardSaid : Prop := Claim7.holds Tryz.pinned (.plain (OpenSpec.upto catApartSpec)) catApartUptoCard

/-- THE SECOND FORM's CARD OF 'sedimentlaw15.StateModel'. -/
def stateModelUptoCard : Claim7 := { stood := { row := stateModelUptoRow, standIns := [], harness := (true, "5ee7230b8e5bf29ec99ca12e17b9204f12e44a4f16607e605fc5f2bbda0b0d48"), looks := true }, kinds := [], alts := [], laidByText := true, laidKinds := [.data, .pinned], laidTests := true, laidLooks := .later }
def StateModelUptoCardSaid : Prop := Claim7.holds Tryz.pinned (.plain (OpenSpec.upto stateModelSpec)) stateModelUptoCard

/-- THE SECOND FORM's CARD OF 'sedimentlaw15.StateSmall'. -/
def stateSmallUptoCard : Claim7 := { stood := { row := stateSmallUptoRow, standIns := [], harness := (true, "5ee7230b8e5bf29ec99ca12e17b9204f12e44a4f16607e605fc5f2bbda0b0d48"), looks := true }, kinds := [], alts := [], laidByText := true, laidKinds := [.data, .pinned], laidTests := true, laidLooks := .later }
def StateSmallUptoCardSaid : Prop := Claim7.holds Tryz.pinned (.plain (OpenSpec.upto stateSmallSpec)) stateSmallUptoCard

/-- THE SECOND FORM's CARD OF 'sedimentlaw15.StateRoom'. -/
def stateRoomUptoCard : Claim7 := { stood := { row := stateRoomUptoRow, standIns := [], harness := (true, "5ee7230b8e5bf29ec99ca12e17b9204f12e44a4f16607e605fc5f2bbda0b0d48"), looks := true }, kinds := [], alts := [], laidByText := true, laidKinds := [.data, .pinned], laidTests := true, laidLooks := .later }
def StateRoomUptoCardSaid : Prop := Claim7.holds Tryz.pinned (.plain (OpenSpec.upto stateRoomSpec)) stateRoomUptoCard

/-- THE SECOND FORM's CARD OF 'sedimentlaw15.StateNone'. -/
def stateNoneUptoCard : Claim7 := { stood := { row := stateNoneUptoRow, standIns := [], harness := (true, "5ee7230b8e5bf29ec99ca12e17b9204f12e44a4f16607e605fc5f2bbda0b0d48"), looks := true }, kinds := [], alts := [], laidByText := true, laidKinds := [.data, .pinned], laidTests := true, laidLooks := .later }
def StateNoneUptoCardSaid : Prop := Claim7.holds Tryz.pinned (.plain (OpenSpec.upto stateNoneSpec)) stateNoneUptoCard

/-- THE SECOND FORM's CARD OF 'sedimentlaw15.StateCopies'. -/
def stateCopiesUptoCard : Claim7 := { stood := { row := stateCopiesUptoRow, standIns := [], harness := (true, "5ee7230b8e5bf29ec99ca12e17b9204f12e44a4f16607e605fc5f2bbda0b0d48"), looks := true }, kinds := [], alts := [], laidByText := true, laidKinds := [.data, .pinned], laidTests := true, laidLooks := .later }
def StateCopiesUptoCardSaid : Prop := Claim7.holds Tryz.pinned (.plain (OpenSpec.upto stateCopiesSpec)) stateCopiesUptoCard

/-- THE SECOND FORM's CARD OF 'sedimentlaw15.StatePending'. -/
def statePendingUptoCard : Claim7 := { stood := { row := statePendingUptoRow, standIns := [], harness := (true, "5ee7230b8e5bf29ec99ca12e17b9204f12e44a4f16607e605fc5f2bbda0b0d48"), looks := true }, kinds := [], alts := [], laidByText := true, laidKinds := [.data, .pinned], laidTests := true, laidLooks := .later }
def StatePendingUptoCardSaid : Prop := Claim7.holds Tryz.pinned (.plain (OpenSpec.upto statePendingSpec)) statePendingUptoCard

/-- THE SECOND FORM's CARD OF 'sedimentlaw15.StateAborts'. -/
def stateAbortsUptoCard : Claim7 := { stood := { row := stateAbortsUptoRow, standIns := [], harness := (true, "5ee7230b8e5bf29ec99ca12e17b9204f12e44a4f16607e605fc5f2bbda0b0d48"), looks := true }, kinds := [], alts := [], laidByText := true, laidKinds := [.data, .pinned], laidTests := true, laidLooks := .later }
def StateAbortsUptoCardSaid : Prop := Claim7.holds Tryz.pinned (.plain (OpenSpec.upto stateAbortsSpec)) stateAbortsUptoCard

/-- THE SECOND FORM's CARD OF 'sedimentlaw15.StateMakes'. -/
def stateMakesUptoCard : Claim7 := { stood := { row := stateMakesUptoRow, standIns := [], harness := (true, "5ee7230b8e5bf29ec99ca12e17b9204f12e44a4f16607e605fc5f2bbda0b0d48"), looks := true }, kinds := [], alts := [], laidByText := true, laidKinds := [.data, .pinned], laidTests := true, laidLooks := .later }
def StateMakesUptoCardSaid : Prop := Claim7.holds Tryz.pinned (.plain (OpenSpec.upto stateMakesSpec)) stateMakesUptoCard

/-- THE SECOND FORM's CARD OF 'sedimentlaw15.StatePlays'. -/
def statePlaysUptoCard : Claim7 := { stood := { row := statePlaysUptoRow, standIns := [], harness := (true, "5ee7230b8e5bf29ec99ca12e17b9204f12e44a4f16607e605fc5f2bbda0b0d48"), looks := true }, kinds := [], alts := [], laidByText := true, laidKinds := [.data, .pinned], laidTests := true, laidLooks := .later }
def StatePlaysUptoCardSaid : Prop := Claim7.holds Tryz.pinned (.plain (OpenSpec.upto statePlaysSpec)) statePlaysUptoCard
end Rows
end Go.Proofs.YtaakghjbbkgbdaaGreatDoor
