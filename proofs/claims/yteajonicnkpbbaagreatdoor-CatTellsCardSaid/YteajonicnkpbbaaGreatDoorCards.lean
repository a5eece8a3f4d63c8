/-
  DERIVED. GIVEN WITH THE SEED: THE CARDS: each row of YteajonicnkpbbaaGreatDoorRows.lean that lists a variable, with what it lists TIED to the program's text (the seventh form; the later family's looks); each row that meets fmt, with fmt's text TOLD by the authors' own Lean function (tested against real Go, not proved from fmt's source: count such statements apart). THE CARD IS WHAT COUNTS. Prove the row's statement (the work); the ties are given (YteajonicnkpbbaaGreatDoorTie.lean); close each card by the builder's one call (the guide's Derived/Test/ToyasCard.lean, 'card_holds'). Laid BY PROGRAM, IN A SANDBOX (cutbox-door.mjs). By AI agents, Wed Nov 11 2026. No macro, syntax, notation, axiom, sorry.
-/
import Derived.Test.YteajonicnkpbbaaGreatDoorRows
import GoSem.ClaimSeven
namespace Go.Proofs.YteajonicnkpbbaaGreatDoor
namespace Rows

/-- THE TIED CARD OF 'sedimentlaw23.CatTells'. -/
def catTellsCard : Claim7 := { stood := { row := catTellsRow, standIns := [], harness := (true, "c4a8b8c923e372e74fdee6899512a534a6b0eba0b83e32cbf78bb9d60adfe11b"), looks := true }, kinds := [], alts := [], laidByText := true, laidKinds := [.data, .data, .data, .data, .pinned], laidTests := true, laidLooks := .later }
def CatTellsCardSaid : Prop := Claim7.holds Tryz.pinned (.plain (OpenSpec.ofChange catTellsSpec)) catTellsCard

/-- THE TIED CARD OF 'sedimentlaw23.CatSpoilt'. -/
def catSpoiltCard : Claim7 := { stood := { row := catSpoiltRow, standIns := [], harness := (true, "c4a8b8c923e372e74fdee6899512a534a6b0eba0b83e32cbf78bb9d60adfe11b"), looks := true }, kinds := [], alts := [], laidByText := true, laidKinds := [.data, .data, .data, .data, .pinned], laidTests := true, laidLooks := .later }
def CatSpoiltCardSaid : Prop := Claim7.holds Tryz.pinned (.plain (OpenSpec.ofChange catSpoiltSpec)) catSpoiltCard

/-- THE TIED CARD OF 'sedimentlaw23.CatApart'. -/
def catApartCard : Claim7 := { stood := { row := catApartRow, standIns := [], harness := (true, "c4a8b8c923e372e74fdee6899512a534a6b0eba0b83e32cbf78bb9d60adfe11b"), looks := true }, kinds := [], alts := [], laidByText := true, laidKinds := [.data, .data, .data, .data, .pinned], laidTests := true, laidLooks := .later }
def CatApartCardSaid : Prop := Claim7.holds Tryz.pinned (.plain (OpenSpec.ofChange catApartSpec)) catApartCard

/-- THE TIED CARD OF 'sedimentlaw23.CatOf'. -/
def catOfCard : Claim7 := { stood := { row := catOfRow, standIns := [], harness := (true, "c4a8b8c923e372e74fdee6899512a534a6b0eba0b83e32cbf78bb9d60adfe11b"), looks := true }, kinds := [], alts := [], laidByText := true, laidKinds := [.data, .data, .data, .data, .pinned], laidTests := true, laidLooks := .later }
def CatOfCardSaid : Prop := Claim7.holds Tryz.pinned (.plain (OpenSpec.ofChange catOfSpec)) catOfCard

/-- THE SECOND FORM's CARD OF 'sedimentlaw23.CatTells'. -/
def catTellsUptoCard : Claim7 := { stood := { row := catTellsUptoRow, standIns := [], harness := (true, "c4a8b8c923e372e74fdee6899512a534a6b0eba0b83e32cbf78bb9d60adfe11b"), looks := true }, kinds := [], alts := [], laidByText := true, laidKinds := [.data, .data, .data, .data, .pinned], laidTests := true, laidLooks := .later }
def CatTellsUptoCardSaid : Prop := Claim7.holds Tryz.pinned (.plain (OpenSpec.upto catTellsSpec)) catTellsUptoCard

/-- THE SECOND FORM's CARD OF 'sedimentlaw23.CatSpoilt'. -/
def catSpoiltUptoCard : Claim7 := { stood := { row := catSpoiltUptoRow, standIns := [], harness := (true, "c4a8b8c923e372e74fdee6899512a534a6b0eba0b83e32cbf78bb9d60adfe11b"), looks := true }, kinds := [], alts := [], laidByText := true, laidKinds := [.data, .data, .data, .data, .pinned], laidTests := true, laidLooks := .later }
def CatSpoiltUptoCardSaid : Prop := Claim7.holds Tryz.pinned (.plain (OpenSpec.upto catSpoiltSpec)) catSpoiltUptoCard

/-- THE SECOND FORM's CARD OF 'sedimentlaw23.CatApart'. -/
def catApartUptoCard : Claim7 := { stood := { row := catApartUptoRow, standIns := [], harness := (true, "c4a8b8c923e372e74fdee6899512a534a6b0eba0b83e32cbf78bb9d60adfe11b"), looks := true }, kinds := [], alts := [], laidByText := true, laidKinds := [.data, .data, .data, .data, .pinned], laidTests := true, laidLooks := .later }
def CatApartUptoCardSaid : Prop := Claim7.holds Tryz.pinned (.plain (OpenSpec.upto catApartSpec)) catApartUptoCard

/-- THE SECOND FORM's CARD OF 'sedimentlaw23.CatOf'. -/
def catOfUptoCard : Claim7 := { stood := { row := catOfUptoRow, standIns := [], harness := (true, "c4a8b8c923e372e74fdee6899512a534a6b0eba0b83e32cbf78bb9d60adfe11b"), looks := true }, kinds := [], alts := [], laidByText := true, laidKinds := [.data, .data, .data, .data, .pinned], laidTests := true, laidLooks := .later }
def CatOfUptoCardSaid : Prop := Claim7.holds Tryz.pinned (.plain (OpenSpec.upto catOfSpec)) catOfUptoCard
end Rows
end Go.Proofs.YteajonicnkpbbaaGreatDoor
