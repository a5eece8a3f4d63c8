/-
  DERIVED. GIVEN WITH THE SEED: THE CARDS: each row of YtkickdmiilmkoaaGreatDoorRows.lean that lists a variable, with what it lists TIED to the program's text (the seventh form; the later family's looks); each row that meets fmt, with fmt's text TOLD by the authors' own Lean function (tested against real Go, not proved from fmt's source: count such statements apart). THE CARD IS WHAT COUNTS. Prove the row's statement (the work); the ties are given (YtkickdmiilmkoaaGreatDoorTie.lean); close each card by the builder's one call (the guide's Derived/Test/ToyasCard.lean, 'card_holds'). Laid BY PROGRAM, IN A SANDBOX (cutbox-door.mjs). By AI agents, Wed Nov 11 2026. No macro, syntax, notation, axiom, sorry.
-/
import Derived.Test.YtkickdmiilmkoaaGreatDoorRows
import GoSem.ClaimSeven
namespace Go.Proofs.YtkickdmiilmkoaaGreatDoor
namespace Rows

/-- THE TIED CARD OF 'sedimentlaw20.OplogTells'. -/
def oplogTellsCard : Claim7 := { stood := { row := oplogTellsRow, standIns := [], harness := (true, "8382fd68df10578a9d1265df13aee8b57615238c91f0ea0979f783ba8aef76ba"), looks := false }, kinds := [], alts := [], laidByText := true, laidKinds := [.data, .pinned], laidTests := true, laidLooks := .later }
def OplogTellsCardSaid : Prop := Claim7.holds Tryz.pinned (.plain (OpenSpec.ofChange oplogTellsSpec)) oplogTellsCard

/-- THE TIED CARD OF 'sedimentlaw16.RecTells'. -/
def recTellsCard : Claim7 := { stood := { row := recTellsRow, standIns := [], harness := (true, "8382fd68df10578a9d1265df13aee8b57615238c91f0ea0979f783ba8aef76ba"), looks := false }, kinds := [], alts := [], laidByText := true, laidKinds := [.data, .pinned], laidTests := true, laidLooks := .later }
def RecTellsCardSaid : Prop := Claim7.holds Tryz.pinned (.plain (OpenSpec.ofChange recTellsSpec)) recTellsCard

/-- THE TIED CARD OF 'sedimentlaw16.RecSamples'. -/
def recSamplesCard : Claim7 := { stood := { row := recSamplesRow, standIns := [], harness := (true, "8382fd68df10578a9d1265df13aee8b57615238c91f0ea0979f783ba8aef76ba"), looks := false }, kinds := [], alts := [], laidByText := true, laidKinds := [.data, .pinned], laidTests := true, laidLooks := .later }
def RecSamplesCardSaid : Prop := Claim7.holds Tryz.pinned (.plain (OpenSpec.ofChange recSamplesSpec)) recSamplesCard

/-- THE TIED CARD OF 'sedimentlaw17.SegBack'. -/
def segBackCard : Claim7 := { stood := { row := segBackRow, standIns := [], harness := (true, "8382fd68df10578a9d1265df13aee8b57615238c91f0ea0979f783ba8aef76ba"), looks := false }, kinds := [], alts := [], laidByText := true, laidKinds := [.data, .pinned], laidTests := true, laidLooks := .later }
def SegBackCardSaid : Prop := Claim7.holds Tryz.pinned (.plain (OpenSpec.ofChange segBackSpec)) segBackCard

/-- THE SECOND FORM's CARD OF 'sedimentlaw20.OplogTells'. -/
def oplogTellsUptoCard : Claim7 := { stood := { row := oplogTellsUptoRow, standIns := [], harness := (true, "8382fd68df10578a9d1265df13aee8b57615238c91f0ea0979f783ba8aef76ba"), looks := false }, kinds := [], alts := [], laidByText := true, laidKinds := [.data, .pinned], laidTests := true, laidLooks := .later }
def OplogTellsUptoCardSaid : Prop := Claim7.holds Tryz.pinned (.plain (OpenSpec.upto oplogTellsSpec)) oplogTellsUptoCard

/-- THE SECOND FORM's CARD OF 'sedimentlaw16.RecTells'. -/
def recTellsUptoCard : Claim7 := { stood := { row := recTellsUptoRow, standIns := [], harness := (true, "8382fd68df10578a9d1265df13aee8b57615238c91f0ea0979f783ba8aef76ba"), looks := false }, kinds := [], alts := [], laidByText := true, laidKinds := [.data, .pinned], laidTests := true, laidLooks := .later }
def RecTellsUptoCardSaid : Prop := Claim7.holds Tryz.pinned (.plain (OpenSpec.upto recTellsSpec)) recTellsUptoCard

/-- THE SECOND FORM's CARD OF 'sedimentlaw16.RecSamples'. -/
def recSamplesUptoCard : Claim7 := { stood := { row := recSamplesUptoRow, standIns := [], harness := (true, "8382fd68df10578a9d1265df13aee8b57615238c91f0ea0979f783ba8aef76ba"), looks := false }, kinds := [], alts := [], laidByText := true, laidKinds := [.data, .pinned], laidTests := true, laidLooks := .later }
def RecSamplesUptoCardSaid : Prop := Claim7.holds Tryz.pinned (.plain (OpenSpec.upto recSamplesSpec)) recSamplesUptoCard

/-- THE SECOND FORM's CARD OF 'sedimentlaw17.SegBack'. -/
def segBackUptoCard : Claim7 := { stood := { row := segBackUptoRow, standIns := [], harness := (true, "8382fd68df10578a9d1265df13aee8b57615238c91f0ea0979f783ba8aef76ba"), looks := false }, kinds := [], alts := [], laidByText := true, laidKinds := [.data, .pinned], laidTests := true, laidLooks := .later }
def SegBackUptoCardSaid : Prop := Claim7.holds Tryz.pinned (.plain (OpenSpec.upto segBackSpec)) segBackUptoCard
end Rows
end Go.Proofs.YtkickdmiilmkoaaGreatDoor
