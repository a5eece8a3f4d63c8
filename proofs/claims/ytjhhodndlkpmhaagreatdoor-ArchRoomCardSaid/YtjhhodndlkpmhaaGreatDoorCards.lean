/-
  DERIVED. GIVEN WITH THE SEED: THE CARDS: each row of YtjhhodndlkpmhaaGreatDoorRows.lean that lists a variable, with what it lists TIED to the program's text (the seventh form; the later family's looks); each row that meets fmt, with fmt's text TOLD by the authors' own Lean function (tested against real Go, not proved from fmt's source: count such statements apart). THE CARD IS WHAT COUNTS. Prove the row's statement (the work); the ties are given (YtjhhodndlkpmhaaGreatDoorTie.lean); close each card by the builder's one call (the guide's Derived/Test/ToyasCard.lean, 'card_holds'). Laid BY PROGRAM, IN A SANDBOX (cutbox-door.mjs). By AI agents, Wed Nov 11 2026. No macro, syntax, notation, axiom, sorry.
-/
import Derived.Test.YtjhhodndlkpmhaaGreatDoorRows
import GoSem.ClaimSeven
namespace Go.Proofs.YtjhhodndlkpmhaaGreatDoor
namespace Rows

/-- THE TIED CARD OF 'sedimentlaw25.ArchBytes'. -/
def archBytesCard : Claim7 := { stood := { row := archBytesRow, standIns := [], harness := (true, "d7dafb7a59e1c06e2de384e33a520e0c34a3506cdf3fc388c181490ec82e86c1"), looks := true }, kinds := [], alts := [], laidByText := true, laidKinds := [.data, .data, .data, .data, .pinned], laidTests := true, laidLooks := .later }
def ArchBytesCardSaid : Prop := Claim7.holds Tryz.pinned (.plain (OpenSpec.ofChange archBytesSpec)) archBytesCard

/-- THE TIED CARD OF 'sedimentlaw25.ArchNone'. -/
def archNoneCard : Claim7 := { stood := { row := archNoneRow, standIns := [], harness := (true, "d7dafb7a59e1c06e2de384e33a520e0c34a3506cdf3fc388c181490ec82e86c1"), looks := true }, kinds := [], alts := [], laidByText := true, laidKinds := [.data, .data, .data, .data, .pinned], laidTests := true, laidLooks := .later }
def ArchNoneCardSaid : Prop := Claim7.holds Tryz.pinned (.plain (OpenSpec.ofChange archNoneSpec)) archNoneCard

/-- THE TIED CARD OF 'sedimentlaw25.ArchRoom'. -/
def archRoomCard : Claim7 := { stood := { row := archRoomRow, standIns := [], harness := (true, "d7dafb7a59e1c06e2de384e33a520e0c34a3506cdf3fc388c181490ec82e86c1"), looks := true }, kinds := [], alts := [], laidByText := true, laidKinds := [.data, .data, .data, .data, .pinned], laidTests := true, laidLooks := .later }
def ArchRoomCardSaid : Prop := Claim7.holds Tryz.pinned (.plain (OpenSpec.ofChange archRoomSpec)) archRoomCard

/-- THE SECOND FORM's CARD OF 'sedimentlaw25.ArchBytes'. -/
def archBytesUptoCard : Claim7 := { stood := { row := archBytesUptoRow, standIns := [], harness := (true, "d7dafb7a59e1c06e2de384e33a520e0c34a3506cdf3fc388c181490ec82e86c1"), looks := true }, kinds := [], alts := [], laidByText := true, laidKinds := [.data, .data, .data, .data, .pinned], laidTests := true, laidLooks := .later }
def ArchBytesUptoCardSaid : Prop := Claim7.holds Tryz.pinned (.plain (OpenSpec.upto archBytesSpec)) archBytesUptoCard

/-- THE SECOND FORM's CARD OF 'sedimentlaw25.ArchNone'. -/
def archNoneUptoCard : Claim7 := { stood := { row := archNoneUptoRow, standIns := [], harness := (true, "d7dafb7a59e1c06e2de384e33a520e0c34a3506cdf3fc388c181490ec82e86c1"), looks := true }, kinds := [], alts := [], laidByText := true, laidKinds := [.data, .data, .data, .data, .pinned], laidTests := true, laidLooks := .later }
def ArchNoneUptoCardSaid : Prop := Claim7.holds Tryz.pinned (.plain (OpenSpec.upto archNoneSpec)) archNoneUptoCard

/-- THE SECOND FORM's CARD OF 'sedimentlaw25.ArchRoom'. -/
def archRoomUptoCard : Claim7 := { stood := { row := archRoomUptoRow, standIns := [], harness := (true, "d7dafb7a59e1c06e2de384e33a520e0c34a3506cdf3fc388c181490ec82e86c1"), looks := true }, kinds := [], alts := [], laidByText := true, laidKinds := [.data, .data, .data, .data, .pinned], laidTests := true, laidLooks := .later }
def ArchRoomUptoCardSaid : Prop := Claim7.holds Tryz.pinned (.plain (OpenSpec.upto archRoomSpec)) archRoomUptoCard
end Rows
end Go.Proofs.YtjhhodndlkpmhaaGreatDoor
