/-
  DERIVED. GIVEN WITH THE SEED: THE CARDS: each row of YtkickdmiilmkoaaDoorRows.lean that lists a variable, with what it lists TIED to the program's text (the seventh form; the later family's looks); each row that meets fmt, with fmt's text TOLD by the authors' own Lean function (tested against real Go, not proved from fmt's source: count such statements apart). THE CARD IS WHAT COUNTS. Prove the row's statement (the work); the ties are given (YtkickdmiilmkoaaDoorTie.lean); close each card by the builder's one call (the guide's Derived/Test/ToyasCard.lean, 'card_holds'). Laid BY PROGRAM, IN A SANDBOX (cutbox-door.mjs). By AI agents, Wed Nov 11 2026. No macro, syntax, notation, axiom, sorry.
-/
import Derived.Test.YtkickdmiilmkoaaDoorRows
import GoSem.ClaimSeven
namespace Go.Proofs.YtkickdmiilmkoaaDoor
namespace Rows

/-- THE TIED CARD OF 'sedimentlaw20.OplogBack'. -/
def oplogBackCard : Claim7 := { stood := { row := oplogBackRow, standIns := [], harness := (true, "e96e424b91954600f6ff3ec4f39934a709f092f52e7f3777d34af9bd77a7ba6f"), looks := false }, kinds := [], alts := [], laidByText := true, laidKinds := [.data, .pinned], laidTests := true, laidLooks := .later }
def OplogBackCardSaid : Prop := Claim7.holds Tryd.pinned (.plain (OpenSpec.ofChange oplogBackSpec)) oplogBackCard

/-- THE TIED CARD OF 'sedimentlaw16.RecParts'. -/
def recPartsCard : Claim7 := { stood := { row := recPartsRow, standIns := [], harness := (true, "e96e424b91954600f6ff3ec4f39934a709f092f52e7f3777d34af9bd77a7ba6f"), looks := false }, kinds := [], alts := [], laidByText := true, laidKinds := [.data, .pinned], laidTests := true, laidLooks := .later }
def RecPartsCardSaid : Prop := Claim7.holds Tryd.pinned (.plain (OpenSpec.ofChange recPartsSpec)) recPartsCard

/-- THE TIED CARD OF 'sedimentlaw16.RecBack'. -/
def recBackCard : Claim7 := { stood := { row := recBackRow, standIns := [], harness := (true, "e96e424b91954600f6ff3ec4f39934a709f092f52e7f3777d34af9bd77a7ba6f"), looks := false }, kinds := [], alts := [], laidByText := true, laidKinds := [.data, .pinned], laidTests := true, laidLooks := .later }
def RecBackCardSaid : Prop := Claim7.holds Tryd.pinned (.plain (OpenSpec.ofChange recBackSpec)) recBackCard

/-- THE TIED CARD OF 'sedimentlaw17.SegBytes'. -/
def segBytesCard : Claim7 := { stood := { row := segBytesRow, standIns := [], harness := (true, "e96e424b91954600f6ff3ec4f39934a709f092f52e7f3777d34af9bd77a7ba6f"), looks := false }, kinds := [], alts := [], laidByText := true, laidKinds := [.data, .pinned], laidTests := true, laidLooks := .later }
def SegBytesCardSaid : Prop := Claim7.holds Tryd.pinned (.plain (OpenSpec.ofChange segBytesSpec)) segBytesCard

/-- THE TIED CARD OF 'sedimentlaw17.SegApart'. -/
def segApartCard : Claim7 := { stood := { row := segApartRow, standIns := [], harness := (true, "e96e424b91954600f6ff3ec4f39934a709f092f52e7f3777d34af9bd77a7ba6f"), looks := false }, kinds := [], alts := [], laidByText := true, laidKinds := [.data, .pinned], laidTests := true, laidLooks := .later }
def SegApartCardSaid : Prop := Claim7.holds Tryd.pinned (.plain (OpenSpec.ofChange segApartSpec)) segApartCard

/-- THE TIED CARD OF 'sedimentlaw17.SegMixed'. -/
def segMixedCard : Claim7 := { stood := { row := segMixedRow, standIns := [], harness := (true, "e96e424b91954600f6ff3ec4f39934a709f092f52e7f3777d34af9bd77a7ba6f"), looks := false }, kinds := [], alts := [], laidByText := true, laidKinds := [.data, .pinned], laidTests := true, laidLooks := .later }
def SegMixedCardSaid : Prop := Claim7.holds Tryd.pinned (.plain (OpenSpec.ofChange segMixedSpec)) segMixedCard

/-- THE SECOND FORM's CARD OF 'sedimentlaw20.OplogBack'. -/
def oplogBackUptoCard : Claim7 := { stood := { row := oplogBackUptoRow, standIns := [], harness := (true, "e96e424b91954600f6ff3ec4f39934a709f092f52e7f3777d34af9bd77a7ba6f"), looks := false }, kinds := [], alts := [], laidByText := true, laidKinds := [.data, .pinned], laidTests := true, laidLooks := .later }
def OplogBackUptoCardSaid : Prop := Claim7.holds Tryd.pinned (.plain (OpenSpec.upto oplogBackSpec)) oplogBackUptoCard

/-- THE SECOND FORM's CARD OF 'sedimentlaw16.RecParts'. -/
def recPartsUptoCard : Claim7 := { stood := { row := recPartsUptoRow, standIns := [], harness := (true, "e96e424b91954600f6ff3ec4f39934a709f092f52e7f3777d34af9bd77a7ba6f"), looks := false }, kinds := [], alts := [], laidByText := true, laidKinds := [.data, .pinned], laidTests := true, laidLooks := .later }
def RecPartsUptoCardSaid : Prop := Claim7.holds Tryd.pinned (.plain (OpenSpec.upto recPartsSpec)) recPartsUptoCard

/-- THE SECOND FORM's CARD OF 'sedimentlaw16.RecBack'. -/
def recBackUptoCard : Claim7 := { stood := { row := recBackUptoRow, standIns := [], harness := (true, "e96e424b91954600f6ff3ec4f39934a709f092f52e7f3777d34af9bd77a7ba6f"), looks := false }, kinds := [], alts := [], laidByText := true, laidKinds := [.data, .pinned], laidTests := true, laidLooks := .later }
def RecBackUptoCardSaid : Prop := Claim7.holds Tryd.pinned (.plain (OpenSpec.upto recBackSpec)) recBackUptoCard

/-- THE SECOND FORM's CARD OF 'sedimentlaw17.SegBytes'. -/
def segBytesUptoCard : Claim7 := { stood := { row := segBytesUptoRow, standIns := [], harness := (true, "e96e424b91954600f6ff3ec4f39934a709f092f52e7f3777d34af9bd77a7ba6f"), looks := false }, kinds := [], alts := [], laidByText := true, laidKinds := [.data, .pinned], laidTests := true, laidLooks := .later }
def SegBytesUptoCardSaid : Prop := Claim7.holds Tryd.pinned (.plain (OpenSpec.upto segBytesSpec)) segBytesUptoCard

/-- THE SECOND FORM's CARD OF 'sedimentlaw17.SegApart'. -/
def segApartUptoCard : Claim7 := { stood := { row := segApartUptoRow, standIns := [], harness := (true, "e96e424b91954600f6ff3ec4f39934a709f092f52e7f3777d34af9bd77a7ba6f"), looks := false }, kinds := [], alts := [], laidByText := true, laidKinds := [.data, .pinned], laidTests := true, laidLooks := .later }
def SegApartUptoCardSaid : Prop := Claim7.holds Tryd.pinned (.plain (OpenSpec.upto segApartSpec)) segApartUptoCard

/-- THE SECOND FORM's CARD OF 'sedimentlaw17.SegMixed'. -/
def segMixedUptoCard : Claim7 := { stood := { row := segMixedUptoRow, standIns := [], harness := (true, "e96e424b91954600f6ff3ec4f39934a709f092f52e7f3777d34af9bd77a7ba6f"), looks := false }, kinds := [], alts := [], laidByText := true, laidKinds := [.data, .pinned], laidTests := true, laidLooks := .later }
def SegMixedUptoCardSaid : Prop := Claim7.holds Tryd.pinned (.plain (OpenSpec.upto segMixedSpec)) segMixedUptoCard
end Rows
end Go.Proofs.YtkickdmiilmkoaaDoor
