/-
  DERIVED. GIVEN WITH THE SEED: THE CARDS: each row of YtomofnmlhjpifaaDoorRows.lean that lists a variable, with what it lists TIED to the program's text (the seventh form; the later family's looks); each row that meets fmt, with fmt's text TOLD by the authors' own Lean function (tested against real Go, not proved from fmt's source: count such statements apart). THE CARD IS WHAT COUNTS. Prove the row's statement (the work); the ties are given (YtomofnmlhjpifaaDoorTie.lean); close each card by the builder's one call (the guide's Derived/Test/ToyasCard.lean, 'card_holds'). Laid BY PROGRAM, IN A SANDBOX (cutbox-door.mjs). By AI agents, Wed Nov 11 2026. No macro, syntax, notation, axiom, sorry.
-/
import Derived.Test.YtomofnmlhjpifaaDoorRows
import GoSem.ClaimSeven
namespace Go.Proofs.YtomofnmlhjpifaaDoor
namespace Rows

/-- THE TIED CARD OF 'sedimentlaw1.PackSizes'. -/
def packSizesCard : Claim7 := { stood := { row := packSizesRow, standIns := [], harness := (true, "4dd958f6b1248534d69066d3098ca612723a24586badcfb3113e208dea68e11c"), looks := false }, kinds := [], alts := [], laidByText := true, laidKinds := [.data, .data, .data], laidTests := true, laidLooks := .later }
def PackSizesCardSaid : Prop := Claim7.holds Tryd.pinned (.plain (OpenSpec.ofChange packSizesSpec)) packSizesCard

/-- THE TIED CARD OF 'sedimentlaw1.PackDigits'. -/
def packDigitsCard : Claim7 := { stood := { row := packDigitsRow, standIns := [], harness := (true, "4dd958f6b1248534d69066d3098ca612723a24586badcfb3113e208dea68e11c"), looks := false }, kinds := [], alts := [], laidByText := true, laidKinds := [.data, .data, .data], laidTests := true, laidLooks := .later }
def PackDigitsCardSaid : Prop := Claim7.holds Tryd.pinned (.plain (OpenSpec.ofChange packDigitsSpec)) packDigitsCard

/-- THE TIED CARD OF 'sedimentlaw1.PackNumbers'. -/
def packNumbersCard : Claim7 := { stood := { row := packNumbersRow, standIns := [], harness := (true, "4dd958f6b1248534d69066d3098ca612723a24586badcfb3113e208dea68e11c"), looks := false }, kinds := [], alts := [], laidByText := true, laidKinds := [.data, .data, .data], laidTests := true, laidLooks := .later }
def PackNumbersCardSaid : Prop := Claim7.holds Tryd.pinned (.plain (OpenSpec.ofChange packNumbersSpec)) packNumbersCard

/-- THE TIED CARD OF 'sedimentlaw1.PackFills'. -/
def packFillsCard : Claim7 := { stood := { row := packFillsRow, standIns := [], harness := (true, "4dd958f6b1248534d69066d3098ca612723a24586badcfb3113e208dea68e11c"), looks := false }, kinds := [], alts := [], laidByText := true, laidKinds := [.data, .data, .data], laidTests := true, laidLooks := .later }
def PackFillsCardSaid : Prop := Claim7.holds Tryd.pinned (.plain (OpenSpec.ofChange packFillsSpec)) packFillsCard

/-- THE TIED CARD OF 'sedimentlaw1.PackNames'. -/
def packNamesCard : Claim7 := { stood := { row := packNamesRow, standIns := [], harness := (true, "4dd958f6b1248534d69066d3098ca612723a24586badcfb3113e208dea68e11c"), looks := false }, kinds := [], alts := [], laidByText := true, laidKinds := [.data, .data, .data, .data, .pinned], laidTests := true, laidLooks := .later }
def PackNamesCardSaid : Prop := Claim7.holds Tryd.pinned (.plain (OpenSpec.ofChange packNamesSpec)) packNamesCard

/-- THE TIED CARD OF 'sedimentlaw1.PackBack'. -/
def packBackCard : Claim7 := { stood := { row := packBackRow, standIns := [], harness := (true, "4dd958f6b1248534d69066d3098ca612723a24586badcfb3113e208dea68e11c"), looks := false }, kinds := [], alts := [], laidByText := true, laidKinds := [.data, .data, .data, .data, .pinned], laidTests := true, laidLooks := .later }
def PackBackCardSaid : Prop := Claim7.holds Tryd.pinned (.plain (OpenSpec.ofChange packBackSpec)) packBackCard

/-- THE TIED CARD OF 'sedimentlaw1.PackFirst'. -/
def packFirstCard : Claim7 := { stood := { row := packFirstRow, standIns := [], harness := (true, "4dd958f6b1248534d69066d3098ca612723a24586badcfb3113e208dea68e11c"), looks := false }, kinds := [], alts := [], laidByText := true, laidKinds := [.data, .data, .data, .data, .pinned], laidTests := true, laidLooks := .later }
def PackFirstCardSaid : Prop := Claim7.holds Tryd.pinned (.plain (OpenSpec.ofChange packFirstSpec)) packFirstCard

/-- THE TIED CARD OF 'sedimentlaw1.PackNone'. -/
def packNoneCard : Claim7 := { stood := { row := packNoneRow, standIns := [], harness := (true, "4dd958f6b1248534d69066d3098ca612723a24586badcfb3113e208dea68e11c"), looks := false }, kinds := [], alts := [], laidByText := true, laidKinds := [.data, .data, .data, .data, .pinned], laidTests := true, laidLooks := .later }
def PackNoneCardSaid : Prop := Claim7.holds Tryd.pinned (.plain (OpenSpec.ofChange packNoneSpec)) packNoneCard

/-- THE SECOND FORM's CARD OF 'sedimentlaw1.PackSizes'. -/
def packSizesUptoCard : Claim7 := { stood := { row := packSizesUptoRow, standIns := [], harness := (true, "4dd958f6b1248534d69066d3098ca612723a24586badcfb3113e208dea68e11c"), looks := false }, kinds := [], alts := [], laidByText := true, laidKinds := [.data, .data, .data], laidTests := true, laidLooks := .later }
def PackSizesUptoCardSaid : Prop := Claim7.holds Tryd.pinned (.plain (OpenSpec.upto packSizesSpec)) packSizesUptoCard

/-- THE SECOND FORM's CARD OF 'sedimentlaw1.PackDigits'. -/
def packDigitsUptoCard : Claim7 := { stood := { row := packDigitsUptoRow, standIns := [], harness := (true, "4dd958f6b1248534d69066d3098ca612723a24586badcfb3113e208dea68e11c"), looks := false }, kinds := [], alts := [], laidByText := true, laidKinds := [.data, .data, .data], laidTests := true, laidLooks := .later }
def PackDigitsUptoCardSaid : Prop := Claim7.holds Tryd.pinned (.plain (OpenSpec.upto packDigitsSpec)) packDigitsUptoCard

/-- THE SECOND FORM's CARD OF 'sedimentlaw1.PackNumbers'. -/
def packNumbersUptoCard : Claim7 := { stood := { row := packNumbersUptoRow, standIns := [], harness := (true, "4dd958f6b1248534d69066d3098ca612723a24586badcfb3113e208dea68e11c"), looks := false }, kinds := [], alts := [], laidByText := true, laidKinds := [.data, .data, .data], laidTests := true, laidLooks := .later }
def PackNumbersUptoCardSaid : Prop := Claim7.holds Tryd.pinned (.plain (OpenSpec.upto packNumbersSpec)) packNumbersUptoCard

/-- THE SECOND FORM's CARD OF 'sedimentlaw1.PackFills'. -/
def packFillsUptoCard : Claim7 := { stood := { row := packFillsUptoRow, standIns := [], harness := (true, "4dd958f6b1248534d69066d3098ca612723a24586badcfb3113e208dea68e11c"), looks := false }, kinds := [], alts := [], laidByText := true, laidKinds := [.data, .data, .data], laidTests := true, laidLooks := .later }
def PackFillsUptoCardSaid : Prop := Claim7.holds Tryd.pinned (.plain (OpenSpec.upto packFillsSpec)) packFillsUptoCard

/-- THE SECOND FORM's CARD OF 'sedimentlaw1.PackNames'. -/
def packNamesUptoCard : Claim7 := { stood := { row := packNamesUptoRow, standIns := [], harness := (true, "4dd958f6b1248534d69066d3098ca612723a24586badcfb3113e208dea68e11c"), looks := false }, kinds := [], alts := [], laidByText := true, laidKinds := [.data, .data, .data, .data, .pinned], laidTests := true, laidLooks := .later }
def PackNamesUptoCardSaid : Prop := Claim7.holds Tryd.pinned (.plain (OpenSpec.upto packNamesSpec)) packNamesUptoCard

/-- THE SECOND FORM's CARD OF 'sedimentlaw1.PackBack'. -/
def packBackUptoCard : Claim7 := { stood := { row := packBackUptoRow, standIns := [], harness := (true, "4dd958f6b1248534d69066d3098ca612723a24586badcfb3113e208dea68e11c"), looks := false }, kinds := [], alts := [], laidByText := true, laidKinds := [.data, .data, .data, .data, .pinned], laidTests := true, laidLooks := .later }
def PackBackUptoCardSaid : Prop := Claim7.holds Tryd.pinned (.plain (OpenSpec.upto packBackSpec)) packBackUptoCard

/-- THE SECOND FORM's CARD OF 'sedimentlaw1.PackFirst'. -/
def packFirstUptoCard : Claim7 := { stood := { row := packFirstUptoRow, standIns := [], harness := (true, "4dd958f6b1248534d69066d3098ca612723a24586badcfb3113e208dea68e11c"), looks := false }, kinds := [], alts := [], laidByText := true, laidKinds := [.data, .data, .data, .data, .pinned], laidTests := true, laidLooks := .later }
def PackFirstUptoCardSaid : Prop := Claim7.holds Tryd.pinned (.plain (OpenSpec.upto packFirstSpec)) packFirstUptoCard

/-- THE SECOND FORM's CARD OF 'sedimentlaw1.PackNone'. -/
def packNoneUptoCard : Claim7 := { stood := { row := packNoneUptoRow, standIns := [], harness := (true, "4dd958f6b1248534d69066d3098ca612723a24586badcfb3113e208dea68e11c"), looks := false }, kinds := [], alts := [], laidByText := true, laidKinds := [.data, .data, .data, .data, .pinned], laidTests := true, laidLooks := .later }
def PackNoneUptoCardSaid : Prop := Claim7.holds Tryd.pinned (.plain (OpenSpec.upto packNoneSpec)) packNoneUptoCard
end Rows
end Go.Proofs.YtomofnmlhjpifaaDoor
