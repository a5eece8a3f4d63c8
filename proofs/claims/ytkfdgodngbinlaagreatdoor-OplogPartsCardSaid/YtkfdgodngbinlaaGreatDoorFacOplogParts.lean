/- The closed cells of the row OplogParts, one by one. -/
import Derived.Test.YtkfdgodngbinlaaGreatDoorRows
import Derived.JoinedOf
import Derived.SevenTiedAt
import Derived.Test.YtkfdgodngbinlaaGreatDoorCards
namespace Go.Proofs.YtkfdgodngbinlaaGreatDoor.oplogPartsDone
set_option linter.all false
theorem fac0 : Rows.oplogPartsRow.wf (OpenSpec.ofChange Rows.oplogPartsSpec) = true := by kernel_rfl
theorem fac1 : laidOutB Tryz.prog = true := by kernel_rfl
theorem fac2 : mapsRowed Tryz.prog = true := by kernel_rfl
theorem fac3 : (Rows.oplogPartsRow.inPlace == Tryz.prog.inPlace 8) = true := by kernel_rfl
theorem fac4 : (Rows.oplogPartsRow.unfollowed == Tryz.prog.unfollowed 8) = true := by kernel_rfl
theorem fac5 : (Rows.oplogPartsRow.recurses == Tryz.prog.recurses 8) = true := by kernel_rfl
theorem fac6 : (Rows.oplogPartsRow.named == Tryz.prog.varsNamed 8) = true := by kernel_rfl
theorem fac7 : (Rows.oplogPartsRow.lifted == Tryz.prog.liftsFinal) = true := by kernel_rfl
theorem fac8 : Tryz.prog.stopsHeard = true := by kernel_rfl
theorem fac9 : Tryz.prog.mayEnter = true := by kernel_rfl
theorem fac10 : (Rows.oplogPartsRow.plainKeys == Tryz.prog.plainKeys) = true := by kernel_rfl
theorem facL : true = Tryz.prog.looks [] := by kernel_rfl
theorem facW : Rows.oplogPartsRow.wfByText (OpenSpec.ofChange Rows.oplogPartsSpec) = true := by kernel_rfl
theorem facM : Tryz.prog.mainIs = some (true, "185475be7a672672c08aa27641e0bc5a420bccb39e05d696f5c2471f5018ace0".toList) := by kernel_rfl
theorem facG : false = Rows.oplogPartsRow.goesBy Tryz.prog := by kernel_rfl
theorem facs : joinedFacts Tryz.prog 8 Tryz.f8 Rows.oplogPartsSpec Rows.oplogPartsRow = true := by
  unfold joinedFacts
  simp only [fac0, fac1, fac2, fac3, fac4, fac5, fac6, fac7, fac8, fac9, fac10, Bool.and_true, Bool.true_and]
  kernel_rfl
end Go.Proofs.YtkfdgodngbinlaaGreatDoor.oplogPartsDone
