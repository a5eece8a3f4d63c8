/- The closed cells of the row OplogText, one by one. -/
import Derived.Test.YtkfdgodngbinlaaGreatDoorRows
import Derived.JoinedOf
import Derived.SevenTiedAt
import Derived.Test.YtkfdgodngbinlaaGreatDoorCards
namespace Go.Proofs.YtkfdgodngbinlaaGreatDoor.oplogTextDone
set_option linter.all false
theorem fac0 : Rows.oplogTextRow.wf (OpenSpec.ofChange Rows.oplogTextSpec) = true := by kernel_rfl
theorem fac1 : laidOutB Tryz.prog = true := by kernel_rfl
theorem fac2 : mapsRowed Tryz.prog = true := by kernel_rfl
theorem fac3 : (Rows.oplogTextRow.inPlace == Tryz.prog.inPlace 9) = true := by kernel_rfl
theorem fac4 : (Rows.oplogTextRow.unfollowed == Tryz.prog.unfollowed 9) = true := by kernel_rfl
theorem fac5 : (Rows.oplogTextRow.recurses == Tryz.prog.recurses 9) = true := by kernel_rfl
theorem fac6 : (Rows.oplogTextRow.named == Tryz.prog.varsNamed 9) = true := by kernel_rfl
theorem fac7 : (Rows.oplogTextRow.lifted == Tryz.prog.liftsFinal) = true := by kernel_rfl
theorem fac8 : Tryz.prog.stopsHeard = true := by kernel_rfl
theorem fac9 : Tryz.prog.mayEnter = true := by kernel_rfl
theorem fac10 : (Rows.oplogTextRow.plainKeys == Tryz.prog.plainKeys) = true := by kernel_rfl
theorem facL : true = Tryz.prog.looks [] := by kernel_rfl
theorem facW : Rows.oplogTextRow.wfByText (OpenSpec.ofChange Rows.oplogTextSpec) = true := by kernel_rfl
theorem facM : Tryz.prog.mainIs = some (true, "185475be7a672672c08aa27641e0bc5a420bccb39e05d696f5c2471f5018ace0".toList) := by kernel_rfl
theorem facG : false = Rows.oplogTextRow.goesBy Tryz.prog := by kernel_rfl
theorem facs : joinedFacts Tryz.prog 9 Tryz.f9 Rows.oplogTextSpec Rows.oplogTextRow = true := by
  unfold joinedFacts
  simp only [fac0, fac1, fac2, fac3, fac4, fac5, fac6, fac7, fac8, fac9, fac10, Bool.and_true, Bool.true_and]
  kernel_rfl
end Go.Proofs.YtkfdgodngbinlaaGreatDoor.oplogTextDone
