/- The closed cells of the row StateSmall, one by one. -/
import Derived.Test.YtkfdgodngbinlaaGreatDoorRows
import Derived.JoinedOf
import Derived.SevenTiedAt
import Derived.Test.YtkfdgodngbinlaaGreatDoorCards
namespace Go.Proofs.YtkfdgodngbinlaaGreatDoor.stateSmallDone
set_option linter.all false
theorem fac0 : Rows.stateSmallRow.wf (OpenSpec.ofChange Rows.stateSmallSpec) = true := by kernel_rfl
theorem fac1 : laidOutB Tryz.prog = true := by kernel_rfl
theorem fac2 : mapsRowed Tryz.prog = true := by kernel_rfl
theorem fac3 : (Rows.stateSmallRow.inPlace == Tryz.prog.inPlace 3) = true := by kernel_rfl
theorem fac4 : (Rows.stateSmallRow.unfollowed == Tryz.prog.unfollowed 3) = true := by kernel_rfl
theorem fac5 : (Rows.stateSmallRow.recurses == Tryz.prog.recurses 3) = true := by kernel_rfl
theorem fac6 : (Rows.stateSmallRow.named == Tryz.prog.varsNamed 3) = true := by kernel_rfl
theorem fac7 : (Rows.stateSmallRow.lifted == Tryz.prog.liftsFinal) = true := by kernel_rfl
theorem fac8 : Tryz.prog.stopsHeard = true := by kernel_rfl
theorem fac9 : Tryz.prog.mayEnter = true := by kernel_rfl
theorem fac10 : (Rows.stateSmallRow.plainKeys == Tryz.prog.plainKeys) = true := by kernel_rfl
theorem facL : true = Tryz.prog.looks [] := by kernel_rfl
theorem facW : Rows.stateSmallRow.wfByText (OpenSpec.ofChange Rows.stateSmallSpec) = true := by kernel_rfl
theorem facM : Tryz.prog.mainIs = some (true, "185475be7a672672c08aa27641e0bc5a420bccb39e05d696f5c2471f5018ace0".toList) := by kernel_rfl
theorem facG : false = Rows.stateSmallRow.goesBy Tryz.prog := by kernel_rfl
theorem facs : joinedFacts Tryz.prog 3 Tryz.f3 Rows.stateSmallSpec Rows.stateSmallRow = true := by
  unfold joinedFacts
  simp only [fac0, fac1, fac2, fac3, fac4, fac5, fac6, fac7, fac8, fac9, fac10, Bool.and_true, Bool.true_and]
  kernel_rfl
end Go.Proofs.YtkfdgodngbinlaaGreatDoor.stateSmallDone
