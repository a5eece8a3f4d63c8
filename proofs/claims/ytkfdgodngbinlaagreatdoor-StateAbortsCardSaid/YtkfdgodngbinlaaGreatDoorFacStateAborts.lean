/- The closed cells of the row StateAborts, one by one. -/
import Derived.Test.YtkfdgodngbinlaaGreatDoorRows
import Derived.JoinedOf
import Derived.SevenTiedAt
import Derived.Test.YtkfdgodngbinlaaGreatDoorCards
namespace Go.Proofs.YtkfdgodngbinlaaGreatDoor.stateAbortsDone
set_option linter.all false
theorem fac0 : Rows.stateAbortsRow.wf (OpenSpec.ofChange Rows.stateAbortsSpec) = true := by kernel_rfl
theorem fac1 : laidOutB Tryz.prog = true := by kernel_rfl
theorem fac2 : mapsRowed Tryz.prog = true := by kernel_rfl
theorem fac3 : (Rows.stateAbortsRow.inPlace == Tryz.prog.inPlace 7) = true := by kernel_rfl
theorem fac4 : (Rows.stateAbortsRow.unfollowed == Tryz.prog.unfollowed 7) = true := by kernel_rfl
theorem fac5 : (Rows.stateAbortsRow.recurses == Tryz.prog.recurses 7) = true := by kernel_rfl
theorem fac6 : (Rows.stateAbortsRow.named == Tryz.prog.varsNamed 7) = true := by kernel_rfl
theorem fac7 : (Rows.stateAbortsRow.lifted == Tryz.prog.liftsFinal) = true := by kernel_rfl
theorem fac8 : Tryz.prog.stopsHeard = true := by kernel_rfl
theorem fac9 : Tryz.prog.mayEnter = true := by kernel_rfl
theorem fac10 : (Rows.stateAbortsRow.plainKeys == Tryz.prog.plainKeys) = true := by kernel_rfl
theorem facL : true = Tryz.prog.looks [] := by kernel_rfl
theorem facW : Rows.stateAbortsRow.wfByText (OpenSpec.ofChange Rows.stateAbortsSpec) = true := by kernel_rfl
theorem facM : Tryz.prog.mainIs = some (true, "185475be7a672672c08aa27641e0bc5a420bccb39e05d696f5c2471f5018ace0".toList) := by kernel_rfl
theorem facG : false = Rows.stateAbortsRow.goesBy Tryz.prog := by kernel_rfl
theorem facs : joinedFacts Tryz.prog 7 Tryz.f7 Rows.stateAbortsSpec Rows.stateAbortsRow = true := by
  unfold joinedFacts
  simp only [fac0, fac1, fac2, fac3, fac4, fac5, fac6, fac7, fac8, fac9, fac10, Bool.and_true, Bool.true_and]
  kernel_rfl
end Go.Proofs.YtkfdgodngbinlaaGreatDoor.stateAbortsDone
