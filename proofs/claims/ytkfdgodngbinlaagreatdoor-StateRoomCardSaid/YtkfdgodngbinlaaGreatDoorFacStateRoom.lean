/- The closed cells of the row StateRoom, one by one. -/
import Derived.Test.YtkfdgodngbinlaaGreatDoorRows
import Derived.JoinedOf
import Derived.SevenTiedAt
import Derived.Test.YtkfdgodngbinlaaGreatDoorCards
namespace Go.Proofs.YtkfdgodngbinlaaGreatDoor.stateRoomDone
set_option linter.all false
theorem fac0 : Rows.stateRoomRow.wf (OpenSpec.ofChange Rows.stateRoomSpec) = true := by kernel_rfl
theorem fac1 : laidOutB Tryz.prog = true := by kernel_rfl
theorem fac2 : mapsRowed Tryz.prog = true := by kernel_rfl
theorem fac3 : (Rows.stateRoomRow.inPlace == Tryz.prog.inPlace 4) = true := by kernel_rfl
theorem fac4 : (Rows.stateRoomRow.unfollowed == Tryz.prog.unfollowed 4) = true := by kernel_rfl
theorem fac5 : (Rows.stateRoomRow.recurses == Tryz.prog.recurses 4) = true := by kernel_rfl
theorem fac6 : (Rows.stateRoomRow.named == Tryz.prog.varsNamed 4) = true := by kernel_rfl
theorem fac7 : (Rows.stateRoomRow.lifted == Tryz.prog.liftsFinal) = true := by kernel_rfl
theorem fac8 : Tryz.prog.stopsHeard = true := by kernel_rfl
theorem fac9 : Tryz.prog.mayEnter = true := by kernel_rfl
theorem fac10 : (Rows.stateRoomRow.plainKeys == Tryz.prog.plainKeys) = true := by kernel_rfl
theorem facL : true = Tryz.prog.looks [] := by kernel_rfl
theorem facW : Rows.stateRoomRow.wfByText (OpenSpec.ofChange Rows.stateRoomSpec) = true := by kernel_rfl
theorem facM : Tryz.prog.mainIs = some (true, "185475be7a672672c08aa27641e0bc5a420bccb39e05d696f5c2471f5018ace0".toList) := by kernel_rfl
theorem facG : false = Rows.stateRoomRow.goesBy Tryz.prog := by kernel_rfl
theorem facs : joinedFacts Tryz.prog 4 Tryz.f4 Rows.stateRoomSpec Rows.stateRoomRow = true := by
  unfold joinedFacts
  simp only [fac0, fac1, fac2, fac3, fac4, fac5, fac6, fac7, fac8, fac9, fac10, Bool.and_true, Bool.true_and]
  kernel_rfl
end Go.Proofs.YtkfdgodngbinlaaGreatDoor.stateRoomDone
