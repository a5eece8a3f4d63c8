/- The closed cells of the row ArchRoom, one by one. -/
import Derived.Test.YtjhhodndlkpmhaaGreatDoorRows
import Derived.JoinedOf
import Derived.SevenTiedAt
import Derived.Test.YtjhhodndlkpmhaaGreatDoorCards
namespace Go.Proofs.YtjhhodndlkpmhaaGreatDoor.archRoomDone
set_option linter.all false
theorem fac0 : Rows.archRoomRow.wf (OpenSpec.ofChange Rows.archRoomSpec) = true := by kernel_rfl
theorem fac1 : laidOutB Tryz.prog = true := by kernel_rfl
theorem fac2 : mapsRowed Tryz.prog = true := by kernel_rfl
theorem fac3 : (Rows.archRoomRow.inPlace == Tryz.prog.inPlace 5) = true := by kernel_rfl
theorem fac4 : (Rows.archRoomRow.unfollowed == Tryz.prog.unfollowed 5) = true := by kernel_rfl
theorem fac5 : (Rows.archRoomRow.recurses == Tryz.prog.recurses 5) = true := by kernel_rfl
theorem fac6 : (Rows.archRoomRow.named == Tryz.prog.varsNamed 5) = true := by kernel_rfl
theorem fac7 : (Rows.archRoomRow.lifted == Tryz.prog.liftsFinal) = true := by kernel_rfl
theorem fac8 : Tryz.prog.stopsHeard = true := by kernel_rfl
theorem fac9 : Tryz.prog.mayEnter = true := by kernel_rfl
theorem fac10 : (Rows.archRoomRow.plainKeys == Tryz.prog.plainKeys) = true := by kernel_rfl
theorem facL : true = Tryz.prog.looks [] := by kernel_rfl
theorem facW : Rows.archRoomRow.wfByText (OpenSpec.ofChange Rows.archRoomSpec) = true := by kernel_rfl
theorem facM : Tryz.prog.mainIs = some (true, "d7dafb7a59e1c06e2de384e33a520e0c34a3506cdf3fc388c181490ec82e86c1".toList) := by kernel_rfl
theorem facG : false = Rows.archRoomRow.goesBy Tryz.prog := by kernel_rfl
theorem facs : joinedFacts Tryz.prog 5 Tryz.f5 Rows.archRoomSpec Rows.archRoomRow = true := by
  unfold joinedFacts
  simp only [fac0, fac1, fac2, fac3, fac4, fac5, fac6, fac7, fac8, fac9, fac10, Bool.and_true, Bool.true_and]
  kernel_rfl
end Go.Proofs.YtjhhodndlkpmhaaGreatDoor.archRoomDone
