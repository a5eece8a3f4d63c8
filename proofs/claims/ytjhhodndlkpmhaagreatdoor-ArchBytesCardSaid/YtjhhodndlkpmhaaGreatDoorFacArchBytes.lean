/- The closed cells of the row ArchBytes, one by one. -/
import Derived.Test.YtjhhodndlkpmhaaGreatDoorRows
import Derived.JoinedOf
import Derived.SevenTiedAt
import Derived.Test.YtjhhodndlkpmhaaGreatDoorCards
namespace Go.Proofs.YtjhhodndlkpmhaaGreatDoor.archBytesDone
set_option linter.all false
theorem fac0 : Rows.archBytesRow.wf (OpenSpec.ofChange Rows.archBytesSpec) = true := by kernel_rfl
theorem fac1 : laidOutB Tryz.prog = true := by kernel_rfl
theorem fac2 : mapsRowed Tryz.prog = true := by kernel_rfl
theorem fac3 : (Rows.archBytesRow.inPlace == Tryz.prog.inPlace 3) = true := by kernel_rfl
theorem fac4 : (Rows.archBytesRow.unfollowed == Tryz.prog.unfollowed 3) = true := by kernel_rfl
theorem fac5 : (Rows.archBytesRow.recurses == Tryz.prog.recurses 3) = true := by kernel_rfl
theorem fac6 : (Rows.archBytesRow.named == Tryz.prog.varsNamed 3) = true := by kernel_rfl
theorem fac7 : (Rows.archBytesRow.lifted == Tryz.prog.liftsFinal) = true := by kernel_rfl
theorem fac8 : Tryz.prog.stopsHeard = true := by kernel_rfl
theorem fac9 : Tryz.prog.mayEnter = true := by kernel_rfl
theorem fac10 : (Rows.archBytesRow.plainKeys == Tryz.prog.plainKeys) = true := by kernel_rfl
theorem facL : true = Tryz.prog.looks [] := by kernel_rfl
theorem facW : Rows.archBytesRow.wfByText (OpenSpec.ofChange Rows.archBytesSpec) = true := by kernel_rfl
theorem facM : Tryz.prog.mainIs = some (true, "d7dafb7a59e1c06e2de384e33a520e0c34a3506cdf3fc388c181490ec82e86c1".toList) := by kernel_rfl
theorem facG : false = Rows.archBytesRow.goesBy Tryz.prog := by kernel_rfl
theorem facs : joinedFacts Tryz.prog 3 Tryz.f3 Rows.archBytesSpec Rows.archBytesRow = true := by
  unfold joinedFacts
  simp only [fac0, fac1, fac2, fac3, fac4, fac5, fac6, fac7, fac8, fac9, fac10, Bool.and_true, Bool.true_and]
  kernel_rfl
end Go.Proofs.YtjhhodndlkpmhaaGreatDoor.archBytesDone
