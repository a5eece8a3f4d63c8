/- The closed cells of the row ArchNone, one by one. -/
import Derived.Test.YtjhhodndlkpmhaaGreatDoorRows
import Derived.JoinedOf
import Derived.SevenTiedAt
import Derived.Test.YtjhhodndlkpmhaaGreatDoorCards
namespace Go.Proofs.YtjhhodndlkpmhaaGreatDoor.archNoneDone
set_option linter.all false
theorem fac0 : Rows.archNoneRow.wf (OpenSpec.ofChange Rows.archNoneSpec) = true := by kernel_rfl
theorem fac1 : laidOutB Tryz.prog = true := by kernel_rfl
theorem fac2 : mapsRowed Tryz.prog = true := by kernel_rfl
theorem fac3 : (Rows.archNoneRow.inPlace == Tryz.prog.inPlace 4) = true := by kernel_rfl
theorem fac4 : (Rows.archNoneRow.unfollowed == Tryz.prog.unfollowed 4) = true := by kernel_rfl
theorem fac5 : (Rows.archNoneRow.recurses == Tryz.prog.recurses 4) = true := by kernel_rfl
theorem fac6 : (Rows.archNoneRow.named == Tryz.prog.varsNamed 4) = true := by kernel_rfl
theorem fac7 : (Rows.archNoneRow.lifted == Tryz.prog.liftsFinal) = true := by kernel_rfl
theorem fac8 : Tryz.prog.stopsHeard = true := by kernel_rfl
theorem fac9 : Tryz.prog.mayEnter = true := by kernel_rfl
theorem fac10 : (Rows.archNoneRow.plainKeys == Tryz.prog.plainKeys) = true := by kernel_rfl
theorem facL : true = Tryz.prog.looks [] := by kernel_rfl
theorem facW : Rows.archNoneRow.wfByText (OpenSpec.ofChange Rows.archNoneSpec) = true := by kernel_rfl
theorem facM : Tryz.prog.mainIs = some (true, "d7dafb7a59e1c06e2de384e33a520e0c34a3506cdf3fc388c181490ec82e86c1".toList) := by kernel_rfl
theorem facG : false = Rows.archNoneRow.goesBy Tryz.prog := by kernel_rfl
theorem facs : joinedFacts Tryz.prog 4 Tryz.f4 Rows.archNoneSpec Rows.archNoneRow = true := by
  unfold joinedFacts
  simp only [fac0, fac1, fac2, fac3, fac4, fac5, fac6, fac7, fac8, fac9, fac10, Bool.and_true, Bool.true_and]
  kernel_rfl
end Go.Proofs.YtjhhodndlkpmhaaGreatDoor.archNoneDone
