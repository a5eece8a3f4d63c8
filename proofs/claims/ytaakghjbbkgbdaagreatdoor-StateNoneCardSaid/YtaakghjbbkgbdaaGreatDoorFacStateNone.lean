/- The closed cells of the row StateNone, one by one. -/
import Derived.Test.YtaakghjbbkgbdaaGreatDoorRows
import Derived.JoinedOf
import Derived.SevenTiedAt
import Derived.Test.YtaakghjbbkgbdaaGreatDoorCards
namespace Go.Proofs.YtaakghjbbkgbdaaGreatDoor.stateNoneDone
set_option linter.all false
theorem fac0 : Rows.stateNoneRow.wf (OpenSpec.ofChange Rows.stateNoneSpec) = true := by kernel_rfl
theorem fac1 : laidOutB Tryz.prog = true := by kernel_rfl
theorem fac2 : mapsRowed Tryz.prog = true := by kernel_rfl
theorem fac3 : (Rows.stateNoneRow.inPlace == Tryz.prog.inPlace 9) = true := by kernel_rfl
theorem fac4 : (Rows.stateNoneRow.unfollowed == Tryz.prog.unfollowed 9) = true := by kernel_rfl
theorem fac5 : (Rows.stateNoneRow.recurses == Tryz.prog.recurses 9) = true := by kernel_rfl
theorem fac6 : (Rows.stateNoneRow.named == Tryz.prog.varsNamed 9) = true := by kernel_rfl
theorem fac7 : (Rows.stateNoneRow.lifted == Tryz.prog.liftsFinal) = true := by kernel_rfl
theorem fac8 : Tryz.prog.stopsHeard = true := by kernel_rfl
theorem fac9 : Tryz.prog.mayEnter = true := by kernel_rfl
theorem fac10 : (Rows.stateNoneRow.plainKeys == Tryz.prog.plainKeys) = true := by kernel_rfl
theorem facL : true = Tryz.prog.looks [] := by kernel_rfl
theorem facW : Rows.stateNoneRow.wfByText (OpenSpec.ofChange Rows.stateNoneSpec) = true := by kernel_rfl
theorem facM : Tryz.prog.mainIs = some (true, "5ee7230b8e5bf29ec99ca12e17b9204f12e44a4f16607e605fc5f2bbda0b0d48".toList) := by kernel_rfl
theorem facG : false = Rows.stateNoneRow.goesBy Tryz.prog := by kernel_rfl
theorem facs : joinedFacts Tryz.prog 9 Tryz.f9 Rows.stateNoneSpec Rows.stateNoneRow = true := by
  unfold joinedFacts
  simp only [fac0, fac1, fac2, fac3, fac4, fac5, fac6, fac7, fac8, fac9, fac10, Bool.and_true, Bool.true_and]
  kernel_rfl
end Go.Proofs.YtaakghjbbkgbdaaGreatDoor.stateNoneDone
