/- The closed cells of the row CatTells, one by one. -/
import Derived.Test.YteajonicnkpbbaaGreatDoorRows
import Derived.JoinedOf
import Derived.SevenTiedAt
import Derived.Test.YteajonicnkpbbaaGreatDoorCards
namespace Go.Proofs.YteajonicnkpbbaaGreatDoor.catTellsDone
set_option linter.all false
theorem fac0 : Rows.catTellsRow.wf (OpenSpec.ofChange Rows.catTellsSpec) = true := by kernel_rfl
theorem fac1 : laidOutB Tryz.prog = true := by kernel_rfl
theorem fac2 : mapsRowed Tryz.prog = true := by kernel_rfl
theorem fac3 : (Rows.catTellsRow.inPlace == Tryz.prog.inPlace 3) = true := by kernel_rfl
theorem fac4 : (Rows.catTellsRow.unfollowed == Tryz.prog.unfollowed 3) = true := by kernel_rfl
theorem fac5 : (Rows.catTellsRow.recurses == Tryz.prog.recurses 3) = true := by kernel_rfl
theorem fac6 : (Rows.catTellsRow.named == Tryz.prog.varsNamed 3) = true := by kernel_rfl
theorem fac7 : (Rows.catTellsRow.lifted == Tryz.prog.liftsFinal) = true := by kernel_rfl
theorem fac8 : Tryz.prog.stopsHeard = true := by kernel_rfl
theorem fac9 : Tryz.prog.mayEnter = true := by kernel_rfl
theorem fac10 : (Rows.catTellsRow.plainKeys == Tryz.prog.plainKeys) = true := by kernel_rfl
theorem facL : true = Tryz.prog.looks [] := by kernel_rfl
theorem facW : Rows.catTellsRow.wfByText (OpenSpec.ofChange Rows.catTellsSpec) = true := by kernel_rfl
theorem facM : Tryz.prog.mainIs = some (true, "c4a8b8c923e372e74fdee6899512a534a6b0eba0b83e32cbf78bb9d60adfe11b".toList) := by kernel_rfl
theorem facG : false = Rows.catTellsRow.goesBy Tryz.prog := by kernel_rfl
theorem facs : joinedFacts Tryz.prog 3 Tryz.f3 Rows.catTellsSpec Rows.catTellsRow = true := by
  unfold joinedFacts
  simp only [fac0, fac1, fac2, fac3, fac4, fac5, fac6, fac7, fac8, fac9, fac10, Bool.and_true, Bool.true_and]
  kernel_rfl
end Go.Proofs.YteajonicnkpbbaaGreatDoor.catTellsDone
