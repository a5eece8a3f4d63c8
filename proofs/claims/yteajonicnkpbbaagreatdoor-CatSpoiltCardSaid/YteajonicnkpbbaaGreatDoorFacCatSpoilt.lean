/- The closed cells of the row CatSpoilt, one by one. -/
import Derived.Test.YteajonicnkpbbaaGreatDoorRows
import Derived.JoinedOf
import Derived.SevenTiedAt
import Derived.Test.YteajonicnkpbbaaGreatDoorCards
namespace Go.Proofs.YteajonicnkpbbaaGreatDoor.catSpoiltDone
set_option linter.all false
theorem fac0 : Rows.catSpoiltRow.wf (OpenSpec.ofChange Rows.catSpoiltSpec) = true := by kernel_rfl
theorem fac1 : laidOutB Tryz.prog = true := by kernel_rfl
theorem fac2 : mapsRowed Tryz.prog = true := by kernel_rfl
theorem fac3 : (Rows.catSpoiltRow.inPlace == Tryz.prog.inPlace 4) = true := by kernel_rfl
theorem fac4 : (Rows.catSpoiltRow.unfollowed == Tryz.prog.unfollowed 4) = true := by kernel_rfl
theorem fac5 : (Rows.catSpoiltRow.recurses == Tryz.prog.recurses 4) = true := by kernel_rfl
theorem fac6 : (Rows.catSpoiltRow.named == Tryz.prog.varsNamed 4) = true := by kernel_rfl
theorem fac7 : (Rows.catSpoiltRow.lifted == Tryz.prog.liftsFinal) = true := by kernel_rfl
theorem fac8 : Tryz.prog.stopsHeard = true := by kernel_rfl
theorem fac9 : Tryz.prog.mayEnter = true := by kernel_rfl
theorem fac10 : (Rows.catSpoiltRow.plainKeys == Tryz.prog.plainKeys) = true := by kernel_rfl
theorem facL : true = Tryz.prog.looks [] := by kernel_rfl
theorem facW : Rows.catSpoiltRow.wfByText (OpenSpec.ofChange Rows.catSpoiltSpec) = true := by kernel_rfl
theorem facM : Tryz.prog.mainIs = some (true, "c4a8b8c923e372e74fdee6899512a534a6b0eba0b83e32cbf78bb9d60adfe11b".toList) := by kernel_rfl
theorem facG : false = Rows.catSpoiltRow.goesBy Tryz.prog := by kernel_rfl
theorem facs : joinedFacts Tryz.prog 4 Tryz.f4 Rows.catSpoiltSpec Rows.catSpoiltRow = true := by
  unfold joinedFacts
  simp only [fac0, fac1, fac2, fac3, fac4, fac5, fac6, fac7, fac8, fac9, fac10, Bool.and_true, Bool.true_and]
  kernel_rfl
end Go.Proofs.YteajonicnkpbbaaGreatDoor.catSpoiltDone
