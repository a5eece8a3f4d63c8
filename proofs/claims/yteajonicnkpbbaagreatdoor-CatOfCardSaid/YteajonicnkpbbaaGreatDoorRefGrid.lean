/- Walk of sedimentref1.Name. -/
import Derived.Test.YteajonicnkpbbaaGreatDoorName
namespace Go.Proofs.YteajonicnkpbbaaGreatDoor
set_option linter.all false
open Go.RowKit
end Go.Proofs.YteajonicnkpbbaaGreatDoor
