/- Walk of shadow: Fits. -/
import Derived.Test.YteajonicnkpbbaaGreatDoorTiersSame
import Derived.Test.YteajonicnkpbbaaGreatDoorPlanBuild
import Derived.Test.YteajonicnkpbbaaGreatDoorTk
namespace Go.Proofs.YteajonicnkpbbaaGreatDoor
set_option linter.all false
open Go.RowKit

end Go.Proofs.YteajonicnkpbbaaGreatDoor
namespace Go.Proofs.YteajonicnkpbbaaGreatDoor
set_option linter.all false
open Go.RowKit

end Go.Proofs.YteajonicnkpbbaaGreatDoor
