/- Walks of table's Shard and Clear. -/
import Derived.Test.YteajonicnkpbbaaGreatDoorTabNeed
import Derived.Test.YteajonicnkpbbaaGreatDoorTiersSame
import Derived.Test.YteajonicnkpbbaaGreatDoorPolSame
import Derived.Test.YteajonicnkpbbaaGreatDoorPlanBuild
import Derived.Test.YteajonicnkpbbaaGreatDoorTk
namespace Go.Proofs.YteajonicnkpbbaaGreatDoor
set_option linter.all false
open Go.RowKit

end Go.Proofs.YteajonicnkpbbaaGreatDoor
namespace Go.Proofs.YteajonicnkpbbaaGreatDoor
set_option linter.all false
open Go.RowKit

end Go.Proofs.YteajonicnkpbbaaGreatDoor
