/- Walks of table's Shard and Clear. -/
import Derived.Test.YteajonicnkpbbaaGreatDoorPlanBuild
namespace Go.Proofs.YteajonicnkpbbaaGreatDoor
set_option linter.all false
open Go.RowKit
end Go.Proofs.YteajonicnkpbbaaGreatDoor
