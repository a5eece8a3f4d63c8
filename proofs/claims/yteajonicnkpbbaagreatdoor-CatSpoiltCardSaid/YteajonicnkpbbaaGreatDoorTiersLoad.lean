/- Walk of tiers: Load. -/
import Derived.Test.YteajonicnkpbbaaGreatDoorTiersCopy
import Derived.Test.YteajonicnkpbbaaGreatDoorTk
namespace Go.Proofs.YteajonicnkpbbaaGreatDoor
set_option linter.all false
open Go.RowKit

end Go.Proofs.YteajonicnkpbbaaGreatDoor
