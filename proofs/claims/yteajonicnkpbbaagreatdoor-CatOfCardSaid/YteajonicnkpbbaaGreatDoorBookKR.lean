/- Walks of sedimentbook on kinds of which there are no lists. -/
import Derived.Test.YteajonicnkpbbaaGreatDoorSegC
namespace Go.Proofs.YteajonicnkpbbaaGreatDoor
set_option linter.all false
open Go.RowKit
end Go.Proofs.YteajonicnkpbbaaGreatDoor
