/- Walk of sedimentref1.Name. -/
import Derived.Test.YtaakghjbbkgbdaaGreatDoorName
namespace Go.Proofs.YtaakghjbbkgbdaaGreatDoor
set_option linter.all false
open Go.RowKit

end Go.Proofs.YtaakghjbbkgbdaaGreatDoor
namespace Go.Proofs.YtaakghjbbkgbdaaGreatDoor
set_option linter.all false
open Go.RowKit

end Go.Proofs.YtaakghjbbkgbdaaGreatDoor
