/- Walk of shadow: Copy. -/
import Derived.Test.YtaakghjbbkgbdaaGreatDoorShStep
import Derived.Test.YtaakghjbbkgbdaaGreatDoorShBegin
import Derived.Test.YtaakghjbbkgbdaaGreatDoorRTAdd
import Derived.Test.YtaakghjbbkgbdaaGreatDoorReachC
import Derived.Test.YtaakghjbbkgbdaaGreatDoorTk
namespace Go.Proofs.YtaakghjbbkgbdaaGreatDoor
set_option linter.all false
open Go.RowKit

end Go.Proofs.YtaakghjbbkgbdaaGreatDoor
