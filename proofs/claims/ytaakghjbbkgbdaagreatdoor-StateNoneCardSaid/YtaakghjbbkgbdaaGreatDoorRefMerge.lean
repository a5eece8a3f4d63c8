/- Walks of sedimentref1: Packer (Word, Int, Name), Unpacker (take, Word, Int, Name), Name, Valid. -/
import Derived.Test.YtaakghjbbkgbdaaGreatDoorSame
import Derived.Test.YtaakghjbbkgbdaaGreatDoorRefGrid
import Derived.Test.YtaakghjbbkgbdaaGreatDoorTabAddL
import Derived.Test.YtaakghjbbkgbdaaGreatDoorTiersCopy
namespace Go.Proofs.YtaakghjbbkgbdaaGreatDoor
set_option linter.all false
open Go.RowKit

end Go.Proofs.YtaakghjbbkgbdaaGreatDoor
namespace Go.Proofs.YtaakghjbbkgbdaaGreatDoor
set_option linter.all false
open Go.RowKit

end Go.Proofs.YtaakghjbbkgbdaaGreatDoor
namespace Go.Proofs.YtaakghjbbkgbdaaGreatDoor
set_option linter.all false
open Go.RowKit

end Go.Proofs.YtaakghjbbkgbdaaGreatDoor
namespace Go.Proofs.YtaakghjbbkgbdaaGreatDoor
set_option linter.all false
open Go.RowKit

end Go.Proofs.YtaakghjbbkgbdaaGreatDoor
namespace Go.Proofs.YtaakghjbbkgbdaaGreatDoor
set_option linter.all false
open Go.RowKit

end Go.Proofs.YtaakghjbbkgbdaaGreatDoor
