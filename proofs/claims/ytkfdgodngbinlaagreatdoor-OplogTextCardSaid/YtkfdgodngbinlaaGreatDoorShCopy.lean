/- Walk of shadow: Copy. -/
import Derived.Test.YtkfdgodngbinlaaGreatDoorShNext
import Derived.Test.YtkfdgodngbinlaaGreatDoorShLoad
import Derived.Test.YtkfdgodngbinlaaGreatDoorShA
import Derived.Test.YtkfdgodngbinlaaGreatDoorTiersP
import Derived.Test.YtkfdgodngbinlaaGreatDoorTk
namespace Go.Proofs.YtkfdgodngbinlaaGreatDoor
set_option linter.all false
open Go.RowKit

end Go.Proofs.YtkfdgodngbinlaaGreatDoor
