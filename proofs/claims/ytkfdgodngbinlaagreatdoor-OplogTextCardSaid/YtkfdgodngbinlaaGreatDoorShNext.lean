/- Walks of table's Shard and Clear. -/
import Derived.Test.YtkfdgodngbinlaaGreatDoorTabNeed
import Derived.Test.YtkfdgodngbinlaaGreatDoorShA
import Derived.Test.YtkfdgodngbinlaaGreatDoorPlanBuild
import Derived.Test.YtkfdgodngbinlaaGreatDoorTk
namespace Go.Proofs.YtkfdgodngbinlaaGreatDoor
set_option linter.all false
open Go.RowKit

end Go.Proofs.YtkfdgodngbinlaaGreatDoor
namespace Go.Proofs.YtkfdgodngbinlaaGreatDoor
set_option linter.all false
open Go.RowKit

end Go.Proofs.YtkfdgodngbinlaaGreatDoor
namespace Go.Proofs.YtkfdgodngbinlaaGreatDoor
set_option linter.all false
open Go.RowKit

theorem cell_ne_map' {w : World} {a : Addr} {b : Nat} {v : Value} {es : Array MapEntry} {ck : Nat} (hc : w.cell? a = some v) (hb : w.heap[b]? = some (.map es ck)) : a.block ≠ b := by
 rintro rfl
 unfold World.cell? at hc
 rw [hb] at hc
 cases hc
end Go.Proofs.YtkfdgodngbinlaaGreatDoor
