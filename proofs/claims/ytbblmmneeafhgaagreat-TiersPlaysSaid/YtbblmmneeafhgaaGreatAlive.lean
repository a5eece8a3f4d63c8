/- Walk of sedimentlaw13.alive. -/
import Derived.Test.YtbblmmneeafhgaaGreatBound
import Derived.Deep.DeepCutAuto
import Derived.Deep.RegionWith
namespace Go.Proofs.YtbblmmneeafhgaaGreat
set_option linter.all false
open Go.RowKit

end Go.Proofs.YtbblmmneeafhgaaGreat
