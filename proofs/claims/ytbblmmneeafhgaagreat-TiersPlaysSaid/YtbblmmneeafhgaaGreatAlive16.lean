/- Walk of sedimentlaw16.alive. -/
import Derived.Test.YtbblmmneeafhgaaGreatOpC
namespace Go.Proofs.YtbblmmneeafhgaaGreat
set_option linter.all false
open Go.RowKit

def rA : RecV := ⟨{ data := #[97] }, 5, ⟨1, 0, 7, 7, 7⟩⟩
end Go.Proofs.YtbblmmneeafhgaaGreat
