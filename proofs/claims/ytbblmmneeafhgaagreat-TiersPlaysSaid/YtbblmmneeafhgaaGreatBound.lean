/- Walks of sedimentlaw9.Web, sedimentlaw13.Fifties. -/
import Derived.Test.YtbblmmneeafhgaaGreatFills
namespace Go.Proofs.YtbblmmneeafhgaaGreat
set_option linter.all false
open Go.RowKit

def webT : List TierV := [⟨{ data := #[114, 97, 119] }, 1, 100, 2⟩, ⟨{ data := #[116, 101, 110, 115] }, 10, 1000, 1⟩]
def webN : ByteArray := { data := #[119, 101, 98] }
theorem web_any (w : World) : Calls Tryz.prog 39 #[] w fun r w' => (∃ A c, r = .returned (polV webN A 2 c) ∧ 2 ≤ c ∧ Rd w' 4 A 2 (tcells webT)) ∧ Below w.heap.size w w' := by
  go_enter Tryz.func39, Tryz.ntmps39
  go_wp2_with fail
  refine bodyPost_ret (v := polV webN (some ⟨w.heap.size + 1, 0, none⟩) 2 2) ?_ rfl ⟨⟨_, _, rfl, Nat.le_refl _, Rd.newS (by simp) (tcells webT) _ 2 4 rfl⟩, (((Own.start w).skip (Fr.none_alloc w _)).skip (Fr.none_alloc _ _)).bel⟩
  unfold polV webN
  simp [results, Tryz.results39, go_sem]

end Go.Proofs.YtbblmmneeafhgaaGreat
namespace Go.Proofs.YtbblmmneeafhgaaGreat
set_option linter.all false
open Go.RowKit

end Go.Proofs.YtbblmmneeafhgaaGreat
namespace Go.Proofs.YtbblmmneeafhgaaGreat
set_option linter.all false
open Go.RowKit

end Go.Proofs.YtbblmmneeafhgaaGreat
namespace Go.Proofs.YtbblmmneeafhgaaGreat
set_option linter.all false
open Go.RowKit

end Go.Proofs.YtbblmmneeafhgaaGreat
namespace Go.Proofs.YtbblmmneeafhgaaGreat
set_option linter.all false
open Go.RowKit

end Go.Proofs.YtbblmmneeafhgaaGreat
