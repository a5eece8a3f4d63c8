/- Fills: the walk over ByteArrays. -/
import Derived.Test.YtomofnmlhjpifaaDoorLawFills
namespace Go.Proofs.YtomofnmlhjpifaaDoor
open Go.RowKit
theorem fills_bs (s : ByteArray) (n : Int) (w : World) (ht : Tab w) :
    Calls Tryd.prog 6 #[.string s, .int .i64 n] w fun r w' => r = .returned (.bool true) ∧ Below w.heap.size w w' := by
  exact fills_walk s n w ht
end Go.Proofs.YtomofnmlhjpifaaDoor
