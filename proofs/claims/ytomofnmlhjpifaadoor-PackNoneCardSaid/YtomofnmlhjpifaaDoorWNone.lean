/- None: the walk over ByteArrays. -/
import Derived.Test.YtomofnmlhjpifaaDoorLawNone
namespace Go.Proofs.YtomofnmlhjpifaaDoor
open Go.RowKit
theorem none_bs (n : Int) (s : ByteArray) (w : World) (ht : Tab w) :
    Calls Tryd.prog 10 #[.int .i64 n, .string s] w fun r w' => r = .returned (.bool true) ∧ Below w.heap.size w w' := by
  have h := none_walk n s.data.toList w ht
  simpa only [← bstr_of] using h
end Go.Proofs.YtomofnmlhjpifaaDoor
