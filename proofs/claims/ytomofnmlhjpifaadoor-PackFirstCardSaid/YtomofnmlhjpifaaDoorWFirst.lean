/- First: the walk over ByteArrays. -/
import Derived.Test.YtomofnmlhjpifaaDoorLawFirst
namespace Go.Proofs.YtomofnmlhjpifaaDoor
open Go.RowKit
theorem first_bs (s : ByteArray) (n : Int) (b : ByteArray) (w : World) (ht : Tab w) :
    Calls Tryd.prog 9 #[.string s, .int .i64 n, .string b] w fun r w' => r = .returned (.bool true) ∧ Below w.heap.size w w' := by
  have h := first_walk s.data.toList n b.data.toList w ht
  simpa only [← bstr_of] using h
end Go.Proofs.YtomofnmlhjpifaaDoor
