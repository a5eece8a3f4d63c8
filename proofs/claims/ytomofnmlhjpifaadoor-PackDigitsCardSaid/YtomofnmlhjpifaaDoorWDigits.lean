/- Digits: the walk over ByteArrays. -/
import Derived.Test.YtomofnmlhjpifaaDoorLawDigits
namespace Go.Proofs.YtomofnmlhjpifaaDoor
open Go.RowKit
theorem digits_bs (v : Int) (s : ByteArray) (h0 : -9223372036854775808 ≤ v) (h1 : v ≤ 9223372036854775807) (w : World) (ht : Tab w) :
    Calls Tryd.prog 4 #[.int .i64 v, .string s] w fun r w' => r = .returned (.bool true) ∧ Below w.heap.size w w' := by
  have h := digits_walk v s.data.toList h0 h1 w ht
  simpa only [← bstr_of] using h
end Go.Proofs.YtomofnmlhjpifaaDoor
