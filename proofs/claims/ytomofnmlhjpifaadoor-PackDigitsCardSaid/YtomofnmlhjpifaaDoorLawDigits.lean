/- The statement PackDigits: the walk. -/
import Derived.Test.YtomofnmlhjpifaaDoorRefNum
namespace Go.Proofs.YtomofnmlhjpifaaDoor
open Go.RowKit

set_option maxRecDepth 100000 in
theorem digits_walk (v : Int) (s : List UInt8) (h0 : -9223372036854775808 ≤ v) (h1 : v ≤ 9223372036854775807) (w : World) (ht : Tab w) :
    Calls Tryd.prog 4 #[.int .i64 v, .string (bstr s)] w fun r w' => r = .returned (.bool true) ∧ Below w.heap.size w w' := by
  have Ht := Lib.hid ht
  clear ht
  by_cases hl : s.length ≤ 300
  · have hz : ((bstr s).size : Int) ≤ 300 := by rw [bstr_size]; omega
    have Hl := Lib.hid hl
    have H01 := Lib.hid (And.intro h0 h1)
    clear hl h0 h1
    go_enter Tryd.func4, Tryd.ntmps4
    go_wp2_with fail
    refine (number_any s w (by have := Hl.out; omega)).mono ?_
    rintro r w2 ⟨rfl, rfl⟩
    go_wp2_with fail
    refine (rnumber_any s w (by have := Hl.out; omega)).mono ?_
    rintro r w2 ⟨rfl, rfl⟩
    go_wp2_with fail
    refine (alive_any w Ht.out).mono ?_
    rintro r w5 ⟨rfl, b5⟩
    have o5 := Lib.hid ((Own.start w).below b5)
    clear b5
    go_wp2_with fail
    refine (digits_any v H01.out.1 H01.out.2 w5 (Ht.out.below o5.out.bel)).mono ?_
    rintro r w6 ⟨rfl, b6⟩
    have o6 := Lib.hid (o5.out.below b6)
    clear b6 o5
    go_wp2_with fail
    refine (rdigits_any v H01.out.1 H01.out.2 w6).mono ?_
    rintro r w7 ⟨rfl, b7⟩
    have o7 := Lib.hid (o6.out.below b7)
    clear b7 o6
    go_wp2
    go_ret
    exact ⟨rfl, o7.out.bel⟩
  · have hz : (300 : Int) < ((bstr s).size : Int) := by rw [bstr_size]; omega
    clear hl h0 h1
    go_enter Tryd.func4, Tryd.ntmps4
    go_wp2_with fail
    refine (alive_any w Ht.out).mono ?_
    rintro r w5 ⟨rfl, b5⟩
    have o5 := Lib.hid ((Own.start w).below b5)
    clear b5
    go_wp2
    go_ret
    exact ⟨rfl, o5.out.bel⟩
end Go.Proofs.YtomofnmlhjpifaaDoor
