/- The statement PackNumbers: the walk. -/
import Derived.Test.YtomofnmlhjpifaaDoorRefNum
namespace Go.Proofs.YtomofnmlhjpifaaDoor
open Go.RowKit

set_option maxRecDepth 100000 in
theorem numbers_walk (v : Int) (h0 : -9223372036854775808 ≤ v) (h1 : v ≤ 9223372036854775807) (w : World) (ht : Tab w) :
    Calls Tryd.prog 5 #[.int .i64 v] w fun r w' => r = .returned (.bool true) ∧ Below w.heap.size w w' := by
  have hl := itoa_len v h0 h1
  have hd := digits_any v h0 h1 w ht
  have hn1 := numV_itoa v
  have hn2 := numV_zero v
  have hn3 := numV_plus v
  have hlb := itoa_len_big v
  generalize Lib.itoa v = s at *
  have hz : (bstr s).size ≤ 20 := by rw [bstr_size]; exact hl
  have Hl := Lib.hid hl
  have Ht := Lib.hid ht
  have Hd := Lib.hid hd
  have H2 := Lib.hid hn2
  have H3 := Lib.hid hn3
  clear ht hd hl hn2 hn3
  by_cases hb : -1000000000000000000 < v ∧ v < 1000000000000000000
  · rw [if_pos hb] at hn1
    have H1 := Lib.hid hn1
    have g1 : v ≤ 999999999999999999 := by omega
    have g2 : -999999999999999999 ≤ v := by omega
    clear hn1 hlb hb h0 h1
    go_enter Tryd.func5, Tryd.ntmps5
    go_wp2_with fail
    refine Hd.out.mono ?_
    rintro r w1 ⟨rfl, b1⟩
    have o1 := Lib.hid ((Own.start w).below b1)
    clear b1
    go_wp2_with fail
    refine (number_any s w1 (by have := Hl.out; omega)).mono ?_
    rw [H1.out]
    rintro r w2 ⟨rfl, rfl⟩
    go_wp2_with fail
    rw [bstr_cons]
    refine (number_any (48 :: s) w1 (by have := Hl.out; simp only [List.length_cons]; omega)).mono ?_
    rw [H2.out]
    rintro r w2 ⟨rfl, rfl⟩
    go_wp2_with fail
    rw [bstr_cons]
    refine (number_any (43 :: s) w1 (by have := Hl.out; simp only [List.length_cons]; omega)).mono ?_
    rw [H3.out]
    rintro r w2 ⟨rfl, rfl⟩
    go_wp2_with fail
    refine (alive_any w1 (Ht.out.below o1.out.bel)).mono ?_
    rintro r w5 ⟨rfl, b5⟩
    have o5 := Lib.hid (o1.out.below b5)
    clear o1 b5
    have hvv : (v == v) = true := by simp
    go_wp2
    go_ret
    exact ⟨rfl, o5.out.bel⟩
  · rw [if_neg hb] at hn1
    have H1 := Lib.hid hn1
    have hz2 : (19 : Int) ≤ ((bstr s).size : Int) := by rw [bstr_size]; have := hlb hb; omega
    have hcase : 999999999999999999 < v ∨ (v ≤ 999999999999999999 ∧ v < -999999999999999999) := by omega
    clear hn1 hlb hb h0 h1
    rcases hcase with hb | ⟨hb, hb2⟩
    all_goals
      go_enter Tryd.func5, Tryd.ntmps5
      go_wp2_with fail
      refine Hd.out.mono ?_
      rintro r w1 ⟨rfl, b1⟩
      have o1 := Lib.hid ((Own.start w).below b1)
      clear b1
      go_wp2_with fail
      refine (number_any s w1 (by have := Hl.out; omega)).mono ?_
      rw [H1.out]
      rintro r w2 ⟨rfl, rfl⟩
      go_wp2_with fail
      refine (alive_any w1 (Ht.out.below o1.out.bel)).mono ?_
      rintro r w5 ⟨rfl, b5⟩
      have o5 := Lib.hid (o1.out.below b5)
      clear o1 b5
      go_wp2
      go_ret
      exact ⟨rfl, o5.out.bel⟩
end Go.Proofs.YtomofnmlhjpifaaDoor
