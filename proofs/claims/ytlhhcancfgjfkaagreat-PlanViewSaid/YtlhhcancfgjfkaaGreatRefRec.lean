/- Walks of sedimentref1.Valid, PutAgg, sedimentref10.ValidRecord. -/
import Derived.Test.YtlhhcancfgjfkaaGreatRef1B
namespace Go.Proofs.YtlhhcancfgjfkaaGreat
set_option linter.all false
open Go.RowKit

set_option maxHeartbeats 1000000 in
theorem raggvalid_any (a : AggV) (w : World) : Calls Tryz.prog 149 #[a.val] w fun r w' => r = .returned (.bool (aggOk a)) ∧ Below w.heap.size w w' := by
  have hok : Hid (aggOk a = (decide (1 ≤ a.count) && decide (a.count ≤ 4611686018427387904) && decide (a.min ≤ a.max))) := rfl
  obtain ⟨c, h, lo, m, x⟩ := a
  unfold AggV.val
  simp only at hok
  have O := Lib.hid ((Own.start w).skip (Fr.none_alloc w (.cells #[.int .i64 c, .int .i64 h, .int .u64 lo, .int .i64 m, .int .i64 x] 106)))
  by_cases h1 : 1 ≤ c
  · by_cases h2 : c ≤ 4611686018427387904
    · by_cases h3 : m ≤ x
      · have hv : Hid (aggOk ⟨c, h, lo, m, x⟩ = true) := by show _ = _; rw [hok.out]; simp [h1, h2, h3]
        go_enter Tryz.func149, Tryz.ntmps149
        go_wp2_with fail
        go_ret
        exact ⟨by rw [hv.out]; simp [*], O.out.bel⟩
      · have h3d : decide (m ≤ x) = false := decide_eq_false h3
        have hv : Hid (aggOk ⟨c, h, lo, m, x⟩ = false) := by show _ = _; rw [hok.out]; simp [h3]
        go_enter Tryz.func149, Tryz.ntmps149
        go_wp2_with fail
        go_ret
        exact ⟨by rw [hv.out]; simp [*], O.out.bel⟩
    · have h2d : decide (c ≤ 4611686018427387904) = false := decide_eq_false h2
      have hv : Hid (aggOk ⟨c, h, lo, m, x⟩ = false) := by show _ = _; rw [hok.out]; simp [h2]
      go_enter Tryz.func149, Tryz.ntmps149
      go_wp2_with fail
      go_ret
      exact ⟨by rw [hv.out]; simp [*], O.out.bel⟩
  · have h1d : decide (1 ≤ c) = false := decide_eq_false h1
    have hv : Hid (aggOk ⟨c, h, lo, m, x⟩ = false) := by show _ = _; rw [hok.out]; simp [h1]
    go_enter Tryz.func149, Tryz.ntmps149
    go_wp2_with fail
    go_ret
    exact ⟨by rw [hv.out]; simp [*], O.out.bel⟩

end Go.Proofs.YtlhhcancfgjfkaaGreat
