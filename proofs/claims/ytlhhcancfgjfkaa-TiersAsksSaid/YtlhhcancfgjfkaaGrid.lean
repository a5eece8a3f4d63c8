/- Walks of package grid, and of policy.within, name.letter. -/
import Derived.Test.YtlhhcancfgjfkaaChecked
import Derived.Test.YtlhhcancfgjfkaaBase
import Derived.IntWalk
namespace Go.Proofs.Ytlhhcancfgjfkaa
set_option linter.all false
open Go.RowKit

/-- grid.Floor. -/
def floorV (t every : Int) : Int :=
  if every < 1 then t else if t.tmod every < 0 ∧ -9223372036854775808 + every ≤ t - t.tmod every then t - t.tmod every - every else t - t.tmod every
/-- grid.Ceil. -/
def ceilV (t every : Int) : Int :=
  if every < 1 then t else if 0 < t.tmod every ∧ t - t.tmod every ≤ 9223372036854775807 - every then t - t.tmod every + every else t - t.tmod every

theorem tmod_bd (t every : Int) (he : 1 ≤ every) : -every < t.tmod every ∧ t.tmod every < every ∧ (0 ≤ t → 0 ≤ t.tmod every ∧ t.tmod every ≤ t) ∧ (t ≤ 0 → t.tmod every ≤ 0 ∧ t ≤ t.tmod every) := by
  rcases Int.le_total 0 t with h | h
  · have e := Int.tmod_eq_emod_of_nonneg (b := every) h
    have h1 := Int.emod_nonneg t (show every ≠ 0 by omega)
    have h2 := Int.emod_lt_of_pos t (show 0 < every by omega)
    have h3 : t % every ≤ t := by
      have := Int.mul_ediv_add_emod t every
      have h4 := Int.ediv_nonneg h (show 0 ≤ every by omega)
      have h5 := Int.mul_nonneg (show 0 ≤ every by omega) h4
      omega
    rw [e]
    refine ⟨by omega, h2, fun _ => ⟨h1, h3⟩, fun h6 => ?_⟩
    have : t = 0 := by omega
    subst this
    simp
  · have e0 : t.tmod every = -((-t).tmod every) := by rw [Int.neg_tmod]; omega
    have hn : 0 ≤ -t := by omega
    have e := Int.tmod_eq_emod_of_nonneg (b := every) hn
    have h1 := Int.emod_nonneg (-t) (show every ≠ 0 by omega)
    have h2 := Int.emod_lt_of_pos (-t) (show 0 < every by omega)
    have h3 : (-t) % every ≤ -t := by
      have := Int.mul_ediv_add_emod (-t) every
      have h4 := Int.ediv_nonneg hn (show 0 ≤ every by omega)
      have h5 := Int.mul_nonneg (show 0 ≤ every by omega) h4
      omega
    rw [e0, e]
    refine ⟨by omega, by omega, fun h6 => ?_, fun _ => ⟨by omega, by omega⟩⟩
    have : t = 0 := by omega
    subst this
    simp

theorem floor_in {t e : Int} (h0 : -9223372036854775808 ≤ t) (h1 : t ≤ 9223372036854775807) : -9223372036854775808 ≤ floorV t e ∧ floorV t e ≤ 9223372036854775807 := by
  unfold floorV
  split
  · exact ⟨h0, h1⟩
  · have := tmod_bd t e (by omega)
    split <;> omega
theorem ceil_in {t e : Int} (h0 : -9223372036854775808 ≤ t) (h1 : t ≤ 9223372036854775807) : -9223372036854775808 ≤ ceilV t e ∧ ceilV t e ≤ 9223372036854775807 := by
  unfold ceilV
  split
  · exact ⟨h0, h1⟩
  · have := tmod_bd t e (by omega)
    split <;> omega

theorem floor_any (t e : Int) (h0 : -9223372036854775808 ≤ t) (h1 : t ≤ 9223372036854775807) (h2 : -9223372036854775808 ≤ e) (h3 : e ≤ 9223372036854775807) (w : World) :
    Calls Try.prog 71 #[.int .i64 t, .int .i64 e] w fun r w' => r = .returned (.int .i64 (floorV t e)) ∧ w = w' := by
  by_cases hb : e < 1
  · rw [show floorV t e = t by simp [floorV, hb]]
    go_enter Try.func71, Try.ntmps71
    go_wp2_with fail
    (go_ret <;> exact ⟨rfl, rfl⟩)
  · have hm := tmod_bd t e (by omega)
    generalize hr : t.tmod e = r at hm
    obtain ⟨m1, m2, m3, m4⟩ := hm
    have w1 : wrap64 (t - r) = t - r := IntWalk.wrap64_in _ ⟨by omega, by omega⟩
    have w2 : wrap64 (-9223372036854775808 + e) = -9223372036854775808 + e := IntWalk.wrap64_in _ ⟨by omega, by omega⟩
    by_cases hn : r < 0
    · by_cases hk : -9223372036854775808 + e ≤ t - r
      · have w3 : wrap64 (t - r - e) = t - r - e := IntWalk.wrap64_in _ ⟨by omega, by omega⟩
        rw [show floorV t e = t - r - e by simp [floorV, hb, hr, hn, hk]]
        go_enter Try.func71, Try.ntmps71
        go_wp2_with fail
        all_goals (go_ret <;> exact ⟨rfl, rfl⟩)
      · rw [show floorV t e = t - r by simp [floorV, hb, hr, hk]]
        go_enter Try.func71, Try.ntmps71
        go_wp2_with fail
        all_goals (go_ret <;> exact ⟨rfl, rfl⟩)
    · rw [show floorV t e = t - r by simp [floorV, hb, hr, hn]]
      go_enter Try.func71, Try.ntmps71
      go_wp2_with fail
      all_goals (go_ret <;> exact ⟨rfl, rfl⟩)
theorem ceil_any (t e : Int) (h0 : -9223372036854775808 ≤ t) (h1 : t ≤ 9223372036854775807) (h2 : -9223372036854775808 ≤ e) (h3 : e ≤ 9223372036854775807) (w : World) :
    Calls Try.prog 86 #[.int .i64 t, .int .i64 e] w fun r w' => r = .returned (.int .i64 (ceilV t e)) ∧ w = w' := by
  by_cases hb : e < 1
  · rw [show ceilV t e = t by simp [ceilV, hb]]
    go_enter Try.func86, Try.ntmps86
    go_wp2_with fail
    all_goals (go_ret <;> exact ⟨rfl, rfl⟩)
  · have hm := tmod_bd t e (by omega)
    generalize hr : t.tmod e = r at hm
    obtain ⟨m1, m2, m3, m4⟩ := hm
    have w1 : wrap64 (t - r) = t - r := IntWalk.wrap64_in _ ⟨by omega, by omega⟩
    have w2 : wrap64 (9223372036854775807 - e) = 9223372036854775807 - e := IntWalk.wrap64_in _ ⟨by omega, by omega⟩
    by_cases hn : 0 < r
    · by_cases hk : t - r ≤ 9223372036854775807 - e
      · have w3 : wrap64 (t - r + e) = t - r + e := IntWalk.wrap64_in _ ⟨by omega, by omega⟩
        rw [show ceilV t e = t - r + e by simp [ceilV, hb, hr, hn, hk]]
        go_enter Try.func86, Try.ntmps86
        go_wp2_with fail
        all_goals (go_ret <;> exact ⟨rfl, rfl⟩)
      · rw [show ceilV t e = t - r by simp [ceilV, hb, hr, hk]]
        go_enter Try.func86, Try.ntmps86
        go_wp2_with fail
        all_goals (go_ret <;> exact ⟨rfl, rfl⟩)
    · rw [show ceilV t e = t - r by simp [ceilV, hb, hr, hn]]
      go_enter Try.func86, Try.ntmps86
      go_wp2_with fail
      all_goals (go_ret <;> exact ⟨rfl, rfl⟩)

/-- grid.Divides. -/
def dividesB (a b : Int) : Bool := decide (1 ≤ a) && decide (b.tmod a = 0)
theorem divides_any (a b : Int) (w : World) :
    Calls Try.prog 88 #[.int .i64 a, .int .i64 b] w fun r w' => r = .returned (.bool (dividesB a b)) ∧ w = w' := by
  by_cases h1 : 1 ≤ a
  · by_cases h2 : b.tmod a = 0
    · rw [show dividesB a b = true by simp [dividesB, h1, h2]]
      go_enter Try.func88, Try.ntmps88
      go_wp2_with fail
      all_goals (go_ret <;> simp [*])
    · rw [show dividesB a b = false by simp [dividesB, h2]]
      go_enter Try.func88, Try.ntmps88
      go_wp2_with fail
      all_goals (go_ret <;> simp [*])
  · rw [show dividesB a b = false by simp [dividesB, h1]]
    go_enter Try.func88, Try.ntmps88
    go_wp2_with fail
    all_goals (go_ret <;> simp [*])

/-- policy.within. -/
def withinB (n most : Int) : Bool := decide (1 ≤ n) && decide (n ≤ most)
theorem within_any (n most : Int) (w : World) :
    Calls Try.prog 68 #[.int .i64 n, .int .i64 most] w fun r w' => r = .returned (.bool (withinB n most)) ∧ w = w' := by
  by_cases h1 : 1 ≤ n
  · by_cases h2 : n ≤ most
    · rw [show withinB n most = true by simp [withinB, h1, h2]]
      go_enter Try.func68, Try.ntmps68
      go_wp2_with fail
      all_goals (go_ret <;> simp [*])
    · rw [show withinB n most = false by simp [withinB, h2]]
      go_enter Try.func68, Try.ntmps68
      go_wp2_with fail
      all_goals (go_ret <;> simp [*])
  · rw [show withinB n most = false by simp [withinB, h1]]
    go_enter Try.func68, Try.ntmps68
    go_wp2_with fail
    all_goals (go_ret <;> simp [*])

/-- grid.Back. -/
def backV (now keep every : Int) : Int := if now < 0 ∨ keep < 0 ∨ every < 1 then 0 else max (floorV (now - keep) every) 0
theorem back_in {now keep every : Int} (h1 : now ≤ 9223372036854775807) (h2 : keep ≤ 9223372036854775807) : 0 ≤ backV now keep every ∧ backV now keep every ≤ 9223372036854775807 := by
  unfold backV
  split
  · omega
  · have := floor_in (t := now - keep) (e := every) (by omega) (by omega)
    omega
theorem gback_any (t k e : Int) (h0 : -9223372036854775808 ≤ t) (h1 : t ≤ 9223372036854775807) (k0 : -9223372036854775808 ≤ k) (k1 : k ≤ 9223372036854775807) (h2 : -9223372036854775808 ≤ e) (h3 : e ≤ 9223372036854775807) (w : World) :
    Calls Try.prog 64 #[.int .i64 t, .int .i64 k, .int .i64 e] w fun r w' => r = .returned (.int .i64 (backV t k e)) ∧ w = w' := by
  by_cases a1 : t < 0
  · rw [show backV t k e = 0 by simp [backV, a1]]
    go_enter Try.func64, Try.ntmps64
    go_wp2_with fail
    all_goals (go_ret <;> exact ⟨rfl, rfl⟩)
  by_cases a2 : k < 0
  · rw [show backV t k e = 0 by simp [backV, a2]]
    go_enter Try.func64, Try.ntmps64
    go_wp2_with fail
    all_goals (go_ret <;> exact ⟨rfl, rfl⟩)
  by_cases a3 : e < 1
  · rw [show backV t k e = 0 by simp [backV, a3]]
    go_enter Try.func64, Try.ntmps64
    go_wp2_with fail
    all_goals (go_ret <;> exact ⟨rfl, rfl⟩)
  · rw [show backV t k e = max (floorV (t - k) e) 0 by simp [backV, a1, a2, a3]]
    go_enter Try.func64, Try.ntmps64
    go_wp2_with fail
    refine (floor_any (t - k) e (by omega) (by omega) h2 h3 _).mono ?_
    rintro r w1 ⟨rfl, rfl⟩
    go_wp2_with fail
    all_goals (go_ret <;> simp [*] <;> omega)

/-- name.letter. -/
def letterB (c : Int) : Bool := decide (97 ≤ c ∧ c ≤ 122) || decide (48 ≤ c ∧ c ≤ 57) || decide (c = 46) || decide (c = 95) || decide (c = 45)
set_option maxRecDepth 100000 in
theorem letter_any (c : Int) (h0 : 0 ≤ c) (h1 : c ≤ 255) (w : World) :
    Calls Try.prog 79 #[.int .u8 c] w fun r w' => r = .returned (.bool (letterB c)) ∧ w = w' := by
  go_enter Try.func79, Try.ntmps79
  go_wp2_with fail
  all_goals (go_ret <;> refine ⟨congrArg (fun b => Ending.returned (.bool b)) ?_, rfl⟩ <;> (rw [Bool.eq_iff_iff]; simp [letterB] <;> omega))
end Go.Proofs.Ytlhhcancfgjfkaa
