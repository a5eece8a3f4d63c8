/- Walks of package grid, and of policy.within, name.letter. -/
import Derived.Test.YtkickdmiilmkoaaGreatDoorChecked
import Derived.Test.YtkickdmiilmkoaaGreatDoorBase
import Derived.IntWalk
namespace Go.Proofs.YtkickdmiilmkoaaGreatDoor
open Go.RowKit

/-- grid.Floor. -/
def floorV (t every : Int) : Int :=
  if every < 1 then t else if t.tmod every < 0 ∧ -9223372036854775808 + every ≤ t - t.tmod every then t - t.tmod every - every else t - t.tmod every
/-- grid.Ceil. -/
def ceilV (t every : Int) : Int :=
  if every < 1 then t else if 0 < t.tmod every ∧ t - t.tmod every ≤ 9223372036854775807 - every then t - t.tmod every + every else t - t.tmod every

theorem tmod_bd (t every : Int) (he : 1 ≤ every) : -every < t.tmod every ∧ t.tmod every < every ∧ (0 ≤ t → 0 ≤ t.tmod every ∧ t.tmod every ≤ t) ∧ (t ≤ 0 → t.tmod every ≤ 0 ∧ t ≤ t.tmod every) := by
  rcases Int.le_total 0 t with h | h
  · have e := Int.tmod_eq_emod_of_nonneg (b := every) h
    have h1 := Int.emod_nonneg t (show every ≠ 0 by omega)
    have h2 := Int.emod_lt_of_pos t (show 0 < every by omega)
    have h3 : t % every ≤ t := by
      have := Int.mul_ediv_add_emod t every
      have h4 := Int.ediv_nonneg h (show 0 ≤ every by omega)
      have h5 := Int.mul_nonneg (show 0 ≤ every by omega) h4
      omega
    rw [e]
    refine ⟨by omega, h2, fun _ => ⟨h1, h3⟩, fun h6 => ?_⟩
    have : t = 0 := by omega
    subst this
    simp
  · have e0 : t.tmod every = -((-t).tmod every) := by rw [Int.neg_tmod]; omega
    have hn : 0 ≤ -t := by omega
    have e := Int.tmod_eq_emod_of_nonneg (b := every) hn
    have h1 := Int.emod_nonneg (-t) (show every ≠ 0 by omega)
    have h2 := Int.emod_lt_of_pos (-t) (show 0 < every by omega)
    have h3 : (-t) % every ≤ -t := by
      have := Int.mul_ediv_add_emod (-t) every
      have h4 := Int.ediv_nonneg hn (show 0 ≤ every by omega)
      have h5 := Int.mul_nonneg (show 0 ≤ every by omega) h4
      omega
    rw [e0, e]
    refine ⟨by omega, by omega, fun h6 => ?_, fun _ => ⟨by omega, by omega⟩⟩
    have : t = 0 := by omega
    subst this
    simp

theorem floor_in {t e : Int} (h0 : -9223372036854775808 ≤ t) (h1 : t ≤ 9223372036854775807) : -9223372036854775808 ≤ floorV t e ∧ floorV t e ≤ 9223372036854775807 := by
  unfold floorV
  split
  · exact ⟨h0, h1⟩
  · have := tmod_bd t e (by omega)
    split <;> omega
theorem ceil_in {t e : Int} (h0 : -9223372036854775808 ≤ t) (h1 : t ≤ 9223372036854775807) : -9223372036854775808 ≤ ceilV t e ∧ ceilV t e ≤ 9223372036854775807 := by
  unfold ceilV
  split
  · exact ⟨h0, h1⟩
  · have := tmod_bd t e (by omega)
    split <;> omega

/-- grid.Divides. -/
def dividesB (a b : Int) : Bool := decide (1 ≤ a) && decide (b.tmod a = 0)
/-- policy.within. -/
def withinB (n most : Int) : Bool := decide (1 ≤ n) && decide (n ≤ most)
/-- grid.Back. -/
def backV (now keep every : Int) : Int := if now < 0 ∨ keep < 0 ∨ every < 1 then 0 else max (floorV (now - keep) every) 0
theorem back_in {now keep every : Int} (h1 : now ≤ 9223372036854775807) (h2 : keep ≤ 9223372036854775807) : 0 ≤ backV now keep every ∧ backV now keep every ≤ 9223372036854775807 := by
  unfold backV
  split
  · omega
  · have := floor_in (t := now - keep) (e := every) (by omega) (by omega)
    omega
/-- name.letter. -/
def letterB (c : Int) : Bool := decide (97 ≤ c ∧ c ≤ 122) || decide (48 ≤ c ∧ c ≤ 57) || decide (c = 46) || decide (c = 95) || decide (c = 45)
set_option maxRecDepth 100000 in
theorem letter_any (c : Int) (h0 : 0 ≤ c) (h1 : c ≤ 255) (w : World) :
    Calls Tryz.prog 136 #[.int .u8 c] w fun r w' => r = .returned (.bool (letterB c)) ∧ w = w' := by
  go_enter Tryz.func136, Tryz.ntmps136
  go_wp2_with fail
  all_goals (go_ret <;> refine ⟨congrArg (fun b => Ending.returned (.bool b)) ?_, rfl⟩ <;> (rw [Bool.eq_iff_iff]; simp [letterB] <;> omega))
end Go.Proofs.YtkickdmiilmkoaaGreatDoor
