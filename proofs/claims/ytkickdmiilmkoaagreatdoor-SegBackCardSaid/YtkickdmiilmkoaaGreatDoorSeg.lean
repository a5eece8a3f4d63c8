/- Walks of seg.right, seg.Blocks, cmp.Compare, cmp.Or. -/
import Derived.Test.YtkickdmiilmkoaaGreatDoorRecE
namespace Go.Proofs.YtkickdmiilmkoaaGreatDoor
open Go.RowKit

def rightB (id t s : Int) : Bool := decide (0 < id) && (decide (0 ≤ t) && (decide (t < 10) && (decide (0 ≤ s) && decide (s < 8))))
set_option maxHeartbeats 1000000 in
theorem right_any (id t s : Int) (w : World) : Calls Tryz.prog 100 #[.int .u64 id, .int .i64 t, .int .i64 s] w fun r w' => r = .returned (.bool (rightB id t s)) ∧ w = w' := by
  go_enter Tryz.func100, Tryz.ntmps100
  go_wp2_with fail
  all_goals (go_ret <;> refine ⟨congrArg (fun b => Ending.returned (.bool b)) ?_, rfl⟩ <;> (rw [Bool.eq_iff_iff]; simp [rightB] <;> omega))
def blocksV (n : Nat) : Nat := (n + 2) / 3
theorem blocks_any (n : Nat) (hn : n ≤ 1099511627776) (w : World) : Calls Tryz.prog 38 #[.int .i64 (n : Int)] w fun r w' => r = .returned (.int .i64 (blocksV n : Nat)) ∧ w = w' := by
  by_cases h : n < 1
  · have hi : (n : Int) < 1 := by omega
    have hv : Hid (blocksV n = 0) := by show _ = _; unfold blocksV; omega
    go_enter Tryz.func38, Tryz.ntmps38
    go_wp2_with fail
    go_ret
    exact ⟨by rw [hv.out]; rfl, rfl⟩
  · have hi : ¬ (n : Int) < 1 := by omega
    have hv : Hid (((blocksV n : Nat) : Int) = ((n : Int) - 1) / 3 + 1) := by show _ = _; unfold blocksV; omega
    go_enter Tryz.func38, Tryz.ntmps38
    go_wp2_with fail
    go_ret
    exact ⟨ret_int hv.out.symm, rfl⟩
theorem nan_int (a : Int) (w : World) : Calls Tryz.prog 160 #[.int .i64 a] w fun r w' => r = .returned (.bool false) ∧ w = w' := by
  go_enter Tryz.func160, Tryz.ntmps160
  go_wp2_with fail
  go_ret
  exact ⟨by simp, rfl⟩
theorem nan_string (a : ByteArray) (w : World) : Calls Tryz.prog 159 #[.string a] w fun r w' => r = .returned (.bool false) ∧ w = w' := by
  go_enter Tryz.func159, Tryz.ntmps159
  go_wp2_with fail
  go_ret
  exact ⟨by simp, rfl⟩
def cmpI (a b : Int) : Int := if a < b then -1 else if b < a then 1 else 0
theorem cmpint_any (a b : Int) (w : World) : Calls Tryz.prog 154 #[.int .i64 a, .int .i64 b] w fun r w' => r = .returned (.int .i64 (cmpI a b)) ∧ w = w' := by
  unfold cmpI
  by_cases h1 : a < b
  · rw [if_pos h1]
    go_enter Tryz.func154, Tryz.ntmps154
    go_wp2_with fail
    refine (nan_int a w).mono ?_
    rintro r w' ⟨rfl, rfl⟩
    go_wp2_with fail
    refine (nan_int b w).mono ?_
    rintro r w' ⟨rfl, rfl⟩
    go_wp2_with fail
    go_ret
    exact ⟨rfl, rfl⟩
  · rw [if_neg h1]
    by_cases h2 : b < a
    · rw [if_pos h2]
      go_enter Tryz.func154, Tryz.ntmps154
      go_wp2_with fail
      refine (nan_int a w).mono ?_
      rintro r w' ⟨rfl, rfl⟩
      go_wp2_with fail
      refine (nan_int b w).mono ?_
      rintro r w' ⟨rfl, rfl⟩
      go_wp2_with fail
      go_ret
      exact ⟨rfl, rfl⟩
    · rw [if_neg h2]
      go_enter Tryz.func154, Tryz.ntmps154
      go_wp2_with fail
      refine (nan_int a w).mono ?_
      rintro r w' ⟨rfl, rfl⟩
      go_wp2_with fail
      refine (nan_int b w).mono ?_
      rintro r w' ⟨rfl, rfl⟩
      go_wp2_with fail
      go_ret
      exact ⟨rfl, rfl⟩
end Go.Proofs.YtkickdmiilmkoaaGreatDoor
