/- Walks of sedimentref1.Hash and Shard. -/
import Derived.Test.YtbdhmoeadakipaaGreatName
namespace Go.Proofs.YtbdhmoeadakipaaGreat
open Go.RowKit

set_option maxRecDepth 100000 in
theorem rhash_any (x : ByteArray) (hx : x.size ≤ maxLen) (w : World) :
    Calls Tryz.prog 82 #[.string x] w fun r w' => r = .returned (.int .u32 (hashV x.data.toList)) ∧ w = w' := by
  have hn : (x.size : Int) ≤ 9223372036854775807 := by unfold maxLen at hx; omega
  clear hx
  go_enter Tryz.func82, Tryz.ntmps82
  go_wp2_with fail
  go_loopw [3, 4] (fun h i wr => ∃ (j : Nat) (v : Int), j ≤ x.size ∧ i = .int .i64 j ∧ h = .int .u32 v ∧ 0 ≤ v ∧ v ≤ 4294967295 ∧ w = wr ∧ Hid (v = hashV (x.data.toList.take j))) (fun _ i _ => x.size - (intOf i).toNat)
  case atStart => exact ⟨0, 2166136261, Nat.zero_le _, rfl, rfl, by decide, by decide, rfl, rfl⟩
  case round =>
    obtain ⟨j, v, hj, rfl, rfl, v0, v1, rfl, hv⟩ := hrel
    by_cases hlj : j < x.size
    · have hb1 : x[j].toNat < 256 := x[j].toNat_lt
      go_wp2_with fail
      go_roundw
      case rel =>
        refine ⟨j + 1, _, by omega, by go_num, rfl, ?_, ?_, by trivial, ?_⟩
        · omega
        · omega
        · show _ = hashV (x.data.toList.take (j + 1))
          rw [take_snoc (byte_at hlj), hashV_snoc, ← hv.out]; rfl
      case measure => simp [intOf]; omega
    · go_wp2_with fail
      go_ret
      obtain rfl : j = x.size := by omega
      have := hv.out
      rw [take_all (by rw [str_len]; exact Nat.le_refl _)] at this
      exact ⟨by rw [← this]; rfl, rfl⟩

theorem rshard_any (x : ByteArray) (hx : x.size ≤ maxLen) (n : Int) (w : World) :
    Calls Tryz.prog 39 #[.string x, .int .i64 n] w fun r w' => r = .returned (.int .i64 (shardV x n)) ∧ w = w' := by
  have hh := hashV_in x.data.toList
  by_cases h : n < 1
  · rw [show shardV x n = 0 by simp [shardV, h]]
    go_enter Tryz.func39, Tryz.ntmps39
    go_wp2_with fail
    all_goals (go_ret <;> simp [*])
  · rw [show shardV x n = hashV x.data.toList % n by simp [shardV, h]]
    have H := Lib.hid (rhash_any x hx)
    clear hx
    obtain ⟨v, hv⟩ : ∃ v, hashV x.data.toList = v := ⟨_, rfl⟩
    rw [hv] at hh ⊢
    have Hv := Lib.hid hv
    clear hv
    go_enter Tryz.func39, Tryz.ntmps39
    go_wp2_with fail
    refine (H.out _).mono ?_
    rw [Hv.out]
    rintro r w1 ⟨rfl, rfl⟩
    go_wp2_with fail
    all_goals (go_ret <;> simp [*])
end Go.Proofs.YtbdhmoeadakipaaGreat
