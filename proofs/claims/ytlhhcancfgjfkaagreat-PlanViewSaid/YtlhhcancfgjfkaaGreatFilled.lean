/- Walk of (plan.Plan).Filled. -/
import Derived.Test.YtlhhcancfgjfkaaGreatBound
namespace Go.Proofs.YtlhhcancfgjfkaaGreat
set_option linter.all false
open Go.RowKit

theorem shardV_in (s : ByteArray) (n : Int) : 0 ≤ shardV s n ∧ shardV s n ≤ 4294967295 := by
  have := hashV_in s.data.toList
  unfold shardV
  split
  · omega
  · have h1 := Int.emod_nonneg (hashV s.data.toList) (show n ≠ 0 by omega)
    have h2 : hashV s.data.toList % n ≤ hashV s.data.toList := by
      have h3 := Int.mul_ediv_add_emod (hashV s.data.toList) n
      have h4 := Int.mul_nonneg (show 0 ≤ n by omega) (Int.ediv_nonneg this.1 (show 0 ≤ n by omega))
      omega
    omega

end Go.Proofs.YtlhhcancfgjfkaaGreat
