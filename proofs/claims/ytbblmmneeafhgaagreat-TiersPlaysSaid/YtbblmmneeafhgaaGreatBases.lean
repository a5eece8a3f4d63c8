/- Walk of plan.source. -/
import Derived.Test.YtbblmmneeafhgaaGreatFrom
import Derived.Deep.RegionLaw
namespace Go.Proofs.YtbblmmneeafhgaaGreat
set_option linter.all false
open Go.RowKit

end Go.Proofs.YtbblmmneeafhgaaGreat
namespace Go.Proofs.YtbblmmneeafhgaaGreat
set_option linter.all false
open Go.RowKit

end Go.Proofs.YtbblmmneeafhgaaGreat
namespace Go.Proofs.YtbblmmneeafhgaaGreat
set_option linter.all false
open Go.RowKit

def fromI (now : Int) (l : List TierV) (fl : List Int) (i : Int) : Int := if 0 ≤ i ∧ i < l.length then fromV now l fl i.toNat else 0
theorem fromI_any (now : Int) (hnow : i64 now) (nm : ByteArray) (l : List TierV) (A : Option Addr) (n c : Nat) (fl : List Int) (B : Option Addr) (m d : Nat) (i : Int) (w : World) (hr : Rd w 4 A n (tcells l)) (hf : Rd w 1 B m (ints fl)) (hwf : ∀ t ∈ l, t.wf) (hn : n ≤ 1099511627776) :
    Calls Tryz.prog 62 #[reachV now nm A n c B m d, .int .i64 i] w fun r w' => r = .returned (.int .i64 (fromI now l fl i)) ∧ Below w.heap.size w w' := by
  have hl := hr.tiers_len
  unfold fromI
  rw [hl]
  by_cases h : 0 ≤ i ∧ i < (n : Int)
  · rw [if_pos h]
    obtain ⟨k, rfl⟩ := Int.eq_ofNat_of_zero_le h.1
    exact rfrom_any now hnow nm l A n c fl B m d k w hr hf hwf (by omega) hn
  · rw [if_neg h]
    exact from_bad now nm A n c B m d i w (by simp; omega)

end Go.Proofs.YtbblmmneeafhgaaGreat
