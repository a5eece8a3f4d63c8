/- Walk of plan: fits. -/
import Derived.Test.YtbblmmneeafhgaaGreatTiersLoad
import Derived.Test.YtbblmmneeafhgaaGreatRollLaw
import Derived.Test.YtbblmmneeafhgaaGreatTk
namespace Go.Proofs.YtbblmmneeafhgaaGreat
set_option linter.all false
open Go.RowKit

end Go.Proofs.YtbblmmneeafhgaaGreat
namespace Go.Proofs.YtbblmmneeafhgaaGreat
set_option linter.all false
open Go.RowKit

theorem own_down {w : World} {base b n size : Nat} {e : TypeId} {v : Value} {xs : List Value} (h : w.ownsRow base e size v n xs) (hb : b ≤ base) : w.ownsRow b e size v n xs :=
 own_up h (fun k hk => Nat.le_trans hb (h.lt k hk).1)
theorem TiersOn.down {w : World} {t base b : Nat} {X : TiersX} {F : Nat → Prop} (h : TiersOn w t base X F) (hb : b ≤ base) : TiersOn w t b X F := by
 obtain ⟨A, c, B, d, T, ct, tb, hi, e⟩ := h
 exact ⟨A, c, B, d, T, ct, tb, ⟨hi.blk, own_down hi.tiers hb, own_down hi.floors hb, own_down hi.row hb, hi.tlen, hi.tab, hi.nodup, fun p hp => ⟨Nat.le_trans hb (hi.ge p hp).1, Nat.le_trans hb (hi.ge p hp).2⟩, Nat.le_trans hb hi.tge⟩, e⟩
end Go.Proofs.YtbblmmneeafhgaaGreat
