/- The plain law of what is answered. -/
import Derived.Test.YtbblmmneeafhgaaGreatGoodX
import Derived.Test.YtbblmmneeafhgaaGreatTioA
import Derived.Test.YtbblmmneeafhgaaGreatTiersSame
namespace Go.Proofs.YtbblmmneeafhgaaGreat
set_option linter.all false
open Go.RowKit

end Go.Proofs.YtbblmmneeafhgaaGreat
namespace Go.Proofs.YtbblmmneeafhgaaGreat
set_option linter.all false
open Go.RowKit

section
variable {nm : ByteArray} {l : List TierV} {fl : List Int} {lo : Nat} {W W' : World} {t : Nat} {X : TiersX} {F : Nat → Prop} {c : Nat}
theorem tio_same {nm2 : ByteArray} {l2 : List TierV} {fl2 : List Int} {lo2 u c2 : Nat} {Y : TiersX} {F2 : Nat → Prop} (p : PolOk nm l) (p2 : PolOk nm2 l2) (h : Tio nm l fl lo W t X F c) (h2 : Tio nm2 l2 fl2 lo2 W u Y F2 c2) (hc : c ≤ 1000000) (hc2 : c2 ≤ 1000000) :
  Calls Tryz.prog 15 #[.pointer (some ⟨t, 0, none⟩), .pointer (some ⟨u, 0, none⟩)] W fun r w' => r = .returned (.bool (sameX X Y)) ∧ Below W.heap.size W w' := by
 obtain ⟨base, hb, ho⟩ := h.on
 obtain ⟨base2, hb2, ho2⟩ := h2.on
 exact tsame_any t base X u base2 Y W ho.at_ ho2.at_ (h.five p) (h2.five p2) (h.short hc) (h2.short hc2) h.now64 h2.now64 (h.wf p) (h2.wf p2)
end
end Go.Proofs.YtbblmmneeafhgaaGreat
