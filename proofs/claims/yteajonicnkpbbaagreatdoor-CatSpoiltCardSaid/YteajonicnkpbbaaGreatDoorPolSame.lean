/- Tiers and ints compared: walks of sedimentbook.SameTiers, SameInts. -/
import Derived.Test.YteajonicnkpbbaaGreatDoorSame
import Derived.Test.YteajonicnkpbbaaGreatDoorFrom
import Derived.Test.YteajonicnkpbbaaGreatDoorTiersCopy
import Derived.Test.YteajonicnkpbbaaGreatDoorTk
namespace Go.Proofs.YteajonicnkpbbaaGreatDoor
set_option linter.all false
open Go.RowKit

def tierEq (x y : TierV) : Bool := (x.name.toList == y.name.toList) && ((x.every == y.every) && ((x.keep == y.keep) && (x.shards == y.shards)))
theorem tierEq_iff (x y : TierV) : tierEq x y = true ↔ x = y := by
 obtain ⟨a, b, c, d⟩ := x
 obtain ⟨a', b', c', d'⟩ := y
 unfold tierEq
 simp only [Bool.and_eq_true, beq_iff_eq, TierV.mk.injEq]
 exact ⟨fun h => ⟨toList_inj h.1, h.2⟩, fun h => ⟨by rw [h.1], h.2⟩⟩
instance tierDec : DecidableEq TierV := fun x y => if h : tierEq x y = true then isTrue ((tierEq_iff x y).1 h) else isFalse fun e => h ((tierEq_iff x y).2 e)
theorem tcells_append (a b : List TierV) : tcells (a ++ b) = tcells a ++ tcells b := by simp [tcells]
end Go.Proofs.YteajonicnkpbbaaGreatDoor
namespace Go.Proofs.YteajonicnkpbbaaGreatDoor
set_option linter.all false
open Go.RowKit

end Go.Proofs.YteajonicnkpbbaaGreatDoor
namespace Go.Proofs.YteajonicnkpbbaaGreatDoor
set_option linter.all false
open Go.RowKit

end Go.Proofs.YteajonicnkpbbaaGreatDoor
