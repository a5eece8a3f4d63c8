/- Walk of shadow: Step that checks. -/
import Derived.Test.YteajonicnkpbbaaGreatDoorShStep
import Derived.Test.YteajonicnkpbbaaGreatDoorTiersSame
import Derived.Test.YteajonicnkpbbaaGreatDoorTiersLoad
import Derived.Test.YteajonicnkpbbaaGreatDoorPlanBuild
import Derived.Test.YteajonicnkpbbaaGreatDoorRollLaw
import Derived.Test.YteajonicnkpbbaaGreatDoorShNext
import Derived.Test.YteajonicnkpbbaaGreatDoorFills
import Derived.Test.YteajonicnkpbbaaGreatDoorTk
namespace Go.Proofs.YteajonicnkpbbaaGreatDoor
set_option linter.all false
open Go.RowKit

end Go.Proofs.YteajonicnkpbbaaGreatDoor
namespace Go.Proofs.YteajonicnkpbbaaGreatDoor
set_option linter.all false
open Go.RowKit

section
variable {nm : ByteArray} {l : List TierV} {fl : List Int} {o : Int} {lo lo2 : Nat} {W W' : World} {t : Nat} {X : TiersX} {F G : Nat → Prop} {c : Nat}
end
end Go.Proofs.YteajonicnkpbbaaGreatDoor
namespace Go.Proofs.YteajonicnkpbbaaGreatDoor
set_option linter.all false
open Go.RowKit

def filB (lt : List TierV) (done : Int) (j : Nat) (s : ByteArray) : Bool :=
 match lt[j]? with
 | some y => decide (shardV s y.shards + fillsV (lt.take j) < done)
 | none => false
def unf (lt : List TierV) (done : Int) (j : Nat) (r : RecV) : Bool := !filB lt done j r.name
def shL (lt : List TierV) (done : Int) (Y : List (List RecV)) (j : Nat) : List RecV := keepT (unf lt done j) (Y.getD j [])
def shT (lt : List TierV) (done : Int) (Y : List (List RecV)) : List (List RecV) := (List.range lt.length).map (shL lt done Y)
theorem shT_get {lt : List TierV} {done : Int} {Y : List (List RecV)} {j : Nat} (hj : j < lt.length) : (shT lt done Y)[j]? = some (shL lt done Y j) := by unfold shT; rw [List.getElem?_map, List.getElem?_range hj]; rfl
theorem shT_getD {lt : List TierV} {done : Int} {Y : List (List RecV)} {j : Nat} (hj : j < lt.length) : (shT lt done Y).getD j [] = shL lt done Y j := by rw [List.getD_eq_getElem?_getD, shT_get hj]; rfl
section
variable {nm2 : ByteArray} {lt : List TierV} {Y : List (List RecV)} {done : Int}
end
section
variable {nm nm2 : ByteArray} {l lt : List TierV} {X : TiersX} {fl : List Int} {o : Int} {c : Nat}
end
end Go.Proofs.YteajonicnkpbbaaGreatDoor
namespace Go.Proofs.YteajonicnkpbbaaGreatDoor
set_option linter.all false
open Go.RowKit

structure ShOk (nm2 : ByteArray) (l lt : List TierV) (fl : List Int) (o : Int) (X : TiersX) (S : ShX) : Prop where
 name : S.name = nm2
 tiers : S.tiers = lt
 src : S.srcs = Proofs.YteajonicnkpbbaaGreatDoor.srcs o l fl lt
 tabs : S.tabs = shT lt S.done (buildX X nm2 lt (Proofs.YteajonicnkpbbaaGreatDoor.srcs o l fl lt)).tabs
 d0 : 0 ≤ S.done
 d1 : S.done ≤ stepsV lt
section
variable {nm nm2 : ByteArray} {l lt : List TierV} {fl : List Int} {o : Int} {lo : Nat} {W : World} {t s base : Nat} {X : TiersX} {S : ShX} {Ft F : Nat → Prop} {cc : Nat}
theorem steps_in (p2 : PolOk nm2 lt) : 0 ≤ fillsV lt ∧ stepsV lt = fillsV lt + 2 ∧ stepsV lt ≤ 42 := by
 have h8 : ∀ t ∈ lt, t.shards ≤ 8 := fun x hx => (check_mem p2.ck hx).2.2.2.2.2
 have hf := fillsV_in h8
 have h5 := p2.five
 have hne : lt ≠ [] := by rintro rfl; have := p2.pos; simp at this
 have : stepsV lt = fillsV lt + 2 := by simp [stepsV, hne]
 omega
theorem build_right (p : PolOk nm l) (p2 : PolOk nm2 lt) (hg : GoodX nm l fl X cc) (hfl : ∀ f ∈ fl, 0 ≤ f ∧ f ≤ 2199023255552) {j : Nat} {y : TierV} (hy : lt[j]? = some y) :
  goodL ((buildX X nm2 lt (srcs o l fl lt)).tabs.getD j []) ∧ ∀ r ∈ (buildX X nm2 lt (srcs o l fl lt)).tabs.getD j [], rightR y.every r = true ∧ fromV X.now lt (basesV X.now l fl (srcs o l fl lt) lt) j ≤ r.start := by
 rw [build_tab (List.getElem?_eq_some_iff.1 hy).1]
 obtain ⟨i, x, hx, hs, hd, _, _⟩ := build_src (o := o) (X := X) p.ck hg.now hfl p2.ck hy
 have hxX : X.tiers[i]? = some x := by rw [hg.tiers]; exact hx
 unfold buildL
 rw [hs, hy]
 simp only [Int.toNat_natCast]
 rw [hxX]
 simp only
 rw [hg.tiers, hg.floors]
 exact rollV_right
end
end Go.Proofs.YteajonicnkpbbaaGreatDoor
namespace Go.Proofs.YteajonicnkpbbaaGreatDoor
set_option linter.all false
open Go.RowKit

section
variable {nm nm2 : ByteArray} {l lt : List TierV} {fl : List Int} {o : Int} {X : TiersX} {S : ShX} {cc : Nat}
end
end Go.Proofs.YteajonicnkpbbaaGreatDoor
