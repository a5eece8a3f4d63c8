/- Walk of shadow: Note. -/
import Derived.Test.YteajonicnkpbbaaGreatDoorShStepU
import Derived.Test.YteajonicnkpbbaaGreatDoorTiersSame
import Derived.Test.YteajonicnkpbbaaGreatDoorPlanBuild
import Derived.Test.YteajonicnkpbbaaGreatDoorTioA
import Derived.Test.YteajonicnkpbbaaGreatDoorRollLaw
import Derived.Test.YteajonicnkpbbaaGreatDoorGoodX
import Derived.Test.YteajonicnkpbbaaGreatDoorShBegin
import Derived.Test.YteajonicnkpbbaaGreatDoorShCopy
import Derived.Test.YteajonicnkpbbaaGreatDoorTk
namespace Go.Proofs.YteajonicnkpbbaaGreatDoor
set_option linter.all false
open Go.RowKit

end Go.Proofs.YteajonicnkpbbaaGreatDoor
namespace Go.Proofs.YteajonicnkpbbaaGreatDoor
set_option linter.all false
open Go.RowKit

section
variable {nm nm2 : ByteArray} {l lt : List TierV} {fl : List Int} {o : Int} {lo : Nat} {W : World} {t s base : Nat} {X : TiersX} {S : ShX} {Ft F : Nat → Prop} {cc : Nat}
theorem ShOk.tab (h : ShOk nm2 l lt fl o X S) (p : PolOk nm l) (p2 : PolOk nm2 lt) (hg : GoodX nm l fl X cc) (hfl : ∀ f ∈ fl, 0 ≤ f ∧ f ≤ 2199023255552) {j : Nat} {y : TierV} (hy : lt[j]? = some y) :
  Sorted (S.tabs.getD j []) ∧ ∀ r ∈ S.tabs.getD j [], rightR y.every r = true := by
 have hj := (List.getElem?_eq_some_iff.1 hy).1
 obtain ⟨h1, h2⟩ := build_right (o := o) p p2 hg hfl hy
 rw [h.tabs, shT_getD hj]
 unfold shL
 refine ⟨?_, fun r hr => (h2 r (List.mem_filter.1 hr).1).1⟩
 exact List.Pairwise.sublist List.filter_sublist h1.1
end
end Go.Proofs.YteajonicnkpbbaaGreatDoor
namespace Go.Proofs.YteajonicnkpbbaaGreatDoor
set_option linter.all false
open Go.RowKit

end Go.Proofs.YteajonicnkpbbaaGreatDoor
namespace Go.Proofs.YteajonicnkpbbaaGreatDoor
set_option linter.all false
open Go.RowKit

end Go.Proofs.YteajonicnkpbbaaGreatDoor
namespace Go.Proofs.YteajonicnkpbbaaGreatDoor
set_option linter.all false
open Go.RowKit

section
variable {nm nm2 : ByteArray} {l lt : List TierV} {fl : List Int} {o : Int} {X : TiersX} {S : ShX} {c : Nat}
end
section
variable {nm nm2 : ByteArray} {l lt : List TierV} {fl : List Int} {o : Int} {lo : Nat} {W : World} {t s base : Nat} {X : TiersX} {S : ShX} {Ft F : Nat → Prop} {cc c0 : Nat}
end
end Go.Proofs.YteajonicnkpbbaaGreatDoor
namespace Go.Proofs.YteajonicnkpbbaaGreatDoor
set_option linter.all false
open Go.RowKit

structure StX where
 room : Int
 X : TiersX
 ch : Option ShX
def boundO : Option ShX → Int
 | none => 0
 | some S => S.bound
def ShX.built (S : ShX) (X : TiersX) : TiersX := buildX X S.name S.tiers S.srcs
structure ChGood (X : TiersX) (S : ShX) : Prop where
 pol : PolOk S.name S.tiers
 nm : S.name.size ≤ maxLen
 ok : ∃ o, ShOk S.name X.tiers S.tiers X.floors o X S
 done : S.done < stepsV S.tiers
 b0 : 0 ≤ S.bound
 fits : ((needX (S.built X) : Nat) : Int) ≤ S.bound
structure StGood (Q : StX) (c : Nat) : Prop where
 pol : PolOk Q.X.name Q.X.tiers
 nm : Q.X.name.size ≤ maxLen
 good : GoodX Q.X.name Q.X.tiers Q.X.floors Q.X c
 fl : ∀ f ∈ Q.X.floors, 0 ≤ f ∧ f ≤ 1099511627776 + 1000000 * (c : Int)
 flen : Q.X.floors.length ≤ 5
 room : 0 ≤ Q.room ∧ Q.room ≤ 4096
 need : ((needX Q.X : Nat) : Int) + boundO Q.ch ≤ Q.room
 ch : ∀ S, Q.ch = some S → ChGood Q.X S
section
variable {Q : StX} {c : Nat}
theorem StGood.hfl (h : StGood Q c) (hc : c ≤ 1000000) : ∀ f ∈ Q.X.floors, 0 ≤ f ∧ f ≤ 2199023255552 := fun f hf => by
 have := h.fl f hf
 omega
def ReadOk (R : Int × ByteArray × List TierV) : Prop := R.1 = 0 → PolOk R.2.1 R.2.2 ∧ R.2.1.size ≤ maxLen
theorem newX_need (nm : ByteArray) (l : List TierV) (now : Int) (fl : List Int) : needX (newX nm l now fl) = 0 := by
 have hz : ∀ L : List TierV, (List.zipWith (fun (x : TierV) (m : List RecV) => needV (max x.shards 1) m) L (L.map fun _ => [])).sum = 0 := by
  intro L
  induction L with
  | nil => rfl
  | cons a L ih =>
   rw [List.map_cons, List.zipWith_cons_cons, List.sum_cons, ih]
   have hz : ∀ R : List Nat, (R.map fun k => (cntS (max a.shards 1) [] k + 2) / 3).sum = 0 := by
    intro R
    induction R with
    | nil => rfl
    | cons x R ihR => rw [List.map_cons, List.sum_cons, ihR, show cntS (max a.shards 1) [] x = 0 from rfl]
   unfold needV
   rw [hz]
 unfold needX needsX newX
 exact hz l
theorem newE_ok {nm : ByteArray} {l : List TierV} (p : PolOk nm l) : newE nm l 0 [] = 0 := by
 unfold newE
 rw [if_pos p.ck, if_neg (by simp), if_pos]
 unfold floorsB
 rw [List.all_eq_true]
 intro k _
 unfold floorOk
 simp
theorem StGood.new {nm : ByteArray} {l : List TierV} (p : PolOk nm l) (hnm : nm.size ≤ maxLen) {room : Int} (h0 : 0 ≤ room) (h1 : room ≤ 4096) : StGood ⟨room, newX nm l 0 [], none⟩ 0 := by
 refine ⟨p, hnm, GoodX.new (newE_ok p), (fun _ h => by cases h), Nat.zero_le _, ⟨h0, h1⟩, ?_, (fun _ h => by cases h)⟩
 show ((needX (newX nm l 0 []) : Nat) : Int) + 0 ≤ room
 rw [newX_need]
 omega
end
end Go.Proofs.YteajonicnkpbbaaGreatDoor
