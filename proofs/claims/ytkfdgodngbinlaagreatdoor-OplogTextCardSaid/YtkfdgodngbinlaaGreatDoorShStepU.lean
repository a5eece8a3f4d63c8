/- Walk of shadow: Step that checks. -/
import Derived.Test.YtkfdgodngbinlaaGreatDoorShNext
import Derived.Test.YtkfdgodngbinlaaGreatDoorShA
import Derived.Test.YtkfdgodngbinlaaGreatDoorTiersLoad
import Derived.Test.YtkfdgodngbinlaaGreatDoorPlanBuild
import Derived.Test.YtkfdgodngbinlaaGreatDoorRollLaw
import Derived.Test.YtkfdgodngbinlaaGreatDoorFills
import Derived.Test.YtkfdgodngbinlaaGreatDoorTk
namespace Go.Proofs.YtkfdgodngbinlaaGreatDoor
set_option linter.all false
open Go.RowKit

end Go.Proofs.YtkfdgodngbinlaaGreatDoor
namespace Go.Proofs.YtkfdgodngbinlaaGreatDoor
set_option linter.all false
open Go.RowKit

section
variable {nm : ByteArray} {l : List TierV} {fl : List Int} {o : Int} {lo lo2 : Nat} {W W' : World} {t : Nat} {X : TiersX} {F G : Nat → Prop} {c : Nat}
end
end Go.Proofs.YtkfdgodngbinlaaGreatDoor
namespace Go.Proofs.YtkfdgodngbinlaaGreatDoor
set_option linter.all false
open Go.RowKit

def filB (lt : List TierV) (done : Int) (j : Nat) (s : ByteArray) : Bool :=
 match lt[j]? with
 | some y => decide (shardV s y.shards + fillsV (lt.take j) < done)
 | none => false
def unf (lt : List TierV) (done : Int) (j : Nat) (r : RecV) : Bool := !filB lt done j r.name
theorem unf_key (lt : List TierV) (done : Int) (j : Nat) : ∀ x y, skey x y → unf lt done j x = unf lt done j y := fun x y h => by unfold unf; rw [h.1]
def shL (lt : List TierV) (done : Int) (Y : List (List RecV)) (j : Nat) : List RecV := keepT (unf lt done j) (Y.getD j [])
def shT (lt : List TierV) (done : Int) (Y : List (List RecV)) : List (List RecV) := (List.range lt.length).map (shL lt done Y)
theorem shT_get {lt : List TierV} {done : Int} {Y : List (List RecV)} {j : Nat} (hj : j < lt.length) : (shT lt done Y)[j]? = some (shL lt done Y j) := by unfold shT; rw [List.getElem?_map, List.getElem?_range hj]; rfl
theorem shT_getD {lt : List TierV} {done : Int} {Y : List (List RecV)} {j : Nat} (hj : j < lt.length) : (shT lt done Y).getD j [] = shL lt done Y j := by rw [List.getD_eq_getElem?_getD, shT_get hj]; rfl
theorem fills_le {lt : List TierV} (j : Nat) : 0 ≤ fillsV (lt.take j) ∧ fillsV (lt.take j) ≤ fillsV lt := by
 constructor
 ·have := fills_mono (l := lt) 0 j (Nat.zero_le _)
  simpa [fillsV] using this
 ·have h := fills_mono (l := lt) j (max j lt.length) (by omega)
  rwa [List.take_of_length_le (by omega : lt.length ≤ max j lt.length)] at h
section
variable {nm2 : ByteArray} {lt : List TierV} {Y : List (List RecV)} {done : Int}
theorem shT_zero : shT lt 0 Y = lt.map fun _ => [] := by
 unfold shT
 apply List.ext_getElem?
 intro j
 rw [List.getElem?_map, List.getElem?_map]
 by_cases hj : j < lt.length
 ·rw [List.getElem?_range hj, List.getElem?_eq_getElem hj]
  simp only [Option.map_some]
  congr 1
  unfold shL keepT
  rw [List.filter_eq_nil_iff]
  intro r _
  unfold unf filB
  have h1 := (shardV_in r.name lt[j].shards).1
  have h2 := (fills_le (lt := lt) j).1
  simp only [List.getElem?_eq_getElem hj]
  rw [decide_eq_false (by omega)]
  simp
 ·rw [List.getElem?_eq_none (by simpa using hj), List.getElem?_eq_none (by omega)]
  rfl
end
section
variable {nm nm2 : ByteArray} {l lt : List TierV} {X : TiersX} {fl : List Int} {o : Int} {c : Nat}
def noteL (Y : TiersX) (done : Int) (s : SampV) (j : Nat) (m : List RecV) : List RecV :=
 match Y.tiers[j]? with
 | some y => if filB Y.tiers done j s.name && decide (fromV Y.now Y.tiers Y.floors j ≤ floorV s.time y.every) then addV y.every m ⟨s.name, floorV s.time y.every, aggOne s.value⟩ else m
 | none => m
def noteT (Y : TiersX) (done : Int) (tabs : List (List RecV)) (s : SampV) : List (List RecV) := (List.range Y.tiers.length).map fun j => noteL Y done s j (tabs.getD j [])
theorem noteL_step {Y : TiersX} {done : Int} {s : SampV} {j : Nat} {m : List RecV} (h0 : 0 ≤ s.time) (hj : j < Y.tiers.length) : noteL Y done s j m = if filB Y.tiers done j s.name then stepL Y s j m else m := by
 unfold noteL stepL startV
 rw [if_pos (⟨by omega, by omega, h0⟩ : 0 ≤ (j : Int) ∧ (j : Int) < (Y.tiers.length : Int) ∧ 0 ≤ s.time)]
 simp only [Int.toNat_natCast, fromI_nat hj, List.getElem?_eq_getElem hj]
 cases filB Y.tiers done j s.name <;> simp
theorem build_put (p : checkB nm l = true) (hg : GoodX nm l fl X c) (hfl : ∀ f ∈ fl, 0 ≤ f ∧ f ≤ 2199023255552) (p2 : checkB nm2 lt = true) {s : SampV} (hE : putE X [s] = 0) {j : Nat} (hj : j < lt.length) :
  (buildX (putX X [s]) nm2 lt (srcs o l fl lt)).tabs.getD j [] = stepL (buildX X nm2 lt (srcs o l fl lt)) s j ((buildX X nm2 lt (srcs o l fl lt)).tabs.getD j []) := by
 have hn := hg.now
 have hX : putX X [s] = { X with tabs := addT X X.tabs s } := by unfold putX; rw [if_pos hE]; rfl
 rw [hX, build_tab hj, build_tab hj]
 have hy : lt[j]? = some lt[j] := List.getElem?_eq_getElem hj
 obtain ⟨i, x, hx, hs, hd, hf, _⟩ := build_src (o := o) (X := X) p hn hfl p2 hy
 have hi := (List.getElem?_eq_some_iff.1 hx).1
 have hxX : X.tiers[i]? = some x := by rw [hg.tiers]; exact hx
 have hy1 := check_mem p2 (mem_of_get hy)
 unfold buildL
 rw [hs, hy]
 simp only [Int.toNat_natCast]
 rw [hxX]
 simp only
 rw [addT_getD, if_pos (by rw [hg.tiers]; exact hi)]
 unfold rollV
 simp only [if_pos hd, rolls_eq]
 exact roll_step (X := X) (Y := buildX X nm2 lt (srcs o l fl lt)) hxX hy (divides_dvd hd).1 hy1.1 (divides_dvd hd).2 (by rw [hg.tiers, hg.floors]; show _ ≤ fromV X.now lt (basesV X.now X.tiers X.floors _ lt) j; rw [hg.tiers, hg.floors]; exact hf) (hg.good i) s
theorem shT_note (p : checkB nm l = true) (hg : GoodX nm l fl X c) (hfl : ∀ f ∈ fl, 0 ≤ f ∧ f ≤ 2199023255552) (p2 : checkB nm2 lt = true) {s : SampV} (hE : putE X [s] = 0) (h0 : 0 ≤ s.time) (done : Int) :
  noteT (buildX (putX X [s]) nm2 lt (srcs o l fl lt)) done (shT lt done (buildX X nm2 lt (srcs o l fl lt)).tabs) s = shT lt done (buildX (putX X [s]) nm2 lt (srcs o l fl lt)).tabs := by
 have hX : putX X [s] = { X with tabs := addT X X.tabs s } := by unfold putX; rw [if_pos hE]; rfl
 unfold noteT
 rw [show (buildX (putX X [s]) nm2 lt (srcs o l fl lt)).tiers = lt from rfl]
 conv => rhs; unfold shT
 refine List.map_congr_left (fun j hj => ?_)
 have hj := List.mem_range.1 hj
 rw [shT_getD hj]
 unfold shL
 rw [build_put p hg hfl p2 hE hj]
 have hgY : goodL ((buildX X nm2 lt (srcs o l fl lt)).tabs.getD j []) := (build_goodX p hg hfl p2).good j
 have e1 : noteL (buildX (putX X [s]) nm2 lt (srcs o l fl lt)) done s j (keepT (unf lt done j) ((buildX X nm2 lt (srcs o l fl lt)).tabs.getD j [])) = noteL (buildX X nm2 lt (srcs o l fl lt)) done s j (keepT (unf lt done j) ((buildX X nm2 lt (srcs o l fl lt)).tabs.getD j [])) := by rw [hX]; rfl
 rw [e1, noteL_step h0 hj]
 show (if filB lt done j s.name then _ else _) = _
 generalize (buildX X nm2 lt (srcs o l fl lt)).tabs.getD j [] = m at hgY ⊢
 generalize buildX X nm2 lt (srcs o l fl lt) = Y
 have hk : ∀ (e t : Int) (a : AggV), unf lt done j ⟨s.name, t, a⟩ = !filB lt done j s.name := fun e t a => rfl
 cases hb : filB lt done j s.name
 ·rw [if_neg (by simp)]
  unfold stepL
  split
  ·split
   ·rw [keep_add_lo (unf_key lt done j) hgY.1 (by rw [hk 0, hb]; rfl)]
   ·rfl
  ·rfl
 ·rw [if_pos rfl]
  unfold stepL
  split
  ·split
   ·rw [keep_add_hi (unf_key lt done j) hgY.1 (by rw [hk 0, hb]; rfl)]
   ·rfl
  ·rfl
end
end Go.Proofs.YtkfdgodngbinlaaGreatDoor
namespace Go.Proofs.YtkfdgodngbinlaaGreatDoor
set_option linter.all false
open Go.RowKit

structure ShOk (nm2 : ByteArray) (l lt : List TierV) (fl : List Int) (o : Int) (X : TiersX) (S : ShX) : Prop where
 name : S.name = nm2
 tiers : S.tiers = lt
 src : S.srcs = Proofs.YtkfdgodngbinlaaGreatDoor.srcs o l fl lt
 tabs : S.tabs = shT lt S.done (buildX X nm2 lt (Proofs.YtkfdgodngbinlaaGreatDoor.srcs o l fl lt)).tabs
 d0 : 0 ≤ S.done
 d1 : S.done ≤ stepsV lt
section
variable {nm nm2 : ByteArray} {l lt : List TierV} {fl : List Int} {o : Int} {lo : Nat} {W : World} {t s base : Nat} {X : TiersX} {S : ShX} {Ft F : Nat → Prop} {cc : Nat}
theorem steps_in (p2 : PolOk nm2 lt) : 0 ≤ fillsV lt ∧ stepsV lt = fillsV lt + 2 ∧ stepsV lt ≤ 42 := by
 have h8 : ∀ t ∈ lt, t.shards ≤ 8 := fun x hx => (check_mem p2.ck hx).2.2.2.2.2
 have hf := fillsV_in h8
 have h5 := p2.five
 have hne : lt ≠ [] := by rintro rfl; have := p2.pos; simp at this
 have : stepsV lt = fillsV lt + 2 := by simp [stepsV, hne]
 omega
theorem build_right (p : PolOk nm l) (p2 : PolOk nm2 lt) (hg : GoodX nm l fl X cc) (hfl : ∀ f ∈ fl, 0 ≤ f ∧ f ≤ 2199023255552) {j : Nat} {y : TierV} (hy : lt[j]? = some y) :
  goodL ((buildX X nm2 lt (srcs o l fl lt)).tabs.getD j []) ∧ ∀ r ∈ (buildX X nm2 lt (srcs o l fl lt)).tabs.getD j [], rightR y.every r = true ∧ fromV X.now lt (basesV X.now l fl (srcs o l fl lt) lt) j ≤ r.start := by
 rw [build_tab (List.getElem?_eq_some_iff.1 hy).1]
 obtain ⟨i, x, hx, hs, hd, _, _⟩ := build_src (o := o) (X := X) p.ck hg.now hfl p2.ck hy
 have hxX : X.tiers[i]? = some x := by rw [hg.tiers]; exact hx
 unfold buildL
 rw [hs, hy]
 simp only [Int.toNat_natCast]
 rw [hxX]
 simp only
 rw [hg.tiers, hg.floors]
 exact rollV_right
theorem ShOk.lens (h : ShOk nm2 l lt fl o X S) (p : PolOk nm l) (p2 : PolOk nm2 lt) (hg : GoodX nm l fl X cc) (hfl : ∀ f ∈ fl, 0 ≤ f ∧ f ≤ 2199023255552) : ∀ m ∈ S.tabs, m.length ≤ cc := by
 intro m hm
 rw [h.tabs] at hm
 unfold shT at hm
 obtain ⟨j, hj, rfl⟩ := List.mem_map.1 hm
 refine Nat.le_trans (List.length_filter_le _ _) ?_
 rcases getD_mem_or (L := (buildX X nm2 lt (srcs o l fl lt)).tabs) j with h3 | h3
 ·exact (build_goodX (o := o) p.ck hg hfl p2.ck).len _ h3
 ·rw [h3]; exact Nat.zero_le _
def ShX.go (S : ShX) (nm2 : ByteArray) (lt : List TierV) (Y : TiersX) : ShX := { S with done := S.done + 1, tabs := shT lt (S.done + 1) Y.tabs }
theorem ShOk.next (h : ShOk nm2 l lt fl o X S) (hd : S.done < stepsV lt) : ShOk nm2 l lt fl o X (S.go nm2 lt (buildX X nm2 lt (srcs o l fl lt))) :=
 ⟨h.name, h.tiers, h.src, rfl, by have := h.d0; show 0 ≤ S.done + 1; omega, by show S.done + 1 ≤ _; omega⟩
end
end Go.Proofs.YtkfdgodngbinlaaGreatDoor
namespace Go.Proofs.YtkfdgodngbinlaaGreatDoor
set_option linter.all false
open Go.RowKit

section
variable {nm nm2 : ByteArray} {l lt : List TierV} {fl : List Int} {o : Int} {X : TiersX} {S : ShX} {cc : Nat}
end
end Go.Proofs.YtkfdgodngbinlaaGreatDoor
