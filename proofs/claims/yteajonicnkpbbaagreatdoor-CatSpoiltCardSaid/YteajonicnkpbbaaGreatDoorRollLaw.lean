/- The plain law of what a tier has: of all samples that ever came, those of its buckets that are not below its reach. -/
import Derived.Test.YteajonicnkpbbaaGreatDoorGoodX
namespace Go.Proofs.YteajonicnkpbbaaGreatDoor
set_option linter.all false
open Go.RowKit

theorem fromI_nat {now : Int} {l : List TierV} {fl : List Int} {k : Nat} (hk : k < l.length) : fromI now l fl (k : Int) = fromV now l fl k := by
 unfold fromI
 rw [if_pos (by omega), Int.toNat_natCast]
def viewG (X : TiersX) (k : Nat) (l : List RecV) (all : List SampV) : List RecV := all.foldl (fun l s => stepL X s k l) l
def viewL (X : TiersX) (k : Nat) (all : List SampV) : List RecV := viewG X k [] all
theorem viewG_app (X : TiersX) (k : Nat) (l : List RecV) (a b : List SampV) : viewG X k l (a ++ b) = viewG X k (viewG X k l a) b := by unfold viewG; rw [List.foldl_append]
def ViewX (X : TiersX) (all : List SampV) : Prop := ∀ k, k < X.tiers.length → X.tabs.getD k [] = viewL X k all
theorem putsT_view {X : TiersX} {k : Nat} (hk : k < X.tiers.length) : ∀ {ss : List SampV} {tabs : List (List RecV)}, (putsT X tabs ss).getD k [] = viewG X k (tabs.getD k []) ss
 | [], _ => rfl
 | s :: ss, tabs => by
  rw [putsT_cons, putsT_view hk, addT_getD, if_pos hk]
  rfl
theorem ViewX.new (nm : ByteArray) (l : List TierV) (now : Int) (fl : List Int) : ViewX (newX nm l now fl) [] := fun k hk => by
 show (l.map fun _ => ([] : List RecV)).getD k [] = []
 rw [List.getD_eq_getElem?_getD, List.getElem?_map]
 cases l[k]? <;> rfl
theorem ViewX.put {X : TiersX} {all : List SampV} (h : ViewX X all) {s : List SampV} (hE : putE X s = 0) : ViewX (putX X s) (all ++ s) := by
 intro k hk
 unfold putX at hk ⊢
 rw [if_pos hE] at hk ⊢
 simp only at hk ⊢
 rw [putsT_view hk, h k hk]
 unfold viewL
 rw [viewG_app]
 rfl
end Go.Proofs.YteajonicnkpbbaaGreatDoor
namespace Go.Proofs.YteajonicnkpbbaaGreatDoor
set_option linter.all false
open Go.RowKit

def rollR (e fr : Int) (acc : List RecV) (r : RecV) : List RecV := if fr ≤ floorV r.start e then addV e acc ⟨r.name, floorV r.start e, r.agg⟩ else acc
def rollsR (e fr : Int) (acc l : List RecV) : List RecV := l.foldl (rollR e fr) acc
theorem rolls_eq (e fr : Int) : ∀ (l acc : List RecV), addsV e acc (rollL e fr l) = rollsR e fr acc l
 | [], _ => rfl
 | x :: l, acc => by
  show _ = rollsR e fr (rollR e fr acc x) l
  rw [← rolls_eq e fr l]
  unfold rollL rollR
  rw [List.map_cons]
  by_cases h : fr ≤ floorV x.start e
  ·rw [List.filter_cons_of_pos (by simpa using h), if_pos h]
   rfl
  ·rw [List.filter_cons_of_neg (by simpa using h), if_neg h]
theorem rollR_good {e fr : Int} {acc : List RecV} (h : goodL acc) (r : RecV) : goodL (rollR e fr acc r) := by
 unfold rollR
 split
 ·exact addV_good h _
 ·exact h
theorem rollsR_good {e fr : Int} : ∀ {l acc : List RecV}, goodL acc → goodL (rollsR e fr acc l)
 | [], _, h => h
 | x :: l, _, h => rollsR_good (l := l) (rollR_good h x)
theorem addV_right {e : Int} {l : List RecV} (hg : goodL l) (h : ∀ r ∈ l, rightR e r = true) (r : RecV) : ∀ y ∈ addV e l r, rightR e y = true := by
 intro y hy
 unfold addV at hy
 split at hy
 ·rename_i hr
  rcases (mem_insR mgM hg.1 y).1 hy with rfl | ⟨hy, _⟩
  ·unfold rightR at hr ⊢
   simp only [Bool.and_eq_true] at hr ⊢
   exact ⟨hr.1, mgM_ok (findA_ok hg.2 r) hr.2⟩
  ·exact h y hy
 ·exact h y hy
theorem addV_from {e fr : Int} {l : List RecV} (hg : goodL l) (h : ∀ r ∈ l, fr ≤ r.start) {r : RecV} (hr : fr ≤ r.start) : ∀ y ∈ addV e l r, fr ≤ y.start := by
 intro y hy
 unfold addV at hy
 split at hy
 ·rcases (mem_insR mgM hg.1 y).1 hy with rfl | ⟨hy, _⟩
  ·exact hr
  ·exact h y hy
 ·exact h y hy
theorem rollsR_right {e fr : Int} : ∀ {l acc : List RecV}, goodL acc → (∀ r ∈ acc, rightR e r = true ∧ fr ≤ r.start) → ∀ r ∈ rollsR e fr acc l, rightR e r = true ∧ fr ≤ r.start
 | [], _, _, h => h
 | x :: l, acc, hg, h => rollsR_right (l := l) (rollR_good hg x) (fun r hr => by
  unfold rollR at hr
  split at hr
  ·rename_i hf
   exact ⟨addV_right hg (fun y hy => (h y hy).1) _ r hr, addV_from hg (fun y hy => (h y hy).2) hf r hr⟩
  ·exact h r hr)
theorem rollV_right {e1 e fr : Int} {l : List RecV} : goodL (rollV e1 e fr l) ∧ ∀ r ∈ rollV e1 e fr l, rightR e r = true ∧ fr ≤ r.start := by
 unfold rollV
 split
 ·rw [rolls_eq]
  exact ⟨rollsR_good good_nil, rollsR_right good_nil (fun r hr => by cases hr)⟩
 ·exact ⟨good_nil, fun r hr => by cases hr⟩
end Go.Proofs.YteajonicnkpbbaaGreatDoor
