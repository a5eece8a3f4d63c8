/- The plain law of what changes nothing: each record stands at its tier's reach or above it. -/
import Derived.Test.YtkfdgodngbinlaaGreatDoorShA
import Derived.Test.YtkfdgodngbinlaaGreatDoorRollLaw
namespace Go.Proofs.YtkfdgodngbinlaaGreatDoor
set_option linter.all false
open Go.RowKit

def LowX (X : TiersX) : Prop := ∀ (k : Nat) (r : RecV), r ∈ X.tabs.getD k [] → fromV X.now X.tiers X.floors k ≤ r.start
theorem getD_nil_new {nm : ByteArray} {now : Int} {l : List TierV} {fl : List Int} (k : Nat) : (newX nm l now fl).tabs.getD k [] = [] := by
 show (l.map fun _ => []).getD k [] = []
 rw [List.getD_eq_getElem?_getD, List.getElem?_map]
 cases l[k]? <;> rfl
theorem LowX.new {nm : ByteArray} {now : Int} {l : List TierV} {fl : List Int} : LowX (newX nm l now fl) := fun k r hr => by
 rw [getD_nil_new] at hr
 cases hr
theorem addsV_from {e fr : Int} : ∀ {rs l : List RecV}, goodL l → (∀ r ∈ l, fr ≤ r.start) → (∀ r ∈ rs, fr ≤ r.start) → ∀ y ∈ addsV e l rs, fr ≤ y.start
 | [], _, _, h, _ => h
 | r :: rs, l, hg, h, hr => addsV_from (rs := rs) (l := addV e l r) (addV_good hg r) (addV_from hg h (hr r (by simp))) (fun y hy => hr y (List.mem_cons_of_mem _ hy))
theorem step_low {X : TiersX} {s : SampV} {k : Nat} {m : List RecV} (hg : goodL m) (h : ∀ r ∈ m, fromV X.now X.tiers X.floors k ≤ r.start) : goodL (stepL X s k m) ∧ ∀ r ∈ stepL X s k m, fromV X.now X.tiers X.floors k ≤ r.start := by
 unfold stepL
 split
 ·rename_i x hx
  split
  ·rename_i hs
   refine ⟨addV_good hg _, addV_from hg h ?_⟩
   have hk : k < X.tiers.length := (List.getElem?_eq_some_iff.1 hx).1
   unfold startV at hs ⊢
   split at hs
   ·rename_i hc
    rw [if_pos hc]
    simp only [Int.toNat_natCast, hx, decide_eq_true_eq, fromI_nat hk] at hs ⊢
    exact hs
   ·cases hs
  ·exact ⟨hg, h⟩
 ·exact ⟨hg, h⟩
theorem addT_low {X : TiersX} {s : SampV} {tabs : List (List RecV)} (hg : ∀ k, goodL (tabs.getD k [])) (h : ∀ (k : Nat) (r : RecV), r ∈ tabs.getD k [] → fromV X.now X.tiers X.floors k ≤ r.start) : (∀ k, goodL ((addT X tabs s).getD k [])) ∧ ∀ (k : Nat) (r : RecV), r ∈ (addT X tabs s).getD k [] → fromV X.now X.tiers X.floors k ≤ r.start := by
 have hk : ∀ k, (addT X tabs s).getD k [] = if k < X.tiers.length then stepL X s k (tabs.getD k []) else [] := fun k => by
  unfold addT
  rw [List.getD_eq_getElem?_getD, List.getElem?_map]
  by_cases hk : k < X.tiers.length
  ·rw [List.getElem?_range hk, if_pos hk]; rfl
  ·rw [List.getElem?_eq_none (by simpa using hk), if_neg hk]; rfl
 refine ⟨fun k => ?_, fun k r hr => ?_⟩
 ·rw [hk k]
  split
  ·exact (step_low (hg k) (h k)).1
  ·exact good_nil
 ·rw [hk k] at hr
  split at hr
  ·exact (step_low (hg k) (h k)).2 r hr
  ·cases hr
theorem putsT_low {X : TiersX} : ∀ {s : List SampV} {tabs : List (List RecV)}, (∀ k, goodL (tabs.getD k [])) → (∀ (k : Nat) (r : RecV), r ∈ tabs.getD k [] → fromV X.now X.tiers X.floors k ≤ r.start) → ∀ (k : Nat) (r : RecV), r ∈ (putsT X tabs s).getD k [] → fromV X.now X.tiers X.floors k ≤ r.start
 | [], _, _, h => h
 | a :: s, tabs, hg, h => putsT_low (s := s) (tabs := addT X tabs a) (addT_low hg h).1 (addT_low hg h).2
section
variable {nm : ByteArray} {l : List TierV} {fl : List Int} {X : TiersX} {c : Nat}
theorem LowX.put (h : LowX X) (hg : GoodX nm l fl X c) (s : List SampV) : LowX (putX X s) := by
 unfold putX
 split
 ·exact putsT_low hg.good h
 ·exact h
theorem LowX.tick (h : LowX X) (n : Int) : LowX (tickX X n) := by
 unfold tickX
 split
 ·intro k r hr
  have hk : k < X.tiers.length := by
   by_cases hk : k < X.tiers.length
   ·exact hk
   ·exfalso
    have e : (dropL (X.now + n) X).getD k [] = [] := by
     unfold dropL
     rw [List.getD_eq_getElem?_getD, List.getElem?_eq_none (by simpa using hk)]
     rfl
    have hr' : r ∈ (dropL (X.now + n) X).getD k [] := hr
    rw [e] at hr'
    cases hr'
  have hr' : r ∈ (dropL (X.now + n) X).getD k [] := hr
  rw [dropL_getD _ _ _ hk] at hr'
  have := (List.mem_filter.1 hr').2
  unfold startBelow at this
  simp only [Bool.not_eq_true', decide_eq_false_iff_not] at this
  show fromV (X.now + n) X.tiers X.floors k ≤ r.start
  omega
 ·exact h
theorem LowX.load (h : LowX X) (hg : GoodX nm l fl X c) (i : Int) (rs : List RecV) : LowX (loadI X i rs) := by
 unfold loadI
 split
 ·unfold loadX
  split
  ·rename_i x m hx hm
   intro k r hr
   have hr' : r ∈ (X.tabs.set i.toNat (addsV x.every m (rs.filter (ldB X i.toNat)))).getD k [] := hr
   show fromV X.now X.tiers X.floors k ≤ r.start
   by_cases e : i.toNat = k
   ·subst e
    have hl : i.toNat < X.tabs.length := (List.getElem?_eq_some_iff.1 hm).1
    rw [List.getD_eq_getElem?_getD, List.getElem?_set_self hl] at hr'
    have hmd : X.tabs.getD i.toNat [] = m := by rw [List.getD_eq_getElem?_getD, hm]; rfl
    have hgm := hg.good i.toNat
    have hlm := h i.toNat
    rw [hmd] at hgm hlm
    refine addsV_from hgm hlm (fun y hy => ?_) r hr'
    have := (List.mem_filter.1 hy).2
    unfold ldB at this
    exact of_decide_eq_true this
   ·rw [List.getD_eq_getElem?_getD, List.getElem?_set_ne e, ← List.getD_eq_getElem?_getD] at hr'
    exact h k r hr'
  ·exact h
 ·exact h
end
end Go.Proofs.YtkfdgodngbinlaaGreatDoor
