/- What stays true of tiers where records are loaded; steps of any kind. -/
import Derived.Test.YtbblmmneeafhgaaGreatRollLaw
import Derived.Test.YtbblmmneeafhgaaGreatTiersLoad
import Derived.Test.YtbblmmneeafhgaaGreatOpC
namespace Go.Proofs.YtbblmmneeafhgaaGreat
set_option linter.all false
open Go.RowKit

theorem addsV_grid {e : Int} : ∀ (rs : List RecV) {l : List RecV}, goodL l → (∀ r ∈ l, validB r.name = true ∧ 0 ≤ r.start ∧ onB r.start e = true) → ∀ y ∈ addsV e l rs, validB y.name = true ∧ 0 ≤ y.start ∧ onB y.start e = true
 | [], _, _, h => h
 | r :: rs, l, hg, h => addsV_grid (e := e) rs (addV_good hg r) (addV_grid hg.1 h r)
theorem GoodX.load {nm : ByteArray} {l : List TierV} {fl : List Int} {X : TiersX} {c : Nat} (h : GoodX nm l fl X c) (k : Nat) (rs : List RecV) : GoodX nm l fl (loadX X k rs) (c + rs.length) := by
 unfold loadX
 split
 ·rename_i x m hx hm
  have hkl : k < X.tabs.length := (List.getElem?_eq_some_iff.1 hm).1
  have hmD : X.tabs.getD k [] = m := by rw [List.getD_eq_getElem?_getD, hm]; rfl
  have hgm : goodL m := by rw [← hmD]; exact h.good k
  have hset : ∀ j, (X.tabs.set k (addsV x.every m (rs.filter (ldB X k)))).getD j [] = if j = k then addsV x.every m (rs.filter (ldB X k)) else X.tabs.getD j [] := fun j => by
   rw [List.getD_eq_getElem?_getD, List.getD_eq_getElem?_getD]
   by_cases e : j = k
   ·subst e
    rw [List.getElem?_set_self hkl, if_pos rfl]
    rfl
   ·rw [List.getElem?_set_ne (fun e' => e e'.symm), if_neg e]
  refine ⟨h.name, h.tiers, h.floors, h.now, by simpa using h.tlen, fun y hy => ?_, fun j => ?_, fun j x' hx' r hr => ?_⟩
  ·have hy : y ∈ X.tabs.set k (addsV x.every m (rs.filter (ldB X k))) := hy
   rcases List.mem_or_eq_of_mem_set hy with h1 | rfl
   ·have := h.len y h1; omega
   ·have h1 := addsV_len (every := x.every) (rs.filter (ldB X k)) hgm.1
    have h2 := h.len m (mem_of_get hm)
    have h3 : (rs.filter (ldB X k)).length ≤ rs.length := List.length_filter_le _ _
    omega
  ·show goodL ((X.tabs.set k _).getD j [])
   rw [hset]
   split
   ·exact addsV_good hgm
   ·exact h.good j
  ·have hr : r ∈ (X.tabs.set k (addsV x.every m (rs.filter (ldB X k)))).getD j [] := hr
   rw [hset] at hr
   split at hr
   ·rename_i e
    subst e
    have hxx : x = x' := by rw [h.tiers, hx'] at hx; exact (Option.some.inj hx).symm
    rw [← hxx]
    exact addsV_grid _ hgm (fun y hy => by rw [hxx]; exact h.grid j x' hx' y (by rw [hmD]; exact hy)) r hr
   ·exact h.grid j x' hx' r hr
 ·exact ⟨h.name, h.tiers, h.floors, h.now, h.tlen, fun m hm => Nat.le_trans (h.len m hm) (Nat.le_add_right _ _), h.good, h.grid⟩
theorem GoodX.more {nm : ByteArray} {l : List TierV} {fl : List Int} {X : TiersX} {c d : Nat} (h : GoodX nm l fl X c) (hd : c ≤ d) : GoodX nm l fl X d := ⟨h.name, h.tiers, h.floors, h.now, h.tlen, fun m hm => Nat.le_trans (h.len m hm) hd, h.good, h.grid⟩
def loadI (X : TiersX) (i : Int) (rs : List RecV) : TiersX := if 0 ≤ i ∧ i < (X.tiers.length : Int) then loadX X i.toNat rs else X
def loadM (X : TiersX) (i : Int) (rs : List RecV) : Nat := if 0 ≤ i ∧ i < (X.tiers.length : Int) then loadN X i.toNat rs else 0
theorem GoodX.loadI {nm : ByteArray} {l : List TierV} {fl : List Int} {X : TiersX} {c : Nat} (h : GoodX nm l fl X c) (i : Int) (rs : List RecV) : GoodX nm l fl (loadI X i rs) (c + rs.length) := by
 unfold Proofs.YtbblmmneeafhgaaGreat.loadI
 split
 ·exact h.load _ _
 ·exact h.more (Nat.le_add_right _ _)
def opX (X : TiersX) (o : OpC) : TiersX :=
 if o.kind = 1 then putX X o.sl else if o.kind = 2 then tickX X o.n else if o.kind = 3 then loadI X o.n o.ll else X
theorem GoodX.op {nm : ByteArray} {l : List TierV} {fl : List Int} {X : TiersX} {c : Nat} (h : GoodX nm l fl X c) (o : OpC) (ho : o.ll.length ≤ 20) : GoodX nm l fl (opX X o) (c + 20) := by
 unfold opX
 split
 ·exact (h.put _).more (by omega)
 ·split
  ·exact (h.tick _).more (by omega)
  ·split
   ·exact (h.loadI _ _).more (by omega)
   ·exact h.more (by omega)
end Go.Proofs.YtbblmmneeafhgaaGreat
