/- The plain law of what a tier has: of all samples that ever came, those of its buckets that are not below its reach. -/
import Derived.Test.YtbblmmneeafhgaaGreatGoodX
namespace Go.Proofs.YtbblmmneeafhgaaGreat
set_option linter.all false
open Go.RowKit

theorem findA_keep {so : RecV → Bool} (hso : ∀ x y, skey x y → so x = so y) {l : List RecV} {r : RecV} (hr : so r = false) : findA (keepT so l) r = findA l r := by
 unfold findA keepT
 rw [List.find?_filter]
 congr 2
 funext x
 by_cases h : skey x r
 ·simp [h, hso x r h, hr]
 ·simp [h]
theorem keep_ins_hi {so : RecV → Bool} (hso : ∀ x y, skey x y → so x = so y) {l : List RecV} (hs : Sorted l) {r : RecV} (hr : so r = false) : keepT so (insR mgM l r) = insR mgM (keepT so l) r := by
 have hk : Sorted (keepT so l) := hs.filter _
 refine Sorted.ext ((insR_sorted mgM hs).filter _) (insR_sorted mgM hk) (fun y => ?_)
 have e : newR mgM (keepT so l) r = newR mgM l r := by unfold newR; rw [findA_keep hso hr]
 have h1 : y ∈ keepT so (insR mgM l r) ↔ y ∈ insR mgM l r ∧ (!so y) = true := List.mem_filter
 have h2 : y ∈ keepT so l ↔ y ∈ l ∧ (!so y) = true := List.mem_filter
 show y ∈ keepT so (insR mgM l r) ↔ _
 rw [h1, mem_insR mgM hs, mem_insR mgM hk, e, h2]
 constructor
 ·rintro ⟨h | ⟨h, k⟩, k2⟩
  ·exact .inl h
  ·exact .inr ⟨⟨h, k2⟩, k⟩
 ·rintro (h | ⟨⟨h, k2⟩, k⟩)
  ·refine ⟨.inl h, ?_⟩
   rw [h, hso _ r (newR_key mgM l r), hr]
   rfl
  ·exact ⟨.inr ⟨h, k⟩, k2⟩
theorem keep_ins_lo {so : RecV → Bool} (hso : ∀ x y, skey x y → so x = so y) {l : List RecV} (hs : Sorted l) {r : RecV} (hr : so r = true) : keepT so (insR mgM l r) = keepT so l := by
 refine Sorted.ext ((insR_sorted mgM hs).filter _) (hs.filter _) (fun y => ?_)
 show y ∈ keepT so (insR mgM l r) ↔ y ∈ keepT so l
 have h1 : y ∈ keepT so (insR mgM l r) ↔ y ∈ insR mgM l r ∧ (!so y) = true := List.mem_filter
 have h2 : y ∈ keepT so l ↔ y ∈ l ∧ (!so y) = true := List.mem_filter
 rw [h1, mem_insR mgM hs, h2]
 constructor
 ·rintro ⟨h | ⟨h, k⟩, k2⟩
  ·rw [h, hso _ r (newR_key mgM l r), hr] at k2
   cases k2
  ·exact ⟨h, k2⟩
 ·rintro ⟨h, k2⟩
  refine ⟨.inr ⟨h, fun k => ?_⟩, k2⟩
  rw [hso _ r k, hr] at k2
  cases k2
theorem keep_add_hi {every : Int} {so : RecV → Bool} (hso : ∀ x y, skey x y → so x = so y) {l : List RecV} (hs : Sorted l) {r : RecV} (hr : so r = false) : keepT so (addV every l r) = addV every (keepT so l) r := by
 unfold addV
 split
 ·exact keep_ins_hi hso hs hr
 ·rfl
theorem keep_add_lo {every : Int} {so : RecV → Bool} (hso : ∀ x y, skey x y → so x = so y) {l : List RecV} (hs : Sorted l) {r : RecV} (hr : so r = true) : keepT so (addV every l r) = keepT so l := by
 unfold addV
 split
 ·exact keep_ins_lo hso hs hr
 ·rfl
theorem startBelow_key (b : Int) : ∀ x y, skey x y → startBelow b x = startBelow b y := fun x y h => by unfold startBelow; rw [h.2]
theorem fromI_nat {now : Int} {l : List TierV} {fl : List Int} {k : Nat} (hk : k < l.length) : fromI now l fl (k : Int) = fromV now l fl k := by
 unfold fromI
 rw [if_pos (by omega), Int.toNat_natCast]
theorem keep_step {X Y : TiersX} (ht : Y.tiers = X.tiers) {k : Nat} (hle : fromV X.now X.tiers X.floors k ≤ fromV Y.now Y.tiers Y.floors k) {l : List RecV} (hs : Sorted l) (s : SampV) :
  keepT (startBelow (fromV Y.now Y.tiers Y.floors k)) (stepL X s k l) = stepL Y s k (keepT (startBelow (fromV Y.now Y.tiers Y.floors k)) l) := by
 rw [ht] at hle ⊢
 unfold stepL startV
 rw [ht]
 simp only [Int.toNat_natCast]
 cases hx : X.tiers[k]? with
 | none => rfl
 | some x =>
  have hk : k < X.tiers.length := (List.getElem?_eq_some_iff.1 hx).1
  simp only
  by_cases h0 : 0 ≤ s.time
  ·have hc : 0 ≤ (k : Int) ∧ (k : Int) < (X.tiers.length : Int) ∧ 0 ≤ s.time := ⟨by omega, by omega, h0⟩
   simp only [if_pos hc, fromI_nat hk, decide_eq_true_eq]
   generalize fromV X.now X.tiers X.floors k = f at hle ⊢
   generalize fromV Y.now X.tiers Y.floors k = g at hle ⊢
   by_cases h1 : f ≤ floorV s.time x.every
   ·rw [if_pos h1]
    by_cases h2 : g ≤ floorV s.time x.every
    ·rw [if_pos h2]
     exact keep_add_hi (startBelow_key g) hs (by unfold startBelow; simp; omega)
    ·rw [if_neg h2]
     exact keep_add_lo (startBelow_key g) hs (by unfold startBelow; simp; omega)
   ·rw [if_neg h1, if_neg (by omega)]
  ·have hc : ¬ (0 ≤ (k : Int) ∧ (k : Int) < (X.tiers.length : Int) ∧ 0 ≤ s.time) := fun h => h0 h.2.2
   simp only [if_neg hc]
   simp
def viewG (X : TiersX) (k : Nat) (l : List RecV) (all : List SampV) : List RecV := all.foldl (fun l s => stepL X s k l) l
def viewL (X : TiersX) (k : Nat) (all : List SampV) : List RecV := viewG X k [] all
theorem viewG_app (X : TiersX) (k : Nat) (l : List RecV) (a b : List SampV) : viewG X k l (a ++ b) = viewG X k (viewG X k l a) b := by unfold viewG; rw [List.foldl_append]
theorem viewG_keep {X Y : TiersX} (ht : Y.tiers = X.tiers) {k : Nat} (hle : fromV X.now X.tiers X.floors k ≤ fromV Y.now Y.tiers Y.floors k) : ∀ {all : List SampV} {l : List RecV}, goodL l →
  keepT (startBelow (fromV Y.now Y.tiers Y.floors k)) (viewG X k l all) = viewG Y k (keepT (startBelow (fromV Y.now Y.tiers Y.floors k)) l) all
 | [], _, _ => rfl
 | s :: all, l, h => by
  show keepT _ (viewG X k (stepL X s k l) all) = viewG _ k (stepL _ s k _) all
  rw [viewG_keep ht hle (stepL_good h s k), keep_step ht hle h.1]
def ViewX (X : TiersX) (all : List SampV) : Prop := ∀ k, k < X.tiers.length → X.tabs.getD k [] = viewL X k all
theorem putsT_view {X : TiersX} {k : Nat} (hk : k < X.tiers.length) : ∀ {ss : List SampV} {tabs : List (List RecV)}, (putsT X tabs ss).getD k [] = viewG X k (tabs.getD k []) ss
 | [], _ => rfl
 | s :: ss, tabs => by
  rw [putsT_cons, putsT_view hk, addT_getD, if_pos hk]
  rfl
theorem ViewX.new (nm : ByteArray) (l : List TierV) (now : Int) (fl : List Int) : ViewX (newX nm l now fl) [] := fun k hk => by
 show (l.map fun _ => ([] : List RecV)).getD k [] = []
 rw [List.getD_eq_getElem?_getD, List.getElem?_map]
 cases l[k]? <;> rfl
theorem ViewX.put {X : TiersX} {all : List SampV} (h : ViewX X all) {s : List SampV} (hE : putE X s = 0) : ViewX (putX X s) (all ++ s) := by
 intro k hk
 unfold putX at hk ⊢
 rw [if_pos hE] at hk ⊢
 simp only at hk ⊢
 rw [putsT_view hk, h k hk]
 unfold viewL
 rw [viewG_app]
 rfl
theorem ViewX.tick {X : TiersX} {all : List SampV} (h : ViewX X all) (hl : ∀ t ∈ X.tiers, t.keep ≤ 1000000 ∧ t.every ≤ 1000000) (h0 : 0 ≤ X.now) (n : Int) : ViewX (tickX X n) all := by
 intro k hk
 unfold tickX at hk ⊢
 split
 ·rename_i hE
  rw [if_pos hE] at hk
  simp only at hk ⊢
  have hn : 0 ≤ n := by
   unfold tickE at hE
   split at hE
   ·omega
   ·omega
  rw [dropL_getD _ X k hk, h k hk]
  exact viewG_keep (X := X) (Y := ⟨X.now + n, X.name, X.tiers, X.floors, dropL (X.now + n) X⟩) rfl (from_mono (a := X.now) (b := X.now + n) hl h0 (by omega) k) good_nil
 ·rename_i hE
  rw [if_neg hE] at hk
  exact h k hk
end Go.Proofs.YtbblmmneeafhgaaGreat
namespace Go.Proofs.YtbblmmneeafhgaaGreat
set_option linter.all false
open Go.RowKit

theorem addsV_good {e : Int} : ∀ {rs : List RecV} {l : List RecV}, goodL l → goodL (addsV e l rs)
 | [], _, h => h
 | r :: rs, _, h => addsV_good (rs := rs) (addV_good h r)
theorem addV_from {e fr : Int} {l : List RecV} (hg : goodL l) (h : ∀ r ∈ l, fr ≤ r.start) {r : RecV} (hr : fr ≤ r.start) : ∀ y ∈ addV e l r, fr ≤ y.start := by
 intro y hy
 unfold addV at hy
 split at hy
 ·rcases (mem_insR mgM hg.1 y).1 hy with rfl | ⟨hy, _⟩
  ·exact hr
  ·exact h y hy
 ·exact h y hy
end Go.Proofs.YtbblmmneeafhgaaGreat
