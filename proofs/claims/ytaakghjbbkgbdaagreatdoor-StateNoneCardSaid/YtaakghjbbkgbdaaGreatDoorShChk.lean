/- The plain law of a shadow: what it has is what is built, of the shards that are filled. -/
import Derived.Test.YtaakghjbbkgbdaaGreatDoorPlanBuild
import Derived.Test.YtaakghjbbkgbdaaGreatDoorRollLaw
import Derived.Test.YtaakghjbbkgbdaaGreatDoorShNext
import Derived.Test.YtaakghjbbkgbdaaGreatDoorFills
import Derived.Test.YtaakghjbbkgbdaaGreatDoorShStepU
import Derived.Test.YtaakghjbbkgbdaaGreatDoorRTAdd
namespace Go.Proofs.YtaakghjbbkgbdaaGreatDoor
set_option linter.all false
open Go.RowKit

def filB (lt : List TierV) (done : Int) (j : Nat) (s : ByteArray) : Bool :=
 match lt[j]? with
 | some y => decide (shardV s y.shards + fillsV (lt.take j) < done)
 | none => false
def unf (lt : List TierV) (done : Int) (j : Nat) (r : RecV) : Bool := !filB lt done j r.name
theorem unf_key (lt : List TierV) (done : Int) (j : Nat) : ∀ x y, skey x y → unf lt done j x = unf lt done j y := fun x y h => by unfold unf; rw [h.1]
def shL (lt : List TierV) (done : Int) (Y : List (List RecV)) (j : Nat) : List RecV := keepT (unf lt done j) (Y.getD j [])
def shT (lt : List TierV) (done : Int) (Y : List (List RecV)) : List (List RecV) := (List.range lt.length).map (shL lt done Y)
theorem shT_len (lt : List TierV) (done : Int) (Y : List (List RecV)) : (shT lt done Y).length = lt.length := by unfold shT; simp
theorem shT_get {lt : List TierV} {done : Int} {Y : List (List RecV)} {j : Nat} (hj : j < lt.length) : (shT lt done Y)[j]? = some (shL lt done Y j) := by unfold shT; rw [List.getElem?_map, List.getElem?_range hj]; rfl
theorem shT_getD {lt : List TierV} {done : Int} {Y : List (List RecV)} {j : Nat} (hj : j < lt.length) : (shT lt done Y).getD j [] = shL lt done Y j := by rw [List.getD_eq_getElem?_getD, shT_get hj]; rfl
theorem mem_keepT {so : RecV → Bool} {l : List RecV} {r : RecV} : r ∈ keepT so l ↔ r ∈ l ∧ so r = false := by unfold keepT; rw [List.mem_filter]; simp
theorem fills_le {lt : List TierV} (j : Nat) : 0 ≤ fillsV (lt.take j) ∧ fillsV (lt.take j) ≤ fillsV lt := by
 constructor
 ·have := fills_mono (l := lt) 0 j (Nat.zero_le _)
  simpa [fillsV] using this
 ·have h := fills_mono (l := lt) j (max j lt.length) (by omega)
  rwa [List.take_of_length_le (by omega : lt.length ≤ max j lt.length)] at h
theorem shard_lt {s : ByteArray} {M : Int} (h : 1 ≤ M) : 0 ≤ shardV s M ∧ shardV s M < M := by
 obtain ⟨j, e, hj⟩ := shardV_in2 s M h
 omega
theorem adds_mem {e : Int} : ∀ {l acc : List RecV}, goodL acc → Sorted l → (∀ r ∈ l, rightR e r = true) → (∀ r ∈ l, ∀ x ∈ acc, ¬ skey x r) → ∀ y, y ∈ addsV e acc l ↔ y ∈ acc ∨ y ∈ l
 | [], acc, _, _, _, _, y => by simp [addsV]
 | r :: l, acc, hg, hs, hr, hd, y => by
  have h1 := hr r (by simp)
  have ha : aggOk r.agg = true := by unfold rightR at h1; simp only [Bool.and_eq_true] at h1; exact h1.2
  have hm : ∀ z, z ∈ addV e acc r ↔ z = r ∨ z ∈ acc := fun z => by
   unfold addV
   rw [if_pos h1, mem_insR mgM hg.1]
   have hf : findA acc r = none := findA_none (hd r (by simp))
   have hn : newR mgM acc r = r := by
    unfold newR
    rw [hf, mgM_none ha]
   rw [hn]
   constructor
   ·rintro (h | h)
    ·exact .inl h
    ·exact .inr h.1
   ·rintro (h | h)
    ·exact .inl h
    ·exact .inr ⟨h, hd r (by simp) z h⟩
  show y ∈ addsV e (addV e acc r) l ↔ _
  rw [adds_mem (addV_good hg r) hs.tail (fun z hz => hr z (List.mem_cons_of_mem _ hz)) (fun z hz x hx hk => by
   rcases (hm x).1 hx with rfl | hx
   ·have hlt := (List.pairwise_cons.1 hs).1 z hz
    exact absurd hk (klt_ne hlt)
   ·exact hd z (List.mem_cons_of_mem _ hz) x hx hk), hm]
  simp only [List.mem_cons]
  constructor
  ·rintro ((h | h) | h)
   ·exact .inr (.inl h)
   ·exact .inl h
   ·exact .inr (.inr h)
  ·rintro (h | h | h)
   ·exact .inl (.inr h)
   ·exact .inl (.inl h)
   ·exact .inr h
section
variable {nm2 : ByteArray} {lt : List TierV} {Y : List (List RecV)} {done : Int}
theorem shT_zero : shT lt 0 Y = lt.map fun _ => [] := by
 unfold shT
 apply List.ext_getElem?
 intro j
 rw [List.getElem?_map, List.getElem?_map]
 by_cases hj : j < lt.length
 ·rw [List.getElem?_range hj, List.getElem?_eq_getElem hj]
  simp only [Option.map_some]
  congr 1
  unfold shL keepT
  rw [List.filter_eq_nil_iff]
  intro r _
  unfold unf filB
  have h1 := (shardV_in r.name lt[j].shards).1
  have h2 := (fills_le (lt := lt) j).1
  simp only [List.getElem?_eq_getElem hj]
  rw [decide_eq_false (by omega)]
  simp
 ·rw [List.getElem?_eq_none (by simpa using hj), List.getElem?_eq_none (by omega)]
  rfl
theorem shT_full (p2 : checkB nm2 lt = true) (hl : Y.length = lt.length) (hd : fillsV lt ≤ done) : shT lt done Y = Y := by
 unfold shT
 apply List.ext_getElem?
 intro j
 rw [List.getElem?_map]
 by_cases hj : j < lt.length
 ·rw [List.getElem?_range hj]
  simp only [Option.map_some]
  rw [List.getElem?_eq_getElem (by omega : j < Y.length)]
  congr 1
  unfold shL
  have e : Y.getD j [] = Y[j] := by rw [List.getD_eq_getElem?_getD, List.getElem?_eq_getElem (by omega : j < Y.length)]; rfl
  rw [e]
  unfold keepT
  rw [List.filter_eq_self]
  intro r _
  unfold unf filB
  simp only [List.getElem?_eq_getElem hj]
  have hm := check_mem p2 (List.getElem_mem hj)
  have h1 := shard_lt (s := r.name) hm.2.2.2.2.1
  have h2 := fills_snoc (l := lt) (List.getElem?_eq_getElem hj)
  have h3 := (fills_le (lt := lt) (j + 1)).2
  simp only [Bool.not_not, decide_eq_true_eq]
  omega
 ·rw [List.getElem?_eq_none (by simpa using hj), List.getElem?_eq_none (by omega)]
  rfl
theorem shT_fill (p2 : checkB nm2 lt = true) {j : Nat} {y : TierV} {k : Int} (hy : lt[j]? = some y) (hk : 0 ≤ k ∧ k < y.shards) (hd : done = fillsV (lt.take j) + k) (hg : goodL (Y.getD j [])) (hr : ∀ r ∈ Y.getD j [], rightR y.every r = true) :
  (shT lt done Y).set j (addsV y.every (keepT (inS k y.shards) (shL lt done Y j)) (keepT (notS k y.shards) (Y.getD j []))) = shT lt (done + 1) Y := by
 have hj : j < lt.length := (List.getElem?_eq_some_iff.1 hy).1
 apply List.ext_getElem?
 intro i
 by_cases e : j = i
 ·subst e
  rw [List.getElem?_set_self (by rw [shT_len]; exact hj), shT_get hj]
  congr 1
  have hacc : goodL (keepT (inS k y.shards) (shL lt done Y j)) := ⟨(hg.1.filter _).filter _, fun r h => hg.2 r (List.mem_filter.1 (List.mem_filter.1 h).1).1⟩
  refine Sorted.ext (addsV_sorted _ hacc.1) (hg.1.filter _) (fun r => ?_)
  rw [adds_mem (l := keepT (notS k y.shards) (Y.getD j [])) hacc (hg.1.filter _) (fun z hz => hr z (List.mem_filter.1 hz).1) (fun z hz x hx hkk => by
   have h1 := (mem_keepT.1 hx).2
   have h2 := (mem_keepT.1 hz).2
   unfold inS at h1
   unfold notS at h2
   rw [hkk.1] at h1
   rw [h1] at h2
   cases h2)]
  show _ ↔ r ∈ shL lt (done + 1) Y j
  unfold shL
  simp only [mem_keepT]
  unfold inS notS unf filB
  simp only [hy, decide_eq_false_iff_not, Bool.not_eq_false', decide_eq_true_eq]
  constructor
  ·rintro (⟨⟨h1, h2⟩, h3⟩ | ⟨h1, h2⟩)
   ·exact ⟨h1, by omega⟩
   ·exact ⟨h1, by omega⟩
  ·rintro ⟨h1, h2⟩
   by_cases h3 : shardV r.name y.shards = k
   ·exact .inr ⟨h1, h3⟩
   ·exact .inl ⟨⟨h1, by omega⟩, h3⟩
 ·rw [List.getElem?_set_ne e]
  by_cases hi : i < lt.length
  ·rw [shT_get hi, shT_get hi]
   congr 1
   unfold shL keepT
   refine List.filter_congr (fun r _ => ?_)
   unfold unf filB
   simp only [List.getElem?_eq_getElem hi]
   have hm := check_mem p2 (List.getElem_mem hi)
   have h1 := shard_lt (s := r.name) hm.2.2.2.2.1
   have h2 := fills_snoc (l := lt) (List.getElem?_eq_getElem hi)
   have h3 := fills_snoc hy
   congr 2
   rw [decide_eq_decide]
   rcases Nat.lt_or_gt_of_ne e with h4 | h4
   ·have h5 := fills_mono (l := lt) (j + 1) i h4
    omega
   ·have h5 := fills_mono (l := lt) (i + 1) j h4
    omega
  ·rw [List.getElem?_eq_none (by rw [shT_len]; omega), List.getElem?_eq_none (by rw [shT_len]; omega)]
theorem at_what (p2 : checkB nm2 lt = true) (h0 : 0 ≤ done) (h1 : done < stepsV lt) :
  (∃ (j : Nat) (y : TierV) (k : Int), lt[j]? = some y ∧ atV lt done = ((1, (j : Int), k), true) ∧ 0 ≤ k ∧ k < y.shards ∧ done = fillsV (lt.take j) + k ∧ done < fillsV lt) ∨
  (atV lt done = ((2, 0, 0), true) ∧ done = fillsV lt) ∨ (atV lt done = ((3, 0, 0), true) ∧ done = fillsV lt + 1) := by
 have hne : lt ≠ [] := by rintro rfl; have := check_len p2; simp at this
 have hst : stepsV lt = fillsV lt + 2 := by simp [stepsV, hne]
 have hl : ∀ t ∈ lt, 0 ≤ t.shards := fun t ht => by have := check_mem p2 ht; omega
 by_cases hlt : done < fillsV lt
 ·obtain ⟨j, y, hy, e, e0, e1⟩ := atGo_spec lt hl 0 done h0 hlt
  refine .inl ⟨j, y, done - fillsV (lt.take j), hy, ?_, e0, e1, by omega, hlt⟩
  unfold atV
  rw [if_neg (by omega), e]
  simp
 ·have hge : ∀ (l : List TierV) (i : Nat) (k : Int), (∀ t ∈ l, 0 ≤ t.shards) → fillsV l ≤ k → atGo k i l = if k - fillsV l = 0 then (2, 0, 0) else (3, 0, 0) := by
   intro l
   induction l with
   | nil => intro i k _ _; simp [atGo, fillsV]
   | cons a t ih =>
    intro i k hh hk
    have hf : fillsV (a :: t) = max a.shards 0 + fillsV t := by simp [fillsV]
    have ha := hh a (by simp)
    have ht0 : 0 ≤ fillsV t := by have := (fills_le (lt := t) t.length).1; rwa [List.take_length] at this
    unfold atGo
    rw [if_neg (by omega), ih (i + 1) (k - max a.shards 0) (fun x hx => hh x (List.mem_cons_of_mem _ hx)) (by omega), hf]
    have : k - max a.shards 0 - fillsV t = k - (max a.shards 0 + fillsV t) := by omega
    rw [this]
  have hg := hge lt 0 done hl (by omega)
  by_cases hz : done - fillsV lt = 0
  ·refine .inr (.inl ⟨?_, by omega⟩)
   unfold atV
   rw [if_neg (by omega), hg, if_pos hz]
  ·refine .inr (.inr ⟨?_, by omega⟩)
   unfold atV
   rw [if_neg (by omega), hg, if_neg hz]
end
section
variable {nm nm2 : ByteArray} {l lt : List TierV} {X : TiersX} {fl : List Int} {o : Int} {c : Nat}
def noteL (Y : TiersX) (done : Int) (s : SampV) (j : Nat) (m : List RecV) : List RecV :=
 match Y.tiers[j]? with
 | some y => if filB Y.tiers done j s.name && decide (fromV Y.now Y.tiers Y.floors j ≤ floorV s.time y.every) then addV y.every m ⟨s.name, floorV s.time y.every, aggOne s.value⟩ else m
 | none => m
def noteT (Y : TiersX) (done : Int) (tabs : List (List RecV)) (s : SampV) : List (List RecV) := (List.range Y.tiers.length).map fun j => noteL Y done s j (tabs.getD j [])
theorem noteL_step {Y : TiersX} {done : Int} {s : SampV} {j : Nat} {m : List RecV} (h0 : 0 ≤ s.time) (hj : j < Y.tiers.length) : noteL Y done s j m = if filB Y.tiers done j s.name then stepL Y s j m else m := by
 unfold noteL stepL startV
 rw [if_pos (⟨by omega, by omega, h0⟩ : 0 ≤ (j : Int) ∧ (j : Int) < (Y.tiers.length : Int) ∧ 0 ≤ s.time)]
 simp only [Int.toNat_natCast, fromI_nat hj, List.getElem?_eq_getElem hj]
 cases filB Y.tiers done j s.name <;> simp
theorem build_put (p : checkB nm l = true) (hg : GoodX nm l fl X c) (hfl : ∀ f ∈ fl, 0 ≤ f ∧ f ≤ 2199023255552) (p2 : checkB nm2 lt = true) {s : SampV} (hE : putE X [s] = 0) {j : Nat} (hj : j < lt.length) :
  (buildX (putX X [s]) nm2 lt (srcs o l fl lt)).tabs.getD j [] = stepL (buildX X nm2 lt (srcs o l fl lt)) s j ((buildX X nm2 lt (srcs o l fl lt)).tabs.getD j []) := by
 have hn := hg.now
 have hX : putX X [s] = { X with tabs := addT X X.tabs s } := by unfold putX; rw [if_pos hE]; rfl
 rw [hX, build_tab hj, build_tab hj]
 have hy : lt[j]? = some lt[j] := List.getElem?_eq_getElem hj
 obtain ⟨i, x, hx, hs, hd, hf, _⟩ := build_src (o := o) (X := X) p hn hfl p2 hy
 have hi := (List.getElem?_eq_some_iff.1 hx).1
 have hxX : X.tiers[i]? = some x := by rw [hg.tiers]; exact hx
 have hy1 := check_mem p2 (mem_of_get hy)
 unfold buildL
 rw [hs, hy]
 simp only [Int.toNat_natCast]
 rw [hxX]
 simp only
 rw [addT_getD, if_pos (by rw [hg.tiers]; exact hi)]
 unfold rollV
 simp only [if_pos hd, rolls_eq]
 exact roll_step (X := X) (Y := buildX X nm2 lt (srcs o l fl lt)) hxX hy (divides_dvd hd).1 hy1.1 (divides_dvd hd).2 (by rw [hg.tiers, hg.floors]; show _ ≤ fromV X.now lt (basesV X.now X.tiers X.floors _ lt) j; rw [hg.tiers, hg.floors]; exact hf) (hg.good i) s
theorem shT_note (p : checkB nm l = true) (hg : GoodX nm l fl X c) (hfl : ∀ f ∈ fl, 0 ≤ f ∧ f ≤ 2199023255552) (p2 : checkB nm2 lt = true) {s : SampV} (hE : putE X [s] = 0) (h0 : 0 ≤ s.time) (done : Int) :
  noteT (buildX (putX X [s]) nm2 lt (srcs o l fl lt)) done (shT lt done (buildX X nm2 lt (srcs o l fl lt)).tabs) s = shT lt done (buildX (putX X [s]) nm2 lt (srcs o l fl lt)).tabs := by
 have hX : putX X [s] = { X with tabs := addT X X.tabs s } := by unfold putX; rw [if_pos hE]; rfl
 unfold noteT
 rw [show (buildX (putX X [s]) nm2 lt (srcs o l fl lt)).tiers = lt from rfl]
 conv => rhs; unfold shT
 refine List.map_congr_left (fun j hj => ?_)
 have hj := List.mem_range.1 hj
 rw [shT_getD hj]
 unfold shL
 rw [build_put p hg hfl p2 hE hj]
 have hgY : goodL ((buildX X nm2 lt (srcs o l fl lt)).tabs.getD j []) := (build_goodX p hg hfl p2).good j
 have e1 : noteL (buildX (putX X [s]) nm2 lt (srcs o l fl lt)) done s j (keepT (unf lt done j) ((buildX X nm2 lt (srcs o l fl lt)).tabs.getD j [])) = noteL (buildX X nm2 lt (srcs o l fl lt)) done s j (keepT (unf lt done j) ((buildX X nm2 lt (srcs o l fl lt)).tabs.getD j [])) := by rw [hX]; rfl
 rw [e1, noteL_step h0 hj]
 show (if filB lt done j s.name then _ else _) = _
 generalize (buildX X nm2 lt (srcs o l fl lt)).tabs.getD j [] = m at hgY ⊢
 generalize buildX X nm2 lt (srcs o l fl lt) = Y
 have hk : ∀ (e t : Int) (a : AggV), unf lt done j ⟨s.name, t, a⟩ = !filB lt done j s.name := fun e t a => rfl
 cases hb : filB lt done j s.name
 ·rw [if_neg (by simp)]
  unfold stepL
  split
  ·split
   ·rw [keep_add_lo (unf_key lt done j) hgY.1 (by rw [hk 0, hb]; rfl)]
   ·rfl
  ·rfl
 ·rw [if_pos rfl]
  unfold stepL
  split
  ·split
   ·rw [keep_add_hi (unf_key lt done j) hgY.1 (by rw [hk 0, hb]; rfl)]
   ·rfl
  ·rfl
end
end Go.Proofs.YtaakghjbbkgbdaaGreatDoor
namespace Go.Proofs.YtaakghjbbkgbdaaGreatDoor
set_option linter.all false
open Go.RowKit

structure ShOk (nm2 : ByteArray) (l lt : List TierV) (fl : List Int) (o : Int) (X : TiersX) (S : ShX) : Prop where
 name : S.name = nm2
 tiers : S.tiers = lt
 src : S.srcs = Proofs.YtaakghjbbkgbdaaGreatDoor.srcs o l fl lt
 tabs : S.tabs = shT lt S.done (buildX X nm2 lt (Proofs.YtaakghjbbkgbdaaGreatDoor.srcs o l fl lt)).tabs
 d0 : 0 ≤ S.done
 d1 : S.done ≤ stepsV lt
section
variable {nm nm2 : ByteArray} {l lt : List TierV} {fl : List Int} {o : Int} {lo : Nat} {W : World} {t s base : Nat} {X : TiersX} {S : ShX} {Ft F : Nat → Prop} {cc : Nat}
theorem steps_in (p2 : PolOk nm2 lt) : 0 ≤ fillsV lt ∧ stepsV lt = fillsV lt + 2 ∧ stepsV lt ≤ 42 := by
 have h8 : ∀ t ∈ lt, t.shards ≤ 8 := fun x hx => (check_mem p2.ck hx).2.2.2.2.2
 have hf := fillsV_in h8
 have h5 := p2.five
 have hne : lt ≠ [] := by rintro rfl; have := p2.pos; simp at this
 have : stepsV lt = fillsV lt + 2 := by simp [stepsV, hne]
 omega
theorem build_right (p : PolOk nm l) (p2 : PolOk nm2 lt) (hg : GoodX nm l fl X cc) (hfl : ∀ f ∈ fl, 0 ≤ f ∧ f ≤ 2199023255552) {j : Nat} {y : TierV} (hy : lt[j]? = some y) :
  goodL ((buildX X nm2 lt (srcs o l fl lt)).tabs.getD j []) ∧ ∀ r ∈ (buildX X nm2 lt (srcs o l fl lt)).tabs.getD j [], rightR y.every r = true ∧ fromV X.now lt (basesV X.now l fl (srcs o l fl lt) lt) j ≤ r.start := by
 rw [build_tab (List.getElem?_eq_some_iff.1 hy).1]
 obtain ⟨i, x, hx, hs, hd, _, _⟩ := build_src (o := o) (X := X) p.ck hg.now hfl p2.ck hy
 have hxX : X.tiers[i]? = some x := by rw [hg.tiers]; exact hx
 unfold buildL
 rw [hs, hy]
 simp only [Int.toNat_natCast]
 rw [hxX]
 simp only
 rw [hg.tiers, hg.floors]
 exact rollV_right
theorem ShOk.lens (h : ShOk nm2 l lt fl o X S) (p : PolOk nm l) (p2 : PolOk nm2 lt) (hg : GoodX nm l fl X cc) (hfl : ∀ f ∈ fl, 0 ≤ f ∧ f ≤ 2199023255552) : ∀ m ∈ S.tabs, m.length ≤ cc := by
 intro m hm
 rw [h.tabs] at hm
 unfold shT at hm
 obtain ⟨j, hj, rfl⟩ := List.mem_map.1 hm
 refine Nat.le_trans (List.length_filter_le _ _) ?_
 rcases getD_mem_or (L := (buildX X nm2 lt (srcs o l fl lt)).tabs) j with h3 | h3
 ·exact (build_goodX (o := o) p.ck hg hfl p2.ck).len _ h3
 ·rw [h3]; exact Nat.zero_le _
theorem build_tlen (p : PolOk nm l) (p2 : PolOk nm2 lt) (hg : GoodX nm l fl X cc) (hfl : ∀ f ∈ fl, 0 ≤ f ∧ f ≤ 2199023255552) : (buildX X nm2 lt (srcs o l fl lt)).tabs.length = lt.length := (build_goodX p.ck hg hfl p2.ck).tlen
theorem agrees_ok (p : PolOk nm l) (p2 : PolOk nm2 lt) (hg : GoodX nm l fl X cc) (hfl : ∀ f ∈ fl, 0 ≤ f ∧ f ≤ 2199023255552) (h : ShOk nm2 l lt fl o X S) (hd : fillsV lt ≤ S.done) : agreesB S (buildX X nm2 lt (srcs o l fl lt)) = true := by
 unfold agreesB
 rw [List.all_eq_true]
 intro i hi
 have hi := List.mem_range.1 hi
 rw [h.tiers] at hi
 unfold agOne
 rw [h.tabs, shT_full p2.ck (build_tlen p p2 hg hfl) hd]
 have hr := build_right (o := o) p p2 hg hfl (List.getElem?_eq_getElem hi)
 rw [decide_eq_true_eq]
 unfold keepT
 rw [List.filter_eq_self]
 intro r hrr
 have h1 := (hr.2 r hrr).2
 unfold startBelow
 show (!decide (r.start < fromV X.now lt (basesV X.now X.tiers X.floors (srcs o l fl lt) lt) i)) = true
 rw [hg.tiers, hg.floors, decide_eq_false (by omega)]
 rfl
theorem cut_ok (p : PolOk nm l) (p2 : PolOk nm2 lt) (hg : GoodX nm l fl X cc) (hfl : ∀ f ∈ fl, 0 ≤ f ∧ f ≤ 2199023255552) (h : ShOk nm2 l lt fl o X S) (hd : fillsV lt ≤ S.done) : cutK S (buildX X nm2 lt (srcs o l fl lt)) lt.length = buildX X nm2 lt (srcs o l fl lt) := by
 have hS : S.tabs = (buildX X nm2 lt (srcs o l fl lt)).tabs := by rw [h.tabs, shT_full p2.ck (build_tlen p p2 hg hfl) hd]
 have hlen := build_tlen (o := o) (nm := nm) (nm2 := nm2) p p2 hg hfl
 have hright := fun {j : Nat} {y : TierV} (hy : lt[j]? = some y) => build_right (o := o) (nm := nm) (nm2 := nm2) p p2 hg hfl hy
 have hYt : (buildX X nm2 lt (srcs o l fl lt)).tiers = lt := rfl
 have hYn : (buildX X nm2 lt (srcs o l fl lt)).now = X.now := rfl
 have hYf : (buildX X nm2 lt (srcs o l fl lt)).floors = basesV X.now l fl (srcs o l fl lt) lt := by show basesV X.now X.tiers X.floors _ _ = _; rw [hg.tiers, hg.floors]
 generalize buildX X nm2 lt (srcs o l fl lt) = Y at hS hlen hright hYt hYn hYf ⊢
 have key : ∀ k, k ≤ lt.length → cutK S Y k = { Y with tabs := uptoL lt.length (fun j => Y.tabs.getD j []) (fun _ => []) k } := by
  intro k
  induction k with
  | zero =>
   intro _
   unfold cutK newX
   rw [uptoL_zero]
   show (⟨Y.now, Y.name, Y.tiers, Y.floors, Y.tiers.map fun _ => []⟩ : TiersX) = ⟨Y.now, Y.name, Y.tiers, Y.floors, (List.range lt.length).map fun _ => []⟩
   congr 1
   rw [hYt]
   apply List.ext_getElem?
   intro i
   rw [List.getElem?_map, List.getElem?_map]
   by_cases hi : i < lt.length
   ·rw [List.getElem?_eq_getElem hi, List.getElem?_range hi]; rfl
   ·rw [List.getElem?_eq_none (by omega), List.getElem?_eq_none (by simpa using hi)]; rfl
  | succ k ih =>
   intro hk
   have hy : lt[k]? = some lt[k] := List.getElem?_eq_getElem (by omega)
   obtain ⟨q1, q2⟩ := hright hy
   rw [cutK_succ, ih (by omega), hS]
   unfold loadX
   simp only
   rw [hYt, hy, uptoL_get (by omega)]
   simp only
   have hfil : (Y.tabs.getD k []).filter (ldB { Y with tiers := lt, tabs := uptoL lt.length (fun j => Y.tabs.getD j []) (fun _ => []) k } k) = Y.tabs.getD k [] := by
    rw [List.filter_eq_self]
    intro r hr
    have h1 := (q2 r hr).2
    unfold ldB
    simp only
    rw [hYn, hYf, decide_eq_true h1]
   have e2 : addsV lt[k].every [] (Y.tabs.getD k []) = Y.tabs.getD k [] := by
    have := adds_self (e := lt[k].every) (acc := []) (l := Y.tabs.getD k []) (by rw [List.nil_append]; exact q1.1) (fun r hr => (q2 r hr).1)
    rwa [List.nil_append] at this
   rw [hfil, e2]
   have := uptoL_set (n := lt.length) (f := fun j => Y.tabs.getD j []) (g := fun _ => ([] : List RecV)) (i := k) (by omega)
   try simp only at this
   rw [this]
 rw [key lt.length (Nat.le_refl _), uptoL_all, getD_all hlen]
def ShX.go (S : ShX) (nm2 : ByteArray) (lt : List TierV) (Y : TiersX) : ShX := { S with done := S.done + 1, tabs := shT lt (S.done + 1) Y.tabs }
def CutR (nm2 : ByteArray) (lt : List TierV) (bs : List Int) (lo : Nat) (w' : World) (Y : TiersX) (cc : Nat) (last : Bool) (co : Value) : Prop :=
 (last = true → ∃ ot Fo, co = .pointer (some ⟨ot, 0, none⟩) ∧ Tio nm2 lt bs lo w' ot Y Fo cc ∧ ∀ i, Fo i → lo ≤ i) ∧ (last = false → co = .pointer none)
theorem ShOk.next (h : ShOk nm2 l lt fl o X S) (hd : S.done < stepsV lt) : ShOk nm2 l lt fl o X (S.go nm2 lt (buildX X nm2 lt (srcs o l fl lt))) :=
 ⟨h.name, h.tiers, h.src, rfl, by have := h.d0; show 0 ≤ S.done + 1; omega, by show S.done + 1 ≤ _; omega⟩
set_option maxRecDepth 100000 in
theorem sstep_any (p : PolOk nm l) (p2 : PolOk nm2 lt) (hnm2 : nm2.size ≤ maxLen) (h : Tio nm l fl lo W t X Ft cc) (hc : cc ≤ 1000000) (hfl : ∀ f ∈ fl, 0 ≤ f ∧ f ≤ 2199023255552) (hs : ShOn W s base S F) (hk : ShOk nm2 l lt fl o X S) (hd : S.done < stepsV lt) :
  Calls Tryz.prog 145 #[.pointer (some ⟨s, 0, none⟩), .pointer (some ⟨t, 0, none⟩)] W fun r w' => (∃ co, r = .returned (.tuple #[stepVal (atV lt S.done).1, co, .int .i64 0]) ∧ CutR nm2 lt (basesV X.now l fl (srcs o l fl lt) lt) W.heap.size w' (buildX X nm2 lt (srcs o l fl lt)) cc (decide (S.done = stepsV lt - 1)) co) ∧ ShOn w' s base (S.go nm2 lt (buildX X nm2 lt (srcs o l fl lt))) F ∧ Fr F W w' := by
 have hg := h.good
 have hst := steps_in p2
 have hd64 : i64 S.done := by have := hk.d0; unfold i64; omega
 have hlen := build_tlen (o := o) (nm := nm) (nm2 := nm2) p p2 hg hfl
 have hl : ∀ m ∈ S.tabs, m.length ≤ 1000000 := fun m hm => Nat.le_trans (hk.lens p p2 hg hfl m hm) hc
 rcases at_what p2.ck hk.d0 hd with ⟨j, y, k, hy, hat, k0, k1, hdk, hlt⟩ | ⟨hat, hdk⟩ | ⟨hat, hdk⟩
 ·refine (sstep_fill p p2 hnm2 h hc hfl hs hk.name hk.tiers hk.src hd64 hl hy hat).mono ?_
  rintro r w' ⟨rfl, q1, q2⟩
  rw [hat]
  refine ⟨⟨_, rfl, fun e => ?_, fun _ => rfl⟩, ?_, q2⟩
  ·have := of_decide_eq_true e; omega
  ·obtain ⟨g1, g2⟩ := build_right (o := o) (nm := nm) (nm2 := nm2) p p2 hg hfl hy
   have hj := (List.getElem?_eq_some_iff.1 hy).1
   have e := shT_fill (Y := (buildX X nm2 lt (srcs o l fl lt)).tabs) p2.ck hy ⟨k0, k1⟩ hdk g1 (fun r hr => (g2 r hr).1)
   rw [hk.tabs, shT_getD hj, e] at q1
   exact q1
 ·refine (sstep_check p p2 hnm2 h hc hfl hs hk.name hk.tiers hk.src hd64 hl hat).mono ?_
  rintro r w' ⟨⟨q1, _⟩, q2⟩
  obtain ⟨rfl, q3⟩ := q1 (agrees_ok p p2 hg hfl hk (by omega))
  rw [hat]
  refine ⟨⟨_, rfl, fun e => ?_, fun _ => rfl⟩, ?_, q2⟩
  ·have := of_decide_eq_true e; omega
  ·have e : S.tabs = shT lt (S.done + 1) (buildX X nm2 lt (srcs o l fl lt)).tabs := by
    rw [hk.tabs, shT_full p2.ck hlen (by omega), shT_full p2.ck hlen (by omega)]
   unfold ShX.go
   rw [← e]
   exact q3
 ·refine (sstep_cut p p2 hnm2 h hc hfl hs hk.name hk.tiers hk.src hd64 hl hat).mono ?_
  rintro r w' ⟨⟨ot, Fo, rfl, q3, q4⟩, q1, q2⟩
  rw [cut_ok p p2 hg hfl hk (by omega)] at q3
  rw [hat]
  refine ⟨⟨_, rfl, fun _ => ⟨ot, Fo, rfl, ⟨q3.on, build_goodX p.ck hg hfl p2.ck⟩, q4⟩, fun e => ?_⟩, ?_, q2⟩
  ·have := of_decide_eq_false e; omega
  ·have e : S.tabs = shT lt (S.done + 1) (buildX X nm2 lt (srcs o l fl lt)).tabs := by
    rw [hk.tabs, shT_full p2.ck hlen (by omega), shT_full p2.ck hlen (by omega)]
   unfold ShX.go
   rw [← e]
   exact q1
end
end Go.Proofs.YtaakghjbbkgbdaaGreatDoor
namespace Go.Proofs.YtaakghjbbkgbdaaGreatDoor
set_option linter.all false
open Go.RowKit

section
variable {nm nm2 : ByteArray} {l lt : List TierV} {fl : List Int} {o : Int} {X : TiersX} {S : ShX} {cc : Nat}
end
end Go.Proofs.YtaakghjbbkgbdaaGreatDoor
