/- The plain law of sums: each tier has all samples. -/
import Derived.Test.YteajonicnkpbbaaGreatDoorTiersCopy
namespace Go.Proofs.YteajonicnkpbbaaGreatDoor
set_option linter.all false
open Go.RowKit

def cntL (l : List RecV) : Int := (l.map fun r => r.agg.count).sum
def loS (l : List RecV) : Int := (l.map fun r => r.agg.lo).sum
def okL (l : List RecV) : Prop := ∀ r ∈ l, aggOk r.agg = true
theorem cntL_cons (r : RecV) (l : List RecV) : cntL (r :: l) = r.agg.count + cntL l := by unfold cntL; rw [List.map_cons, List.sum_cons]
theorem loS_cons (r : RecV) (l : List RecV) : loS (r :: l) = r.agg.lo + loS l := by unfold loS; rw [List.map_cons, List.sum_cons]
theorem aggOk_pos {a : AggV} (h : aggOk a = true) : 1 ≤ a.count ∧ a.count ≤ 4611686018427387904 ∧ a.min ≤ a.max := by
 unfold aggOk at h
 simp only [Bool.and_eq_true, decide_eq_true_eq] at h
 exact ⟨h.1.1, h.1.2, h.2⟩
theorem okL_cnt {l : List RecV} (h : okL l) : (l.length : Int) ≤ cntL l := by
 induction l with
 | nil => simp [cntL]
 | cons r l ih =>
  have h1 := (aggOk_pos (h r (by simp))).1
  have h2 := ih (fun x hx => h x (List.mem_cons_of_mem _ hx))
  rw [cntL_cons, List.length_cons]
  omega
theorem aggOk_one (v : Int) : aggOk (aggOne v) = true := by
 unfold aggOk aggOne; simp
theorem bothV_0 (a : AggV) : bothV agg0 a = a := by unfold bothV agg0; simp
theorem aggOk_0 : aggOk agg0 = false := by decide
theorem mgM_none {a : AggV} (h : aggOk a = true) : mgM none a = a := by
 unfold mgM mergeL
 simp only [Option.getD_none, List.foldl_cons, List.foldl_nil, aggOk_0, h, if_true, bothV_0, Bool.false_eq_true, if_false]
theorem mgM_some {a b : AggV} (ha : aggOk a = true) (hb : aggOk b = true) : mgM (some a) b = bothV a b := by
 unfold mgM mergeL
 simp only [Option.getD_some, List.foldl_cons, List.foldl_nil, ha, hb, if_true, bothV_0]
theorem bothV_one {a : AggV} (v : Int) (ha : aggOk a = true) (hc : a.count ≤ 1000) : (bothV a (aggOne v)).count = a.count + 1 ∧ (bothV a (aggOne v)).lo % 18446744073709551616 = (a.lo + v) % 18446744073709551616 ∧ aggOk (bothV a (aggOne v)) = true := by
 obtain ⟨h1, h2, h3⟩ := aggOk_pos ha
 unfold bothV aggOne
 rw [if_neg (by omega)]
 rw [if_pos (by simp only; omega)]
 refine ⟨rfl, by simp only; omega, ?_⟩
 unfold aggOk
 simp only [Bool.and_eq_true, decide_eq_true_eq]
 omega
theorem insR_sums (nm : ByteArray) (st v : Int) : ∀ {l : List RecV}, okL l → cntL l ≤ 1000 → okL (insR mgM l ⟨nm, st, aggOne v⟩) ∧ cntL (insR mgM l ⟨nm, st, aggOne v⟩) = cntL l + 1 ∧ loS (insR mgM l ⟨nm, st, aggOne v⟩) % 18446744073709551616 = (loS l + v) % 18446744073709551616
 | [], _, _ => by
  unfold insR
  simp only [mgM_none (aggOk_one v)]
  refine ⟨?_, ?_, ?_⟩
  ·intro r hr
   rw [List.mem_singleton] at hr
   subst hr
   exact aggOk_one v
  ·simp [cntL, aggOne]
  ·simp only [loS, aggOne, List.map_cons, List.map_nil, List.sum_cons, List.sum_nil]
   omega
 | x :: l, ho, hc => by
  have hx := ho x (by simp)
  have ho' : okL l := fun r hr => ho r (List.mem_cons_of_mem _ hr)
  have hl0 := okL_cnt ho'
  obtain ⟨h1, h2, h3⟩ := aggOk_pos hx
  rw [cntL_cons] at hc
  unfold insR
  split
  ·obtain ⟨i1, i2, i3⟩ := insR_sums nm st v ho' (by omega)
   refine ⟨fun r hr => ?_, ?_, ?_⟩
   ·rcases List.mem_cons.1 hr with rfl | hr
    ·exact hx
    ·exact i1 r hr
   ·rw [cntL_cons, cntL_cons, i2]; omega
   ·rw [loS_cons, loS_cons]; omega
  ·split
   ·simp only [mgM_some hx (aggOk_one v)]
    obtain ⟨b1, b2, b3⟩ := bothV_one v hx (by omega)
    refine ⟨fun r hr => ?_, ?_, ?_⟩
    ·rcases List.mem_cons.1 hr with rfl | hr
     ·exact b3
     ·exact ho' r hr
    ·rw [cntL_cons, cntL_cons]; simp only; rw [b1]; omega
    ·rw [loS_cons, loS_cons]; simp only; omega
   ·simp only [mgM_none (aggOk_one v)]
    refine ⟨fun r hr => ?_, ?_, ?_⟩
    ·rcases List.mem_cons.1 hr with rfl | hr
     ·exact aggOk_one v
     ·exact ho r hr
    ·rw [cntL_cons, cntL_cons]; simp only [aggOne]; omega
    ·rw [loS_cons, loS_cons]; simp only [aggOne]; omega
theorem floor_on {t e : Int} (ht : 0 ≤ t) (he : 1 ≤ e) : 0 ≤ floorV t e ∧ floorV t e ≤ t ∧ onB (floorV t e) e = true := by
 obtain ⟨_, _, h3, _⟩ := tmod_bd t e he
 obtain ⟨h3, h4⟩ := h3 ht
 have hf : floorV t e = t - t.tmod e := by
  unfold floorV
  rw [if_neg (by omega), if_neg (by omega)]
 refine ⟨by omega, by omega, ?_⟩
 unfold onB
 have hz : (floorV t e).tmod e = 0 := by
  rw [hf, Int.tmod_eq_emod_of_nonneg (by omega), Int.tmod_eq_emod_of_nonneg ht]
  exact Int.emod_eq_zero_of_dvd (Int.dvd_self_sub_emod)
 simp [he, hz]

def sumT : List TierV := [⟨"a".toUTF8, 1, 900, 1⟩, ⟨"b".toUTF8, 4, 900, 3⟩, ⟨"c".toUTF8, 12, 900, 2⟩]
structure Summed (X : TiersX) (n S : Int) : Prop where
 now : X.now = 800
 tiers : X.tiers = sumT
 floors : X.floors = []
 len : X.tabs.length = 3
 ok : ∀ m ∈ X.tabs, okL m
 cnt : ∀ m ∈ X.tabs, cntL m = n
 lo : ∀ m ∈ X.tabs, loS m % 18446744073709551616 = S % 18446744073709551616
theorem putE_1 (X : TiersX) (s : SampV) : putE X [s] = takesV X.now X.tiers X.floors s := by
 unfold putE firstE
 simp only [List.length_singleton]
 rw [if_neg (by omega), if_neg (by omega)]
 by_cases h : takesV X.now X.tiers X.floors s = 0
 ·simp [List.find?, h]
 ·simp [List.find?, h]
theorem Summed.put {X : TiersX} {n S : Int} (h : Summed X n S) (hn : n ≤ 1000) (s : SampV) (ht : takesV 800 sumT [] s = 0) : Summed (putX X [s]) (n + 1) (S + s.value) := by
 have hE : putE X [s] = 0 := by rw [putE_1, h.now, h.tiers, h.floors, ht]
 have hT : putX X [s] = { X with tabs := addT X X.tabs s } := by
  unfold putX
  rw [if_pos hE]
  rfl
 have hv : validB s.name = true ∧ 0 ≤ s.time := by
  unfold takesV at ht
  split at ht
  ·assumption
  ·omega
 have hm : ∀ m ∈ addT X X.tabs s, ∃ l ∈ X.tabs, ∃ st, m = insR mgM l ⟨s.name, st, aggOne s.value⟩ := by
  intro m hm
  unfold addT at hm
  obtain ⟨k, hk, rfl⟩ := List.mem_map.1 hm
  have hk := List.mem_range.1 hk
  rw [h.tiers] at hk
  change k < 3 at hk
  have hkl : k < X.tabs.length := by rw [h.len]; exact hk
  refine ⟨X.tabs[k], List.getElem_mem hkl, ?_⟩
  have hx : ∃ x, sumT[k]? = some x ∧ 1 ≤ x.every ∧ fromI 800 sumT [] (k : Int) = 0 := by
   rcases k with _ | _ | _ | k
   ·exact ⟨_, rfl, by decide, by decide +kernel⟩
   ·exact ⟨_, rfl, by decide, by decide +kernel⟩
   ·exact ⟨_, rfl, by decide, by decide +kernel⟩
   ·omega
  obtain ⟨x, hx1, hx2, hx3⟩ := hx
  obtain ⟨f1, f2, f3⟩ := floor_on hv.2 hx2
  have hst : startV X.now X.tiers X.floors (k : Int) s.time = (floorV s.time x.every, true) := by
   unfold startV
   rw [h.now, h.tiers, h.floors, if_pos ⟨by omega, by show (k : Int) < ((3 : Nat) : Int); omega, hv.2⟩, Int.toNat_natCast, hx1]
   simp only [hx3]
   simp [f1]
  refine ⟨floorV s.time x.every, ?_⟩
  unfold stepL
  rw [hst, h.tiers, hx1]
  simp only [if_true]
  unfold addV rightR
  simp only [hv.1, f1, f3, aggOk_one, decide_true, Bool.and_true, if_true]
  rw [List.getD_eq_getElem?_getD, List.getElem?_eq_getElem hkl]
  rfl
 rw [hT]
 refine ⟨h.now, h.tiers, h.floors, ?_, ?_, ?_, ?_⟩
 ·show (addT X X.tabs s).length = 3
  unfold addT
  rw [List.length_map, List.length_range, h.tiers]
  rfl
 all_goals
  intro m hmm
  obtain ⟨l, hl, st, rfl⟩ := hm m hmm
  have hc := h.cnt l hl
  obtain ⟨i1, i2, i3⟩ := insR_sums s.name st s.value (h.ok l hl) (by omega)
 ·exact i1
 ·rw [i2, hc]
 ·have := h.lo l hl
  omega
theorem Summed.keep {X : TiersX} {n S : Int} (h : Summed X n S) (s : SampV) (ht : takesV 800 sumT [] s ≠ 0) : putX X [s] = X := by
 unfold putX
 rw [if_neg]
 rw [putE_1, h.now, h.tiers, h.floors]
 exact ht
end Go.Proofs.YteajonicnkpbbaaGreatDoor
namespace Go.Proofs.YteajonicnkpbbaaGreatDoor
set_option linter.all false
open Go.RowKit

theorem bothV_ok {a b : AggV} (ha : aggOk a = true) (hb : aggOk b = true) : aggOk (bothV a b) = true := by
 obtain ⟨h1, h2, h3⟩ := aggOk_pos ha
 obtain ⟨k1, k2, k3⟩ := aggOk_pos hb
 unfold bothV
 rw [if_neg (by omega)]
 unfold aggOk
 simp only [Bool.and_eq_true, decide_eq_true_eq]
 split <;> omega
theorem mgM_ok {o : Option AggV} {a : AggV} (ho : ∀ x, o = some x → aggOk x = true) (ha : aggOk a = true) : aggOk (mgM o a) = true := by
 cases o with
 | none => rw [mgM_none ha]; exact ha
 | some x => rw [mgM_some (ho x rfl) ha]; exact bothV_ok (ho x rfl) ha
theorem findA_ok {l : List RecV} (ho : okL l) (r : RecV) : ∀ x, findA l r = some x → aggOk x = true := by
 intro x hx
 unfold findA at hx
 rw [Option.map_eq_some_iff] at hx
 obtain ⟨y, hy, rfl⟩ := hx
 exact ho y (List.mem_of_find?_eq_some hy)
theorem okL_ins {l : List RecV} (hs : Sorted l) (ho : okL l) {r : RecV} (hr : aggOk r.agg = true) : okL (insR mgM l r) := by
 intro y hy
 rcases (mem_insR mgM hs y).1 hy with rfl | ⟨hy, _⟩
 ·exact mgM_ok (findA_ok ho r) hr
 ·exact ho y hy
def goodL (l : List RecV) : Prop := Sorted l ∧ okL l
theorem addV_good {every : Int} {l : List RecV} (h : goodL l) (r : RecV) : goodL (addV every l r) := by
 unfold addV
 split
 ·rename_i hr
  unfold rightR at hr
  simp only [Bool.and_eq_true] at hr
  exact ⟨insR_sorted mgM h.1, okL_ins h.1 h.2 hr.2⟩
 ·exact h
def goodT (X : TiersX) (tabs : List (List RecV)) : Prop := ∀ k, goodL (tabs.getD k [])
theorem good_nil : goodL [] := ⟨Sorted.nil, fun r hr => by cases hr⟩
theorem addT_getD (X : TiersX) (tabs : List (List RecV)) (s : SampV) (k : Nat) : (addT X tabs s).getD k [] = if k < X.tiers.length then stepL X s k (tabs.getD k []) else [] := by
 unfold addT
 rw [List.getD_eq_getElem?_getD, List.getElem?_map]
 split
 ·rename_i h; rw [List.getElem?_range h]; rfl
 ·rename_i h; rw [List.getElem?_eq_none (by simpa using h)]; rfl
theorem putsT_cons (X : TiersX) (tabs : List (List RecV)) (s : SampV) (l : List SampV) : putsT X tabs (s :: l) = putsT X (addT X tabs s) l := rfl
end Go.Proofs.YteajonicnkpbbaaGreatDoor
namespace Go.Proofs.YteajonicnkpbbaaGreatDoor
set_option linter.all false
open Go.RowKit

end Go.Proofs.YteajonicnkpbbaaGreatDoor
namespace Go.Proofs.YteajonicnkpbbaaGreatDoor
set_option linter.all false
open Go.RowKit

def gridT (l : List TierV) (tabs : List (List RecV)) : Prop := ∀ k x, l[k]? = some x → ∀ r ∈ tabs.getD k [], validB r.name = true ∧ 0 ≤ r.start ∧ onB r.start x.every = true
structure GoodX (nm : ByteArray) (l : List TierV) (fl : List Int) (X : TiersX) (c : Nat) : Prop where
 name : X.name = nm
 tiers : X.tiers = l
 floors : X.floors = fl
 now : 0 ≤ X.now ∧ X.now ≤ 1099511627776
 tlen : X.tabs.length = l.length
 len : ∀ m ∈ X.tabs, m.length ≤ c
 good : goodT X X.tabs
 grid : gridT l X.tabs
theorem GoodX.new {nm : ByteArray} {l : List TierV} {now : Int} {fl : List Int} (h : newE nm l now fl = 0) : GoodX nm l fl (newX nm l now fl) 0 := by
 have hn : 0 ≤ now ∧ now ≤ 1099511627776 := by
  unfold newE at h
  split at h
  ·split at h
   ·omega
   ·omega
  ·omega
 have hg : ∀ k, (newX nm l now fl).tabs.getD k [] = [] := fun k => by
  show (l.map fun _ => ([] : List RecV)).getD k [] = []
  rw [List.getD_eq_getElem?_getD, List.getElem?_map]
  cases l[k]? <;> rfl
 refine ⟨rfl, rfl, rfl, hn, by simp [newX], fun m hm => ?_, fun k => ?_, fun k x _ r hr => ?_⟩
 ·have hm : m ∈ l.map fun _ => ([] : List RecV) := hm
  obtain ⟨_, _, rfl⟩ := List.mem_map.1 hm
  exact Nat.le_refl _
 ·rw [hg]; exact good_nil
 ·rw [hg] at hr; cases hr
end Go.Proofs.YteajonicnkpbbaaGreatDoor
