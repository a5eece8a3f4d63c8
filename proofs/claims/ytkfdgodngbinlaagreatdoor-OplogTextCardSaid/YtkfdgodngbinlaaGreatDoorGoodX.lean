/- The plain law of sums: each tier has all samples. -/
import Derived.Test.YtkfdgodngbinlaaGreatDoorTiersCopy
namespace Go.Proofs.YtkfdgodngbinlaaGreatDoor
set_option linter.all false
open Go.RowKit

def cntL (l : List RecV) : Int := (l.map fun r => r.agg.count).sum
def loS (l : List RecV) : Int := (l.map fun r => r.agg.lo).sum
def okL (l : List RecV) : Prop := ∀ r ∈ l, aggOk r.agg = true
theorem cntL_cons (r : RecV) (l : List RecV) : cntL (r :: l) = r.agg.count + cntL l := by unfold cntL; rw [List.map_cons, List.sum_cons]
theorem loS_cons (r : RecV) (l : List RecV) : loS (r :: l) = r.agg.lo + loS l := by unfold loS; rw [List.map_cons, List.sum_cons]
theorem aggOk_pos {a : AggV} (h : aggOk a = true) : 1 ≤ a.count ∧ a.count ≤ 4611686018427387904 ∧ a.min ≤ a.max := by
 unfold aggOk at h
 simp only [Bool.and_eq_true, decide_eq_true_eq] at h
 exact ⟨h.1.1, h.1.2, h.2⟩
theorem okL_cnt {l : List RecV} (h : okL l) : (l.length : Int) ≤ cntL l := by
 induction l with
 | nil => simp [cntL]
 | cons r l ih =>
  have h1 := (aggOk_pos (h r (by simp))).1
  have h2 := ih (fun x hx => h x (List.mem_cons_of_mem _ hx))
  rw [cntL_cons, List.length_cons]
  omega
theorem aggOk_one (v : Int) : aggOk (aggOne v) = true := by
 unfold aggOk aggOne; simp
theorem bothV_0 (a : AggV) : bothV agg0 a = a := by unfold bothV agg0; simp
theorem aggOk_0 : aggOk agg0 = false := by decide
theorem mgM_none {a : AggV} (h : aggOk a = true) : mgM none a = a := by
 unfold mgM mergeL
 simp only [Option.getD_none, List.foldl_cons, List.foldl_nil, aggOk_0, h, if_true, bothV_0, Bool.false_eq_true, if_false]
theorem mgM_some {a b : AggV} (ha : aggOk a = true) (hb : aggOk b = true) : mgM (some a) b = bothV a b := by
 unfold mgM mergeL
 simp only [Option.getD_some, List.foldl_cons, List.foldl_nil, ha, hb, if_true, bothV_0]
theorem bothV_one {a : AggV} (v : Int) (ha : aggOk a = true) (hc : a.count ≤ 1000) : (bothV a (aggOne v)).count = a.count + 1 ∧ (bothV a (aggOne v)).lo % 18446744073709551616 = (a.lo + v) % 18446744073709551616 ∧ aggOk (bothV a (aggOne v)) = true := by
 obtain ⟨h1, h2, h3⟩ := aggOk_pos ha
 unfold bothV aggOne
 rw [if_neg (by omega)]
 rw [if_pos (by simp only; omega)]
 refine ⟨rfl, by simp only; omega, ?_⟩
 unfold aggOk
 simp only [Bool.and_eq_true, decide_eq_true_eq]
 omega
theorem insR_sums (nm : ByteArray) (st v : Int) : ∀ {l : List RecV}, okL l → cntL l ≤ 1000 → okL (insR mgM l ⟨nm, st, aggOne v⟩) ∧ cntL (insR mgM l ⟨nm, st, aggOne v⟩) = cntL l + 1 ∧ loS (insR mgM l ⟨nm, st, aggOne v⟩) % 18446744073709551616 = (loS l + v) % 18446744073709551616
 | [], _, _ => by
  unfold insR
  simp only [mgM_none (aggOk_one v)]
  refine ⟨?_, ?_, ?_⟩
  ·intro r hr
   rw [List.mem_singleton] at hr
   subst hr
   exact aggOk_one v
  ·simp [cntL, aggOne]
  ·simp only [loS, aggOne, List.map_cons, List.map_nil, List.sum_cons, List.sum_nil]
   omega
 | x :: l, ho, hc => by
  have hx := ho x (by simp)
  have ho' : okL l := fun r hr => ho r (List.mem_cons_of_mem _ hr)
  have hl0 := okL_cnt ho'
  obtain ⟨h1, h2, h3⟩ := aggOk_pos hx
  rw [cntL_cons] at hc
  unfold insR
  split
  ·obtain ⟨i1, i2, i3⟩ := insR_sums nm st v ho' (by omega)
   refine ⟨fun r hr => ?_, ?_, ?_⟩
   ·rcases List.mem_cons.1 hr with rfl | hr
    ·exact hx
    ·exact i1 r hr
   ·rw [cntL_cons, cntL_cons, i2]; omega
   ·rw [loS_cons, loS_cons]; omega
  ·split
   ·simp only [mgM_some hx (aggOk_one v)]
    obtain ⟨b1, b2, b3⟩ := bothV_one v hx (by omega)
    refine ⟨fun r hr => ?_, ?_, ?_⟩
    ·rcases List.mem_cons.1 hr with rfl | hr
     ·exact b3
     ·exact ho' r hr
    ·rw [cntL_cons, cntL_cons]; simp only; rw [b1]; omega
    ·rw [loS_cons, loS_cons]; simp only; omega
   ·simp only [mgM_none (aggOk_one v)]
    refine ⟨fun r hr => ?_, ?_, ?_⟩
    ·rcases List.mem_cons.1 hr with rfl | hr
     ·exact aggOk_one v
     ·exact ho r hr
    ·rw [cntL_cons, cntL_cons]; simp only [aggOne]; omega
    ·rw [loS_cons, loS_cons]; simp only [aggOne]; omega
theorem floor_on {t e : Int} (ht : 0 ≤ t) (he : 1 ≤ e) : 0 ≤ floorV t e ∧ floorV t e ≤ t ∧ onB (floorV t e) e = true := by
 obtain ⟨_, _, h3, _⟩ := tmod_bd t e he
 obtain ⟨h3, h4⟩ := h3 ht
 have hf : floorV t e = t - t.tmod e := by
  unfold floorV
  rw [if_neg (by omega), if_neg (by omega)]
 refine ⟨by omega, by omega, ?_⟩
 unfold onB
 have hz : (floorV t e).tmod e = 0 := by
  rw [hf, Int.tmod_eq_emod_of_nonneg (by omega), Int.tmod_eq_emod_of_nonneg ht]
  exact Int.emod_eq_zero_of_dvd (Int.dvd_self_sub_emod)
 simp [he, hz]

def sumT : List TierV := [⟨"a".toUTF8, 1, 900, 1⟩, ⟨"b".toUTF8, 4, 900, 3⟩, ⟨"c".toUTF8, 12, 900, 2⟩]
structure Summed (X : TiersX) (n S : Int) : Prop where
 now : X.now = 800
 tiers : X.tiers = sumT
 floors : X.floors = []
 len : X.tabs.length = 3
 ok : ∀ m ∈ X.tabs, okL m
 cnt : ∀ m ∈ X.tabs, cntL m = n
 lo : ∀ m ∈ X.tabs, loS m % 18446744073709551616 = S % 18446744073709551616
theorem putE_1 (X : TiersX) (s : SampV) : putE X [s] = takesV X.now X.tiers X.floors s := by
 unfold putE firstE
 simp only [List.length_singleton]
 rw [if_neg (by omega), if_neg (by omega)]
 by_cases h : takesV X.now X.tiers X.floors s = 0
 ·simp [List.find?, h]
 ·simp [List.find?, h]
theorem Summed.put {X : TiersX} {n S : Int} (h : Summed X n S) (hn : n ≤ 1000) (s : SampV) (ht : takesV 800 sumT [] s = 0) : Summed (putX X [s]) (n + 1) (S + s.value) := by
 have hE : putE X [s] = 0 := by rw [putE_1, h.now, h.tiers, h.floors, ht]
 have hT : putX X [s] = { X with tabs := addT X X.tabs s } := by
  unfold putX
  rw [if_pos hE]
  rfl
 have hv : validB s.name = true ∧ 0 ≤ s.time := by
  unfold takesV at ht
  split at ht
  ·assumption
  ·omega
 have hm : ∀ m ∈ addT X X.tabs s, ∃ l ∈ X.tabs, ∃ st, m = insR mgM l ⟨s.name, st, aggOne s.value⟩ := by
  intro m hm
  unfold addT at hm
  obtain ⟨k, hk, rfl⟩ := List.mem_map.1 hm
  have hk := List.mem_range.1 hk
  rw [h.tiers] at hk
  change k < 3 at hk
  have hkl : k < X.tabs.length := by rw [h.len]; exact hk
  refine ⟨X.tabs[k], List.getElem_mem hkl, ?_⟩
  have hx : ∃ x, sumT[k]? = some x ∧ 1 ≤ x.every ∧ fromI 800 sumT [] (k : Int) = 0 := by
   rcases k with _ | _ | _ | k
   ·exact ⟨_, rfl, by decide, by decide +kernel⟩
   ·exact ⟨_, rfl, by decide, by decide +kernel⟩
   ·exact ⟨_, rfl, by decide, by decide +kernel⟩
   ·omega
  obtain ⟨x, hx1, hx2, hx3⟩ := hx
  obtain ⟨f1, f2, f3⟩ := floor_on hv.2 hx2
  have hst : startV X.now X.tiers X.floors (k : Int) s.time = (floorV s.time x.every, true) := by
   unfold startV
   rw [h.now, h.tiers, h.floors, if_pos ⟨by omega, by show (k : Int) < ((3 : Nat) : Int); omega, hv.2⟩, Int.toNat_natCast, hx1]
   simp only [hx3]
   simp [f1]
  refine ⟨floorV s.time x.every, ?_⟩
  unfold stepL
  rw [hst, h.tiers, hx1]
  simp only [if_true]
  unfold addV rightR
  simp only [hv.1, f1, f3, aggOk_one, decide_true, Bool.and_true, if_true]
  rw [List.getD_eq_getElem?_getD, List.getElem?_eq_getElem hkl]
  rfl
 rw [hT]
 refine ⟨h.now, h.tiers, h.floors, ?_, ?_, ?_, ?_⟩
 ·show (addT X X.tabs s).length = 3
  unfold addT
  rw [List.length_map, List.length_range, h.tiers]
  rfl
 all_goals
  intro m hmm
  obtain ⟨l, hl, st, rfl⟩ := hm m hmm
  have hc := h.cnt l hl
  obtain ⟨i1, i2, i3⟩ := insR_sums s.name st s.value (h.ok l hl) (by omega)
 ·exact i1
 ·rw [i2, hc]
 ·have := h.lo l hl
  omega
theorem Summed.keep {X : TiersX} {n S : Int} (h : Summed X n S) (s : SampV) (ht : takesV 800 sumT [] s ≠ 0) : putX X [s] = X := by
 unfold putX
 rw [if_neg]
 rw [putE_1, h.now, h.tiers, h.floors]
 exact ht
theorem Summed.short {X : TiersX} {n S : Int} (h : Summed X n S) : ∀ m ∈ X.tabs, (m.length : Int) ≤ n := fun m hm => by
 have := okL_cnt (h.ok m hm)
 rw [h.cnt m hm] at this
 exact this
end Go.Proofs.YtkfdgodngbinlaaGreatDoor
namespace Go.Proofs.YtkfdgodngbinlaaGreatDoor
set_option linter.all false
open Go.RowKit

theorem bothV_ok {a b : AggV} (ha : aggOk a = true) (hb : aggOk b = true) : aggOk (bothV a b) = true := by
 obtain ⟨h1, h2, h3⟩ := aggOk_pos ha
 obtain ⟨k1, k2, k3⟩ := aggOk_pos hb
 unfold bothV
 rw [if_neg (by omega)]
 unfold aggOk
 simp only [Bool.and_eq_true, decide_eq_true_eq]
 split <;> omega
theorem bothV_comm {a b : AggV} (ha : aggOk a = true) (hb : aggOk b = true) : bothV a b = bothV b a := by
 obtain ⟨h1, h2, h3⟩ := aggOk_pos ha
 obtain ⟨k1, k2, k3⟩ := aggOk_pos hb
 unfold bothV
 rw [if_neg (show ¬ a.count = 0 by omega), if_neg (show ¬ b.count = 0 by omega), AggV.mk.injEq]
 refine ⟨?_, ?_, by omega, by omega, by omega⟩
 ·split <;> split <;> omega
 ·congr 1; omega
theorem bothV_rot {a b c : AggV} (ha : aggOk a = true) (hb : aggOk b = true) (hc : aggOk c = true) : bothV (bothV c a) b = bothV (bothV c b) a := by
 have ho1 := bothV_ok hc ha
 have ho2 := bothV_ok hc hb
 obtain ⟨h1, h2, h3⟩ := aggOk_pos ha
 obtain ⟨k1, k2, k3⟩ := aggOk_pos hb
 obtain ⟨m1, m2, m3⟩ := aggOk_pos hc
 have e1 : (bothV c a) = ⟨if c.count < 4611686018427387904 - a.count then c.count + a.count else 4611686018427387904, wrap64 (c.hi + a.hi + (c.lo + a.lo) / 18446744073709551616), (c.lo + a.lo) % 18446744073709551616, min c.min a.min, max c.max a.max⟩ := by
  unfold bothV
  rw [if_neg (by omega)]
 have e2 : (bothV c b) = ⟨if c.count < 4611686018427387904 - b.count then c.count + b.count else 4611686018427387904, wrap64 (c.hi + b.hi + (c.lo + b.lo) / 18446744073709551616), (c.lo + b.lo) % 18446744073709551616, min c.min b.min, max c.max b.max⟩ := by
  unfold bothV
  rw [if_neg (by omega)]
 have p1 := (aggOk_pos ho1).1
 have p2 := (aggOk_pos ho2).1
 rw [e1] at p1 ⊢
 rw [e2] at p2 ⊢
 unfold bothV
 simp only at p1 p2 ⊢
 rw [if_neg (show ¬ (if c.count < 4611686018427387904 - a.count then c.count + a.count else 4611686018427387904) = 0 by omega), if_neg (show ¬ (if c.count < 4611686018427387904 - b.count then c.count + b.count else 4611686018427387904) = 0 by omega), AggV.mk.injEq]
 refine ⟨?_, ?_, by omega, by omega, by omega⟩
 ·repeat' split
  all_goals omega
 ·unfold wrap64
  omega
theorem mgM_ok {o : Option AggV} {a : AggV} (ho : ∀ x, o = some x → aggOk x = true) (ha : aggOk a = true) : aggOk (mgM o a) = true := by
 cases o with
 | none => rw [mgM_none ha]; exact ha
 | some x => rw [mgM_some (ho x rfl) ha]; exact bothV_ok (ho x rfl) ha
theorem mgM_rot {o : Option AggV} {a b : AggV} (ho : ∀ x, o = some x → aggOk x = true) (ha : aggOk a = true) (hb : aggOk b = true) : mgM (some (mgM o a)) b = mgM (some (mgM o b)) a := by
 rw [mgM_some (mgM_ok ho ha) hb, mgM_some (mgM_ok ho hb) ha]
 cases o with
 | none => rw [mgM_none ha, mgM_none hb, bothV_comm ha hb]
 | some x => rw [mgM_some (ho x rfl) ha, mgM_some (ho x rfl) hb, bothV_rot ha hb (ho x rfl)]
theorem skey_symm {a b : RecV} (h : skey a b) : skey b a := ⟨h.1.symm, h.2.symm⟩
theorem skey_trans {a b c : RecV} (h : skey a b) (k : skey b c) : skey a c := ⟨h.1.trans k.1, h.2.trans k.2⟩
theorem findA_key {l : List RecV} {r r' : RecV} (h : skey r r') : findA l r = findA l r' := by
 unfold findA
 congr 2
 funext x
 refine decide_eq_decide.2 ⟨fun k => skey_trans k h, fun k => skey_trans k (skey_symm h)⟩
theorem findA_ok {l : List RecV} (ho : okL l) (r : RecV) : ∀ x, findA l r = some x → aggOk x = true := by
 intro x hx
 unfold findA at hx
 rw [Option.map_eq_some_iff] at hx
 obtain ⟨y, hy, rfl⟩ := hx
 exact ho y (List.mem_of_find?_eq_some hy)
theorem findA_ins {l : List RecV} (hs : Sorted l) (r1 r2 : RecV) : findA (insR mgM l r1) r2 = if skey r1 r2 then some (mgM (findA l r1) r1.agg) else findA l r2 := by
 have hI := insR_sorted mgM (r := r1) hs
 split
 ·rename_i hk
  exact findA_some hI ((mem_insR mgM hs _).2 (.inl rfl)) hk
 ·rename_i hk
  by_cases h : ∃ x ∈ l, skey x r2
  ·obtain ⟨x, hx, hx2⟩ := h
   rw [findA_some hs hx hx2]
   exact findA_some hI ((mem_insR mgM hs _).2 (.inr ⟨hx, fun h1 => hk (skey_trans (skey_symm h1) hx2)⟩)) hx2
  ·have hn : ∀ x ∈ l, ¬ skey x r2 := fun x hx hx2 => h ⟨x, hx, hx2⟩
   rw [findA_none hn]
   refine findA_none fun y hy => ?_
   rcases (mem_insR mgM hs y).1 hy with rfl | ⟨hy, _⟩
   ·exact fun h1 => hk h1
   ·exact hn y hy
theorem okL_ins {l : List RecV} (hs : Sorted l) (ho : okL l) {r : RecV} (hr : aggOk r.agg = true) : okL (insR mgM l r) := by
 intro y hy
 rcases (mem_insR mgM hs y).1 hy with rfl | ⟨hy, _⟩
 ·exact mgM_ok (findA_ok ho r) hr
 ·exact ho y hy
theorem insR_comm {l : List RecV} (hs : Sorted l) (ho : okL l) {r1 r2 : RecV} (h1 : aggOk r1.agg = true) (h2 : aggOk r2.agg = true) : insR mgM (insR mgM l r1) r2 = insR mgM (insR mgM l r2) r1 := by
 have hI1 := insR_sorted mgM (r := r1) hs
 have hI2 := insR_sorted mgM (r := r2) hs
 refine Sorted.ext (insR_sorted mgM hI1) (insR_sorted mgM hI2) (fun y => ?_)
 rw [mem_insR mgM hI1, mem_insR mgM hs, mem_insR mgM hI2, mem_insR mgM hs]
 by_cases hk : skey r1 r2
 ·have e : newR mgM (insR mgM l r1) r2 = newR mgM (insR mgM l r2) r1 := by
   unfold newR
   rw [findA_ins hs, findA_ins hs, if_pos hk, if_pos (skey_symm hk), findA_key hk, hk.1, hk.2, mgM_rot (findA_ok ho r2) h1 h2]
  rw [e]
  constructor
  ·rintro (h | ⟨h | ⟨h, hn1⟩, hn2⟩)
   ·exact .inl h
   ·exact absurd (h ▸ (newR_key mgM l r1 : skey _ _)) (fun h3 => hn2 (skey_trans h3 hk))
   ·exact .inr ⟨.inr ⟨h, hn2⟩, hn1⟩
  ·rintro (h | ⟨h | ⟨h, hn1⟩, hn2⟩)
   ·exact .inl h
   ·exact absurd (h ▸ (newR_key mgM l r2 : skey _ _)) (fun h3 => hn2 (skey_trans h3 (skey_symm hk)))
   ·exact .inr ⟨.inr ⟨h, hn2⟩, hn1⟩
 ·have hk' : ¬ skey r2 r1 := fun h => hk (skey_symm h)
  have e1 : newR mgM (insR mgM l r1) r2 = newR mgM l r2 := by
   unfold newR
   rw [findA_ins hs, if_neg hk]
  have e2 : newR mgM (insR mgM l r2) r1 = newR mgM l r1 := by
   unfold newR
   rw [findA_ins hs, if_neg hk']
  rw [e1, e2]
  constructor
  ·rintro (h | ⟨h | ⟨h, hn1⟩, hn2⟩)
   ·refine .inr ⟨.inl h, ?_⟩
    rw [h]
    exact fun h3 => hk' h3
   ·exact .inl h
   ·exact .inr ⟨.inr ⟨h, hn2⟩, hn1⟩
  ·rintro (h | ⟨h | ⟨h, hn1⟩, hn2⟩)
   ·refine .inr ⟨.inl h, ?_⟩
    rw [h]
    exact fun h3 => hk h3
   ·exact .inl h
   ·exact .inr ⟨.inr ⟨h, hn2⟩, hn1⟩

def goodL (l : List RecV) : Prop := Sorted l ∧ okL l
theorem addV_good {every : Int} {l : List RecV} (h : goodL l) (r : RecV) : goodL (addV every l r) := by
 unfold addV
 split
 ·rename_i hr
  unfold rightR at hr
  simp only [Bool.and_eq_true] at hr
  exact ⟨insR_sorted mgM h.1, okL_ins h.1 h.2 hr.2⟩
 ·exact h
theorem addV_comm {every : Int} {l : List RecV} (h : goodL l) (r1 r2 : RecV) : addV every (addV every l r1) r2 = addV every (addV every l r2) r1 := by
 unfold addV
 cases h1 : rightR every r1 <;> cases h2 : rightR every r2
 ·rfl
 ·rfl
 ·rfl
 ·have g1 : aggOk r1.agg = true := by unfold rightR at h1; simp only [Bool.and_eq_true] at h1; exact h1.2
  have g2 : aggOk r2.agg = true := by unfold rightR at h2; simp only [Bool.and_eq_true] at h2; exact h2.2
  exact insR_comm h.1 h.2 g1 g2
theorem stepL_good {X : TiersX} {l : List RecV} (h : goodL l) (s : SampV) (k : Nat) : goodL (stepL X s k l) := by
 unfold stepL
 split
 ·split
  ·exact addV_good h _
  ·exact h
 ·exact h
def goodT (X : TiersX) (tabs : List (List RecV)) : Prop := ∀ k, goodL (tabs.getD k [])
theorem good_nil : goodL [] := ⟨Sorted.nil, fun r hr => by cases hr⟩
theorem addT_getD (X : TiersX) (tabs : List (List RecV)) (s : SampV) (k : Nat) : (addT X tabs s).getD k [] = if k < X.tiers.length then stepL X s k (tabs.getD k []) else [] := by
 unfold addT
 rw [List.getD_eq_getElem?_getD, List.getElem?_map]
 split
 ·rename_i h; rw [List.getElem?_range h]; rfl
 ·rename_i h; rw [List.getElem?_eq_none (by simpa using h)]; rfl
theorem addT_good {X : TiersX} {tabs : List (List RecV)} (h : goodT X tabs) (s : SampV) : goodT X (addT X tabs s) := by
 intro k
 rw [addT_getD]
 split
 ·exact stepL_good (h k) s k
 ·exact good_nil
theorem putsT_good {X : TiersX} : ∀ {l : List SampV} {tabs : List (List RecV)}, goodT X tabs → goodT X (putsT X tabs l)
 | [], _, h => h
 | s :: l, _, h => putsT_good (l := l) (addT_good h s)
theorem putsT_cons (X : TiersX) (tabs : List (List RecV)) (s : SampV) (l : List SampV) : putsT X tabs (s :: l) = putsT X (addT X tabs s) l := rfl
end Go.Proofs.YtkfdgodngbinlaaGreatDoor
namespace Go.Proofs.YtkfdgodngbinlaaGreatDoor
set_option linter.all false
open Go.RowKit

theorem floor_emod {t e : Int} (he : 1 ≤ e) (h0 : -4611686018427387904 ≤ t) (he2 : e ≤ 1000000) : floorV t e = t - t % e := by
 obtain ⟨h1, h2, _, _⟩ := tmod_bd t e he
 have h := Int.tmod_add_mul_tdiv t e
 have hm : t % e = t.tmod e % e := by
  conv => lhs; rw [← h]
  rw [Int.add_mul_emod_self_left]
 have hv : t.tmod e % e = if t.tmod e < 0 then t.tmod e + e else t.tmod e := by
  split
  ·rw [← Int.add_emod_right]
   exact Int.emod_eq_of_lt (by omega) (by omega)
  ·exact Int.emod_eq_of_lt (by omega) (by omega)
 unfold floorV
 rw [if_neg (by omega), hm, hv]
 split <;> split <;> omega
theorem floor_mono {a b e : Int} (he : 1 ≤ e) (h0 : -4611686018427387904 ≤ a) (he2 : e ≤ 1000000) (hab : a ≤ b) : floorV a e ≤ floorV b e := by
 rw [floor_emod he h0 he2, floor_emod he (by omega) he2]
 have h1 := Int.mul_ediv_add_emod a e
 have h2 := Int.mul_ediv_add_emod b e
 have h3 : a / e ≤ b / e := Int.ediv_le_ediv (by omega) hab
 have h4 : e * (a / e) ≤ e * (b / e) := Int.mul_le_mul_of_nonneg_left h3 (by omega)
 omega
theorem back_mono {a b keep e : Int} (ha : 0 ≤ a) (hk : keep ≤ 1000000) (he2 : e ≤ 1000000) (hab : a ≤ b) : backV a keep e ≤ backV b keep e := by
 unfold backV
 by_cases hz : a < 0 ∨ keep < 0 ∨ e < 1
 ·rw [if_pos hz, if_pos (by omega)]
  exact Int.le_refl _
 ·rw [if_neg hz, if_neg (by omega)]
  have := floor_mono (a := a - keep) (b := b - keep) (e := e) (by omega) (by omega) he2 (by omega)
  omega
theorem from_mono {a b : Int} {l : List TierV} {fl : List Int} (hl : ∀ t ∈ l, t.keep ≤ 1000000 ∧ t.every ≤ 1000000) (ha : 0 ≤ a) (hab : a ≤ b) (k : Nat) : fromV a l fl k ≤ fromV b l fl k := by
 unfold fromV
 split
 ·rename_i x y hx hy
  have hb := back_mono (keep := x.keep) (e := y.every) ha (hl x (mem_of_get hx)).1 (hl y (mem_of_get hy)).2 hab
  simp only
  split <;> omega
 ·exact Int.le_refl _
theorem dropL_getD (N : Int) (X : TiersX) (k : Nat) (hk : k < X.tiers.length) : (dropL N X).getD k [] = keepT (startBelow (fromV N X.tiers X.floors k)) (X.tabs.getD k []) := by
 unfold dropL
 rw [List.getD_eq_getElem?_getD, List.getElem?_map, List.getElem?_range hk]
 rfl
theorem tickX_ok {X : TiersX} {n : Int} (h : tickE X n = 0) : tickX X n = { X with now := X.now + n, tabs := dropL (X.now + n) X } := by unfold tickX; rw [if_pos h]
end Go.Proofs.YtkfdgodngbinlaaGreatDoor
namespace Go.Proofs.YtkfdgodngbinlaaGreatDoor
set_option linter.all false
open Go.RowKit

def gridT (l : List TierV) (tabs : List (List RecV)) : Prop := ∀ k x, l[k]? = some x → ∀ r ∈ tabs.getD k [], validB r.name = true ∧ 0 ≤ r.start ∧ onB r.start x.every = true
structure GoodX (nm : ByteArray) (l : List TierV) (fl : List Int) (X : TiersX) (c : Nat) : Prop where
 name : X.name = nm
 tiers : X.tiers = l
 floors : X.floors = fl
 now : 0 ≤ X.now ∧ X.now ≤ 1099511627776
 tlen : X.tabs.length = l.length
 len : ∀ m ∈ X.tabs, m.length ≤ c
 good : goodT X X.tabs
 grid : gridT l X.tabs
theorem goodT_congr {X Y : TiersX} {tabs : List (List RecV)} (h : goodT X tabs) : goodT Y tabs := h
theorem addV_grid {every : Int} {l : List RecV} (hs : Sorted l) (h : ∀ r ∈ l, validB r.name = true ∧ 0 ≤ r.start ∧ onB r.start every = true) (r : RecV) : ∀ y ∈ addV every l r, validB y.name = true ∧ 0 ≤ y.start ∧ onB y.start every = true := by
 intro y hy
 unfold addV at hy
 split at hy
 ·rename_i hr
  unfold rightR at hr
  simp only [Bool.and_eq_true, decide_eq_true_eq] at hr
  rcases (mem_insR mgM hs y).1 hy with rfl | ⟨hy, _⟩
  ·exact ⟨hr.1.1.1, hr.1.1.2, hr.1.2⟩
  ·exact h y hy
 ·exact h y hy
theorem addT_grid {X : TiersX} {tabs : List (List RecV)} (hg : goodT X tabs) (h : gridT X.tiers tabs) (s : SampV) : gridT X.tiers (addT X tabs s) := by
 intro k x hx r hr
 rw [addT_getD, if_pos (List.getElem?_eq_some_iff.1 hx).1] at hr
 unfold stepL at hr
 rw [hx] at hr
 simp only at hr
 split at hr
 ·exact addV_grid (hg k).1 (h k x hx) _ r hr
 ·exact h k x hx r hr
theorem putsT_grid {X : TiersX} : ∀ {l : List SampV} {tabs : List (List RecV)}, goodT X tabs → gridT X.tiers tabs → gridT X.tiers (putsT X tabs l)
 | [], _, _, h => h
 | s :: l, _, hg, h => putsT_grid (l := l) (addT_good hg s) (addT_grid hg h s)
theorem getD_mem_or {L : List (List RecV)} (k : Nat) : L.getD k [] ∈ L ∨ L.getD k [] = [] := by
 rw [List.getD_eq_getElem?_getD]
 cases h : L[k]? with
 | none => exact .inr rfl
 | some m => exact .inl (mem_of_get h)
theorem addT_short {X : TiersX} {tabs : List (List RecV)} {c : Nat} (h : ∀ m ∈ tabs, m.length ≤ c) (s : SampV) : ∀ m ∈ addT X tabs s, m.length ≤ c + 1 := by
 intro m hm
 unfold addT at hm
 obtain ⟨k, _, rfl⟩ := List.mem_map.1 hm
 have h1 := stepL_len X s k (tabs.getD k [])
 have h2 : (tabs.getD k []).length ≤ c := by
  rcases getD_mem_or (L := tabs) k with h3 | h3
  ·exact h _ h3
  ·rw [h3]; exact Nat.zero_le _
 omega
theorem putsT_short {X : TiersX} : ∀ {l : List SampV} {tabs : List (List RecV)} {c : Nat}, (∀ m ∈ tabs, m.length ≤ c) → ∀ m ∈ putsT X tabs l, m.length ≤ c + l.length
 | [], _, _, h => h
 | s :: l, tabs, c, h => fun m hm => by
  have := putsT_short (l := l) (addT_short (X := X) h s) m hm
  rw [List.length_cons]
  omega
theorem putsT_tlen {X : TiersX} : ∀ {l : List SampV} {tabs : List (List RecV)}, tabs.length = X.tiers.length → (putsT X tabs l).length = X.tiers.length
 | [], _, h => h
 | s :: l, tabs, h => putsT_tlen (l := l) (tabs := addT X tabs s) (by unfold addT; rw [List.length_map, List.length_range])
theorem GoodX.new {nm : ByteArray} {l : List TierV} {now : Int} {fl : List Int} (h : newE nm l now fl = 0) : GoodX nm l fl (newX nm l now fl) 0 := by
 have hn : 0 ≤ now ∧ now ≤ 1099511627776 := by
  unfold newE at h
  split at h
  ·split at h
   ·omega
   ·omega
  ·omega
 have hg : ∀ k, (newX nm l now fl).tabs.getD k [] = [] := fun k => by
  show (l.map fun _ => ([] : List RecV)).getD k [] = []
  rw [List.getD_eq_getElem?_getD, List.getElem?_map]
  cases l[k]? <;> rfl
 refine ⟨rfl, rfl, rfl, hn, by simp [newX], fun m hm => ?_, fun k => ?_, fun k x _ r hr => ?_⟩
 ·have hm : m ∈ l.map fun _ => ([] : List RecV) := hm
  obtain ⟨_, _, rfl⟩ := List.mem_map.1 hm
  exact Nat.le_refl _
 ·rw [hg]; exact good_nil
 ·rw [hg] at hr; cases hr
theorem GoodX.put {nm : ByteArray} {l : List TierV} {fl : List Int} {X : TiersX} {c : Nat} (h : GoodX nm l fl X c) (s : List SampV) : GoodX nm l fl (putX X s) (c + 8) := by
 unfold putX
 split
 ·rename_i hE
  have h8 : s.length ≤ 8 := by
   unfold putE at hE
   split at hE
   ·omega
   ·split at hE <;> omega
  refine ⟨h.name, h.tiers, h.floors, h.now, ?_, fun m hm => ?_, ?_, ?_⟩
  ·rw [← h.tiers]; exact putsT_tlen (by rw [h.tlen, h.tiers])
  ·have := putsT_short (X := X) (l := s) h.len m hm
   omega
  ·exact goodT_congr (putsT_good h.good)
  ·have := putsT_grid (X := X) (l := s) h.good (by rw [h.tiers]; exact h.grid)
   rw [h.tiers] at this
   exact this
 ·exact ⟨h.name, h.tiers, h.floors, h.now, h.tlen, fun m hm => Nat.le_trans (h.len m hm) (Nat.le_add_right _ _), h.good, h.grid⟩
theorem keepT_good {f : RecV → Bool} {l : List RecV} (h : goodL l) : goodL (keepT f l) := ⟨h.1.filter _, fun r hr => h.2 r (List.mem_filter.1 hr).1⟩
theorem GoodX.tick {nm : ByteArray} {l : List TierV} {fl : List Int} {X : TiersX} {c : Nat} (h : GoodX nm l fl X c) (n : Int) : GoodX nm l fl (tickX X n) c := by
 unfold tickX
 split
 ·rename_i hE
  have hn : 0 ≤ n ∧ n ≤ 1099511627776 - X.now := by
   unfold tickE at hE
   split at hE
   ·omega
   ·split at hE <;> omega
  have h0 := h.now
  have hg : ∀ k, (dropL (X.now + n) X).getD k [] = if k < X.tiers.length then keepT (startBelow (fromV (X.now + n) X.tiers X.floors k)) (X.tabs.getD k []) else [] := fun k => by
   split
   ·rename_i hk; exact dropL_getD _ X k hk
   ·rename_i hk
    unfold dropL
    rw [List.getD_eq_getElem?_getD, List.getElem?_eq_none (by simpa using hk)]
    rfl
  refine ⟨h.name, h.tiers, h.floors, by simp only; omega, ?_, fun m hm => ?_, fun k => ?_, fun k x hx r hr => ?_⟩
  ·show (dropL _ X).length = _
   unfold dropL
   rw [List.length_map, List.length_range, h.tiers]
  ·have hm : m ∈ dropL (X.now + n) X := hm
   unfold dropL at hm
   obtain ⟨k, _, rfl⟩ := List.mem_map.1 hm
   have h1 : (keepT (startBelow (fromV (X.now + n) X.tiers X.floors k)) (X.tabs.getD k [])).length ≤ (X.tabs.getD k []).length := List.length_filter_le _ _
   have h2 : (X.tabs.getD k []).length ≤ c := by
    rcases getD_mem_or (L := X.tabs) k with h3 | h3
    ·exact h.len _ h3
    ·rw [h3]; exact Nat.zero_le _
   omega
  ·rw [hg]
   split
   ·exact keepT_good (h.good k)
   ·exact good_nil
  ·rw [hg] at hr
   split at hr
   ·exact h.grid k x hx r (List.mem_filter.1 hr).1
   ·cases hr
 ·exact h
end Go.Proofs.YtkfdgodngbinlaaGreatDoor
namespace Go.Proofs.YtkfdgodngbinlaaGreatDoor
set_option linter.all false
open Go.RowKit

structure PolOk (nm : ByteArray) (l : List TierV) : Prop where
 ck : checkB nm l = true
 wf : ∀ t ∈ l, t.wf
structure Tio (nm : ByteArray) (l : List TierV) (fl : List Int) (lo : Nat) (W : World) (t : Nat) (X : TiersX) (F : Nat → Prop) (c : Nat) : Prop where
 on : ∃ base, lo ≤ base ∧ TiersOn W t base X F
 good : GoodX nm l fl X c
section
variable {nm : ByteArray} {l : List TierV} {fl : List Int} {lo : Nat} {W W' : World} {t : Nat} {X : TiersX} {F : Nat → Prop} {c : Nat}
theorem PolOk.pos (p : PolOk nm l) : 0 < l.length := by have := (check_len p.ck).1; omega
theorem PolOk.five (p : PolOk nm l) : l.length ≤ 5 := (check_len p.ck).2
theorem Tio.pos (h : Tio nm l fl lo W t X F c) (p : PolOk nm l) : 0 < X.tiers.length := by rw [h.good.tiers]; exact p.pos
theorem Tio.five (h : Tio nm l fl lo W t X F c) (p : PolOk nm l) : X.tiers.length ≤ 1000 := by rw [h.good.tiers]; have := p.five; omega
theorem Tio.wf (h : Tio nm l fl lo W t X F c) (p : PolOk nm l) : ∀ x ∈ X.tiers, x.wf := by rw [h.good.tiers]; exact p.wf
theorem Tio.short (h : Tio nm l fl lo W t X F c) {m : Nat} (hc : c ≤ m) : ∀ y ∈ X.tabs, y.length ≤ m := fun y hy => Nat.le_trans (h.good.len y hy) hc
theorem Tio.now64 (h : Tio nm l fl lo W t X F c) : i64 X.now := by have := h.good.now; unfold i64; omega
theorem Tio.fr0 (h : Tio nm l fl lo W t X F c) (f : Fr (fun _ => False) W W') : Tio nm l fl lo W' t X F c := by
 obtain ⟨base, hb, ho⟩ := h.on
 exact ⟨⟨base, hb, ho.fr0 f⟩, h.good⟩
theorem Tio.ge (h : Tio nm l fl lo W t X F c) : ∀ j, F j → lo ≤ j ∧ j < W.heap.size := fun j hj => by
 obtain ⟨base, hb, ho⟩ := h.on
 have := ho.ge j hj
 omega
theorem Tio.apart {nm2 : ByteArray} {l2 : List TierV} {fl2 : List Int} {lo2 t2 c2 : Nat} {Y : TiersX} {F2 G : Nat → Prop} (h : Tio nm l fl lo W t X F c) (h2 : Tio nm2 l2 fl2 lo2 W t2 Y F2 c2) (hf : Fr G W W') (hs : ∀ j, G j → F2 j) (hd : ∀ j, F j → ¬ F2 j) : Tio nm l fl lo W' t X F c := by
 obtain ⟨base, hb, ho⟩ := h.on
 obtain ⟨base2, hb2, ho2⟩ := h2.on
 exact ⟨⟨base, hb, ho.apart ho2 hf hs hd⟩, h.good⟩
theorem Tio.below (h : Tio nm l fl lo W t X F c) (hlo : lo ≤ W.heap.size) (f : Fr F W W') : Below lo W W' := f.below_of hlo (fun j hj => (h.ge j hj).1)
theorem Tio.more (h : Tio nm l fl lo W t X F c) {d : Nat} (hd : c ≤ d) : Tio nm l fl lo W t X F d := ⟨h.on, ⟨h.good.name, h.good.tiers, h.good.floors, h.good.now, h.good.tlen, fun m hm => Nat.le_trans (h.good.len m hm) hd, h.good.good, h.good.grid⟩⟩
theorem newE_check {now : Int} (h : newE nm l now fl = 0) : checkB nm l = true := by
 unfold newE at h
 split at h
 ·assumption
 ·omega
theorem tio_new (hnm : nm.size ≤ maxLen) (hwf : ∀ t ∈ l, t.wf) (A : Option Addr) (n c : Nat) (now : Int) (hnow : -9223372036854775808 ≤ now ∧ now ≤ 9223372036854775807) (lo : Nat) (w : World) (hlo : lo ≤ w.heap.size) (hr : Rd w 4 A n (tcells l)) (hnc : n ≤ c) (hn : n ≤ 1099511627776) :
  Calls Tryz.prog 42 #[.agg #[.string nm, .slice A n c], .int .i64 now, .slice none 0 0] w fun r w' => ((newE nm l now [] = 0 → PolOk nm l ∧ ∃ t F, r = .returned (.tuple #[.pointer (some ⟨t, 0, none⟩), .int .i64 0]) ∧ Tio nm l [] lo w' t (newX nm l now []) F 0 ∧ ∀ j, F j → w.heap.size ≤ j) ∧ (newE nm l now [] ≠ 0 → r = .returned (.tuple #[.pointer none, .int .i64 (newE nm l now [])]))) ∧ Below w.heap.size w w' := by
 refine (tnew_any nm hnm l A n c now hnow [] none 0 0 w hr hnc hwf hn Rd.nil_ (by omega)).mono ?_
 rintro r w' ⟨⟨h1, h2⟩, hb⟩
 refine ⟨⟨fun h => ⟨⟨newE_check h, hwf⟩, ?_⟩, h2⟩, hb⟩
 obtain ⟨t, rfl, ha⟩ := h1 h
 obtain ⟨F, ho⟩ := ha.on
 exact ⟨t, F, rfl, ⟨⟨_, hlo, ho⟩, GoodX.new h⟩, fun j hj => (ho.ge j hj).1⟩
theorem tio_put (p : PolOk nm l) (h : Tio nm l fl lo W t X F c) (hc : c ≤ 1000000) (s : List SampV) (A : Option Addr) (n d : Nat) (hr : Rd W 3 A n (scells s)) (hsw : ∀ x ∈ s, x.wf) :
  Calls Tryz.prog 47 #[.pointer (some ⟨t, 0, none⟩), .slice A n d] W fun r w' => r = .returned (.int .i64 (putE X s)) ∧ Tio nm l fl lo w' t (putX X s) F (c + 8) ∧ Fr F W w' := by
 obtain ⟨base, hb, ho⟩ := h.on
 refine (tput_any t base X F s A n d W ho (h.pos p) (h.five p) (h.short hc) h.good.now (h.wf p) hr hsw).mono ?_
 rintro r w' ⟨rfl, h1, h2⟩
 exact ⟨rfl, ⟨⟨base, hb, h1⟩, h.good.put s⟩, h2.mono (fun _ h => .inl h.1)⟩
theorem tio_tick (p : PolOk nm l) (h : Tio nm l fl lo W t X F c) (hc : c ≤ 1000000) (n : Int) (hn : i64 n) :
  Calls Tryz.prog 44 #[.pointer (some ⟨t, 0, none⟩), .int .i64 n] W fun r w' => r = .returned (.int .i64 (tickE X n)) ∧ Tio nm l fl lo w' t (tickX X n) F c ∧ Fr F W w' := by
 obtain ⟨base, hb, ho⟩ := h.on
 refine (ttick_any t base X F n hn W ho (h.pos p) (h.five p) (h.short hc) h.good.now (h.wf p)).mono ?_
 rintro r w' ⟨rfl, h1, h2⟩
 exact ⟨rfl, ⟨⟨base, hb, h1⟩, h.good.tick n⟩, h2⟩
theorem tio_copy (p : PolOk nm l) (h : Tio nm l fl lo W t X F c) (hfl : fl.length ≤ 1099511627776) (lo2 : Nat) (hlo : lo2 ≤ W.heap.size) :
  Calls Tryz.prog 46 #[.pointer (some ⟨t, 0, none⟩)] W fun r w' => (∃ t' F', r = .returned (.pointer (some ⟨t', 0, none⟩)) ∧ Tio nm l fl lo2 w' t' X F' c ∧ ∀ j, F' j → W.heap.size ≤ j) ∧ Below W.heap.size W w' := by
 obtain ⟨base, hb, ho⟩ := h.on
 refine (tcopy_any t base X W ho.at_ (Nat.le_trans (h.five p) (by omega)) (by rw [h.good.floors]; exact hfl)).mono ?_
 rintro r w' ⟨⟨t', rfl, ha⟩, h2⟩
 obtain ⟨F', ho'⟩ := ha.on
 exact ⟨⟨t', F', rfl, ⟨⟨_, hlo, ho'⟩, h.good⟩, fun j hj => (ho'.ge j hj).1⟩, h2⟩
theorem tio_need (p : PolOk nm l) (h : Tio nm l fl lo W t X F c) (hc : c ≤ 1000000) :
  Calls Tryz.prog 49 #[.pointer (some ⟨t, 0, none⟩)] W fun r w' => r = .returned (.int .i64 (needX X : Nat)) ∧ Below W.heap.size W w' := by
 obtain ⟨base, hb, ho⟩ := h.on
 exact tneed_any t base X W ho.at_ (h.pos p) (h.five p) (h.short hc) (by rw [h.good.tiers]; exact fun x hx => (check_mem p.ck hx).2.2.2.2.2)
end
end Go.Proofs.YtkfdgodngbinlaaGreatDoor
