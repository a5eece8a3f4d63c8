/- The plain law of sums: each tier has all samples. -/
import Derived.Test.YtbblmmneeafhgaaGreatTiersAsk
namespace Go.Proofs.YtbblmmneeafhgaaGreat
set_option linter.all false
open Go.RowKit

def cntL (l : List RecV) : Int := (l.map fun r => r.agg.count).sum
def loS (l : List RecV) : Int := (l.map fun r => r.agg.lo).sum
def okL (l : List RecV) : Prop := ∀ r ∈ l, aggOk r.agg = true
theorem cntL_cons (r : RecV) (l : List RecV) : cntL (r :: l) = r.agg.count + cntL l := by unfold cntL; rw [List.map_cons, List.sum_cons]
theorem loS_cons (r : RecV) (l : List RecV) : loS (r :: l) = r.agg.lo + loS l := by unfold loS; rw [List.map_cons, List.sum_cons]
theorem aggOk_pos {a : AggV} (h : aggOk a = true) : 1 ≤ a.count ∧ a.count ≤ 4611686018427387904 ∧ a.min ≤ a.max := by
 unfold aggOk at h
 simp only [Bool.and_eq_true, decide_eq_true_eq] at h
 exact ⟨h.1.1, h.1.2, h.2⟩
theorem okL_cnt {l : List RecV} (h : okL l) : (l.length : Int) ≤ cntL l := by
 induction l with
 | nil => simp [cntL]
 | cons r l ih =>
  have h1 := (aggOk_pos (h r (by simp))).1
  have h2 := ih (fun x hx => h x (List.mem_cons_of_mem _ hx))
  rw [cntL_cons, List.length_cons]
  omega
theorem aggOk_one (v : Int) : aggOk (aggOne v) = true := by
 unfold aggOk aggOne; simp
theorem bothV_0 (a : AggV) : bothV agg0 a = a := by unfold bothV agg0; simp
theorem aggOk_0 : aggOk agg0 = false := by decide
theorem mgM_none {a : AggV} (h : aggOk a = true) : mgM none a = a := by
 unfold mgM mergeL
 simp only [Option.getD_none, List.foldl_cons, List.foldl_nil, aggOk_0, h, if_true, bothV_0, Bool.false_eq_true, if_false]
theorem mgM_some {a b : AggV} (ha : aggOk a = true) (hb : aggOk b = true) : mgM (some a) b = bothV a b := by
 unfold mgM mergeL
 simp only [Option.getD_some, List.foldl_cons, List.foldl_nil, ha, hb, if_true, bothV_0]
theorem bothV_one {a : AggV} (v : Int) (ha : aggOk a = true) (hc : a.count ≤ 1000) : (bothV a (aggOne v)).count = a.count + 1 ∧ (bothV a (aggOne v)).lo % 18446744073709551616 = (a.lo + v) % 18446744073709551616 ∧ aggOk (bothV a (aggOne v)) = true := by
 obtain ⟨h1, h2, h3⟩ := aggOk_pos ha
 unfold bothV aggOne
 rw [if_neg (by omega)]
 rw [if_pos (by simp only; omega)]
 refine ⟨rfl, by simp only; omega, ?_⟩
 unfold aggOk
 simp only [Bool.and_eq_true, decide_eq_true_eq]
 omega
theorem insR_sums (nm : ByteArray) (st v : Int) : ∀ {l : List RecV}, okL l → cntL l ≤ 1000 → okL (insR mgM l ⟨nm, st, aggOne v⟩) ∧ cntL (insR mgM l ⟨nm, st, aggOne v⟩) = cntL l + 1 ∧ loS (insR mgM l ⟨nm, st, aggOne v⟩) % 18446744073709551616 = (loS l + v) % 18446744073709551616
 | [], _, _ => by
  unfold insR
  simp only [mgM_none (aggOk_one v)]
  refine ⟨?_, ?_, ?_⟩
  ·intro r hr
   rw [List.mem_singleton] at hr
   subst hr
   exact aggOk_one v
  ·simp [cntL, aggOne]
  ·simp only [loS, aggOne, List.map_cons, List.map_nil, List.sum_cons, List.sum_nil]
   omega
 | x :: l, ho, hc => by
  have hx := ho x (by simp)
  have ho' : okL l := fun r hr => ho r (List.mem_cons_of_mem _ hr)
  have hl0 := okL_cnt ho'
  obtain ⟨h1, h2, h3⟩ := aggOk_pos hx
  rw [cntL_cons] at hc
  unfold insR
  split
  ·obtain ⟨i1, i2, i3⟩ := insR_sums nm st v ho' (by omega)
   refine ⟨fun r hr => ?_, ?_, ?_⟩
   ·rcases List.mem_cons.1 hr with rfl | hr
    ·exact hx
    ·exact i1 r hr
   ·rw [cntL_cons, cntL_cons, i2]; omega
   ·rw [loS_cons, loS_cons]; omega
  ·split
   ·simp only [mgM_some hx (aggOk_one v)]
    obtain ⟨b1, b2, b3⟩ := bothV_one v hx (by omega)
    refine ⟨fun r hr => ?_, ?_, ?_⟩
    ·rcases List.mem_cons.1 hr with rfl | hr
     ·exact b3
     ·exact ho' r hr
    ·rw [cntL_cons, cntL_cons]; simp only; rw [b1]; omega
    ·rw [loS_cons, loS_cons]; simp only; omega
   ·simp only [mgM_none (aggOk_one v)]
    refine ⟨fun r hr => ?_, ?_, ?_⟩
    ·rcases List.mem_cons.1 hr with rfl | hr
     ·exact aggOk_one v
     ·exact ho r hr
    ·rw [cntL_cons, cntL_cons]; simp only [aggOne]; omega
    ·rw [loS_cons, loS_cons]; simp only [aggOne]; omega
theorem floor_on {t e : Int} (ht : 0 ≤ t) (he : 1 ≤ e) : 0 ≤ floorV t e ∧ floorV t e ≤ t ∧ onB (floorV t e) e = true := by
 obtain ⟨_, _, h3, _⟩ := tmod_bd t e he
 obtain ⟨h3, h4⟩ := h3 ht
 have hf : floorV t e = t - t.tmod e := by
  unfold floorV
  rw [if_neg (by omega), if_neg (by omega)]
 refine ⟨by omega, by omega, ?_⟩
 unfold onB
 have hz : (floorV t e).tmod e = 0 := by
  rw [hf, Int.tmod_eq_emod_of_nonneg (by omega), Int.tmod_eq_emod_of_nonneg ht]
  exact Int.emod_eq_zero_of_dvd (Int.dvd_self_sub_emod)
 simp [he, hz]

def sumT : List TierV := [⟨"a".toUTF8, 1, 900, 1⟩, ⟨"b".toUTF8, 4, 900, 3⟩, ⟨"c".toUTF8, 12, 900, 2⟩]
structure Summed (X : TiersX) (n S : Int) : Prop where
 now : X.now = 800
 tiers : X.tiers = sumT
 floors : X.floors = []
 len : X.tabs.length = 3
 ok : ∀ m ∈ X.tabs, okL m
 cnt : ∀ m ∈ X.tabs, cntL m = n
 lo : ∀ m ∈ X.tabs, loS m % 18446744073709551616 = S % 18446744073709551616
theorem putE_1 (X : TiersX) (s : SampV) : putE X [s] = takesV X.now X.tiers X.floors s := by
 unfold putE firstE
 simp only [List.length_singleton]
 rw [if_neg (by omega), if_neg (by omega)]
 by_cases h : takesV X.now X.tiers X.floors s = 0
 ·simp [List.find?, h]
 ·simp [List.find?, h]
theorem Summed.put {X : TiersX} {n S : Int} (h : Summed X n S) (hn : n ≤ 1000) (s : SampV) (ht : takesV 800 sumT [] s = 0) : Summed (putX X [s]) (n + 1) (S + s.value) := by
 have hE : putE X [s] = 0 := by rw [putE_1, h.now, h.tiers, h.floors, ht]
 have hT : putX X [s] = { X with tabs := addT X X.tabs s } := by
  unfold putX
  rw [if_pos hE]
  rfl
 have hv : validB s.name = true ∧ 0 ≤ s.time := by
  unfold takesV at ht
  split at ht
  ·assumption
  ·omega
 have hm : ∀ m ∈ addT X X.tabs s, ∃ l ∈ X.tabs, ∃ st, m = insR mgM l ⟨s.name, st, aggOne s.value⟩ := by
  intro m hm
  unfold addT at hm
  obtain ⟨k, hk, rfl⟩ := List.mem_map.1 hm
  have hk := List.mem_range.1 hk
  rw [h.tiers] at hk
  change k < 3 at hk
  have hkl : k < X.tabs.length := by rw [h.len]; exact hk
  refine ⟨X.tabs[k], List.getElem_mem hkl, ?_⟩
  have hx : ∃ x, sumT[k]? = some x ∧ 1 ≤ x.every ∧ fromI 800 sumT [] (k : Int) = 0 := by
   rcases k with _ | _ | _ | k
   ·exact ⟨_, rfl, by decide, by decide +kernel⟩
   ·exact ⟨_, rfl, by decide, by decide +kernel⟩
   ·exact ⟨_, rfl, by decide, by decide +kernel⟩
   ·omega
  obtain ⟨x, hx1, hx2, hx3⟩ := hx
  obtain ⟨f1, f2, f3⟩ := floor_on hv.2 hx2
  have hst : startV X.now X.tiers X.floors (k : Int) s.time = (floorV s.time x.every, true) := by
   unfold startV
   rw [h.now, h.tiers, h.floors, if_pos ⟨by omega, by show (k : Int) < ((3 : Nat) : Int); omega, hv.2⟩, Int.toNat_natCast, hx1]
   simp only [hx3]
   simp [f1]
  refine ⟨floorV s.time x.every, ?_⟩
  unfold stepL
  rw [hst, h.tiers, hx1]
  simp only [if_true]
  unfold addV rightR
  simp only [hv.1, f1, f3, aggOk_one, decide_true, Bool.and_true, if_true]
  rw [List.getD_eq_getElem?_getD, List.getElem?_eq_getElem hkl]
  rfl
 rw [hT]
 refine ⟨h.now, h.tiers, h.floors, ?_, ?_, ?_, ?_⟩
 ·show (addT X X.tabs s).length = 3
  unfold addT
  rw [List.length_map, List.length_range, h.tiers]
  rfl
 all_goals
  intro m hmm
  obtain ⟨l, hl, st, rfl⟩ := hm m hmm
  have hc := h.cnt l hl
  obtain ⟨i1, i2, i3⟩ := insR_sums s.name st s.value (h.ok l hl) (by omega)
 ·exact i1
 ·rw [i2, hc]
 ·have := h.lo l hl
  omega
theorem Summed.keep {X : TiersX} {n S : Int} (h : Summed X n S) (s : SampV) (ht : takesV 800 sumT [] s ≠ 0) : putX X [s] = X := by
 unfold putX
 rw [if_neg]
 rw [putE_1, h.now, h.tiers, h.floors]
 exact ht
theorem Summed.short {X : TiersX} {n S : Int} (h : Summed X n S) : ∀ m ∈ X.tabs, (m.length : Int) ≤ n := fun m hm => by
 have := okL_cnt (h.ok m hm)
 rw [h.cnt m hm] at this
 exact this
end Go.Proofs.YtbblmmneeafhgaaGreat
namespace Go.Proofs.YtbblmmneeafhgaaGreat
set_option linter.all false
open Go.RowKit

theorem bothV_ok {a b : AggV} (ha : aggOk a = true) (hb : aggOk b = true) : aggOk (bothV a b) = true := by
 obtain ⟨h1, h2, h3⟩ := aggOk_pos ha
 obtain ⟨k1, k2, k3⟩ := aggOk_pos hb
 unfold bothV
 rw [if_neg (by omega)]
 unfold aggOk
 simp only [Bool.and_eq_true, decide_eq_true_eq]
 split <;> omega
theorem mgM_ok {o : Option AggV} {a : AggV} (ho : ∀ x, o = some x → aggOk x = true) (ha : aggOk a = true) : aggOk (mgM o a) = true := by
 cases o with
 | none => rw [mgM_none ha]; exact ha
 | some x => rw [mgM_some (ho x rfl) ha]; exact bothV_ok (ho x rfl) ha
theorem findA_ok {l : List RecV} (ho : okL l) (r : RecV) : ∀ x, findA l r = some x → aggOk x = true := by
 intro x hx
 unfold findA at hx
 rw [Option.map_eq_some_iff] at hx
 obtain ⟨y, hy, rfl⟩ := hx
 exact ho y (List.mem_of_find?_eq_some hy)
theorem okL_ins {l : List RecV} (hs : Sorted l) (ho : okL l) {r : RecV} (hr : aggOk r.agg = true) : okL (insR mgM l r) := by
 intro y hy
 rcases (mem_insR mgM hs y).1 hy with rfl | ⟨hy, _⟩
 ·exact mgM_ok (findA_ok ho r) hr
 ·exact ho y hy
def goodL (l : List RecV) : Prop := Sorted l ∧ okL l
theorem addV_good {every : Int} {l : List RecV} (h : goodL l) (r : RecV) : goodL (addV every l r) := by
 unfold addV
 split
 ·rename_i hr
  unfold rightR at hr
  simp only [Bool.and_eq_true] at hr
  exact ⟨insR_sorted mgM h.1, okL_ins h.1 h.2 hr.2⟩
 ·exact h
theorem stepL_good {X : TiersX} {l : List RecV} (h : goodL l) (s : SampV) (k : Nat) : goodL (stepL X s k l) := by
 unfold stepL
 split
 ·split
  ·exact addV_good h _
  ·exact h
 ·exact h
def goodT (X : TiersX) (tabs : List (List RecV)) : Prop := ∀ k, goodL (tabs.getD k [])
theorem good_nil : goodL [] := ⟨Sorted.nil, fun r hr => by cases hr⟩
theorem addT_getD (X : TiersX) (tabs : List (List RecV)) (s : SampV) (k : Nat) : (addT X tabs s).getD k [] = if k < X.tiers.length then stepL X s k (tabs.getD k []) else [] := by
 unfold addT
 rw [List.getD_eq_getElem?_getD, List.getElem?_map]
 split
 ·rename_i h; rw [List.getElem?_range h]; rfl
 ·rename_i h; rw [List.getElem?_eq_none (by simpa using h)]; rfl
theorem addT_good {X : TiersX} {tabs : List (List RecV)} (h : goodT X tabs) (s : SampV) : goodT X (addT X tabs s) := by
 intro k
 rw [addT_getD]
 split
 ·exact stepL_good (h k) s k
 ·exact good_nil
theorem putsT_good {X : TiersX} : ∀ {l : List SampV} {tabs : List (List RecV)}, goodT X tabs → goodT X (putsT X tabs l)
 | [], _, h => h
 | s :: l, _, h => putsT_good (l := l) (addT_good h s)
theorem putsT_cons (X : TiersX) (tabs : List (List RecV)) (s : SampV) (l : List SampV) : putsT X tabs (s :: l) = putsT X (addT X tabs s) l := rfl
end Go.Proofs.YtbblmmneeafhgaaGreat
namespace Go.Proofs.YtbblmmneeafhgaaGreat
set_option linter.all false
open Go.RowKit

theorem floor_emod {t e : Int} (he : 1 ≤ e) (h0 : -4611686018427387904 ≤ t) (he2 : e ≤ 1000000) : floorV t e = t - t % e := by
 obtain ⟨h1, h2, _, _⟩ := tmod_bd t e he
 have h := Int.tmod_add_mul_tdiv t e
 have hm : t % e = t.tmod e % e := by
  conv => lhs; rw [← h]
  rw [Int.add_mul_emod_self_left]
 have hv : t.tmod e % e = if t.tmod e < 0 then t.tmod e + e else t.tmod e := by
  split
  ·rw [← Int.add_emod_right]
   exact Int.emod_eq_of_lt (by omega) (by omega)
  ·exact Int.emod_eq_of_lt (by omega) (by omega)
 unfold floorV
 rw [if_neg (by omega), hm, hv]
 split <;> split <;> omega
theorem floor_mono {a b e : Int} (he : 1 ≤ e) (h0 : -4611686018427387904 ≤ a) (he2 : e ≤ 1000000) (hab : a ≤ b) : floorV a e ≤ floorV b e := by
 rw [floor_emod he h0 he2, floor_emod he (by omega) he2]
 have h1 := Int.mul_ediv_add_emod a e
 have h2 := Int.mul_ediv_add_emod b e
 have h3 : a / e ≤ b / e := Int.ediv_le_ediv (by omega) hab
 have h4 : e * (a / e) ≤ e * (b / e) := Int.mul_le_mul_of_nonneg_left h3 (by omega)
 omega
theorem back_mono {a b keep e : Int} (ha : 0 ≤ a) (hk : keep ≤ 1000000) (he2 : e ≤ 1000000) (hab : a ≤ b) : backV a keep e ≤ backV b keep e := by
 unfold backV
 by_cases hz : a < 0 ∨ keep < 0 ∨ e < 1
 ·rw [if_pos hz, if_pos (by omega)]
  exact Int.le_refl _
 ·rw [if_neg hz, if_neg (by omega)]
  have := floor_mono (a := a - keep) (b := b - keep) (e := e) (by omega) (by omega) he2 (by omega)
  omega
theorem from_mono {a b : Int} {l : List TierV} {fl : List Int} (hl : ∀ t ∈ l, t.keep ≤ 1000000 ∧ t.every ≤ 1000000) (ha : 0 ≤ a) (hab : a ≤ b) (k : Nat) : fromV a l fl k ≤ fromV b l fl k := by
 unfold fromV
 split
 ·rename_i x y hx hy
  have hb := back_mono (keep := x.keep) (e := y.every) ha (hl x (mem_of_get hx)).1 (hl y (mem_of_get hy)).2 hab
  simp only
  split <;> omega
 ·exact Int.le_refl _
theorem dropL_getD (N : Int) (X : TiersX) (k : Nat) (hk : k < X.tiers.length) : (dropL N X).getD k [] = keepT (startBelow (fromV N X.tiers X.floors k)) (X.tabs.getD k []) := by
 unfold dropL
 rw [List.getD_eq_getElem?_getD, List.getElem?_map, List.getElem?_range hk]
 rfl
end Go.Proofs.YtbblmmneeafhgaaGreat
namespace Go.Proofs.YtbblmmneeafhgaaGreat
set_option linter.all false
open Go.RowKit

def gridT (l : List TierV) (tabs : List (List RecV)) : Prop := ∀ k x, l[k]? = some x → ∀ r ∈ tabs.getD k [], validB r.name = true ∧ 0 ≤ r.start ∧ onB r.start x.every = true
structure GoodX (nm : ByteArray) (l : List TierV) (fl : List Int) (X : TiersX) (c : Nat) : Prop where
 name : X.name = nm
 tiers : X.tiers = l
 floors : X.floors = fl
 now : 0 ≤ X.now ∧ X.now ≤ 1099511627776
 tlen : X.tabs.length = l.length
 len : ∀ m ∈ X.tabs, m.length ≤ c
 good : goodT X X.tabs
 grid : gridT l X.tabs
theorem goodT_congr {X Y : TiersX} {tabs : List (List RecV)} (h : goodT X tabs) : goodT Y tabs := h
theorem addV_grid {every : Int} {l : List RecV} (hs : Sorted l) (h : ∀ r ∈ l, validB r.name = true ∧ 0 ≤ r.start ∧ onB r.start every = true) (r : RecV) : ∀ y ∈ addV every l r, validB y.name = true ∧ 0 ≤ y.start ∧ onB y.start every = true := by
 intro y hy
 unfold addV at hy
 split at hy
 ·rename_i hr
  unfold rightR at hr
  simp only [Bool.and_eq_true, decide_eq_true_eq] at hr
  rcases (mem_insR mgM hs y).1 hy with rfl | ⟨hy, _⟩
  ·exact ⟨hr.1.1.1, hr.1.1.2, hr.1.2⟩
  ·exact h y hy
 ·exact h y hy
theorem addT_grid {X : TiersX} {tabs : List (List RecV)} (hg : goodT X tabs) (h : gridT X.tiers tabs) (s : SampV) : gridT X.tiers (addT X tabs s) := by
 intro k x hx r hr
 rw [addT_getD, if_pos (List.getElem?_eq_some_iff.1 hx).1] at hr
 unfold stepL at hr
 rw [hx] at hr
 simp only at hr
 split at hr
 ·exact addV_grid (hg k).1 (h k x hx) _ r hr
 ·exact h k x hx r hr
theorem putsT_grid {X : TiersX} : ∀ {l : List SampV} {tabs : List (List RecV)}, goodT X tabs → gridT X.tiers tabs → gridT X.tiers (putsT X tabs l)
 | [], _, _, h => h
 | s :: l, _, hg, h => putsT_grid (l := l) (addT_good hg s) (addT_grid hg h s)
theorem getD_mem_or {L : List (List RecV)} (k : Nat) : L.getD k [] ∈ L ∨ L.getD k [] = [] := by
 rw [List.getD_eq_getElem?_getD]
 cases h : L[k]? with
 | none => exact .inr rfl
 | some m => exact .inl (mem_of_get h)
theorem addT_short {X : TiersX} {tabs : List (List RecV)} {c : Nat} (h : ∀ m ∈ tabs, m.length ≤ c) (s : SampV) : ∀ m ∈ addT X tabs s, m.length ≤ c + 1 := by
 intro m hm
 unfold addT at hm
 obtain ⟨k, _, rfl⟩ := List.mem_map.1 hm
 have h1 := stepL_len X s k (tabs.getD k [])
 have h2 : (tabs.getD k []).length ≤ c := by
  rcases getD_mem_or (L := tabs) k with h3 | h3
  ·exact h _ h3
  ·rw [h3]; exact Nat.zero_le _
 omega
theorem putsT_short {X : TiersX} : ∀ {l : List SampV} {tabs : List (List RecV)} {c : Nat}, (∀ m ∈ tabs, m.length ≤ c) → ∀ m ∈ putsT X tabs l, m.length ≤ c + l.length
 | [], _, _, h => h
 | s :: l, tabs, c, h => fun m hm => by
  have := putsT_short (l := l) (addT_short (X := X) h s) m hm
  rw [List.length_cons]
  omega
theorem putsT_tlen {X : TiersX} : ∀ {l : List SampV} {tabs : List (List RecV)}, tabs.length = X.tiers.length → (putsT X tabs l).length = X.tiers.length
 | [], _, h => h
 | s :: l, tabs, h => putsT_tlen (l := l) (tabs := addT X tabs s) (by unfold addT; rw [List.length_map, List.length_range])
theorem GoodX.new {nm : ByteArray} {l : List TierV} {now : Int} {fl : List Int} (h : newE nm l now fl = 0) : GoodX nm l fl (newX nm l now fl) 0 := by
 have hn : 0 ≤ now ∧ now ≤ 1099511627776 := by
  unfold newE at h
  split at h
  ·split at h
   ·omega
   ·omega
  ·omega
 have hg : ∀ k, (newX nm l now fl).tabs.getD k [] = [] := fun k => by
  show (l.map fun _ => ([] : List RecV)).getD k [] = []
  rw [List.getD_eq_getElem?_getD, List.getElem?_map]
  cases l[k]? <;> rfl
 refine ⟨rfl, rfl, rfl, hn, by simp [newX], fun m hm => ?_, fun k => ?_, fun k x _ r hr => ?_⟩
 ·have hm : m ∈ l.map fun _ => ([] : List RecV) := hm
  obtain ⟨_, _, rfl⟩ := List.mem_map.1 hm
  exact Nat.le_refl _
 ·rw [hg]; exact good_nil
 ·rw [hg] at hr; cases hr
theorem GoodX.put {nm : ByteArray} {l : List TierV} {fl : List Int} {X : TiersX} {c : Nat} (h : GoodX nm l fl X c) (s : List SampV) : GoodX nm l fl (putX X s) (c + 8) := by
 unfold putX
 split
 ·rename_i hE
  have h8 : s.length ≤ 8 := by
   unfold putE at hE
   split at hE
   ·omega
   ·split at hE <;> omega
  refine ⟨h.name, h.tiers, h.floors, h.now, ?_, fun m hm => ?_, ?_, ?_⟩
  ·rw [← h.tiers]; exact putsT_tlen (by rw [h.tlen, h.tiers])
  ·have := putsT_short (X := X) (l := s) h.len m hm
   omega
  ·exact goodT_congr (putsT_good h.good)
  ·have := putsT_grid (X := X) (l := s) h.good (by rw [h.tiers]; exact h.grid)
   rw [h.tiers] at this
   exact this
 ·exact ⟨h.name, h.tiers, h.floors, h.now, h.tlen, fun m hm => Nat.le_trans (h.len m hm) (Nat.le_add_right _ _), h.good, h.grid⟩
theorem keepT_good {f : RecV → Bool} {l : List RecV} (h : goodL l) : goodL (keepT f l) := ⟨h.1.filter _, fun r hr => h.2 r (List.mem_filter.1 hr).1⟩
theorem GoodX.tick {nm : ByteArray} {l : List TierV} {fl : List Int} {X : TiersX} {c : Nat} (h : GoodX nm l fl X c) (n : Int) : GoodX nm l fl (tickX X n) c := by
 unfold tickX
 split
 ·rename_i hE
  have hn : 0 ≤ n ∧ n ≤ 1099511627776 - X.now := by
   unfold tickE at hE
   split at hE
   ·omega
   ·split at hE <;> omega
  have h0 := h.now
  have hg : ∀ k, (dropL (X.now + n) X).getD k [] = if k < X.tiers.length then keepT (startBelow (fromV (X.now + n) X.tiers X.floors k)) (X.tabs.getD k []) else [] := fun k => by
   split
   ·rename_i hk; exact dropL_getD _ X k hk
   ·rename_i hk
    unfold dropL
    rw [List.getD_eq_getElem?_getD, List.getElem?_eq_none (by simpa using hk)]
    rfl
  refine ⟨h.name, h.tiers, h.floors, by simp only; omega, ?_, fun m hm => ?_, fun k => ?_, fun k x hx r hr => ?_⟩
  ·show (dropL _ X).length = _
   unfold dropL
   rw [List.length_map, List.length_range, h.tiers]
  ·have hm : m ∈ dropL (X.now + n) X := hm
   unfold dropL at hm
   obtain ⟨k, _, rfl⟩ := List.mem_map.1 hm
   have h1 : (keepT (startBelow (fromV (X.now + n) X.tiers X.floors k)) (X.tabs.getD k [])).length ≤ (X.tabs.getD k []).length := List.length_filter_le _ _
   have h2 : (X.tabs.getD k []).length ≤ c := by
    rcases getD_mem_or (L := X.tabs) k with h3 | h3
    ·exact h.len _ h3
    ·rw [h3]; exact Nat.zero_le _
   omega
  ·rw [hg]
   split
   ·exact keepT_good (h.good k)
   ·exact good_nil
  ·rw [hg] at hr
   split at hr
   ·exact h.grid k x hx r (List.mem_filter.1 hr).1
   ·cases hr
 ·exact h
end Go.Proofs.YtbblmmneeafhgaaGreat
