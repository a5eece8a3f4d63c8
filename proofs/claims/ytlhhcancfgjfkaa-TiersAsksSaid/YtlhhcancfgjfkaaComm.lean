/- The plain law of samples in whatever order. -/
import Derived.Test.YtlhhcancfgjfkaaSumLaw
namespace Go.Proofs.Ytlhhcancfgjfkaa
set_option linter.all false
open Go.RowKit

theorem bothV_ok {a b : AggV} (ha : aggOk a = true) (hb : aggOk b = true) : aggOk (bothV a b) = true := by
  obtain ⟨h1, h2, h3⟩ := aggOk_pos ha
  obtain ⟨k1, k2, k3⟩ := aggOk_pos hb
  unfold bothV
  rw [if_neg (by omega)]
  unfold aggOk
  simp only [Bool.and_eq_true, decide_eq_true_eq]
  split <;> omega
theorem bothV_comm {a b : AggV} (ha : aggOk a = true) (hb : aggOk b = true) : bothV a b = bothV b a := by
  obtain ⟨h1, h2, h3⟩ := aggOk_pos ha
  obtain ⟨k1, k2, k3⟩ := aggOk_pos hb
  unfold bothV
  rw [if_neg (show ¬ a.count = 0 by omega), if_neg (show ¬ b.count = 0 by omega), AggV.mk.injEq]
  refine ⟨?_, ?_, by omega, by omega, by omega⟩
  · split <;> split <;> omega
  · congr 1; omega
theorem bothV_rot {a b c : AggV} (ha : aggOk a = true) (hb : aggOk b = true) (hc : aggOk c = true) : bothV (bothV c a) b = bothV (bothV c b) a := by
  have ho1 := bothV_ok hc ha
  have ho2 := bothV_ok hc hb
  obtain ⟨h1, h2, h3⟩ := aggOk_pos ha
  obtain ⟨k1, k2, k3⟩ := aggOk_pos hb
  obtain ⟨m1, m2, m3⟩ := aggOk_pos hc
  have e1 : (bothV c a) = ⟨if c.count < 4611686018427387904 - a.count then c.count + a.count else 4611686018427387904, wrap64 (c.hi + a.hi + (c.lo + a.lo) / 18446744073709551616), (c.lo + a.lo) % 18446744073709551616, min c.min a.min, max c.max a.max⟩ := by
    unfold bothV
    rw [if_neg (by omega)]
  have e2 : (bothV c b) = ⟨if c.count < 4611686018427387904 - b.count then c.count + b.count else 4611686018427387904, wrap64 (c.hi + b.hi + (c.lo + b.lo) / 18446744073709551616), (c.lo + b.lo) % 18446744073709551616, min c.min b.min, max c.max b.max⟩ := by
    unfold bothV
    rw [if_neg (by omega)]
  have p1 := (aggOk_pos ho1).1
  have p2 := (aggOk_pos ho2).1
  rw [e1] at p1 ⊢
  rw [e2] at p2 ⊢
  unfold bothV
  simp only at p1 p2 ⊢
  rw [if_neg (show ¬ (if c.count < 4611686018427387904 - a.count then c.count + a.count else 4611686018427387904) = 0 by omega), if_neg (show ¬ (if c.count < 4611686018427387904 - b.count then c.count + b.count else 4611686018427387904) = 0 by omega), AggV.mk.injEq]
  refine ⟨?_, ?_, by omega, by omega, by omega⟩
  · repeat' split
    all_goals omega
  · unfold wrap64
    omega
theorem mgM_ok {o : Option AggV} {a : AggV} (ho : ∀ x, o = some x → aggOk x = true) (ha : aggOk a = true) : aggOk (mgM o a) = true := by
  cases o with
  | none => rw [mgM_none ha]; exact ha
  | some x => rw [mgM_some (ho x rfl) ha]; exact bothV_ok (ho x rfl) ha
theorem mgM_rot {o : Option AggV} {a b : AggV} (ho : ∀ x, o = some x → aggOk x = true) (ha : aggOk a = true) (hb : aggOk b = true) : mgM (some (mgM o a)) b = mgM (some (mgM o b)) a := by
  rw [mgM_some (mgM_ok ho ha) hb, mgM_some (mgM_ok ho hb) ha]
  cases o with
  | none => rw [mgM_none ha, mgM_none hb, bothV_comm ha hb]
  | some x => rw [mgM_some (ho x rfl) ha, mgM_some (ho x rfl) hb, bothV_rot ha hb (ho x rfl)]
theorem skey_symm {a b : RecV} (h : skey a b) : skey b a := ⟨h.1.symm, h.2.symm⟩
theorem skey_trans {a b c : RecV} (h : skey a b) (k : skey b c) : skey a c := ⟨h.1.trans k.1, h.2.trans k.2⟩
theorem findA_key {l : List RecV} {r r' : RecV} (h : skey r r') : findA l r = findA l r' := by
  unfold findA
  congr 2
  funext x
  refine decide_eq_decide.2 ⟨fun k => skey_trans k h, fun k => skey_trans k (skey_symm h)⟩
theorem findA_ok {l : List RecV} (ho : okL l) (r : RecV) : ∀ x, findA l r = some x → aggOk x = true := by
  intro x hx
  unfold findA at hx
  rw [Option.map_eq_some_iff] at hx
  obtain ⟨y, hy, rfl⟩ := hx
  exact ho y (List.mem_of_find?_eq_some hy)
theorem findA_ins {l : List RecV} (hs : Sorted l) (r1 r2 : RecV) : findA (insR mgM l r1) r2 = if skey r1 r2 then some (mgM (findA l r1) r1.agg) else findA l r2 := by
  have hI := insR_sorted mgM (r := r1) hs
  split
  · rename_i hk
    exact findA_some hI ((mem_insR mgM hs _).2 (.inl rfl)) hk
  · rename_i hk
    by_cases h : ∃ x ∈ l, skey x r2
    · obtain ⟨x, hx, hx2⟩ := h
      rw [findA_some hs hx hx2]
      exact findA_some hI ((mem_insR mgM hs _).2 (.inr ⟨hx, fun h1 => hk (skey_trans (skey_symm h1) hx2)⟩)) hx2
    · have hn : ∀ x ∈ l, ¬ skey x r2 := fun x hx hx2 => h ⟨x, hx, hx2⟩
      rw [findA_none hn]
      refine findA_none fun y hy => ?_
      rcases (mem_insR mgM hs y).1 hy with rfl | ⟨hy, _⟩
      · exact fun h1 => hk h1
      · exact hn y hy
theorem okL_ins {l : List RecV} (hs : Sorted l) (ho : okL l) {r : RecV} (hr : aggOk r.agg = true) : okL (insR mgM l r) := by
  intro y hy
  rcases (mem_insR mgM hs y).1 hy with rfl | ⟨hy, _⟩
  · exact mgM_ok (findA_ok ho r) hr
  · exact ho y hy
theorem insR_comm {l : List RecV} (hs : Sorted l) (ho : okL l) {r1 r2 : RecV} (h1 : aggOk r1.agg = true) (h2 : aggOk r2.agg = true) : insR mgM (insR mgM l r1) r2 = insR mgM (insR mgM l r2) r1 := by
  have hI1 := insR_sorted mgM (r := r1) hs
  have hI2 := insR_sorted mgM (r := r2) hs
  refine Sorted.ext (insR_sorted mgM hI1) (insR_sorted mgM hI2) (fun y => ?_)
  rw [mem_insR mgM hI1, mem_insR mgM hs, mem_insR mgM hI2, mem_insR mgM hs]
  by_cases hk : skey r1 r2
  · have e : newR mgM (insR mgM l r1) r2 = newR mgM (insR mgM l r2) r1 := by
      unfold newR
      rw [findA_ins hs, findA_ins hs, if_pos hk, if_pos (skey_symm hk), findA_key hk, hk.1, hk.2, mgM_rot (findA_ok ho r2) h1 h2]
    rw [e]
    constructor
    · rintro (h | ⟨h | ⟨h, hn1⟩, hn2⟩)
      · exact .inl h
      · exact absurd (h ▸ (newR_key mgM l r1 : skey _ _)) (fun h3 => hn2 (skey_trans h3 hk))
      · exact .inr ⟨.inr ⟨h, hn2⟩, hn1⟩
    · rintro (h | ⟨h | ⟨h, hn1⟩, hn2⟩)
      · exact .inl h
      · exact absurd (h ▸ (newR_key mgM l r2 : skey _ _)) (fun h3 => hn2 (skey_trans h3 (skey_symm hk)))
      · exact .inr ⟨.inr ⟨h, hn2⟩, hn1⟩
  · have hk' : ¬ skey r2 r1 := fun h => hk (skey_symm h)
    have e1 : newR mgM (insR mgM l r1) r2 = newR mgM l r2 := by
      unfold newR
      rw [findA_ins hs, if_neg hk]
    have e2 : newR mgM (insR mgM l r2) r1 = newR mgM l r1 := by
      unfold newR
      rw [findA_ins hs, if_neg hk']
    rw [e1, e2]
    constructor
    · rintro (h | ⟨h | ⟨h, hn1⟩, hn2⟩)
      · refine .inr ⟨.inl h, ?_⟩
        rw [h]
        exact fun h3 => hk' h3
      · exact .inl h
      · exact .inr ⟨.inr ⟨h, hn2⟩, hn1⟩
    · rintro (h | ⟨h | ⟨h, hn1⟩, hn2⟩)
      · refine .inr ⟨.inl h, ?_⟩
        rw [h]
        exact fun h3 => hk h3
      · exact .inl h
      · exact .inr ⟨.inr ⟨h, hn2⟩, hn1⟩

/-- A table that may be. -/
def goodL (l : List RecV) : Prop := Sorted l ∧ okL l
theorem addV_good {every : Int} {l : List RecV} (h : goodL l) (r : RecV) : goodL (addV every l r) := by
  unfold addV
  split
  · rename_i hr
    unfold rightR at hr
    simp only [Bool.and_eq_true] at hr
    exact ⟨insR_sorted mgM h.1, okL_ins h.1 h.2 hr.2⟩
  · exact h
theorem addV_comm {every : Int} {l : List RecV} (h : goodL l) (r1 r2 : RecV) : addV every (addV every l r1) r2 = addV every (addV every l r2) r1 := by
  unfold addV
  cases h1 : rightR every r1 <;> cases h2 : rightR every r2
  · rfl
  · rfl
  · rfl
  · have g1 : aggOk r1.agg = true := by unfold rightR at h1; simp only [Bool.and_eq_true] at h1; exact h1.2
    have g2 : aggOk r2.agg = true := by unfold rightR at h2; simp only [Bool.and_eq_true] at h2; exact h2.2
    exact insR_comm h.1 h.2 g1 g2
theorem stepL_good {X : TiersX} {l : List RecV} (h : goodL l) (s : SampV) (k : Nat) : goodL (stepL X s k l) := by
  unfold stepL
  split
  · split
    · exact addV_good h _
    · exact h
  · exact h
theorem stepL_comm {X : TiersX} {l : List RecV} (h : goodL l) (s1 s2 : SampV) (k : Nat) : stepL X s2 k (stepL X s1 k l) = stepL X s1 k (stepL X s2 k l) := by
  unfold stepL
  cases hx : X.tiers[k]? with
  | none => rfl
  | some x =>
    simp only
    cases c1 : (startV X.now X.tiers X.floors (k : Int) s1.time).2 <;> cases c2 : (startV X.now X.tiers X.floors (k : Int) s2.time).2
    · rfl
    · rfl
    · rfl
    · simp only [if_true]
      exact addV_comm h _ _
def goodT (X : TiersX) (tabs : List (List RecV)) : Prop := ∀ k, goodL (tabs.getD k [])
theorem good_nil : goodL [] := ⟨Sorted.nil, fun r hr => by cases hr⟩
theorem addT_getD (X : TiersX) (tabs : List (List RecV)) (s : SampV) (k : Nat) : (addT X tabs s).getD k [] = if k < X.tiers.length then stepL X s k (tabs.getD k []) else [] := by
  unfold addT
  rw [List.getD_eq_getElem?_getD, List.getElem?_map]
  split
  · rename_i h; rw [List.getElem?_range h]; rfl
  · rename_i h; rw [List.getElem?_eq_none (by simpa using h)]; rfl
theorem addT_good {X : TiersX} {tabs : List (List RecV)} (h : goodT X tabs) (s : SampV) : goodT X (addT X tabs s) := by
  intro k
  rw [addT_getD]
  split
  · exact stepL_good (h k) s k
  · exact good_nil
theorem putsT_good {X : TiersX} : ∀ {l : List SampV} {tabs : List (List RecV)}, goodT X tabs → goodT X (putsT X tabs l)
  | [], _, h => h
  | s :: l, _, h => putsT_good (l := l) (addT_good h s)
theorem addT_comm {X : TiersX} {tabs : List (List RecV)} (h : goodT X tabs) (s1 s2 : SampV) : addT X (addT X tabs s1) s2 = addT X (addT X tabs s2) s1 := by
  have e : ∀ a b : SampV, addT X (addT X tabs a) b = (List.range X.tiers.length).map fun k => stepL X b k (stepL X a k (tabs.getD k [])) := by
    intro a b
    rw [show addT X (addT X tabs a) b = (List.range X.tiers.length).map fun k => stepL X b k ((addT X tabs a).getD k []) from rfl]
    refine List.map_congr_left fun k hk => ?_
    rw [addT_getD, if_pos (List.mem_range.1 hk)]
  rw [e, e]
  refine List.map_congr_left fun k _ => stepL_comm (h k) s1 s2 k
theorem putsT_cons (X : TiersX) (tabs : List (List RecV)) (s : SampV) (l : List SampV) : putsT X tabs (s :: l) = putsT X (addT X tabs s) l := rfl
theorem putsT_late {X : TiersX} (s : SampV) : ∀ {l : List SampV} {tabs : List (List RecV)}, goodT X tabs → putsT X (addT X tabs s) l = addT X (putsT X tabs l) s
  | [], _, _ => rfl
  | y :: l, tabs, h => by
    rw [putsT_cons, putsT_cons, addT_comm h, putsT_late s (addT_good h y)]
theorem putsT_back {X : TiersX} : ∀ {l : List SampV} {tabs : List (List RecV)}, goodT X tabs → putsT X tabs l.reverse = putsT X tabs l
  | [], _, _ => rfl
  | y :: l, tabs, h => by
    rw [List.reverse_cons, putsT_snoc, putsT_back h, putsT_cons, putsT_late y h]
end Go.Proofs.Ytlhhcancfgjfkaa
