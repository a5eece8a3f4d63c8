/- The plain law of a table: records in order, one a place. -/
import Derived.Test.YtlhhcancfgjfkaaSegB
import Derived.Test.YtlhhcancfgjfkaaSame
namespace Go.Proofs.Ytlhhcancfgjfkaa
set_option linter.all false
open Go.RowKit

theorem bl_eq : ∀ x y : List UInt8, Op.bytesLess x y = decide (x < y)
  | [], [] => by simp [Op.bytesLess]
  | _ :: _, [] => by simp [Op.bytesLess]
  | [], _ :: _ => by simp [Op.bytesLess]
  | a :: x, b :: y => by
    rw [Op.bytesLess, bl_eq x y]
    simp only [List.cons_lt_cons_iff]
    by_cases h1 : a < b <;> by_cases h2 : a = b <;> by_cases h3 : x < y <;> simp [h1, h2, h3]

/-- One place stands ahead of another one. -/
def klt (a b : RecV) : Prop := a.name.toList < b.name.toList ∨ (a.name = b.name ∧ a.start < b.start)
/-- The same place. -/
def skey (a b : RecV) : Prop := a.name = b.name ∧ a.start = b.start
instance (a b : RecV) : Decidable (klt a b) := by unfold klt; infer_instance
instance (a b : RecV) : Decidable (skey a b) := by unfold skey; infer_instance

theorem cmpS_eq (a b : ByteArray) : cmpS a b = if a.toList < b.toList then -1 else if a = b then 0 else 1 := by
  unfold cmpS
  rw [bl_eq]
  by_cases h : a.toList < b.toList
  · simp [h]
  · by_cases h2 : a = b
    · subst h2; simp
    · have : a.toList ≠ b.toList := fun e => h2 (toList_inj e)
      simp [h, h2, this]
theorem cmpI_eq (a b : Int) : cmpI a b = if a < b then -1 else if a = b then 0 else 1 := by
  unfold cmpI
  by_cases h : a < b
  · simp [h]
  · by_cases h2 : b < a
    · have : a ≠ b := by omega
      simp [h, h2, this]
    · have : a = b := by omega
      simp [h, h2, this]
theorem recCmp_neg (a b : RecV) : recCmp a b < 0 ↔ klt a b := by
  unfold recCmp orI klt
  rw [cmpS_eq, cmpI_eq]
  by_cases h : a.name.toList < b.name.toList
  · simp [h]
  · by_cases h2 : a.name = b.name
    · by_cases h3 : a.start < b.start
      · simp [h, h2, h3]
      · by_cases h4 : a.start = b.start <;> simp [h, h2, h3, h4]
    · simp [h, h2]
theorem lessB_eq (a b : RecV) : lessB a b = decide (klt a b) := by
  unfold lessB
  simp only [recCmp_neg]
theorem klt_irrefl (a : RecV) : ¬ klt a a := by
  rintro (h | ⟨_, h⟩)
  · exact absurd h (List.lt_irrefl _)
  · omega
theorem klt_trans {a b c : RecV} (h : klt a b) (k : klt b c) : klt a c := by
  rcases h with h | ⟨h1, h2⟩ <;> rcases k with k | ⟨k1, k2⟩
  · exact .inl (List.lt_trans h k)
  · exact .inl (k1 ▸ h)
  · exact .inl (h1 ▸ k)
  · exact .inr ⟨h1.trans k1, by omega⟩
theorem klt_tri (a b : RecV) : klt a b ∨ skey a b ∨ klt b a := by
  by_cases h : a.name.toList < b.name.toList
  · exact .inl (.inl h)
  · by_cases h2 : b.name.toList < a.name.toList
    · exact .inr (.inr (.inl h2))
    · have hn : a.name = b.name := toList_inj (List.le_antisymm (List.not_lt.1 h2) (List.not_lt.1 h))
      rcases Int.lt_trichotomy a.start b.start with h3 | h3 | h3
      · exact .inl (.inr ⟨hn, h3⟩)
      · exact .inr (.inl ⟨hn, h3⟩)
      · exact .inr (.inr (.inr ⟨hn.symm, h3⟩))
theorem klt_key {a b c : RecV} (h : skey a b) : klt a c ↔ klt b c := by
  unfold klt; rw [h.1, h.2]
theorem klt_key' {a b c : RecV} (h : skey a b) : klt c a ↔ klt c b := by
  unfold klt; rw [h.1, h.2]
theorem klt_ne {a b : RecV} (h : klt a b) : ¬ skey a b := fun k => klt_irrefl b ((klt_key k).1 h)

/-- Records in order, one a place. -/
def Sorted (l : List RecV) : Prop := l.Pairwise klt
theorem Sorted.nil : Sorted [] := List.Pairwise.nil
theorem Sorted.tail {a : RecV} {l : List RecV} (h : Sorted (a :: l)) : Sorted l := (List.pairwise_cons.1 h).2
theorem Sorted.filter {l : List RecV} (h : Sorted l) (p : RecV → Bool) : Sorted (l.filter p) := List.Pairwise.filter p h
theorem Sorted.inj {l : List RecV} (h : Sorted l) {a b : RecV} (ha : a ∈ l) (hb : b ∈ l) (hk : skey a b) : a = b := by
  induction l with
  | nil => cases ha
  | cons x t ih =>
    obtain ⟨h1, h2⟩ := List.pairwise_cons.1 h
    rcases List.mem_cons.1 ha with rfl | ha' <;> rcases List.mem_cons.1 hb with rfl | hb'
    · rfl
    · exact absurd hk (klt_ne (h1 b hb'))
    · exact absurd ⟨hk.1.symm, hk.2.symm⟩ (klt_ne (h1 a ha'))
    · exact ih h2 ha' hb'
/-- Two rows in order with the same records are the same. -/
theorem Sorted.ext : ∀ {l m : List RecV}, Sorted l → Sorted m → (∀ r, r ∈ l ↔ r ∈ m) → l = m
  | [], [], _, _, _ => rfl
  | [], b :: _, _, _, h => by have := (h b).2 (by simp); cases this
  | a :: _, [], _, _, h => by have := (h a).1 (by simp); cases this
  | a :: l, b :: m, hl, hm, h => by
    obtain ⟨h1, h2⟩ := List.pairwise_cons.1 hl
    obtain ⟨k1, k2⟩ := List.pairwise_cons.1 hm
    have e : a = b := by
      rcases List.mem_cons.1 ((h a).1 (by simp)) with e | ha
      · exact e
      · rcases List.mem_cons.1 ((h b).2 (by simp)) with e | hb
        · exact e.symm
        · exact absurd (klt_trans (h1 b hb) (k1 a ha)) (klt_irrefl a)
    subst e
    rw [Sorted.ext h2 k2 (fun r => ?_)]
    constructor
    · intro hr
      rcases List.mem_cons.1 ((h r).1 (List.mem_cons_of_mem _ hr)) with e | hr'
      · subst e; exact absurd (h1 r hr) (klt_irrefl r)
      · exact hr'
    · intro hr
      rcases List.mem_cons.1 ((h r).2 (List.mem_cons_of_mem _ hr)) with e | hr'
      · subst e; exact absurd (k1 r hr) (klt_irrefl r)
      · exact hr'

/-- What stands at a record's place. -/
def findA (l : List RecV) (r : RecV) : Option AggV := (l.find? fun x => decide (skey x r)).map (·.agg)
/-- One record more: it goes to its place; mg: what is made of what stands there (or of none) and of it. -/
def insR (mg : Option AggV → AggV → AggV) : List RecV → RecV → List RecV
  | [], r => [⟨r.name, r.start, mg none r.agg⟩]
  | x :: l, r => if klt x r then x :: insR mg l r else if skey x r then ⟨r.name, r.start, mg (some x.agg) r.agg⟩ :: l else ⟨r.name, r.start, mg none r.agg⟩ :: x :: l
theorem findA_none {l : List RecV} {r : RecV} (h : ∀ x ∈ l, ¬ skey x r) : findA l r = none := by
  unfold findA
  rw [List.find?_eq_none.2 (fun x hx => by simpa using h x hx)]
  rfl
theorem findA_some {l : List RecV} (hs : Sorted l) {x r : RecV} (hx : x ∈ l) (hk : skey x r) : findA l r = some x.agg := by
  unfold findA
  cases hf : l.find? fun x => decide (skey x r) with
  | none =>
    have := List.find?_eq_none.1 hf x hx
    simp [hk] at this
  | some y =>
    have h1 := List.mem_of_find?_eq_some hf
    have h2 : skey y r := by simpa using List.find?_some hf
    rw [hs.inj h1 hx ⟨h2.1.trans hk.1.symm, h2.2.trans hk.2.symm⟩]
    rfl
/-- The record that stands there behind it. -/
def newR (mg : Option AggV → AggV → AggV) (l : List RecV) (r : RecV) : RecV := ⟨r.name, r.start, mg (findA l r) r.agg⟩
theorem newR_key (mg : Option AggV → AggV → AggV) (l : List RecV) (r : RecV) : skey (newR mg l r) r := ⟨rfl, rfl⟩
theorem mem_insR (mg : Option AggV → AggV → AggV) : ∀ {l : List RecV} {r : RecV}, Sorted l → ∀ y, y ∈ insR mg l r ↔ y = newR mg l r ∨ (y ∈ l ∧ ¬ skey y r)
  | [], r, _, y => by simp [insR, newR, findA]
  | x :: l, r, hs, y => by
    obtain ⟨h1, h2⟩ := List.pairwise_cons.1 hs
    unfold insR
    by_cases c1 : klt x r
    · have e : findA (x :: l) r = findA l r := by
        unfold findA
        rw [List.find?_cons_of_neg (by simpa using klt_ne c1)]
      rw [if_pos c1]
      have ih := mem_insR mg (r := r) h2 y
      have en : newR mg (x :: l) r = newR mg l r := by unfold newR; rw [e]
      rw [en, List.mem_cons, ih, List.mem_cons]
      have hne := klt_ne c1
      constructor
      · rintro (rfl | h | ⟨h, k⟩)
        · exact .inr ⟨.inl rfl, hne⟩
        · exact .inl h
        · exact .inr ⟨.inr h, k⟩
      · rintro (h | ⟨rfl | h, k⟩)
        · exact .inr (.inl h)
        · exact .inl rfl
        · exact .inr (.inr ⟨h, k⟩)
    · rw [if_neg c1]
      by_cases c2 : skey x r
      · rw [if_pos c2]
        have e : findA (x :: l) r = some x.agg := findA_some hs (by simp) c2
        have en : newR mg (x :: l) r = ⟨r.name, r.start, mg (some x.agg) r.agg⟩ := by unfold newR; rw [e]
        rw [en, List.mem_cons]
        constructor
        · rintro (h | h)
          · exact .inl h
          · exact .inr ⟨List.mem_cons_of_mem _ h, fun k => klt_ne (h1 y h) ⟨c2.1.trans k.1.symm, c2.2.trans k.2.symm⟩⟩
        · rintro (h | ⟨h, k⟩)
          · exact .inl h
          · rcases List.mem_cons.1 h with rfl | h
            · exact absurd c2 k
            · exact .inr h
      · rw [if_neg c2]
        have hr : klt r x := by
          rcases klt_tri x r with h | h | h
          · exact absurd h c1
          · exact absurd h c2
          · exact h
        have hall : ∀ z ∈ x :: l, ¬ skey z r := by
          intro z hz
          rcases List.mem_cons.1 hz with rfl | hz
          · exact c2
          · exact fun k => klt_ne (klt_trans hr (h1 z hz)) ⟨k.1.symm, k.2.symm⟩
        have en : newR mg (x :: l) r = ⟨r.name, r.start, mg none r.agg⟩ := by unfold newR; rw [findA_none hall]
        rw [en, List.mem_cons]
        constructor
        · rintro (h | h)
          · exact .inl h
          · exact .inr ⟨h, hall y h⟩
        · rintro (h | ⟨h, _⟩)
          · exact .inl h
          · exact .inr h
theorem insR_sorted (mg : Option AggV → AggV → AggV) : ∀ {l : List RecV} {r : RecV}, Sorted l → Sorted (insR mg l r)
  | [], r, _ => by simp [insR, Sorted]
  | x :: l, r, hs => by
    obtain ⟨h1, h2⟩ := List.pairwise_cons.1 hs
    unfold insR
    by_cases c1 : klt x r
    · rw [if_pos c1]
      refine List.pairwise_cons.2 ⟨fun y hy => ?_, insR_sorted mg h2⟩
      rcases (mem_insR mg h2 y).1 hy with rfl | ⟨hy, _⟩
      · exact (klt_key' (newR_key mg l r)).2 c1
      · exact h1 y hy
    · rw [if_neg c1]
      by_cases c2 : skey x r
      · rw [if_pos c2]
        exact List.pairwise_cons.2 ⟨fun y hy => (klt_key (a := ⟨r.name, r.start, mg (some x.agg) r.agg⟩) (b := x) ⟨c2.1.symm, c2.2.symm⟩).2 (h1 y hy), h2⟩
      · rw [if_neg c2]
        have hr : klt r x := by
          rcases klt_tri x r with h | h | h
          · exact absurd h c1
          · exact absurd h c2
          · exact h
        refine List.pairwise_cons.2 ⟨fun y hy => ?_, hs⟩
        rcases List.mem_cons.1 hy with rfl | hy
        · exact hr
        · exact klt_trans hr (h1 y hy)
end Go.Proofs.Ytlhhcancfgjfkaa
