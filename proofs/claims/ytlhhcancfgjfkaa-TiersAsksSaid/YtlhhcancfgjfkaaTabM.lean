/- A table's map: records in order, as a map. -/
import Derived.Test.YtlhhcancfgjfkaaTabLaw
import Derived.Test.YtlhhcancfgjfkaaAggM
import Derived.Maps.RangeWalk
import Derived.Maps.Views
import Derived.Maps.Ext
import Derived.DeepKeys5
namespace Go.Proofs.Ytlhhcancfgjfkaa
set_option linter.all false
open Go.RowKit
open Go.Maps (Keyed)

def placeV (n : ByteArray) (s : Int) : Value := .agg #[.string n, .int .i64 s]
def encA (a : AggV) : DataW Unit := .agg [.lit (.int .i64 a.count), .lit (.int .i64 a.hi), .lit (.int .u64 a.lo), .lit (.int .i64 a.min), .lit (.int .i64 a.max)]
/-- How an api.Agg in a map reads. -/
def aggR : Value → Option (DataW Unit × List MemPlace)
  | .agg ⟨[.int .i64 c, .int .i64 h, .int .u64 l, .int .i64 m, .int .i64 x]⟩ => some (encA ⟨c, h, l, m, x⟩, [])
  | _ => none
theorem aggR_val (a : AggV) : aggR a.val = some (encA a, []) := rfl
theorem aggR_inv {v : Value} {y : DataW Unit × List MemPlace} (h : aggR v = some y) : ∃ a : AggV, v = a.val ∧ y = (encA a, []) := by
  unfold aggR at h
  split at h
  · rename_i c h' l m x
    exact ⟨⟨c, h', l, m, x⟩, rfl, (Option.some.inj h).symm⟩
  · cases h
theorem encA_inj {a b : AggV} (h : encA a = encA b) : a = b := by
  obtain ⟨_, _, _, _, _⟩ := a
  obtain ⟨_, _, _, _, _⟩ := b
  simp [encA] at h
  obtain ⟨rfl, rfl, rfl, rfl, rfl⟩ := h
  rfl

theorem laidOutT : laidOutB Try.prog = true := by kernel_rfl
theorem placeKeyed : Keyed Try.prog 118 := Keyed.of_law (deep_law_gate laidOutT (of_decide_eq_true (by kernel_rfl)) (of_decide_eq_true (by kernel_rfl)) (by kernel_rfl) (by kernel_rfl))

theorem key_place {n : ByteArray} {s : Int} (hn : n.size ≤ maxLen) (hs : in64 s) : keyOf Try.prog 118 (placeV n s) = some (.string (keyBytes [.string n.data.toList, .int .i64 s])) := by
  have hk : Try.prog.keyType 118 = true := by kernel_rfl
  have hc : Try.prog.cellsOf 118 = 2 := by kernel_rfl
  have hcs : Try.prog.cellsOf 9 = 1 := by kernel_rfl
  have hci : Try.prog.cellsOf 3 = 1 := by kernel_rfl
  have h0 : 0 < Try.prog.types.size := of_decide_eq_true (by kernel_rfl)
  obtain ⟨m, hm⟩ : ∃ m, Try.prog.types.size = m + 1 := ⟨Try.prog.types.size - 1, by omega⟩
  have hw : (Lit.int .i64 s).wf = true := by
    obtain ⟨h1, h2⟩ := hs
    simp [Lit.wf, IntKind.min, IntKind.max, IntKind.bits, IntKind.signed]
    omega
  have hf : (placeV n s).formed Try.prog 118 = true := by simp [placeV, Value.formed, Try.underlying118, hc]
  unfold keyOf
  rw [Try.underlying118]
  simp only
  rw [if_pos (by rw [hk, hf]; rfl), hm]
  simp [placeV, Value.cells, Program.keyLits, Try.underlying118, Try.underlying9, Try.underlying3, hc, hcs, hci, hn, hw]

/-- The key of a record's place. -/
def kl (r : RecV) : Lit := .string (keyBytes [.string r.name.data.toList, .int .i64 r.start])
theorem kl_some {r : RecV} (h : r.wf) : keyOf Try.prog 118 (placeV r.name r.start) = some (kl r) := key_place h.2.2 h.1
theorem kl_key {a b : RecV} (h : skey a b) : kl a = kl b := by unfold kl; rw [h.1, h.2]
theorem kl_inj {a b : RecV} (ha : a.wf) (hb : b.wf) (h : kl a = kl b) : skey a b := by
  have h2 := kl_some hb
  rw [← h] at h2
  have h1 := placeKeyed.inj (kl_some ha) h2
  clear h2
  simp [placeV] at h1
  exact h1
theorem kl_isKey (a : RecV) : WideAt.IsKeyLit (kl a) := trivial

theorem insR_len (mg : Option AggV → AggV → AggV) : ∀ {l : List RecV} {r : RecV}, Sorted l → (insR mg l r).length = if (findA l r).isSome then l.length else l.length + 1
  | [], r, _ => by simp [insR, findA]
  | x :: l, r, hs => by
    obtain ⟨h1, h2⟩ := List.pairwise_cons.1 hs
    unfold insR
    by_cases c1 : klt x r
    · have e : findA (x :: l) r = findA l r := by
        unfold findA
        rw [List.find?_cons_of_neg (by simpa using klt_ne c1)]
      rw [if_pos c1, e, List.length_cons, insR_len mg h2, List.length_cons]
      split <;> rfl
    · rw [if_neg c1]
      by_cases c2 : skey x r
      · rw [if_pos c2, findA_some hs (by simp) c2]
        simp
      · rw [if_neg c2]
        have hr : klt r x := by
          rcases klt_tri x r with h | h | h
          · exact absurd h c1
          · exact absurd h c2
          · exact h
        rw [findA_none]
        · simp
        · intro z hz
          rcases List.mem_cons.1 hz with rfl | hz
          · exact c2
          · exact fun k => klt_ne (klt_trans hr (h1 z hz)) ⟨k.1.symm, k.2.symm⟩
theorem strike_len : ∀ {l : List RecV} {r : RecV}, Sorted l → r ∈ l → (l.filter fun x => !decide (skey x r)).length + 1 = l.length
  | [], _, _, h => by cases h
  | x :: l, r, hs, h => by
    obtain ⟨h1, h2⟩ := List.pairwise_cons.1 hs
    by_cases hx : skey x r
    · have e : x = r := hs.inj (by simp) h hx
      subst e
      rw [List.filter_cons_of_neg (by simp [hx]), List.filter_eq_self.2 (fun y hy => by simpa using fun k => klt_ne (h1 y hy) ⟨k.1.symm, k.2.symm⟩)]
      rfl
    · rw [List.filter_cons_of_pos (by simp [hx]), List.length_cons, List.length_cons]
      rcases List.mem_cons.1 h with rfl | h
      · exact absurd ⟨rfl, rfl⟩ hx
      · rw [strike_len h2 h]

/-- The records l stand in the map D. -/
structure TabD (l : List RecV) (D : DataW Unit) : Prop where
  tidy : Maps.Tidy D
  sorted : Sorted l
  wf : ∀ r ∈ l, r.wf
  at_ : ∀ r ∈ l, ∀ z, D.atKey (kl r) z = encA r.agg
  has : ∀ k, Maps.has D k = true → ∃ r ∈ l, k = kl r
  size : Maps.size D = l.length
theorem TabD.nil : TabD [] (.map []) := ⟨Maps.tidy_empty, Sorted.nil, fun _ h => (by cases h), fun _ h => (by cases h), fun k h => (by simp [Maps.has_eq] at h), rfl⟩
theorem TabD.hasNo {l : List RecV} {D : DataW Unit} (h : TabD l D) {r : RecV} (hr : r.wf) (hn : ∀ x ∈ l, ¬ skey x r) : Maps.has D (kl r) = false := by
  cases hb : Maps.has D (kl r)
  · rfl
  · obtain ⟨x, hx, e⟩ := h.has _ hb
    exact absurd (kl_inj (h.wf x hx) hr e.symm) (hn x hx)
theorem TabD.hasYes {l : List RecV} {D : DataW Unit} (h : TabD l D) {x : RecV} (hx : x ∈ l) : Maps.has D (kl x) = true := Maps.has_true_of_atKey (h.at_ x hx)
theorem TabD.find {l : List RecV} {D : DataW Unit} (h : TabD l D) {r : RecV} (hr : r.wf) (z : DataW Unit) : D.atKey (kl r) z = match findA l r with | some a => encA a | none => z := by
  by_cases hx : ∃ x ∈ l, skey x r
  · obtain ⟨x, hx, hk⟩ := hx
    rw [findA_some h.sorted hx hk, ← kl_key hk, h.at_ x hx]
  · have hn : ∀ x ∈ l, ¬ skey x r := fun x hx' hk => hx ⟨x, hx', hk⟩
    rw [findA_none hn, Maps.atKey_of_not_has (h.hasNo hr hn)]
theorem findA_isSome {l : List RecV} (hs : Sorted l) {r : RecV} : (findA l r).isSome = true ↔ ∃ x ∈ l, skey x r := by
  constructor
  · intro h
    refine Classical.byContradiction fun hn => ?_
    rw [findA_none (fun x hx hk => hn ⟨x, hx, hk⟩)] at h
    cases h
  · rintro ⟨x, hx, hk⟩
    rw [findA_some hs hx hk]; rfl
theorem TabD.put {l : List RecV} {D : DataW Unit} (h : TabD l D) {r : RecV} (hr : r.wf) (mg : Option AggV → AggV → AggV) (hw : (newR mg l r).wf) : TabD (insR mg l r) (D.put (kl r) (encA (newR mg l r).agg)) := by
  have hk := newR_key mg l r
  refine ⟨h.tidy.put (kl_isKey r) _, insR_sorted mg h.sorted, fun x hx => ?_, fun x hx z => ?_, fun k hk' => ?_, ?_⟩
  · rcases (mem_insR mg h.sorted x).1 hx with rfl | ⟨hx, _⟩
    · exact hw
    · exact h.wf x hx
  · rcases (mem_insR mg h.sorted x).1 hx with rfl | ⟨hx, hne⟩
    · rw [kl_key hk, Maps.atKey_put_same h.tidy.isMap (kl_isKey r)]
    · rw [Maps.atKey_put_other (fun e => hne (kl_inj (h.wf x hx) hr e)), h.at_ x hx]
  · by_cases e : k = kl r
    · exact ⟨_, (mem_insR mg h.sorted _).2 (.inl rfl), e.trans (kl_key hk).symm⟩
    · rw [Maps.has_put_other e] at hk'
      obtain ⟨x, hx, rfl⟩ := h.has k hk'
      exact ⟨x, (mem_insR mg h.sorted x).2 (.inr ⟨hx, fun hs => e (kl_key hs)⟩), rfl⟩
  · rw [Maps.size_put h.tidy, insR_len mg h.sorted, h.size]
    by_cases hx : ∃ x ∈ l, skey x r
    · rw [if_pos ((findA_isSome h.sorted).2 hx)]
      obtain ⟨x, hx, hs⟩ := hx
      rw [if_pos (by rw [← kl_key hs]; exact h.hasYes hx)]
    · have hn : ∀ x ∈ l, ¬ skey x r := fun x hx' hk => hx ⟨x, hx', hk⟩
      rw [findA_none hn, if_neg (by rw [h.hasNo hr hn]; simp)]
      rfl
theorem TabD.strike {l : List RecV} {D : DataW Unit} (h : TabD l D) {r : RecV} (hr : r ∈ l) : TabD (l.filter fun x => !decide (skey x r)) (D.del (kl r)) := by
  have hwr := h.wf r hr
  refine ⟨h.tidy.del _, h.sorted.filter _, fun x hx => h.wf x (List.mem_filter.1 hx).1, fun x hx z => ?_, fun k hk => ?_, ?_⟩
  · obtain ⟨hx, hne⟩ := List.mem_filter.1 hx
    have hne : ¬ skey x r := by simpa using hne
    rw [Maps.atKey_del_other (fun e => hne (kl_inj (h.wf x hx) hwr e)), h.at_ x hx]
  · by_cases e : k = kl r
    · subst e; rw [Maps.has_del_same] at hk; cases hk
    · rw [Maps.has_del_other e] at hk
      obtain ⟨x, hx, rfl⟩ := h.has k hk
      exact ⟨x, List.mem_filter.2 ⟨hx, by simpa using fun hs => e (kl_key hs)⟩, rfl⟩
  · have h1 := Maps.size_del (k := kl r) h.tidy
    rw [if_pos (h.hasYes hr), h.size] at h1
    have h2 := strike_len h.sorted hr
    omega

/-- Block b is a map of the records l. -/
def OwnsT (w : World) (b : Nat) (l : List RecV) : Prop := ∃ D, w.ownsMap Try.prog 118 aggR b l.length D ∧ TabD l D
theorem ownsMap_len {w : World} {b n : Nat} {D : DataW Unit} (h : w.ownsMap Try.prog 118 aggR b n D) : w.ownsMap Try.prog 118 aggR b (Maps.size D) D := by
  obtain ⟨es, clock, hb, hf, _, rfl⟩ := h
  exact ⟨es, clock, hb, hf, by rw [Maps.size_eq, length_sorted]; simp, rfl⟩
theorem OwnsT.of {w : World} {b n : Nat} {l : List RecV} {D : DataW Unit} (h : w.ownsMap Try.prog 118 aggR b n D) (ht : TabD l D) : OwnsT w b l := ⟨D, by have := ownsMap_len h; rwa [ht.size] at this, ht⟩
theorem OwnsT.fr {w w' : World} {F : Nat → Prop} {b : Nat} {l : List RecV} (h : OwnsT w b l) (hf : Fr F w w') (hn : ¬ F b) : OwnsT w' b l := by
  obtain ⟨D, ho, ht⟩ := h
  have hlt := ho.lt
  obtain ⟨es, clock, hb, hfit, hs, hD⟩ := ho
  exact ⟨D, ⟨es, clock, (hf.block b hlt hn).trans hb, hfit, hs, hD⟩, ht⟩
theorem OwnsT.lt {w : World} {b : Nat} {l : List RecV} (h : OwnsT w b l) : b < w.heap.size := by obtain ⟨D, ho, _⟩ := h; exact ho.lt
theorem OwnsT.sorted {w : World} {b : Nat} {l : List RecV} (h : OwnsT w b l) : Sorted l := by obtain ⟨D, _, ht⟩ := h; exact ht.sorted
theorem OwnsT.wf {w : World} {b : Nat} {l : List RecV} (h : OwnsT w b l) : ∀ r ∈ l, r.wf := by obtain ⟨D, _, ht⟩ := h; exact ht.wf
end Go.Proofs.Ytlhhcancfgjfkaa
