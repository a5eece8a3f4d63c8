/- The plain law of what is answered. -/
import Derived.Test.YtlhhcancfgjfkaaGoodX
namespace Go.Proofs.Ytlhhcancfgjfkaa
set_option linter.all false
open Go.RowKit

theorem outR_in {s : ByteArray} {fr tt : Int} {r : RecV} : (!outR s fr tt r) = true ↔ r.name = s ∧ fr ≤ r.start ∧ r.start < tt := by
  unfold outR
  by_cases h1 : r.name = s <;> by_cases h2 : r.start < fr <;> by_cases h3 : tt ≤ r.start <;> simp [h1, h2, h3] <;> omega
/-- Sorted records of one name rise. -/
theorem sorted_rise {l : List RecV} (hs : Sorted l) {i : Nat} {a b : RecV} (ha : l[i]? = some a) (hb : l[i + 1]? = some b) (hn : a.name = b.name) : a.start < b.start := by
  obtain ⟨h1, e1⟩ := List.getElem?_eq_some_iff.1 ha
  obtain ⟨h2, e2⟩ := List.getElem?_eq_some_iff.1 hb
  have h := List.pairwise_iff_getElem.1 hs i (i + 1) h1 h2 (by omega)
  rw [e1, e2] at h
  rcases h with h | ⟨_, h⟩
  · rw [hn] at h; exact absurd h (List.lt_irrefl _)
  · exact h
theorem ask_mem {nm : ByteArray} {l : List TierV} {fl : List Int} {X : TiersX} {c : Nat} (h : GoodX nm l fl X c) (s : ByteArray) (fr tt : Int) {k : Nat} (hk : askT X fr = (k : Int)) {x : TierV} (hx : l[k]? = some x) : ∀ r ∈ askL X s fr tt, r.name = s ∧ fr ≤ r.start ∧ r.start < tt ∧ r.start.tmod x.every = 0 := by
  intro r hr
  unfold askL at hr
  rw [hk, Int.toNat_natCast] at hr
  obtain ⟨h1, h2⟩ := List.mem_filter.1 hr
  obtain ⟨e1, e2, e3⟩ := outR_in.1 h2
  have hg := (h.grid k x hx r h1).2.2
  unfold onB at hg
  simp only [Bool.and_eq_true, decide_eq_true_eq] at hg
  exact ⟨e1, e2, e3, hg.2⟩
theorem ask_sorted {nm : ByteArray} {l : List TierV} {fl : List Int} {X : TiersX} {c : Nat} (h : GoodX nm l fl X c) (s : ByteArray) (fr tt : Int) : Sorted (askL X s fr tt) := (h.good _).1.filter _
/-- Cut in two. -/
theorem cut_two {s : ByteArray} {fr md tt : Int} (h1 : fr ≤ md) (h2 : md ≤ tt) : ∀ {l : List RecV}, Sorted l → keepT (outR s fr md) l ++ keepT (outR s md tt) l = keepT (outR s fr tt) l
  | [], _ => rfl
  | r :: l, hs => by
    obtain ⟨k1, k2⟩ := List.pairwise_cons.1 hs
    have ih := cut_two (s := s) h1 h2 k2
    unfold keepT at ih ⊢
    have hp : ∀ a b, (!outR s a b r) = true → (r :: l).filter (fun r => !outR s a b r) = r :: l.filter (fun r => !outR s a b r) := fun a b h => List.filter_cons_of_pos h
    have hn : ∀ a b, ¬ (!outR s a b r) = true → (r :: l).filter (fun r => !outR s a b r) = l.filter (fun r => !outR s a b r) := fun a b h => List.filter_cons_of_neg h
    by_cases c1 : (!outR s fr md r) = true
    · have c2 : ¬ (!outR s md tt r) = true := fun h => by have := outR_in.1 h; have := outR_in.1 c1; omega
      have c3 : (!outR s fr tt r) = true := outR_in.2 (by have := outR_in.1 c1; exact ⟨this.1, this.2.1, by omega⟩)
      rw [hp _ _ c1, hn _ _ c2, hp _ _ c3, List.cons_append, ih]
    · rw [hn _ _ c1]
      by_cases c2 : (!outR s md tt r) = true
      · have c3 : (!outR s fr tt r) = true := outR_in.2 (by have := outR_in.1 c2; exact ⟨this.1, by omega, this.2.2⟩)
        have hz : l.filter (fun r => !outR s fr md r) = [] := by
          rw [List.filter_eq_nil_iff]
          intro y hy hy2
          have e1 := outR_in.1 hy2
          have e2 := outR_in.1 c2
          rcases k1 y hy with h | ⟨_, h⟩
          · rw [e1.1, e2.1] at h; exact List.lt_irrefl _ h
          · omega
        rw [hz] at ih ⊢
        rw [hp _ _ c2, hp _ _ c3, List.nil_append]
        rw [List.nil_append] at ih
        rw [ih]
      · have c3 : ¬ (!outR s fr tt r) = true := fun h => by
          have e := outR_in.1 h
          by_cases hm : r.start < md
          · exact c1 (outR_in.2 ⟨e.1, e.2.1, hm⟩)
          · exact c2 (outR_in.2 ⟨e.1, by omega, e.2.2⟩)
        rw [hn _ _ c2, hn _ _ c3]
        exact ih
theorem ask_cut {nm : ByteArray} {l : List TierV} {fl : List Int} {X : TiersX} {c : Nat} (h : GoodX nm l fl X c) (s : ByteArray) {fr md tt : Int} (h1 : fr ≤ md) (h2 : md ≤ tt) (he : askT X fr = askT X md) : askL X s fr md ++ askL X s md tt = askL X s fr tt := by
  unfold askL
  rw [← he]
  exact cut_two h1 h2 (h.good _).1
end Go.Proofs.Ytlhhcancfgjfkaa
