/- Plain laws of a plan's steps. No walk. -/
import Derived.Test.YtbdhmoeadakipaaPlanLaw
namespace Go.Proofs.Ytbdhmoeadakipaa
open Go.RowKit

theorem fillsV_cons (t : TierV) (l : List TierV) : fillsV (t :: l) = max t.shards 0 + fillsV l := by simp [fillsV]
theorem fillsV_nonneg (l : List TierV) : 0 ≤ fillsV l := by
  induction l with
  | nil => simp [fillsV]
  | cons t l ih => rw [fillsV_cons]; omega
/-- The k-th shard of the j-th tier. -/
theorem atGo_fill (l : List TierV) : ∀ (i j : Nat) (t : TierV) (k : Int), l[j]? = some t → 0 ≤ k → k < t.shards → atGo (fillsV (l.take j) + k) i l = (1, ((i + j : Nat) : Int), k) := by
  induction l with
  | nil => intro i j t k h; simp at h
  | cons a l ih =>
    intro i j t k h h0 h1
    rcases j with _ | j
    · simp only [List.getElem?_cons_zero, Option.some.injEq] at h
      subst h
      simp only [List.take_zero, fillsV, List.map_nil, List.sum_nil, Int.zero_add, atGo, if_pos h1, Nat.add_zero]
    · simp only [List.getElem?_cons_succ] at h
      rw [List.take_succ_cons, fillsV_cons]
      have hp := fillsV_nonneg (l.take j)
      simp only [atGo]
      rw [if_neg (by omega), show max a.shards 0 + fillsV (l.take j) + k - max a.shards 0 = fillsV (l.take j) + k by omega, ih (i + 1) j t k h h0 h1]
      congr 2
      omega
theorem atGo_end (l : List TierV) : ∀ (i : Nat) (k : Int), 0 ≤ k → atGo (fillsV l + k) i l = if k = 0 then (2, 0, 0) else (3, 0, 0) := by
  induction l with
  | nil => intro i k h; simp [atGo, fillsV]
  | cons a l ih =>
    intro i k h
    rw [fillsV_cons]
    have hp := fillsV_nonneg l
    simp only [atGo]
    rw [if_neg (by omega), show max a.shards 0 + fillsV l + k - max a.shards 0 = fillsV l + k by omega, ih (i + 1) k h]
theorem fillsV_take_le (l : List TierV) (j : Nat) : fillsV (l.take j) ≤ fillsV l := by
  have h := fillsV_nonneg (l.drop j)
  have : fillsV l = fillsV (l.take j) + fillsV (l.drop j) := by
    conv => lhs; rw [← List.take_append_drop j l]
    simp only [fillsV, List.map_append, List.sum_append]
  omega
theorem stepsV_of {l : List TierV} (h : 1 ≤ l.length) : stepsV l = fillsV l + 2 := by
  unfold stepsV
  rw [if_neg (by intro h2; subst h2; simp at h)]
theorem atV_fill {l : List TierV} {j : Nat} {t : TierV} {k : Int} (h : l[j]? = some t) (h0 : 0 ≤ k) (h1 : k < t.shards) : atV l (fillsV (l.take j) + k) = ((1, (j : Int), k), true) := by
  have hl := (List.getElem?_eq_some_iff.1 h).1
  have h2 := fillsV_take_le l (j + 1)
  rw [fills_snoc h] at h2
  have h3 := fillsV_nonneg (l.take j)
  unfold atV
  rw [stepsV_of (by omega), if_neg (by omega), atGo_fill l 0 j t k h h0 h1]
  simp
theorem atV_end {l : List TierV} {k : Int} (hl : 1 ≤ l.length) (h0 : 0 ≤ k) (h1 : k < 2) : atV l (fillsV l + k) = (if k = 0 then (2, 0, 0) else (3, 0, 0), true) := by
  have h3 := fillsV_nonneg l
  unfold atV
  rw [stepsV_of hl, if_neg (by omega), atGo_end l 0 k h0]
theorem atV_out {l : List TierV} {k : Int} (hl : 1 ≤ l.length) (h : k < 0 ∨ fillsV l + 2 ≤ k) : atV l k = ((0, 0, 0), false) := by
  unfold atV
  rw [stepsV_of hl, if_pos (by omega)]
end Go.Proofs.Ytbdhmoeadakipaa
