/- Plain laws of plans: what a policy that may be has; what a source is; what a base is. No walk. -/
import Derived.Test.YtbblmmneeafhgaaGreatBound
namespace Go.Proofs.YtbblmmneeafhgaaGreat
set_option linter.all false
open Go.RowKit

theorem check_len {nm : ByteArray} {l : List TierV} (h : checkB nm l = true) : 1 ≤ l.length ∧ l.length ≤ 5 := by
 unfold checkB withinB at h
 simp only [Bool.and_eq_true, decide_eq_true_eq] at h
 omega
theorem check_fits {nm : ByteArray} {l : List TierV} (h : checkB nm l = true) {i : Nat} {t : TierV} (ht : l[i]? = some t) : fitsT t (l.take i) = true := by
 unfold checkB at h
 simp only [Bool.and_eq_true, List.all_eq_true, List.mem_range] at h
 have := h.2 i (List.getElem?_eq_some_iff.1 ht).1
 unfold fitsAt at this
 rw [ht] at this
 exact this
theorem fits_ok2 {t : TierV} {l : List TierV} (h : fitsT t l = true) : (1 ≤ t.keep ∧ t.keep ≤ 1000000) ∧ 1 ≤ t.shards ∧ t.shards ≤ 8 := by
 unfold fitsT TierV.ok withinB at h
 simp only [Bool.and_eq_true, decide_eq_true_eq] at h
 omega
theorem take_last {l : List TierV} {i : Nat} {a : TierV} (h : l[i]? = some a) : (l.take (i + 1)).getLast? = some a := by
 rw [take_snoc h, List.getLast?_append]; rfl
theorem check_every {nm : ByteArray} {l : List TierV} (h : checkB nm l = true) : ∀ (i : Nat) (t : TierV), l[i]? = some t → (i = 0 → t.every = 1) ∧ 1 ≤ t.every ∧ t.every ≤ 1000000 := by
 intro i
 induction i with
 | zero =>
  intro t ht
  have := check_fits h ht
  unfold fitsT at this
  simp only [List.take_zero, List.getLast?_nil, Bool.and_eq_true, beq_iff_eq] at this
  omega
 | succ i ih =>
  intro t ht
  have hi : i < l.length := by have := (List.getElem?_eq_some_iff.1 ht).1; omega
  have ha : l[i]? = some l[i] := List.getElem?_eq_getElem hi
  have := check_fits h ht
  unfold fitsT at this
  rw [take_last ha] at this
  simp only [Bool.and_eq_true, decide_eq_true_eq] at this
  have := ih _ ha
  omega
theorem check_mem {nm : ByteArray} {l : List TierV} (h : checkB nm l = true) {t : TierV} (ht : t ∈ l) : 1 ≤ t.every ∧ t.every ≤ 1000000 ∧ 1 ≤ t.keep ∧ t.keep ≤ 1000000 ∧ 1 ≤ t.shards ∧ t.shards ≤ 8 := by
 obtain ⟨i, hi, rfl⟩ := List.mem_iff_getElem.1 ht
 have ha : l[i]? = some l[i] := List.getElem?_eq_getElem hi
 have h1 := check_every h i _ ha
 have h2 := fits_ok2 (check_fits h ha)
 omega

end Go.Proofs.YtbblmmneeafhgaaGreat
