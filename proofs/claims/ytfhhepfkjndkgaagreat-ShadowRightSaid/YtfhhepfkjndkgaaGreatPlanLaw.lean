/- Plain laws of plans: what a policy that may be has; what a source is; what a base is. No walk. -/
import Derived.Test.YtfhhepfkjndkgaaGreatBound
namespace Go.Proofs.YtfhhepfkjndkgaaGreat
set_option linter.all false
open Go.RowKit

theorem check_len {nm : ByteArray} {l : List TierV} (h : checkB nm l = true) : 1 ≤ l.length ∧ l.length ≤ 5 := by
 unfold checkB withinB at h
 simp only [Bool.and_eq_true, decide_eq_true_eq] at h
 omega
theorem check_fits {nm : ByteArray} {l : List TierV} (h : checkB nm l = true) {i : Nat} {t : TierV} (ht : l[i]? = some t) : fitsT t (l.take i) = true := by
 unfold checkB at h
 simp only [Bool.and_eq_true, List.all_eq_true, List.mem_range] at h
 have := h.2 i (List.getElem?_eq_some_iff.1 ht).1
 unfold fitsAt at this
 rw [ht] at this
 exact this
theorem fits_ok2 {t : TierV} {l : List TierV} (h : fitsT t l = true) : (1 ≤ t.keep ∧ t.keep ≤ 1000000) ∧ 1 ≤ t.shards ∧ t.shards ≤ 8 := by
 unfold fitsT TierV.ok withinB at h
 simp only [Bool.and_eq_true, decide_eq_true_eq] at h
 omega
theorem take_last {l : List TierV} {i : Nat} {a : TierV} (h : l[i]? = some a) : (l.take (i + 1)).getLast? = some a := by
 rw [take_snoc h, List.getLast?_append]; rfl
theorem check_every {nm : ByteArray} {l : List TierV} (h : checkB nm l = true) : ∀ (i : Nat) (t : TierV), l[i]? = some t → (i = 0 → t.every = 1) ∧ 1 ≤ t.every ∧ t.every ≤ 1000000 := by
 intro i
 induction i with
 | zero =>
  intro t ht
  have := check_fits h ht
  unfold fitsT at this
  simp only [List.take_zero, List.getLast?_nil, Bool.and_eq_true, beq_iff_eq] at this
  omega
 | succ i ih =>
  intro t ht
  have hi : i < l.length := by have := (List.getElem?_eq_some_iff.1 ht).1; omega
  have ha : l[i]? = some l[i] := List.getElem?_eq_getElem hi
  have := check_fits h ht
  unfold fitsT at this
  rw [take_last ha] at this
  simp only [Bool.and_eq_true, decide_eq_true_eq] at this
  have := ih _ ha
  omega
theorem check_mem {nm : ByteArray} {l : List TierV} (h : checkB nm l = true) {t : TierV} (ht : t ∈ l) : 1 ≤ t.every ∧ t.every ≤ 1000000 ∧ 1 ≤ t.keep ∧ t.keep ≤ 1000000 ∧ 1 ≤ t.shards ∧ t.shards ≤ 8 := by
 obtain ⟨i, hi, rfl⟩ := List.mem_iff_getElem.1 ht
 have ha : l[i]? = some l[i] := List.getElem?_eq_getElem hi
 have h1 := check_every h i _ ha
 have h2 := fits_ok2 (check_fits h ha)
 omega

theorem srcGo_law (now : Int) (l : List TierV) (fl : List Int) (e : Int) (m : Nat) (hm : m ≤ l.length) :
  (srcGo now l fl e m = -1 ∧ ∀ i < m, ∀ t, l[i]? = some t → dividesB t.every e = false) ∨
  (∃ (k : Nat) (t : TierV), k < m ∧ srcGo now l fl e m = k ∧ l[k]? = some t ∧ dividesB t.every e = true ∧ ∀ i < m, ∀ t', l[i]? = some t' → dividesB t'.every e = true → fromV now l fl k ≤ fromV now l fl i) := by
 induction m with
 | zero => exact .inl ⟨rfl, fun i hi => by omega⟩
 | succ m ih =>
  have ha : l[m]? = some l[m] := List.getElem?_eq_getElem (by omega)
  simp only [srcGo, ha]
  rcases ih (by omega) with ⟨h1, h2⟩ | ⟨k, t, h0, h1, h2, h3, h4⟩
  ·rw [h1]
   by_cases hd : dividesB l[m].every e = true
   ·refine .inr ⟨m, l[m], by omega, by simp [hd], ha, hd, fun i hi t' ht' hd' => ?_⟩
    rcases Nat.lt_or_ge i m with hlt | hge
    ·rw [h2 i hlt t' ht'] at hd'; cases hd'
    ·obtain rfl : i = m := by omega
     exact Int.le_refl _
   ·refine .inl ⟨by simp [hd], fun i hi t ht => ?_⟩
    rcases Nat.lt_or_ge i m with hlt | hge
    ·exact h2 i hlt t ht
    ·obtain rfl : i = m := by omega
     rw [ha] at ht
     injection ht with ht
     subst ht
     simpa using hd
  ·rw [h1]
   have hk : decide ((k : Int) < 0) = false := decide_eq_false (by omega)
   rw [hk, Int.toNat_natCast, Bool.false_or]
   by_cases hd : dividesB l[m].every e = true
   ·by_cases hle : fromV now l fl m ≤ fromV now l fl k
    ·refine .inr ⟨m, l[m], by omega, by simp [hd, hle], ha, hd, fun i hi t' ht' hd' => ?_⟩
     rcases Nat.lt_or_ge i m with hlt | hge
     ·exact Int.le_trans hle (h4 i hlt t' ht' hd')
     ·obtain rfl : i = m := by omega
      exact Int.le_refl _
    ·refine .inr ⟨k, t, by omega, by simp [hle], h2, h3, fun i hi t' ht' hd' => ?_⟩
     rcases Nat.lt_or_ge i m with hlt | hge
     ·exact h4 i hlt t' ht' hd'
     ·obtain rfl : i = m := by omega
      omega
   ·refine .inr ⟨k, t, by omega, by simp [hd], h2, h3, fun i hi t' ht' hd' => ?_⟩
    rcases Nat.lt_or_ge i m with hlt | hge
    ·exact h4 i hlt t' ht' hd'
    ·obtain rfl : i = m := by omega
     rw [ha] at ht'
     injection ht' with ht'
     subst ht'
     exact absurd hd' hd
theorem divides_one (e : Int) : dividesB 1 e = true := by unfold dividesB; simp [Int.tmod_one]
theorem src_law {now : Int} {nm : ByteArray} {l : List TierV} {fl : List Int} (e : Int) (h : checkB nm l = true) :
  ∃ (k : Nat) (t : TierV), k < l.length ∧ srcGo now l fl e l.length = k ∧ l[k]? = some t ∧ e.tmod t.every = 0 ∧ ∀ (i : Nat) (t' : TierV), l[i]? = some t' → e.tmod t'.every = 0 → fromV now l fl k ≤ fromV now l fl i := by
 rcases srcGo_law now l fl e l.length (Nat.le_refl _) with ⟨_, h2⟩ | ⟨k, t, h0, h1, h2, h3, h4⟩
 ·have hl := check_len h
  have ha : l[0]? = some l[0] := List.getElem?_eq_getElem (by omega)
  have := h2 0 (by omega) _ ha
  rw [(check_every h 0 _ ha).1 rfl, divides_one] at this
  cases this
 ·refine ⟨k, t, h0, h1, h2, ?_, fun i t' ht' hd => h4 i (List.getElem?_eq_some_iff.1 ht').1 t' ht' ?_⟩
  ·unfold dividesB at h3
   simp only [Bool.and_eq_true, decide_eq_true_eq] at h3
   exact h3.2
  ·have := check_every h i t' ht'
   unfold dividesB
   simp only [Bool.and_eq_true, decide_eq_true_eq]
   exact ⟨this.2.1, hd⟩
theorem ceil_law {t e : Int} (h0 : 0 ≤ t) (h1 : t ≤ 4398046511104) (he : 1 ≤ e) (he2 : e ≤ 1000000) : (ceilV t e).tmod e = 0 ∧ t ≤ ceilV t e ∧ ceilV t e - t < e ∧ 0 ≤ ceilV t e ∧ ceilV t e ≤ 4398047511104 := by
 have hb := (tmod_bd t e he)
 have h3 := hb.2.2.1 h0
 have hdvd : e ∣ t - t.tmod e := ⟨t.tdiv e, by have := Int.mul_tdiv_add_tmod t e; omega⟩
 unfold ceilV
 rw [if_neg (by omega)]
 split
 ·refine ⟨?_, by omega⟩
  exact Int.tmod_eq_zero_of_dvd (Int.dvd_add hdvd (Int.dvd_refl e))
 ·rename_i hn
  refine ⟨Int.tmod_eq_zero_of_dvd hdvd, ?_⟩
  have : t.tmod e = 0 := by
   have : ¬ (0 < t.tmod e) := fun hh => hn ⟨hh, by omega⟩
   omega
  omega
theorem floor_le {t e : Int} (he : 1 ≤ e) (h0 : -1000000 ≤ t) (he2 : e ≤ 1000000) : floorV t e ≤ t := by
 have hb := (tmod_bd t e he)
 unfold floorV
 rw [if_neg (by omega)]
 split
 ·omega
 ·rename_i hn
  have : ¬ (t.tmod e < 0) := fun hh => hn ⟨hh, by omega⟩
  omega
theorem from_bd {now : Int} {nm : ByteArray} {l : List TierV} {fl : List Int} (h : checkB nm l = true) (h0 : 0 ≤ now) (h1 : now ≤ 1099511627776) (hf : ∀ f ∈ fl, 0 ≤ f ∧ f ≤ 2199023255552) (k : Nat) : 0 ≤ fromV now l fl k ∧ fromV now l fl k ≤ 2199023255552 := by
 unfold fromV
 split
 ·rename_i a b ha hb
  have h2 := check_mem h (mem_of_get ha)
  have h3 := check_mem h (mem_of_get hb)
  have h4 : 0 ≤ backV now a.keep b.every ∧ backV now a.keep b.every ≤ 2199023255552 := by
   unfold backV
   rw [if_neg (by omega)]
   have := floor_le (t := now - a.keep) (e := b.every) (by omega) (by omega) (by omega)
   omega
  split
  ·rename_i f hfk
   have := hf f (mem_of_get hfk)
   show 0 ≤ max (backV now a.keep b.every) f ∧ max (backV now a.keep b.every) f ≤ _
   omega
  ·exact h4
 ·omega
end Go.Proofs.YtfhhepfkjndkgaaGreat
