/- Walks of sedimentbook.Small and (plan.Plan).fills, Steps, Bound. -/
import Derived.Test.YtkfdgodngbinlaaGreatDoorBases
import Derived.Test.YtkfdgodngbinlaaGreatDoorOpenRec
namespace Go.Proofs.YtkfdgodngbinlaaGreatDoor
set_option linter.all false
open Go.RowKit

def SmallR (nm : ByteArray) (n : Nat) (r : Ending) : Prop := ∃ b, r = .returned (.bool b) ∧ (b = true → n ≤ 10 ∧ nm.size ≤ 60)
theorem SmallR.no {nm : ByteArray} {n : Nat} : SmallR nm n (.returned (.bool false)) := ⟨false, rfl, by simp⟩
def fillsV (l : List TierV) : Int := (l.map fun t => max t.shards 0).sum
theorem fills_snoc {l : List TierV} {k : Nat} {x : TierV} (h : l[k]? = some x) : fillsV (l.take (k + 1)) = fillsV (l.take k) + max x.shards 0 := by
  rw [take_snoc h]; simp [fillsV]
def stepsV (l : List TierV) : Int := if l = [] then 0 else fillsV l + 2
theorem fillsV_in {l : List TierV} (hs : ∀ t ∈ l, t.shards ≤ 8) : 0 ≤ fillsV l ∧ fillsV l ≤ 8 * l.length := by
  induction l with
  | nil => simp [fillsV]
  | cons a t ih =>
    have h1 := ih (fun x hx => hs x (List.mem_cons_of_mem _ hx))
    have h2 := hs a (List.mem_cons_self ..)
    have h3 : fillsV (a :: t) = max a.shards 0 + fillsV t := by simp [fillsV]
    rw [h3, List.length_cons]
    omega
end Go.Proofs.YtkfdgodngbinlaaGreatDoor
namespace Go.Proofs.YtkfdgodngbinlaaGreatDoor
set_option linter.all false
open Go.RowKit

end Go.Proofs.YtkfdgodngbinlaaGreatDoor
namespace Go.Proofs.YtkfdgodngbinlaaGreatDoor
set_option linter.all false
open Go.RowKit

def atGo (k : Int) (i : Nat) : List TierV → Int × Int × Int
  | [] => if k = 0 then (2, 0, 0) else (3, 0, 0)
  | t :: r => if k < t.shards then (1, i, k) else atGo (k - max t.shards 0) (i + 1) r
def atV (l : List TierV) (k : Int) : (Int × Int × Int) × Bool := if k < 0 ∨ stepsV l ≤ k then ((0, 0, 0), false) else (atGo k 0 l, true)

end Go.Proofs.YtkfdgodngbinlaaGreatDoor
namespace Go.Proofs.YtkfdgodngbinlaaGreatDoor
set_option linter.all false
open Go.RowKit

end Go.Proofs.YtkfdgodngbinlaaGreatDoor
namespace Go.Proofs.YtkfdgodngbinlaaGreatDoor
set_option linter.all false
open Go.RowKit

theorem shardV_in (s : ByteArray) (n : Int) : 0 ≤ shardV s n ∧ shardV s n ≤ 4294967295 := by
  have := hashV_in s.data.toList
  unfold shardV
  split
  · omega
  · have h1 := Int.emod_nonneg (hashV s.data.toList) (show n ≠ 0 by omega)
    have h2 : hashV s.data.toList % n ≤ hashV s.data.toList := by
      have h3 := Int.mul_ediv_add_emod (hashV s.data.toList) n
      have h4 := Int.mul_nonneg (show 0 ≤ n by omega) (Int.ediv_nonneg this.1 (show 0 ≤ n by omega))
      omega
    omega

set_option maxRecDepth 100000 in
set_option maxHeartbeats 2000000 in
theorem filled_any (nm : ByteArray) (l : List TierV) (A : Option Addr) (n c : Nat) (S : Option Addr) (m d : Nat) (k : Int) (j : Nat) (t : TierV) (s : ByteArray) (w : World) (hr : Rd w 4 A n (tcells l)) (hnc : n ≤ c) (hn : n ≤ 1099511627776) (hs : ∀ t ∈ l, t.shards ≤ 8) (hj : l[j]? = some t) (hsz : s.size ≤ maxLen) :
    Calls Tryz.prog 92 #[planV nm A n c S m d, .int .i64 k, .int .i64 j, .string s] w fun r w' => r = .returned (.bool (decide (shardV s t.shards + fillsV (l.take j) < k))) ∧ Below w.heap.size w w' := by
  have hlen := hr.tiers_len
  have hjn : j < n := by have := (List.getElem?_eq_some_iff.1 hj).1; omega
  have hjc : (j : Int) ≤ (c : Int) := by omega
  have hjc' : j ≤ c := by omega
  have hjn' : (j : Int) < (n : Int) := by omega
  have HSh := Lib.hid (fun w' => shard_any s hsz t.shards w')
  have hsh := shardV_in s t.shards
  obtain ⟨sv, hsv⟩ : ∃ sv, shardV s t.shards = sv := ⟨_, rfl⟩
  rw [hsv] at HSh hsh ⊢
  obtain ⟨sv0, sv1⟩ := hsh
  obtain ⟨ad, t', hA, hj', d0, d1, d2, d3⟩ := hr.tier hjn
  subst hA
  obtain rfl : t = t' := Option.some.inj (hj.symm.trans hj')
  have Hr := Lib.hid hr
  have Hs := Lib.hid hs
  have Hlen := Lib.hid hlen
  have d3' := fun o => (Fr.none_alloc w o).cell d3 (fun h => h)
  have O := Lib.hid ((Own.start w).skip (Fr.none_alloc w (.cells #[.string nm, .slice (some ad) n c, .slice S m d] 61)))
  have HT := Lib.hid (hr.takeT (k := j) (by omega))
  clear hr hs hlen hj hj' d0 d1 d2 d3 hsv hsz
  unfold planV
  go_enter Tryz.func92, Tryz.ntmps92
  go_wp2_with fail
  refine (HSh.out _).mono ?_
  rintro r w1 ⟨rfl, rfl⟩
  clear d3'
  go_wp2_with fail
  go_loopw [9, 37] (fun q i wr => ∃ (k2 : Nat) (v : Int), k2 ≤ j ∧ i = .int .i64 k2 ∧ q = .int .i64 v ∧ 0 ≤ v ∧ v ≤ 4294967295 + 8 * k2 ∧ Hid (v = sv + fillsV (l.take k2)) ∧ Own w wr (fun _ => False)) (fun _ i _ => j - (intOf i).toNat)
  case atStart => exact ⟨0, sv, Nat.zero_le _, rfl, rfl, by omega, by omega, by simp [Hid, fillsV], O.out⟩
  case round =>
    obtain ⟨k2, v, hk, rfl, rfl, v0, v1, hv, ho⟩ := hrel
    by_cases hlt : k2 < j
    · obtain ⟨ad', x, e, hu, d0, d1, d2, d3⟩ := (HT.out.below ho.bel).tier hlt
      injection e with e
      subst e
      rw [List.getElem?_take, if_pos hlt] at hu
      have hx8 := Hs.out x (mem_of_get hu)
      have Ho := Lib.hid ho
      have Hf := Lib.hid (fills_snoc hu)
      clear ho hu
      by_cases h0 : 0 ≤ x.shards
      · go_wp2
        all_goals (
          go_roundw
          case rel => exact ⟨k2 + 1, v + x.shards, by omega, by go_num, by go_num, by omega, by omega, by rw [Hid, Hf.out, hv.out]; omega, Ho.out.skip (Fr.none_alloc _ _)⟩
          case measure => simp [intOf]; omega)
      · go_wp2
        all_goals (
          go_roundw
          case rel => exact ⟨k2 + 1, v, by omega, by go_num, by go_num, by omega, by omega, by rw [Hid, Hf.out, hv.out]; omega, Ho.out.skip (Fr.none_alloc _ _)⟩
          case measure => simp [intOf]; omega)
    · obtain rfl : k2 = j := by omega
      have Ho := Lib.hid ho
      clear ho
      have E := Lib.hid (show decide (sv + fillsV (l.take k2) < k) = decide (v < k) by rw [← hv.out])
      go_wp2
      go_ret
      exact ⟨by rw [E.out]; rfl, Ho.out.bel⟩
end Go.Proofs.YtkfdgodngbinlaaGreatDoor
namespace Go.Proofs.YtkfdgodngbinlaaGreatDoor
set_option linter.all false
open Go.RowKit

theorem fills_mono {l : List TierV} (i j : Nat) (h : i ≤ j) : fillsV (l.take i) ≤ fillsV (l.take j) := by
  induction j with
  | zero => obtain rfl : i = 0 := by omega
            exact Int.le_refl _
  | succ j ih =>
    rcases Nat.lt_or_ge i (j + 1) with h1 | h1
    · have := ih (by omega)
      by_cases hl : j < l.length
      · have h2 := fills_snoc (List.getElem?_eq_getElem hl)
        omega
      · rw [List.take_of_length_le (by omega : l.length ≤ j)] at this
        rw [List.take_of_length_le (by omega : l.length ≤ j + 1)]
        exact this
    · obtain rfl : i = j + 1 := by omega
      exact Int.le_refl _
end Go.Proofs.YtkfdgodngbinlaaGreatDoor
namespace Go.Proofs.YtkfdgodngbinlaaGreatDoor
set_option linter.all false
open Go.RowKit

theorem check_len {nm : ByteArray} {l : List TierV} (h : checkB nm l = true) : 1 ≤ l.length ∧ l.length ≤ 5 := by
  unfold checkB withinB at h
  simp only [Bool.and_eq_true, decide_eq_true_eq] at h
  omega
theorem check_fits {nm : ByteArray} {l : List TierV} (h : checkB nm l = true) {i : Nat} {t : TierV} (ht : l[i]? = some t) : fitsT t (l.take i) = true := by
  unfold checkB at h
  simp only [Bool.and_eq_true, List.all_eq_true, List.mem_range] at h
  have := h.2 i (List.getElem?_eq_some_iff.1 ht).1
  unfold fitsAt at this
  rw [ht] at this
  exact this
theorem fits_ok2 {t : TierV} {l : List TierV} (h : fitsT t l = true) : (1 ≤ t.keep ∧ t.keep ≤ 1000000) ∧ 1 ≤ t.shards ∧ t.shards ≤ 8 := by
  unfold fitsT TierV.ok withinB at h
  simp only [Bool.and_eq_true, decide_eq_true_eq] at h
  omega
theorem take_last {l : List TierV} {i : Nat} {a : TierV} (h : l[i]? = some a) : (l.take (i + 1)).getLast? = some a := by
  rw [take_snoc h, List.getLast?_append]; rfl
theorem check_every {nm : ByteArray} {l : List TierV} (h : checkB nm l = true) : ∀ (i : Nat) (t : TierV), l[i]? = some t → (i = 0 → t.every = 1) ∧ 1 ≤ t.every ∧ t.every ≤ 1000000 := by
  intro i
  induction i with
  | zero =>
    intro t ht
    have := check_fits h ht
    unfold fitsT at this
    simp only [List.take_zero, List.getLast?_nil, Bool.and_eq_true, beq_iff_eq] at this
    omega
  | succ i ih =>
    intro t ht
    have hi : i < l.length := by have := (List.getElem?_eq_some_iff.1 ht).1; omega
    have ha : l[i]? = some l[i] := List.getElem?_eq_getElem hi
    have := check_fits h ht
    unfold fitsT at this
    rw [take_last ha] at this
    simp only [Bool.and_eq_true, decide_eq_true_eq] at this
    have := ih _ ha
    omega
theorem check_mem {nm : ByteArray} {l : List TierV} (h : checkB nm l = true) {t : TierV} (ht : t ∈ l) : 1 ≤ t.every ∧ t.every ≤ 1000000 ∧ 1 ≤ t.keep ∧ t.keep ≤ 1000000 ∧ 1 ≤ t.shards ∧ t.shards ≤ 8 := by
  obtain ⟨i, hi, rfl⟩ := List.mem_iff_getElem.1 ht
  have ha : l[i]? = some l[i] := List.getElem?_eq_getElem hi
  have h1 := check_every h i _ ha
  have h2 := fits_ok2 (check_fits h ha)
  omega

theorem srcGo_law (now : Int) (l : List TierV) (fl : List Int) (e : Int) (m : Nat) (hm : m ≤ l.length) :
    (srcGo now l fl e m = -1 ∧ ∀ i < m, ∀ t, l[i]? = some t → dividesB t.every e = false) ∨
    (∃ (k : Nat) (t : TierV), k < m ∧ srcGo now l fl e m = k ∧ l[k]? = some t ∧ dividesB t.every e = true ∧ ∀ i < m, ∀ t', l[i]? = some t' → dividesB t'.every e = true → fromV now l fl k ≤ fromV now l fl i) := by
  induction m with
  | zero => exact .inl ⟨rfl, fun i hi => by omega⟩
  | succ m ih =>
    have ha : l[m]? = some l[m] := List.getElem?_eq_getElem (by omega)
    simp only [srcGo, ha]
    rcases ih (by omega) with ⟨h1, h2⟩ | ⟨k, t, h0, h1, h2, h3, h4⟩
    · rw [h1]
      by_cases hd : dividesB l[m].every e = true
      · refine .inr ⟨m, l[m], by omega, by simp [hd], ha, hd, fun i hi t' ht' hd' => ?_⟩
        rcases Nat.lt_or_ge i m with hlt | hge
        · rw [h2 i hlt t' ht'] at hd'; cases hd'
        · obtain rfl : i = m := by omega
          exact Int.le_refl _
      · refine .inl ⟨by simp [hd], fun i hi t ht => ?_⟩
        rcases Nat.lt_or_ge i m with hlt | hge
        · exact h2 i hlt t ht
        · obtain rfl : i = m := by omega
          rw [ha] at ht
          injection ht with ht
          subst ht
          simpa using hd
    · rw [h1]
      have hk : decide ((k : Int) < 0) = false := decide_eq_false (by omega)
      rw [hk, Int.toNat_natCast, Bool.false_or]
      by_cases hd : dividesB l[m].every e = true
      · by_cases hle : fromV now l fl m ≤ fromV now l fl k
        · refine .inr ⟨m, l[m], by omega, by simp [hd, hle], ha, hd, fun i hi t' ht' hd' => ?_⟩
          rcases Nat.lt_or_ge i m with hlt | hge
          · exact Int.le_trans hle (h4 i hlt t' ht' hd')
          · obtain rfl : i = m := by omega
            exact Int.le_refl _
        · refine .inr ⟨k, t, by omega, by simp [hle], h2, h3, fun i hi t' ht' hd' => ?_⟩
          rcases Nat.lt_or_ge i m with hlt | hge
          · exact h4 i hlt t' ht' hd'
          · obtain rfl : i = m := by omega
            omega
      · refine .inr ⟨k, t, by omega, by simp [hd], h2, h3, fun i hi t' ht' hd' => ?_⟩
        rcases Nat.lt_or_ge i m with hlt | hge
        · exact h4 i hlt t' ht' hd'
        · obtain rfl : i = m := by omega
          rw [ha] at ht'
          injection ht' with ht'
          subst ht'
          exact absurd hd' hd
theorem divides_one (e : Int) : dividesB 1 e = true := by unfold dividesB; simp [Int.tmod_one]
theorem src_law {now : Int} {nm : ByteArray} {l : List TierV} {fl : List Int} (e : Int) (h : checkB nm l = true) :
    ∃ (k : Nat) (t : TierV), k < l.length ∧ srcGo now l fl e l.length = k ∧ l[k]? = some t ∧ e.tmod t.every = 0 ∧ ∀ (i : Nat) (t' : TierV), l[i]? = some t' → e.tmod t'.every = 0 → fromV now l fl k ≤ fromV now l fl i := by
  rcases srcGo_law now l fl e l.length (Nat.le_refl _) with ⟨_, h2⟩ | ⟨k, t, h0, h1, h2, h3, h4⟩
  · have hl := check_len h
    have ha : l[0]? = some l[0] := List.getElem?_eq_getElem (by omega)
    have := h2 0 (by omega) _ ha
    rw [(check_every h 0 _ ha).1 rfl, divides_one] at this
    cases this
  · refine ⟨k, t, h0, h1, h2, ?_, fun i t' ht' hd => h4 i (List.getElem?_eq_some_iff.1 ht').1 t' ht' ?_⟩
    · unfold dividesB at h3
      simp only [Bool.and_eq_true, decide_eq_true_eq] at h3
      exact h3.2
    · have := check_every h i t' ht'
      unfold dividesB
      simp only [Bool.and_eq_true, decide_eq_true_eq]
      exact ⟨this.2.1, hd⟩
theorem ceil_law {t e : Int} (h0 : 0 ≤ t) (h1 : t ≤ 4398046511104) (he : 1 ≤ e) (he2 : e ≤ 1000000) : (ceilV t e).tmod e = 0 ∧ t ≤ ceilV t e ∧ ceilV t e - t < e ∧ 0 ≤ ceilV t e ∧ ceilV t e ≤ 4398047511104 := by
  have hb := (tmod_bd t e he)
  have h3 := hb.2.2.1 h0
  have hdvd : e ∣ t - t.tmod e := ⟨t.tdiv e, by have := Int.mul_tdiv_add_tmod t e; omega⟩
  unfold ceilV
  rw [if_neg (by omega)]
  split
  · refine ⟨?_, by omega⟩
    exact Int.tmod_eq_zero_of_dvd (Int.dvd_add hdvd (Int.dvd_refl e))
  · rename_i hn
    refine ⟨Int.tmod_eq_zero_of_dvd hdvd, ?_⟩
    have : t.tmod e = 0 := by
      have : ¬ (0 < t.tmod e) := fun hh => hn ⟨hh, by omega⟩
      omega
    omega
theorem floor_le {t e : Int} (he : 1 ≤ e) (h0 : -1000000 ≤ t) (he2 : e ≤ 1000000) : floorV t e ≤ t := by
  have hb := (tmod_bd t e he)
  unfold floorV
  rw [if_neg (by omega)]
  split
  · omega
  · rename_i hn
    have : ¬ (t.tmod e < 0) := fun hh => hn ⟨hh, by omega⟩
    omega
theorem from_bd {now : Int} {nm : ByteArray} {l : List TierV} {fl : List Int} (h : checkB nm l = true) (h0 : 0 ≤ now) (h1 : now ≤ 1099511627776) (hf : ∀ f ∈ fl, 0 ≤ f ∧ f ≤ 2199023255552) (k : Nat) : 0 ≤ fromV now l fl k ∧ fromV now l fl k ≤ 2199023255552 := by
  unfold fromV
  split
  · rename_i a b ha hb
    have h2 := check_mem h (mem_of_get ha)
    have h3 := check_mem h (mem_of_get hb)
    have h4 : 0 ≤ backV now a.keep b.every ∧ backV now a.keep b.every ≤ 2199023255552 := by
      unfold backV
      rw [if_neg (by omega)]
      have := floor_le (t := now - a.keep) (e := b.every) (by omega) (by omega) (by omega)
      omega
    split
    · rename_i f hfk
      have := hf f (mem_of_get hfk)
      show 0 ≤ max (backV now a.keep b.every) f ∧ max (backV now a.keep b.every) f ≤ _
      omega
    · exact h4
  · omega
end Go.Proofs.YtkfdgodngbinlaaGreatDoor
namespace Go.Proofs.YtkfdgodngbinlaaGreatDoor
set_option linter.all false
open Go.ChangeShapes Go.WideShapes Go.ChangeAt Go.RowKit

end Go.Proofs.YtkfdgodngbinlaaGreatDoor
namespace Go.Proofs.YtkfdgodngbinlaaGreatDoor
set_option linter.all false
open Go.ChangeShapes Go.WideShapes Go.ChangeAt Go.RowKit

end Go.Proofs.YtkfdgodngbinlaaGreatDoor
namespace Go.Proofs.YtkfdgodngbinlaaGreatDoor
set_option linter.all false
open Go.RowKit

end Go.Proofs.YtkfdgodngbinlaaGreatDoor
