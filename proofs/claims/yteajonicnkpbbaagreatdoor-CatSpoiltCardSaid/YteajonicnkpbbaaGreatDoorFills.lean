/- Walks of sedimentbook.Small and (plan.Plan).fills, Steps, Bound. -/
import Derived.Test.YteajonicnkpbbaaGreatDoorBases
import Derived.Test.YteajonicnkpbbaaGreatDoorReadLaw
import Derived.Test.YteajonicnkpbbaaGreatDoorWordL
namespace Go.Proofs.YteajonicnkpbbaaGreatDoor
set_option linter.all false
open Go.RowKit

def SmallR (nm : ByteArray) (n : Nat) (r : Ending) : Prop := ∃ b, r = .returned (.bool b) ∧ (b = true → n ≤ 10 ∧ nm.size ≤ 60)
theorem SmallR.no {nm : ByteArray} {n : Nat} : SmallR nm n (.returned (.bool false)) := ⟨false, rfl, by simp⟩
theorem SmallR.yes {nm : ByteArray} {n : Nat} (h : n ≤ 10) (h2 : nm.size ≤ 60) : SmallR nm n (.returned (.bool true)) := ⟨true, rfl, fun _ => ⟨h, h2⟩⟩
set_option maxRecDepth 100000 in
theorem bsmall_any (nm : ByteArray) (l : List TierV) (A : Option Addr) (n c : Nat) (w : World) (hr : Rd w 4 A n (tcells l)) (hn : n ≤ 9223372036854775807) (hnm : nm.size ≤ maxLen) (hsz : ∀ t ∈ l, t.name.size ≤ maxLen) :
    Calls Tryz.prog 37 #[polV nm A n c] w fun r w' => SmallR nm n r ∧ Below w.heap.size w w' := by
  have Hr := Lib.hid hr
  have Hsz := Lib.hid hsz
  have hnm' : (nm.size : Int) ≤ 9223372036854775807 := by unfold maxLen at hnm; omega
  clear hr hsz hnm
  have B0 := Lib.hid (Blk.new w 25 #[.string nm, .slice A n c])
  have O := Lib.hid ((Own.start w).skip (Fr.none_alloc w (.cells #[.string nm, .slice A n c] 25)))
  unfold polV
  go_enter Tryz.func37, Tryz.ntmps37
  go_wp2_with fail
  go_loopw [3] (fun i wr => ∃ k : Nat, k ≤ n ∧ k ≤ 12 ∧ i = .int .i64 k ∧ Blk wr w.heap.size 25 #[.string nm, .slice A n c] ∧ Own w wr (fun _ => False)) (fun i _ => n - (intOf i).toNat)
  case atStart => exact ⟨0, Nat.zero_le _, by omega, rfl, B0.out, O.out⟩
  case round =>
    obtain ⟨k, hk, hk12, rfl, hb, ho⟩ := hrel
    have c0 := hb.cell 0
    have c1 := hb.cell 1
    simp only [List.getElem?_toArray, List.getElem?_cons_succ, List.getElem?_cons_zero] at c0 c1
    by_cases hlt : k < n
    · by_cases h12 : k < 12
      · obtain ⟨ad, x, rfl, hu, d0, d1, d2, d3⟩ := (Hr.out.below ho.bel).tier hlt
        have hxs : (x.name.size : Int) ≤ 9223372036854775807 := by have := Hsz.out x (mem_of_get hu); unfold maxLen at this; omega
        have Hb := Lib.hid hb
        have Ho := Lib.hid ho
        clear hb ho hu
        by_cases h60 : 60 < x.name.size
        · have g1 : (60 : Int) < (x.name.size : Int) := by omega
          go_wp2
          go_ret
          exact ⟨by first | exact SmallR.no | (simp [*]; first | exact SmallR.no | (rw [decide_eq_false (show ¬ ((nm.size : Int) ≤ 60) by omega)]; exact SmallR.no)), Ho.out.bel⟩
        · have g1 : (x.name.size : Int) ≤ 60 := by omega
          go_wp2
          go_roundw
          case rel => exact ⟨k + 1, by omega, by omega, by go_num, Hb.out, Ho.out⟩
          case measure => simp [intOf]; omega
      · have hn10 : (10 : Int) < (n : Int) := by omega
        have Ho := Lib.hid ho
        clear ho hb
        go_wp2
        go_ret
        exact ⟨by first | exact SmallR.no | (simp [*]; first | exact SmallR.no | (rw [decide_eq_false (show ¬ ((nm.size : Int) ≤ 60) by omega)]; exact SmallR.no)), Ho.out.bel⟩
    · obtain rfl : k = n := by omega
      have Ho := Lib.hid ho
      clear ho hb
      by_cases h10 : k ≤ 10
      · by_cases h6 : nm.size ≤ 60
        · have g1 : (k : Int) ≤ 10 := by omega
          have g2 : (nm.size : Int) ≤ 60 := by omega
          go_wp2
          go_ret
          exact ⟨by first | exact SmallR.yes h10 h6 | (simp [*]; exact SmallR.yes h10 h6), Ho.out.bel⟩
        · have g1 : (k : Int) ≤ 10 := by omega
          have g2 : (60 : Int) < (nm.size : Int) := by omega
          go_wp2
          go_ret
          exact ⟨by first | exact SmallR.no | (simp [*]; first | exact SmallR.no | (rw [decide_eq_false (show ¬ ((nm.size : Int) ≤ 60) by omega)]; exact SmallR.no)), Ho.out.bel⟩
      · have g1 : (10 : Int) < (k : Int) := by omega
        go_wp2
        go_ret
        exact ⟨by first | exact SmallR.no | (simp [*]; first | exact SmallR.no | (rw [decide_eq_false (show ¬ ((nm.size : Int) ≤ 60) by omega)]; exact SmallR.no)), Ho.out.bel⟩

def fillsV (l : List TierV) : Int := (l.map fun t => max t.shards 0).sum
theorem fills_snoc {l : List TierV} {k : Nat} {x : TierV} (h : l[k]? = some x) : fillsV (l.take (k + 1)) = fillsV (l.take k) + max x.shards 0 := by
  rw [take_snoc h]; simp [fillsV]
set_option maxRecDepth 100000 in
theorem fills_any (nm : ByteArray) (l : List TierV) (A : Option Addr) (n c : Nat) (S : Option Addr) (m d : Nat) (w : World) (hr : Rd w 4 A n (tcells l)) (hn : n ≤ 1099511627776) (hs : ∀ t ∈ l, t.shards ≤ 8) :
    Calls Tryz.prog 194 #[planV nm A n c S m d] w fun r w' => r = .returned (.int .i64 (fillsV l)) ∧ Below w.heap.size w w' := by
  have Hr := Lib.hid hr
  have Hs := Lib.hid hs
  have Hlen := Lib.hid hr.tiers_len
  clear hr hs
  have O := Lib.hid ((Own.start w).skip (Fr.none_alloc w (.cells #[.string nm, .slice A n c, .slice S m d] 91)))
  unfold planV
  go_enter Tryz.func194, Tryz.ntmps194
  go_wp2_with fail
  go_loopw [3, 10] (fun s i wr => ∃ (k : Nat) (v : Int), k ≤ n ∧ i = .int .i64 k ∧ s = .int .i64 v ∧ 0 ≤ v ∧ v ≤ 8 * k ∧ Hid (v = fillsV (l.take k)) ∧ Own w wr (fun _ => False)) (fun _ i _ => n - (intOf i).toNat)
  case atStart => exact ⟨0, 0, Nat.zero_le _, rfl, rfl, by omega, by omega, by simp [Hid, fillsV], O.out⟩
  case round =>
    obtain ⟨k, v, hk, rfl, rfl, v0, v1, hv, ho⟩ := hrel
    by_cases hlt : k < n
    · obtain ⟨ad, x, rfl, hu, d0, d1, d2, d3⟩ := (Hr.out.below ho.bel).tier hlt
      have hx8 := Hs.out x (mem_of_get hu)
      have Hu := Lib.hid hu
      have Ho := Lib.hid ho
      have Hf := Lib.hid (fills_snoc hu)
      clear ho hu
      by_cases h0 : 0 ≤ x.shards
      · go_wp2
        all_goals (
          go_roundw
          case rel => exact ⟨k + 1, v + x.shards, by omega, by go_num, by go_num, by omega, by omega, by rw [Hid, Hf.out, ← hv.out]; omega, Ho.out.skip (Fr.none_alloc _ _)⟩
          case measure => simp [intOf]; omega)
      · go_wp2
        all_goals (
          go_roundw
          case rel => exact ⟨k + 1, v, by omega, by go_num, by go_num, by omega, by omega, by rw [Hid, Hf.out, ← hv.out]; omega, Ho.out.skip (Fr.none_alloc _ _)⟩
          case measure => simp [intOf]; omega)
    · obtain rfl : k = n := by omega
      have Ho := Lib.hid ho
      have hl := hv.out
      rw [take_all (by have := Hlen.out; omega)] at hl
      have Hl := Lib.hid hl
      clear ho hl
      go_wp2
      go_ret
      exact ⟨by rw [← Hl.out]; rfl, Ho.out.bel⟩

def stepsV (l : List TierV) : Int := if l = [] then 0 else fillsV l + 2
theorem fillsV_in {l : List TierV} (hs : ∀ t ∈ l, t.shards ≤ 8) : 0 ≤ fillsV l ∧ fillsV l ≤ 8 * l.length := by
  induction l with
  | nil => simp [fillsV]
  | cons a t ih =>
    have h1 := ih (fun x hx => hs x (List.mem_cons_of_mem _ hx))
    have h2 := hs a (List.mem_cons_self ..)
    have h3 : fillsV (a :: t) = max a.shards 0 + fillsV t := by simp [fillsV]
    rw [h3, List.length_cons]
    omega
theorem steps_any (nm : ByteArray) (l : List TierV) (A : Option Addr) (n c : Nat) (S : Option Addr) (m d : Nat) (w : World) (hr : Rd w 4 A n (tcells l)) (hn : n ≤ 1099511627776) (hs : ∀ t ∈ l, t.shards ≤ 8) :
    Calls Tryz.prog 193 #[planV nm A n c S m d] w fun r w' => r = .returned (.int .i64 (stepsV l)) ∧ Below w.heap.size w w' := by
  have hlen := hr.tiers_len
  have hin := fillsV_in hs
  have H := Lib.hid (fun w' (h : Fr (fun _ => False) w w') => fills_any nm l A n c S m d w' (hr.fr0 h) hn hs)
  have O := Lib.hid ((Own.start w).skip (Fr.none_alloc w (.cells #[.string nm, .slice A n c, .slice S m d] 91)))
  clear hr hs
  unfold planV at H ⊢
  by_cases h0 : n = 0
  · subst h0
    obtain rfl : l = [] := List.eq_nil_of_length_eq_zero hlen
    rw [show stepsV [] = 0 from rfl]
    clear hin hlen H
    go_enter Tryz.func193, Tryz.ntmps193
    go_wp2_with fail
    go_ret
    exact ⟨rfl, O.out.bel⟩
  · have hne : l ≠ [] := by rintro rfl; exact h0 hlen.symm
    rw [show stepsV l = fillsV l + 2 by simp [stepsV, hne]]
    have hnb : ((n : Int) == 0) = false := by simp; omega
    obtain ⟨v, hv⟩ : ∃ v, fillsV l = v := ⟨_, rfl⟩
    rw [hv] at H hin ⊢
    obtain ⟨v0, v1⟩ := hin
    clear hv hne h0
    go_enter Tryz.func193, Tryz.ntmps193
    go_wp2_with fail
    refine (H.out _ (Fr.none_alloc _ _)).mono ?_
    rintro r w1 ⟨rfl, hb⟩
    have O2 := Lib.hid (O.out.below hb)
    clear hb
    go_wp2_with fail
    go_ret
    exact ⟨rfl, O2.out.bel⟩
end Go.Proofs.YteajonicnkpbbaaGreatDoor
namespace Go.Proofs.YteajonicnkpbbaaGreatDoor
set_option linter.all false
open Go.RowKit

end Go.Proofs.YteajonicnkpbbaaGreatDoor
namespace Go.Proofs.YteajonicnkpbbaaGreatDoor
set_option linter.all false
open Go.RowKit

end Go.Proofs.YteajonicnkpbbaaGreatDoor
namespace Go.Proofs.YteajonicnkpbbaaGreatDoor
set_option linter.all false
open Go.RowKit

end Go.Proofs.YteajonicnkpbbaaGreatDoor
namespace Go.Proofs.YteajonicnkpbbaaGreatDoor
set_option linter.all false
open Go.RowKit

end Go.Proofs.YteajonicnkpbbaaGreatDoor
namespace Go.Proofs.YteajonicnkpbbaaGreatDoor
set_option linter.all false
open Go.RowKit

end Go.Proofs.YteajonicnkpbbaaGreatDoor
namespace Go.Proofs.YteajonicnkpbbaaGreatDoor
set_option linter.all false
open Go.RowKit

theorem check_len {nm : ByteArray} {l : List TierV} (h : checkB nm l = true) : 1 ≤ l.length ∧ l.length ≤ 5 := by
  unfold checkB withinB at h
  simp only [Bool.and_eq_true, decide_eq_true_eq] at h
  omega
theorem check_fits {nm : ByteArray} {l : List TierV} (h : checkB nm l = true) {i : Nat} {t : TierV} (ht : l[i]? = some t) : fitsT t (l.take i) = true := by
  unfold checkB at h
  simp only [Bool.and_eq_true, List.all_eq_true, List.mem_range] at h
  have := h.2 i (List.getElem?_eq_some_iff.1 ht).1
  unfold fitsAt at this
  rw [ht] at this
  exact this
theorem fits_ok2 {t : TierV} {l : List TierV} (h : fitsT t l = true) : (1 ≤ t.keep ∧ t.keep ≤ 1000000) ∧ 1 ≤ t.shards ∧ t.shards ≤ 8 := by
  unfold fitsT TierV.ok withinB at h
  simp only [Bool.and_eq_true, decide_eq_true_eq] at h
  omega
theorem take_last {l : List TierV} {i : Nat} {a : TierV} (h : l[i]? = some a) : (l.take (i + 1)).getLast? = some a := by
  rw [take_snoc h, List.getLast?_append]; rfl
theorem check_every {nm : ByteArray} {l : List TierV} (h : checkB nm l = true) : ∀ (i : Nat) (t : TierV), l[i]? = some t → (i = 0 → t.every = 1) ∧ 1 ≤ t.every ∧ t.every ≤ 1000000 := by
  intro i
  induction i with
  | zero =>
    intro t ht
    have := check_fits h ht
    unfold fitsT at this
    simp only [List.take_zero, List.getLast?_nil, Bool.and_eq_true, beq_iff_eq] at this
    omega
  | succ i ih =>
    intro t ht
    have hi : i < l.length := by have := (List.getElem?_eq_some_iff.1 ht).1; omega
    have ha : l[i]? = some l[i] := List.getElem?_eq_getElem hi
    have := check_fits h ht
    unfold fitsT at this
    rw [take_last ha] at this
    simp only [Bool.and_eq_true, decide_eq_true_eq] at this
    have := ih _ ha
    omega
theorem check_mem {nm : ByteArray} {l : List TierV} (h : checkB nm l = true) {t : TierV} (ht : t ∈ l) : 1 ≤ t.every ∧ t.every ≤ 1000000 ∧ 1 ≤ t.keep ∧ t.keep ≤ 1000000 ∧ 1 ≤ t.shards ∧ t.shards ≤ 8 := by
  obtain ⟨i, hi, rfl⟩ := List.mem_iff_getElem.1 ht
  have ha : l[i]? = some l[i] := List.getElem?_eq_getElem hi
  have h1 := check_every h i _ ha
  have h2 := fits_ok2 (check_fits h ha)
  omega

theorem srcGo_law (now : Int) (l : List TierV) (fl : List Int) (e : Int) (m : Nat) (hm : m ≤ l.length) :
    (srcGo now l fl e m = -1 ∧ ∀ i < m, ∀ t, l[i]? = some t → dividesB t.every e = false) ∨
    (∃ (k : Nat) (t : TierV), k < m ∧ srcGo now l fl e m = k ∧ l[k]? = some t ∧ dividesB t.every e = true ∧ ∀ i < m, ∀ t', l[i]? = some t' → dividesB t'.every e = true → fromV now l fl k ≤ fromV now l fl i) := by
  induction m with
  | zero => exact .inl ⟨rfl, fun i hi => by omega⟩
  | succ m ih =>
    have ha : l[m]? = some l[m] := List.getElem?_eq_getElem (by omega)
    simp only [srcGo, ha]
    rcases ih (by omega) with ⟨h1, h2⟩ | ⟨k, t, h0, h1, h2, h3, h4⟩
    · rw [h1]
      by_cases hd : dividesB l[m].every e = true
      · refine .inr ⟨m, l[m], by omega, by simp [hd], ha, hd, fun i hi t' ht' hd' => ?_⟩
        rcases Nat.lt_or_ge i m with hlt | hge
        · rw [h2 i hlt t' ht'] at hd'; cases hd'
        · obtain rfl : i = m := by omega
          exact Int.le_refl _
      · refine .inl ⟨by simp [hd], fun i hi t ht => ?_⟩
        rcases Nat.lt_or_ge i m with hlt | hge
        · exact h2 i hlt t ht
        · obtain rfl : i = m := by omega
          rw [ha] at ht
          injection ht with ht
          subst ht
          simpa using hd
    · rw [h1]
      have hk : decide ((k : Int) < 0) = false := decide_eq_false (by omega)
      rw [hk, Int.toNat_natCast, Bool.false_or]
      by_cases hd : dividesB l[m].every e = true
      · by_cases hle : fromV now l fl m ≤ fromV now l fl k
        · refine .inr ⟨m, l[m], by omega, by simp [hd, hle], ha, hd, fun i hi t' ht' hd' => ?_⟩
          rcases Nat.lt_or_ge i m with hlt | hge
          · exact Int.le_trans hle (h4 i hlt t' ht' hd')
          · obtain rfl : i = m := by omega
            exact Int.le_refl _
        · refine .inr ⟨k, t, by omega, by simp [hle], h2, h3, fun i hi t' ht' hd' => ?_⟩
          rcases Nat.lt_or_ge i m with hlt | hge
          · exact h4 i hlt t' ht' hd'
          · obtain rfl : i = m := by omega
            omega
      · refine .inr ⟨k, t, by omega, by simp [hd], h2, h3, fun i hi t' ht' hd' => ?_⟩
        rcases Nat.lt_or_ge i m with hlt | hge
        · exact h4 i hlt t' ht' hd'
        · obtain rfl : i = m := by omega
          rw [ha] at ht'
          injection ht' with ht'
          subst ht'
          exact absurd hd' hd
theorem divides_one (e : Int) : dividesB 1 e = true := by unfold dividesB; simp [Int.tmod_one]
theorem src_law {now : Int} {nm : ByteArray} {l : List TierV} {fl : List Int} (e : Int) (h : checkB nm l = true) :
    ∃ (k : Nat) (t : TierV), k < l.length ∧ srcGo now l fl e l.length = k ∧ l[k]? = some t ∧ e.tmod t.every = 0 ∧ ∀ (i : Nat) (t' : TierV), l[i]? = some t' → e.tmod t'.every = 0 → fromV now l fl k ≤ fromV now l fl i := by
  rcases srcGo_law now l fl e l.length (Nat.le_refl _) with ⟨_, h2⟩ | ⟨k, t, h0, h1, h2, h3, h4⟩
  · have hl := check_len h
    have ha : l[0]? = some l[0] := List.getElem?_eq_getElem (by omega)
    have := h2 0 (by omega) _ ha
    rw [(check_every h 0 _ ha).1 rfl, divides_one] at this
    cases this
  · refine ⟨k, t, h0, h1, h2, ?_, fun i t' ht' hd => h4 i (List.getElem?_eq_some_iff.1 ht').1 t' ht' ?_⟩
    · unfold dividesB at h3
      simp only [Bool.and_eq_true, decide_eq_true_eq] at h3
      exact h3.2
    · have := check_every h i t' ht'
      unfold dividesB
      simp only [Bool.and_eq_true, decide_eq_true_eq]
      exact ⟨this.2.1, hd⟩
theorem ceil_law {t e : Int} (h0 : 0 ≤ t) (h1 : t ≤ 4398046511104) (he : 1 ≤ e) (he2 : e ≤ 1000000) : (ceilV t e).tmod e = 0 ∧ t ≤ ceilV t e ∧ ceilV t e - t < e ∧ 0 ≤ ceilV t e ∧ ceilV t e ≤ 4398047511104 := by
  have hb := (tmod_bd t e he)
  have h3 := hb.2.2.1 h0
  have hdvd : e ∣ t - t.tmod e := ⟨t.tdiv e, by have := Int.mul_tdiv_add_tmod t e; omega⟩
  unfold ceilV
  rw [if_neg (by omega)]
  split
  · refine ⟨?_, by omega⟩
    exact Int.tmod_eq_zero_of_dvd (Int.dvd_add hdvd (Int.dvd_refl e))
  · rename_i hn
    refine ⟨Int.tmod_eq_zero_of_dvd hdvd, ?_⟩
    have : t.tmod e = 0 := by
      have : ¬ (0 < t.tmod e) := fun hh => hn ⟨hh, by omega⟩
      omega
    omega
theorem floor_le {t e : Int} (he : 1 ≤ e) (h0 : -1000000 ≤ t) (he2 : e ≤ 1000000) : floorV t e ≤ t := by
  have hb := (tmod_bd t e he)
  unfold floorV
  rw [if_neg (by omega)]
  split
  · omega
  · rename_i hn
    have : ¬ (t.tmod e < 0) := fun hh => hn ⟨hh, by omega⟩
    omega
theorem from_bd {now : Int} {nm : ByteArray} {l : List TierV} {fl : List Int} (h : checkB nm l = true) (h0 : 0 ≤ now) (h1 : now ≤ 1099511627776) (hf : ∀ f ∈ fl, 0 ≤ f ∧ f ≤ 2199023255552) (k : Nat) : 0 ≤ fromV now l fl k ∧ fromV now l fl k ≤ 2199023255552 := by
  unfold fromV
  split
  · rename_i a b ha hb
    have h2 := check_mem h (mem_of_get ha)
    have h3 := check_mem h (mem_of_get hb)
    have h4 : 0 ≤ backV now a.keep b.every ∧ backV now a.keep b.every ≤ 2199023255552 := by
      unfold backV
      rw [if_neg (by omega)]
      have := floor_le (t := now - a.keep) (e := b.every) (by omega) (by omega) (by omega)
      omega
    split
    · rename_i f hfk
      have := hf f (mem_of_get hfk)
      show 0 ≤ max (backV now a.keep b.every) f ∧ max (backV now a.keep b.every) f ≤ _
      omega
    · exact h4
  · omega
end Go.Proofs.YteajonicnkpbbaaGreatDoor
namespace Go.Proofs.YteajonicnkpbbaaGreatDoor
set_option linter.all false
open Go.RowKit

def joinW : List ByteArray → List UInt8
  | [] => []
  | [a] => a.data.toList
  | a :: b :: r => a.data.toList ++ 32 :: joinW (b :: r)
def wordsL (n : Int) : Int → List ByteArray → List WordV
  | _, [] => []
  | col, a :: r => ⟨a, n, col⟩ :: wordsL n (col + a.size + 1) r
def wordOk (a : ByteArray) : Prop := 1 ≤ a.size ∧ (∀ c ∈ a.data.toList, letterC c = true) ∧ hashB a = false
theorem ba_ext {a b : ByteArray} (h : a.data.toList = b.data.toList) : a = b := by
  cases a; cases b
  congr
  exact Array.toList_inj.1 h
theorem ba_len (a : ByteArray) : a.data.toList.length = a.size := by rw [Array.length_toList]; rfl
theorem lineAt_succ' {s : ByteArray} {n : Int} {i : Nat} {c : UInt8} (hc : s.data.toList[i]? = some c) {out : List WordV} {b : Int} (h : lineAt s n i = some (out, b)) : lineAt s n (i + 1) = lineStep s n i c out b := by
  show (match lineAt s n i with | none => none | some p => match s.data.toList[i]? with | none => some p | some c => lineStep s n i c p.1 p.2) = _
  rw [h, hc]
theorem letter_not_blank {c : UInt8} (h : letterC c = true) : blankC c = false := by
  unfold letterC at h
  unfold blankC
  simp only [Bool.and_eq_true, decide_eq_true_eq] at h
  simp
  omega
theorem line_word {s : ByteArray} {n : Int} {pre rest : List UInt8} {a : ByteArray} (hs : s.data.toList = pre ++ (a.data.toList ++ rest)) (ha : wordOk a) {out : List WordV} (h : lineAt s n pre.length = some (out, -1)) :
    lineAt s n (pre.length + a.size) = some (out ++ [⟨a, n, (pre.length : Int) + 1⟩], (pre.length : Int)) := by
  obtain ⟨h1, h2, _⟩ := ha
  have hget : ∀ j, j < a.size → ∃ c, s.data.toList[pre.length + j]? = some c ∧ letterC c = true := fun j hj => by
    have hj' : j < a.data.toList.length := by rw [ba_len]; exact hj
    refine ⟨a.data.toList[j], ?_, h2 _ (List.getElem_mem hj')⟩
    rw [hs, List.getElem?_append_right (by omega), Nat.add_sub_cancel_left, List.getElem?_append_left hj', List.getElem?_eq_getElem hj']
  have hext : ∀ k, k ≤ a.size → (s.extract pre.length (pre.length + k)).data.toList = a.data.toList.take k := fun k hk => by
    rw [Lib.extract_data, hs, List.drop_left' rfl, Nat.add_sub_cancel_left, List.take_append_of_le_length (by rw [ba_len]; exact hk)]
  have key : ∀ k, k < a.size → lineAt s n (pre.length + (k + 1)) = some (out ++ [⟨s.extract pre.length (pre.length + (k + 1)), n, (pre.length : Int) + 1⟩], (pre.length : Int)) := by
    intro k
    induction k with
    | zero =>
      intro hk
      obtain ⟨c, hc, hl⟩ := hget 0 hk
      have := lineAt_succ' (n := n) (by simpa using hc) h
      rw [Nat.zero_add, this]
      unfold lineStep
      rw [letter_not_blank hl, hl]
      simp
    | succ k ih =>
      intro hk
      obtain ⟨c, hc, hl⟩ := hget (k + 1) hk
      have := lineAt_succ' (n := n) hc (ih (by omega))
      rw [show pre.length + (k + 1 + 1) = pre.length + (k + 1) + 1 by omega, this]
      unfold lineStep
      rw [letter_not_blank hl, hl]
      simp only [Bool.not_true, Bool.and_false, Bool.false_eq_true, if_false]
      rw [if_neg (by omega), growL_snoc]
      simp
  have hk := key (a.size - 1) (by omega)
  rw [show a.size - 1 + 1 = a.size by omega] at hk
  rw [hk]
  have : s.extract pre.length (pre.length + a.size) = a := ba_ext (by rw [hext _ (Nat.le_refl _), List.take_of_length_le (by rw [ba_len]; exact Nat.le_refl _)])
  rw [this]
theorem line_words {s : ByteArray} {n : Int} : ∀ (ws : List ByteArray) (pre : List UInt8) (out : List WordV), (∀ a ∈ ws, wordOk a) → s.data.toList = pre ++ joinW ws → lineAt s n pre.length = some (out, -1) →
    ∃ b, lineAt s n s.size = some (out ++ wordsL n ((pre.length : Int) + 1) ws, b)
  | [], pre, out, _, hs, h => by
    have : s.size = pre.length := by rw [← ba_len, hs]; simp [joinW]
    rw [this, h]
    exact ⟨-1, by simp [wordsL]⟩
  | [a], pre, out, hw, hs, h => by
    have hj : joinW [a] = a.data.toList ++ [] := by simp [joinW]
    rw [hj] at hs
    have hl := line_word hs (hw a (by simp)) h
    have : s.size = pre.length + a.size := by rw [← ba_len, hs]; simp [ba_len]
    rw [this, hl]
    exact ⟨_, rfl⟩
  | a :: b :: r, pre, out, hw, hs, h => by
    have hj : joinW (a :: b :: r) = a.data.toList ++ 32 :: joinW (b :: r) := rfl
    rw [hj] at hs
    have hl := line_word hs (hw a (by simp)) h
    have hc : s.data.toList[pre.length + a.size]? = some 32 := by
      rw [hs, ← ba_len a, ← List.append_assoc, ← List.length_append, List.getElem?_append_right (Nat.le_refl _), Nat.sub_self]
      rfl
    have h2 := lineAt_succ' hc hl
    have h3 : lineStep s n (pre.length + a.size) 32 (out ++ [⟨a, n, (pre.length : Int) + 1⟩]) (pre.length : Int) = some (out ++ [⟨a, n, (pre.length : Int) + 1⟩], -1) := by
      unfold lineStep
      rw [show blankC 32 = true from rfl]
      simp
    rw [h3] at h2
    have hlen : (pre ++ a.data.toList ++ [32]).length = pre.length + a.size + 1 := by simp [ba_len]; omega
    obtain ⟨b', hb⟩ := line_words (b :: r) (pre ++ a.data.toList ++ [32]) _ (fun x hx => hw x (List.mem_cons_of_mem _ hx)) (by rw [hs]; simp) (by rw [hlen]; exact h2)
    refine ⟨b', ?_⟩
    rw [hb, hlen]
    have e : ((pre.length + a.size + 1 : Nat) : Int) + 1 = (pre.length : Int) + 1 + a.size + 1 := by omega
    rw [e]
    simp [wordsL]
theorem wordsL_mem {n : Int} : ∀ {ws : List ByteArray} {col : Int} {x : WordV}, x ∈ wordsL n col ws → x.text ∈ ws ∧ x.line = n
  | a :: r, col, x, h => by
    rcases List.mem_cons.1 h with rfl | h
    · exact ⟨by simp, rfl⟩
    · obtain ⟨h1, h2⟩ := wordsL_mem h
      exact ⟨List.mem_cons_of_mem _ h1, h2⟩
theorem wordsL_text {n : Int} : ∀ {ws : List ByteArray} {col : Int}, (wordsL n col ws).map WordV.text = ws
  | [], _ => rfl
  | a :: r, col => by
    show a :: (wordsL n _ r).map WordV.text = a :: r
    rw [wordsL_text]
theorem wordsL_len {n : Int} {ws : List ByteArray} {col : Int} : (wordsL n col ws).length = ws.length := by rw [← List.length_map (f := WordV.text), wordsL_text]
theorem takeWhile_all {α : Type} {p : α → Bool} : ∀ {l : List α}, (∀ x ∈ l, p x = true) → l.takeWhile p = l
  | [], _ => rfl
  | a :: l, h => by
    rw [List.takeWhile_cons, if_pos (h a (by simp)), takeWhile_all (fun x hx => h x (List.mem_cons_of_mem _ hx))]
theorem lineV_words {s : ByteArray} {n : Int} {ws : List ByteArray} (hw : ∀ a ∈ ws, wordOk a) (hs : s.data.toList = joinW ws) : lineV s n = some (wordsL n 1 ws) := by
  obtain ⟨b, hb⟩ := line_words (n := n) ws [] [] hw (by simpa using hs) rfl
  unfold lineV
  rw [hb]
  simp only [List.nil_append, Option.map_some, Option.some.injEq]
  have e : (([] : List UInt8).length : Int) + 1 = 1 := rfl
  rw [e]
  refine takeWhile_all (fun x hx => ?_)
  have := (hw _ (wordsL_mem hx).1).2.2
  rw [this]; rfl
def linesW : Int → List (List ByteArray) → List WordV
  | _, [] => []
  | n, ws :: r => wordsL n 1 ws ++ linesW (n + 1) r
theorem cutG_lines : ∀ (ls : List ByteArray) (wss : List (List ByteArray)) (i : Nat) (acc : List WordV), ls.map (fun s => s.data.toList) = wss.map joinW → (∀ ws ∈ wss, ∀ a ∈ ws, wordOk a) → cutG ls i acc = .inl (acc ++ linesW ((i : Int) + 1) wss)
  | [], [], i, acc, _, _ => by simp [cutG, linesW]
  | [], _ :: _, _, _, h, _ => by cases h
  | _ :: _, [], _, _, h, _ => by cases h
  | s :: ls, ws :: wss, i, acc, h, hw => by
    simp only [List.map_cons, List.cons.injEq] at h
    unfold cutG
    rw [lineV_words (hw ws (by simp)) h.1]
    simp only
    rw [cutG_lines ls wss (i + 1) _ h.2 (fun x hx => hw x (List.mem_cons_of_mem _ hx))]
    have e : ((i + 1 : Nat) : Int) + 1 = (i : Int) + 1 + 1 := by omega
    rw [e]
    simp [linesW]
theorem splitK_lines : ∀ (ls : List (List UInt8)), (∀ l ∈ ls, (10 : UInt8) ∉ l) → Lib.splitK [10] 0 ls.length (ls.flatMap fun l => l ++ [10]) = ls ++ [[]]
  | [], _ => rfl
  | l :: ls, h => by
    have hidx : Lib.index ((l :: ls).flatMap fun l => l ++ [10]) [10] = (l.length : Nat) := by
      have e : ((l :: ls).flatMap fun l => l ++ [10]) = l ++ 10 :: (ls.flatMap fun l => l ++ [10]) := by simp
      rw [e]
      refine Lib.index_first (by simp) ?_ (fun j hj => ?_)
      · unfold Lib.occAt
        rw [List.drop_left' rfl]
        simp
      · unfold Lib.occAt
        have h10 := h l (by simp)
        rw [List.drop_append_of_le_length (by omega)]
        obtain ⟨c, t, hct⟩ : ∃ c t, l.drop j = c :: t := by
          cases hd : l.drop j with
          | nil => have := congrArg List.length hd; simp at this; omega
          | cons c t => exact ⟨c, t, rfl⟩
        rw [hct]
        have hc : c ∈ l := List.mem_of_mem_drop (by rw [hct]; simp)
        have hne : (10 : UInt8) ≠ c := fun e => h10 (e ▸ hc)
        simp [List.isPrefixOf, hne]
    show Lib.splitK [10] 0 (ls.length + 1) _ = _
    unfold Lib.splitK
    rw [hidx, if_neg (by rw [beq_iff_eq]; omega)]
    have e1 : ((l.length : Nat) : Int).toNat + 0 = l.length := by omega
    have e2 : ((l.length : Nat) : Int).toNat + [(10 : UInt8)].length = l.length + 1 := by simp
    rw [e1, e2]
    have e : ((l :: ls).flatMap fun l => l ++ [10]) = l ++ 10 :: (ls.flatMap fun l => l ++ [10]) := by simp
    rw [e, List.take_left' rfl, List.drop_length_add_append, List.drop_one]
    show l :: Lib.splitK [10] 0 ls.length (ls.flatMap fun l => l ++ [10]) = _
    rw [splitK_lines ls (fun x hx => h x (List.mem_cons_of_mem _ hx))]
    rfl
theorem count_lines : ∀ (ls : List (List UInt8)), (∀ l ∈ ls, (10 : UInt8) ∉ l) → (ls.flatMap fun l => l ++ [10]).count 10 = ls.length
  | [], _ => rfl
  | l :: ls, h => by
    rw [List.flatMap_cons, List.count_append, List.count_append, count_lines ls (fun x hx => h x (List.mem_cons_of_mem _ hx)), List.count_eq_zero.2 (h l (by simp))]
    simp; omega
theorem split_lines {s : ByteArray} {ls : List (List UInt8)} (h : ∀ l ∈ ls, (10 : UInt8) ∉ l) (hs : s.data.toList = ls.flatMap fun l => l ++ [10]) : (Lib.splitB bNl 0 (Lib.countB s bNl) s).map (fun s => s.data.toList) = ls ++ [[]] := by
  rw [Lib.splitB_data]
  have hb : bNl.data.toList = [10] := rfl
  have hc : Lib.countB s bNl = ls.length := by
    show Lib.count s.data.toList bNl.data.toList = _
    rw [hb, Lib.count_one, hs, count_lines ls h]
  rw [hc, hb, hs, splitK_lines ls h]
theorem joinW_nl : ∀ {ws : List ByteArray}, (∀ a ∈ ws, wordOk a) → (10 : UInt8) ∉ joinW ws
  | [], _, h => by cases h
  | [a], hw, h => by
    have := (hw a (by simp)).2.1 10 h
    exact absurd this (by decide)
  | a :: b :: r, hw, h => by
    rcases List.mem_append.1 (show (10 : UInt8) ∈ a.data.toList ++ 32 :: joinW (b :: r) from h) with h | h
    · have := (hw a (by simp)).2.1 10 h
      exact absurd this (by decide)
    · rcases List.mem_cons.1 h with h | h
      · exact absurd h (by decide)
      · exact joinW_nl (fun x hx => hw x (List.mem_cons_of_mem _ hx)) h
theorem cut_lines {s : ByteArray} {wss : List (List ByteArray)} (hw : ∀ ws ∈ wss, ∀ a ∈ ws, wordOk a) (hs : s.data.toList = wss.flatMap fun ws => joinW ws ++ [10]) (h4 : s.size ≤ 4000) : cutV s = .inl (linesW 1 wss) := by
  unfold cutV
  rw [if_neg (by omega)]
  have hs2 : s.data.toList = (wss.map joinW).flatMap fun l => l ++ [10] := by rw [hs, List.flatMap_map]
  have h1 := split_lines (s := s) (ls := wss.map joinW) (fun l hl => by
    obtain ⟨ws, hws, rfl⟩ := List.mem_map.1 hl
    exact joinW_nl (hw ws hws)) hs2
  have h2 : (Lib.splitB bNl 0 (Lib.countB s bNl) s).map (fun s => s.data.toList) = (wss ++ [[]]).map joinW := by rw [h1]; simp [joinW]
  have h3 := cutG_lines _ (wss ++ [[]]) 0 [] h2 (fun ws hws => by
    rcases List.mem_append.1 hws with h | h
    · exact hw ws h
    · rw [List.mem_singleton] at h
      rw [h]
      exact fun _ h => by cases h)
  rw [h3]
  have e : ∀ (n : Int) (w : List (List ByteArray)), linesW n (w ++ [[]]) = linesW n w := by
    intro n w
    induction w generalizing n with
    | nil => simp [linesW, wordsL]
    | cons a w ih => simp [linesW, ih]
  rw [e]
  simp
theorem linesW_line : ∀ {n : Int} {wss : List (List ByteArray)} {x : WordV}, x ∈ linesW n wss → n ≤ x.line
  | n, ws :: wss, x, h => by
    rcases List.mem_append.1 (show x ∈ wordsL n 1 ws ++ linesW (n + 1) wss from h) with h | h
    · rw [(wordsL_mem h).2]; exact Int.le_refl _
    · have := linesW_line h; omega
theorem head_lines {n : Int} {ws : List ByteArray} {wss : List (List ByteArray)} (hne : ws ≠ []) : headL (linesW n (ws :: wss)) = wordsL n 1 ws := by
  obtain ⟨a, r, rfl⟩ : ∃ a r, ws = a :: r := by
    cases ws with
    | nil => exact absurd rfl hne
    | cons a r => exact ⟨a, r, rfl⟩
  show headL (⟨a, n, 1⟩ :: (wordsL n _ r ++ linesW (n + 1) wss)) = ⟨a, n, 1⟩ :: wordsL n _ r
  unfold headL
  simp only
  congr 1
  have h1 : ∀ x ∈ wordsL n (1 + (a.size : Int) + 1) r, (x.line == n) = true := fun x hx => by rw [(wordsL_mem hx).2]; simp
  rw [List.takeWhile_append]
  rw [takeWhile_all h1, if_pos rfl]
  have h2 : (linesW (n + 1) wss).takeWhile (fun y => y.line == n) = [] := by
    cases hl : linesW (n + 1) wss with
    | nil => rfl
    | cons y t =>
      have := linesW_line (x := y) (n := n + 1) (wss := wss) (by rw [hl]; simp)
      rw [List.takeWhile_cons, if_neg (by simp; omega)]
  rw [h2, List.append_nil]
def tierWs (t : TierV) : List ByteArray := [bTier, t.name, bEvery, bstr (Lib.itoa t.every), bKeep, bstr (Lib.itoa t.keep), bShards, bstr (Lib.itoa t.shards)]
def numIn (v : Int) : Prop := -1000000000000000000 < v ∧ v < 1000000000000000000
theorem numW_of {v : Int} (h : numIn v) (b : ByteArray) : numW b (bstr (Lib.itoa v)) b = (v, true) := by
  unfold numW
  have : (bstr (Lib.itoa v)).data.toList = Lib.itoa v := rfl
  unfold numIn at h
  rw [this, numV_itoa, if_pos h]
  simp
theorem tierW_of {t : TierV} {acc : List TierV} (h1 : numIn t.every) (h2 : numIn t.keep) (h3 : numIn t.shards) (hl : acc.length ≠ 5) : tierW (tierWs t) acc = some (acc ++ [t]) := by
  unfold tierW tierWs
  simp only [numW_of h1, numW_of h2, numW_of h3, hl, decide_false, Bool.not_false, Bool.and_true, beq_self_eq_true, if_true]
theorem tiersG_of : ∀ (l : List TierV) (f : Nat) (n : Int) (acc : List TierV), (∀ t ∈ l, numIn t.every ∧ numIn t.keep ∧ numIn t.shards) → acc.length + l.length ≤ 5 → l.length ≤ f → tiersG f (linesW n (l.map tierWs)) acc = .inl (acc ++ l)
  | [], f, n, acc, _, _, _ => by
    cases f <;> simp [tiersG, linesW]
  | t :: l, 0, n, acc, _, _, h => by simp at h
  | t :: l, f + 1, n, acc, hn, h5, hf => by
    have hh := head_lines (n := n) (ws := tierWs t) (wss := l.map tierWs) (by simp [tierWs])
    obtain ⟨x, R, hx⟩ : ∃ x R, linesW n ((t :: l).map tierWs) = x :: R := ⟨_, _, rfl⟩
    have hh : headL (linesW n ((t :: l).map tierWs)) = wordsL n 1 (tierWs t) := hh
    rw [hx] at hh ⊢
    unfold tiersG
    obtain ⟨n1, n2, n3⟩ := hn t (by simp)
    rw [List.length_cons] at h5 hf
    rw [hh, wordsL_text, tierW_of n1 n2 n3 (by omega)]
    simp only
    have hd : (x :: R).drop (wordsL n 1 (tierWs t)).length = linesW (n + 1) (l.map tierWs) := by
      rw [← hx]
      show (wordsL n 1 (tierWs t) ++ linesW (n + 1) (l.map tierWs)).drop _ = _
      rw [List.drop_left' rfl]
    rw [hd, tiersG_of l f (n + 1) (acc ++ [t]) (fun y hy => hn y (List.mem_cons_of_mem _ hy)) (by simp; omega) (by omega)]
    simp
def printL (nm : ByteArray) (l : List TierV) : List UInt8 := ([bPolicy, nm] :: l.map tierWs).flatMap fun ws => joinW ws ++ [10]
def printV (nm : ByteArray) (l : List TierV) : ByteArray := bstr (printL nm l)
theorem letters_ok {l : List UInt8} (h : letters l = true) {c : UInt8} (hc : c ∈ l) : letterC c = true ∧ c ≠ 35 := by
  unfold letters at h
  rw [List.all_eq_true] at h
  have h := h c hc
  unfold letterB at h
  unfold letterC
  simp at h ⊢
  refine ⟨by omega, fun e => ?_⟩
  rw [e] at h
  exact absurd h (by decide)
theorem letters_word {s : ByteArray} (h : validB s = true) : wordOk s := by
  unfold validB at h
  simp only [Bool.and_eq_true, decide_eq_true_eq] at h
  have hc : ∀ c ∈ s.data.toList, letterC c = true ∧ c ≠ 35 := fun c hc => letters_ok h.2 hc
  refine ⟨h.1.1, fun c h => (hc c h).1, ?_⟩
  unfold hashB
  cases hd : s.data.toList with
  | nil => rfl
  | cons c t =>
    have := (hc c (by rw [hd]; simp)).2
    simp [this]
theorem itoa_word {v : Int} (h : 0 ≤ v) : wordOk (bstr (Lib.itoa v)) := by
  have hd : ∀ c ∈ Lib.itoa v, 48 ≤ c.toNat ∧ c.toNat ≤ 57 := fun c hc => by
    obtain ⟨u, rfl⟩ := Int.eq_ofNat_of_zero_le h
    rw [itoa_pos] at hc
    have := dec_dig u
    rw [List.all_eq_true] at this
    have := this c hc
    unfold isDig at this
    exact of_decide_eq_true this
  have hl := List.length_pos_iff.2 (itoa_ne v)
  refine ⟨by rw [← ba_len]; exact hl, fun c hc => ?_, ?_⟩
  · have := hd c hc
    unfold letterC
    simp
    omega
  · unfold hashB
    show ((Lib.itoa v).head? == some 35) = false
    cases hh : Lib.itoa v with
    | nil => rfl
    | cons c t =>
      have := hd c (by rw [hh]; simp)
      have hne : c ≠ 35 := fun e => by rw [e] at this; exact absurd this.1 (by decide)
      simp [hne]
theorem read_print {nm : ByteArray} {l : List TierV} (h : checkB nm l = true) (h4 : (printL nm l).length ≤ 4000) : readV (printV nm l) = (0, nm, l) := by
  have hn : validB nm = true := by
    cases hv : validB nm
    · unfold checkB at h
      simp [hv] at h
    · rfl
  have hl5 := check_len h
  have ht : ∀ t ∈ l, validB t.name = true ∧ 1 ≤ t.every ∧ t.every ≤ 1000000 ∧ 1 ≤ t.keep ∧ t.keep ≤ 1000000 ∧ 1 ≤ t.shards ∧ t.shards ≤ 8 := fun t ht => by
    have hm := check_mem h ht
    obtain ⟨i, hi⟩ := List.getElem?_of_mem ht
    have hf := check_fits h hi
    refine ⟨?_, by omega, by omega, by omega, by omega, by omega, by omega⟩
    cases hv : validB t.name
    · unfold fitsT TierV.ok at hf
      simp [hv] at hf
    · rfl
  have hcon : ∀ b ∈ [bPolicy, bTier, bEvery, bKeep, bShards], wordOk b := fun b hb => by
    simp only [List.mem_cons, List.not_mem_nil, or_false] at hb
    rcases hb with rfl | rfl | rfl | rfl | rfl <;> exact ⟨by decide, by decide, by decide⟩
  have hws : ∀ ws ∈ [bPolicy, nm] :: l.map tierWs, ∀ a ∈ ws, wordOk a := by
    intro ws hws a ha
    rcases List.mem_cons.1 hws with rfl | hws
    · simp only [List.mem_cons, List.not_mem_nil, or_false] at ha
      rcases ha with rfl | rfl
      · exact hcon _ (by simp)
      · exact letters_word hn
    · obtain ⟨t, htl, rfl⟩ := List.mem_map.1 hws
      obtain ⟨v1, v2, v3, v4, v5, v6, v7⟩ := ht t htl
      unfold tierWs at ha
      simp only [List.mem_cons, List.not_mem_nil, or_false] at ha
      rcases ha with rfl | rfl | rfl | rfl | rfl | rfl | rfl | rfl
      · exact hcon _ (by simp)
      · exact letters_word v1
      · exact hcon _ (by simp)
      · exact itoa_word (by omega)
      · exact hcon _ (by simp)
      · exact itoa_word (by omega)
      · exact hcon _ (by simp)
      · exact itoa_word (by omega)
  have hcut : cutV (printV nm l) = .inl (linesW 1 ([bPolicy, nm] :: l.map tierWs)) := cut_lines hws rfl (by rw [← ba_len]; exact h4)
  have hparse : parseG (linesW 1 ([bPolicy, nm] :: l.map tierWs)) = .inl (nm, l) := by
    unfold parseG
    rw [head_lines (by simp), wordsL_text]
    have : headW [bPolicy, nm] = some nm := by unfold headW; simp
    rw [this]
    simp only
    have hd : (linesW 1 ([bPolicy, nm] :: l.map tierWs)).drop (wordsL 1 1 [bPolicy, nm]).length = linesW (1 + 1) (l.map tierWs) := List.drop_left' rfl
    have hlen : ∀ (n : Int) (l : List TierV), l.length ≤ (linesW n (l.map tierWs)).length := by
      intro n l
      induction l generalizing n with
      | nil => exact Nat.zero_le _
      | cons t l ih =>
        show l.length + 1 ≤ (wordsL n 1 (tierWs t) ++ linesW (n + 1) (l.map tierWs)).length
        rw [List.length_append, wordsL_len]
        have := ih (n + 1)
        have h8 : (tierWs t).length = 8 := rfl
        omega
    have hlen2 : l.length ≤ (linesW 1 ([bPolicy, nm] :: l.map tierWs)).length := by
      show l.length ≤ (wordsL 1 1 [bPolicy, nm] ++ linesW (1 + 1) (l.map tierWs)).length
      rw [List.length_append]
      have := hlen (1 + 1) l
      omega
    rw [hd, tiersG_of l _ (1 + 1) [] (fun t htl => by
      obtain ⟨v1, v2, v3, v4, v5, v6, v7⟩ := ht t htl
      unfold numIn
      omega) (by simp; omega) hlen2]
    rfl
  unfold readV parseV
  rw [hcut]
  simp only [hparse, if_true, h]
end Go.Proofs.YteajonicnkpbbaaGreatDoor
