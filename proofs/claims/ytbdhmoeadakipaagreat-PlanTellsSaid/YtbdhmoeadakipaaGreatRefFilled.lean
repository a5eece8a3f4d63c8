/- Walk of (sedimentref10.Plan).Filled. -/
import Derived.Test.YtbdhmoeadakipaaGreatRefAt
import Derived.Test.YtbdhmoeadakipaaGreatRefHash
import Derived.Test.YtbdhmoeadakipaaGreatFilled
namespace Go.Proofs.YtbdhmoeadakipaaGreat
open Go.RowKit

theorem atGo_spec (l : List TierV) (hl : ∀ t ∈ l, 0 ≤ t.shards) (i : Nat) (k : Int) (k0 : 0 ≤ k) (k1 : k < fillsV l) : ∃ j t, l[j]? = some t ∧ atGo k i l = (1, ((i + j : Nat) : Int), k - fillsV (l.take j)) ∧ 0 ≤ k - fillsV (l.take j) ∧ k - fillsV (l.take j) < t.shards := by
  induction l generalizing i k with
  | nil => simp [fillsV] at k1; omega
  | cons a r ih =>
    have ha := hl a (List.mem_cons_self ..)
    have hf : fillsV (a :: r) = a.shards + fillsV r := by simp only [fillsV, List.map_cons, List.sum_cons]; omega
    by_cases h : k < a.shards
    · exact ⟨0, a, rfl, by simp [atGo, h, fillsV], by simpa [fillsV] using k0, by simpa [fillsV] using h⟩
    · obtain ⟨j, t, hj, e, e0, e1⟩ := ih (fun t ht => hl t (List.mem_cons_of_mem _ ht)) (i + 1) (k - a.shards) (by omega) (by omega)
      have ht : fillsV ((a :: r).take (j + 1)) = a.shards + fillsV (r.take j) := by simp only [List.take_succ_cons, fillsV, List.map_cons, List.sum_cons]; omega
      refine ⟨j + 1, t, by simpa using hj, ?_, by rw [ht]; omega, by rw [ht]; omega⟩
      simp only [atGo, h, if_false]
      rw [show max a.shards 0 = a.shards by omega, e, ht]
      simp only [Prod.mk.injEq, true_and]
      exact ⟨by omega, by omega⟩
theorem fills_mono {l : List TierV} (i j : Nat) (h : i ≤ j) : fillsV (l.take i) ≤ fillsV (l.take j) := by
  induction j with
  | zero => obtain rfl : i = 0 := by omega
            exact Int.le_refl _
  | succ j ih =>
    rcases Nat.lt_or_ge i (j + 1) with h1 | h1
    · have := ih (by omega)
      by_cases hl : j < l.length
      · have h2 := fills_snoc (List.getElem?_eq_getElem hl)
        omega
      · rw [List.take_of_length_le (by omega : l.length ≤ j)] at this
        rw [List.take_of_length_le (by omega : l.length ≤ j + 1)]
        exact this
    · obtain rfl : i = j + 1 := by omega
      exact Int.le_refl _
theorem at_first {l : List TierV} (hl8 : ∀ t ∈ l, 0 ≤ t.shards ∧ t.shards ≤ 8) {j : Nat} {t : TierV} (hj : l[j]? = some t) {sv : Int} (s0 : 0 ≤ sv) (s1 : sv < t.shards) (k : Nat) (hk : (k : Int) ≤ sv + fillsV (l.take j)) :
    ∃ (j' : Nat) (s' : Int), atV l k = ((1, (j' : Int), s'), true) ∧ 0 ≤ s' ∧ s' < 8 ∧ (((j' : Int) = j ∧ s' = sv) ↔ (k : Int) = sv + fillsV (l.take j)) ∧ j' < l.length := by
  have hl : ∀ t ∈ l, 0 ≤ t.shards := fun t ht => (hl8 t ht).1
  have h1 := fills_snoc' hj (hl t (mem_of_get hj))
  have h2 : fillsV (l.take (j + 1)) ≤ fillsV l := by
    have := fills_mono (l := l) (j + 1) (max (j + 1) l.length) (by omega)
    rwa [List.take_of_length_le (by omega : l.length ≤ max (j + 1) l.length)] at this
  obtain ⟨j', t', hj', e, e0, e1⟩ := atGo_spec l hl 0 k (by omega) (by omega)
  have hne : l ≠ [] := by rintro rfl; simp at hj
  have hst : ¬ ((k : Int) < 0 ∨ stepsV l ≤ k) := by
    have : stepsV l = fillsV l + 2 := by simp [stepsV, hne]
    omega
  refine ⟨j', (k : Int) - fillsV (l.take j'), ?_, e0, by have := (hl8 t' (mem_of_get hj')).2; omega, ?_, (List.getElem?_eq_some_iff.1 hj').1⟩
  · unfold atV
    rw [if_neg hst, e]
    simp
  · constructor
    · rintro ⟨a, b⟩
      obtain rfl : j' = j := by omega
      omega
    · intro hkF
      have : j' = j := by
        have h3 := fills_snoc' hj' (hl t' (mem_of_get hj'))
        rcases Nat.lt_trichotomy j' j with h | h | h
        · have := fills_mono (l := l) (j' + 1) j (by omega)
          omega
        · exact h
        · have := fills_mono (l := l) (j + 1) j' (by omega)
          omega
      subst this
      exact ⟨rfl, by omega⟩
set_option maxRecDepth 100000 in
set_option maxHeartbeats 2000000 in
theorem ref_filled_any (nm : ByteArray) (l : List TierV) (A : Option Addr) (n c : Nat) (S : Option Addr) (m d : Nat) (k : Int) (hk0 : i64 k) (j : Nat) (t : TierV) (s : ByteArray) (w : World) (hr : Rd w 4 A n (tcells l)) (hn : n ≤ 1099511627776) (hs : ∀ t ∈ l, 0 ≤ t.shards ∧ t.shards ≤ 8) (hj : l[j]? = some t) (ht1 : 1 ≤ t.shards) (hsz : s.size ≤ maxLen) :
    Calls Tryz.prog 22 #[planV nm A n c S m d, .int .i64 k, .int .i64 j, .string s] w fun r w' => r = .returned (.bool (decide (shardV s t.shards + fillsV (l.take j) < k))) ∧ Below w.heap.size w w' := by
  have hlen := hr.tiers_len
  have hjn : j < n := by have := (List.getElem?_eq_some_iff.1 hj).1; omega
  have kn : 0 ≤ (j : Int) ∧ (j : Int) < (n : Int) := by omega
  have HSh := Lib.hid (fun w' => rshard_any s hsz t.shards w')
  have hsv : 0 ≤ shardV s t.shards ∧ shardV s t.shards < t.shards := by
    unfold shardV
    rw [if_neg (by omega)]
    exact ⟨Int.emod_nonneg _ (by omega), Int.emod_lt_of_pos _ (by omega)⟩
  obtain ⟨sv, hsv'⟩ : ∃ sv, shardV s t.shards = sv := ⟨_, rfl⟩
  rw [hsv'] at HSh hsv ⊢
  obtain ⟨sv0, sv1⟩ := hsv
  have HA := Lib.hid (fun (i : Nat) => at_first hs hj sv0 sv1 i)
  have HAt := Lib.hid (fun (i : Int) (hi : i64 i) w' (h : Fr (fun _ => False) w w') => ref_at_any nm l A n c S m d i hi w' (hr.fr0 h) hn hs)
  have Hr := Lib.hid hr
  have Hj := Lib.hid hj
  have hF0 : 0 ≤ fillsV (l.take j) := (fillsV_in (fun t ht => (hs t (List.mem_of_mem_take ht)).2)).1
  have hF1 : fillsV (l.take j) ≤ 8 * 1099511627776 := by
    have h1 := (fillsV_in (l := l.take j) (fun t ht => (hs t (List.mem_of_mem_take ht)).2)).2
    have h2 : (l.take j).length ≤ j := by simp; omega
    omega
  obtain ⟨F, hF⟩ : ∃ F, fillsV (l.take j) = F := ⟨_, rfl⟩
  rw [hF] at HA hF0 hF1 ⊢
  have ht8 := (hs t (mem_of_get hj)).2
  have O := Lib.hid ((Own.start w).skip (Fr.none_alloc w (.cells #[.string nm, .slice A n c, .slice S m d] 31)))
  have B0 := Lib.hid (Blk.new w 31 #[.string nm, .slice A n c, .slice S m d])
  clear hr hs hlen hj hsv' hsz hF
  unfold planV at HAt ⊢
  have hk1 := hk0.2
  go_enter Tryz.func22, Tryz.ntmps22
  go_wp2_with fail
  go_loopw [9] (fun i wr => ∃ (g : Nat), i = .int .i64 g ∧ (g : Int) ≤ sv + F ∧ Blk wr w.heap.size 31 #[.string nm, .slice A n c, .slice S m d] ∧ Own w wr (fun _ => False)) (fun i _ => (sv + F + 1).toNat - (intOf i).toNat)
  case atStart => exact ⟨0, rfl, by omega, B0.out, O.out⟩
  case round =>
    obtain ⟨g, rfl, hg, hb, ho⟩ := hrel
    by_cases hlt : (g : Int) < k
    · obtain ⟨j', s', hat, s0, s8, hiff, hjl⟩ := HA.out g hg
      have Hat := Lib.hid hat
      have Hif := Lib.hid hiff
      have Ho := Lib.hid ho
      have Hb := Lib.hid hb
      have c0 := hb.cell 0
      have c1 := hb.cell 1
      have c2 := hb.cell 2
      simp only [List.getElem?_toArray, List.getElem?_cons_succ, List.getElem?_cons_zero] at c0 c1 c2
      clear hat hiff ho hb
      go_wp2_with fail
      have hh := HAt.out g (by unfold i64; omega) wr (Fr.b0 Ho.out.bel)
      rw [Hat.out] at hh
      refine hh.mono ?_
      clear hh
      rintro r w1 ⟨rfl, hb1⟩
      have O1 := Lib.hid (Ho.out.below hb1)
      have B1 := Lib.hid (Hb.out.below hb1)
      clear c0 c1 c2 hb1
      have c0 := B1.out.cell 0
      have c1 := B1.out.cell 1
      simp only [List.getElem?_toArray, List.getElem?_cons_succ, List.getElem?_cons_zero] at c0 c1
      obtain ⟨ad, t', rfl, hj', d0, d1, d2, d3⟩ := (Hr.out.below O1.out.bel).tier hjn
      obtain rfl : t = t' := Option.some.inj (Hj.out.symm.trans hj')
      clear hj' d0 d1 d2
      by_cases hjj : (j' : Int) = (j : Int)
      · obtain rfl : j' = j := by omega
        by_cases hss : s' = sv
        · have hg' := Hif.out.1 ⟨rfl, hss⟩
          subst hss
          have E : decide (s' + F < k) = true := decide_eq_true (by omega)
          go_wp2_with fail
          refine (HSh.out _).mono ?_
          rintro r w2 ⟨rfl, rfl⟩
          go_wp2_with fail
          all_goals
            go_ret
            exact ⟨by first | rfl | (rw [E]; rfl), O1.out.bel⟩
        · have hg' : (g : Int) ≠ sv + F := fun h => hss (Hif.out.2 h).2
          have es : (s' == sv) = false := by simpa using hss
          have es2 : decide (s' = sv) = false := decide_eq_false hss
          go_wp2_with fail
          refine (HSh.out _).mono ?_
          rintro r w2 ⟨rfl, rfl⟩
          go_wp2_with fail
          all_goals
            go_roundw
            case rel => exact ⟨g + 1, by go_num, by omega, B1.out, O1.out⟩
            case measure => simp [intOf]; omega
      · have hg' : (g : Int) ≠ sv + F := fun h => hjj (Hif.out.2 h).1
        have es : ((j' : Int) == (j : Int)) = false := by simpa using hjj
        have es2 : decide ((j' : Int) = (j : Int)) = false := decide_eq_false hjj
        have es3 : (j' == j) = false := by simp; omega
        have es4 : decide (j' = j) = false := decide_eq_false (by omega)
        go_wp2_with fail
        all_goals
          go_roundw
          case rel => exact ⟨g + 1, by go_num, by omega, B1.out, O1.out⟩
          case measure => simp [intOf]; omega
    · have Ho := Lib.hid ho
      clear hb ho
      have E : decide (sv + F < k) = false := decide_eq_false (by omega)
      go_wp2_with fail
      go_ret
      exact ⟨by first | rfl | (rw [E]; rfl), Ho.out.bel⟩
end Go.Proofs.YtbdhmoeadakipaaGreat
