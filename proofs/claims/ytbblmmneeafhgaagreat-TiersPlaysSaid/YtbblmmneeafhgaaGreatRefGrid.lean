/- Walk of sedimentref1.Name. -/
import Derived.Test.YtbblmmneeafhgaaGreatName
namespace Go.Proofs.YtbblmmneeafhgaaGreat
set_option linter.all false
open Go.RowKit

set_option maxRecDepth 100000 in
set_option maxHeartbeats 4000000 in
theorem rvalid_any (s : ByteArray) (hs : s.size ≤ maxLen) (w : World) :
    Calls Tryz.prog 130 #[.string s] w fun r w' => r = .returned (.bool (validB s)) ∧ w = w' := by
  unfold maxLen at hs
  by_cases h1 : s.size < 1
  · have g1 : (s.size : Int) < 1 := by omega
    have E := Lib.hid (validB_short h1)
    go_enter Tryz.func130, Tryz.ntmps130
    go_wp2_with fail
    go_ret
    exact ⟨by rw [E.out]; rfl, rfl⟩
  by_cases h2 : 15 < s.size
  · have g1 : ¬ (s.size : Int) < 1 := by omega
    have g2 : (15 : Int) < (s.size : Int) := by omega
    have E := Lib.hid (validB_long h2)
    go_enter Tryz.func130, Tryz.ntmps130
    go_wp2_with fail
    go_ret
    exact ⟨by rw [E.out]; rfl, rfl⟩
  have g1 : ¬ (s.size : Int) < 1 := by omega
  have g2 : ¬ (15 : Int) < (s.size : Int) := by omega
  go_enter Tryz.func130, Tryz.ntmps130
  go_wp2_with fail
  clear g1 g2
  go_loop [3] (fun i => ∃ k : Nat, k ≤ s.size ∧ i = .int .i64 k ∧ Hid (letters (s.data.toList.take k) = true)) (fun i => s.size - (intOf i).toNat)
  case atStart => exact ⟨0, Nat.zero_le _, rfl, rfl⟩
  case round =>
    obtain ⟨k, hk, rfl, hl⟩ := hrel
    by_cases hlt : k < s.size
    · have hb1 : s[k].toNat < 256 := s[k].toNat_lt
      have HB := Lib.hid (byte_at hlt)
      have HY : Hid (letterB (s[k].toNat : Int) = true → letters (s.data.toList.take (k + 1)) = true) := fun h => by unfold letters; rw [all_take_succ HB.out hl.out]; exact h
      have HN : Hid (letterB (s[k].toNat : Int) = false → validB s = false) := fun h => by
        unfold validB
        rw [show letters s.data.toList = false from all_take_false (k := k + 1) (by rw [all_take_succ HB.out hl.out]; exact h)]; simp
      clear hl HB
      go_wp2
      all_goals
        first
        | (have hL : Hid (letterB (s[k].toNat : Int) = true) := by
             show _ = _
             unfold letterB
             simp at *
             omega
           have hY := Lib.hid (HY.out hL.out)
           clear hL HY HN
           go_round
           case rel => exact ⟨k + 1, by omega, by go_num, hY.out⟩
           case measure => simp [intOf]; omega)
        | (have hL : Hid (letterB (s[k].toNat : Int) = false) := by
             show _ = _
             unfold letterB
             simp at *
             omega
           have hN := Lib.hid (HN.out hL.out)
           go_ret
           exact ⟨by rw [hN.out]; rfl, rfl⟩)
    · obtain rfl : k = s.size := by omega
      have HE : Hid (validB s = true) := by
        show _ = _
        have := hl.out
        rw [take_all (by rw [str_len]; exact Nat.le_refl _)] at this
        unfold validB
        rw [this]; simp; omega
      go_wp2_with fail
      go_ret
      exact ⟨by rw [HE.out]; rfl, rfl⟩

end Go.Proofs.YtbblmmneeafhgaaGreat
namespace Go.Proofs.YtbblmmneeafhgaaGreat
set_option linter.all false
open Go.RowKit

theorem rfloor_any (t e : Int) (h0 : -9223372036854775808 ≤ t) (h1 : t ≤ 9223372036854775807) (h2 : -9223372036854775808 ≤ e) (h3 : e ≤ 9223372036854775807) (w : World) :
    Calls Tryz.prog 174 #[.int .i64 t, .int .i64 e] w fun r w' => r = .returned (.int .i64 (floorV t e)) ∧ w = w' := by
  by_cases he : e < 1
  · have hv : Hid (floorV t e = t) := by show _ = _; unfold floorV; rw [if_pos he]
    go_enter Tryz.func174, Tryz.ntmps174
    go_wp2_with fail
    go_ret
    exact ⟨by rw [hv.out]; rfl, rfl⟩
  · obtain ⟨b1, b2, b3, b4⟩ := tmod_bd t e (by omega)
    have hF : Hid (floorV t e = if t.tmod e < 0 ∧ -9223372036854775808 + e ≤ t - t.tmod e then t - t.tmod e - e else t - t.tmod e) := by show _ = _; unfold floorV; rw [if_neg he]
    obtain ⟨r, hr⟩ : ∃ r, t.tmod e = r := ⟨_, rfl⟩
    rw [hr] at b1 b2 b3 b4 hF
    have hez : ¬ e = 0 := by omega
    by_cases hn : r < 0
    · by_cases hu : t < -9223372036854775808 + (r + e)
      · have hv : Hid (floorV t e = t - (r + e) + e) := by show _ = _; rw [hF.out, if_neg (by omega)]; omega
        have b5 : t ≤ 0 := by rcases Int.le_total 0 t with h | h; have := (b3 h).1; omega; exact h
        have b6 := b4 b5
        go_enter Tryz.func174, Tryz.ntmps174
        go_wp2_with fail
        go_ret
        exact ⟨by rw [hv.out]; first | rfl | (simp; unfold wrap64; omega), rfl⟩
      · have hv : Hid (floorV t e = t - (r + e)) := by show _ = _; rw [hF.out, if_pos (by omega)]; omega
        go_enter Tryz.func174, Tryz.ntmps174
        go_wp2_with fail
        go_ret
        exact ⟨by rw [hv.out]; first | rfl | simp, rfl⟩
    · have hu : ¬ t < -9223372036854775808 + r := by
        intro h
        rcases Int.le_total 0 t with h' | h'
        · have := (b3 h').2; omega
        · have := (b4 h').1; omega
      have hv : Hid (floorV t e = t - r) := by show _ = _; rw [hF.out, if_neg (by omega)]
      go_enter Tryz.func174, Tryz.ntmps174
      go_wp2_with fail
      go_ret
      exact ⟨by rw [hv.out]; first | rfl | simp, rfl⟩

theorem back_doc (now keep every : Int) (k0 : keep ≤ 9223372036854775807) : backV now keep every = if now < 0 ∨ keep < 0 ∨ every < 1 ∨ now < keep then 0 else floorV (now - keep) every := by
  unfold backV
  by_cases h : now < 0 ∨ keep < 0 ∨ every < 1
  · rw [if_pos h, if_pos (by rcases h with h | h | h <;> omega)]
  · rw [if_neg h]
    have he : ¬ every < 1 := by omega
    obtain ⟨b1, b2, b3, b4⟩ := tmod_bd (now - keep) every (by omega)
    by_cases hk : now < keep
    · rw [if_pos (by omega)]
      have := b4 (by omega)
      unfold floorV
      rw [if_neg he]
      split <;> omega
    · rw [if_neg (by omega)]
      have := b3 (by omega)
      unfold floorV
      rw [if_neg he, if_neg (by omega)]
      omega
theorem rback_any (t k e : Int) (h0 : -9223372036854775808 ≤ t) (h1 : t ≤ 9223372036854775807) (k0 : -9223372036854775808 ≤ k) (k1 : k ≤ 9223372036854775807) (h2 : -9223372036854775808 ≤ e) (h3 : e ≤ 9223372036854775807) (w : World) :
    Calls Tryz.prog 144 #[.int .i64 t, .int .i64 k, .int .i64 e] w fun r w' => r = .returned (.int .i64 (backV t k e)) ∧ w = w' := by
  have hB := back_doc t k e k1
  by_cases a1 : t < 0
  · rw [if_pos (.inl a1)] at hB
    rw [hB]
    clear hB
    go_enter Tryz.func144, Tryz.ntmps144
    go_wp2_with fail
    go_ret
    exact ⟨rfl, rfl⟩
  by_cases a2 : k < 0
  · rw [if_pos (.inr (.inl a2))] at hB
    rw [hB]
    clear hB
    go_enter Tryz.func144, Tryz.ntmps144
    go_wp2_with fail
    go_ret
    exact ⟨rfl, rfl⟩
  by_cases a3 : e < 1
  · rw [if_pos (.inr (.inr (.inl a3)))] at hB
    rw [hB]
    clear hB
    go_enter Tryz.func144, Tryz.ntmps144
    go_wp2_with fail
    go_ret
    exact ⟨rfl, rfl⟩
  by_cases a4 : t < k
  · rw [if_pos (.inr (.inr (.inr a4)))] at hB
    rw [hB]
    clear hB
    go_enter Tryz.func144, Tryz.ntmps144
    go_wp2_with fail
    go_ret
    exact ⟨rfl, rfl⟩
  · rw [if_neg (by omega)] at hB
    rw [hB]
    clear hB
    go_enter Tryz.func144, Tryz.ntmps144
    go_wp2_with fail
    refine (rfloor_any (t - k) e (by omega) (by omega) h2 h3 _).mono ?_
    rintro r w1 ⟨rfl, rfl⟩
    go_wp2_with fail
    go_ret
    exact ⟨rfl, rfl⟩
end Go.Proofs.YtbblmmneeafhgaaGreat
