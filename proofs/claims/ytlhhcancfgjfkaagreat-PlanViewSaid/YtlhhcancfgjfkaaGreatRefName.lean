/- Walk of sedimentref1.Name. -/
import Derived.Test.YtlhhcancfgjfkaaGreatName
namespace Go.Proofs.YtlhhcancfgjfkaaGreat
set_option linter.all false
open Go.RowKit

set_option maxRecDepth 100000 in
set_option maxHeartbeats 4000000 in
theorem rvalid_any (s : ByteArray) (hs : s.size ≤ maxLen) (w : World) :
    Calls Tryz.prog 60 #[.string s] w fun r w' => r = .returned (.bool (validB s)) ∧ w = w' := by
  unfold maxLen at hs
  by_cases h1 : s.size < 1
  · have g1 : (s.size : Int) < 1 := by omega
    have E := Lib.hid (validB_short h1)
    go_enter Tryz.func60, Tryz.ntmps60
    go_wp2_with fail
    go_ret
    exact ⟨by rw [E.out]; rfl, rfl⟩
  by_cases h2 : 15 < s.size
  · have g1 : ¬ (s.size : Int) < 1 := by omega
    have g2 : (15 : Int) < (s.size : Int) := by omega
    have E := Lib.hid (validB_long h2)
    go_enter Tryz.func60, Tryz.ntmps60
    go_wp2_with fail
    go_ret
    exact ⟨by rw [E.out]; rfl, rfl⟩
  have g1 : ¬ (s.size : Int) < 1 := by omega
  have g2 : ¬ (15 : Int) < (s.size : Int) := by omega
  go_enter Tryz.func60, Tryz.ntmps60
  go_wp2_with fail
  clear g1 g2
  go_loop [3] (fun i => ∃ k : Nat, k ≤ s.size ∧ i = .int .i64 k ∧ Hid (letters (s.data.toList.take k) = true)) (fun i => s.size - (intOf i).toNat)
  case atStart => exact ⟨0, Nat.zero_le _, rfl, rfl⟩
  case round =>
    obtain ⟨k, hk, rfl, hl⟩ := hrel
    by_cases hlt : k < s.size
    · have hb1 : s[k].toNat < 256 := s[k].toNat_lt
      have HB := Lib.hid (byte_at hlt)
      have HY : Hid (letterB (s[k].toNat : Int) = true → letters (s.data.toList.take (k + 1)) = true) := fun h => by unfold letters; rw [all_take_succ HB.out hl.out]; exact h
      have HN : Hid (letterB (s[k].toNat : Int) = false → validB s = false) := fun h => by
        unfold validB
        rw [show letters s.data.toList = false from all_take_false (k := k + 1) (by rw [all_take_succ HB.out hl.out]; exact h)]; simp
      clear hl HB
      go_wp2
      all_goals
        first
        | (have hL : Hid (letterB (s[k].toNat : Int) = true) := by
             show _ = _
             unfold letterB
             simp at *
             omega
           have hY := Lib.hid (HY.out hL.out)
           clear hL HY HN
           go_round
           case rel => exact ⟨k + 1, by omega, by go_num, hY.out⟩
           case measure => simp [intOf]; omega)
        | (have hL : Hid (letterB (s[k].toNat : Int) = false) := by
             show _ = _
             unfold letterB
             simp at *
             omega
           have hN := Lib.hid (HN.out hL.out)
           go_ret
           exact ⟨by rw [hN.out]; rfl, rfl⟩)
    · obtain rfl : k = s.size := by omega
      have HE : Hid (validB s = true) := by
        show _ = _
        have := hl.out
        rw [take_all (by rw [str_len]; exact Nat.le_refl _)] at this
        unfold validB
        rw [this]; simp; omega
      go_wp2_with fail
      go_ret
      exact ⟨by rw [HE.out]; rfl, rfl⟩

end Go.Proofs.YtlhhcancfgjfkaaGreat
