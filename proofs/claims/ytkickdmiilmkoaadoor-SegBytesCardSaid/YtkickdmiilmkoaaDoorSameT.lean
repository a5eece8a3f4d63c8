/- Walk of sedimentbook.SameTexts. -/
import Derived.Test.YtkickdmiilmkoaaDoorRecE
namespace Go.Proofs.YtkickdmiilmkoaaDoor
open Go.RowKit

theorem bytes_inj {a b : ByteArray} (h : a.toList = b.toList) : a = b := by
  rw [Lib.toList_data, Lib.toList_data] at h
  cases a; cases b
  simp only at h
  congr
  exact Array.toList_inj.1 h
set_option maxHeartbeats 1000000 in
theorem sametexts_any (la lb : List ByteArray) (A : Option Addr) (n c : Nat) (B : Option Addr) (m d : Nat) (w : World) (ha : Rd w 1 A n (la.map Value.string)) (hb : Rd w 1 B m (lb.map Value.string)) (hn : n ≤ 1099511627776) (hm : m ≤ 1099511627776) :
    Calls Tryd.prog 27 #[.slice A n c, .slice B m d] w fun r w' => r = .returned (.bool (decide (la = lb))) ∧ Below w.heap.size w w' := by
  have Ha := Lib.hid ha
  have Hb := Lib.hid hb
  have hla := Lib.hid ha.len_map
  have hlb := Lib.hid hb.len_map
  clear ha hb
  by_cases hnm : n = m
  · subst hnm
    go_enter Tryd.func27, Tryd.ntmps27
    go_wp2_with fail
    go_loopw [5] (fun i wr => ∃ k : Nat, k ≤ n ∧ i = .int .i64 k ∧ Hid (la.take k = lb.take k) ∧ Own w wr (fun _ => False)) (fun i _ => n - (intOf i).toNat)
    case atStart => exact ⟨0, Nat.zero_le _, rfl, rfl, Own.start w⟩
    case round =>
      obtain ⟨k, hk, rfl, htk, ho⟩ := hrel
      have Ho := Lib.hid ho
      by_cases hlt : k < n
      · obtain ⟨ad, x, rfl, hx, a0⟩ := (Ha.out.fr0 (Fr.b0 ho.bel)).at_map hlt
        obtain ⟨bd, y, rfl, hy, b0⟩ := (Hb.out.fr0 (Fr.b0 ho.bel)).at_map hlt
        have Hx := Lib.hid hx
        have Hy := Lib.hid hy
        by_cases heq : x = y
        · have htk2 : Hid (la.take (k + 1) = lb.take (k + 1)) := by show _ = _; rw [take_snoc Hx.out, take_snoc Hy.out, htk.out, heq]
          have q : (x.toList == y.toList) = true := by rw [heq]; simp
          clear hx hy ho heq
          go_wp2
          go_quiet (fail)
          go_wp2
          go_roundw
          case rel => exact ⟨k + 1, by omega, by go_num, htk2.out, Ho.out.skip (Fr.none_drewN _ _)⟩
          case measure => simp [intOf]; omega
        · have hne : Hid (decide (la = lb) = false) := by
            refine decide_eq_false fun h => ?_
            have h1 := Hx.out
            have h2 := Hy.out
            rw [h] at h1
            rw [h1] at h2
            exact heq (Option.some.inj h2)
          have q : (x.toList == y.toList) = false := by simpa using fun h => heq (bytes_inj h)
          clear hx hy ho heq
          go_wp2
          go_quiet (fail)
          go_wp2
          go_ret
          exact ⟨by rw [hne.out]; rfl, (Ho.out.skip (Fr.none_drewN _ _)).bel⟩
      · obtain rfl : k = n := by omega
        have hE : Hid (decide (la = lb) = true) := by
          refine decide_eq_true ?_
          have h := htk.out
          rwa [take_all (by rw [hla.out]; exact Nat.le_refl _), take_all (by rw [hlb.out]; exact Nat.le_refl _)] at h
        clear ho
        go_wp2_with fail
        go_ret
        exact ⟨by rw [hE.out]; rfl, Ho.out.bel⟩
  · have hne : Hid (decide (la = lb) = false) := by
      refine decide_eq_false fun h => hnm ?_
      have h1 := hla.out
      have h2 := hlb.out
      rw [h] at h1
      omega
    have hnm2 : ((n : Int) != (m : Int)) = true := by simpa using (show (n : Int) ≠ (m : Int) by omega)
    go_enter Tryd.func27, Tryd.ntmps27
    go_wp2_with fail
    go_ret
    exact ⟨by rw [hne.out]; rfl, Below.refl _ _⟩
end Go.Proofs.YtkickdmiilmkoaaDoor
