/- Walks of sedimentbook.SameRecords, SameSamples. -/
import Derived.Test.YtbdhmoeadakipaaGreatEq
import Derived.Test.YtbdhmoeadakipaaGreatBook
namespace Go.Proofs.YtbdhmoeadakipaaGreat
open Go.RowKit

theorem sampEq_true {x y : SampV} (h : x = y) (w : World) : (binOp .eql 129 x.val y.val).run Tryz.prog w = .ok (.bool true) w := by rw [run_eqsamp, ((sampEq_iff x y).2 h)]
theorem sampEq_false {x y : SampV} (h : x ≠ y) (w : World) : (binOp .eql 129 x.val y.val).run Tryz.prog w = .ok (.bool false) w := by
  rw [run_eqsamp]
  cases hb : sampEq x y
  · rfl
  · exact absurd ((sampEq_iff x y).1 hb) h
set_option maxHeartbeats 1000000 in
theorem samesamps_any (la lb : List SampV) (A : Option Addr) (n c : Nat) (B : Option Addr) (m d : Nat) (w : World) (ha : Rd w 3 A n (scells la)) (hb : Rd w 3 B m (scells lb)) (hn : n ≤ 1099511627776) (hm : m ≤ 1099511627776) :
    Calls Tryz.prog 85 #[.slice A n c, .slice B m d] w fun r w' => r = .returned (.bool (decide (la = lb))) ∧ Below w.heap.size w w' := by
  have Ha := Lib.hid ha
  have Hb := Lib.hid hb
  have hla := Lib.hid ha.samps_len
  have hlb := Lib.hid hb.samps_len
  clear ha hb
  by_cases hnm : n = m
  · subst hnm
    go_enter Tryz.func85, Tryz.ntmps85
    go_wp2_with fail
    go_loopw [5] (fun i wr => ∃ k : Nat, k ≤ n ∧ i = .int .i64 k ∧ Hid (la.take k = lb.take k) ∧ Own w wr (fun _ => False)) (fun i _ => n - (intOf i).toNat)
    case atStart => exact ⟨0, Nat.zero_le _, rfl, rfl, Own.start w⟩
    case round =>
      obtain ⟨k, hk, rfl, htk, ho⟩ := hrel
      have Ho := Lib.hid ho
      by_cases hlt : k < n
      · obtain ⟨ad, x, rfl, hx, a0, a1, a2⟩ := (Ha.out.fr0 (Fr.b0 ho.bel)).samp_ hlt
        obtain ⟨bd, y, rfl, hy, b0, b1, b2⟩ := (Hb.out.fr0 (Fr.b0 ho.bel)).samp_ hlt
        have Hx := Lib.hid hx
        have Hy := Lib.hid hy
        by_cases heq : x = y
        · have htk2 : Hid (la.take (k + 1) = lb.take (k + 1)) := by show _ = _; rw [take_snoc Hx.out, take_snoc Hy.out, htk.out, heq]
          have q := sampEq_true heq
          unfold SampV.val at q
          clear hx hy ho heq
          go_wp2
          go_quiet (fail)
          go_wp2
          go_roundw
          case rel => exact ⟨k + 1, by omega, by go_num, htk2.out, Ho.out.skip (Fr.none_drewN _ _)⟩
          case measure => simp [intOf]; omega
        · have hne : Hid (decide (la = lb) = false) := by
            refine decide_eq_false fun h => ?_
            have h1 := Hx.out
            have h2 := Hy.out
            rw [h] at h1
            rw [h1] at h2
            exact heq (Option.some.inj h2)
          have q := sampEq_false heq
          unfold SampV.val at q
          clear hx hy ho heq
          go_wp2
          go_quiet (fail)
          go_wp2
          go_ret
          exact ⟨by rw [hne.out]; rfl, (Ho.out.skip (Fr.none_drewN _ _)).bel⟩
      · obtain rfl : k = n := by omega
        have hE : Hid (decide (la = lb) = true) := by
          refine decide_eq_true ?_
          have h := htk.out
          rwa [take_all (by rw [hla.out]; exact Nat.le_refl _), take_all (by rw [hlb.out]; exact Nat.le_refl _)] at h
        clear ho
        go_wp2_with fail
        go_ret
        exact ⟨by rw [hE.out]; rfl, Ho.out.bel⟩
  · have hne : Hid (decide (la = lb) = false) := by
      refine decide_eq_false fun h => hnm ?_
      have h1 := hla.out
      have h2 := hlb.out
      rw [h] at h1
      omega
    have hnm2 : ((n : Int) != (m : Int)) = true := by simpa using (show (n : Int) ≠ (m : Int) by omega)
    go_enter Tryz.func85, Tryz.ntmps85
    go_wp2_with fail
    go_ret
    exact ⟨by rw [hne.out]; rfl, Below.refl _ _⟩

theorem recEq_true {x y : RecV} (h : x = y) (w : World) : (binOp .eql 126 x.val y.val).run Tryz.prog w = .ok (.bool true) w := by rw [run_eqrec, ((recEq_iff x y).2 h)]
theorem recEq_false {x y : RecV} (h : x ≠ y) (w : World) : (binOp .eql 126 x.val y.val).run Tryz.prog w = .ok (.bool false) w := by
  rw [run_eqrec]
  cases hb : recEq x y
  · rfl
  · exact absurd ((recEq_iff x y).1 hb) h
set_option maxHeartbeats 1000000 in
theorem samerecs_any (la lb : List RecV) (A : Option Addr) (n c : Nat) (B : Option Addr) (m d : Nat) (w : World) (ha : Rd w 7 A n (rcells la)) (hb : Rd w 7 B m (rcells lb)) (hn : n ≤ 1099511627776) (hm : m ≤ 1099511627776) :
    Calls Tryz.prog 84 #[.slice A n c, .slice B m d] w fun r w' => r = .returned (.bool (decide (la = lb))) ∧ Below w.heap.size w w' := by
  have Ha := Lib.hid ha
  have Hb := Lib.hid hb
  have hla := Lib.hid ha.recs_len
  have hlb := Lib.hid hb.recs_len
  clear ha hb
  by_cases hnm : n = m
  · subst hnm
    go_enter Tryz.func84, Tryz.ntmps84
    go_wp2_with fail
    go_loopw [5] (fun i wr => ∃ k : Nat, k ≤ n ∧ i = .int .i64 k ∧ Hid (la.take k = lb.take k) ∧ Own w wr (fun _ => False)) (fun i _ => n - (intOf i).toNat)
    case atStart => exact ⟨0, Nat.zero_le _, rfl, rfl, Own.start w⟩
    case round =>
      obtain ⟨k, hk, rfl, htk, ho⟩ := hrel
      have Ho := Lib.hid ho
      by_cases hlt : k < n
      · obtain ⟨ad, x, rfl, hx, a0, a1, a2, a3, a4, a5, a6⟩ := (Ha.out.fr0 (Fr.b0 ho.bel)).rec_ hlt
        obtain ⟨bd, y, rfl, hy, b0, b1, b2, b3, b4, b5, b6⟩ := (Hb.out.fr0 (Fr.b0 ho.bel)).rec_ hlt
        have Hx := Lib.hid hx
        have Hy := Lib.hid hy
        by_cases heq : x = y
        · have htk2 : Hid (la.take (k + 1) = lb.take (k + 1)) := by show _ = _; rw [take_snoc Hx.out, take_snoc Hy.out, htk.out, heq]
          have q := recEq_true heq
          unfold RecV.val at q
          clear hx hy ho heq
          go_wp2
          go_quiet (fail)
          go_wp2
          go_roundw
          case rel => exact ⟨k + 1, by omega, by go_num, htk2.out, Ho.out.skip (Fr.none_drewN _ _)⟩
          case measure => simp [intOf]; omega
        · have hne : Hid (decide (la = lb) = false) := by
            refine decide_eq_false fun h => ?_
            have h1 := Hx.out
            have h2 := Hy.out
            rw [h] at h1
            rw [h1] at h2
            exact heq (Option.some.inj h2)
          have q := recEq_false heq
          unfold RecV.val at q
          clear hx hy ho heq
          go_wp2
          go_quiet (fail)
          go_wp2
          go_ret
          exact ⟨by rw [hne.out]; rfl, (Ho.out.skip (Fr.none_drewN _ _)).bel⟩
      · obtain rfl : k = n := by omega
        have hE : Hid (decide (la = lb) = true) := by
          refine decide_eq_true ?_
          have h := htk.out
          rwa [take_all (by rw [hla.out]; exact Nat.le_refl _), take_all (by rw [hlb.out]; exact Nat.le_refl _)] at h
        clear ho
        go_wp2_with fail
        go_ret
        exact ⟨by rw [hE.out]; rfl, Ho.out.bel⟩
  · have hne : Hid (decide (la = lb) = false) := by
      refine decide_eq_false fun h => hnm ?_
      have h1 := hla.out
      have h2 := hlb.out
      rw [h] at h1
      omega
    have hnm2 : ((n : Int) != (m : Int)) = true := by simpa using (show (n : Int) ≠ (m : Int) by omega)
    go_enter Tryz.func84, Tryz.ntmps84
    go_wp2_with fail
    go_ret
    exact ⟨by rw [hne.out]; rfl, Below.refl _ _⟩
theorem samerecs_eq (l : List RecV) (A : Option Addr) (n c : Nat) (B : Option Addr) (d : Nat) (w : World) (ha : Rd w 7 A n (rcells l)) (hb : Rd w 7 B n (rcells l)) (hn : n ≤ 1000000000) :
    Calls Tryz.prog 84 #[.slice A n c, .slice B n d] w fun r w' => r = .returned (.bool true) ∧ Below w.heap.size w w' :=
  (samerecs_any l l A n c B n d w ha hb (by omega) (by omega)).mono fun r w' ⟨e, b⟩ => ⟨by rw [e, decide_eq_true rfl], b⟩
theorem samesamps_eq (l : List SampV) (A : Option Addr) (n c : Nat) (B : Option Addr) (d : Nat) (w : World) (ha : Rd w 3 A n (scells l)) (hb : Rd w 3 B n (scells l)) (hn : n ≤ 1000000000) :
    Calls Tryz.prog 85 #[.slice A n c, .slice B n d] w fun r w' => r = .returned (.bool true) ∧ Below w.heap.size w w' :=
  (samesamps_any l l A n c B n d w ha hb (by omega) (by omega)).mono fun r w' ⟨e, b⟩ => ⟨by rw [e, decide_eq_true rfl], b⟩
end Go.Proofs.YtbdhmoeadakipaaGreat
