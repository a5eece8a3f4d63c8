/- Walk of (sedimentref10.Plan).At. -/
import Derived.Test.YtbdhmoeadakipaaGreatRefSteps
namespace Go.Proofs.YtbdhmoeadakipaaGreat
open Go.RowKit

theorem fills_drop {l : List TierV} {j : Nat} {x : TierV} (h : l[j]? = some x) (hx : 0 ≤ x.shards) : fillsV (l.drop j) = x.shards + fillsV (l.drop (j + 1)) := by
  obtain ⟨hjl, rfl⟩ := List.getElem?_eq_some_iff.1 h
  rw [List.drop_eq_getElem_cons hjl]
  simp only [fillsV, List.map_cons, List.sum_cons]
  omega

set_option maxRecDepth 100000 in
set_option maxHeartbeats 2000000 in
theorem ref_at_any (nm : ByteArray) (l : List TierV) (A : Option Addr) (n c : Nat) (S : Option Addr) (m d : Nat) (k : Int) (hk0 : i64 k) (w : World) (hr : Rd w 4 A n (tcells l)) (hn : n ≤ 1099511627776) (hs : ∀ t ∈ l, 0 ≤ t.shards ∧ t.shards ≤ 8) :
    Calls Tryz.prog 17 #[planV nm A n c S m d, .int .i64 k] w fun r w' => r = .returned (.tuple #[.int .i64 (atV l k).1.1, .int .i64 (atV l k).1.2.1, .int .i64 (atV l k).1.2.2, .bool (atV l k).2]) ∧ Below w.heap.size w w' := by
  have H := Lib.hid (fun w' (h : Fr (fun _ => False) w w') => ref_steps_any nm l A n c S m d w' (hr.fr0 h) hn hs)
  have Hr := Lib.hid hr
  have Hlen := Lib.hid hr.tiers_len
  have Hs := Lib.hid hs
  clear hr hs
  have O := Lib.hid ((Own.start w).skip (Fr.none_alloc w (.cells #[.string nm, .slice A n c, .slice S m d] 31)))
  have B0 := Lib.hid (Blk.new w 31 #[.string nm, .slice A n c, .slice S m d])
  unfold planV at H ⊢
  obtain ⟨v, hv⟩ : ∃ v, stepsV l = v := ⟨_, rfl⟩
  have Hv := Lib.hid hv
  rw [hv] at H
  clear hv
  by_cases hneg : k < 0
  · rw [show atV l k = ((0, 0, 0), false) by simp [atV, hneg]]
    go_enter Tryz.func17, Tryz.ntmps17
    go_wp2_with fail
    refine bodyPost_ret (v := .tuple #[.int .i64 0, .int .i64 0, .int .i64 0, .bool false]) ?_ rfl ⟨rfl, O.out.bel⟩
    simp [results, Tryz.results17, go_sem, *]
  · have hk1 := hk0.2
    by_cases hge : v ≤ k
    · rw [show atV l k = ((0, 0, 0), false) by simp [atV, Hv.out, hge]]
      go_enter Tryz.func17, Tryz.ntmps17
      go_wp2_with fail
      refine (H.out _ (Fr.b0 O.out.bel)).mono ?_
      rintro r w1 ⟨rfl, hb⟩
      have O1 := Lib.hid (O.out.below hb)
      clear hb
      go_wp2_with fail
      refine bodyPost_ret (v := .tuple #[.int .i64 0, .int .i64 0, .int .i64 0, .bool false]) ?_ rfl ⟨rfl, O1.out.bel⟩
      simp [results, Tryz.results17, go_sem, *]
    · obtain ⟨s, hs⟩ : ∃ s, atGo k 0 l = s := ⟨_, rfl⟩
      rw [show atV l k = (s, true) by simp [atV, Hv.out, hge, hneg, hs]]
      have HS := Lib.hid hs
      have hkf : Hid (k < fillsV l + 2) := by
        have := Hv.out
        unfold stepsV at this
        split at this
        · omega
        · show k < _; omega
      clear hs
      go_enter Tryz.func17, Tryz.ntmps17
      go_wp2_with fail
      refine (H.out _ (Fr.b0 O.out.bel)).mono ?_
      rintro r w1 ⟨rfl, hb⟩
      have O1 := Lib.hid (O.out.below hb)
      have B0' := Lib.hid (B0.out.below hb)
      clear hb B0 O
      go_wp2_with fail
      go_loopw [1, 8] (fun q i wr => ∃ (j : Nat) (y : Int), j ≤ n ∧ i = .int .i64 j ∧ q = .int .i64 y ∧ 0 ≤ y ∧ y ≤ 9223372036854775807 ∧ Hid (y < fillsV (l.drop j) + 2) ∧ Hid (atGo y j (l.drop j) = s) ∧ Blk wr w.heap.size 31 #[.string nm, .slice A n c, .slice S m d] ∧ Own w wr (fun _ => False)) (fun _ i _ => n - (intOf i).toNat)
      case atStart => exact ⟨0, k, Nat.zero_le _, rfl, rfl, by omega, hk1, by simpa [Hid] using hkf.out, by simpa [Hid] using HS.out, B0'.out, O1.out⟩
      case round =>
        obtain ⟨j, y, hj, rfl, rfl, y0, y1, hyf, hat, hb1, ho⟩ := hrel
        have c0 := hb1.cell 0
        have c1 := hb1.cell 1
        simp only [List.getElem?_toArray, List.getElem?_cons_succ, List.getElem?_cons_zero] at c0 c1
        by_cases hlt : j < n
        · obtain ⟨ad, x, rfl, hu, d0, d1, d2, d3⟩ := (Hr.out.below ho.bel).tier hlt
          have hx8 := Hs.out x (mem_of_get hu)
          have Hyf := Lib.hid (hyf.out)
          have hfd := fills_drop hu hx8.1
          have hdrop : l.drop j = x :: l.drop (j + 1) := by
            obtain ⟨hjl, rfl⟩ := List.getElem?_eq_some_iff.1 hu
            exact List.drop_eq_getElem_cons hjl
          rw [hdrop] at hat
          have Hb1 := Lib.hid hb1
          have Ho := Lib.hid ho
          by_cases hys : y < x.shards
          · have E : s = (1, (j : Int), y) := by rw [← hat.out]; simp [atGo, hys]
            subst E
            clear hu hdrop hb1 ho hfd
            go_wp2_with fail
            refine bodyPost_ret (v := .tuple #[.int .i64 1, .int .i64 j, .int .i64 y, .bool true]) ?_ rfl ⟨rfl, Ho.out.bel⟩
            simp [results, Tryz.results17, go_sem, *]
          · have E : Hid (atGo (y - x.shards) (j + 1) (l.drop (j + 1)) = s) := by rw [Hid, ← hat.out]; simp only [atGo, hys, if_false]; rw [show max x.shards 0 = x.shards by omega]
            have hyf2 : Hid (y - x.shards < fillsV (l.drop (j + 1)) + 2) := by have := hyf.out; rw [hfd] at this; show _ < _; omega
            have wv : IntKind.i64.wrap (y - x.shards) = y - x.shards := IntWalk.i64_in _ (by omega)
            clear hu hdrop hb1 ho hfd
            go_wp2
            go_roundw
            case rel => exact ⟨j + 1, y - x.shards, by omega, by go_num, by go_num, by omega, by omega, hyf2, E, Hb1.out, Ho.out⟩
            case measure => simp [intOf]; omega
        · obtain rfl : j = n := by omega
          have hd : l.drop j = [] := List.drop_eq_nil_of_le (by have := Hlen.out; omega)
          rw [hd] at hyf hat
          have hy2 : y < 2 := by have := hyf.out; simpa [fillsV] using this
          have E : s = (2 + y, 0, 0) := by
            rw [← hat.out]
            rcases (show y = 0 ∨ y = 1 by omega) with rfl | rfl <;> simp [atGo]
          subst E
          have Ho := Lib.hid ho
          clear hb1 ho hd
          have wv : IntKind.i64.wrap (2 + y) = 2 + y := IntWalk.i64_in _ (by omega)
          go_wp2_with fail
          refine bodyPost_ret (v := .tuple #[.int .i64 (2 + y), .int .i64 0, .int .i64 0, .bool true]) ?_ rfl ⟨rfl, Ho.out.bel⟩
          simp [results, Tryz.results17, go_sem, *]
end Go.Proofs.YtbdhmoeadakipaaGreat
