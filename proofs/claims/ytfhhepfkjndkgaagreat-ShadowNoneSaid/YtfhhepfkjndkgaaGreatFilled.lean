/- Walk of (plan.Plan).Filled. -/
import Derived.Test.YtfhhepfkjndkgaaGreatBound
namespace Go.Proofs.YtfhhepfkjndkgaaGreat
set_option linter.all false
open Go.RowKit

theorem shardV_in (s : ByteArray) (n : Int) : 0 ≤ shardV s n ∧ shardV s n ≤ 4294967295 := by
  have := hashV_in s.data.toList
  unfold shardV
  split
  · omega
  · have h1 := Int.emod_nonneg (hashV s.data.toList) (show n ≠ 0 by omega)
    have h2 : hashV s.data.toList % n ≤ hashV s.data.toList := by
      have h3 := Int.mul_ediv_add_emod (hashV s.data.toList) n
      have h4 := Int.mul_nonneg (show 0 ≤ n by omega) (Int.ediv_nonneg this.1 (show 0 ≤ n by omega))
      omega
    omega

set_option maxRecDepth 100000 in
set_option maxHeartbeats 2000000 in
theorem filled_any (nm : ByteArray) (l : List TierV) (A : Option Addr) (n c : Nat) (S : Option Addr) (m d : Nat) (k : Int) (j : Nat) (t : TierV) (s : ByteArray) (w : World) (hr : Rd w 4 A n (tcells l)) (hnc : n ≤ c) (hn : n ≤ 1099511627776) (hs : ∀ t ∈ l, t.shards ≤ 8) (hj : l[j]? = some t) (hsz : s.size ≤ maxLen) :
    Calls Tryz.prog 79 #[planV nm A n c S m d, .int .i64 k, .int .i64 j, .string s] w fun r w' => r = .returned (.bool (decide (shardV s t.shards + fillsV (l.take j) < k))) ∧ Below w.heap.size w w' := by
  have hlen := hr.tiers_len
  have hjn : j < n := by have := (List.getElem?_eq_some_iff.1 hj).1; omega
  have hjc : (j : Int) ≤ (c : Int) := by omega
  have hjc' : j ≤ c := by omega
  have hjn' : (j : Int) < (n : Int) := by omega
  have HSh := Lib.hid (fun w' => shard_any s hsz t.shards w')
  have hsh := shardV_in s t.shards
  obtain ⟨sv, hsv⟩ : ∃ sv, shardV s t.shards = sv := ⟨_, rfl⟩
  rw [hsv] at HSh hsh ⊢
  obtain ⟨sv0, sv1⟩ := hsh
  obtain ⟨ad, t', hA, hj', d0, d1, d2, d3⟩ := hr.tier hjn
  subst hA
  obtain rfl : t = t' := Option.some.inj (hj.symm.trans hj')
  have Hr := Lib.hid hr
  have Hs := Lib.hid hs
  have Hlen := Lib.hid hlen
  have d3' := fun o => (Fr.none_alloc w o).cell d3 (fun h => h)
  have O := Lib.hid ((Own.start w).skip (Fr.none_alloc w (.cells #[.string nm, .slice (some ad) n c, .slice S m d] 45)))
  have HT := Lib.hid (hr.takeT (k := j) (by omega))
  clear hr hs hlen hj hj' d0 d1 d2 d3 hsv hsz
  unfold planV
  go_enter Tryz.func79, Tryz.ntmps79
  go_wp2_with fail
  refine (HSh.out _).mono ?_
  rintro r w1 ⟨rfl, rfl⟩
  clear d3'
  go_wp2_with fail
  go_loopw [9, 37] (fun q i wr => ∃ (k2 : Nat) (v : Int), k2 ≤ j ∧ i = .int .i64 k2 ∧ q = .int .i64 v ∧ 0 ≤ v ∧ v ≤ 4294967295 + 8 * k2 ∧ Hid (v = sv + fillsV (l.take k2)) ∧ Own w wr (fun _ => False)) (fun _ i _ => j - (intOf i).toNat)
  case atStart => exact ⟨0, sv, Nat.zero_le _, rfl, rfl, by omega, by omega, by simp [Hid, fillsV], O.out⟩
  case round =>
    obtain ⟨k2, v, hk, rfl, rfl, v0, v1, hv, ho⟩ := hrel
    by_cases hlt : k2 < j
    · obtain ⟨ad', x, e, hu, d0, d1, d2, d3⟩ := (HT.out.below ho.bel).tier hlt
      injection e with e
      subst e
      rw [List.getElem?_take, if_pos hlt] at hu
      have hx8 := Hs.out x (mem_of_get hu)
      have Ho := Lib.hid ho
      have Hf := Lib.hid (fills_snoc hu)
      clear ho hu
      by_cases h0 : 0 ≤ x.shards
      · go_wp2
        all_goals (
          go_roundw
          case rel => exact ⟨k2 + 1, v + x.shards, by omega, by go_num, by go_num, by omega, by omega, by rw [Hid, Hf.out, hv.out]; omega, Ho.out.skip (Fr.none_alloc _ _)⟩
          case measure => simp [intOf]; omega)
      · go_wp2
        all_goals (
          go_roundw
          case rel => exact ⟨k2 + 1, v, by omega, by go_num, by go_num, by omega, by omega, by rw [Hid, Hf.out, hv.out]; omega, Ho.out.skip (Fr.none_alloc _ _)⟩
          case measure => simp [intOf]; omega)
    · obtain rfl : k2 = j := by omega
      have Ho := Lib.hid ho
      clear ho
      have E := Lib.hid (show decide (sv + fillsV (l.take k2) < k) = decide (v < k) by rw [← hv.out])
      go_wp2
      go_ret
      exact ⟨by rw [E.out]; rfl, Ho.out.bel⟩
end Go.Proofs.YtfhhepfkjndkgaaGreat
