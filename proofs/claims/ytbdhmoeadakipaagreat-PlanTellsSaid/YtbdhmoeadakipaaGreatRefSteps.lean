/- Walks of (sedimentref10.Plan).Steps and Bound. -/
import Derived.Test.YtbdhmoeadakipaaGreatAt
namespace Go.Proofs.YtbdhmoeadakipaaGreat
open Go.RowKit

theorem fills_snoc' {l : List TierV} {k : Nat} {x : TierV} (h : l[k]? = some x) (hx : 0 ≤ x.shards) : fillsV (l.take (k + 1)) = fillsV (l.take k) + x.shards := by
  rw [fills_snoc h]; omega

set_option maxRecDepth 100000 in
theorem ref_steps_any (nm : ByteArray) (l : List TierV) (A : Option Addr) (n c : Nat) (S : Option Addr) (m d : Nat) (w : World) (hr : Rd w 4 A n (tcells l)) (hn : n ≤ 1099511627776) (hs : ∀ t ∈ l, 0 ≤ t.shards ∧ t.shards ≤ 8) :
    Calls Tryz.prog 14 #[planV nm A n c S m d] w fun r w' => r = .returned (.int .i64 (stepsV l)) ∧ Below w.heap.size w w' := by
  have hlen := hr.tiers_len
  have Hr := Lib.hid hr
  have Hs := Lib.hid hs
  have Hlen := Lib.hid hr.tiers_len
  clear hr hs
  have O := Lib.hid ((Own.start w).skip (Fr.none_alloc w (.cells #[.string nm, .slice A n c, .slice S m d] 31)))
  have B0 := Lib.hid (Blk.new w 31 #[.string nm, .slice A n c, .slice S m d])
  unfold planV
  by_cases h0 : n = 0
  · subst h0
    obtain rfl : l = [] := List.eq_nil_of_length_eq_zero hlen
    rw [show stepsV [] = 0 from rfl]
    go_enter Tryz.func14, Tryz.ntmps14
    go_wp2_with fail
    go_ret
    exact ⟨rfl, O.out.bel⟩
  have hne : l ≠ [] := by rintro rfl; exact h0 hlen.symm
  rw [show stepsV l = fillsV l + 2 by simp [stepsV, hne]]
  have hnb : ((n : Int) == 0) = false := by simp; omega
  clear hne hlen
  go_enter Tryz.func14, Tryz.ntmps14
  go_wp2_with fail
  go_loopw [3, 4] (fun s i wr => ∃ (k : Nat) (v : Int), k ≤ n ∧ i = .int .i64 k ∧ s = .int .i64 (v + 2) ∧ 0 ≤ v ∧ v ≤ 8 * k ∧ Hid (v = fillsV (l.take k)) ∧ Blk wr w.heap.size 31 #[.string nm, .slice A n c, .slice S m d] ∧ Own w wr (fun _ => False)) (fun _ i _ => n - (intOf i).toNat)
  case atStart => exact ⟨0, 0, Nat.zero_le _, rfl, rfl, by omega, by omega, by simp [Hid, fillsV], B0.out, O.out⟩
  case round =>
    obtain ⟨k, v, hk, rfl, rfl, v0, v1, hv, hb, ho⟩ := hrel
    have c0 := hb.cell 0
    have c1 := hb.cell 1
    simp only [List.getElem?_toArray, List.getElem?_cons_succ, List.getElem?_cons_zero] at c0 c1
    by_cases hlt : k < n
    · obtain ⟨ad, x, rfl, hu, d0, d1, d2, d3⟩ := (Hr.out.below ho.bel).tier hlt
      have hx8 := Hs.out x (mem_of_get hu)
      have Hu := Lib.hid hu
      have Ho := Lib.hid ho
      have Hb := Lib.hid hb
      have Hf := Lib.hid (fills_snoc' hu hx8.1)
      have wv : IntKind.i64.wrap (v + 2 + x.shards) = v + 2 + x.shards := IntWalk.i64_in _ (by omega)
      clear ho hu hb
      go_wp2
      all_goals (
        go_roundw
        case rel => exact ⟨k + 1, v + x.shards, by omega, by go_num, by go_num, by omega, by omega, by rw [Hid, Hf.out, ← hv.out], Hb.out, Ho.out⟩
        case measure => simp [intOf]; omega)
    · obtain rfl : k = n := by omega
      have Ho := Lib.hid ho
      have hl := hv.out
      rw [take_all (by have := Hlen.out; omega)] at hl
      have Hl := Lib.hid hl
      clear ho hl hb
      go_wp2
      go_ret
      exact ⟨by rw [← Hl.out]; rfl, Ho.out.bel⟩

set_option maxRecDepth 100000 in
theorem ref_bound_any (nm : ByteArray) (l : List TierV) (A : Option Addr) (n c : Nat) (S : Option Addr) (m d : Nat) (need : Int) (n0 : 0 ≤ need) (n1 : need ≤ 1152921504606846976) (w : World) (hr : Rd w 4 A n (tcells l)) (hn : n ≤ 1099511627776) (hs : ∀ t ∈ l, 0 ≤ t.shards ∧ t.shards ≤ 8) :
    Calls Tryz.prog 20 #[planV nm A n c S m d, .int .i64 need] w fun r w' => r = .returned (.int .i64 (2 * need + fillsV l)) ∧ Below w.heap.size w w' := by
  have Hr := Lib.hid hr
  have Hs := Lib.hid hs
  have Hlen := Lib.hid hr.tiers_len
  clear hr hs
  have O := Lib.hid ((Own.start w).skip (Fr.none_alloc w (.cells #[.string nm, .slice A n c, .slice S m d] 31)))
  have B0 := Lib.hid (Blk.new w 31 #[.string nm, .slice A n c, .slice S m d])
  have w2 : IntKind.i64.wrap (2 * need) = 2 * need := IntWalk.i64_in _ (by omega)
  unfold planV
  go_enter Tryz.func20, Tryz.ntmps20
  go_wp2_with fail
  go_loopw [5, 6] (fun s i wr => ∃ (k : Nat) (v : Int), k ≤ n ∧ i = .int .i64 k ∧ s = .int .i64 (2 * need + v) ∧ 0 ≤ v ∧ v ≤ 8 * k ∧ Hid (v = fillsV (l.take k)) ∧ Blk wr w.heap.size 31 #[.string nm, .slice A n c, .slice S m d] ∧ Own w wr (fun _ => False)) (fun _ i _ => n - (intOf i).toNat)
  case atStart => exact ⟨0, 0, Nat.zero_le _, rfl, by go_num, by omega, by omega, by simp [Hid, fillsV], B0.out, O.out⟩
  case round =>
    obtain ⟨k, v, hk, rfl, rfl, v0, v1, hv, hb, ho⟩ := hrel
    have c0 := hb.cell 0
    have c1 := hb.cell 1
    simp only [List.getElem?_toArray, List.getElem?_cons_succ, List.getElem?_cons_zero] at c0 c1
    by_cases hlt : k < n
    · obtain ⟨ad, x, rfl, hu, d0, d1, d2, d3⟩ := (Hr.out.below ho.bel).tier hlt
      have hx8 := Hs.out x (mem_of_get hu)
      have Hu := Lib.hid hu
      have Ho := Lib.hid ho
      have Hb := Lib.hid hb
      have Hf := Lib.hid (fills_snoc' hu hx8.1)
      have wv : IntKind.i64.wrap (2 * need + v + x.shards) = 2 * need + v + x.shards := IntWalk.i64_in _ (by omega)
      clear ho hu hb
      go_wp2
      all_goals (
        go_roundw
        case rel => exact ⟨k + 1, v + x.shards, by omega, by go_num, by go_num, by omega, by omega, by rw [Hid, Hf.out, ← hv.out], Hb.out, Ho.out⟩
        case measure => simp [intOf]; omega)
    · obtain rfl : k = n := by omega
      have Ho := Lib.hid ho
      have hl := hv.out
      rw [take_all (by have := Hlen.out; omega)] at hl
      have Hl := Lib.hid hl
      clear ho hl hb
      go_wp2
      go_ret
      exact ⟨by rw [← Hl.out]; rfl, Ho.out.bel⟩
end Go.Proofs.YtbdhmoeadakipaaGreat
