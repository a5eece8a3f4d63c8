/- Walk of (reach.Reach).From. -/
import Derived.Test.YtlhhcancfgjfkaaReach
namespace Go.Proofs.Ytlhhcancfgjfkaa
set_option linter.all false
open Go.RowKit

def i64 (x : Int) : Prop := -9223372036854775808 ≤ x ∧ x ≤ 9223372036854775807
def TierV.wf (t : TierV) : Prop := i64 t.every ∧ i64 t.keep ∧ i64 t.shards ∧ t.name.size ≤ maxLen

theorem from_bad (now : Int) (nm : ByteArray) (A : Option Addr) (n c : Nat) (B : Option Addr) (m d : Nat) (i : Int) (w : World) (hi : (decide (0 ≤ i) && decide (i < (n : Int))) = false) :
    Calls Try.prog 30 #[reachV now nm A n c B m d, .int .i64 i] w fun r w' => r = .returned (.int .i64 0) ∧ Below w.heap.size w w' := by
  have H := Lib.hid (is_any now nm A n c B m d i)
  rw [hi] at H
  unfold reachV at H ⊢
  have O := Lib.hid ((Own.start w).skip (Fr.none_alloc w (.cells #[.int .i64 now, .string nm, .slice A n c, .slice B m d] 58)))
  go_enter Try.func30, Try.ntmps30
  go_wp2_with fail
  refine (H.out _).mono ?_
  rintro r w1 ⟨rfl, hb⟩
  have O2 := Lib.hid (O.out.below hb)
  clear hb
  go_wp2_with fail
  go_ret
  exact ⟨by simp [*], O2.out.bel⟩

set_option maxRecDepth 100000 in
theorem rfrom_any (now : Int) (hnow : i64 now) (nm : ByteArray) (l : List TierV) (A : Option Addr) (n c : Nat) (fl : List Int) (B : Option Addr) (m d k : Nat) (w : World) (hr : Rd w 4 A n (tcells l)) (hf : Rd w 1 B m (ints fl)) (hwf : ∀ t ∈ l, t.wf) (hk : k < n) (hn : n ≤ 1099511627776) :
    Calls Try.prog 30 #[reachV now nm A n c B m d, .int .i64 k] w fun r w' => r = .returned (.int .i64 (fromV now l fl k)) ∧ Below w.heap.size w w' := by
  have H := Lib.hid (is_any now nm A n c B m d k)
  rw [show (decide (0 ≤ (k : Int)) && decide ((k : Int) < (n : Int))) = true by simp; omega] at H
  unfold reachV at H ⊢
  have O := Lib.hid ((Own.start w).skip (Fr.none_alloc w (.cells #[.int .i64 now, .string nm, .slice A n c, .slice B m d] 58)))
  have B0 := Lib.hid (Blk.new w 58 #[.int .i64 now, .string nm, .slice A n c, .slice B m d])
  have Hr := Lib.hid hr
  have Hf := Lib.hid hf
  have Hwf := Lib.hid hwf
  have Hnow := Lib.hid hnow
  clear hr hf hwf hnow
  go_enter Try.func30, Try.ntmps30
  go_wp2_with fail
  refine (H.out _).mono ?_
  rintro r w1 ⟨rfl, hb⟩
  have O2 := Lib.hid (O.out.below hb)
  have b1 := B0.out.below hb
  have c0 := b1.cell 0
  have c1 := b1.cell 1
  have c2 := b1.cell 2
  have c3 := b1.cell 3
  simp only [List.getElem?_toArray, List.getElem?_cons_succ, List.getElem?_cons_zero] at c0 c1 c2 c3
  have r1 := (Hr.out.below O2.out.bel)
  obtain ⟨j, hj⟩ : ∃ j : Nat, (if (n : Int) - 1 < (k : Int) + 1 then (n : Int) - 1 else (k : Int) + 1) = j ∧ j < n ∧ j = min (k + 1) (n - 1) := ⟨min (k + 1) (n - 1), by split <;> omega, by omega, rfl⟩
  obtain ⟨hj, hjn, hjk⟩ := hj
  obtain ⟨ad, x, rfl, hu, d0, d1, d2, d3⟩ := r1.tier hk
  obtain ⟨ad', y, e, hv, e0, e1, e2, e3⟩ := r1.tier hjn
  injection e with e
  subst e
  have Hu := Lib.hid hu
  have Hv := Lib.hid hv
  have Hjk := Lib.hid hjk
  have wx := Lib.hid (Hwf.out x (mem_of_get hu))
  have wy := Lib.hid (Hwf.out y (mem_of_get hv))
  clear b1 hb r1 B0 hu hv hjk d0 d1 d3 e0 e2 e3
  have w1' : IntKind.i64.wrap ((k : Int) + 1) = (k : Int) + 1 := IntWalk.i64_in _ (by omega)
  have w2' : IntKind.i64.wrap ((n : Int) - 1) = (n : Int) - 1 := IntWalk.i64_in _ (by omega)
  go_wp2_with fail
  go_quiet ((first | (go_at_call 64; exact quiet_left (gback_any now x.keep y.every Hnow.out.1 Hnow.out.2 wx.out.2.1.1 wx.out.2.1.2 wy.out.1.1 wy.out.1.2 _))))
  have c3' : (w1.drewN nq).cell? ⟨w.heap.size, 3, none⟩ = some (.slice B m d) := c3
  have O4 := Lib.hid (O2.out.skip (Fr.none_drewN w1 nq))
  have f1 := (Hf.out.below O2.out.bel).drewN nq
  have hlen := (Hr.out).tiers_len
  have hfl : fl.length = m := (Hf.out).len_map
  have hmin : l[min (k + 1) (l.length - 1)]? = some y := by rw [hlen, ← Hjk.out]; exact Hv.out
  obtain ⟨v, hv⟩ : ∃ v, backV now x.keep y.every = v := ⟨_, rfl⟩
  rw [hv]
  clear w1' w2' hj c0 c1 c2 c3 d2 e1 hlen
  by_cases hkm : k < m
  · obtain ⟨bd, z, rfl, hz, hc⟩ := f1.at_map hkm
    have E := Lib.hid (show fromV now l fl k = max v z by unfold fromV; rw [Hu.out, hmin]; simp only [hv, hz])
    clear hmin hfl hv f1 hz
    by_cases hvz : v ≤ z
    · go_wp2_with fail
      all_goals (go_ret <;> exact ⟨by rw [E.out]; simp [*] <;> omega, O4.out.bel⟩)
    · go_wp2_with fail
      all_goals (go_ret <;> exact ⟨by rw [E.out]; simp [*] <;> omega, O4.out.bel⟩)
  · have E := Lib.hid (show fromV now l fl k = v by unfold fromV; rw [Hu.out, hmin]; simp only [hv, List.getElem?_eq_none (show fl.length ≤ k by omega)])
    clear hmin hfl hv f1
    go_wp2_with fail
    all_goals (go_ret <;> exact ⟨by rw [E.out]; rfl, O4.out.bel⟩)
end Go.Proofs.Ytlhhcancfgjfkaa
