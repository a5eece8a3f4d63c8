/- Walk of (sedimentref6.Reach).From: the program's value. -/
import Derived.Test.YtlhhcancfgjfkaaGreatFrom
import Derived.Test.YtlhhcancfgjfkaaGreatRefGrid
namespace Go.Proofs.YtlhhcancfgjfkaaGreat
set_option linter.all false
open Go.RowKit

set_option maxRecDepth 100000 in
theorem ref_from_any (now : Int) (hnow : i64 now) (nm : ByteArray) (l : List TierV) (A : Option Addr) (n c : Nat) (fl : List Int) (B : Option Addr) (m d k : Nat) (w : World) (hr : Rd w 4 A n (tcells l)) (hf : Rd w 1 B m (ints fl)) (hwf : ∀ t ∈ l, t.wf) (hk : k < n) (hn : n ≤ 1099511627776) :
    Calls Tryz.prog 21 #[reachV now nm A n c B m d, .int .i64 k] w fun r w' => r = .returned (.int .i64 (fromV now l fl k)) ∧ Below w.heap.size w w' := by
  unfold reachV
  have O2 := Lib.hid ((Own.start w).skip (Fr.none_alloc w (.cells #[.int .i64 now, .string nm, .slice A n c, .slice B m d] 46)))
  have b1 := Blk.new w 46 #[.int .i64 now, .string nm, .slice A n c, .slice B m d]
  have c0 := b1.cell 0
  have c1 := b1.cell 1
  have c2 := b1.cell 2
  have c3 := b1.cell 3
  simp only [List.getElem?_toArray, List.getElem?_cons_succ, List.getElem?_cons_zero] at c0 c1 c2 c3
  have r1 := hr.below O2.out.bel
  have Hr := Lib.hid hr
  have Hf := Lib.hid hf
  have Hnow := Lib.hid hnow
  have Hwf := Lib.hid hwf
  clear hr hf hwf hnow b1
  obtain ⟨j, hjn, hjk⟩ : ∃ j : Nat, j < n ∧ j = min (k + 1) (n - 1) := ⟨min (k + 1) (n - 1), by omega, rfl⟩
  obtain ⟨ad, x, rfl, hu, d0, d1, d2, d3⟩ := r1.tier hk
  obtain ⟨ad', y, e, hv, e0, e1, e2, e3⟩ := r1.tier hjn
  injection e with e
  subst e
  have Hu := Lib.hid hu
  have Hv := Lib.hid hv
  have Hjk := Lib.hid hjk
  have wx := Lib.hid (Hwf.out x (mem_of_get hu))
  have wy := Lib.hid (Hwf.out y (mem_of_get hv))
  have hlen := (Hr.out).tiers_len
  have hfl : fl.length = m := (Hf.out).len_map
  have hmin : l[min (k + 1) (l.length - 1)]? = some y := by rw [hlen, ← Hjk.out]; exact Hv.out
  have Hmin := Lib.hid hmin
  have hxy := Lib.hid (show k + 1 < n ∨ x = y by
    by_cases h : k + 1 < n
    · exact .inl h
    · refine .inr ?_
      have : j = k := by rw [hjk]; omega
      subst this
      exact Option.some.inj (Hu.out.symm.trans Hv.out))
  have Hfl := Lib.hid hfl
  obtain ⟨v, hv⟩ : ∃ v, backV now x.keep y.every = v := ⟨_, rfl⟩
  have HV := Lib.hid hv
  have w1' : IntKind.i64.wrap ((k : Int) + 1) = (k : Int) + 1 := IntWalk.i64_in _ (by omega)
  have g0 : decide ((k : Int) < 0) = false := decide_eq_false (by omega)
  have g1 : decide ((n : Int) ≤ (k : Int)) = false := decide_eq_false (by omega)
  have kn : 0 ≤ (k : Int) ∧ (k : Int) < (n : Int) := by omega
  clear hu hv r1 hmin hlen hfl d0 d3 e0 e2 e3
  by_cases hkn : k + 1 < n
  · have hkj : j = k + 1 := by rw [hjk]; omega
    subst hkj
    clear hjk
    have g2 : decide ((k : Int) + 1 < (n : Int)) = true := decide_eq_true (by omega)
    have kn2 : 0 ≤ (k : Int) + 1 ∧ (k : Int) + 1 < (n : Int) := by omega
    have kt : ((k : Int) + 1).toNat = k + 1 := by omega
    go_enter Tryz.func21, Tryz.ntmps21
    go_wp2_with fail
    go_quiet ((first | (go_at_call 75; exact quiet_left (rback_any now x.keep y.every Hnow.out.1 Hnow.out.2 wx.out.2.1.1 wx.out.2.1.2 wy.out.1.1 wy.out.1.2 _))))
    have c3' : ((w.alloc (.cells #[.int .i64 now, .string nm, .slice (some ad) n c, .slice B m d] 46)).drewN nq).cell? ⟨w.heap.size, 3, none⟩ = some (.slice B m d) := c3
    have O4 := Lib.hid (O2.out.skip (Fr.none_drewN _ nq))
    have f1 := (Hf.out.below O2.out.bel).drewN nq
    rw [HV.out]
    clear c0 c1 c2 c3 d1 d2 e1 w1'
    by_cases hkm : k < m
    · obtain ⟨bd, z, rfl, hz, hc⟩ := f1.at_map hkm
      have E := Lib.hid (show fromV now l fl k = max v z by unfold fromV; rw [Hu.out, Hmin.out]; simp only [HV.out, hz])
      clear f1 hz
      by_cases hvz : v ≤ z
      · go_wp2_with fail
        all_goals (go_ret <;> exact ⟨by rw [E.out]; simp [*] <;> omega, O4.out.bel⟩)
      · go_wp2_with fail
        all_goals (go_ret <;> exact ⟨by rw [E.out]; simp [*] <;> omega, O4.out.bel⟩)
    · have E := Lib.hid (show fromV now l fl k = v by unfold fromV; rw [Hu.out, Hmin.out]; simp only [HV.out, List.getElem?_eq_none (show fl.length ≤ k by rw [Hfl.out]; omega)])
      clear f1
      go_wp2_with fail
      all_goals (go_ret <;> exact ⟨by rw [E.out]; rfl, O4.out.bel⟩)
  · have hkj : j = k := by rw [hjk]; omega
    subst hkj
    have hxy' : x = y := by
      rcases hxy.out with h | h
      · exact absurd h hkn
      · exact h
    subst hxy'
    clear hjk
    have g2 : decide ((j : Int) + 1 < (n : Int)) = false := decide_eq_false (by omega)
    go_enter Tryz.func21, Tryz.ntmps21
    go_wp2_with fail
    go_quiet ((first | (go_at_call 75; exact quiet_left (rback_any now x.keep x.every Hnow.out.1 Hnow.out.2 wx.out.2.1.1 wx.out.2.1.2 wy.out.1.1 wy.out.1.2 _))))
    have c3' : ((w.alloc (.cells #[.int .i64 now, .string nm, .slice (some ad) n c, .slice B m d] 46)).drewN nq).cell? ⟨w.heap.size, 3, none⟩ = some (.slice B m d) := c3
    have O4 := Lib.hid (O2.out.skip (Fr.none_drewN _ nq))
    have f1 := (Hf.out.below O2.out.bel).drewN nq
    rw [HV.out]
    clear c0 c1 c2 c3 d1 d2 e1 w1'
    by_cases hkm : j < m
    · obtain ⟨bd, z, rfl, hz, hc⟩ := f1.at_map hkm
      have E := Lib.hid (show fromV now l fl j = max v z by unfold fromV; rw [Hu.out, Hmin.out]; simp only [HV.out, hz])
      clear f1 hz
      by_cases hvz : v ≤ z
      · go_wp2_with fail
        all_goals (go_ret <;> exact ⟨by rw [E.out]; simp [*] <;> omega, O4.out.bel⟩)
      · go_wp2_with fail
        all_goals (go_ret <;> exact ⟨by rw [E.out]; simp [*] <;> omega, O4.out.bel⟩)
    · have E := Lib.hid (show fromV now l fl j = v by unfold fromV; rw [Hu.out, Hmin.out]; simp only [HV.out, List.getElem?_eq_none (show fl.length ≤ j by rw [Hfl.out]; omega)])
      clear f1
      go_wp2_with fail
      all_goals (go_ret <;> exact ⟨by rw [E.out]; rfl, O4.out.bel⟩)
end Go.Proofs.YtlhhcancfgjfkaaGreat
