/- Walk of (sedimentref6.Reach).From: the program's value. -/
import Derived.Test.YtbblmmneeafhgaaGreatFrom
import Derived.Test.YtbblmmneeafhgaaGreatRefGrid
import Derived.Test.YtbblmmneeafhgaaGreatBases
import Derived.Test.YtbblmmneeafhgaaGreatRefMerge
import Derived.Test.YtbblmmneeafhgaaGreatRollLaw
namespace Go.Proofs.YtbblmmneeafhgaaGreat
set_option linter.all false
open Go.RowKit

set_option maxRecDepth 100000 in
theorem ref_from_any (now : Int) (hnow : i64 now) (nm : ByteArray) (l : List TierV) (A : Option Addr) (n c : Nat) (fl : List Int) (B : Option Addr) (m d k : Nat) (w : World) (hr : Rd w 4 A n (tcells l)) (hf : Rd w 1 B m (ints fl)) (hwf : ∀ t ∈ l, t.wf) (hk : k < n) (hn : n ≤ 1099511627776) :
  Calls Tryz.prog 64 #[reachV now nm A n c B m d, .int .i64 k] w fun r w' => r = .returned (.int .i64 (fromV now l fl k)) ∧ Below w.heap.size w w' := by
 unfold reachV
 have O2 := Lib.hid ((Own.start w).skip (Fr.none_alloc w (.cells #[.int .i64 now, .string nm, .slice A n c, .slice B m d] 110)))
 have b1 := Blk.new w 110 #[.int .i64 now, .string nm, .slice A n c, .slice B m d]
 have c0 := b1.cell 0
 have c1 := b1.cell 1
 have c2 := b1.cell 2
 have c3 := b1.cell 3
 simp only [List.getElem?_toArray, List.getElem?_cons_succ, List.getElem?_cons_zero] at c0 c1 c2 c3
 have r1 := hr.below O2.out.bel
 have Hr := Lib.hid hr
 have Hf := Lib.hid hf
 have Hnow := Lib.hid hnow
 have Hwf := Lib.hid hwf
 clear hr hf hwf hnow b1
 obtain ⟨j, hjn, hjk⟩ : ∃ j : Nat, j < n ∧ j = min (k + 1) (n - 1) := ⟨min (k + 1) (n - 1), by omega, rfl⟩
 obtain ⟨ad, x, rfl, hu, d0, d1, d2, d3⟩ := r1.tier hk
 obtain ⟨ad', y, e, hv, e0, e1, e2, e3⟩ := r1.tier hjn
 injection e with e
 subst e
 have Hu := Lib.hid hu
 have Hv := Lib.hid hv
 have Hjk := Lib.hid hjk
 have wx := Lib.hid (Hwf.out x (mem_of_get hu))
 have wy := Lib.hid (Hwf.out y (mem_of_get hv))
 have hlen := (Hr.out).tiers_len
 have hfl : fl.length = m := (Hf.out).len_map
 have hmin : l[min (k + 1) (l.length - 1)]? = some y := by rw [hlen, ← Hjk.out]; exact Hv.out
 have Hmin := Lib.hid hmin
 have hxy := Lib.hid (show k + 1 < n ∨ x = y by
  by_cases h : k + 1 < n
  ·exact .inl h
  ·refine .inr ?_
   have : j = k := by rw [hjk]; omega
   subst this
   exact Option.some.inj (Hu.out.symm.trans Hv.out))
 have Hfl := Lib.hid hfl
 obtain ⟨v, hv⟩ : ∃ v, backV now x.keep y.every = v := ⟨_, rfl⟩
 have HV := Lib.hid hv
 have w1' : IntKind.i64.wrap ((k : Int) + 1) = (k : Int) + 1 := IntWalk.i64_in _ (by omega)
 have g0 : decide ((k : Int) < 0) = false := decide_eq_false (by omega)
 have g1 : decide ((n : Int) ≤ (k : Int)) = false := decide_eq_false (by omega)
 have kn : 0 ≤ (k : Int) ∧ (k : Int) < (n : Int) := by omega
 clear hu hv r1 hmin hlen hfl d0 d3 e0 e2 e3
 by_cases hkn : k + 1 < n
 ·have hkj : j = k + 1 := by rw [hjk]; omega
  subst hkj
  clear hjk
  have g2 : decide ((k : Int) + 1 < (n : Int)) = true := decide_eq_true (by omega)
  have kn2 : 0 ≤ (k : Int) + 1 ∧ (k : Int) + 1 < (n : Int) := by omega
  have kt : ((k : Int) + 1).toNat = k + 1 := by omega
  go_enter Tryz.func64, Tryz.ntmps64
  go_wp2_with fail
  go_quiet ((first | (go_at_call 144; exact quiet_left (rback_any now x.keep y.every Hnow.out.1 Hnow.out.2 wx.out.2.1.1 wx.out.2.1.2 wy.out.1.1 wy.out.1.2 _))))
  have c3' : ((w.alloc (.cells #[.int .i64 now, .string nm, .slice (some ad) n c, .slice B m d] 110)).drewN nq).cell? ⟨w.heap.size, 3, none⟩ = some (.slice B m d) := c3
  have O4 := Lib.hid (O2.out.skip (Fr.none_drewN _ nq))
  have f1 := (Hf.out.below O2.out.bel).drewN nq
  rw [HV.out]
  clear c0 c1 c2 c3 d1 d2 e1 w1'
  by_cases hkm : k < m
  ·obtain ⟨bd, z, rfl, hz, hc⟩ := f1.at_map hkm
   have E := Lib.hid (show fromV now l fl k = max v z by unfold fromV; rw [Hu.out, Hmin.out]; simp only [HV.out, hz])
   clear f1 hz
   by_cases hvz : v ≤ z
   ·go_wp2_with fail
    all_goals (go_ret <;> exact ⟨by rw [E.out]; simp [*] <;> omega, O4.out.bel⟩)
   ·go_wp2_with fail
    all_goals (go_ret <;> exact ⟨by rw [E.out]; simp [*] <;> omega, O4.out.bel⟩)
  ·have E := Lib.hid (show fromV now l fl k = v by unfold fromV; rw [Hu.out, Hmin.out]; simp only [HV.out, List.getElem?_eq_none (show fl.length ≤ k by rw [Hfl.out]; omega)])
   clear f1
   go_wp2_with fail
   all_goals (go_ret <;> exact ⟨by rw [E.out]; rfl, O4.out.bel⟩)
 ·have hkj : j = k := by rw [hjk]; omega
  subst hkj
  have hxy' : x = y := by
   rcases hxy.out with h | h
   ·exact absurd h hkn
   ·exact h
  subst hxy'
  clear hjk
  have g2 : decide ((j : Int) + 1 < (n : Int)) = false := decide_eq_false (by omega)
  go_enter Tryz.func64, Tryz.ntmps64
  go_wp2_with fail
  go_quiet ((first | (go_at_call 144; exact quiet_left (rback_any now x.keep x.every Hnow.out.1 Hnow.out.2 wx.out.2.1.1 wx.out.2.1.2 wy.out.1.1 wy.out.1.2 _))))
  have c3' : ((w.alloc (.cells #[.int .i64 now, .string nm, .slice (some ad) n c, .slice B m d] 110)).drewN nq).cell? ⟨w.heap.size, 3, none⟩ = some (.slice B m d) := c3
  have O4 := Lib.hid (O2.out.skip (Fr.none_drewN _ nq))
  have f1 := (Hf.out.below O2.out.bel).drewN nq
  rw [HV.out]
  clear c0 c1 c2 c3 d1 d2 e1 w1'
  by_cases hkm : j < m
  ·obtain ⟨bd, z, rfl, hz, hc⟩ := f1.at_map hkm
   have E := Lib.hid (show fromV now l fl j = max v z by unfold fromV; rw [Hu.out, Hmin.out]; simp only [HV.out, hz])
   clear f1 hz
   by_cases hvz : v ≤ z
   ·go_wp2_with fail
    all_goals (go_ret <;> exact ⟨by rw [E.out]; simp [*] <;> omega, O4.out.bel⟩)
   ·go_wp2_with fail
    all_goals (go_ret <;> exact ⟨by rw [E.out]; simp [*] <;> omega, O4.out.bel⟩)
  ·have E := Lib.hid (show fromV now l fl j = v by unfold fromV; rw [Hu.out, Hmin.out]; simp only [HV.out, List.getElem?_eq_none (show fl.length ≤ j by rw [Hfl.out]; omega)])
   clear f1
   go_wp2_with fail
   all_goals (go_ret <;> exact ⟨by rw [E.out]; rfl, O4.out.bel⟩)
end Go.Proofs.YtbblmmneeafhgaaGreat
namespace Go.Proofs.YtbblmmneeafhgaaGreat
set_option linter.all false
open Go.RowKit

theorem ref_from_bad (now : Int) (nm : ByteArray) (A : Option Addr) (n c : Nat) (B : Option Addr) (m d : Nat) (i : Int) (w : World) (hi : ¬ (0 ≤ i ∧ i < (n : Int))) :
  Calls Tryz.prog 64 #[reachV now nm A n c B m d, .int .i64 i] w fun r w' => r = .returned (.int .i64 0) ∧ Below w.heap.size w w' := by
 unfold reachV
 have O := Lib.hid ((Own.start w).skip (Fr.none_alloc w (.cells #[.int .i64 now, .string nm, .slice A n c, .slice B m d] 110)))
 by_cases h : i < 0
 ·go_enter Tryz.func64, Tryz.ntmps64
  go_wp2_with fail
  go_ret
  exact ⟨rfl, O.out.bel⟩
 ·have h2 : (n : Int) ≤ i := by omega
  go_enter Tryz.func64, Tryz.ntmps64
  go_wp2_with fail
  go_ret
  exact ⟨rfl, O.out.bel⟩
theorem ref_fromI_any (now : Int) (hnow : i64 now) (nm : ByteArray) (l : List TierV) (A : Option Addr) (n c : Nat) (fl : List Int) (B : Option Addr) (m d : Nat) (i : Int) (w : World) (hr : Rd w 4 A n (tcells l)) (hf : Rd w 1 B m (ints fl)) (hwf : ∀ t ∈ l, t.wf) (hn : n ≤ 1099511627776) :
  Calls Tryz.prog 64 #[reachV now nm A n c B m d, .int .i64 i] w fun r w' => r = .returned (.int .i64 (fromI now l fl i)) ∧ Below w.heap.size w w' := by
 have hl := hr.tiers_len
 unfold fromI
 rw [hl]
 by_cases h : 0 ≤ i ∧ i < (n : Int)
 ·rw [if_pos h]
  obtain ⟨k, rfl⟩ := Int.eq_ofNat_of_zero_le h.1
  exact ref_from_any now hnow nm l A n c fl B m d k w hr hf hwf (by omega) hn
 ·rw [if_neg h]
  exact ref_from_bad now nm A n c B m d i w h
end Go.Proofs.YtbblmmneeafhgaaGreat
namespace Go.Proofs.YtbblmmneeafhgaaGreat
set_option linter.all false
open Go.RowKit

set_option maxRecDepth 100000 in
set_option maxHeartbeats 4000000 in
theorem rstart_any (now : Int) (hnow : i64 now) (nm : ByteArray) (l : List TierV) (A : Option Addr) (n c : Nat) (fl : List Int) (B : Option Addr) (mf df : Nat) (i t : Int) (ht : -9223372036854775808 ≤ t ∧ t ≤ 9223372036854775807) (w : World) (hr : Rd w 4 A n (tcells l)) (hf : Rd w 1 B mf (ints fl)) (hwf : ∀ t ∈ l, t.wf) (hn : n ≤ 1099511627776) :
  Calls Tryz.prog 139 #[reachV now nm A n c B mf df, .int .i64 i, .int .i64 t] w fun r w' => r = .returned (.tuple #[.int .i64 (startV now l fl i t).1, .bool (startV now l fl i t).2]) ∧ Below w.heap.size w w' := by
 unfold reachV
 have HFr : Hid (∀ W, Fr (fun _ => False) w W → Calls Tryz.prog 64 #[.agg #[.int .i64 now, .string nm, .slice A n c, .slice B mf df], .int .i64 i] W fun r w' => r = .returned (.int .i64 (fromI now l fl i)) ∧ Below W.heap.size W w') := fun W f => ref_fromI_any now hnow nm l A n c fl B mf df i W (hr.fr0 f) (hf.fr0 f) hwf hn
 have hl := hr.tiers_len
 have F1 := Lib.hid (Fr.none_alloc w (.cells #[.int .i64 now, .string nm, .slice A n c, .slice B mf df] 110))
 have B1 := Lib.hid (Blk.new w 110 #[.int .i64 now, .string nm, .slice A n c, .slice B mf df])
 obtain ⟨W1, hW1⟩ : ∃ W1, W1 = w.alloc (.cells #[.int .i64 now, .string nm, .slice A n c, .slice B mf df] 110) := ⟨_, rfl⟩
 rw [← hW1] at F1 B1
 have p0 := B1.out.cell 0
 have p1 := B1.out.cell 1
 have p2 := B1.out.cell 2
 have p3 := B1.out.cell 3
 simp only [List.getElem?_toArray, List.getElem?_cons_succ, List.getElem?_cons_zero] at p0 p1 p2 p3
 by_cases hi : 0 ≤ i ∧ i < (n : Int) ∧ 0 ≤ t
 case pos =>
  obtain ⟨hi0, hin, ht0⟩ := hi
  obtain ⟨k, rfl⟩ := Int.eq_ofNat_of_zero_le hi0
  have hk : k < n := by omega
  obtain ⟨ad, x, rfl, hx, _, x1, _⟩ := (hr.fr0 F1.out).tier hk
  have hv : startV now l fl (k : Int) t = (floorV t x.every, decide (fromI now l fl k ≤ floorV t x.every)) := by
   unfold startV
   rw [if_pos (by rw [hl]; exact ⟨hi0, hin, ht0⟩), Int.toNat_natCast, hx]
  have hwx := (hwf x (mem_of_get hx)).1
  have HFl : Hid (∀ W, Calls Tryz.prog 174 #[.int .i64 t, .int .i64 x.every] W fun r w' => r = .returned (.int .i64 (floorV t x.every)) ∧ W = w') := fun W => rfloor_any t x.every ht.1 ht.2 hwx.1 hwx.2 W
  obtain ⟨xe, hxe⟩ : ∃ v, x.every = v := ⟨_, rfl⟩
  rw [hxe] at HFl x1 hv
  rw [hv]
  obtain ⟨fl2, hfl2⟩ : ∃ v, floorV t xe = v := ⟨_, rfl⟩
  obtain ⟨fv, hfv⟩ : ∃ v, fromI now l fl (k : Int) = v := ⟨_, rfl⟩
  rw [hfl2] at HFl ⊢
  rw [hfv] at HFr ⊢
  have d1 : decide ((k : Int) < 0) = false := decide_eq_false (by omega)
  have d2 : decide ((n : Int) ≤ (k : Int)) = false := decide_eq_false (by omega)
  have d3 : decide (n ≤ k) = false := decide_eq_false (by omega)
  have d4 : decide (t < 0) = false := decide_eq_false (by omega)
  have d5 : 0 ≤ (k : Int) ∧ (k : Int) < (n : Int) := by omega
  rw [hW1] at p0 p1 p2 p3 x1
  clear hx hxe hfl2 hfv hr hf hv hwx hi0 hin
  simp only
  go_enter Tryz.func139, Tryz.ntmps139
  go_wp2_with fail
  refine (HFl.out _).mono ?_
  rintro r w2 ⟨rfl, rfl⟩
  go_wp2_with fail
  rw [← hW1]
  refine (HFr.out _ F1.out).mono ?_
  rintro r w3 ⟨rfl, b3⟩
  go_wp2_with fail
  go_ret2
  exact ⟨rfl, (F1.out.trans (Fr.b0 b3) (fun _ h => h.elim)).below (fun _ h => h.elim)⟩
 case neg =>
  have hv : startV now l fl i t = (0, false) := by
   unfold startV
   rw [if_neg (by rw [hl]; exact hi)]
  rw [hv]
  simp only
  by_cases h1 : i < 0
  ·have d1 : decide (i < 0) = true := decide_eq_true h1
   clear hv hr hf
   go_enter Tryz.func139, Tryz.ntmps139
   go_wp2_with fail
   go_ret2
   exact ⟨rfl, by rw [← hW1]; exact F1.out.below (fun _ h => h.elim)⟩
  ·have d1 : decide (i < 0) = false := decide_eq_false h1
   by_cases h2 : (n : Int) ≤ i
   ·have d2 : decide ((n : Int) ≤ i) = true := decide_eq_true h2
    rw [hW1] at p0 p1 p2 p3
    clear hv hr hf
    go_enter Tryz.func139, Tryz.ntmps139
    go_wp2_with fail
    go_ret2
    exact ⟨rfl, by rw [← hW1]; exact F1.out.below (fun _ h => h.elim)⟩
   ·have d2 : decide ((n : Int) ≤ i) = false := decide_eq_false h2
    have d3 : decide (t < 0) = true := decide_eq_true (by omega)
    rw [hW1] at p0 p1 p2 p3
    clear hv hr hf
    go_enter Tryz.func139, Tryz.ntmps139
    go_wp2_with fail
    go_ret2
    exact ⟨rfl, by rw [← hW1]; exact F1.out.below (fun _ h => h.elim)⟩
end Go.Proofs.YtbblmmneeafhgaaGreat
