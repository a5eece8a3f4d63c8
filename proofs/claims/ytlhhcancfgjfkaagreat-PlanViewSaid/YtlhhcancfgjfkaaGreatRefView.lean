/- Walks of the document: Reach.Start, View. -/
import Derived.Test.YtlhhcancfgjfkaaGreatRefMerge
import Derived.Test.YtlhhcancfgjfkaaGreatRefFromI
import Derived.Test.YtlhhcancfgjfkaaGreatRefGrid
import Derived.Test.YtlhhcancfgjfkaaGreatRollLaw
namespace Go.Proofs.YtlhhcancfgjfkaaGreat
set_option linter.all false
open Go.RowKit

set_option maxRecDepth 100000 in
set_option maxHeartbeats 4000000 in
theorem rstart_any (now : Int) (hnow : i64 now) (nm : ByteArray) (l : List TierV) (A : Option Addr) (n c : Nat) (fl : List Int) (B : Option Addr) (mf df : Nat) (i t : Int) (ht : -9223372036854775808 ≤ t ∧ t ≤ 9223372036854775807) (w : World) (hr : Rd w 4 A n (tcells l)) (hf : Rd w 1 B mf (ints fl)) (hwf : ∀ t ∈ l, t.wf) (hn : n ≤ 1099511627776) :
    Calls Tryz.prog 61 #[reachV now nm A n c B mf df, .int .i64 i, .int .i64 t] w fun r w' => r = .returned (.tuple #[.int .i64 (startV now l fl i t).1, .bool (startV now l fl i t).2]) ∧ Below w.heap.size w w' := by
  unfold reachV
  have HFr : Hid (∀ W, Fr (fun _ => False) w W → Calls Tryz.prog 21 #[.agg #[.int .i64 now, .string nm, .slice A n c, .slice B mf df], .int .i64 i] W fun r w' => r = .returned (.int .i64 (fromI now l fl i)) ∧ Below W.heap.size W w') := fun W f => ref_fromI_any now hnow nm l A n c fl B mf df i W (hr.fr0 f) (hf.fr0 f) hwf hn
  have hl := hr.tiers_len
  have F1 := Lib.hid (Fr.none_alloc w (.cells #[.int .i64 now, .string nm, .slice A n c, .slice B mf df] 46))
  have B1 := Lib.hid (Blk.new w 46 #[.int .i64 now, .string nm, .slice A n c, .slice B mf df])
  obtain ⟨W1, hW1⟩ : ∃ W1, W1 = w.alloc (.cells #[.int .i64 now, .string nm, .slice A n c, .slice B mf df] 46) := ⟨_, rfl⟩
  rw [← hW1] at F1 B1
  have p0 := B1.out.cell 0
  have p1 := B1.out.cell 1
  have p2 := B1.out.cell 2
  have p3 := B1.out.cell 3
  simp only [List.getElem?_toArray, List.getElem?_cons_succ, List.getElem?_cons_zero] at p0 p1 p2 p3
  by_cases hi : 0 ≤ i ∧ i < (n : Int) ∧ 0 ≤ t
  case pos =>
    obtain ⟨hi0, hin, ht0⟩ := hi
    obtain ⟨k, rfl⟩ := Int.eq_ofNat_of_zero_le hi0
    have hk : k < n := by omega
    obtain ⟨ad, x, rfl, hx, _, x1, _⟩ := (hr.fr0 F1.out).tier hk
    have hv : startV now l fl (k : Int) t = (floorV t x.every, decide (fromI now l fl k ≤ floorV t x.every)) := by
      unfold startV
      rw [if_pos (by rw [hl]; exact ⟨hi0, hin, ht0⟩), Int.toNat_natCast, hx]
    have hwx := (hwf x (mem_of_get hx)).1
    have HFl : Hid (∀ W, Calls Tryz.prog 148 #[.int .i64 t, .int .i64 x.every] W fun r w' => r = .returned (.int .i64 (floorV t x.every)) ∧ W = w') := fun W => rfloor_any t x.every ht.1 ht.2 hwx.1 hwx.2 W
    obtain ⟨xe, hxe⟩ : ∃ v, x.every = v := ⟨_, rfl⟩
    rw [hxe] at HFl x1 hv
    rw [hv]
    obtain ⟨fl2, hfl2⟩ : ∃ v, floorV t xe = v := ⟨_, rfl⟩
    obtain ⟨fv, hfv⟩ : ∃ v, fromI now l fl (k : Int) = v := ⟨_, rfl⟩
    rw [hfl2] at HFl ⊢
    rw [hfv] at HFr ⊢
    have d1 : decide ((k : Int) < 0) = false := decide_eq_false (by omega)
    have d2 : decide ((n : Int) ≤ (k : Int)) = false := decide_eq_false (by omega)
    have d3 : decide (n ≤ k) = false := decide_eq_false (by omega)
    have d4 : decide (t < 0) = false := decide_eq_false (by omega)
    have d5 : 0 ≤ (k : Int) ∧ (k : Int) < (n : Int) := by omega
    rw [hW1] at p0 p1 p2 p3 x1
    clear hx hxe hfl2 hfv hr hf hv hwx hi0 hin
    simp only
    go_enter Tryz.func61, Tryz.ntmps61
    go_wp2_with fail
    refine (HFl.out _).mono ?_
    rintro r w2 ⟨rfl, rfl⟩
    go_wp2_with fail
    rw [← hW1]
    refine (HFr.out _ F1.out).mono ?_
    rintro r w3 ⟨rfl, b3⟩
    go_wp2_with fail
    go_ret2
    exact ⟨rfl, (F1.out.trans (Fr.b0 b3) (fun _ h => h.elim)).below (fun _ h => h.elim)⟩
  case neg =>
    have hv : startV now l fl i t = (0, false) := by
      unfold startV
      rw [if_neg (by rw [hl]; exact hi)]
    rw [hv]
    simp only
    by_cases h1 : i < 0
    · have d1 : decide (i < 0) = true := decide_eq_true h1
      clear hv hr hf
      go_enter Tryz.func61, Tryz.ntmps61
      go_wp2_with fail
      go_ret2
      exact ⟨rfl, by rw [← hW1]; exact F1.out.below (fun _ h => h.elim)⟩
    · have d1 : decide (i < 0) = false := decide_eq_false h1
      by_cases h2 : (n : Int) ≤ i
      · have d2 : decide ((n : Int) ≤ i) = true := decide_eq_true h2
        rw [hW1] at p0 p1 p2 p3
        clear hv hr hf
        go_enter Tryz.func61, Tryz.ntmps61
        go_wp2_with fail
        go_ret2
        exact ⟨rfl, by rw [← hW1]; exact F1.out.below (fun _ h => h.elim)⟩
      · have d2 : decide ((n : Int) ≤ i) = false := decide_eq_false h2
        have d3 : decide (t < 0) = true := decide_eq_true (by omega)
        rw [hW1] at p0 p1 p2 p3
        clear hv hr hf
        go_enter Tryz.func61, Tryz.ntmps61
        go_wp2_with fail
        go_ret2
        exact ⟨rfl, by rw [← hW1]; exact F1.out.below (fun _ h => h.elim)⟩
end Go.Proofs.YtlhhcancfgjfkaaGreat
