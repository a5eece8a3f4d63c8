/- Walk of policy.Check. -/
import Derived.Test.YtlhhcancfgjfkaaPol
namespace Go.Proofs.Ytlhhcancfgjfkaa
set_option linter.all false
open Go.RowKit

def polV (nm : ByteArray) (A : Option Addr) (n c : Nat) : Value := .agg #[.string nm, .slice A n c]
def fitsAt (l : List TierV) (i : Nat) : Bool := match l[i]? with | some t => fitsT t (l.take i) | none => true
/-- policy.Check says that the policy may be. -/
def checkB (nm : ByteArray) (l : List TierV) : Bool := validB nm && withinB (l.length : Int) 5 && (List.range l.length).all (fitsAt l)
def errOf (b : Bool) : Int := bif b then 0 else 23

theorem tcells_take (l : List TierV) (k : Nat) : tcells (l.take k) = (tcells l).take (k * 4) := by
  induction l generalizing k with
  | nil => simp [tcells]
  | cons a r ih =>
    cases k with
    | zero => simp [tcells]
    | succ k =>
      have := ih k
      simp only [tcells] at this
      simp only [List.take_succ_cons, tcells, List.flatMap_cons, this]
      rw [show (k + 1) * 4 = a.cells.length + k * 4 by simp [TierV.cells]; omega, List.take_length_add_append]
theorem Rd.takeT {w : World} {n k : Nat} {A : Option Addr} {l : List TierV} (h : Rd w 4 A n (tcells l)) (hk : k ≤ n) : Rd w 4 A k (tcells (l.take k)) := by
  rw [tcells_take]; exact h.take hk

set_option maxRecDepth 100000 in
set_option maxHeartbeats 1000000 in
theorem check_any (nm : ByteArray) (hnm : nm.size ≤ maxLen) (l : List TierV) (A : Option Addr) (n c : Nat) (w : World) (hr : Rd w 4 A n (tcells l)) (hnc : n ≤ c) (hsz : ∀ t ∈ l, t.name.size ≤ maxLen) :
    Calls Try.prog 35 #[polV nm A n c] w fun r w' => (∃ k : Int, r = .returned (.tuple #[.int .i64 (errOf (checkB nm l)), .int .i64 k])) ∧ Below w.heap.size w w' := by
  unfold polV
  have Hnm := Lib.hid hnm
  have Hsz := Lib.hid hsz
  have Hlen := Lib.hid hr.tiers_len
  have Hr := Lib.hid hr
  have O := Lib.hid (((Own.start w).skip (Fr.none_alloc w (.cells #[.string nm, .slice A n c] 33))).skip (Fr.none_alloc _ (.cells #[.string nm] 9)))
  have B := Lib.hid ((Blk.new w 33 #[.string nm, .slice A n c]).alloc (.cells #[.string nm] 9))
  clear hnm hsz hr
  cases hv : validB nm
  · have Hv := Lib.hid hv
    rw [show checkB nm l = false by unfold checkB; rw [hv]; rfl]
    clear hv
    go_enter Try.func35, Try.ntmps35
    go_wp2_with fail
    refine (valid_new nm Hnm.out _ _ _ _ (by simp)).mono ?_
    rw [Hv.out]
    rintro r w1 ⟨rfl, rfl⟩
    go_wp2_with fail
    go_ret2
    exact ⟨⟨0, rfl⟩, O.out.bel⟩
  · have Hv := Lib.hid hv
    cases hw : withinB (l.length : Int) 5
    · have Hw := Lib.hid (show withinB (n : Int) 5 = false by rw [← Hlen.out]; exact hw)
      rw [show checkB nm l = false by unfold checkB; rw [hv, hw]; rfl]
      clear hv hw
      go_enter Try.func35, Try.ntmps35
      go_wp2_with fail
      refine (valid_new nm Hnm.out _ _ _ _ (by simp)).mono ?_
      rw [Hv.out]
      rintro r w1 ⟨rfl, rfl⟩
      go_wp2_with fail
      refine (within_any _ _ _).mono ?_
      rw [Hw.out]
      rintro r w1 ⟨rfl, rfl⟩
      go_wp2_with fail
      go_ret2
      exact ⟨⟨0, rfl⟩, O.out.bel⟩
    · have Hw := Lib.hid (show withinB (n : Int) 5 = true by rw [← Hlen.out]; exact hw)
      have hn5 : n ≤ 5 := by have := Hw.out; unfold withinB at this; simp at this; omega
      rw [show checkB nm l = (List.range l.length).all (fitsAt l) by unfold checkB; rw [hv, hw]; rfl]
      obtain ⟨b, hb0⟩ : ∃ b, (List.range l.length).all (fitsAt l) = b := ⟨_, rfl⟩
      rw [hb0]
      have Hb0 := Lib.hid hb0
      clear hv hw hb0
      go_enter Try.func35, Try.ntmps35
      go_wp2_with fail
      refine (valid_new nm Hnm.out _ _ _ _ (by simp)).mono ?_
      rw [Hv.out]
      rintro r w1 ⟨rfl, rfl⟩
      go_wp2_with fail
      refine (within_any _ _ _).mono ?_
      rw [Hw.out]
      rintro r w1 ⟨rfl, rfl⟩
      go_wp2_with fail
      go_loopw [21] (fun i wr => ∃ k : Nat, k ≤ n ∧ i = .int .i64 k ∧ Blk wr w.heap.size 33 #[.string nm, .slice A n c] ∧ Own w wr (fun _ => False) ∧ Hid ((List.range k).all (fitsAt l) = true)) (fun i _ => n - (intOf i).toNat)
      case atStart => exact ⟨0, Nat.zero_le _, rfl, B.out, O.out, rfl⟩
      case round =>
        obtain ⟨k, hk, rfl, hb, ho, ha⟩ := hrel
        by_cases hlt : k < n
        · have hR := Hr.out.below ho.bel
          obtain ⟨ad, x, rfl, hu, d0, d1, d2, d3⟩ := hR.tier hlt
          have HR := Lib.hid hR
          have Hu := Lib.hid hu
          have Ho := Lib.hid ho
          have Hb := Lib.hid hb
          clear hu hR ho hb
          go_wp2_with fail
          obtain ⟨W1, hW1⟩ : ∃ W1, W1 = wr.alloc (.cells #[.string x.name, .int .i64 x.every, .int .i64 x.keep, .int .i64 x.shards] 30) := ⟨_, rfl⟩
          rw [← hW1]
          have HW1 := Lib.hid hW1
          have hbx : Blk W1 wr.heap.size 30 #[.string x.name, .int .i64 x.every, .int .i64 x.keep, .int .i64 x.shards] := hW1 ▸ Blk.new _ _ _
          have e0 := hbx.cell 0
          have e1 := hbx.cell 1
          have e2 := hbx.cell 2
          have e3 := hbx.cell 3
          have hb1 : Blk W1 w.heap.size 33 #[.string nm, .slice (some ad) n c] := hW1 ▸ Hb.out.alloc _
          have c1 := hb1.cell 1
          simp only [List.getElem?_toArray, List.getElem?_cons_succ, List.getElem?_cons_zero] at c1 e0 e1 e2 e3
          clear hW1 d0 d1 d2 d3 hbx hb1
          have hkc : k ≤ c := by omega
          have hkc' : (k : Int) ≤ (c : Int) := by omega
          go_still_tail 5, (by kernel_rfl)
          repeat still_step
          try refine wpStill_nil ?_
          change wpList _ _ _ _ _ W1.drew
          have hR2 : Rd W1.drew 4 (some ad) k (tcells (l.take k)) := by
            rw [HW1.out]; exact ((HR.out.alloc _).takeT hk).drew
          have HR2 := Lib.hid hR2
          have hO2 : Own w W1.drew (fun _ => False) := ((Ho.out.skip (Fr.none_alloc wr (.cells #[.string x.name, .int .i64 x.every, .int .i64 x.keep, .int .i64 x.shards] 30))).skip (by rw [← HW1.out]; exact (Fr.refl _ W1).drew))
          have HO2 := Lib.hid hO2
          have hB2 : Blk W1.drew w.heap.size 33 #[.string nm, .slice (some ad) n c] := by
            rw [HW1.out]; exact (Hb.out.alloc _).drew
          have HB2 := Lib.hid hB2
          have hfa : fitsAt l k = fitsT x (l.take k) := by unfold fitsAt; rw [Hu.out]
          have Hfa := Lib.hid hfa
          have hxs := Hsz.out x (mem_of_get Hu.out)
          clear hR2 hO2 hB2 hfa c1 e0 e1 e2 e3 HW1 hkc hkc'
          go_wp2_with fail
          refine (fitsT_any x hxs (l.take k) (some ad) k c W1.drew HR2.out (by omega)).mono ?_
          rintro r w2 ⟨rfl, hb2⟩
          have HO3 := Lib.hid (HO2.out.below hb2)
          have HB3 := Lib.hid (HB2.out.below hb2)
          clear hxs hb2
          cases hf : fitsT x (l.take k)
          · have E : b = false := by
              rw [← Hb0.out]
              rw [List.all_eq_false]
              exact ⟨k, List.mem_range.2 (by rw [Hlen.out]; exact hlt), by rw [Hfa.out, hf]; decide⟩
            subst E
            clear hf
            go_wp2_with fail
            go_ret2
            exact ⟨⟨_, rfl⟩, HO3.out.bel⟩
          · have Hf := Lib.hid hf
            clear hf
            go_wp2_with fail
            go_roundw
            case rel => exact ⟨k + 1, by omega, by go_num, HB3.out, HO3.out, by
              show (List.range (k + 1)).all (fitsAt l) = true
              rw [List.range_succ, List.all_append, ha.out]
              simp [Hfa.out, Hf.out]⟩
            case measure => simp [intOf]; omega
        · obtain rfl : k = n := by omega
          have Ho := Lib.hid ho
          have E : b = true := by rw [← Hb0.out, Hlen.out]; exact ha.out
          subst E
          clear hb ho
          go_wp2_with fail
          go_ret2
          exact ⟨⟨_, rfl⟩, Ho.out.bel⟩
end Go.Proofs.Ytlhhcancfgjfkaa
