/- Plain: what rec.Get asks of 64 bytes is what the document asks. -/
import Derived.Test.YtkickdmiilmkoaaGreatDoorRef1B
namespace Go.Proofs.YtkickdmiilmkoaaGreatDoor
open Go.RowKit

theorem le_back8 {p : List UInt8} (h : p.length = 8) : le (u64 (sgn (ofLe p))) 8 = p := by
  rw [u64_sgn (ofLe_lt64 (by omega))]
  have := le_ofLe p
  rwa [h] at this
theorem cut8 {t : List UInt8} {k : Nat} (h : k + 8 ≤ t.length) : ((t.drop k).take 8).length = 8 := by rw [List.length_take, List.length_drop]; omega
theorem aggB_of {t : List UInt8} (h : t.length = 40) : aggB (aggOf t) = t := by
  have h0 : (t.take 8).length = 8 := by rw [List.length_take]; omega
  have h4 : ((t.drop 32).take 8) = t.drop 32 := List.take_of_length_le (by rw [List.length_drop]; omega)
  unfold aggB aggOf
  simp only
  rw [le8_two, le8_two, le_back8 h0, le_back8 (cut8 (by omega)), le_back8 (cut8 (by omega)), le_back8 (cut8 (by omega))]
  have hl : le (Int.toNat ((ofLe ((t.drop 16).take 8) : Nat) : Int)) 8 = (t.drop 16).take 8 := by
    rw [Int.toNat_natCast]
    have := le_ofLe ((t.drop 16).take 8)
    rwa [cut8 (by omega)] at this
  rw [hl, h4]
  have e1 := (List.take_append_drop 8 t).symm
  have e2 := (List.take_append_drop 8 (t.drop 8)).symm
  have e3 := (List.take_append_drop 8 (t.drop 16)).symm
  have e4 := (List.take_append_drop 8 (t.drop 24)).symm
  rw [List.drop_drop] at e2 e3 e4
  have f : t = t.take 8 ++ ((t.drop 8).take 8 ++ ((t.drop 16).take 8 ++ ((t.drop 24).take 8 ++ t.drop 32))) := by
    rw [← e4, ← e3, ← e2]; exact e1
  simp only [List.append_assoc]
  exact f.symm
theorem aggOk_zero : aggOk agg0 = false := rfl
theorem recRd_ok {X : List UInt8} (h : X.length = 64) (hn : nameOk (X.take 16) = true) : recRd X = (⟨bstr (((X.take 16).drop 1).take ((X.take 16).headD 0).toNat), sgn (ofLe ((X.drop 16).take 8)), (aggGetV (X.drop 24)).1⟩, (aggGetV (X.drop 24)).2) := by
  unfold recRd
  rw [uName_ok (by omega), if_pos hn]
  simp only
  rw [uTake_in (by rw [List.length_drop]; omega)]
  simp only
  rw [List.drop_drop, uTake_full]
theorem recRd_bad {X : List UInt8} (h : X.length = 64) (hn : ¬ nameOk (X.take 16) = true) : recOk (recRd X).1 = false := by
  unfold recRd
  rw [uName_ok (by omega), if_neg hn]
  unfold recOk
  simp only
  rw [validB_nil, Bool.false_and, Bool.false_and]
theorem aggGet_ok {t : List UInt8} (h : t.length = 40) (hok : aggOk (aggGetV t).1 = true) : aggGetV t = (aggOf t, 0) := by
  unfold aggGetV at hok ⊢
  rw [if_pos h] at hok ⊢
  cases ha : aggOk (aggOf t)
  · rw [ha] at hok; cases hok
  · rfl
theorem get_ok {X : List UInt8} (h : X.length = 64) : getOk X = recOk (recRd X).1 := by
  unfold getOk
  cases hr : recOk (recRd X).1
  · rw [Bool.and_false, Bool.false_and]
  · by_cases hn : nameOk (X.take 16) = true
    · have e := recRd_ok h hn
      have hok := (recOk_parts hr).2.2
      rw [e] at hok
      have ha := aggGet_ok (t := X.drop 24) (by rw [List.length_drop]; omega) hok
      rw [e, ha]
      simp only [decide_true, Bool.and_true, Bool.true_and]
      apply decide_eq_true
      unfold recB
      simp only
      rw [nameB_of (by rw [List.length_take]; omega) hn, le8_back (cut8 (by omega)), aggB_of (by rw [List.length_drop]; omega)]
      have e1 := (List.take_append_drop 16 X).symm
      have e2 := (List.take_append_drop 8 (X.drop 16)).symm
      rw [List.drop_drop] at e2
      rw [List.append_assoc, ← e2]
      exact e1.symm
    · rw [recRd_bad h hn] at hr; cases hr
end Go.Proofs.YtkickdmiilmkoaaGreatDoor
