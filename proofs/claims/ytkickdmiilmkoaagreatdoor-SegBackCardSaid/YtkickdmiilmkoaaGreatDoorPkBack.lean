/- Plain laws: what was put is read. -/
import Derived.Test.YtkickdmiilmkoaaGreatDoorPkDone
namespace Go.Proofs.YtkickdmiilmkoaaGreatDoor
open Go.RowKit

theorem uTake_app {a t : List UInt8} {n : Nat} (h : a.length = n) : uTake 0 (a ++ t) n = (0, t, a) := by
  subst h
  unfold uTake
  rw [if_pos rfl, if_neg (by simp), List.drop_left, List.take_left]
theorem u64_lt (x : Int) : u64 x < 18446744073709551616 := by unfold u64; omega
theorem pow8 : (256 : Nat) ^ 8 = 18446744073709551616 := by decide
theorem ofLe_le8 (x : Nat) (h : x < 18446744073709551616) : ofLe (le x 8) = x := by rw [ofLe_le, pow8, Nat.mod_eq_of_lt h]
theorem sgn_u64 {x : Int} (h0 : -9223372036854775808 ≤ x) (h1 : x ≤ 9223372036854775807) : sgn (u64 x) = x := by
  unfold sgn u64
  split <;> omega
theorem le8_cons (x : Int) (t : List Int) : le8 (x :: t) = le (u64 x) 8 ++ le8 t := by simp [le8]

theorem allZ_rep (n : Nat) : allZ (List.replicate n 0) = true := by simp [allZ]
theorem nameB_back {s : ByteArray} (h : s.size ≤ 15) (t : List UInt8) : uName 0 (nameB s ++ t) = (0, t, s.data.toList) := by
  have hb : (UInt8.ofNat s.size).toNat = s.size := by simp; omega
  have hd : (nameB s).headD 0 = UInt8.ofNat s.size := rfl
  have h1 : (nameB s).drop 1 = s.data.toList ++ List.replicate (15 - s.size) 0 := rfl
  have h2 : (nameB s).drop (1 + s.size) = List.replicate (15 - s.size) 0 := by
    rw [← List.drop_drop, h1]
    rw [List.drop_append_of_le_length (by rw [str_len]; exact Nat.le_refl _), List.drop_of_length_le (by rw [str_len]; exact Nat.le_refl _), List.nil_append]
  unfold uName
  rw [uTake_app (nameB_len s h)]
  rw [if_neg (by simp [nameB])]
  have hok : nameOk (nameB s) = true := by
    unfold nameOk
    rw [hd, hb, h2, allZ_rep]
    simp [h]
  rw [if_pos hok]
  simp only [hd, hb, h1]
  rw [List.take_append_of_le_length (by rw [str_len]; exact Nat.le_refl _), List.take_of_length_le (by rw [str_len]; exact Nat.le_refl _)]
theorem textB_back {s : ByteArray} (h : s.size ≤ 60000) (t : List UInt8) : uText 0 (textB s ++ t) = (0, t, s.data.toList) := by
  have hl : (le s.size 2).length = 2 := le_length _ _
  have e0 : textB s ++ t = le s.size 2 ++ (s.data.toList ++ t) := by simp [textB]
  have e1 : (textB s ++ t).take 2 = le s.size 2 := by rw [e0, List.take_append_of_le_length (by omega), List.take_of_length_le (by omega)]
  have e2 : (textB s ++ t).drop 2 = s.data.toList ++ t := by rw [e0, List.drop_append_of_le_length (by omega), List.drop_of_length_le (by omega), List.nil_append]
  have e3 : ofLe (le s.size 2) = s.size := by
    rw [ofLe_le, show (256 : Nat) ^ 2 = 65536 by decide, Nat.mod_eq_of_lt (by omega)]
  unfold uText
  rw [if_pos rfl, e1, e3, if_neg (by rw [e0, List.length_append, hl]; omega), if_neg (by rw [e0]; simp only [List.length_append, hl, str_len]; omega)]
  rw [e2, ← List.drop_drop, e2]
  rw [List.take_append_of_le_length (by rw [str_len]; exact Nat.le_refl _), List.take_of_length_le (by rw [str_len]; exact Nat.le_refl _)]
  rw [List.drop_append_of_le_length (by rw [str_len]; exact Nat.le_refl _), List.drop_of_length_le (by rw [str_len]; exact Nat.le_refl _), List.nil_append]
theorem pNames_ok {e : List UInt8} {ss : List ByteArray} (h : ∀ s ∈ ss, s.size ≤ 15) : pNames 0 e ss = (0, e ++ ss.flatMap nameB) := by
  induction ss generalizing e with
  | nil => simp [pNames]
  | cons s ss ih =>
    have h1 := h s (List.mem_cons_self ..)
    simp only [pNames, if_true, if_neg (show ¬ 15 < s.size by omega)]
    rw [ih (fun x hx => h x (List.mem_cons_of_mem _ hx)), List.flatMap_cons, List.append_assoc]
theorem pNames_long {e : List UInt8} {ss : List ByteArray} (h : ∃ s ∈ ss, 15 < s.size) : (pNames 0 e ss).1 = 2 := by
  induction ss generalizing e with
  | nil => obtain ⟨s, hs, _⟩ := h; cases hs
  | cons s ss ih =>
    simp only [pNames, if_true]
    split
    · rfl
    · rename_i hn
      obtain ⟨x, hx, h15⟩ := h
      rcases List.mem_cons.1 hx with rfl | hx
      · exact absurd h15 hn
      · exact ih ⟨x, hx, h15⟩
theorem flat_nameB_len {ss : List ByteArray} (h : ∀ s ∈ ss, s.size ≤ 15) : (ss.flatMap nameB).length = 16 * ss.length := by
  induction ss with
  | nil => rfl
  | cons s ss ih =>
    rw [List.flatMap_cons, List.length_append, nameB_len s (h s (List.mem_cons_self ..)), ih (fun x hx => h x (List.mem_cons_of_mem _ hx)), List.length_cons]
    omega
theorem drop_cons {α : Type} {l : List α} {k : Nat} {x : α} (h : l[k]? = some x) : l.drop k = x :: l.drop (k + 1) := by
  rw [List.drop_eq_getElem?_toList_append, h]; rfl
end Go.Proofs.YtkickdmiilmkoaaGreatDoor
