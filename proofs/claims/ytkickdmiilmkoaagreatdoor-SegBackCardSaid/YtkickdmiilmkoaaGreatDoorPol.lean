/- Policies in memory; walks of package policy. -/
import Derived.Test.YtkickdmiilmkoaaGreatDoorName
namespace Go.Proofs.YtkickdmiilmkoaaGreatDoor
open Go.RowKit

structure TierV where
  name : ByteArray
  every : Int
  keep : Int
  shards : Int
def TierV.cells (t : TierV) : List Value := [.string t.name, .int .i64 t.every, .int .i64 t.keep, .int .i64 t.shards]
def TierV.val (t : TierV) : Value := .agg #[.string t.name, .int .i64 t.every, .int .i64 t.keep, .int .i64 t.shards]
def tcells (l : List TierV) : List Value := l.flatMap TierV.cells

theorem tcells_length (l : List TierV) : (tcells l).length = l.length * 4 := by
  induction l with
  | nil => rfl
  | cons a t ih => simp only [tcells, List.flatMap_cons, List.length_append] at ih ⊢; rw [ih]; simp [TierV.cells]; omega
theorem tcells_get {l : List TierV} {k : Nat} {t : TierV} (h : l[k]? = some t) (j : Nat) (hj : j < 4) : (tcells l)[k * 4 + j]? = t.cells[j]? := by
  induction l generalizing k with
  | nil => cases h
  | cons a r ih =>
    cases k with
    | zero =>
      simp only [List.getElem?_cons_zero, Option.some.injEq] at h
      subst h
      simp only [tcells, List.flatMap_cons]
      rw [List.getElem?_append_left (by simp [TierV.cells]; omega)]
      simp
    | succ k =>
      simp only [List.getElem?_cons_succ] at h
      have := ih h
      simp only [tcells, List.flatMap_cons]
      rw [List.getElem?_append_right (by simp [TierV.cells]; omega)]
      rw [← this]
      simp only [tcells]
      congr 1
      simp [TierV.cells]; omega
theorem Rd.tier {w : World} {n k : Nat} {A : Option Addr} {l : List TierV} (h : Rd w 4 A n (tcells l)) (hk : k < n) :
    ∃ ad t, A = some ad ∧ l[k]? = some t ∧ w.cell? (ad.add (k * 4)) = some (.string t.name) ∧ w.cell? ⟨(ad.add (k * 4)).block, (ad.add (k * 4)).off + 1, none⟩ = some (.int .i64 t.every) ∧ w.cell? ⟨(ad.add (k * 4)).block, (ad.add (k * 4)).off + 2, none⟩ = some (.int .i64 t.keep) ∧ w.cell? ⟨(ad.add (k * 4)).block, (ad.add (k * 4)).off + 3, none⟩ = some (.int .i64 t.shards) := by
  obtain ⟨ad, e, hc⟩ := h.2 (by omega)
  have hl : k < l.length := by have := h.1; rw [tcells_length] at this; omega
  have ht := List.getElem?_eq_getElem hl
  refine ⟨ad, l[k], e, ht, hc _ _ (tcells_get ht 0 (by decide)), ?_, ?_, ?_⟩
  · rw [← add_pos _ _ (by decide), add_of_add]; exact hc _ _ (tcells_get ht 1 (by decide))
  · rw [← add_pos _ _ (by decide), add_of_add]; exact hc _ _ (tcells_get ht 2 (by decide))
  · rw [← add_pos _ _ (by decide), add_of_add]; exact hc _ _ (tcells_get ht 3 (by decide))
theorem Rd.tiers_len {w : World} {n : Nat} {A : Option Addr} {l : List TierV} (h : Rd w 4 A n (tcells l)) : l.length = n := by have := h.1; rw [tcells_length] at this; omega

/-- Does a tier bear the name? -/
def named (l : List TierV) (nm : ByteArray) : Bool := l.any fun x => decide (x.name = nm)
def TierV.ok (t : TierV) : Bool := validB t.name && withinB t.keep 1000000 && withinB t.shards 8
/-- policy.fits behind the tiers 'ahead'. -/
def fitsT (t : TierV) (ahead : List TierV) : Bool :=
  t.ok && match ahead.getLast? with
    | none => (t.every == 1)
    | some a => !(named ahead t.name) && decide (a.every < t.every) && decide (t.every ≤ 1000000) && dividesB a.every t.every && decide (a.keep ≤ t.keep)

theorem valid_one (x : ByteArray) (hx : x.size ≤ maxLen) (b c : Nat) (w : World) (hc : w.cell? ⟨b, 0, none⟩ = some (.string x)) :
    Calls Tryz.prog 93 #[.slice (some ⟨b, 0, none⟩) 1 c] w fun r w' => r = .returned (.bool (validB x)) ∧ w = w' := by
  have h := valid_any [x] (some ⟨b, 0, none⟩) 1 c w ⟨rfl, fun _ => ⟨_, rfl, fun j u hu => by
    rcases j with _ | j
    · simp at hu; subst hu; exact hc
    · simp at hu⟩⟩ (by decide) (by simpa using hx)
  simpa using h

theorem valid_new (x : ByteArray) (hx : x.size ≤ maxLen) (k c : Nat) (w : World) (t : TypeId) (hk : k = w.heap.size) :
    Calls Tryz.prog 93 #[.slice (some ⟨k, 0, none⟩) 1 c] (w.alloc (.cells #[.string x] t)) fun r w' => r = .returned (.bool (validB x)) ∧ w.alloc (.cells #[.string x] t) = w' :=
  valid_one x hx k c _ (by subst hk; exact cell_head _ _ _)


theorem name_eq (a b : ByteArray) : (a.toList == b.toList) = decide (a = b) := by
  rw [Bool.eq_iff_iff, beq_iff_eq, decide_eq_true_iff, Lib.toList_data, Lib.toList_data]
  exact ⟨fun h => ByteArray.ext (Array.toList_inj.mp h), fun h => by rw [h]⟩
theorem named_snoc {l : List TierV} {nm : ByteArray} {k : Nat} {x : TierV} (h : l[k]? = some x) (ha : named (l.take k) nm = false) : named (l.take (k + 1)) nm = decide (x.name = nm) := by
  unfold named at ha ⊢
  rw [take_snoc h, List.any_append, ha]; simp
theorem named_take {l : List TierV} {nm : ByteArray} {k : Nat} (ha : named (l.take k) nm = true) : named l nm = true := by
  unfold named at ha ⊢
  rw [List.any_eq_true] at ha ⊢
  obtain ⟨x, hx, h⟩ := ha
  exact ⟨x, List.mem_of_mem_take hx, h⟩
end Go.Proofs.YtkickdmiilmkoaaGreatDoor
