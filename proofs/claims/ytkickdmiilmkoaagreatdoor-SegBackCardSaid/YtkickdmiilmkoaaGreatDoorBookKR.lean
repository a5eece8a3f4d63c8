/- A book in which records alone are kept: one list more, and all apart. -/
import Derived.Test.YtkickdmiilmkoaaGreatDoorApartRS
namespace Go.Proofs.YtkickdmiilmkoaaGreatDoor
open Go.RowKit

/-- Block g is a book with k lists of records; all of it lies from base on. -/
def BookR (w : World) (g base k : Nat) : Prop :=
  ∃ (cs : Array Value) (V U : Value) (hs us : List (HV RecV)), Blk w g 37 cs ∧ cs[4]? = some V ∧ cs[5]? = some U ∧ (∀ j, j < 16 → j ≠ 4 → j ≠ 5 → cs[j]? = some (.slice none 0 0)) ∧
    Kind RecV.cells w base 49 63 7 V U hs us ∧ hs.length = k ∧ (∀ h ∈ hs, h.l.length ≤ 100000) ∧ base ≤ g ∧ base ≤ w.heap.size
theorem BookR.fr {w w' : World} {g base k : Nat} (h : BookR w g base k) (hb : Below w.heap.size w w') : BookR w' g base k := by
  obtain ⟨cs, V, U, hs, us, h1, h2, h3, h4, h5, h6, h7, h8, h9⟩ := h
  exact ⟨cs, V, U, hs, us, h1.below hb, h2, h3, h4, h5.fr0 (Fr.b0 hb), h6, h7, h8, Nat.le_trans h9 hb.size⟩
theorem BookR.new (w : World) : BookR (w.alloc (.cells #[.slice none 0 0, .slice none 0 0, .slice none 0 0, .slice none 0 0, .slice none 0 0, .slice none 0 0, .slice none 0 0, .slice none 0 0, .slice none 0 0, .slice none 0 0, .slice none 0 0, .slice none 0 0, .slice none 0 0, .slice none 0 0, .slice none 0 0, .slice none 0 0] 37)) w.heap.size w.heap.size 0 := by
  refine ⟨_, .slice none 0 0, .slice none 0 0, [], [], Blk.new _ _ _, rfl, rfl, fun j hj _ _ => ?_, Kind.nil, rfl, fun x hx => (by cases hx), Nat.le_refl _, by simp⟩
  have : j = 0 ∨ j = 1 ∨ j = 2 ∨ j = 3 ∨ j = 4 ∨ j = 5 ∨ j = 6 ∨ j = 7 ∨ j = 8 ∨ j = 9 ∨ j = 10 ∨ j = 11 ∨ j = 12 ∨ j = 13 ∨ j = 14 ∨ j = 15 := by omega
  rcases this with rfl | rfl | rfl | rfl | rfl | rfl | rfl | rfl | rfl | rfl | rfl | rfl | rfl | rfl | rfl | rfl <;> rfl
theorem bookR_add (w0 w : World) (g base k : Nat) (h : BookR w0 g base k) (hb : Below w0.heap.size w0 w) (hk : k < 200) (l : List RecV) (A : Option Addr) (n c : Nat) (ho : w.ownsRow w0.heap.size 63 7 (.slice A n c) n (rcells l)) (hn : n ≤ 100000) :
    Calls Tryz.prog 26 #[.pointer (some ⟨g, 0, none⟩), .slice A n c] w fun r w' => r = .returned (.tuple #[]) ∧ BookR w' g base (k + 1) ∧ Fr (fun i => base ≤ i ∧ i < w0.heap.size) w w' := by
  obtain ⟨cs, V, U, hs, us, h1, h2, h3, h4, h5, h6, h7, h8, h9⟩ := h
  have hK := h5.fr0 (Fr.b0 hb)
  have hle : base ≤ w.heap.size := Nat.le_trans h9 hb.size
  have hlen : l.length = n := by have := ho.1; rw [csR_len] at this; omega
  refine (addR_any g cs base V U hs us l A n c w (h1.below hb) h2 h3 hK (by omega) (own_le ho h9) (by omega) hle ?_).mono ?_
  · intro x hx i h1' h2'
    have a1 := own_lt (h5.lists.own x hx) i h1'
    have a2 := (ho.lt i h2').1
    omega
  · rintro r w' ⟨e, V', U', B, d, b1, k1, f1⟩
    have hF : Fr (fun i => base ≤ i ∧ i < w0.heap.size) w w' := f1.mono fun i hi => .inl (by
      rcases hi with rfl | hi | hi
      · exact ⟨h8, h1.lt⟩
      · exact h5.row.lt i hi
      · exact h5.wrow.lt i hi)
    have h16 : cs.size ≥ 6 := by have := (Array.getElem?_eq_some_iff.1 h3).1; omega
    refine ⟨e, ⟨_, V', U', _, _, b1, ?_, ?_, fun j hj j1 j2 => ?_, k1, by simp [h6], fun x hx => ?_, h8, Nat.le_trans hle f1.size⟩, hF⟩
    · rw [Array.getElem?_setIfInBounds_ne (by decide), Array.getElem?_setIfInBounds_self_of_lt (by omega)]
    · rw [Array.getElem?_setIfInBounds_self_of_lt (by simp; omega)]
    · rw [Array.getElem?_setIfInBounds_ne (by omega), Array.getElem?_setIfInBounds_ne (by omega), h4 j hj j1 j2]
    · rcases List.mem_append.1 hx with hx | hx
      · exact h7 x hx
      · rw [List.mem_singleton] at hx; subst hx; show l.length ≤ _; omega
theorem bookR_apart (w : World) (g base k : Nat) (h : BookR w g base k) (hk : k < 200) :
    Calls Tryz.prog 18 #[.pointer (some ⟨g, 0, none⟩)] w fun r w' => r = .returned (.bool true) ∧ Fr (fun i => base ≤ i) w w' := by
  obtain ⟨cs, V, U, hs, us, h1, hV, hU, ho, hk, h6, hl, h8, h9⟩ := h
  refine (apart_any g cs base V U hs us (.slice none 0 0) (.slice none 0 0) [] [] w h1 h9 (ho 0 (by decide) (by decide) (by decide)) (ho 2 (by decide) (by decide) (by decide)) hV hU hk (by omega) hl (ho 6 (by decide) (by decide) (by decide)) (ho 7 (by decide) (by decide) (by decide)) Kind.nil (by simp) (fun _ h => by cases h) (ho 8 (by decide) (by decide) (by decide)) (ho 10 (by decide) (by decide) (by decide)) (ho 12 (by decide) (by decide) (by decide)) (ho 14 (by decide) (by decide) (by decide))).mono ?_
  rintro r w' ⟨e, f⟩
  exact ⟨e, f.mono fun i hi => .inl (by
    rcases hi with ⟨x, hx, hi⟩ | ⟨x, hx, hi⟩ <;> first | exact (hk.new i ⟨x, hx, hi⟩).1 | (cases hx))⟩
end Go.Proofs.YtkickdmiilmkoaaGreatDoor
