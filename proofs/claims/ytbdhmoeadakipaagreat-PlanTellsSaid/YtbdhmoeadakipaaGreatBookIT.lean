/- A book in which Ints, Tiers are kept: one list more, and all apart. -/
import Derived.Test.YtbdhmoeadakipaaGreatApartIT
namespace Go.Proofs.YtbdhmoeadakipaaGreat
open Go.RowKit

/-- Block g is a book; k: how many lists of a kind, L: they lie ahead of it; all of it lies from base on. -/
def BookIT (w : World) (g base : Nat) (kI LI kT LT : Nat) : Prop :=
  ∃ (cs : Array Value) (VI UI : Value) (hI uI : List (HV Int)) (VT UT : Value) (hT uT : List (HV TierV)), Blk w g 45 cs ∧ base ≤ g ∧ base ≤ w.heap.size ∧ (∀ j, j < 16 → j ≠ 2 → j ≠ 3 → j ≠ 8 → j ≠ 9 → cs[j]? = some (.slice none 0 0)) ∧ (cs[2]? = some VI ∧ cs[3]? = some UI ∧ Kind icell w base 25 3 1 VI UI hI uI ∧ hI.length = kI ∧ (∀ h ∈ hI, h.l.length ≤ 100000) ∧ (∀ i, listsF hI i → i < LI)) ∧ (cs[8]? = some VT ∧ cs[9]? = some UT ∧ Kind TierV.cells w base 22 69 4 VT UT hT uT ∧ hT.length = kT ∧ (∀ h ∈ hT, h.l.length ≤ 100000) ∧ (∀ i, listsF hT i → i < LT))
theorem BookIT.fr {w w' : World} {g base kI LI kT LT : Nat} (h : BookIT w g base kI LI kT LT) (hb : Below w.heap.size w w') : BookIT w' g base kI LI kT LT := by
  obtain ⟨cs, VI, UI, hI, uI, VT, UT, hT, uT, hB, hg, hw, hno, ⟨aI, bI, cI, dI, eI, fI⟩, ⟨aT, bT, cT, dT, eT, fT⟩⟩ := h
  exact ⟨cs, VI, UI, hI, uI, VT, UT, hT, uT, hB.below hb, hg, Nat.le_trans hw hb.size, hno, ⟨aI, bI, cI.fr0 (Fr.b0 hb), dI, eI, fI⟩, ⟨aT, bT, cT.fr0 (Fr.b0 hb), dT, eT, fT⟩⟩
theorem BookIT.lim {w : World} {g base kI LI kT LT : Nat} (h : BookIT w g base kI LI kT LT) : BookIT w g base kI w.heap.size kT w.heap.size := by
  obtain ⟨cs, VI, UI, hI, uI, VT, UT, hT, uT, hB, hg, hw, hno, ⟨aI, bI, cI, dI, eI, fI⟩, ⟨aT, bT, cT, dT, eT, fT⟩⟩ := h
  exact ⟨cs, VI, UI, hI, uI, VT, UT, hT, uT, hB, hg, hw, hno, ⟨aI, bI, cI, dI, eI, fun i hi => (cI.new i hi).2⟩, ⟨aT, bT, cT, dT, eT, fun i hi => (cT.new i hi).2⟩⟩
theorem BookIT.lt {w : World} {g base kI LI kT LT : Nat} (h : BookIT w g base kI LI kT LT) : g < w.heap.size := by
  obtain ⟨cs, VI, UI, hI, uI, VT, UT, hT, uT, hB, hg, hw, hno, ⟨aI, bI, cI, dI, eI, fI⟩, ⟨aT, bT, cT, dT, eT, fT⟩⟩ := h
  exact hB.lt
theorem BookIT.new (w : World) : BookIT (w.alloc (.cells #[.slice none 0 0, .slice none 0 0, .slice none 0 0, .slice none 0 0, .slice none 0 0, .slice none 0 0, .slice none 0 0, .slice none 0 0, .slice none 0 0, .slice none 0 0, .slice none 0 0, .slice none 0 0, .slice none 0 0, .slice none 0 0, .slice none 0 0, .slice none 0 0] 45)) w.heap.size w.heap.size 0 0 0 0 := by
  refine ⟨_, .slice none 0 0, .slice none 0 0, [], [], .slice none 0 0, .slice none 0 0, [], [], Blk.new _ _ _, Nat.le_refl _, by simp, fun j hj _ _ _ _ => ?_, ⟨rfl, rfl, Kind.nil, rfl, fun x hx => (by cases hx), fun i hi => (by obtain ⟨_, hx, _⟩ := hi; cases hx)⟩, ⟨rfl, rfl, Kind.nil, rfl, fun x hx => (by cases hx), fun i hi => (by obtain ⟨_, hx, _⟩ := hi; cases hx)⟩⟩
  have : j = 0 ∨ j = 1 ∨ j = 2 ∨ j = 3 ∨ j = 4 ∨ j = 5 ∨ j = 6 ∨ j = 7 ∨ j = 8 ∨ j = 9 ∨ j = 10 ∨ j = 11 ∨ j = 12 ∨ j = 13 ∨ j = 14 ∨ j = 15 := by omega
  rcases this with rfl | rfl | rfl | rfl | rfl | rfl | rfl | rfl | rfl | rfl | rfl | rfl | rfl | rfl | rfl | rfl <;> rfl
theorem BookIT.addI {w : World} {g base kI LI kT LT : Nat} (h : BookIT w g base kI LI kT LT) (hk : kI < 200) (l : List Int) (A : Option Addr) (n c B : Nat) (ho : w.ownsRow B 3 1 (.slice A n c) n (icells l)) (hBb : base ≤ B) (hL : LI ≤ B) (hn : n ≤ 100000) :
    Calls Tryz.prog 9 #[.pointer (some ⟨g, 0, none⟩), .slice A n c] w fun r w' => r = .returned (.tuple #[]) ∧ BookIT w' g base (kI + 1) w.heap.size kT LT ∧ ∃ F : Nat → Prop, Fr F w w' ∧ (∀ i, F i → base ≤ i) ∧ ∀ us : List TypeId, 45 ∉ us → 25 ∉ us → Off w F us := by
  obtain ⟨cs, VI, UI, hI, uI, VT, UT, hT, uT, hB, hg, hw, hno, ⟨aI, bI, cI, dI, eI, fI⟩, ⟨aT, bT, cT, dT, eT, fT⟩⟩ := h
  have hlen : l.length = n := by have := ho.1; rw [csI_len] at this; omega
  refine (addI_any g cs base VI UI hI uI l A n c w hB aI bI cI (by omega) (own_le ho hBb) (by omega) hw ?_).mono ?_
  · intro x hx i h1' h2'
    have a1 := fI i ⟨x, hx, h1'⟩
    have a2 := (ho.lt i h2').1
    omega
  · rintro r w' ⟨e, V', U', B', d, b1, k1, f1⟩
    have hOff : ∀ us : List TypeId, 45 ∉ us → 25 ∉ us → Off w (fun k => k = g ∨ rowF VI k ∨ rowF UI k) us := fun us h1 h2 => (Off.blk hB h1).or ((Off.row cI.row h2).or (Off.row cI.wrow h2))
    have h16 : cs.size ≥ 4 := by have := (Array.getElem?_eq_some_iff.1 bI).1; omega
    refine ⟨e, ⟨_, V', U', _, _, VT, UT, hT, uT, b1, hg, Nat.le_trans hw f1.size, fun j hj j2 j3 j8 j9 => ?_, ⟨?_, ?_, k1, by simp [dI], fun x hx => ?_, fun i hi => ?_⟩, ⟨?_, ?_, cT.fr f1 (hOff [22, 69] (by decide) (by decide)) (by simp) (by simp), dT, eT, fT⟩⟩, _, f1, fun i hi => ?_, hOff⟩
    · rw [Array.getElem?_setIfInBounds_ne (by omega), Array.getElem?_setIfInBounds_ne (by omega), hno j hj j2 j3 j8 j9]
    · rw [Array.getElem?_setIfInBounds_ne (by decide), Array.getElem?_setIfInBounds_self_of_lt (by omega)]
    · rw [Array.getElem?_setIfInBounds_self_of_lt (by simp; omega)]
    · rcases List.mem_append.1 hx with hx | hx
      · exact eI x hx
      · rw [List.mem_singleton] at hx; subst hx; show l.length ≤ _; omega
    · obtain ⟨x, hx, hi⟩ := hi
      rcases List.mem_append.1 hx with hx | hx
      · exact (cI.new i ⟨x, hx, hi⟩).2
      · rw [List.mem_singleton] at hx; subst hx; exact (ho.lt i hi).2
    · rw [Array.getElem?_setIfInBounds_ne (by decide), Array.getElem?_setIfInBounds_ne (by decide), aT]
    · rw [Array.getElem?_setIfInBounds_ne (by decide), Array.getElem?_setIfInBounds_ne (by decide), bT]
    · rcases hi with rfl | hi | hi
      · exact hg
      · exact (cI.row.lt i hi).1
      · exact (cI.wrow.lt i hi).1
theorem BookIT.addT {w : World} {g base kI LI kT LT : Nat} (h : BookIT w g base kI LI kT LT) (hk : kT < 200) (l : List TierV) (A : Option Addr) (n c B : Nat) (ho : w.ownsRow B 69 4 (.slice A n c) n (tcells l)) (hBb : base ≤ B) (hL : LT ≤ B) (hn : n ≤ 100000) :
    Calls Tryz.prog 10 #[.pointer (some ⟨g, 0, none⟩), .slice A n c] w fun r w' => r = .returned (.tuple #[]) ∧ BookIT w' g base kI LI (kT + 1) w.heap.size ∧ ∃ F : Nat → Prop, Fr F w w' ∧ (∀ i, F i → base ≤ i) ∧ ∀ us : List TypeId, 45 ∉ us → 22 ∉ us → Off w F us := by
  obtain ⟨cs, VI, UI, hI, uI, VT, UT, hT, uT, hB, hg, hw, hno, ⟨aI, bI, cI, dI, eI, fI⟩, ⟨aT, bT, cT, dT, eT, fT⟩⟩ := h
  have hlen : l.length = n := by have := ho.1; rw [csT_len] at this; omega
  refine (addT_any g cs base VT UT hT uT l A n c w hB aT bT cT (by omega) (own_le ho hBb) (by omega) hw ?_).mono ?_
  · intro x hx i h1' h2'
    have a1 := fT i ⟨x, hx, h1'⟩
    have a2 := (ho.lt i h2').1
    omega
  · rintro r w' ⟨e, V', U', B', d, b1, k1, f1⟩
    have hOff : ∀ us : List TypeId, 45 ∉ us → 22 ∉ us → Off w (fun k => k = g ∨ rowF VT k ∨ rowF UT k) us := fun us h1 h2 => (Off.blk hB h1).or ((Off.row cT.row h2).or (Off.row cT.wrow h2))
    have h16 : cs.size ≥ 10 := by have := (Array.getElem?_eq_some_iff.1 bT).1; omega
    refine ⟨e, ⟨_, VI, UI, hI, uI, V', U', _, _, b1, hg, Nat.le_trans hw f1.size, fun j hj j2 j3 j8 j9 => ?_, ⟨?_, ?_, cI.fr f1 (hOff [25, 3] (by decide) (by decide)) (by simp) (by simp), dI, eI, fI⟩, ⟨?_, ?_, k1, by simp [dT], fun x hx => ?_, fun i hi => ?_⟩⟩, _, f1, fun i hi => ?_, hOff⟩
    · rw [Array.getElem?_setIfInBounds_ne (by omega), Array.getElem?_setIfInBounds_ne (by omega), hno j hj j2 j3 j8 j9]
    · rw [Array.getElem?_setIfInBounds_ne (by decide), Array.getElem?_setIfInBounds_ne (by decide), aI]
    · rw [Array.getElem?_setIfInBounds_ne (by decide), Array.getElem?_setIfInBounds_ne (by decide), bI]
    · rw [Array.getElem?_setIfInBounds_ne (by decide), Array.getElem?_setIfInBounds_self_of_lt (by omega)]
    · rw [Array.getElem?_setIfInBounds_self_of_lt (by simp; omega)]
    · rcases List.mem_append.1 hx with hx | hx
      · exact eT x hx
      · rw [List.mem_singleton] at hx; subst hx; show l.length ≤ _; omega
    · obtain ⟨x, hx, hi⟩ := hi
      rcases List.mem_append.1 hx with hx | hx
      · exact (cT.new i ⟨x, hx, hi⟩).2
      · rw [List.mem_singleton] at hx; subst hx; exact (ho.lt i hi).2
    · rcases hi with rfl | hi | hi
      · exact hg
      · exact (cT.row.lt i hi).1
      · exact (cT.wrow.lt i hi).1
theorem BookIT.apart {w : World} {g base kI LI kT LT : Nat} (h : BookIT w g base kI LI kT LT) (qI : kI < 200) (qT : kT < 200) :
    Calls Tryz.prog 23 #[.pointer (some ⟨g, 0, none⟩)] w fun r w' => r = .returned (.bool true) ∧ Fr (fun i => base ≤ i) w w' := by
  obtain ⟨cs, VI, UI, hI, uI, VT, UT, hT, uT, hB, hg, hw, hno, ⟨aI, bI, cI, dI, eI, fI⟩, ⟨aT, bT, cT, dT, eT, fT⟩⟩ := h
  refine (apart_any g cs base VI UI hI uI VT UT hT uT w hB hw (hno 0 (by decide) (by decide) (by decide) (by decide) (by decide)) aI bI cI (by omega) eI (hno 4 (by decide) (by decide) (by decide) (by decide) (by decide)) (hno 6 (by decide) (by decide) (by decide) (by decide) (by decide)) aT bT cT (by omega) eT (hno 10 (by decide) (by decide) (by decide) (by decide) (by decide)) (hno 12 (by decide) (by decide) (by decide) (by decide) (by decide)) (hno 14 (by decide) (by decide) (by decide) (by decide) (by decide))).mono ?_
  rintro r w' ⟨e, f⟩
  exact ⟨e, f.mono fun i hi => .inl (by
    rcases hi with hi | hi <;> first | exact (cI.new i hi).1 | exact (cT.new i hi).1)⟩
end Go.Proofs.YtbdhmoeadakipaaGreat
