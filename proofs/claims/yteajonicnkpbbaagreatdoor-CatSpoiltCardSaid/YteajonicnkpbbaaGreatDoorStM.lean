/- StateRoom's plain law: a change comes to its end in as many steps as its plan says. -/
import Derived.Test.YteajonicnkpbbaaGreatDoorStQ
import Derived.Test.YteajonicnkpbbaaGreatDoorStRun
import Derived.Test.YteajonicnkpbbaaGreatDoorWeb8
import Derived.Test.YteajonicnkpbbaaGreatDoorShStepU
namespace Go.Proofs.YteajonicnkpbbaaGreatDoor
set_option linter.all false
open Go.RowKit

section
variable {W W' : World} {g lo : Nat} {Q : StX} {c : Nat}
end
end Go.Proofs.YteajonicnkpbbaaGreatDoor
namespace Go.Proofs.YteajonicnkpbbaaGreatDoor
set_option linter.all false
open Go.RowKit

def StSh (W : World) (g lo : Nat) (Q : StX) (c s base : Nat) (S : ShX) : Prop := ∃ F F', StOn W g lo Q c F ∧ ShOn W s base S F' ∧ ∀ j, F' j → ¬ F j
section
variable {W W' : World} {g lo : Nat} {Q : StX} {c s base : Nat} {S : ShX}
theorem StSh.p (h : StSh W g lo Q c s base S) : StP W g lo Q c := by
 obtain ⟨F, F', h1, _, _⟩ := h
 exact ⟨F, h1⟩
theorem StSh.sh (h : StSh W g lo Q c s base S) : ShAt W s base S := by
 obtain ⟨F, F', _, h2, _⟩ := h
 exact h2.at_
theorem StSh.fr0 (h : StSh W g lo Q c s base S) (f : Fr (fun _ => False) W W') : StSh W' g lo Q c s base S := by
 obtain ⟨F, F', h1, h2, h3⟩ := h
 exact ⟨F, F', h1.fr0 f, h2.fr0 f, h3⟩
theorem sp_shadow2 (hg : StGood Q c) (h : StP W g lo Q c) :
  Calls Tryz.prog 30 #[.pointer (some ⟨g, 0, none⟩)] W fun r w' => ((Q.ch = none → r = .returned (.pointer none)) ∧ (∀ S, Q.ch = some S → ∃ s base, r = .returned (.pointer (some ⟨s, 0, none⟩)) ∧ StSh w' g lo Q c s base S)) ∧ Below W.heap.size W w' := by
 obtain ⟨F, h⟩ := h
 refine (stshadow_any hg h 0 (by omega)).mono ?_
 rintro r w' ⟨⟨v, F', rfl, h1, h2⟩, hb⟩
 refine ⟨⟨fun he => ?_, fun S he => ?_⟩, hb⟩
 ·rw [he] at h1
  obtain ⟨rfl, _⟩ := h1
  rfl
 ·rw [he] at h1
  obtain ⟨s, base, _, rfl, h3⟩ := h1
  exact ⟨s, base, rfl, F, F', h.fr0 (Fr.b0 hb), h3, fun j hj hF => by have := h2 j hj; have := (h.ge j hF).2; omega⟩
end
def StTi (W : World) (g lo : Nat) (Q : StX) (c t : Nat) (Y : TiersX) (d : Nat) : Prop := ∃ F F', StOn W g lo Q c F ∧ Tio Y.name Y.tiers Y.floors lo W t Y F' d ∧ ∀ j, F' j → ¬ F j
section
variable {W W' : World} {g lo : Nat} {Q : StX} {c t d : Nat} {Y : TiersX}
theorem StTi.p (h : StTi W g lo Q c t Y d) : StP W g lo Q c := by
 obtain ⟨F, F', h1, _, _⟩ := h
 exact ⟨F, h1⟩
theorem StTi.ti (h : StTi W g lo Q c t Y d) : ∃ F, Tio Y.name Y.tiers Y.floors lo W t Y F d := by
 obtain ⟨F, F', _, h2, _⟩ := h
 exact ⟨F', h2⟩
theorem StTi.fr0 (h : StTi W g lo Q c t Y d) (f : Fr (fun _ => False) W W') : StTi W' g lo Q c t Y d := by
 obtain ⟨F, F', h1, h2, h3⟩ := h
 exact ⟨F, F', h1.fr0 f, h2.fr0 f, h3⟩
theorem sp_tiers2 (hg : StGood Q c) (h : StP W g lo Q c) :
  Calls Tryz.prog 29 #[.pointer (some ⟨g, 0, none⟩)] W fun r w' => (∃ t, r = .returned (.pointer (some ⟨t, 0, none⟩)) ∧ StTi w' g lo Q c t Q.X c) ∧ Below W.heap.size W w' := by
 have hlt := h.lt
 obtain ⟨F, h⟩ := h
 refine (sttiers_any hg h lo (by omega)).mono ?_
 rintro r w' ⟨⟨t, F', rfl, h1, h2⟩, hb⟩
 exact ⟨⟨t, rfl, F, F', h.fr0 (Fr.b0 hb), h1, fun j hj hF => by have := h2 j hj; have := (h.ge j hF).2; omega⟩, hb⟩
theorem StTi.reach (h : StTi W g lo Q c t Y d) : ∃ tA tc tB td, ReachIn W t Y.now Y.name Y.tiers Y.floors tA tc tB td := by
 obtain ⟨F, h⟩ := h.ti
 exact h.reach
end
end Go.Proofs.YteajonicnkpbbaaGreatDoor
