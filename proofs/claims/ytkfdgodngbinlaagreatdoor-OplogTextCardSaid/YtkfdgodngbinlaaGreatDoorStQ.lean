/- Walks of state: Change, Step. -/
import Derived.Test.YtkfdgodngbinlaaGreatDoorStB
import Derived.Test.YtkfdgodngbinlaaGreatDoorTk
namespace Go.Proofs.YtkfdgodngbinlaaGreatDoor
set_option linter.all false
open Go.RowKit

section
variable {W : World} {g lo : Nat} {Q : StX} {c t : Nat} {Ft Fs F : Nat → Prop} {v : Value}
theorem StIn.same (h : StIn W g lo Q c t Ft Fs v) {w' : World} (f : Fr (fun _ => False) W w') : StR W g lo Q c (stF g Ft Fs) w' :=
 ⟨⟨_, ⟨t, Ft, Fs, v, h.fr0 f, rfl⟩, fun j hj => .inl hj⟩, f.mono (fun _ h => h.elim)⟩
end
end Go.Proofs.YtkfdgodngbinlaaGreatDoor
namespace Go.Proofs.YtkfdgodngbinlaaGreatDoor
set_option linter.all false
open Go.RowKit

def StP (W : World) (g lo : Nat) (Q : StX) (c : Nat) : Prop := ∃ F, StOn W g lo Q c F
section
variable {W W' : World} {g lo : Nat} {Q : StX} {c : Nat} {F : Nat → Prop}
theorem StP.fr0 (h : StP W g lo Q c) (f : Fr (fun _ => False) W W') : StP W' g lo Q c := by
 obtain ⟨F, h⟩ := h
 exact ⟨F, h.fr0 f⟩
theorem StP.more (h : StP W g lo Q c) {d : Nat} (hd : c ≤ d) : StP W g lo Q d := by
 obtain ⟨F, h⟩ := h
 exact ⟨F, h.more hd⟩
theorem StP.lt (h : StP W g lo Q c) : lo ≤ g ∧ g < W.heap.size := by
 obtain ⟨F, t, Ft, Fs, v, hi, _⟩ := h
 exact ⟨hi.glo, hi.blk.lt⟩
theorem StR.p (h : StR W g lo Q c F W') (hge : ∀ j, F j → lo ≤ j) (hlo : lo ≤ W.heap.size) : StP W' g lo Q c ∧ Below lo W W' := by
 obtain ⟨⟨F', h1, _⟩, h2⟩ := h
 exact ⟨⟨F', h1⟩, h2.below_of hlo hge⟩
end
end Go.Proofs.YtkfdgodngbinlaaGreatDoor
