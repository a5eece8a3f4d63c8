/- Walks of state: Change, Step. -/
import Derived.Test.YteajonicnkpbbaaGreatDoorStB
import Derived.Test.YteajonicnkpbbaaGreatDoorTk
namespace Go.Proofs.YteajonicnkpbbaaGreatDoor
set_option linter.all false
open Go.RowKit

section
variable {W : World} {g lo : Nat} {Q : StX} {c t : Nat} {Ft Fs F : Nat → Prop} {v : Value}
theorem StIn.same (h : StIn W g lo Q c t Ft Fs v) {w' : World} (f : Fr (fun _ => False) W w') : StR W g lo Q c (stF g Ft Fs) w' :=
 ⟨⟨_, ⟨t, Ft, Fs, v, h.fr0 f, rfl⟩, fun j hj => .inl hj⟩, f.mono (fun _ h => h.elim)⟩
end
end Go.Proofs.YteajonicnkpbbaaGreatDoor
