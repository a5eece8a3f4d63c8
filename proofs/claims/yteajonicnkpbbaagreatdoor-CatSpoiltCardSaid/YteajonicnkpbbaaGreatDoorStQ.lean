/- Walks of state: Change, Step. -/
import Derived.Test.YteajonicnkpbbaaGreatDoorStB
import Derived.Test.YteajonicnkpbbaaGreatDoorTk
namespace Go.Proofs.YteajonicnkpbbaaGreatDoor
set_option linter.all false
open Go.RowKit

section
variable {W : World} {g lo : Nat} {Q : StX} {c t : Nat} {Ft Fs F : Nat → Prop} {v : Value}
theorem StIn.same (h : StIn W g lo Q c t Ft Fs v) {w' : World} (f : Fr (fun _ => False) W w') : StR W g lo Q c (stF g Ft Fs) w' :=
 ⟨⟨_, ⟨t, Ft, Fs, v, h.fr0 f, rfl⟩, fun j hj => .inl hj⟩, f.mono (fun _ h => h.elim)⟩
end
end Go.Proofs.YteajonicnkpbbaaGreatDoor
namespace Go.Proofs.YteajonicnkpbbaaGreatDoor
set_option linter.all false
open Go.RowKit

def StP (W : World) (g lo : Nat) (Q : StX) (c : Nat) : Prop := ∃ F, StOn W g lo Q c F
section
variable {W W' : World} {g lo : Nat} {Q : StX} {c : Nat} {F : Nat → Prop}
theorem StP.fr0 (h : StP W g lo Q c) (f : Fr (fun _ => False) W W') : StP W' g lo Q c := by
 obtain ⟨F, h⟩ := h
 exact ⟨F, h.fr0 f⟩
theorem StP.lt (h : StP W g lo Q c) : lo ≤ g ∧ g < W.heap.size := by
 obtain ⟨F, t, Ft, Fs, v, hi, _⟩ := h
 exact ⟨hi.glo, hi.blk.lt⟩
theorem StR.p (h : StR W g lo Q c F W') (hge : ∀ j, F j → lo ≤ j) (hlo : lo ≤ W.heap.size) : StP W' g lo Q c ∧ Below lo W W' := by
 obtain ⟨⟨F', h1, _⟩, h2⟩ := h
 exact ⟨⟨F', h1⟩, h2.below_of hlo hge⟩
theorem sp_new (room : Int) (text : ByteArray) (hs : text.size ≤ 1099511627776) (w : World) (hmx : MaxL w) (lo : Nat) (hlo : lo ≤ w.heap.size) :
  Calls Tryz.prog 22 #[.int .i64 room, .string text] w fun r w' => ((stNewE room (readV text) = 0 → ∃ g, r = .returned (.tuple #[.pointer (some ⟨g, 0, none⟩), .int .i64 0]) ∧ StP w' g lo (stNewQ room (readV text)) 0) ∧ (stNewE room (readV text) ≠ 0 → r = .returned (.tuple #[.pointer none, .int .i64 (stNewE room (readV text))]))) ∧ Below w.heap.size w w' := by
 refine (stnew_any room text hs w hmx lo hlo).mono ?_
 rintro r w' ⟨⟨h1, h2⟩, hb⟩
 refine ⟨⟨fun h => ?_, h2⟩, hb⟩
 obtain ⟨g, F, hr, ho, _⟩ := h1 h
 exact ⟨g, hr, F, ho⟩
end
end Go.Proofs.YteajonicnkpbbaaGreatDoor
