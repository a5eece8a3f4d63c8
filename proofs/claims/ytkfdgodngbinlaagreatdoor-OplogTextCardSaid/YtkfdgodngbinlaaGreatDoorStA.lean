/- Walks of state: right, none, add, Room, Pending, Tiers, Shadow, Abort, Ask; of a nil one. -/
import Derived.Test.YtkfdgodngbinlaaGreatDoorShNote
import Derived.Test.YtkfdgodngbinlaaGreatDoorTiersSame
namespace Go.Proofs.YtkfdgodngbinlaaGreatDoor
set_option linter.all false
open Go.RowKit

theorem stright_any (room : Int) (w : World) : Calls Tryz.prog 40 #[.int .i64 room] w fun r w' => r = .returned (.bool (decide (0 ≤ room) && decide (room ≤ 4096))) ∧ w = w' := by
 have go : ∀ b1 b2 : Bool, decide (0 ≤ room) = b1 → decide (room ≤ 4096) = b2 → Calls Tryz.prog 40 #[.int .i64 room] w fun r w' => r = .returned (.bool (b1 && b2)) ∧ w = w' := by
  intro b1 b2 e1 e2
  cases b1 <;> cases b2 <;> (
   go_enter Tryz.func40, Tryz.ntmps40
   go_wp2_with fail
   go_ret
   exact ⟨by first | rfl | simp [*], rfl⟩)
 exact go _ _ rfl rfl
theorem stadd_any (a b : Int) (w : World) (h0 : 0 ≤ a) (h1 : 0 ≤ b) (h2 : a + b ≤ 9223372036854775807) : Calls Tryz.prog 48 #[.int .i64 a, .int .i64 b] w fun r w' => r = .returned (.int .i64 (a + b)) ∧ w = w' := by
 have e1 : IntKind.i64.wrap (9223372036854775807 - b) = 9223372036854775807 - b := IntWalk.i64_in _ (by omega)
 have e2 : decide (9223372036854775807 - b < a) = false := decide_eq_false (by omega)
 have e2' : ¬ 9223372036854775807 - b < a := by omega
 have e3 : IntKind.i64.wrap (a + b) = a + b := IntWalk.i64_in _ (by omega)
 go_enter Tryz.func48, Tryz.ntmps48
 go_wp2_with fail
 go_ret
 exact ⟨by first | rfl | simp [*], rfl⟩
section
variable {W : World} {g lo : Nat} {Q : StX} {c t : Nat} {Ft Fs F : Nat → Prop} {v : Value}
theorem StIn.cells (h : StIn W g lo Q c t Ft Fs v) {G : Nat → Prop} {W' : World} (f : Fr G W W') (hg : ¬ G g) : W'.cell? ⟨g, 0, none⟩ = some (.int .i64 Q.room) ∧ W'.cell? ⟨g, 1, none⟩ = some (.pointer (some ⟨t, 0, none⟩)) ∧ W'.cell? ⟨g, 2, none⟩ = some v := by
 have b := h.blk.fr f hg
 exact ⟨b.cell 0, b.cell 1, b.cell 2⟩
theorem StIn.cells0 (h : StIn W g lo Q c t Ft Fs v) : W.cell? ⟨g, 0, none⟩ = some (.int .i64 Q.room) ∧ W.cell? ⟨g, 1, none⟩ = some (.pointer (some ⟨t, 0, none⟩)) ∧ W.cell? ⟨g, 2, none⟩ = some v := h.cells (Fr.refl (fun _ => False) W) (fun h => h)
theorem ChOn.val {o : Option ShX} (h : ChOn W lo o v Fs) : (o = none → v = .pointer none) ∧ (∀ S, o = some S → ∃ s, v = .pointer (some ⟨s, 0, none⟩)) := by
 cases o with
 | none => exact ⟨fun _ => h.1, (fun _ e => by cases e)⟩
 | some S =>
  obtain ⟨s, base, _, hv, _⟩ := h
  exact ⟨(fun e => by cases e), fun _ _ => ⟨s, hv⟩⟩
theorem stnone_any (h : StIn W g lo Q c t Ft Fs v) : Calls Tryz.prog 43 #[.pointer (some ⟨g, 0, none⟩)] W fun r w' => r = .returned (.bool false) ∧ W = w' := by
 obtain ⟨_, c1, _⟩ := h.cells0
 clear h
 go_enter Tryz.func43, Tryz.ntmps43
 go_wp2_with fail
 go_ret
 exact ⟨by first | rfl | simp [*], rfl⟩
end
end Go.Proofs.YtkfdgodngbinlaaGreatDoor
