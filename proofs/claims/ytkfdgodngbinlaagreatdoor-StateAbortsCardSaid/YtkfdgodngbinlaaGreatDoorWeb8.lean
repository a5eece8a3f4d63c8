/- The law's first call: what its answers come to. -/
import Derived.Test.YtkfdgodngbinlaaGreatDoorStB
namespace Go.Proofs.YtkfdgodngbinlaaGreatDoor
set_option linter.all false
open Go.RowKit

def web8 : ByteArray := { data := #[112, 111, 108, 105, 99, 121, 32, 119, 101, 98, 10, 116, 105, 101, 114, 32, 114, 97, 119, 32, 101, 118, 101, 114, 121, 32, 49, 32, 107, 101, 101, 112, 32, 49, 48, 48, 32, 115, 104, 97, 114, 100, 115, 32, 50, 10, 116, 105, 101, 114, 32, 116, 101, 110, 115, 32, 101, 118, 101, 114, 121, 32, 49, 48, 32, 107, 101, 101, 112, 32, 49, 48, 48, 48, 32, 115, 104, 97, 114, 100, 115, 32, 49, 10] }
def smp15 : List SampV := [⟨{ data := #[97] }, 0, 4⟩]
def al0 : StX := stNewQ 100 (readV web8)
def al1 : StX := stPut al0 smp15
def al2 : StX := stChange al1 (readV web8)
def alS : Nat → StX
 | 0 => al2
 | k + 1 => stStep (alS k)
def kinds15 : List Int := [1, 1, 1, 2, 3]
theorem web8_read : (readV web8).1 = 0 := by decide +kernel
theorem al_new : stNewE 100 (readV web8) = 0 := by
 unfold stNewE
 rw [if_pos ⟨by decide, by decide⟩]
 exact web8_read
theorem al0_good : StGood al0 0 := stNew_good al_new
theorem al1_good : StGood al1 8 := al0_good.put (by decide) smp15
theorem al2_good : StGood al2 8 := al1_good.change (read_ok web8)
theorem al_put : stPutE al0 smp15 = 0 := by decide +kernel
theorem al_change : stChangeE al1 (readV web8) = 0 := by decide +kernel
theorem al_is : al2.ch.isSome = true := by decide +kernel
theorem al_steps : ∀ k, k < 5 → (stStepR (alS k)).2 = 0 ∧ kinds15[k]? = some (stStepR (alS k)).1.1 := by decide +kernel
theorem al_end : stStepR (alS 5) = ((0, 0, 0), 8) := by decide +kernel
theorem al_off : (alS 5).ch.isSome = false := by decide +kernel
theorem al_ask : askB { data := #[97] } 0 5 = true := by decide +kernel
theorem al_len : (askL (alS 5).X { data := #[97] } 0 5).length = 1 := by decide +kernel
theorem al_need : ((needX (alS 5).X : Nat) : Int) + boundO (alS 5).ch = 2 := by decide +kernel
theorem al_room : (alS 5).room = 100 := by decide +kernel
theorem stStep_off {Q : StX} (h : Q.ch.isSome = false) : stStep Q = Q := by
 unfold stStep
 cases hc : Q.ch with
 | none => rfl
 | some S => rw [hc] at h; cases h
theorem al_stay : ∀ k, alS (5 + k) = alS 5
 | 0 => rfl
 | k + 1 => by
  show stStep (alS (5 + k)) = alS 5
  rw [al_stay k, stStep_off al_off]
theorem al_six : alS 6 = alS 5 := al_stay 1
theorem al_stop {k : Nat} (h : 5 ≤ k) : alS (k + 1) = alS k := by
 obtain ⟨m, rfl⟩ : ∃ m, k = 5 + m := ⟨k - 5, by omega⟩
 rw [show 5 + m + 1 = 5 + (m + 1) by omega, al_stay, al_stay]
end Go.Proofs.YtkfdgodngbinlaaGreatDoor
