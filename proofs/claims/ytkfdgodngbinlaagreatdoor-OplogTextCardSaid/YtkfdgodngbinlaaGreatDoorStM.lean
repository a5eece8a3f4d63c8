/- StateRoom's plain law: a change comes to its end in as many steps as its plan says. -/
import Derived.Test.YtkfdgodngbinlaaGreatDoorStQ
import Derived.Test.YtkfdgodngbinlaaGreatDoorStRun
import Derived.Test.YtkfdgodngbinlaaGreatDoorWeb8
namespace Go.Proofs.YtkfdgodngbinlaaGreatDoor
set_option linter.all false
open Go.RowKit

theorem rm_new {room : Int} (h : 0 ≤ room ∧ room ≤ 60) : stNewE room (readV web8) = 0 := by
 unfold stNewE
 rw [if_pos ⟨h.1, by omega⟩]
 exact web8_read
def RmI (Q : StX) (lt : List TierV) (k : Int) : Prop := (k < stepsV lt → ∃ S, Q.ch = some S ∧ S.done = k ∧ S.tiers = lt) ∧ (k = stepsV lt → Q.ch = none) ∧ k ≤ stepsV lt
theorem RmI.start {Q : StX} {c : Nat} (h : StGood Q c) {S : ShX} (hs : Q.ch = some S) : RmI Q S.tiers S.done := by
 have h1 := (h.ch S hs).done
 exact ⟨fun _ => ⟨S, hs, rfl, rfl⟩, fun h2 => by omega, by omega⟩
theorem RmI.put {Q : StX} {lt : List TierV} {k : Int} (h : RmI Q lt k) (s : List SampV) : RmI (stPut Q s) lt k := by
 unfold stPut
 split
 ·refine ⟨fun hk => ?_, fun hk => ?_, h.2.2⟩
  ·obtain ⟨S, h1, h2, h3⟩ := h.1 hk
   exact ⟨S.noted (putX Q.X s) s, by show Q.ch.map _ = _; rw [h1]; rfl, h2, h3⟩
  ·show Q.ch.map _ = none
   rw [h.2.1 hk]; rfl
 ·exact h
theorem RmI.step {Q : StX} {lt : List TierV} {k : Int} (h : RmI Q lt k) (hk : k < stepsV lt) : RmI (stStep Q) lt (k + 1) ∧ (stStepR Q).2 = 0 := by
 obtain ⟨S, h1, h2, h3⟩ := h.1 hk
 unfold stStep stStepR
 rw [h1]
 refine ⟨?_, rfl⟩
 simp only
 by_cases hd : S.done = stepsV S.tiers - 1
 ·rw [if_pos hd]
  rw [h2, h3] at hd
  exact ⟨fun hk => by omega, fun _ => rfl, by omega⟩
 ·rw [if_neg hd]
  rw [h2, h3] at hd
  exact ⟨fun _ => ⟨_, rfl, by show S.done + 1 = k + 1; omega, h3⟩, fun hk => by omega, by omega⟩
section
variable {W W' : World} {g lo : Nat} {Q : StX} {c : Nat}
end
theorem ch_facts {Q : StX} {c : Nat} (h : StGood Q c) (hc : c ≤ 1000000) {S : ShX} (hs : Q.ch = some S) : S.tiers.length ≤ 1000 ∧ (∀ l ∈ S.tabs, l.length ≤ 1000000) ∧ ∀ x ∈ S.tiers, x.shards ≤ 8 := by
 have hk := h.ch S hs
 obtain ⟨o, ho⟩ := hk.ok
 have h1 := ho.lens h.pol hk.pol h.good (h.hfl hc)
 have h2 := check_len hk.pol.ck
 exact ⟨by omega, fun l hl => by have := h1 l hl; omega, fun x hx => (check_mem hk.pol.ck hx).2.2.2.2.2⟩
end Go.Proofs.YtkfdgodngbinlaaGreatDoor
