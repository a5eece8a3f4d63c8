/- StateRoom's plain law: a change comes to its end in as many steps as its plan says. -/
import Derived.Test.YtkfdgodngbinlaaGreatDoorStQ
import Derived.Test.YtkfdgodngbinlaaGreatDoorStRun
import Derived.Test.YtkfdgodngbinlaaGreatDoorWeb8
namespace Go.Proofs.YtkfdgodngbinlaaGreatDoor
set_option linter.all false
open Go.RowKit

theorem rm_new {room : Int} (h : 0 ≤ room ∧ room ≤ 60) : stNewE room (readV web8) = 0 := by
 unfold stNewE
 rw [if_pos ⟨h.1, by omega⟩]
 exact web8_read
theorem stPut_room (Q : StX) (s : List SampV) : (stPut Q s).room = Q.room := by
 unfold stPut
 split <;> rfl
theorem stTick_room (Q : StX) (n : Int) : (stTick Q n).room = Q.room := by
 unfold stTick
 split <;> rfl
theorem stChange_room (Q : StX) (R : Int × ByteArray × List TierV) : (stChange Q R).room = Q.room := by
 unfold stChange
 split <;> rfl
theorem stStep_room (Q : StX) : (stStep Q).room = Q.room := by
 unfold stStep
 split
 ·rfl
 ·split <;> rfl
theorem stOp_room (Q : StX) (o : OpS) : (stOp Q o).room = Q.room := by
 unfold stOp
 split
 ·exact stPut_room _ _
 split
 ·exact stTick_room _ _
 split
 ·exact stChange_room _ _
 split
 ·exact stStep_room _
 split <;> rfl
theorem stRun_room (Q : StX) (l : List OpS) : (stRun Q l).room = Q.room := by
 unfold stRun
 induction l generalizing Q with
 | nil => rfl
 | cons o l ih => rw [List.foldl_cons, ih, stOp_room]
theorem stRun_good {Q : StX} {c : Nat} (h : StGood Q c) : ∀ (l : List OpS), c + 8 * l.length ≤ 1000000 → StGood (stRun Q l) (c + 8 * l.length) := by
 intro l
 induction l generalizing Q c with
 | nil => intro _; exact h
 | cons o l ih =>
  intro hc
  rw [List.length_cons] at hc ⊢
  have := ih (h.op (by omega) o) (by omega)
  rw [show c + 8 * (l.length + 1) = c + 8 + 8 * l.length by omega]
  exact this
def RmI (Q : StX) (lt : List TierV) (k : Int) : Prop := (k < stepsV lt → ∃ S, Q.ch = some S ∧ S.done = k ∧ S.tiers = lt) ∧ (k = stepsV lt → Q.ch = none) ∧ k ≤ stepsV lt
theorem RmI.start {Q : StX} {c : Nat} (h : StGood Q c) {S : ShX} (hs : Q.ch = some S) : RmI Q S.tiers S.done := by
 have h1 := (h.ch S hs).done
 exact ⟨fun _ => ⟨S, hs, rfl, rfl⟩, fun h2 => by omega, by omega⟩
theorem RmI.put {Q : StX} {lt : List TierV} {k : Int} (h : RmI Q lt k) (s : List SampV) : RmI (stPut Q s) lt k := by
 unfold stPut
 split
 ·refine ⟨fun hk => ?_, fun hk => ?_, h.2.2⟩
  ·obtain ⟨S, h1, h2, h3⟩ := h.1 hk
   exact ⟨S.noted (putX Q.X s) s, by show Q.ch.map _ = _; rw [h1]; rfl, h2, h3⟩
  ·show Q.ch.map _ = none
   rw [h.2.1 hk]; rfl
 ·exact h
theorem RmI.step {Q : StX} {lt : List TierV} {k : Int} (h : RmI Q lt k) (hk : k < stepsV lt) : RmI (stStep Q) lt (k + 1) ∧ (stStepR Q).2 = 0 := by
 obtain ⟨S, h1, h2, h3⟩ := h.1 hk
 unfold stStep stStepR
 rw [h1]
 refine ⟨?_, rfl⟩
 simp only
 by_cases hd : S.done = stepsV S.tiers - 1
 ·rw [if_pos hd]
  rw [h2, h3] at hd
  exact ⟨fun hk => by omega, fun _ => rfl, by omega⟩
 ·rw [if_neg hd]
  rw [h2, h3] at hd
  exact ⟨fun _ => ⟨_, rfl, by show S.done + 1 = k + 1; omega, h3⟩, fun hk => by omega, by omega⟩
section
variable {W W' : World} {g lo : Nat} {Q : StX} {c : Nat}
theorem sp_shadow (hg : StGood Q c) (h : StP W g lo Q c) :
  Calls Tryz.prog 25 #[.pointer (some ⟨g, 0, none⟩)] W fun r w' => ((Q.ch = none → r = .returned (.pointer none)) ∧ (∀ S, Q.ch = some S → ∃ s base F', r = .returned (.pointer (some ⟨s, 0, none⟩)) ∧ ShOn w' s base S F' ∧ ∀ j, F' j → W.heap.size ≤ j)) ∧ Below W.heap.size W w' := by
 obtain ⟨F, h⟩ := h
 refine (stshadow_any hg h 0 (by omega)).mono ?_
 rintro r w' ⟨⟨v, F', rfl, h1, h2⟩, hb⟩
 refine ⟨⟨fun he => ?_, fun S he => ?_⟩, hb⟩
 ·rw [he] at h1
  obtain ⟨rfl, _⟩ := h1
  rfl
 ·rw [he] at h1
  obtain ⟨s, base, _, rfl, h3⟩ := h1
  exact ⟨s, base, F', rfl, h3, h2⟩
end
theorem ch_bound {Q : StX} {c : Nat} (h : StGood Q c) {S : ShX} (hs : Q.ch = some S) : ((sneedX S : Nat) : Int) ≤ S.bound := by
 have hk := h.ch S hs
 obtain ⟨o, ho⟩ := hk.ok
 have h1 := sneed_le h.good ho
 have h2 := hk.fits
 unfold ShX.built at h2
 rw [ho.src] at h2
 rw [ho.name, ho.tiers] at h2
 omega
theorem ch_facts {Q : StX} {c : Nat} (h : StGood Q c) (hc : c ≤ 1000000) {S : ShX} (hs : Q.ch = some S) : S.tiers.length ≤ 1000 ∧ (∀ l ∈ S.tabs, l.length ≤ 1000000) ∧ ∀ x ∈ S.tiers, x.shards ≤ 8 := by
 have hk := h.ch S hs
 obtain ⟨o, ho⟩ := hk.ok
 have h1 := ho.lens h.pol hk.pol h.good (h.hfl hc)
 have h2 := check_len hk.pol.ck
 exact ⟨by omega, fun l hl => by have := h1 l hl; omega, fun x hx => (check_mem hk.pol.ck hx).2.2.2.2.2⟩
theorem need_room {Q : StX} {c : Nat} (h : StGood Q c) : ((needX Q.X : Nat) : Int) + boundO Q.ch ≤ Q.room := h.need
end Go.Proofs.YtkfdgodngbinlaaGreatDoor
