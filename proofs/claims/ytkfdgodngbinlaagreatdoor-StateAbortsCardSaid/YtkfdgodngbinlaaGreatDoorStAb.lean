/- Plain laws of a change that is given up, of one that is brought to its end, of copies. -/
import Derived.Test.YtkfdgodngbinlaaGreatDoorStM
import Derived.Test.YtkfdgodngbinlaaGreatDoorStRun
namespace Go.Proofs.YtkfdgodngbinlaaGreatDoor
set_option linter.all false
open Go.RowKit

theorem stTick_ch (Q : StX) (n : Int) {S : ShX} (h : Q.ch = some S) : ∃ T, (stTick Q n).ch = some T ∧ T.done = S.done ∧ T.tiers = S.tiers := by
 unfold stTick
 split
 ·exact ⟨trimX (S.built (tickX Q.X n)) S, by show Q.ch.map _ = _; rw [h]; rfl, rfl, rfl⟩
 ·exact ⟨S, h, rfl, rfl⟩
theorem RmI.tick {Q : StX} {lt : List TierV} {k : Int} (h : RmI Q lt k) (n : Int) : RmI (stTick Q n) lt k := by
 refine ⟨fun hk => ?_, fun hk => ?_, h.2.2⟩
 ·obtain ⟨S, h1, h2, h3⟩ := h.1 hk
  obtain ⟨T, e1, e2, e3⟩ := stTick_ch Q n h1
  exact ⟨T, e1, e2.trans h2, e3.trans h3⟩
 ·unfold stTick
  split
  ·show Q.ch.map _ = none
   rw [h.2.1 hk]; rfl
  ·exact h.2.1 hk
theorem RmI.op {Q : StX} {lt : List TierV} {k : Int} (h : RmI Q lt k) (o : OpS) (ho : o.kind ≤ 2) : RmI (stOp Q o) lt k := by
 unfold stOp
 split
 ·exact h.put _
 split
 ·exact h.tick _
 rw [if_neg (by omega), if_neg (by omega), if_neg (by omega)]
 exact h
theorem RmI.keep {Q : StX} {lt : List TierV} {k : Int} (h : RmI Q lt k) (hk : k < stepsV lt - 1) : (stStep Q).X = Q.X ∧ (stStep Q).ch.isSome = true := by
 obtain ⟨S, h1, h2, h3⟩ := h.1 (by omega)
 unfold stStep
 rw [h1]
 simp only
 rw [if_neg (by rw [h2, h3]; omega)]
 exact ⟨rfl, rfl⟩
theorem RmI.is {Q : StX} {lt : List TierV} {k : Int} (h : RmI Q lt k) (hk : k < stepsV lt) : Q.ch.isSome = true := by
 obtain ⟨S, h1, _⟩ := h.1 hk
 rw [h1]; rfl
theorem change_ok {Q : StX} {R : Int × ByteArray × List TierV} (h : stChangeE Q R = 0) : Q.ch = none ∧ R.1 = 0 ∧ stChange Q R = { Q with ch := some (beginS Q.X R.2.1 R.2.2) } := by
 have h' := h
 unfold stChangeE at h
 cases hc : Q.ch with
 | some S => rw [hc] at h; cases h
 | none =>
  rw [hc] at h
  simp only at h
  refine ⟨rfl, ?_, by unfold stChange; rw [if_pos h']⟩
  by_cases hr : R.1 = 0
  ·exact hr
  ·rw [if_neg hr] at h; exact absurd h hr
theorem change_bad {Q : StX} {R : Int × ByteArray × List TierV} (h : stChangeE Q R ≠ 0) : stChange Q R = Q := by unfold stChange; rw [if_neg h]
theorem change_rm {Q : StX} {R : Int × ByteArray × List TierV} {c : Nat} (hg : StGood (stChange Q R) c) (h : stChangeE Q R = 0) : RmI (stChange Q R) R.2.2 0 ∧ (stChange Q R).X = Q.X ∧ (stChange Q R).room = Q.room ∧ 2 ≤ stepsV R.2.2 ∧ stepsV R.2.2 ≤ 42 := by
 obtain ⟨_, _, e⟩ := change_ok h
 have hs : (stChange Q R).ch = some (beginS Q.X R.2.1 R.2.2) := by rw [e]
 have h1 := RmI.start hg hs
 have h2 := steps_in (hg.ch _ hs).pol
 have e2 : (beginS Q.X R.2.1 R.2.2).tiers = R.2.2 := rfl
 rw [e2] at h2
 exact ⟨h1, by rw [e], by rw [e], by omega, h2.2.2⟩
structure AbI (Q C : StX) (lt : List TierV) (k : Int) : Prop where
 rm : RmI Q lt k
 X : Q.X = C.X
 room : Q.room = C.room
 off : C.ch = none
theorem AbI.step {Q C : StX} {lt : List TierV} {k : Int} (h : AbI Q C lt k) (hk : k < stepsV lt - 1) : AbI (stStep Q) C lt (k + 1) ∧ (stStepR Q).2 = 0 ∧ (stStep Q).ch.isSome = true := by
 obtain ⟨h1, h2⟩ := h.rm.step (by omega)
 obtain ⟨h3, h4⟩ := h.rm.keep hk
 exact ⟨⟨h1, h3.trans h.X, (stStep_room Q).trans h.room, h.off⟩, h2, h4⟩
theorem AbI.op {Q C : StX} {lt : List TierV} {k : Int} {c : Nat} (h : AbI Q C lt k) (hg : StGood Q c) (o : OpS) (ho : o.kind ≤ 2) :
  (sameX (stOp Q o).X Q.X = true → AbI (stOp Q o) C lt k) ∧ (sameX (stOp Q o).X Q.X = false → AbI (stOp Q o) (stOp C o) lt k) := by
 obtain ⟨h1, h2, h3, h4, h5, _⟩ := ab_op h.X h.room h.off hg.bound.1 o ho
 exact ⟨fun e => ⟨h.rm.op o ho, h4 e, h1.trans h.room, h.off⟩, fun e => ⟨h.rm.op o ho, h5 e, h1.trans (h.room.trans h2.symm), h3⟩⟩
theorem AbI.abort {Q C : StX} {lt : List TierV} {k : Int} (h : AbI Q C lt k) (hk : k < stepsV lt) : stAbortE Q = 0 ∧ sameSt (stAbort Q) C = true ∧ stAbortE (stAbort Q) = 8 := by
 obtain ⟨S, h1, _⟩ := h.rm.1 hk
 refine ⟨by unfold stAbortE; rw [h1], ?_, rfl⟩
 unfold sameSt
 have e1 : (stAbort Q).room = C.room := h.room
 have e2 : (stAbort Q).X = C.X := h.X
 have e3 : (stAbort Q).ch = none := rfl
 rw [e1, e2, e3, h.off, sameX_self]
 simp [alikeB]
theorem AbI.start {Q : StX} {R : Int × ByteArray × List TierV} {c : Nat} (hg : StGood (stChange Q R) c) (h : stChangeE Q R = 0) : AbI (stChange Q R) Q R.2.2 0 := by
 obtain ⟨h1, h2, h3, _⟩ := change_rm hg h
 exact ⟨h1, h2, h3, (change_ok h).1⟩
theorem RmI.cut {Q : StX} {lt : List TierV} {k : Int} {c : Nat} (h : RmI Q lt k) (hg : StGood Q c) (hk : k = stepsV lt - 1) : (stStepR Q).1.1 = 3 ∧ (stStepR Q).2 = 0 ∧ (stStep Q).ch = none := by
 obtain ⟨S, h1, h2, rfl⟩ := h.1 (by omega)
 have hp := (hg.ch S h1).pol
 have hst := steps_in hp
 refine ⟨?_, by unfold stStepR; rw [h1], ?_⟩
 ·unfold stStepR
  rw [h1]
  simp only
  rcases at_what hp.ck (done := S.done) (by rw [h2]; omega) (by rw [h2]; omega) with ⟨j, y, q, hy, hq, h3, h4, h5, hd⟩ | ⟨e, hd⟩ | ⟨e, hd⟩
  ·exfalso; omega
  ·exfalso; omega
  ·rw [e]
 ·unfold stStep
  rw [h1]
  simp only
  rw [if_pos (by rw [h2]; omega)]
theorem pend_same {Q C : StX} (h : Q.ch = none) (hc : C.ch.isSome = true) : sameSt Q C = false := by
 unfold sameSt
 rw [h]
 cases hC : C.ch with
 | none => rw [hC] at hc; cases hc
 | some S => simp [alikeB]
theorem pend_change {Q : StX} {R : Int × ByteArray × List TierV} (h : Q.ch.isSome = true) : stChangeE Q R = 21 ∧ stChange Q R = Q := by
 have hE : stChangeE Q R = 21 := by
  unfold stChangeE
  cases hc : Q.ch with
  | none => rw [hc] at h; cases h
  | some S => rfl
 exact ⟨hE, change_bad (by rw [hE]; decide)⟩
end Go.Proofs.YtkfdgodngbinlaaGreatDoor
