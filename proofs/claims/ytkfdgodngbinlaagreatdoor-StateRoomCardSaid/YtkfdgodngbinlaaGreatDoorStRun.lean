/- Steps of a state one behind the other; likeness of states: plain laws. -/
import Derived.Test.YtkfdgodngbinlaaGreatDoorShNote
import Derived.Test.YtkfdgodngbinlaaGreatDoorOpenRec
import Derived.Test.YtkfdgodngbinlaaGreatDoorRefGrid
import Derived.Test.YtkfdgodngbinlaaGreatDoorTiersSame
namespace Go.Proofs.YtkfdgodngbinlaaGreatDoor
set_option linter.all false
open Go.RowKit

def stOp (Q : StX) (o : OpS) : StX :=
 if o.kind = 1 then stPut Q o.sl else if o.kind = 2 then stTick Q o.n else if o.kind = 3 then stChange Q (readV o.text) else if o.kind = 4 then stStep Q else if o.kind = 5 then stAbort Q else Q
def stRun (Q : StX) (l : List OpS) : StX := l.foldl stOp Q
theorem stRun_snoc (Q : StX) (l : List OpS) (o : OpS) : stRun Q (l ++ [o]) = stOp (stRun Q l) o := by unfold stRun; rw [List.foldl_append]; rfl
theorem check_pol {nm : ByteArray} {l : List TierV} (h : checkB nm l = true) : PolOk nm l ∧ nm.size ≤ maxLen := by
 refine ⟨⟨h, fun t ht => ?_⟩, ?_⟩
 ·have hm := check_mem h ht
  obtain ⟨i, hi⟩ := List.getElem?_of_mem ht
  have hf := check_fits h hi
  have hn : validB t.name = true := by
   cases hv : validB t.name
   ·unfold fitsT TierV.ok at hf
    simp [hv] at hf
   ·rfl
  have := validB_le hn
  unfold TierV.wf i64 maxLen
  omega
 ·have hn : validB nm = true := by
   cases hv : validB nm
   ·unfold checkB at h
    simp [hv] at h
   ·rfl
  have := validB_le hn
  unfold maxLen
  omega
theorem read_ok (text : ByteArray) : ReadOk (readV text) := by
 unfold ReadOk readV
 obtain ⟨e, a, nm, l⟩ := parseV text
 simp only
 by_cases he : e = 0
 ·rw [if_pos he]
  by_cases hc : checkB nm l = true
  ·rw [if_pos hc]
   intro _
   exact check_pol hc
  ·rw [if_neg hc]
   intro h
   exact absurd h (by decide)
 ·rw [if_neg he]
  intro h
  exact absurd h he
def alikeB : Option ShX → Option ShX → Bool
 | none, none => true
 | some S, some T => ((decide (S.name = T.name) && decide (S.tiers = T.tiers)) && (decide (S.srcs = T.srcs) && (decide (S.bound = T.bound) && decide (S.done = T.done)))) && (List.range S.tiers.length).all fun i => decide (S.tabs.getD i [] = T.tabs.getD i [])
 | _, _ => false
def sameSt (Q R : StX) : Bool := decide (Q.room = R.room) && (sameX Q.X R.X && alikeB Q.ch R.ch)
theorem alikeB_self (o : Option ShX) : alikeB o o = true := by
 cases o with
 | none => rfl
 | some S => unfold alikeB; simp
theorem sameSt_self (Q : StX) : sameSt Q Q = true := by unfold sameSt; rw [sameX_self, alikeB_self]; simp
theorem StGood.op {Q : StX} {c : Nat} (h : StGood Q c) (hc : c ≤ 1000000) (o : OpS) : StGood (stOp Q o) (c + 8) := by
 unfold stOp
 split
 ·exact h.put hc _
 split
 ·exact (h.tick hc _).more (by omega)
 split
 ·exact (h.change (read_ok _)).more (by omega)
 split
 ·exact h.step hc
 split
 ·exact h.abort.more (by omega)
 ·exact h.more (by omega)
theorem sameX_eq {X Y : TiersX} (h : sameX X Y = true) (hf : X.floors = Y.floors) : X = Y := by
 unfold sameX at h
 simp only [Bool.and_eq_true, decide_eq_true_eq] at h
 obtain ⟨⟨h1, h2⟩, h3, _, h5⟩ := h
 obtain ⟨a, b, c, d, e⟩ := X
 obtain ⟨a', b', c', d', e'⟩ := Y
 simp only at h1 h2 h3 h5 hf
 subst h1 h2 h3 h5 hf
 rfl
theorem ab_op {Q C : StX} (hX : Q.X = C.X) (hr : Q.room = C.room) (hc : C.ch = none) (hb : 0 ≤ boundO Q.ch) (o : OpS) (hk : o.kind ≤ 2) :
  (stOp Q o).room = Q.room ∧ (stOp C o).room = C.room ∧ (stOp C o).ch = none ∧ (sameX (stOp Q o).X Q.X = true → (stOp Q o).X = C.X) ∧ (sameX (stOp Q o).X Q.X = false → (stOp Q o).X = (stOp C o).X) ∧ ((stOp Q o).ch.isSome = Q.ch.isSome) := by
 unfold stOp
 by_cases h1 : o.kind = 1
 ·simp only [if_pos h1]
  have hC : stPutE Q o.sl = 0 → stPutE C o.sl = 0 := by
   intro h
   unfold stPutE at h ⊢
   rw [← hX]
   by_cases hp : putE Q.X o.sl = 0
   ·rw [if_pos hp] at h ⊢
    have hR : roomB Q (putX Q.X o.sl) = true := by
     cases hr : roomB Q (putX Q.X o.sl)
     ·rw [hr] at h; cases h
     ·rfl
    have r1 := (roomB_parts hR).1
    have : roomB C (putX Q.X o.sl) = true := by
     unfold roomB
     rw [hc, ← hr]
     show (decide (_ + (0 : Int) ≤ _) && true) = true
     rw [Bool.and_true, decide_eq_true_eq]
     omega
    rw [this]
    rfl
   ·rw [if_neg hp] at h
    exact absurd h hp
  unfold stPut
  refine ⟨by split <;> rfl, by split <;> rfl, by split <;> simp [hc], ?_, ?_, ?_⟩
  ·by_cases hE : stPutE Q o.sl = 0
   ·rw [if_pos hE]
    intro h
    rw [← hX]
    exact sameX_eq h (putX_parts Q.X o.sl).2.2.1
   ·rw [if_neg hE]
    intro _
    exact hX
  ·by_cases hE : stPutE Q o.sl = 0
   ·rw [if_pos hE, if_pos (hC hE)]
    intro _
    show putX Q.X o.sl = putX C.X o.sl
    rw [hX]
   ·rw [if_neg hE]
    intro h
    rw [sameX_self] at h
    cases h
  ·split
   ·cases Q.ch <;> rfl
   ·rfl
 ·simp only [if_neg h1]
  by_cases h2 : o.kind = 2
  ·simp only [if_pos h2]
   unfold stTick
   refine ⟨by split <;> rfl, by split <;> rfl, by split <;> simp [hc], ?_, ?_, ?_⟩
   ·by_cases hE : tickE Q.X o.n = 0
    ·rw [if_pos hE]
     intro h
     rw [← hX]
     exact sameX_eq h (tickX_parts Q.X o.n).2.2
    ·rw [if_neg hE]
     intro _
     exact hX
   ·by_cases hE : tickE Q.X o.n = 0
    ·rw [if_pos hE, if_pos (hX ▸ hE)]
     intro _
     show tickX Q.X o.n = tickX C.X o.n
     rw [hX]
    ·rw [if_neg hE]
     intro h
     rw [sameX_self] at h
     cases h
   ·split
    ·cases Q.ch <;> rfl
    ·rfl
  ·simp only [if_neg h2, if_neg (show ¬ o.kind = 3 by omega), if_neg (show ¬ o.kind = 4 by omega), if_neg (show ¬ o.kind = 5 by omega)]
   refine ⟨by trivial, by trivial, hc, fun _ => hX, fun h => ?_, by trivial⟩
   rw [sameX_self] at h
   cases h
end Go.Proofs.YtkfdgodngbinlaaGreatDoor
