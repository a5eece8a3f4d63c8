/- Steps of a state one behind the other; likeness of states: plain laws. -/
import Derived.Test.YtkfdgodngbinlaaGreatDoorShNote
import Derived.Test.YtkfdgodngbinlaaGreatDoorOpenRec
import Derived.Test.YtkfdgodngbinlaaGreatDoorRefGrid
import Derived.Test.YtkfdgodngbinlaaGreatDoorTiersSame
namespace Go.Proofs.YtkfdgodngbinlaaGreatDoor
set_option linter.all false
open Go.RowKit

def stOp (Q : StX) (o : OpS) : StX :=
 if o.kind = 1 then stPut Q o.sl else if o.kind = 2 then stTick Q o.n else if o.kind = 3 then stChange Q (readV o.text) else if o.kind = 4 then stStep Q else if o.kind = 5 then stAbort Q else Q
theorem check_pol {nm : ByteArray} {l : List TierV} (h : checkB nm l = true) : PolOk nm l ∧ nm.size ≤ maxLen := by
 refine ⟨⟨h, fun t ht => ?_⟩, ?_⟩
 ·have hm := check_mem h ht
  obtain ⟨i, hi⟩ := List.getElem?_of_mem ht
  have hf := check_fits h hi
  have hn : validB t.name = true := by
   cases hv : validB t.name
   ·unfold fitsT TierV.ok at hf
    simp [hv] at hf
   ·rfl
  have := validB_le hn
  unfold TierV.wf i64 maxLen
  omega
 ·have hn : validB nm = true := by
   cases hv : validB nm
   ·unfold checkB at h
    simp [hv] at h
   ·rfl
  have := validB_le hn
  unfold maxLen
  omega
theorem read_ok (text : ByteArray) : ReadOk (readV text) := by
 unfold ReadOk readV
 obtain ⟨e, a, nm, l⟩ := parseV text
 simp only
 by_cases he : e = 0
 ·rw [if_pos he]
  by_cases hc : checkB nm l = true
  ·rw [if_pos hc]
   intro _
   exact check_pol hc
  ·rw [if_neg hc]
   intro h
   exact absurd h (by decide)
 ·rw [if_neg he]
  intro h
  exact absurd h he
def alikeB : Option ShX → Option ShX → Bool
 | none, none => true
 | some S, some T => ((decide (S.name = T.name) && decide (S.tiers = T.tiers)) && (decide (S.srcs = T.srcs) && (decide (S.bound = T.bound) && decide (S.done = T.done)))) && (List.range S.tiers.length).all fun i => decide (S.tabs.getD i [] = T.tabs.getD i [])
 | _, _ => false
def sameSt (Q R : StX) : Bool := decide (Q.room = R.room) && (sameX Q.X R.X && alikeB Q.ch R.ch)
theorem alikeB_self (o : Option ShX) : alikeB o o = true := by
 cases o with
 | none => rfl
 | some S => unfold alikeB; simp
theorem sameSt_self (Q : StX) : sameSt Q Q = true := by unfold sameSt; rw [sameX_self, alikeB_self]; simp
theorem StGood.op {Q : StX} {c : Nat} (h : StGood Q c) (hc : c ≤ 1000000) (o : OpS) : StGood (stOp Q o) (c + 8) := by
 unfold stOp
 split
 ·exact h.put hc _
 split
 ·exact (h.tick hc _).more (by omega)
 split
 ·exact (h.change (read_ok _)).more (by omega)
 split
 ·exact h.step hc
 split
 ·exact h.abort.more (by omega)
 ·exact h.more (by omega)
end Go.Proofs.YtkfdgodngbinlaaGreatDoor
