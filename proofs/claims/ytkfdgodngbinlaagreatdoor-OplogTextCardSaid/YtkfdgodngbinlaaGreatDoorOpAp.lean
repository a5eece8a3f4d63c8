/- Ops of a log done to a state: what they come to; how a list of them lies. -/
import Derived.Test.YtkfdgodngbinlaaGreatDoorSts
import Derived.Test.YtkfdgodngbinlaaGreatDoorOplogB
namespace Go.Proofs.YtkfdgodngbinlaaGreatDoor
set_option linter.all false
open Go.RowKit

structure OpL where
 kind : Int
 n : Int
 sa : Option Addr
 sn : Nat
 sc : Nat
 sl : List SampV
def OpL.cells (o : OpL) : List Value := [.int .i64 o.kind, .int .i64 o.n, .slice o.sa o.sn o.sc]
def olcells (l : List OpL) : List Value := l.flatMap OpL.cells
structure OpL.ok (w : World) (o : OpL) : Prop where
 kind : in64 o.kind
 n : in64 o.n
 s : Rd w 3 o.sa o.sn (scells o.sl)
 slen : o.sl.length = o.sn
 sle : o.sn ≤ o.sc
 smax : o.sc ≤ maxLen
 swf : ∀ x ∈ o.sl, x.wf
theorem opL_cells (o : OpL) : o.cells.length = 3 := rfl
theorem OpL.ok.below {w w' : World} {o : OpL} (h : o.ok w) (b : Below w.heap.size w w') : o.ok w' := ⟨h.kind, h.n, h.s.below b, h.slen, h.sle, h.smax, h.swf⟩
theorem Rd.opL {w : World} {n k : Nat} {A : Option Addr} {l : List OpL} (h : Rd w 3 A n (olcells l)) (hk : k < n) :
  ∃ ad o, A = some ad ∧ l[k]? = some o ∧ w.cell? (ad.add (k * 3)) = some (.int .i64 o.kind) ∧ w.cell? ⟨(ad.add (k * 3)).block, (ad.add (k * 3)).off + 1, none⟩ = some (.int .i64 o.n) ∧ w.cell? ⟨(ad.add (k * 3)).block, (ad.add (k * 3)).off + 2, none⟩ = some (.slice o.sa o.sn o.sc) := by
 obtain ⟨ad, s, e, hr, hc⟩ := Rd.elem opL_cells h hk (by decide)
 refine ⟨ad, s, e, hr, ?_, ?_, ?_⟩
 ·have := hc 0 _ rfl; rwa [addr_zero] at this
 ·have := hc 1 _ rfl; rwa [add_pos _ _ (by decide)] at this
 ·have := hc 2 _ rfl; rwa [add_pos _ _ (by decide)] at this
theorem Rd.opL_len {w : World} {n : Nat} {A : Option Addr} {l : List OpL} (h : Rd w 3 A n (olcells l)) : l.length = n := Rd.elems_len opL_cells (by decide) h
def one1 (Q : StX) (k n : Int) (s : List SampV) : Int × StX := if k = 1 then (stPutE Q s, stPut Q s) else (tickE Q.X n, stTick Q n)
def op1 (Q : StX) (o : OpL) : Int × StX := if opOk o.kind o.n o.sl = true then one1 Q o.kind o.n o.sl else (1, Q)
def apL : List OpL → StX → Nat × Int × StX
 | [], Q => (0, 0, Q)
 | o :: l, Q => if (op1 Q o).1 = 0 then ((apL l (op1 Q o).2).1 + 1, (apL l (op1 Q o).2).2) else (0, (op1 Q o).1, (op1 Q o).2)
theorem apL_all : ∀ {l : List OpL} {Q : StX}, (apL l Q).2.1 = 0 → (apL l Q).1 = l.length
 | [], _, _ => rfl
 | o :: l, Q, h => by
  unfold apL at h ⊢
  split
  ·rename_i h1
   rw [if_pos h1] at h
   rw [List.length_cons]
   show (apL l (op1 Q o).2).1 + 1 = _
   rw [apL_all h]
  ·rename_i h1
   rw [if_neg h1] at h
   exact absurd h h1
theorem apL_append : ∀ (l m : List OpL) (Q : StX), apL (l ++ m) Q = if (apL l Q).2.1 = 0 then ((apL m (apL l Q).2.2).1 + l.length, (apL m (apL l Q).2.2).2) else apL l Q
 | [], m, Q => by
  show apL m Q = _
  rw [if_pos (show (apL [] Q).2.1 = 0 from rfl)]
  rfl
 | o :: l, m, Q => by
  rw [List.cons_append]
  by_cases h1 : (op1 Q o).1 = 0
  ·have e1 : ∀ x, apL (o :: x) Q = ((apL x (op1 Q o).2).1 + 1, (apL x (op1 Q o).2).2) := fun x => by
    rw [apL, if_pos h1]
   rw [e1, e1, apL_append l m]
   by_cases h2 : (apL l (op1 Q o).2).2.1 = 0
   ·rw [if_pos h2, if_pos h2, List.length_cons]
    simp only [Prod.mk.injEq, and_true]
    omega
   ·rw [if_neg h2, if_neg h2]
  ·have e1 : ∀ x, apL (o :: x) Q = (0, (op1 Q o).1, (op1 Q o).2) := fun x => by
    rw [apL, if_neg h1]
   rw [e1, e1, if_neg h1]
theorem apL_snoc {l : List OpL} {k : Nat} {o : OpL} {Q : StX} (hk : l[k]? = some o) (h : (apL (l.take k) Q).2.1 = 0) : apL (l.take (k + 1)) Q = if (op1 (apL (l.take k) Q).2.2 o).1 = 0 then (k + 1, 0, (op1 (apL (l.take k) Q).2.2 o).2) else (k, op1 (apL (l.take k) Q).2.2 o) := by
 have hkl := (List.getElem?_eq_some_iff.1 hk).1
 rw [take_snoc hk, apL_append, if_pos h, List.length_take, Nat.min_eq_left (Nat.le_of_lt hkl)]
 by_cases h1 : (op1 (apL (l.take k) Q).2.2 o).1 = 0
 ·have e : apL [o] (apL (l.take k) Q).2.2 = (1, 0, (op1 (apL (l.take k) Q).2.2 o).2) := by rw [apL, if_pos h1]; rfl
  rw [if_pos h1, e, Nat.add_comm]
 ·have e : apL [o] (apL (l.take k) Q).2.2 = (0, op1 (apL (l.take k) Q).2.2 o) := by rw [apL, if_neg h1]
  rw [if_neg h1, e, Nat.zero_add]
theorem apL_stop {l : List OpL} {k : Nat} {o : OpL} {Q : StX} (hk : l[k]? = some o) (h : (apL (l.take k) Q).2.1 = 0) (h1 : (op1 (apL (l.take k) Q).2.2 o).1 ≠ 0) : apL l Q = (k, op1 (apL (l.take k) Q).2.2 o) := by
 have e := apL_snoc hk h
 rw [if_neg h1] at e
 have e2 := apL_append (l.take (k + 1)) (l.drop (k + 1)) Q
 rw [List.take_append_drop, e, if_neg h1] at e2
 exact e2
end Go.Proofs.YtkfdgodngbinlaaGreatDoor
