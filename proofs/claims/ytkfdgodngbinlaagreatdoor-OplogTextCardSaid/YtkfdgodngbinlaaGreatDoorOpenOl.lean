/- Ops of a log that came in. -/
import Derived.Test.YtkfdgodngbinlaaGreatDoorOpenRec
import Derived.Test.YtkfdgodngbinlaaGreatDoorOpAp
namespace Go.Proofs.YtkfdgodngbinlaaGreatDoor
set_option linter.all false
open Go.ChangeShapes Go.WideShapes Go.ChangeAt Go.RowKit

theorem dat_samps20 {w : World} {cs : List Value} (h : Dat Tryz.prog w 22 cs) : ∃ A n c, ∃ l : List SampV, cs = [.slice A n c] ∧ Rd w 3 A n (scells l) ∧ l.length = n ∧ n ≤ c ∧ c ≤ maxLen ∧ ∀ t ∈ l, t.wf :=
 h.rows_ SampV.cells SampV.wf Tryz.underlying22 (by kernel_rfl) (fun _ h => dat_samp h)
set_option maxRecDepth 100000 in
theorem dat_opl {w : World} {cs : List Value} (h : Dat Tryz.prog w 80 cs) : ∃ o : OpL, cs = o.cells ∧ o.ok w := by
 have hl := h.len_ Tryz.underlying80 (show Tryz.prog.cellsOf 80 = 3 by kernel_rfl)
 match cs, hl with
 | [c0, c1, c2], _ =>
  obtain ⟨k, h0, w0⟩ := (h.field_ Tryz.underlying80 0 0 1 rfl rfl (by kernel_rfl)).i64_ Tryz.underlying3
  obtain ⟨a, h1, w1⟩ := (h.field_ Tryz.underlying80 1 1 1 rfl rfl (by kernel_rfl)).i64_ Tryz.underlying3
  obtain ⟨A, n, c, l, h2, r1, r2, r3, r4, r5⟩ := dat_samps20 (h.field_ Tryz.underlying80 2 2 1 rfl rfl (by kernel_rfl))
  simp at h0 h1 h2
  subst h0 h1 h2
  exact ⟨⟨k, a, A, n, c, l⟩, rfl, w0, w1, r1, r2, r3, r4, r5⟩
theorem in_oplops {H : Type} {enc : TypeId × Value → H} {w : World} {A : Option Addr} {n c : Nat} {d : DataW H} {ps : List MemPlace} (h : DataW.Trod enc Tryz.prog w 0 (fun _ => true) true 78 (.slice A n c) d ps) :
  ∃ l : List OpL, Rd w 3 A n (olcells l) ∧ l.length = n ∧ n ≤ c ∧ c ≤ maxLen ∧ ∀ o ∈ l, o.ok w := by
 have h := Dat.of h
 simp only [Value.cells] at h
 obtain ⟨A', n', c', l, e, r1, r2, r3, r4, r5⟩ := Dat.rows_ (t := 78) OpL.cells (OpL.ok w) Tryz.underlying78 (show Tryz.prog.cellsOf 80 = 3 by kernel_rfl) (fun _ h => dat_opl h) h
 simp at e
 obtain ⟨rfl, rfl, rfl⟩ := e
 exact ⟨l, r1, r2, r3, r4, r5⟩
end Go.Proofs.YtkfdgodngbinlaaGreatDoor
