/- An oplog.Op that came in. -/
import Derived.Test.YtkickdmiilmkoaaGreatDoorOpenRec
namespace Go.Proofs.YtkickdmiilmkoaaGreatDoor
open Go.ChangeShapes Go.WideShapes Go.ChangeAt Go.RowKit

set_option maxRecDepth 100000 in
theorem dat_samps {w : World} {cs : List Value} (h : Dat Tryz.prog w 22 cs) : ∃ A n c, ∃ l : List SampV, cs = [.slice A n c] ∧ Rd w 3 A n (scells l) ∧ l.length = n ∧ n ≤ c ∧ c ≤ maxLen ∧ ∀ t ∈ l, t.wf :=
  Dat.rows_ (t := 22) SampV.cells SampV.wf Tryz.underlying22 (show Tryz.prog.cellsOf 82 = 3 by kernel_rfl) (fun _ h => dat_samp h) h
set_option maxRecDepth 100000 in
theorem in_op {H : Type} {enc : TypeId × Value → H} {w : World} {r : Reach} {b0 : Nat} {v : Value} {d : DataW H} {ps : List MemPlace} (hv : Value.okWide Tryz.prog w r b0 24 v) (h : DataW.Trod enc Tryz.prog w 0 (fun _ => true) true 24 v d ps) :
    ∃ k x A n c, ∃ l : List SampV, v = .agg #[.int .i64 k, .int .i64 x, .slice A n c] ∧ in64 k ∧ in64 x ∧ Rd w 3 A n (scells l) ∧ l.length = n ∧ n ≤ c ∧ c ≤ maxLen ∧ ∀ t ∈ l, t.wf := by
  obtain ⟨cs, rfl, hcs⟩ := okWide_agg Tryz.underlying24 hv
  have h := Dat.of h
  rw [hcs] at h
  have hl := h.len_ Tryz.underlying24 (show Tryz.prog.cellsOf 24 = 3 by kernel_rfl)
  clear hcs hv
  match cs, hl with
  | [c0, c1, c2], _ =>
    obtain ⟨k, h0, w0⟩ := (h.field_ Tryz.underlying24 0 0 1 rfl rfl (by kernel_rfl)).i64_ Tryz.underlying3
    obtain ⟨x, h1, w1⟩ := (h.field_ Tryz.underlying24 1 1 1 rfl rfl (by kernel_rfl)).i64_ Tryz.underlying3
    obtain ⟨A, n, c, l, h2, r1, r2, r3, r4, r5⟩ := dat_samps (h.field_ Tryz.underlying24 2 2 1 rfl rfl (by kernel_rfl))
    simp at h0 h1 h2
    subst h0 h1 h2
    exact ⟨k, x, A, n, c, l, rfl, w0, w1, r1, r2, r3, r4, r5⟩
end Go.Proofs.YtkickdmiilmkoaaGreatDoor
