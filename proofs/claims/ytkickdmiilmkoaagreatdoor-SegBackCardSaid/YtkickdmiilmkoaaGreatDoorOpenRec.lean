/- Records and samples that came in. -/
import Derived.Test.YtkickdmiilmkoaaGreatDoorOpenB
import Derived.Test.YtkickdmiilmkoaaGreatDoorRecC
namespace Go.Proofs.YtkickdmiilmkoaaGreatDoor
open Go.ChangeShapes Go.WideShapes Go.ChangeAt Go.RowKit

theorem dat_agg {w : World} {cs : List Value} (h : Dat Tryz.prog w 61 cs) : ∃ a : AggV, cs = a.cells ∧ a.wf := by
  have hl := h.len_ Tryz.underlying61 (show Tryz.prog.cellsOf 61 = 5 by kernel_rfl)
  match cs, hl with
  | [c0, c1, c2, c3, c4], _ =>
    obtain ⟨a, h0, w0⟩ := (h.field_ Tryz.underlying61 0 0 1 rfl rfl (by kernel_rfl)).i64_ Tryz.underlying3
    obtain ⟨b, h1, w1⟩ := (h.field_ Tryz.underlying61 1 1 1 rfl rfl (by kernel_rfl)).i64_ Tryz.underlying3
    obtain ⟨c, h2, w2⟩ := (h.field_ Tryz.underlying61 2 2 1 rfl rfl (by kernel_rfl)).u64_ Tryz.underlying59
    obtain ⟨d, h3, w3⟩ := (h.field_ Tryz.underlying61 3 3 1 rfl rfl (by kernel_rfl)).i64_ Tryz.underlying3
    obtain ⟨e, h4, w4⟩ := (h.field_ Tryz.underlying61 4 4 1 rfl rfl (by kernel_rfl)).i64_ Tryz.underlying3
    simp at h0 h1 h2 h3 h4
    subst h0 h1 h2 h3 h4
    exact ⟨⟨a, b, c, d, e⟩, rfl, w0, w1, w2, w3, w4⟩
theorem dat_rec {w : World} {cs : List Value} (h : Dat Tryz.prog w 63 cs) : ∃ r : RecV, cs = r.cells ∧ r.wf := by
  have hl := h.len_ Tryz.underlying63 (show Tryz.prog.cellsOf 63 = 7 by kernel_rfl)
  match cs, hl with
  | [c0, c1, c2, c3, c4, c5, c6], _ =>
    obtain ⟨s, h0, w0⟩ := (h.field_ Tryz.underlying63 0 0 1 rfl rfl (by kernel_rfl)).str_ Tryz.underlying9
    obtain ⟨a, h1, w1⟩ := (h.field_ Tryz.underlying63 1 1 1 rfl rfl (by kernel_rfl)).i64_ Tryz.underlying3
    obtain ⟨g, h2, w2⟩ := dat_agg (h.field_ Tryz.underlying63 2 2 5 rfl rfl (by kernel_rfl))
    simp at h0 h1
    subst h0 h1
    simp [AggV.cells] at h2
    obtain ⟨rfl, rfl, rfl, rfl, rfl⟩ := h2
    exact ⟨⟨s, a, g⟩, rfl, w1, w2, w0⟩
theorem dat_samp {w : World} {cs : List Value} (h : Dat Tryz.prog w 82 cs) : ∃ r : SampV, cs = r.cells ∧ r.wf := by
  have hl := h.len_ Tryz.underlying82 (show Tryz.prog.cellsOf 82 = 3 by kernel_rfl)
  match cs, hl with
  | [c0, c1, c2], _ =>
    obtain ⟨s, h0, w0⟩ := (h.field_ Tryz.underlying82 0 0 1 rfl rfl (by kernel_rfl)).str_ Tryz.underlying9
    obtain ⟨a, h1, w1⟩ := (h.field_ Tryz.underlying82 1 1 1 rfl rfl (by kernel_rfl)).i64_ Tryz.underlying3
    obtain ⟨b, h2, w2⟩ := (h.field_ Tryz.underlying82 2 2 1 rfl rfl (by kernel_rfl)).i64_ Tryz.underlying3
    simp at h0 h1 h2
    subst h0 h1 h2
    exact ⟨⟨s, a, b⟩, rfl, w1, w2, w0⟩
theorem in_recs {H : Type} {enc : TypeId × Value → H} {w : World} {A : Option Addr} {n c : Nat} {d : DataW H} {ps : List MemPlace} (h : DataW.Trod enc Tryz.prog w 0 (fun _ => true) true 49 (.slice A n c) d ps) :
    ∃ l : List RecV, Rd w 7 A n (rcells l) ∧ l.length = n ∧ n ≤ c ∧ c ≤ maxLen ∧ ∀ r ∈ l, r.wf := by
  have h := Dat.of h
  simp only [Value.cells] at h
  obtain ⟨A', n', c', l, e, r1, r2, r3, r4, r5⟩ := Dat.rows_ (t := 49) RecV.cells RecV.wf Tryz.underlying49 (show Tryz.prog.cellsOf 63 = 7 by kernel_rfl) (fun _ h => dat_rec h) h
  simp at e
  obtain ⟨rfl, rfl, rfl⟩ := e
  exact ⟨l, r1, r2, r3, r4, r5⟩
theorem in_samps {H : Type} {enc : TypeId × Value → H} {w : World} {A : Option Addr} {n c : Nat} {d : DataW H} {ps : List MemPlace} (h : DataW.Trod enc Tryz.prog w 0 (fun _ => true) true 22 (.slice A n c) d ps) :
    ∃ l : List SampV, Rd w 3 A n (scells l) ∧ l.length = n ∧ n ≤ c ∧ c ≤ maxLen ∧ ∀ r ∈ l, r.wf := by
  have h := Dat.of h
  simp only [Value.cells] at h
  obtain ⟨A', n', c', l, e, r1, r2, r3, r4, r5⟩ := Dat.rows_ (t := 22) SampV.cells SampV.wf Tryz.underlying22 (show Tryz.prog.cellsOf 82 = 3 by kernel_rfl) (fun _ h => dat_samp h) h
  simp at e
  obtain ⟨rfl, rfl, rfl⟩ := e
  exact ⟨l, r1, r2, r3, r4, r5⟩
end Go.Proofs.YtkickdmiilmkoaaGreatDoor
