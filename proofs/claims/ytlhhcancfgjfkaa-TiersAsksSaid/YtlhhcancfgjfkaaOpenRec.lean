/- Records and samples that came in. -/
import Derived.Test.YtlhhcancfgjfkaaOpenB
import Derived.Test.YtlhhcancfgjfkaaSame
namespace Go.Proofs.Ytlhhcancfgjfkaa
set_option linter.all false
open Go.ChangeShapes Go.WideShapes Go.ChangeAt Go.RowKit

theorem dat_agg {w : World} {cs : List Value} (h : Dat Try.prog w 41 cs) : ∃ a : AggV, cs = a.cells ∧ a.wf := by
  have hl := h.len_ Try.underlying41 (show Try.prog.cellsOf 41 = 5 by kernel_rfl)
  match cs, hl with
  | [c0, c1, c2, c3, c4], _ =>
    obtain ⟨a, h0, w0⟩ := (h.field_ Try.underlying41 0 0 1 rfl rfl (by kernel_rfl)).i64_ Try.underlying3
    obtain ⟨b, h1, w1⟩ := (h.field_ Try.underlying41 1 1 1 rfl rfl (by kernel_rfl)).i64_ Try.underlying3
    obtain ⟨c, h2, w2⟩ := (h.field_ Try.underlying41 2 2 1 rfl rfl (by kernel_rfl)).u64_ Try.underlying34
    obtain ⟨d, h3, w3⟩ := (h.field_ Try.underlying41 3 3 1 rfl rfl (by kernel_rfl)).i64_ Try.underlying3
    obtain ⟨e, h4, w4⟩ := (h.field_ Try.underlying41 4 4 1 rfl rfl (by kernel_rfl)).i64_ Try.underlying3
    simp at h0 h1 h2 h3 h4
    subst h0 h1 h2 h3 h4
    exact ⟨⟨a, b, c, d, e⟩, rfl, w0, w1, w2, w3, w4⟩
theorem dat_rec {w : World} {cs : List Value} (h : Dat Try.prog w 43 cs) : ∃ r : RecV, cs = r.cells ∧ r.wf := by
  have hl := h.len_ Try.underlying43 (show Try.prog.cellsOf 43 = 7 by kernel_rfl)
  match cs, hl with
  | [c0, c1, c2, c3, c4, c5, c6], _ =>
    obtain ⟨s, h0, w0⟩ := (h.field_ Try.underlying43 0 0 1 rfl rfl (by kernel_rfl)).str_ Try.underlying9
    obtain ⟨a, h1, w1⟩ := (h.field_ Try.underlying43 1 1 1 rfl rfl (by kernel_rfl)).i64_ Try.underlying3
    obtain ⟨g, h2, w2⟩ := dat_agg (h.field_ Try.underlying43 2 2 5 rfl rfl (by kernel_rfl))
    simp at h0 h1
    subst h0 h1
    simp [AggV.cells] at h2
    obtain ⟨rfl, rfl, rfl, rfl, rfl⟩ := h2
    exact ⟨⟨s, a, g⟩, rfl, w1, w2, w0⟩
theorem dat_samp {w : World} {cs : List Value} (h : Dat Try.prog w 37 cs) : ∃ r : SampV, cs = r.cells ∧ r.wf := by
  have hl := h.len_ Try.underlying37 (show Try.prog.cellsOf 37 = 3 by kernel_rfl)
  match cs, hl with
  | [c0, c1, c2], _ =>
    obtain ⟨s, h0, w0⟩ := (h.field_ Try.underlying37 0 0 1 rfl rfl (by kernel_rfl)).str_ Try.underlying9
    obtain ⟨a, h1, w1⟩ := (h.field_ Try.underlying37 1 1 1 rfl rfl (by kernel_rfl)).i64_ Try.underlying3
    obtain ⟨b, h2, w2⟩ := (h.field_ Try.underlying37 2 2 1 rfl rfl (by kernel_rfl)).i64_ Try.underlying3
    simp at h0 h1 h2
    subst h0 h1 h2
    exact ⟨⟨s, a, b⟩, rfl, w1, w2, w0⟩
theorem in_recs {H : Type} {enc : TypeId × Value → H} {w : World} {A : Option Addr} {n c : Nat} {d : DataW H} {ps : List MemPlace} (h : DataW.Trod enc Try.prog w 0 (fun _ => true) true 38 (.slice A n c) d ps) :
    ∃ l : List RecV, Rd w 7 A n (rcells l) ∧ l.length = n ∧ n ≤ c ∧ c ≤ maxLen ∧ ∀ r ∈ l, r.wf := by
  have h := Dat.of h
  simp only [Value.cells] at h
  obtain ⟨A', n', c', l, e, r1, r2, r3, r4, r5⟩ := Dat.rows_ (t := 38) RecV.cells RecV.wf Try.underlying38 (show Try.prog.cellsOf 43 = 7 by kernel_rfl) (fun _ h => dat_rec h) h
  simp at e
  obtain ⟨rfl, rfl, rfl⟩ := e
  exact ⟨l, r1, r2, r3, r4, r5⟩
theorem in_samps {H : Type} {enc : TypeId × Value → H} {w : World} {A : Option Addr} {n c : Nat} {d : DataW H} {ps : List MemPlace} (h : DataW.Trod enc Try.prog w 0 (fun _ => true) true 22 (.slice A n c) d ps) :
    ∃ l : List SampV, Rd w 3 A n (scells l) ∧ l.length = n ∧ n ≤ c ∧ c ≤ maxLen ∧ ∀ r ∈ l, r.wf := by
  have h := Dat.of h
  simp only [Value.cells] at h
  obtain ⟨A', n', c', l, e, r1, r2, r3, r4, r5⟩ := Dat.rows_ (t := 22) SampV.cells SampV.wf Try.underlying22 (show Try.prog.cellsOf 37 = 3 by kernel_rfl) (fun _ h => dat_samp h) h
  simp at e
  obtain ⟨rfl, rfl, rfl⟩ := e
  exact ⟨l, r1, r2, r3, r4, r5⟩
end Go.Proofs.Ytlhhcancfgjfkaa
