/- An api.Policy that came in. -/
import Derived.Test.YtbblmmneeafhgaaGreatOpenRec
import Derived.Test.YtbblmmneeafhgaaGreatBound
import Derived.Test.YtbblmmneeafhgaaGreatOpC
namespace Go.Proofs.YtbblmmneeafhgaaGreat
set_option linter.all false
open Go.ChangeShapes Go.WideShapes Go.ChangeAt Go.RowKit

set_option maxRecDepth 100000 in
theorem dat_tier {w : World} {cs : List Value} (h : Dat Tryz.prog w 90 cs) : ∃ t : TierV, cs = t.cells ∧ t.wf := by
 have hl := h.len_ Tryz.underlying90 (show Tryz.prog.cellsOf 90 = 4 by kernel_rfl)
 match cs, hl with
 | [c0, c1, c2, c3], _ =>
  obtain ⟨s, h0, w0⟩ := (h.field_ Tryz.underlying90 0 0 1 rfl rfl (by kernel_rfl)).str_ Tryz.underlying9
  obtain ⟨a, h1, w1⟩ := (h.field_ Tryz.underlying90 1 1 1 rfl rfl (by kernel_rfl)).i64_ Tryz.underlying3
  obtain ⟨b, h2, w2⟩ := (h.field_ Tryz.underlying90 2 2 1 rfl rfl (by kernel_rfl)).i64_ Tryz.underlying3
  obtain ⟨c, h3, w3⟩ := (h.field_ Tryz.underlying90 3 3 1 rfl rfl (by kernel_rfl)).i64_ Tryz.underlying3
  simp at h0 h1 h2 h3
  subst h0 h1 h2 h3
  exact ⟨⟨s, a, b, c⟩, rfl, w1, w2, w3, w0⟩
theorem dat_tiers {w : World} {cs : List Value} (h : Dat Tryz.prog w 22 cs) : ∃ A n c, ∃ l : List TierV, cs = [.slice A n c] ∧ Rd w 4 A n (tcells l) ∧ l.length = n ∧ n ≤ c ∧ c ≤ maxLen ∧ ∀ t ∈ l, t.wf :=
 h.rows_ TierV.cells TierV.wf Tryz.underlying22 (by kernel_rfl) (fun _ h => dat_tier h)
set_option maxRecDepth 100000 in
theorem in_policy {H : Type} {enc : TypeId × Value → H} {w : World} {r : Reach} {b0 : Nat} {v : Value} {d : DataW H} {ps : List MemPlace} (hv : Value.okWide Tryz.prog w r b0 24 v) (h : DataW.Trod enc Tryz.prog w 0 (fun _ => true) true 24 v d ps) :
  ∃ nm A n c, ∃ l : List TierV, v = polV nm A n c ∧ nm.size ≤ maxLen ∧ Rd w 4 A n (tcells l) ∧ l.length = n ∧ n ≤ c ∧ c ≤ maxLen ∧ ∀ t ∈ l, t.wf := by
 obtain ⟨cs, rfl, hcs⟩ := okWide_agg Tryz.underlying24 hv
 have h := Dat.of h
 rw [hcs] at h
 have hl := h.len_ Tryz.underlying24 (show Tryz.prog.cellsOf 24 = 2 by kernel_rfl)
 clear hcs hv
 match cs, hl with
 | [c0, c1], _ =>
  obtain ⟨s, h0, w0⟩ := (h.field_ Tryz.underlying24 0 0 1 rfl rfl (by kernel_rfl)).str_ Tryz.underlying9
  obtain ⟨A, n, c, l, h1, r1, r2, r3, r4, r5⟩ := dat_tiers (h.field_ Tryz.underlying24 1 1 1 rfl rfl (by kernel_rfl))
  simp at h0 h1
  subst h0 h1
  exact ⟨s, A, n, c, l, rfl, w0, r1, r2, r3, r4, r5⟩
end Go.Proofs.YtbblmmneeafhgaaGreat
namespace Go.Proofs.YtbblmmneeafhgaaGreat
set_option linter.all false
open Go.ChangeShapes Go.WideShapes Go.ChangeAt Go.RowKit

theorem dat_samps {w : World} {cs : List Value} (h : Dat Tryz.prog w 50 cs) : ∃ A n c, ∃ l : List SampV, cs = [.slice A n c] ∧ Rd w 3 A n (scells l) ∧ l.length = n ∧ n ≤ c ∧ c ≤ maxLen ∧ ∀ t ∈ l, t.wf :=
 h.rows_ SampV.cells SampV.wf Tryz.underlying50 (by kernel_rfl) (fun _ h => dat_samp h)
theorem dat_recs {w : World} {cs : List Value} (h : Dat Tryz.prog w 51 cs) : ∃ A n c, ∃ l : List RecV, cs = [.slice A n c] ∧ Rd w 7 A n (rcells l) ∧ l.length = n ∧ n ≤ c ∧ c ≤ maxLen ∧ ∀ t ∈ l, t.wf :=
 h.rows_ RecV.cells RecV.wf Tryz.underlying51 (by kernel_rfl) (fun _ h => dat_rec h)
set_option maxRecDepth 100000 in
theorem dat_op {w : World} {cs : List Value} (h : Dat Tryz.prog w 53 cs) : ∃ o : OpC, cs = o.cells ∧ o.ok w := by
 have hl := h.len_ Tryz.underlying53 (show Tryz.prog.cellsOf 53 = 4 by kernel_rfl)
 match cs, hl with
 | [c0, c1, c2, c3], _ =>
  obtain ⟨k, h0, w0⟩ := (h.field_ Tryz.underlying53 0 0 1 rfl rfl (by kernel_rfl)).i64_ Tryz.underlying3
  obtain ⟨a, h1, w1⟩ := (h.field_ Tryz.underlying53 1 1 1 rfl rfl (by kernel_rfl)).i64_ Tryz.underlying3
  obtain ⟨A, n, c, l, h2, r1, r2, r3, r4, r5⟩ := dat_samps (h.field_ Tryz.underlying53 2 2 1 rfl rfl (by kernel_rfl))
  obtain ⟨B, m, d, l', h3, s1, s2, s3, s4, s5⟩ := dat_recs (h.field_ Tryz.underlying53 3 3 1 rfl rfl (by kernel_rfl))
  simp at h0 h1 h2 h3
  subst h0 h1 h2 h3
  exact ⟨⟨k, a, A, n, c, l, B, m, d, l'⟩, rfl, w0, w1, r1, r2, r3, r4, r5, s1, s2, s3, s4, s5⟩
theorem in_ops {H : Type} {enc : TypeId × Value → H} {w : World} {A : Option Addr} {n c : Nat} {d : DataW H} {ps : List MemPlace} (h : DataW.Trod enc Tryz.prog w 0 (fun _ => true) true 26 (.slice A n c) d ps) :
  ∃ l : List OpC, Rd w 4 A n (opcells l) ∧ l.length = n ∧ n ≤ c ∧ c ≤ maxLen ∧ ∀ o ∈ l, o.ok w := by
 have h := Dat.of h
 simp only [Value.cells] at h
 obtain ⟨A', n', c', l, e, r1, r2, r3, r4, r5⟩ := Dat.rows_ (t := 26) OpC.cells (OpC.ok w) Tryz.underlying26 (show Tryz.prog.cellsOf 53 = 4 by kernel_rfl) (fun _ h => dat_op h) h
 simp at e
 obtain ⟨rfl, rfl, rfl⟩ := e
 exact ⟨l, r1, r2, r3, r4, r5⟩
end Go.Proofs.YtbblmmneeafhgaaGreat
namespace Go.Proofs.YtbblmmneeafhgaaGreat
set_option linter.all false
open Go.RowKit

end Go.Proofs.YtbblmmneeafhgaaGreat
