/- How the statements' arguments are opened, and how a row is closed. -/
import Derived.Test.YtbblmmneeafhgaaGreatBase
import Derived.WalkKit
import Derived.ProofKit
import Derived.OpenShut
import Derived.ShutString
import Derived.ChangeOld
import Derived.Lay
import Derived.LaidOnce
import Derived.SevenTiedAt
import Derived.SliceStrings
import Derived.Deep.Slices
import Derived.ChangeArms
import Derived.Test.YtbblmmneeafhgaaGreatSame
namespace Go.Proofs.YtbblmmneeafhgaaGreat
set_option linter.all false
open Go.ChangeShapes Go.WideShapes Go.ChangeAt Go.RowKit

theorem in_ints {H : Type} {enc : TypeId × Value → H} {P : Program} {w : World} {t e : TypeId} {k : IntKind} {A : Option Addr} {n c : Nat} {d : DataW H} {ps : List MemPlace} (ht : P.underlying t = some (.slice e)) (he : P.underlying e = some (.int k)) (hc : P.cellsOf e = 1)
  (h : DataW.Trod enc P w 0 (fun _ => true) true t (.slice A n c) d ps) : ∃ l : List Int, Rd w 1 A n (l.map (Value.int k)) ∧ l.length = n ∧ n ≤ c ∧ c ≤ maxLen ∧ (∀ x ∈ l, (Lit.int k x).wf = true) := by
 obtain ⟨fuel, hf⟩ := h
 rcases open_ints ht he hc hf with ⟨hcs, _⟩ | ⟨x, l, cc, zs, hcs, _, hl, hm, hz, _, hcell, hwz⟩
 ·simp [Value.cells] at hcs
  obtain ⟨rfl, rfl, rfl⟩ := hcs
  exact ⟨[], Rd.nil_, rfl, Nat.le_refl _, Nat.zero_le _, fun _ h => by cases h⟩
 ·simp [Value.cells] at hcs
  obtain ⟨rfl, rfl, rfl⟩ := hcs
  simp at hz
  have hlen : (zs.take n).length = n := by rw [List.length_take]; omega
  refine ⟨zs.take n, ⟨by simp [hlen]; omega, fun _ => ⟨x, rfl, fun j u hu => ?_⟩⟩, hlen, hl, hm, fun y hy => hwz y (List.mem_of_mem_take hy)⟩
  rw [List.getElem?_map, Option.map_eq_some_iff] at hu
  obtain ⟨y, hy, rfl⟩ := hu
  rw [List.getElem?_take] at hy
  split at hy
  ·rw [hcell j (by have := (List.getElem?_eq_some_iff.1 hy).1; omega), List.getD, hy]; rfl
  ·cases hy
theorem wf_i64 {x : Int} (h : (Lit.int .i64 x).wf = true) : -9223372036854775808 ≤ x ∧ x ≤ 9223372036854775807 := by
 simpa [Lit.wf, IntKind.min, IntKind.max, IntKind.signed, IntKind.bits] using h
theorem wf_u64 {x : Int} (h : (Lit.int .u64 x).wf = true) : 0 ≤ x ∧ x ≤ 18446744073709551615 := by
 simpa [Lit.wf, IntKind.min, IntKind.max, IntKind.signed, IntKind.bits] using h
end Go.Proofs.YtbblmmneeafhgaaGreat
namespace Go.Proofs.YtbblmmneeafhgaaGreat
set_option linter.all false
open Go.ChangeShapes Go.WideShapes Go.ChangeAt Go.RowKit

def Dat (P : Program) (w : World) (t : TypeId) (cs : List Value) : Prop :=
 ∃ (H : Type) (enc : TypeId × Value → H) (fuel : Nat) (x : DataW H × List MemPlace), DataW.trod enc P w 0 (fun _ => true) true fuel t cs = some x
section
variable {P : Program} {w : World} {t e : TypeId} {cs : List Value}
theorem Dat.of {H : Type} {enc : TypeId × Value → H} {v : Value} {d : DataW H} {ps : List MemPlace} (h : DataW.Trod enc P w 0 (fun _ => true) true t v d ps) : Dat P w t v.cells.toList := by
 obtain ⟨f, hf⟩ := h
 exact ⟨H, enc, f, _, hf⟩
theorem Dat.int_ {k : IntKind} (ht : P.underlying t = some (.int k)) (h : Dat P w t cs) : ∃ n, cs = [.int k n] ∧ (Lit.int k n).wf = true := by
 obtain ⟨H, enc, f, x, hf⟩ := h
 obtain ⟨n, h1, _, h2⟩ := DataW.trod_int ht hf
 exact ⟨n, h1, h2⟩
theorem Dat.i64_ (ht : P.underlying t = some (.int .i64)) (h : Dat P w t cs) : ∃ n, cs = [.int .i64 n] ∧ -9223372036854775808 ≤ n ∧ n ≤ 9223372036854775807 := by
 obtain ⟨n, h1, h2⟩ := h.int_ ht
 exact ⟨n, h1, wf_i64 h2⟩
theorem Dat.u64_ (ht : P.underlying t = some (.int .u64)) (h : Dat P w t cs) : ∃ n, cs = [.int .u64 n] ∧ 0 ≤ n ∧ n ≤ 18446744073709551615 := by
 obtain ⟨n, h1, h2⟩ := h.int_ ht
 exact ⟨n, h1, wf_u64 h2⟩
theorem Dat.str_ (ht : P.underlying t = some .string) (h : Dat P w t cs) : ∃ s : ByteArray, cs = [.string s] ∧ s.size ≤ maxLen := by
 obtain ⟨H, enc, f, x, hf⟩ := h
 obtain ⟨s, h1, _, h2⟩ := DataW.trod_string ht hf
 exact ⟨s, h1, h2⟩
theorem Dat.struct_ {fs : Array Field} (ht : P.underlying t = some (.struct fs)) (h : Dat P w t cs) :
  cs.length = P.cellsOf t ∧ ∀ (i : Nat) (f : Field), fs[i]? = some f → Dat P w f.type ((cs.drop f.offset).take (P.cellsOf f.type)) := by
 obtain ⟨H, enc, f, x, hf⟩ := h
 obtain ⟨xs, n, _, _, hl, hx, hfs⟩ := DataW.trod_struct ht hf
 refine ⟨hl, fun i g hg => ?_⟩
 have hi : i < xs.length := by rw [hx]; exact (Array.getElem?_eq_some_iff.1 hg).1
 exact ⟨H, enc, n, xs[i], by rw [hfs i g hg, List.getElem?_eq_getElem hi]⟩
theorem Dat.len_ {fs : Array Field} {size : Nat} (ht : P.underlying t = some (.struct fs)) (hs : P.cellsOf t = size) (h : Dat P w t cs) : cs.length = size := hs ▸ (h.struct_ ht).1
theorem Dat.field_ {fs : Array Field} {f : Field} (ht : P.underlying t = some (.struct fs)) (i off size : Nat) (hg : fs[i]? = some f) (ho : f.offset = off) (hs : P.cellsOf f.type = size) (h : Dat P w t cs) : Dat P w f.type ((cs.drop off).take size) := by
 have := (h.struct_ ht).2 i f hg
 rwa [ho, hs] at this
theorem Dat.slice_ {size : Nat} (ht : P.underlying t = some (.slice e)) (hs : P.cellsOf e = size) (h : Dat P w t cs) :
  ∃ A n c, cs = [.slice A n c] ∧ n ≤ c ∧ c ≤ maxLen ∧ (A = none → n = 0) ∧ ∀ ad, A = some ad → ∀ i < n, ∃ cs', cs'.length = size ∧ Dat P w e cs' ∧ ∀ j u, cs'[j]? = some u → w.cell? (ad.add (i * size + j)) = some u := by
 obtain ⟨H, enc, f, x, hf⟩ := h
 rcases Go.Deep.open_slice ht hf with ⟨h1, _⟩ | ⟨a, len, cap, m, n, D, Pl, h1, hb, hl, hm, hmm, _, hx⟩
 ·exact ⟨none, 0, 0, h1, Nat.le_refl _, Nat.zero_le _, fun _ => rfl, (fun ad h => by cases h)⟩
 ·refine ⟨some a, len, cap, h1, hl, hm, (fun h => by cases h), fun ad e1 i hi => ?_⟩
  injection e1 with e1
  subst e1
  obtain ⟨cs', h2, h3⟩ := hx i (by rw [hmm]; simp only [if_true]; omega)
  obtain ⟨_, hlen, hc⟩ := World.cells?_some h2
  rw [hs] at hlen hc h2
  refine ⟨cs', hlen, ⟨H, enc, n, _, h3⟩, fun j u hu => ?_⟩
  have hj : j < size := by rw [← hlen]; exact (List.getElem?_eq_some_iff.1 hu).1
  rw [← add_of_add, hc j hj, hu]
theorem Dat.rows_ {α : Type} {size : Nat} (f : α → List Value) (ok : α → Prop) (ht : P.underlying t = some (.slice e)) (hs : P.cellsOf e = size)
  (hel : ∀ cs', Dat P w e cs' → ∃ x, cs' = f x ∧ ok x) (h : Dat P w t cs) :
  ∃ A n c, ∃ l : List α, cs = [.slice A n c] ∧ Rd w size A n (l.flatMap f) ∧ l.length = n ∧ n ≤ c ∧ c ≤ maxLen ∧ ∀ x ∈ l, ok x := by
 obtain ⟨A, n, c, rfl, hn, hc, hnil, hx⟩ := h.slice_ ht hs
 have key : ∀ k ≤ n, ∃ l : List α, l.length = k ∧ (l.flatMap f).length = k * size ∧ (∀ x ∈ l, ok x) ∧ ∀ ad, A = some ad → ∀ j u, (l.flatMap f)[j]? = some u → w.cell? (ad.add j) = some u := by
  intro k
  induction k with
  | zero => exact fun _ => ⟨[], rfl, by simp, by simp, fun _ _ j u hu => by simp at hu⟩
  | succ k ih =>
   intro hk
   obtain ⟨l, h1, h2, h3, h4⟩ := ih (by omega)
   cases hA : A with
   | none => have := hnil hA; omega
   | some ad =>
    obtain ⟨cs', h5, h6, h7⟩ := hx ad hA k (by omega)
    obtain ⟨x, rfl, hok⟩ := hel _ h6
    refine ⟨l ++ [x], by simp [h1], by rw [List.flatMap_append, List.length_append, h2, Nat.succ_mul]; simp [h5], fun y hy => ?_, fun ad' e1 j u hu => ?_⟩
    ·rcases List.mem_append.1 hy with hy | hy
     ·exact h3 y hy
     ·rw [List.mem_singleton] at hy; subst hy; exact hok
    ·injection e1 with e1
     subst e1
     rw [List.flatMap_append] at hu
     by_cases hj : j < (l.flatMap f).length
     ·rw [List.getElem?_append_left hj] at hu
      exact h4 ad hA j u hu
     ·rw [List.getElem?_append_right (by omega)] at hu
      simp only [List.flatMap_cons, List.flatMap_nil, List.append_nil] at hu
      have := h7 _ u hu
      rwa [show k * size + (j - (l.flatMap f).length) = j by omega] at this
 obtain ⟨l, h1, h2, h3, h4⟩ := key n (Nat.le_refl _)
 refine ⟨A, n, c, l, rfl, ⟨h2, fun h0 => ?_⟩, h1, hn, hc, h3⟩
 cases hA : A with
 | none => have := hnil hA; omega
 | some ad => exact ⟨ad, rfl, h4 ad hA⟩
theorem okWide_agg {r : Reach} {b0 : Nat} {fs : Array Field} {v : Value} (ht : P.underlying t = some (.struct fs)) (h : Value.okWide P w r b0 t v) : ∃ cs : List Value, v = .agg cs.toArray ∧ v.cells.toList = cs := by
 obtain ⟨cs, rfl, _⟩ := okWide_struct ht h
 exact ⟨cs.toList, by simp, by simp [Value.cells]⟩
end
end Go.Proofs.YtbblmmneeafhgaaGreat
namespace Go.Proofs.YtbblmmneeafhgaaGreat
set_option linter.all false
open Go.ChangeShapes Go.WideShapes Go.ChangeAt Go.RowKit

theorem dat_agg {w : World} {cs : List Value} (h : Dat Tryz.prog w 98 cs) : ∃ a : AggV, cs = a.cells ∧ a.wf := by
 have hl := h.len_ Tryz.underlying98 (show Tryz.prog.cellsOf 98 = 5 by kernel_rfl)
 match cs, hl with
 | [c0, c1, c2, c3, c4], _ =>
  obtain ⟨a, h0, w0⟩ := (h.field_ Tryz.underlying98 0 0 1 rfl rfl (by kernel_rfl)).i64_ Tryz.underlying3
  obtain ⟨b, h1, w1⟩ := (h.field_ Tryz.underlying98 1 1 1 rfl rfl (by kernel_rfl)).i64_ Tryz.underlying3
  obtain ⟨c, h2, w2⟩ := (h.field_ Tryz.underlying98 2 2 1 rfl rfl (by kernel_rfl)).u64_ Tryz.underlying96
  obtain ⟨d, h3, w3⟩ := (h.field_ Tryz.underlying98 3 3 1 rfl rfl (by kernel_rfl)).i64_ Tryz.underlying3
  obtain ⟨e, h4, w4⟩ := (h.field_ Tryz.underlying98 4 4 1 rfl rfl (by kernel_rfl)).i64_ Tryz.underlying3
  simp at h0 h1 h2 h3 h4
  subst h0 h1 h2 h3 h4
  exact ⟨⟨a, b, c, d, e⟩, rfl, w0, w1, w2, w3, w4⟩
theorem dat_rec {w : World} {cs : List Value} (h : Dat Tryz.prog w 100 cs) : ∃ r : RecV, cs = r.cells ∧ r.wf := by
 have hl := h.len_ Tryz.underlying100 (show Tryz.prog.cellsOf 100 = 7 by kernel_rfl)
 match cs, hl with
 | [c0, c1, c2, c3, c4, c5, c6], _ =>
  obtain ⟨s, h0, w0⟩ := (h.field_ Tryz.underlying100 0 0 1 rfl rfl (by kernel_rfl)).str_ Tryz.underlying9
  obtain ⟨a, h1, w1⟩ := (h.field_ Tryz.underlying100 1 1 1 rfl rfl (by kernel_rfl)).i64_ Tryz.underlying3
  obtain ⟨g, h2, w2⟩ := dat_agg (h.field_ Tryz.underlying100 2 2 5 rfl rfl (by kernel_rfl))
  simp at h0 h1
  subst h0 h1
  simp [AggV.cells] at h2
  obtain ⟨rfl, rfl, rfl, rfl, rfl⟩ := h2
  exact ⟨⟨s, a, g⟩, rfl, w1, w2, w0⟩
theorem dat_samp {w : World} {cs : List Value} (h : Dat Tryz.prog w 95 cs) : ∃ r : SampV, cs = r.cells ∧ r.wf := by
 have hl := h.len_ Tryz.underlying95 (show Tryz.prog.cellsOf 95 = 3 by kernel_rfl)
 match cs, hl with
 | [c0, c1, c2], _ =>
  obtain ⟨s, h0, w0⟩ := (h.field_ Tryz.underlying95 0 0 1 rfl rfl (by kernel_rfl)).str_ Tryz.underlying9
  obtain ⟨a, h1, w1⟩ := (h.field_ Tryz.underlying95 1 1 1 rfl rfl (by kernel_rfl)).i64_ Tryz.underlying3
  obtain ⟨b, h2, w2⟩ := (h.field_ Tryz.underlying95 2 2 1 rfl rfl (by kernel_rfl)).i64_ Tryz.underlying3
  simp at h0 h1 h2
  subst h0 h1 h2
  exact ⟨⟨s, a, b⟩, rfl, w1, w2, w0⟩
end Go.Proofs.YtbblmmneeafhgaaGreat
