/- How the statements' arguments are opened, and how a row is closed. -/
import Derived.Test.YtaakghjbbkgbdaaGreatDoorBase
import Derived.WalkKit
import Derived.ProofKit
import Derived.OpenShut
import Derived.ShutString
import Derived.ChangeOld
import Derived.Lay
import Derived.LaidOnce
import Derived.SevenTiedAt
import Derived.SliceStrings
import Derived.Deep.Slices
import Derived.ChangeArms
import Derived.Test.YtaakghjbbkgbdaaGreatDoorSame
namespace Go.Proofs.YtaakghjbbkgbdaaGreatDoor
set_option linter.all false
open Go.ChangeShapes Go.WideShapes Go.ChangeAt Go.RowKit

theorem wf_i64 {x : Int} (h : (Lit.int .i64 x).wf = true) : -9223372036854775808 ≤ x ∧ x ≤ 9223372036854775807 := by
 simpa [Lit.wf, IntKind.min, IntKind.max, IntKind.signed, IntKind.bits] using h
end Go.Proofs.YtaakghjbbkgbdaaGreatDoor
namespace Go.Proofs.YtaakghjbbkgbdaaGreatDoor
set_option linter.all false
open Go.ChangeShapes Go.WideShapes Go.ChangeAt Go.RowKit

def Dat (P : Program) (w : World) (t : TypeId) (cs : List Value) : Prop :=
 ∃ (H : Type) (enc : TypeId × Value → H) (fuel : Nat) (x : DataW H × List MemPlace), DataW.trod enc P w 0 (fun _ => true) true fuel t cs = some x
section
variable {P : Program} {w : World} {t e : TypeId} {cs : List Value}
theorem Dat.of {H : Type} {enc : TypeId × Value → H} {v : Value} {d : DataW H} {ps : List MemPlace} (h : DataW.Trod enc P w 0 (fun _ => true) true t v d ps) : Dat P w t v.cells.toList := by
 obtain ⟨f, hf⟩ := h
 exact ⟨H, enc, f, _, hf⟩
theorem Dat.int_ {k : IntKind} (ht : P.underlying t = some (.int k)) (h : Dat P w t cs) : ∃ n, cs = [.int k n] ∧ (Lit.int k n).wf = true := by
 obtain ⟨H, enc, f, x, hf⟩ := h
 obtain ⟨n, h1, _, h2⟩ := DataW.trod_int ht hf
 exact ⟨n, h1, h2⟩
theorem Dat.i64_ (ht : P.underlying t = some (.int .i64)) (h : Dat P w t cs) : ∃ n, cs = [.int .i64 n] ∧ -9223372036854775808 ≤ n ∧ n ≤ 9223372036854775807 := by
 obtain ⟨n, h1, h2⟩ := h.int_ ht
 exact ⟨n, h1, wf_i64 h2⟩
theorem Dat.str_ (ht : P.underlying t = some .string) (h : Dat P w t cs) : ∃ s : ByteArray, cs = [.string s] ∧ s.size ≤ maxLen := by
 obtain ⟨H, enc, f, x, hf⟩ := h
 obtain ⟨s, h1, _, h2⟩ := DataW.trod_string ht hf
 exact ⟨s, h1, h2⟩
theorem Dat.struct_ {fs : Array Field} (ht : P.underlying t = some (.struct fs)) (h : Dat P w t cs) :
  cs.length = P.cellsOf t ∧ ∀ (i : Nat) (f : Field), fs[i]? = some f → Dat P w f.type ((cs.drop f.offset).take (P.cellsOf f.type)) := by
 obtain ⟨H, enc, f, x, hf⟩ := h
 obtain ⟨xs, n, _, _, hl, hx, hfs⟩ := DataW.trod_struct ht hf
 refine ⟨hl, fun i g hg => ?_⟩
 have hi : i < xs.length := by rw [hx]; exact (Array.getElem?_eq_some_iff.1 hg).1
 exact ⟨H, enc, n, xs[i], by rw [hfs i g hg, List.getElem?_eq_getElem hi]⟩
theorem Dat.len_ {fs : Array Field} {size : Nat} (ht : P.underlying t = some (.struct fs)) (hs : P.cellsOf t = size) (h : Dat P w t cs) : cs.length = size := hs ▸ (h.struct_ ht).1
theorem Dat.field_ {fs : Array Field} {f : Field} (ht : P.underlying t = some (.struct fs)) (i off size : Nat) (hg : fs[i]? = some f) (ho : f.offset = off) (hs : P.cellsOf f.type = size) (h : Dat P w t cs) : Dat P w f.type ((cs.drop off).take size) := by
 have := (h.struct_ ht).2 i f hg
 rwa [ho, hs] at this
theorem okWide_agg {r : Reach} {b0 : Nat} {fs : Array Field} {v : Value} (ht : P.underlying t = some (.struct fs)) (h : Value.okWide P w r b0 t v) : ∃ cs : List Value, v = .agg cs.toArray ∧ v.cells.toList = cs := by
 obtain ⟨cs, rfl, _⟩ := okWide_struct ht h
 exact ⟨cs.toList, by simp, by simp [Value.cells]⟩
end
end Go.Proofs.YtaakghjbbkgbdaaGreatDoor
namespace Go.Proofs.YtaakghjbbkgbdaaGreatDoor
set_option linter.all false
open Go.ChangeShapes Go.WideShapes Go.ChangeAt Go.RowKit

theorem dat_samp {w : World} {cs : List Value} (h : Dat Tryz.prog w 100 cs) : ∃ r : SampV, cs = r.cells ∧ r.wf := by
 have hl := h.len_ Tryz.underlying100 (show Tryz.prog.cellsOf 100 = 3 by kernel_rfl)
 match cs, hl with
 | [c0, c1, c2], _ =>
  obtain ⟨s, h0, w0⟩ := (h.field_ Tryz.underlying100 0 0 1 rfl rfl (by kernel_rfl)).str_ Tryz.underlying9
  obtain ⟨a, h1, w1⟩ := (h.field_ Tryz.underlying100 1 1 1 rfl rfl (by kernel_rfl)).i64_ Tryz.underlying3
  obtain ⟨b, h2, w2⟩ := (h.field_ Tryz.underlying100 2 2 1 rfl rfl (by kernel_rfl)).i64_ Tryz.underlying3
  simp at h0 h1 h2
  subst h0 h1 h2
  exact ⟨⟨s, a, b⟩, rfl, w1, w2, w0⟩
end Go.Proofs.YtaakghjbbkgbdaaGreatDoor
