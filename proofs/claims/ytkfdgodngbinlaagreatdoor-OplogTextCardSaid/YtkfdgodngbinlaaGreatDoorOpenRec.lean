/- How the statements' arguments are opened, and how a row is closed. -/
import Derived.Test.YtkfdgodngbinlaaGreatDoorBase
import Derived.WalkKit
import Derived.ProofKit
import Derived.OpenShut
import Derived.ShutString
import Derived.ChangeOld
import Derived.Lay
import Derived.LaidOnce
import Derived.SevenTiedAt
import Derived.SliceStrings
import Derived.Deep.Slices
import Derived.ChangeArms
import Derived.Test.YtkfdgodngbinlaaGreatDoorSame
import Derived.Test.YtkfdgodngbinlaaGreatDoorProg
namespace Go.Proofs.YtkfdgodngbinlaaGreatDoor
set_option linter.all false
open Go.ChangeShapes Go.WideShapes Go.ChangeAt Go.RowKit

theorem wf_i64 {x : Int} (h : (Lit.int .i64 x).wf = true) : -9223372036854775808 ≤ x ∧ x ≤ 9223372036854775807 := by
 simpa [Lit.wf, IntKind.min, IntKind.max, IntKind.signed, IntKind.bits] using h
end Go.Proofs.YtkfdgodngbinlaaGreatDoor
namespace Go.Proofs.YtkfdgodngbinlaaGreatDoor
set_option linter.all false
open Go.ChangeShapes Go.WideShapes Go.ChangeAt Go.RowKit

def Dat (P : Program) (w : World) (t : TypeId) (cs : List Value) : Prop :=
 ∃ (H : Type) (enc : TypeId × Value → H) (fuel : Nat) (x : DataW H × List MemPlace), DataW.trod enc P w 0 (fun _ => true) true fuel t cs = some x
section
variable {P : Program} {w : World} {t e : TypeId} {cs : List Value}
theorem Dat.of {H : Type} {enc : TypeId × Value → H} {v : Value} {d : DataW H} {ps : List MemPlace} (h : DataW.Trod enc P w 0 (fun _ => true) true t v d ps) : Dat P w t v.cells.toList := by
 obtain ⟨f, hf⟩ := h
 exact ⟨H, enc, f, _, hf⟩
theorem Dat.int_ {k : IntKind} (ht : P.underlying t = some (.int k)) (h : Dat P w t cs) : ∃ n, cs = [.int k n] ∧ (Lit.int k n).wf = true := by
 obtain ⟨H, enc, f, x, hf⟩ := h
 obtain ⟨n, h1, _, h2⟩ := DataW.trod_int ht hf
 exact ⟨n, h1, h2⟩
theorem Dat.i64_ (ht : P.underlying t = some (.int .i64)) (h : Dat P w t cs) : ∃ n, cs = [.int .i64 n] ∧ -9223372036854775808 ≤ n ∧ n ≤ 9223372036854775807 := by
 obtain ⟨n, h1, h2⟩ := h.int_ ht
 exact ⟨n, h1, wf_i64 h2⟩
theorem Dat.str_ (ht : P.underlying t = some .string) (h : Dat P w t cs) : ∃ s : ByteArray, cs = [.string s] ∧ s.size ≤ maxLen := by
 obtain ⟨H, enc, f, x, hf⟩ := h
 obtain ⟨s, h1, _, h2⟩ := DataW.trod_string ht hf
 exact ⟨s, h1, h2⟩
theorem Dat.struct_ {fs : Array Field} (ht : P.underlying t = some (.struct fs)) (h : Dat P w t cs) :
  cs.length = P.cellsOf t ∧ ∀ (i : Nat) (f : Field), fs[i]? = some f → Dat P w f.type ((cs.drop f.offset).take (P.cellsOf f.type)) := by
 obtain ⟨H, enc, f, x, hf⟩ := h
 obtain ⟨xs, n, _, _, hl, hx, hfs⟩ := DataW.trod_struct ht hf
 refine ⟨hl, fun i g hg => ?_⟩
 have hi : i < xs.length := by rw [hx]; exact (Array.getElem?_eq_some_iff.1 hg).1
 exact ⟨H, enc, n, xs[i], by rw [hfs i g hg, List.getElem?_eq_getElem hi]⟩
theorem Dat.len_ {fs : Array Field} {size : Nat} (ht : P.underlying t = some (.struct fs)) (hs : P.cellsOf t = size) (h : Dat P w t cs) : cs.length = size := hs ▸ (h.struct_ ht).1
theorem Dat.field_ {fs : Array Field} {f : Field} (ht : P.underlying t = some (.struct fs)) (i off size : Nat) (hg : fs[i]? = some f) (ho : f.offset = off) (hs : P.cellsOf f.type = size) (h : Dat P w t cs) : Dat P w f.type ((cs.drop off).take size) := by
 have := (h.struct_ ht).2 i f hg
 rwa [ho, hs] at this
theorem Dat.slice_ {size : Nat} (ht : P.underlying t = some (.slice e)) (hs : P.cellsOf e = size) (h : Dat P w t cs) :
  ∃ A n c, cs = [.slice A n c] ∧ n ≤ c ∧ c ≤ maxLen ∧ (A = none → n = 0) ∧ ∀ ad, A = some ad → ∀ i < n, ∃ cs', cs'.length = size ∧ Dat P w e cs' ∧ ∀ j u, cs'[j]? = some u → w.cell? (ad.add (i * size + j)) = some u := by
 obtain ⟨H, enc, f, x, hf⟩ := h
 rcases Go.Deep.open_slice ht hf with ⟨h1, _⟩ | ⟨a, len, cap, m, n, D, Pl, h1, hb, hl, hm, hmm, _, hx⟩
 ·exact ⟨none, 0, 0, h1, Nat.le_refl _, Nat.zero_le _, fun _ => rfl, (fun ad h => by cases h)⟩
 ·refine ⟨some a, len, cap, h1, hl, hm, (fun h => by cases h), fun ad e1 i hi => ?_⟩
  injection e1 with e1
  subst e1
  obtain ⟨cs', h2, h3⟩ := hx i (by rw [hmm]; simp only [if_true]; omega)
  obtain ⟨_, hlen, hc⟩ := World.cells?_some h2
  rw [hs] at hlen hc h2
  refine ⟨cs', hlen, ⟨H, enc, n, _, h3⟩, fun j u hu => ?_⟩
  have hj : j < size := by rw [← hlen]; exact (List.getElem?_eq_some_iff.1 hu).1
  rw [← add_of_add, hc j hj, hu]
theorem Dat.rows_ {α : Type} {size : Nat} (f : α → List Value) (ok : α → Prop) (ht : P.underlying t = some (.slice e)) (hs : P.cellsOf e = size)
  (hel : ∀ cs', Dat P w e cs' → ∃ x, cs' = f x ∧ ok x) (h : Dat P w t cs) :
  ∃ A n c, ∃ l : List α, cs = [.slice A n c] ∧ Rd w size A n (l.flatMap f) ∧ l.length = n ∧ n ≤ c ∧ c ≤ maxLen ∧ ∀ x ∈ l, ok x := by
 obtain ⟨A, n, c, rfl, hn, hc, hnil, hx⟩ := h.slice_ ht hs
 have key : ∀ k ≤ n, ∃ l : List α, l.length = k ∧ (l.flatMap f).length = k * size ∧ (∀ x ∈ l, ok x) ∧ ∀ ad, A = some ad → ∀ j u, (l.flatMap f)[j]? = some u → w.cell? (ad.add j) = some u := by
  intro k
  induction k with
  | zero => exact fun _ => ⟨[], rfl, by simp, by simp, fun _ _ j u hu => by simp at hu⟩
  | succ k ih =>
   intro hk
   obtain ⟨l, h1, h2, h3, h4⟩ := ih (by omega)
   cases hA : A with
   | none => have := hnil hA; omega
   | some ad =>
    obtain ⟨cs', h5, h6, h7⟩ := hx ad hA k (by omega)
    obtain ⟨x, rfl, hok⟩ := hel _ h6
    refine ⟨l ++ [x], by simp [h1], by rw [List.flatMap_append, List.length_append, h2, Nat.succ_mul]; simp [h5], fun y hy => ?_, fun ad' e1 j u hu => ?_⟩
    ·rcases List.mem_append.1 hy with hy | hy
     ·exact h3 y hy
     ·rw [List.mem_singleton] at hy; subst hy; exact hok
    ·injection e1 with e1
     subst e1
     rw [List.flatMap_append] at hu
     by_cases hj : j < (l.flatMap f).length
     ·rw [List.getElem?_append_left hj] at hu
      exact h4 ad hA j u hu
     ·rw [List.getElem?_append_right (by omega)] at hu
      simp only [List.flatMap_cons, List.flatMap_nil, List.append_nil] at hu
      have := h7 _ u hu
      rwa [show k * size + (j - (l.flatMap f).length) = j by omega] at this
 obtain ⟨l, h1, h2, h3, h4⟩ := key n (Nat.le_refl _)
 refine ⟨A, n, c, l, rfl, ⟨h2, fun h0 => ?_⟩, h1, hn, hc, h3⟩
 cases hA : A with
 | none => have := hnil hA; omega
 | some ad => exact ⟨ad, rfl, h4 ad hA⟩
end
end Go.Proofs.YtkfdgodngbinlaaGreatDoor
namespace Go.Proofs.YtkfdgodngbinlaaGreatDoor
set_option linter.all false
open Go.ChangeShapes Go.WideShapes Go.ChangeAt Go.RowKit

theorem dat_samp {w : World} {cs : List Value} (h : Dat Tryz.prog w 44 cs) : ∃ r : SampV, cs = r.cells ∧ r.wf := by
 have hl := h.len_ Tryz.underlying44 (show Tryz.prog.cellsOf 44 = 3 by kernel_rfl)
 match cs, hl with
 | [c0, c1, c2], _ =>
  obtain ⟨s, h0, w0⟩ := (h.field_ Tryz.underlying44 0 0 1 rfl rfl (by kernel_rfl)).str_ Tryz.underlying9
  obtain ⟨a, h1, w1⟩ := (h.field_ Tryz.underlying44 1 1 1 rfl rfl (by kernel_rfl)).i64_ Tryz.underlying3
  obtain ⟨b, h2, w2⟩ := (h.field_ Tryz.underlying44 2 2 1 rfl rfl (by kernel_rfl)).i64_ Tryz.underlying3
  simp at h0 h1 h2
  subst h0 h1 h2
  exact ⟨⟨s, a, b⟩, rfl, w1, w2, w0⟩
end Go.Proofs.YtkfdgodngbinlaaGreatDoor
namespace Go.Proofs.YtkfdgodngbinlaaGreatDoor
set_option linter.all false
open Go.RowKit

def FewR (few n : Nat) (r : Ending) : Prop := ∃ b, r = .returned (.bool b) ∧ (b = true → n ≤ few)

theorem some_any (few : Nat) (hfew : few ≤ 1000000) (l : List SampV) (hl : ∀ r ∈ l, r.name.size ≤ maxLen) (A : Option Addr) (n c : Nat) (w : World) (hr : Rd w 3 A n (scells l)) (hn : n ≤ 9223372036854775807) :
  Calls Tryz.prog 10 #[.int .i64 few, .slice A n c] w fun r w' => FewR few n r ∧ w = w' := by
 have Hr := Lib.hid hr
 have Hl := Lib.hid (fun (r : SampV) (h : r ∈ l) => show (r.name.size : Int) ≤ 9223372036854775807 by have := hl r h; unfold maxLen at this; omega)
 clear hr hl
 go_enter Tryz.func10, Tryz.ntmps10
 go_wp2_with fail
 go_loop [5] (fun i => ∃ k : Nat, k ≤ n ∧ k ≤ few ∧ i = .int .i64 k) (fun i => n - (intOf i).toNat)
 case atStart => exact ⟨0, Nat.zero_le _, Nat.zero_le _, rfl⟩
 case round =>
  obtain ⟨k, hk, hk2, rfl⟩ := hrel
  by_cases hlt : k < n
  ·by_cases hlf : k < few
   ·obtain ⟨ad, r, rfl, hu, d0, d1, d2⟩ := Hr.out.samp_ hlt
    have hsz := Hl.out r (mem_of_get hu)
    clear hu
    by_cases h60 : 60 < (r.name.size : Int)
    ·go_wp2_with fail
     go_ret
     exact ⟨⟨false, rfl, by simp⟩, rfl⟩
    ·go_wp2
     go_round
     case rel => exact ⟨k + 1, by omega, by omega, by go_num⟩
     case measure => simp [intOf]; omega
   ·have hd : ((n : Int) ≤ (few : Int)) = False := by simp; omega
    have hfl : ¬ (k : Int) < (few : Int) := by omega
    have hfd : decide ((k : Int) < (few : Int)) = false := decide_eq_false hfl
    have hfn : decide (k < few) = false := decide_eq_false hlf
    go_wp2_with fail
    go_ret
    exact ⟨⟨false, by simp [*] <;> omega, by simp⟩, rfl⟩
  ·obtain rfl : k = n := by omega
   have hkd : decide (k < k) = false := by simp
   go_wp2_with fail
   go_ret
   exact ⟨⟨true, by simp [*] <;> omega, fun _ => hk2⟩, rfl⟩
end Go.Proofs.YtkfdgodngbinlaaGreatDoor
namespace Go.Proofs.YtkfdgodngbinlaaGreatDoor
set_option linter.all false
open Go.RowKit

structure OpC where
 kind : Int
 n : Int
 sa : Option Addr
 sn : Nat
 sc : Nat
 sl : List SampV
 la : Option Addr
 ln : Nat
 lc : Nat
 ll : List RecV
def OpC.cells (o : OpC) : List Value := [.int .i64 o.kind, .int .i64 o.n, .slice o.sa o.sn o.sc, .slice o.la o.ln o.lc]
def OpC.val (o : OpC) : Value := .agg #[.int .i64 o.kind, .int .i64 o.n, .slice o.sa o.sn o.sc, .slice o.la o.ln o.lc]
structure OpC.ok (w : World) (o : OpC) : Prop where
 kind : -9223372036854775808 ≤ o.kind ∧ o.kind ≤ 9223372036854775807
 n : -9223372036854775808 ≤ o.n ∧ o.n ≤ 9223372036854775807
 s : Rd w 3 o.sa o.sn (scells o.sl)
 slen : o.sl.length = o.sn
 sle : o.sn ≤ o.sc
 smax : o.sc ≤ maxLen
 swf : ∀ x ∈ o.sl, x.wf
 l : Rd w 7 o.la o.ln (rcells o.ll)
 llen : o.ll.length = o.ln
 lle : o.ln ≤ o.lc
 lmax : o.lc ≤ maxLen
 lwf : ∀ x ∈ o.ll, x.wf
theorem OpC.ok.below {w w' : World} {o : OpC} (h : o.ok w) (b : Below w.heap.size w w') : o.ok w' := ⟨h.kind, h.n, h.s.below b, h.slen, h.sle, h.smax, h.swf, h.l.below b, h.llen, h.lle, h.lmax, h.lwf⟩
end Go.Proofs.YtkfdgodngbinlaaGreatDoor
namespace Go.Proofs.YtkfdgodngbinlaaGreatDoor
set_option linter.all false
open Go.RowKit

end Go.Proofs.YtkfdgodngbinlaaGreatDoor
namespace Go.Proofs.YtkfdgodngbinlaaGreatDoor
set_option linter.all false
open Go.RowKit

end Go.Proofs.YtkfdgodngbinlaaGreatDoor
namespace Go.Proofs.YtkfdgodngbinlaaGreatDoor
set_option linter.all false
open Go.RowKit
end Go.Proofs.YtkfdgodngbinlaaGreatDoor
namespace Go.Proofs.YtkfdgodngbinlaaGreatDoor
set_option linter.all false
open Go.RowKit
end Go.Proofs.YtkfdgodngbinlaaGreatDoor
namespace Go.Proofs.YtkfdgodngbinlaaGreatDoor
set_option linter.all false
open Go.RowKit

end Go.Proofs.YtkfdgodngbinlaaGreatDoor
namespace Go.Proofs.YtkfdgodngbinlaaGreatDoor
set_option linter.all false
open Go.RowKit

end Go.Proofs.YtkfdgodngbinlaaGreatDoor
namespace Go.Proofs.YtkfdgodngbinlaaGreatDoor
set_option linter.all false
open Go.RowKit
end Go.Proofs.YtkfdgodngbinlaaGreatDoor
namespace Go.Proofs.YtkfdgodngbinlaaGreatDoor
set_option linter.all false
open Go.RowKit

end Go.Proofs.YtkfdgodngbinlaaGreatDoor
namespace Go.Proofs.YtkfdgodngbinlaaGreatDoor
set_option linter.all false
open Go.RowKit

end Go.Proofs.YtkfdgodngbinlaaGreatDoor
namespace Go.Proofs.YtkfdgodngbinlaaGreatDoor
set_option linter.all false
open Go.RowKit

end Go.Proofs.YtkfdgodngbinlaaGreatDoor
namespace Go.Proofs.YtkfdgodngbinlaaGreatDoor
set_option linter.all false
open Go.RowKit

end Go.Proofs.YtkfdgodngbinlaaGreatDoor
namespace Go.Proofs.YtkfdgodngbinlaaGreatDoor
set_option linter.all false
open Go.RowKit

structure OpS where
 kind : Int
 n : Int
 sa : Option Addr
 sn : Nat
 sc : Nat
 sl : List SampV
 text : ByteArray
def OpS.cells (o : OpS) : List Value := [.int .i64 o.kind, .int .i64 o.n, .slice o.sa o.sn o.sc, .string o.text]
def OpS.val (o : OpS) : Value := .agg #[.int .i64 o.kind, .int .i64 o.n, .slice o.sa o.sn o.sc, .string o.text]
structure OpS.ok (w : World) (o : OpS) : Prop where
 kind : -9223372036854775808 ≤ o.kind ∧ o.kind ≤ 9223372036854775807
 n : -9223372036854775808 ≤ o.n ∧ o.n ≤ 9223372036854775807
 s : Rd w 3 o.sa o.sn (scells o.sl)
 slen : o.sl.length = o.sn
 sle : o.sn ≤ o.sc
 smax : o.sc ≤ maxLen
 swf : ∀ x ∈ o.sl, x.wf
 tmax : o.text.size ≤ maxLen
theorem OpS.ok.below {w w' : World} {o : OpS} (h : o.ok w) (b : Below w.heap.size w w') : o.ok w' := ⟨h.kind, h.n, h.s.below b, h.slen, h.sle, h.smax, h.swf, h.tmax⟩
end Go.Proofs.YtkfdgodngbinlaaGreatDoor
namespace Go.Proofs.YtkfdgodngbinlaaGreatDoor
set_option linter.all false
open Go.ChangeShapes Go.WideShapes Go.ChangeAt Go.RowKit

end Go.Proofs.YtkfdgodngbinlaaGreatDoor
