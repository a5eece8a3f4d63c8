/- Walks of sedimentbook.Few, Some. -/
import Derived.Test.YtaakghjbbkgbdaaGreatDoorSame
import Derived.Test.YtaakghjbbkgbdaaGreatDoorProg
import Derived.WalkKit
import Derived.Test.YtaakghjbbkgbdaaGreatDoorBase
namespace Go.Proofs.YtaakghjbbkgbdaaGreatDoor
set_option linter.all false
open Go.RowKit

end Go.Proofs.YtaakghjbbkgbdaaGreatDoor
namespace Go.Proofs.YtaakghjbbkgbdaaGreatDoor
set_option linter.all false
open Go.RowKit

structure OpC where
  kind : Int
  n : Int
  sa : Option Addr
  sn : Nat
  sc : Nat
  sl : List SampV
  la : Option Addr
  ln : Nat
  lc : Nat
  ll : List RecV
def OpC.cells (o : OpC) : List Value := [.int .i64 o.kind, .int .i64 o.n, .slice o.sa o.sn o.sc, .slice o.la o.ln o.lc]
def OpC.val (o : OpC) : Value := .agg #[.int .i64 o.kind, .int .i64 o.n, .slice o.sa o.sn o.sc, .slice o.la o.ln o.lc]
structure OpC.ok (w : World) (o : OpC) : Prop where
  kind : -9223372036854775808 ≤ o.kind ∧ o.kind ≤ 9223372036854775807
  n : -9223372036854775808 ≤ o.n ∧ o.n ≤ 9223372036854775807
  s : Rd w 3 o.sa o.sn (scells o.sl)
  slen : o.sl.length = o.sn
  sle : o.sn ≤ o.sc
  smax : o.sc ≤ maxLen
  swf : ∀ x ∈ o.sl, x.wf
  l : Rd w 7 o.la o.ln (rcells o.ll)
  llen : o.ll.length = o.ln
  lle : o.ln ≤ o.lc
  lmax : o.lc ≤ maxLen
  lwf : ∀ x ∈ o.ll, x.wf
theorem OpC.ok.below {w w' : World} {o : OpC} (h : o.ok w) (b : Below w.heap.size w w') : o.ok w' := ⟨h.kind, h.n, h.s.below b, h.slen, h.sle, h.smax, h.swf, h.l.below b, h.llen, h.lle, h.lmax, h.lwf⟩
end Go.Proofs.YtaakghjbbkgbdaaGreatDoor
namespace Go.Proofs.YtaakghjbbkgbdaaGreatDoor
set_option linter.all false
open Go.RowKit

end Go.Proofs.YtaakghjbbkgbdaaGreatDoor
namespace Go.Proofs.YtaakghjbbkgbdaaGreatDoor
set_option linter.all false
open Go.RowKit

end Go.Proofs.YtaakghjbbkgbdaaGreatDoor
namespace Go.Proofs.YtaakghjbbkgbdaaGreatDoor
set_option linter.all false
open Go.RowKit

structure OpS where
  kind : Int
  n : Int
  sa : Option Addr
  sn : Nat
  sc : Nat
  sl : List SampV
  text : ByteArray
def OpS.cells (o : OpS) : List Value := [.int .i64 o.kind, .int .i64 o.n, .slice o.sa o.sn o.sc, .string o.text]
def OpS.val (o : OpS) : Value := .agg #[.int .i64 o.kind, .int .i64 o.n, .slice o.sa o.sn o.sc, .string o.text]
structure OpS.ok (w : World) (o : OpS) : Prop where
  kind : -9223372036854775808 ≤ o.kind ∧ o.kind ≤ 9223372036854775807
  n : -9223372036854775808 ≤ o.n ∧ o.n ≤ 9223372036854775807
  s : Rd w 3 o.sa o.sn (scells o.sl)
  slen : o.sl.length = o.sn
  sle : o.sn ≤ o.sc
  smax : o.sc ≤ maxLen
  swf : ∀ x ∈ o.sl, x.wf
  tmax : o.text.size ≤ maxLen
theorem OpS.ok.below {w w' : World} {o : OpS} (h : o.ok w) (b : Below w.heap.size w w') : o.ok w' := ⟨h.kind, h.n, h.s.below b, h.slen, h.sle, h.smax, h.swf, h.tmax⟩
end Go.Proofs.YtaakghjbbkgbdaaGreatDoor
namespace Go.Proofs.YtaakghjbbkgbdaaGreatDoor
set_option linter.all false
open Go.RowKit
end Go.Proofs.YtaakghjbbkgbdaaGreatDoor
namespace Go.Proofs.YtaakghjbbkgbdaaGreatDoor
set_option linter.all false
open Go.RowKit
end Go.Proofs.YtaakghjbbkgbdaaGreatDoor
namespace Go.Proofs.YtaakghjbbkgbdaaGreatDoor
set_option linter.all false
open Go.RowKit

end Go.Proofs.YtaakghjbbkgbdaaGreatDoor
namespace Go.Proofs.YtaakghjbbkgbdaaGreatDoor
set_option linter.all false
open Go.RowKit

end Go.Proofs.YtaakghjbbkgbdaaGreatDoor
namespace Go.Proofs.YtaakghjbbkgbdaaGreatDoor
set_option linter.all false
open Go.RowKit
end Go.Proofs.YtaakghjbbkgbdaaGreatDoor
namespace Go.Proofs.YtaakghjbbkgbdaaGreatDoor
set_option linter.all false
open Go.RowKit

end Go.Proofs.YtaakghjbbkgbdaaGreatDoor
namespace Go.Proofs.YtaakghjbbkgbdaaGreatDoor
set_option linter.all false
open Go.RowKit

end Go.Proofs.YtaakghjbbkgbdaaGreatDoor
namespace Go.Proofs.YtaakghjbbkgbdaaGreatDoor
set_option linter.all false
open Go.RowKit

end Go.Proofs.YtaakghjbbkgbdaaGreatDoor
namespace Go.Proofs.YtaakghjbbkgbdaaGreatDoor
set_option linter.all false
open Go.RowKit

def BookR (w : World) (g base k : Nat) : Prop :=
  ∃ (cs : Array Value) (V U : Value) (hs us : List (HV RecV)), Blk w g 42 cs ∧ cs[4]? = some V ∧ cs[5]? = some U ∧ (∀ j, j < 16 → j ≠ 4 → j ≠ 5 → cs[j]? = some (.slice none 0 0)) ∧
    Kind RecV.cells w base 93 208 7 V U hs us ∧ hs.length = k ∧ (∀ h ∈ hs, h.l.length ≤ 100000) ∧ base ≤ g ∧ base ≤ w.heap.size
theorem BookR.fr {w w' : World} {g base k : Nat} (h : BookR w g base k) (hb : Below w.heap.size w w') : BookR w' g base k := by
  obtain ⟨cs, V, U, hs, us, h1, h2, h3, h4, h5, h6, h7, h8, h9⟩ := h
  exact ⟨cs, V, U, hs, us, h1.below hb, h2, h3, h4, h5.fr0 (Fr.b0 hb), h6, h7, h8, Nat.le_trans h9 hb.size⟩
theorem BookR.new (w : World) : BookR (w.alloc (.cells #[.slice none 0 0, .slice none 0 0, .slice none 0 0, .slice none 0 0, .slice none 0 0, .slice none 0 0, .slice none 0 0, .slice none 0 0, .slice none 0 0, .slice none 0 0, .slice none 0 0, .slice none 0 0, .slice none 0 0, .slice none 0 0, .slice none 0 0, .slice none 0 0] 42)) w.heap.size w.heap.size 0 := by
  refine ⟨_, .slice none 0 0, .slice none 0 0, [], [], Blk.new _ _ _, rfl, rfl, fun j hj _ _ => ?_, Kind.nil, rfl, fun x hx => (by cases hx), Nat.le_refl _, by simp⟩
  have : j = 0 ∨ j = 1 ∨ j = 2 ∨ j = 3 ∨ j = 4 ∨ j = 5 ∨ j = 6 ∨ j = 7 ∨ j = 8 ∨ j = 9 ∨ j = 10 ∨ j = 11 ∨ j = 12 ∨ j = 13 ∨ j = 14 ∨ j = 15 := by omega
  rcases this with rfl | rfl | rfl | rfl | rfl | rfl | rfl | rfl | rfl | rfl | rfl | rfl | rfl | rfl | rfl | rfl <;> rfl
end Go.Proofs.YtaakghjbbkgbdaaGreatDoor
