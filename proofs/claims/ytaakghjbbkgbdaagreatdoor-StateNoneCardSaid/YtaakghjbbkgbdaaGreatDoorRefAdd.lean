/- Walk of the document's table: Add. -/
import Derived.Test.YtaakghjbbkgbdaaGreatDoorRefMerge
import Derived.Test.YtaakghjbbkgbdaaGreatDoorRefGrid
import Derived.Test.YtaakghjbbkgbdaaGreatDoorReachC
import Derived.Deep.DeepCutAuto
import Derived.Deep.CutBlock
import Derived.Test.YtaakghjbbkgbdaaGreatDoorTk
namespace Go.Proofs.YtaakghjbbkgbdaaGreatDoor
set_option linter.all false
open Go.RowKit

structure RTabF (w : World) (g lo : Nat) (F : Nat → Prop) (every : Int) (l : List RecV) : Prop where
 ex : ∃ A c, Blk w g 214 #[.int .i64 every, .slice A l.length c] ∧ w.ownsRow lo 208 7 (.slice A l.length c) l.length (rcells l) ∧ ∀ j, rowF (.slice A l.length c) j → F j
 wf : ∀ r ∈ l, r.wf
 sorted : Sorted l
 ge : lo ≤ g
theorem Blk.five {w : World} {g : Nat} {t : TypeId} {a0 a1 b0 c0 d0 e0 f0 a b c d e : Value} (h : Blk w g t #[a0, a1, b0, c0, d0, e0, f0]) : Blk (((((w.setCell ⟨g, 2, none⟩ a).setCell ⟨g, 3, none⟩ b).setCell ⟨g, 4, none⟩ c).setCell ⟨g, 5, none⟩ d).setCell ⟨g, 6, none⟩ e) g t #[a0, a1, a, b, c, d, e] := by
 have := ((((h.set_ 2 a).set_ 3 b).set_ 4 c).set_ 5 d).set_ 6 e
 simpa using this
theorem Fr.five {w1 w : World} {F : Nat → Prop} (h : Fr F w1 w) {g : Nat} (hg : F g) (a b c d e : Value) : Fr F w1 (((((w.setCell ⟨g, 2, none⟩ a).setCell ⟨g, 3, none⟩ b).setCell ⟨g, 4, none⟩ c).setCell ⟨g, 5, none⟩ d).setCell ⟨g, 6, none⟩ e) :=
 ((((h.setCell (p := ⟨g, 2, none⟩) (.inl hg) a).setCell (p := ⟨g, 3, none⟩) (.inl hg) b).setCell (p := ⟨g, 4, none⟩) (.inl hg) c).setCell (p := ⟨g, 5, none⟩) (.inl hg) d).setCell (p := ⟨g, 6, none⟩) (.inl hg) e
end Go.Proofs.YtaakghjbbkgbdaaGreatDoor
