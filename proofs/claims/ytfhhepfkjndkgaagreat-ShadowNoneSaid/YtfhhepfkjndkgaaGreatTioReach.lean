/- Tiers under a policy that may be: their reach. -/
import Derived.Test.YtfhhepfkjndkgaaGreatTio
namespace Go.Proofs.YtfhhepfkjndkgaaGreat
set_option linter.all false
open Go.RowKit

/-- A reach at t. -/
structure ReachIn (W : World) (t : Nat) (now : Int) (nm : ByteArray) (l : List TierV) (fl : List Int) (tA : Option Addr) (tc : Nat) (tB : Option Addr) (td : Nat) : Prop where
  c0 : W.cell? ⟨t, 0, none⟩ = some (.int .i64 now)
  c1 : W.cell? ⟨t, 1, none⟩ = some (.string nm)
  c2 : W.cell? ⟨t, 2, none⟩ = some (.slice tA l.length tc)
  c3 : W.cell? ⟨t, 3, none⟩ = some (.slice tB fl.length td)
  rt : Rd W 4 tA l.length (tcells l)
  rf : Rd W 1 tB fl.length (ints fl)
  le : l.length ≤ tc
section
variable {nm nm2 : ByteArray} {l lt : List TierV} {fl : List Int} {lo : Nat} {W W' : World} {t : Nat} {X : TiersX} {F : Nat → Prop} {c : Nat} {now : Int} {tA tB : Option Addr} {tc td : Nat}
theorem ReachIn.fr0 (h : ReachIn W t now nm l fl tA tc tB td) (f : Fr (fun _ => False) W W') : ReachIn W' t now nm l fl tA tc tB td :=
  ⟨f.cell h.c0 (fun h => h), f.cell h.c1 (fun h => h), f.cell h.c2 (fun h => h), f.cell h.c3 (fun h => h), h.rt.fr0 f, h.rf.fr0 f, h.le⟩
theorem Tio.reach (h : Tio nm l fl lo W t X F c) : ∃ tA tc tB td, ReachIn W t X.now nm l fl tA tc tB td := by
  obtain ⟨base, hb, tA, tc, tB, td, T, ct, tb, hi, _⟩ := h.on
  have hg := h.good
  have b := hi.blk
  have e1 := own_any hi.tiers
  have e2 := own_any hi.floors
  rw [hg.tiers, hg.floors, hg.name] at b
  rw [hg.tiers] at e1
  rw [hg.floors] at e2
  exact ⟨tA, tc, tB, td, b.cell 0, b.cell 1, b.cell 2, b.cell 3, e1.2.2.1, e2.2.2.1, e1.1⟩
end
end Go.Proofs.YtfhhepfkjndkgaaGreat
