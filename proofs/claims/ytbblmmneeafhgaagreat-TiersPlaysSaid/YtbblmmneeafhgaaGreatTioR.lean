/- The plain law of what a plan builds. -/
import Derived.Test.YtbblmmneeafhgaaGreatPlanBuild
import Derived.Test.YtbblmmneeafhgaaGreatTioA
namespace Go.Proofs.YtbblmmneeafhgaaGreat
set_option linter.all false
open Go.RowKit

section
variable {nm nm2 : ByteArray} {l lt : List TierV} {X : TiersX} {fl : List Int} {o : Int} {c : Nat}
end
end Go.Proofs.YtbblmmneeafhgaaGreat
namespace Go.Proofs.YtbblmmneeafhgaaGreat
set_option linter.all false
open Go.RowKit

structure ReachIn (W : World) (t : Nat) (now : Int) (nm : ByteArray) (l : List TierV) (fl : List Int) (tA : Option Addr) (tc : Nat) (tB : Option Addr) (td : Nat) : Prop where
 c0 : W.cell? ⟨t, 0, none⟩ = some (.int .i64 now)
 c1 : W.cell? ⟨t, 1, none⟩ = some (.string nm)
 c2 : W.cell? ⟨t, 2, none⟩ = some (.slice tA l.length tc)
 c3 : W.cell? ⟨t, 3, none⟩ = some (.slice tB fl.length td)
 rt : Rd W 4 tA l.length (tcells l)
 rf : Rd W 1 tB fl.length (ints fl)
 le : l.length ≤ tc
section
variable {nm nm2 : ByteArray} {l lt : List TierV} {fl : List Int} {lo : Nat} {W W' : World} {t : Nat} {X : TiersX} {F : Nat → Prop} {c : Nat} {now : Int} {tA tB : Option Addr} {tc td : Nat}
theorem ReachIn.fr0 (h : ReachIn W t now nm l fl tA tc tB td) (f : Fr (fun _ => False) W W') : ReachIn W' t now nm l fl tA tc tB td :=
 ⟨f.cell h.c0 (fun h => h), f.cell h.c1 (fun h => h), f.cell h.c2 (fun h => h), f.cell h.c3 (fun h => h), h.rt.fr0 f, h.rf.fr0 f, h.le⟩
theorem Tio.reach (h : Tio nm l fl lo W t X F c) : ∃ tA tc tB td, ReachIn W t X.now nm l fl tA tc tB td := by
 obtain ⟨base, hb, tA, tc, tB, td, T, ct, tb, hi, _⟩ := h.on
 have hg := h.good
 have b := hi.blk
 have e1 := own_any hi.tiers
 have e2 := own_any hi.floors
 rw [hg.tiers, hg.floors, hg.name] at b
 rw [hg.tiers] at e1
 rw [hg.floors] at e2
 exact ⟨tA, tc, tB, td, b.cell 0, b.cell 1, b.cell 2, b.cell 3, e1.2.2.1, e2.2.2.1, e1.1⟩
end
end Go.Proofs.YtbblmmneeafhgaaGreat
namespace Go.Proofs.YtbblmmneeafhgaaGreat
set_option linter.all false
open Go.RowKit

section
variable {nm nm2 : ByteArray} {l lt : List TierV} {fl : List Int} {o : Int} {lo : Nat} {W W' : World} {t : Nat} {X : TiersX} {F : Nat → Prop} {c : Nat} {now : Int} {tA tB : Option Addr} {tc td : Nat}
theorem reach_from (p : PolOk nm l) (h : ReachIn W t now nm l fl tA tc tB td) (hn : 0 ≤ now ∧ now ≤ 1099511627776) (k : Nat) (hk : k < l.length) :
  Calls Tryz.prog 62 #[.agg #[.int .i64 now, .string nm, .slice tA l.length tc, .slice tB fl.length td], .int .i64 k] W fun r w' => r = .returned (.int .i64 (fromV now l fl k)) ∧ Below W.heap.size W w' := by
 have h1 := fromI_any now (by unfold i64; omega) nm l tA l.length tc fl tB fl.length td k W h.rt h.rf p.wf (by have := p.five; omega)
 rw [fromI_nat hk] at h1
 exact h1
end
end Go.Proofs.YtbblmmneeafhgaaGreat
