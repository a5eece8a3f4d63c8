/- The plain law of what a plan builds. -/
import Derived.Test.YtbblmmneeafhgaaGreatPlanBuild
import Derived.Test.YtbblmmneeafhgaaGreatTioA
namespace Go.Proofs.YtbblmmneeafhgaaGreat
set_option linter.all false
open Go.RowKit

section
variable {nm nm2 : ByteArray} {l lt : List TierV} {X : TiersX} {fl : List Int} {o : Int} {c : Nat}
theorem srcs_i64 (p : checkB nm l = true) : ∀ s ∈ srcs o l fl lt, i64 s := by
 intro s hs
 unfold srcs at hs
 obtain ⟨y, _, rfl⟩ := List.mem_map.1 hs
 have h1 := srcGo_in o l fl y.every l.length
 have h2 := (check_len p).2
 unfold i64
 omega
theorem build_tab {ss : List Int} {j : Nat} (hj : j < lt.length) : (buildX X nm2 lt ss).tabs.getD j [] = buildL X lt ss (basesV X.now X.tiers X.floors ss lt) j := by
 show ((List.range lt.length).map _).getD j [] = _
 rw [List.getD_eq_getElem?_getD, List.getElem?_map, List.getElem?_range hj]
 rfl
end
end Go.Proofs.YtbblmmneeafhgaaGreat
namespace Go.Proofs.YtbblmmneeafhgaaGreat
set_option linter.all false
open Go.RowKit

structure ReachIn (W : World) (t : Nat) (now : Int) (nm : ByteArray) (l : List TierV) (fl : List Int) (tA : Option Addr) (tc : Nat) (tB : Option Addr) (td : Nat) : Prop where
 c0 : W.cell? ⟨t, 0, none⟩ = some (.int .i64 now)
 c1 : W.cell? ⟨t, 1, none⟩ = some (.string nm)
 c2 : W.cell? ⟨t, 2, none⟩ = some (.slice tA l.length tc)
 c3 : W.cell? ⟨t, 3, none⟩ = some (.slice tB fl.length td)
 rt : Rd W 4 tA l.length (tcells l)
 rf : Rd W 1 tB fl.length (ints fl)
 le : l.length ≤ tc
section
variable {nm nm2 : ByteArray} {l lt : List TierV} {fl : List Int} {lo : Nat} {W W' : World} {t : Nat} {X : TiersX} {F : Nat → Prop} {c : Nat} {now : Int} {tA tB : Option Addr} {tc td : Nat}
theorem ReachIn.fr0 (h : ReachIn W t now nm l fl tA tc tB td) (f : Fr (fun _ => False) W W') : ReachIn W' t now nm l fl tA tc tB td :=
 ⟨f.cell h.c0 (fun h => h), f.cell h.c1 (fun h => h), f.cell h.c2 (fun h => h), f.cell h.c3 (fun h => h), h.rt.fr0 f, h.rf.fr0 f, h.le⟩
theorem Tio.reach (h : Tio nm l fl lo W t X F c) : ∃ tA tc tB td, ReachIn W t X.now nm l fl tA tc tB td := by
 obtain ⟨base, hb, tA, tc, tB, td, T, ct, tb, hi, _⟩ := h.on
 have hg := h.good
 have b := hi.blk
 have e1 := own_any hi.tiers
 have e2 := own_any hi.floors
 rw [hg.tiers, hg.floors, hg.name] at b
 rw [hg.tiers] at e1
 rw [hg.floors] at e2
 exact ⟨tA, tc, tB, td, b.cell 0, b.cell 1, b.cell 2, b.cell 3, e1.2.2.1, e2.2.2.1, e1.1⟩
end
end Go.Proofs.YtbblmmneeafhgaaGreat
namespace Go.Proofs.YtbblmmneeafhgaaGreat
set_option linter.all false
open Go.RowKit

section
variable {nm nm2 : ByteArray} {l lt : List TierV} {fl : List Int} {o : Int} {lo : Nat} {W W' : World} {t : Nat} {X : TiersX} {F : Nat → Prop} {c : Nat} {now : Int} {tA tB : Option Addr} {tc td : Nat}
theorem reach_from (p : PolOk nm l) (h : ReachIn W t now nm l fl tA tc tB td) (hn : 0 ≤ now ∧ now ≤ 1099511627776) (k : Nat) (hk : k < l.length) :
  Calls Tryz.prog 62 #[.agg #[.int .i64 now, .string nm, .slice tA l.length tc, .slice tB fl.length td], .int .i64 k] W fun r w' => r = .returned (.int .i64 (fromV now l fl k)) ∧ Below W.heap.size W w' := by
 have h1 := fromI_any now (by unfold i64; omega) nm l tA l.length tc fl tB fl.length td k W h.rt h.rf p.wf (by have := p.five; omega)
 rw [fromI_nat hk] at h1
 exact h1
theorem tio_make (p : PolOk nm l) (p2 : PolOk nm2 lt) (hnm : nm.size ≤ maxLen) (hnm2 : nm2.size ≤ maxLen) (h : ReachIn W t now nm l fl tA tc tB td) (hn : 0 ≤ now ∧ now ≤ 1099511627776) (A : Option Addr) (cc : Nat) (ht : Rd W 4 A l.length (tcells l)) (hnc : l.length ≤ cc) (A2 : Option Addr) (cc2 : Nat) (ht2 : Rd W 4 A2 lt.length (tcells lt)) (hnc2 : lt.length ≤ cc2) :
  Calls Tryz.prog 33 #[.agg #[.string nm, .slice A l.length cc], .agg #[.int .i64 now, .string nm, .slice tA l.length tc, .slice tB fl.length td], .agg #[.string nm2, .slice A2 lt.length cc2]] W
   fun r w' => (∃ A' c' S cs, r = .returned (.tuple #[planV nm2 A' lt.length c' S lt.length cs, .int .i64 0]) ∧ lt.length ≤ c' ∧ ∀ wx, Fr (fun k => k < W.heap.size) w' wx → Rd wx 4 A' lt.length (tcells lt) ∧ Rd wx 1 S lt.length (ints (srcs now l fl lt))) ∧ Below W.heap.size W w' := by
 refine (make_good nm l A l.length cc now (by unfold i64; omega) nm tA tc fl tB fl.length td nm2 lt A2 lt.length cc2 W ht hnc h.rt h.rf ht2 hnc2 p.wf p2.wf hnm hnm2 (by have := p.five; omega) (by have := p2.five; omega) p.ck p2.ck).mono ?_
 rintro r w' ⟨⟨A', c', S, cs, h1, h2, _, h3, h4, h5, h6⟩, hb⟩
 exact ⟨⟨A', c', S, cs, h1, h2, fun wx f => ⟨h3.fr f (fun k hk hk2 => absurd (h5 k hk) (Nat.not_le.2 hk2)), h4.fr f (fun k hk hk2 => absurd (h6 k hk) (Nat.not_le.2 hk2))⟩⟩, hb⟩
end
end Go.Proofs.YtbblmmneeafhgaaGreat
