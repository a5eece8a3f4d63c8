/- Walk of plan: fits. -/
import Derived.Test.YteajonicnkpbbaaGreatDoorTiersLoad
import Derived.Test.YteajonicnkpbbaaGreatDoorRollLaw
import Derived.Test.YteajonicnkpbbaaGreatDoorTioA
import Derived.Test.YteajonicnkpbbaaGreatDoorTk
namespace Go.Proofs.YteajonicnkpbbaaGreatDoor
set_option linter.all false
open Go.RowKit

end Go.Proofs.YteajonicnkpbbaaGreatDoor
namespace Go.Proofs.YteajonicnkpbbaaGreatDoor
set_option linter.all false
open Go.RowKit

def buildL (X : TiersX) (lt : List TierV) (ss : List Int) (fl : List Int) (j : Nat) : List RecV :=
 match ss[j]?, lt[j]? with
 | some s, some y => (match X.tiers[s.toNat]? with | some x => rollV x.every y.every (fromV X.now lt fl j) (X.tabs.getD s.toNat []) | none => [])
 | _, _ => []
def buildX (X : TiersX) (nm : ByteArray) (lt : List TierV) (ss : List Int) : TiersX :=
 ⟨X.now, nm, lt, basesV X.now X.tiers X.floors ss lt, (List.range lt.length).map (buildL X lt ss (basesV X.now X.tiers X.floors ss lt))⟩
theorem own_down {w : World} {base b n size : Nat} {e : TypeId} {v : Value} {xs : List Value} (h : w.ownsRow base e size v n xs) (hb : b ≤ base) : w.ownsRow b e size v n xs :=
 own_up h (fun k hk => Nat.le_trans hb (h.lt k hk).1)
theorem TiersOn.down {w : World} {t base b : Nat} {X : TiersX} {F : Nat → Prop} (h : TiersOn w t base X F) (hb : b ≤ base) : TiersOn w t b X F := by
 obtain ⟨A, c, B, d, T, ct, tb, hi, e⟩ := h
 exact ⟨A, c, B, d, T, ct, tb, ⟨hi.blk, own_down hi.tiers hb, own_down hi.floors hb, own_down hi.row hb, hi.tlen, hi.tab, hi.nodup, fun p hp => ⟨Nat.le_trans hb (hi.ge p hp).1, Nat.le_trans hb (hi.ge p hp).2⟩, Nat.le_trans hb hi.tge⟩, e⟩
end Go.Proofs.YteajonicnkpbbaaGreatDoor
namespace Go.Proofs.YteajonicnkpbbaaGreatDoor
set_option linter.all false
open Go.RowKit

theorem from_ge {now : Int} {l : List TierV} {fl : List Int} {k : Nat} {f : Int} (hk : k < l.length) (hf : fl[k]? = some f) : f ≤ fromV now l fl k ∧ fromV now l [] k ≤ fromV now l fl k := by
 unfold fromV
 rw [List.getElem?_eq_getElem hk, List.getElem?_eq_getElem (show min (k + 1) (l.length - 1) < l.length by omega), hf]
 simp only [List.getElem?_nil]
 omega
theorem srcs_get {now : Int} {lf : List TierV} {fl : List Int} {lt : List TierV} {j : Nat} {y : TierV} (hy : lt[j]? = some y) : (srcs now lf fl lt)[j]? = some (srcGo now lf fl y.every lf.length) := by
 unfold srcs
 rw [List.getElem?_map, hy]
 rfl
theorem bases_get {now : Int} {lf : List TierV} {fl : List Int} {ss : List Int} {lt : List TierV} {j : Nat} {s : Int} {y : TierV} (hs : ss[j]? = some s) (hy : lt[j]? = some y) : (basesV now lf fl ss lt)[j]? = some (ceilV (fromI now lf fl s) y.every) := by
 unfold basesV
 rw [List.getElem?_zipWith, hs, hy]
section
variable {nm nm2 : ByteArray} {l lt : List TierV} {X : TiersX} {fl : List Int} {o : Int} {c : Nat}
theorem build_src (p : checkB nm l = true) (hn : 0 ≤ X.now ∧ X.now ≤ 1099511627776) (hfl : ∀ f ∈ fl, 0 ≤ f ∧ f ≤ 2199023255552) (p2 : checkB nm2 lt = true) {j : Nat} {y : TierV} (hy : lt[j]? = some y) :
  ∃ (i : Nat) (x : TierV), l[i]? = some x ∧ (srcs o l fl lt)[j]? = some (i : Int) ∧ dividesB x.every y.every = true ∧ fromV X.now l fl i ≤ fromV X.now lt (basesV X.now l fl (srcs o l fl lt) lt) j ∧ (basesV X.now l fl (srcs o l fl lt) lt)[j]? = some (ceilV (fromV X.now l fl i) y.every) := by
 obtain ⟨i, x, hi, e1, hx, hd, _⟩ := src_law (now := o) (fl := fl) y.every p
 have hy1 := check_mem p2 (mem_of_get hy)
 have hx1 := check_mem p (mem_of_get hx)
 have hs : (srcs o l fl lt)[j]? = some (i : Int) := by rw [srcs_get hy, e1]
 have hb := bases_get (now := X.now) (lf := l) (fl := fl) hs hy
 rw [fromI_nat hi] at hb
 have hf := from_bd p hn.1 hn.2 hfl i
 have hc := ceil_law (t := fromV X.now l fl i) (e := y.every) hf.1 (by omega) hy1.1 hy1.2.1
 refine ⟨i, x, hx, hs, ?_, Int.le_trans hc.2.1 (from_ge (List.getElem?_eq_some_iff.1 hy).1 hb).1, hb⟩
 unfold dividesB
 simp only [Bool.and_eq_true, decide_eq_true_eq]
 exact ⟨hx1.1, hd⟩
theorem build_tab {ss : List Int} {j : Nat} (hj : j < lt.length) : (buildX X nm2 lt ss).tabs.getD j [] = buildL X lt ss (basesV X.now X.tiers X.floors ss lt) j := by
 show ((List.range lt.length).map _).getD j [] = _
 rw [List.getD_eq_getElem?_getD, List.getElem?_map, List.getElem?_range hj]
 rfl
end
end Go.Proofs.YteajonicnkpbbaaGreatDoor
namespace Go.Proofs.YteajonicnkpbbaaGreatDoor
set_option linter.all false
open Go.RowKit

structure ReachIn (W : World) (t : Nat) (now : Int) (nm : ByteArray) (l : List TierV) (fl : List Int) (tA : Option Addr) (tc : Nat) (tB : Option Addr) (td : Nat) : Prop where
 c0 : W.cell? ⟨t, 0, none⟩ = some (.int .i64 now)
 c1 : W.cell? ⟨t, 1, none⟩ = some (.string nm)
 c2 : W.cell? ⟨t, 2, none⟩ = some (.slice tA l.length tc)
 c3 : W.cell? ⟨t, 3, none⟩ = some (.slice tB fl.length td)
 rt : Rd W 4 tA l.length (tcells l)
 rf : Rd W 1 tB fl.length (ints fl)
 le : l.length ≤ tc
section
variable {nm nm2 : ByteArray} {l lt : List TierV} {fl : List Int} {lo : Nat} {W W' : World} {t : Nat} {X : TiersX} {F : Nat → Prop} {c : Nat} {now : Int} {tA tB : Option Addr} {tc td : Nat}
theorem ReachIn.fr0 (h : ReachIn W t now nm l fl tA tc tB td) (f : Fr (fun _ => False) W W') : ReachIn W' t now nm l fl tA tc tB td :=
 ⟨f.cell h.c0 (fun h => h), f.cell h.c1 (fun h => h), f.cell h.c2 (fun h => h), f.cell h.c3 (fun h => h), h.rt.fr0 f, h.rf.fr0 f, h.le⟩
theorem Tio.reach (h : Tio nm l fl lo W t X F c) : ∃ tA tc tB td, ReachIn W t X.now nm l fl tA tc tB td := by
 obtain ⟨base, hb, tA, tc, tB, td, T, ct, tb, hi, _⟩ := h.on
 have hg := h.good
 have b := hi.blk
 have e1 := own_any hi.tiers
 have e2 := own_any hi.floors
 rw [hg.tiers, hg.floors, hg.name] at b
 rw [hg.tiers] at e1
 rw [hg.floors] at e2
 exact ⟨tA, tc, tB, td, b.cell 0, b.cell 1, b.cell 2, b.cell 3, e1.2.2.1, e2.2.2.1, e1.1⟩
end
end Go.Proofs.YteajonicnkpbbaaGreatDoor
namespace Go.Proofs.YteajonicnkpbbaaGreatDoor
set_option linter.all false
open Go.RowKit

section
variable {nm nm2 : ByteArray} {l lt : List TierV} {fl : List Int} {o : Int} {lo : Nat} {W W' : World} {t : Nat} {X : TiersX} {F : Nat → Prop} {c : Nat} {now : Int} {tA tB : Option Addr} {tc td : Nat}
end
end Go.Proofs.YteajonicnkpbbaaGreatDoor
