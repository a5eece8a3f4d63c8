/- The plain law of what a plan builds. -/
import Derived.Test.YtfhhepfkjndkgaaGreatPlanBuild
import Derived.Test.YtfhhepfkjndkgaaGreatTioA
namespace Go.Proofs.YtfhhepfkjndkgaaGreat
set_option linter.all false
open Go.RowKit

theorem from_ge {now : Int} {l : List TierV} {fl : List Int} {k : Nat} {f : Int} (hk : k < l.length) (hf : fl[k]? = some f) : f ≤ fromV now l fl k ∧ fromV now l [] k ≤ fromV now l fl k := by
 unfold fromV
 rw [List.getElem?_eq_getElem hk, List.getElem?_eq_getElem (show min (k + 1) (l.length - 1) < l.length by omega), hf]
 simp only [List.getElem?_nil]
 omega
theorem srcs_get {now : Int} {lf : List TierV} {fl : List Int} {lt : List TierV} {j : Nat} {y : TierV} (hy : lt[j]? = some y) : (srcs now lf fl lt)[j]? = some (srcGo now lf fl y.every lf.length) := by
 unfold srcs
 rw [List.getElem?_map, hy]
 rfl
theorem bases_get {now : Int} {lf : List TierV} {fl : List Int} {ss : List Int} {lt : List TierV} {j : Nat} {s : Int} {y : TierV} (hs : ss[j]? = some s) (hy : lt[j]? = some y) : (basesV now lf fl ss lt)[j]? = some (ceilV (fromI now lf fl s) y.every) := by
 unfold basesV
 rw [List.getElem?_zipWith, hs, hy]
section
variable {nm nm2 : ByteArray} {l lt : List TierV} {X : TiersX} {fl : List Int} {o : Int} {c : Nat}
theorem build_src (p : checkB nm l = true) (hn : 0 ≤ X.now ∧ X.now ≤ 1099511627776) (hfl : ∀ f ∈ fl, 0 ≤ f ∧ f ≤ 2199023255552) (p2 : checkB nm2 lt = true) {j : Nat} {y : TierV} (hy : lt[j]? = some y) :
  ∃ (i : Nat) (x : TierV), l[i]? = some x ∧ (srcs o l fl lt)[j]? = some (i : Int) ∧ dividesB x.every y.every = true ∧ fromV X.now l fl i ≤ fromV X.now lt (basesV X.now l fl (srcs o l fl lt) lt) j ∧ (basesV X.now l fl (srcs o l fl lt) lt)[j]? = some (ceilV (fromV X.now l fl i) y.every) := by
 obtain ⟨i, x, hi, e1, hx, hd, _⟩ := src_law (now := o) (fl := fl) y.every p
 have hy1 := check_mem p2 (mem_of_get hy)
 have hx1 := check_mem p (mem_of_get hx)
 have hs : (srcs o l fl lt)[j]? = some (i : Int) := by rw [srcs_get hy, e1]
 have hb := bases_get (now := X.now) (lf := l) (fl := fl) hs hy
 rw [fromI_nat hi] at hb
 have hf := from_bd p hn.1 hn.2 hfl i
 have hc := ceil_law (t := fromV X.now l fl i) (e := y.every) hf.1 (by omega) hy1.1 hy1.2.1
 refine ⟨i, x, hx, hs, ?_, Int.le_trans hc.2.1 (from_ge (List.getElem?_eq_some_iff.1 hy).1 hb).1, hb⟩
 unfold dividesB
 simp only [Bool.and_eq_true, decide_eq_true_eq]
 exact ⟨hx1.1, hd⟩
theorem srcs_i64 (p : checkB nm l = true) : ∀ s ∈ srcs o l fl lt, i64 s := by
 intro s hs
 unfold srcs at hs
 obtain ⟨y, _, rfl⟩ := List.mem_map.1 hs
 have h1 := srcGo_in o l fl y.every l.length
 have h2 := (check_len p).2
 unfold i64
 omega
theorem build_fits (p : checkB nm l = true) (hn : 0 ≤ X.now ∧ X.now ≤ 1099511627776) (hfl : ∀ f ∈ fl, 0 ≤ f ∧ f ≤ 2199023255552) (p2 : checkB nm2 lt = true) : fitsL l nm2 lt (srcs o l fl lt) = true := by
 have hlen : (srcs o l fl lt).length = lt.length := by unfold srcs; rw [List.length_map]
 refine fitsL_yes p2 hlen (fun k hk => ?_)
 rw [hlen] at hk
 obtain ⟨i, x, hx, hs, hd, _⟩ := build_src (o := o) (X := X) p hn hfl p2 (List.getElem?_eq_getElem hk)
 unfold fitL
 rw [hs, List.getElem?_eq_getElem hk]
 simp only [Int.toNat_natCast]
 rw [hx]
 simpa using hd
theorem build_floors (p : checkB nm l = true) (hn : 0 ≤ X.now ∧ X.now ≤ 1099511627776) (hfl : ∀ f ∈ fl, 0 ≤ f ∧ f ≤ 2199023255552) (p2 : checkB nm2 lt = true) : floorsB lt (basesV X.now l fl (srcs o l fl lt) lt) = true := by
 unfold floorsB
 rw [List.all_eq_true]
 intro k _
 unfold floorOk
 split
 ·rename_i f t hf ht
  obtain ⟨i, x, hx, _, _, _, hb⟩ := build_src (o := o) (X := X) p hn hfl p2 ht
  rw [hb] at hf
  cases hf
  have hf := from_bd p hn.1 hn.2 hfl i
  have hy1 := check_mem p2 (mem_of_get ht)
  have hc := ceil_law (t := fromV X.now l fl i) (e := t.every) hf.1 (by omega) hy1.1 hy1.2.1
  unfold onB
  simp only [Bool.and_eq_true, decide_eq_true_eq]
  exact ⟨hc.2.2.2.1, hy1.1, hc.1⟩
 ·rfl
theorem build_ok (p : checkB nm l = true) (hg : GoodX nm l fl X c) (hfl : ∀ f ∈ fl, 0 ≤ f ∧ f ≤ 2199023255552) (p2 : checkB nm2 lt = true) : buildE X nm2 lt (srcs o l fl lt) = 0 := by
 have hn := hg.now
 unfold buildE
 rw [hg.tiers, hg.floors, if_pos (build_fits (X := X) p hn hfl p2)]
 unfold newE
 rw [if_pos p2, if_neg, if_pos (build_floors (X := X) p hn hfl p2)]
 unfold basesV
 rw [List.length_zipWith]
 omega
theorem build_tab {ss : List Int} {j : Nat} (hj : j < lt.length) : (buildX X nm2 lt ss).tabs.getD j [] = buildL X lt ss (basesV X.now X.tiers X.floors ss lt) j := by
 show ((List.range lt.length).map _).getD j [] = _
 rw [List.getD_eq_getElem?_getD, List.getElem?_map, List.getElem?_range hj]
 rfl
theorem build_goodX (p : checkB nm l = true) (hg : GoodX nm l fl X c) (hfl : ∀ f ∈ fl, 0 ≤ f ∧ f ≤ 2199023255552) (p2 : checkB nm2 lt = true) : GoodX nm2 lt (basesV X.now l fl (srcs o l fl lt) lt) (buildX X nm2 lt (srcs o l fl lt)) c := by
 have hgood : ∀ j, goodL (buildL X lt (srcs o l fl lt) (basesV X.now X.tiers X.floors (srcs o l fl lt) lt) j) := fun j => by
  unfold buildL
  split
  ·split
   ·exact rollV_right.1
   ·exact good_nil
  ·exact good_nil
 refine ⟨rfl, rfl, ?_, hg.now, by simp [buildX], fun m hm => ?_, fun k => ?_, fun k x hx r hr => ?_⟩
 ·show basesV X.now X.tiers X.floors _ lt = _
  rw [hg.tiers, hg.floors]
 ·obtain ⟨j, _, rfl⟩ := List.mem_map.1 hm
  exact buildL_len hg.len j
 ·by_cases hk : k < lt.length
  ·rw [build_tab hk]; exact hgood k
  ·show goodL (((List.range lt.length).map _).getD k [])
   rw [List.getD_eq_getElem?_getD, List.getElem?_eq_none (by simpa using hk)]
   exact good_nil
 ·have hk : k < lt.length := (List.getElem?_eq_some_iff.1 hx).1
  rw [build_tab hk] at hr
  unfold buildL at hr
  split at hr
  ·rename_i s y _ hy
   rw [hx] at hy
   cases hy
   split at hr
   ·have h := (rollV_right.2 r hr).1
    unfold rightR at h
    simp only [Bool.and_eq_true, decide_eq_true_eq] at h
    exact h.1.1.1 |> fun h1 => ⟨h1, h.1.1.2, h.1.2⟩
   ·cases hr
  ·cases hr
end
end Go.Proofs.YtfhhepfkjndkgaaGreat
namespace Go.Proofs.YtfhhepfkjndkgaaGreat
set_option linter.all false
open Go.RowKit

structure ReachIn (W : World) (t : Nat) (now : Int) (nm : ByteArray) (l : List TierV) (fl : List Int) (tA : Option Addr) (tc : Nat) (tB : Option Addr) (td : Nat) : Prop where
 c0 : W.cell? ⟨t, 0, none⟩ = some (.int .i64 now)
 c1 : W.cell? ⟨t, 1, none⟩ = some (.string nm)
 c2 : W.cell? ⟨t, 2, none⟩ = some (.slice tA l.length tc)
 c3 : W.cell? ⟨t, 3, none⟩ = some (.slice tB fl.length td)
 rt : Rd W 4 tA l.length (tcells l)
 rf : Rd W 1 tB fl.length (ints fl)
 le : l.length ≤ tc
section
variable {nm nm2 : ByteArray} {l lt : List TierV} {fl : List Int} {lo : Nat} {W W' : World} {t : Nat} {X : TiersX} {F : Nat → Prop} {c : Nat} {now : Int} {tA tB : Option Addr} {tc td : Nat}
theorem ReachIn.fr0 (h : ReachIn W t now nm l fl tA tc tB td) (f : Fr (fun _ => False) W W') : ReachIn W' t now nm l fl tA tc tB td :=
 ⟨f.cell h.c0 (fun h => h), f.cell h.c1 (fun h => h), f.cell h.c2 (fun h => h), f.cell h.c3 (fun h => h), h.rt.fr0 f, h.rf.fr0 f, h.le⟩
theorem Tio.reach (h : Tio nm l fl lo W t X F c) : ∃ tA tc tB td, ReachIn W t X.now nm l fl tA tc tB td := by
 obtain ⟨base, hb, tA, tc, tB, td, T, ct, tb, hi, _⟩ := h.on
 have hg := h.good
 have b := hi.blk
 have e1 := own_any hi.tiers
 have e2 := own_any hi.floors
 rw [hg.tiers, hg.floors, hg.name] at b
 rw [hg.tiers] at e1
 rw [hg.floors] at e2
 exact ⟨tA, tc, tB, td, b.cell 0, b.cell 1, b.cell 2, b.cell 3, e1.2.2.1, e2.2.2.1, e1.1⟩
end
end Go.Proofs.YtfhhepfkjndkgaaGreat
namespace Go.Proofs.YtfhhepfkjndkgaaGreat
set_option linter.all false
open Go.RowKit

section
variable {nm nm2 : ByteArray} {l lt : List TierV} {fl : List Int} {o : Int} {lo : Nat} {W W' : World} {t : Nat} {X : TiersX} {F : Nat → Prop} {c : Nat} {now : Int} {tA tB : Option Addr} {tc td : Nat}
theorem reach_from (p : PolOk nm l) (h : ReachIn W t now nm l fl tA tc tB td) (hn : 0 ≤ now ∧ now ≤ 1099511627776) (k : Nat) (hk : k < l.length) :
  Calls Tryz.prog 16 #[.agg #[.int .i64 now, .string nm, .slice tA l.length tc, .slice tB fl.length td], .int .i64 k] W fun r w' => r = .returned (.int .i64 (fromV now l fl k)) ∧ Below W.heap.size W w' := by
 have h1 := fromI_any now (by unfold i64; omega) nm l tA l.length tc fl tB fl.length td k W h.rt h.rf p.wf (by have := p.five; omega)
 rw [fromI_nat hk] at h1
 exact h1
theorem tio_build (p : PolOk nm l) (p2 : PolOk nm2 lt) (hnm2 : nm2.size ≤ maxLen) (h : Tio nm l fl lo W t X F c) (hc : c ≤ 1000000) (hfl : ∀ f ∈ fl, 0 ≤ f ∧ f ≤ 2199023255552) (A : Option Addr) (n cc : Nat) (S : Option Addr) (d : Nat) (ht : Rd W 4 A n (tcells lt)) (hnc : n ≤ cc) (hs : Rd W 1 S n (ints (srcs o l fl lt))) (lo2 : Nat) (hlo : lo2 ≤ W.heap.size) :
  Calls Tryz.prog 15 #[planV nm2 A n cc S n d, .pointer (some ⟨t, 0, none⟩)] W fun r w' => (∃ t' F', r = .returned (.tuple #[.pointer (some ⟨t', 0, none⟩), .int .i64 0]) ∧ Tio nm2 lt (basesV X.now l fl (srcs o l fl lt) lt) lo2 w' t' (buildX X nm2 lt (srcs o l fl lt)) F' c ∧ ∀ j, F' j → W.heap.size ≤ j) ∧ Below W.heap.size W w' := by
 obtain ⟨base, hb, ho⟩ := h.on
 have hn5 := p2.five
 have hnl := ht.tiers_len
 refine (build_any nm2 hnm2 lt A n cc (srcs o l fl lt) S n d t base X W ht hnc (by omega) p2.wf hs (by omega) (srcs_i64 p.ck) ho.at_ (h.five p) (h.short hc) h.good.now (by
  rw [h.good.floors]
  intro f hf
  have := hfl f hf
  unfold i64
  omega) (h.wf p)).mono ?_
 rintro r w' ⟨⟨h1, _⟩, hb⟩
 obtain ⟨t', F', rfl, h2, h3⟩ := h1 (build_ok p.ck h.good hfl p2.ck)
 exact ⟨⟨t', F', rfl, ⟨⟨_, hlo, h2⟩, build_goodX p.ck h.good hfl p2.ck⟩, h3⟩, hb⟩
theorem tio_make (p : PolOk nm l) (p2 : PolOk nm2 lt) (hnm : nm.size ≤ maxLen) (hnm2 : nm2.size ≤ maxLen) (h : ReachIn W t now nm l fl tA tc tB td) (hn : 0 ≤ now ∧ now ≤ 1099511627776) (A : Option Addr) (cc : Nat) (ht : Rd W 4 A l.length (tcells l)) (hnc : l.length ≤ cc) (A2 : Option Addr) (cc2 : Nat) (ht2 : Rd W 4 A2 lt.length (tcells lt)) (hnc2 : lt.length ≤ cc2) :
  Calls Tryz.prog 56 #[.agg #[.string nm, .slice A l.length cc], .agg #[.int .i64 now, .string nm, .slice tA l.length tc, .slice tB fl.length td], .agg #[.string nm2, .slice A2 lt.length cc2]] W
   fun r w' => (∃ A' c' S cs, r = .returned (.tuple #[planV nm2 A' lt.length c' S lt.length cs, .int .i64 0]) ∧ lt.length ≤ c' ∧ ∀ wx, Fr (fun k => k < W.heap.size) w' wx → Rd wx 4 A' lt.length (tcells lt) ∧ Rd wx 1 S lt.length (ints (srcs now l fl lt))) ∧ Below W.heap.size W w' := by
 refine (make_good nm l A l.length cc now (by unfold i64; omega) nm tA tc fl tB fl.length td nm2 lt A2 lt.length cc2 W ht hnc h.rt h.rf ht2 hnc2 p.wf p2.wf hnm hnm2 (by have := p.five; omega) (by have := p2.five; omega) p.ck p2.ck).mono ?_
 rintro r w' ⟨⟨A', c', S, cs, h1, h2, _, h3, h4, h5, h6⟩, hb⟩
 exact ⟨⟨A', c', S, cs, h1, h2, fun wx f => ⟨h3.fr f (fun k hk hk2 => absurd (h5 k hk) (Nat.not_le.2 hk2)), h4.fr f (fun k hk hk2 => absurd (h6 k hk) (Nat.not_le.2 hk2))⟩⟩, hb⟩
end
end Go.Proofs.YtfhhepfkjndkgaaGreat
