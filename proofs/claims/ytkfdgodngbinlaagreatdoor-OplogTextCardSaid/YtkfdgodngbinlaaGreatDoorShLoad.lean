/- Walk of shadow: Fits. -/
import Derived.Test.YtkfdgodngbinlaaGreatDoorShA
import Derived.Test.YtkfdgodngbinlaaGreatDoorPlanBuild
import Derived.Test.YtkfdgodngbinlaaGreatDoorFills
import Derived.Test.YtkfdgodngbinlaaGreatDoorTiersCopy
import Derived.Test.YtkfdgodngbinlaaGreatDoorTk
namespace Go.Proofs.YtkfdgodngbinlaaGreatDoor
set_option linter.all false
open Go.RowKit

set_option maxRecDepth 100000 in
set_option maxHeartbeats 8000000 in
theorem sfits_any {nm nm2 : ByteArray} {l lt : List TierV} {fl : List Int} {o : Int} {lo : Nat} {W : World} {t s base : Nat} {X : TiersX} {S : ShX} {Ft F : Nat → Prop} {cc : Nat} (p : PolOk nm l) (p2 : PolOk nm2 lt) (hnm2 : nm2.size ≤ maxLen) (h : Tio nm l fl lo W t X Ft cc) (hc : cc ≤ 1000000) (hfl : ∀ f ∈ fl, 0 ≤ f ∧ f ≤ 2199023255552) (hs : ShOn W s base S F) (h1 : S.name = nm2) (h2 : S.tiers = lt) (h3 : S.srcs = srcs o l fl lt) :
  Calls Tryz.prog 50 #[.pointer (some ⟨s, 0, none⟩), .pointer (some ⟨t, 0, none⟩)] W fun r w' => r = .returned (.bool (decide (((needX (buildX X nm2 lt (srcs o l fl lt)) : Nat) : Int) ≤ S.bound))) ∧ Below W.heap.size W w' := by
 obtain ⟨A, c, B, d, T, ct, tb, hi, rfl⟩ := hs
 obtain ⟨n, hn0⟩ : ∃ n, lt.length = n := ⟨_, rfl⟩
 have hSn : S.tiers.length = n := by rw [h2, hn0]
 have hSm : S.srcs.length = n := by rw [h3]; unfold srcs; rw [List.length_map, hn0]
 have hfive := p2.five
 have HI := Lib.hid hi
 have htc : n ≤ c := by have := (own_any hi.tiers).1; omega
 have HBu : Hid (Calls Tryz.prog 86 #[.agg #[.string nm2, .slice A n c, .slice B n d], .pointer (some ⟨t, 0, none⟩)] W fun r w' => (∃ t' F', r = .returned (.tuple #[.pointer (some ⟨t', 0, none⟩), .int .i64 0]) ∧ Tio nm2 lt (basesV X.now l fl (srcs o l fl lt) lt) W.heap.size w' t' (buildX X nm2 lt (srcs o l fl lt)) F' cc ∧ ∀ j, F' j → W.heap.size ≤ j) ∧ Below W.heap.size W w') := by
  have q1 := (own_any HI.out.tiers).2.2.1
  have q2 := (own_any HI.out.srcs).2.2.1
  rw [hSn, h2] at q1
  rw [hSm, h3] at q2
  exact tio_build p p2 hnm2 h hc hfl A n c B d q1 htc q2 W.heap.size (Nat.le_refl _)
 obtain ⟨c0, c1, c2, c3, _, _⟩ := hi.cells (Fr.refl (fun _ => False) W) (fun h => h)
 rw [h1] at c0
 rw [hSn] at c1
 rw [hSm] at c2
 have HC3 : Hid (∀ W', Fr (fun _ => False) W W' → W'.cell? ⟨s, 3, none⟩ = some (.int .i64 S.bound)) := fun W' f => f.cell c3 (fun h => h)
 obtain ⟨bs, hbs⟩ : ∃ v, basesV X.now l fl (srcs o l fl lt) lt = v := ⟨_, rfl⟩
 obtain ⟨Y, hY⟩ : ∃ v, buildX X nm2 lt (srcs o l fl lt) = v := ⟨_, rfl⟩
 rw [hbs, hY] at HBu
 rw [hY]
 obtain ⟨bd, hbd⟩ : ∃ v, S.bound = v := ⟨_, rfl⟩
 rw [hbd] at HC3 ⊢
 obtain ⟨N, hN⟩ : ∃ v, needX Y = v := ⟨_, rfl⟩
 have HN := Lib.hid hN
 rw [hN]
 obtain ⟨bb, hbb⟩ : ∃ b, decide (((N : Nat) : Int) ≤ bd) = b := ⟨_, rfl⟩
 rw [hbb]
 clear hi hSn hSm hn0 hbs hY h1 h2 h3 h hbd hN c3
 go_enter Tryz.func50, Tryz.ntmps50
 go_wp2_with fail
 refine HBu.out.mono ?_
 rintro r w1 ⟨⟨u, Fu, rfl, T1, _⟩, b1⟩
 have F1 : Hid (Fr (fun _ => False) W w1) := Fr.b0 b1
 have HT1 := Lib.hid T1
 have HNe : Hid (∀ W', Fr (fun _ => False) w1 W' → Calls Tryz.prog 49 #[.pointer (some ⟨u, 0, none⟩)] W' fun r w' => r = .returned (.int .i64 (N : Nat)) ∧ Below W'.heap.size W' w') := fun W' f => by
  have := tio_need p2 (HT1.out.fr0 f) hc
  rw [HN.out] at this
  exact this
 have HC1 : Hid (∀ W', Fr (fun _ => False) w1 W' → W'.cell? ⟨s, 3, none⟩ = some (.int .i64 bd)) := fun W' f => HC3.out W' (F1.out.trans f (fun _ h => h.elim))
 clear T1 b1 HBu c0 c1 c2
 go_wp2_with fail
 refine wp_region_held_drew (S := fun W_ => Fr (fun _ => False) w1 W_) (by kernel_rfl) ((Fr.refl _ w1).drew) (fun hHeld => ?_)
 refine tq 8 [0,1,2,3,5,6,7,8] ?_
 iterate 2 refine sf HC1.out ?_
 iterate 6 (refine sf HC1.out ?_; try simp only [Act.put, sA, sB, sC])
 refine sz ?_
 try simp only [Act.put, sA, sB, sC]
 refine rl 4 rfl (fun K hK => ?_)
 go_simp
 go_wp2_with (first | (go_at_call 49; refine (HNe.out _ hHeld).mono ?_; rintro r wa ⟨rfl, ba⟩))
 refine hK.out _ _ (hHeld.trans (Fr.b0 ba) (fun _ h => h.elim)) (fun hHeld => ?_)
 clear hK K
 try simp only [Act.put, sA, sB, sC]
 refine tq 3 [9,10,11] ?_
 iterate 2 refine sf HC1.out ?_
 refine sf HC1.out ?_
 try simp only [Act.put, sA, sB, sC]
 refine sz ?_
 try simp only [Act.put, sA, sB, sC]
 refine wpAnyH_done (by kernel_rfl) ?_ _
 have Fl : Hid (Fr (fun _ => False) w1 wa) := hHeld
 clear hHeld ba
 go_wp2_with fail
 go_ret
 exact ⟨by first | rfl | simp [hbb], (F1.out.trans Fl.out (fun _ h => h.elim)).below (fun _ h => h.elim)⟩
end Go.Proofs.YtkfdgodngbinlaaGreatDoor
namespace Go.Proofs.YtkfdgodngbinlaaGreatDoor
set_option linter.all false
open Go.RowKit

end Go.Proofs.YtkfdgodngbinlaaGreatDoor
namespace Go.Proofs.YtkfdgodngbinlaaGreatDoor
set_option linter.all false
open Go.RowKit

end Go.Proofs.YtkfdgodngbinlaaGreatDoor
namespace Go.Proofs.YtkfdgodngbinlaaGreatDoor
set_option linter.all false
open Go.RowKit

theorem ShIn.down {w : World} {t base b : Nat} {X : ShX} {A B T : Option Addr} {c d ct : Nat} {tb : List (Nat × Nat)} (h : ShIn w t base X A c B d T ct tb) (hb : b ≤ base) : ShIn w t b X A c B d T ct tb :=
 ⟨h.blk, own_le h.tiers hb, own_le h.srcs hb, own_le h.row hb, h.tlen, h.tab, h.nodup, fun p hp => ⟨Nat.le_trans hb (h.ge p hp).1, Nat.le_trans hb (h.ge p hp).2⟩, Nat.le_trans hb h.tge⟩
theorem ShAt.down {w : World} {t base b : Nat} {X : ShX} (h : ShAt w t base X) (hb : b ≤ base) : ShAt w t b X := by
 obtain ⟨A, c, B, d, T, ct, tb, hi⟩ := h
 exact ⟨A, c, B, d, T, ct, tb, hi.down hb⟩
theorem ShOn.down {w : World} {t base b : Nat} {X : ShX} {F : Nat → Prop} (h : ShOn w t base X F) (hb : b ≤ base) : ShOn w t b X F := by
 obtain ⟨A, c, B, d, T, ct, tb, hi, e⟩ := h
 exact ⟨A, c, B, d, T, ct, tb, hi.down hb, e⟩
theorem sum_le_mul {L : List Nat} {k : Nat} (h : ∀ x ∈ L, x ≤ k) : L.sum ≤ L.length * k := by
 induction L with
 | nil => simp
 | cons a L ih =>
  have h1 := ih (fun x hx => h x (List.mem_cons_of_mem _ hx))
  have h2 := h a (by simp)
  rw [List.sum_cons, List.length_cons, Nat.succ_mul]
  omega
theorem need_small {nm : ByteArray} {l : List TierV} {fl : List Int} {X : TiersX} {c : Nat} (p : PolOk nm l) (hg : GoodX nm l fl X c) (hc : c ≤ 1000000) : needX X ≤ 1000000000 := by
 unfold needX
 have h := sum_le_mul (L := needsX X) (k := 8 * (1000000 + 2)) (fun x hx => by
  obtain ⟨k, hk⟩ := List.getElem?_of_mem hx
  unfold needsX at hk
  rw [List.getElem?_zipWith_eq_some] at hk
  obtain ⟨a, b, ha, hb, rfl⟩ := hk
  rw [hg.tiers] at ha
  have h8 := (check_mem p.ck (mem_of_get ha)).2.2.2.2.2
  have h9 := needV_le (max a.shards 1) (by omega) b
  have h10 := hg.len b (mem_of_get hb)
  omega)
 have hl : (needsX X).length ≤ 5 := by
  unfold needsX
  rw [List.length_zipWith, hg.tiers]
  have := p.five
  omega
 have : (needsX X).length * (8 * (1000000 + 2)) ≤ 5 * (8 * (1000000 + 2)) := Nat.mul_le_mul_right _ hl
 omega
end Go.Proofs.YtkfdgodngbinlaaGreatDoor
