/- What a plan builds, whatever the plan is; of nil tiers. -/
import Derived.Test.YtbblmmneeafhgaaGreatTioR
namespace Go.Proofs.YtbblmmneeafhgaaGreat
set_option linter.all false
open Go.RowKit

theorem buildE_fits {X : TiersX} {nm2 : ByteArray} {lt : List TierV} {ss : List Int} (hE : buildE X nm2 lt ss = 0) : checkB nm2 lt = true := by
 unfold buildE at hE
 split at hE
 ·rename_i h; exact (fitsL_at h).1
 ·cases hE
theorem build_goodE {nm nm2 : ByteArray} {l lt : List TierV} {fl ss : List Int} {X : TiersX} {c : Nat} (hg : GoodX nm l fl X c) : GoodX nm2 lt (basesV X.now X.tiers X.floors ss lt) (buildX X nm2 lt ss) c := by
 have hgood : ∀ j, goodL (buildL X lt ss (basesV X.now X.tiers X.floors ss lt) j) := fun j => by
  unfold buildL
  split
  ·split
   ·exact rollV_right.1
   ·exact good_nil
  ·exact good_nil
 refine ⟨rfl, rfl, rfl, hg.now, by simp [buildX], fun m hm => ?_, fun k => ?_, fun k x hx r hr => ?_⟩
 ·obtain ⟨j, _, rfl⟩ := List.mem_map.1 hm
  exact buildL_len hg.len j
 ·by_cases hk : k < lt.length
  ·rw [build_tab hk]; exact hgood k
  ·show goodL (((List.range lt.length).map _).getD k [])
   rw [List.getD_eq_getElem?_getD, List.getElem?_eq_none (by simpa using hk)]
   exact good_nil
 ·have hk : k < lt.length := (List.getElem?_eq_some_iff.1 hx).1
  rw [build_tab hk] at hr
  unfold buildL at hr
  split at hr
  ·rename_i s y _ hy
   rw [hx] at hy
   cases hy
   split at hr
   ·have h := (rollV_right.2 r hr).1
    unfold rightR at h
    simp only [Bool.and_eq_true, decide_eq_true_eq] at h
    exact h.1.1.1 |> fun h1 => ⟨h1, h.1.1.2, h.1.2⟩
   ·cases hr
  ·cases hr
set_option maxRecDepth 100000 in
set_option maxHeartbeats 4000000 in
theorem fits_nil (nm : ByteArray) (hnm : nm.size ≤ maxLen) (lt : List TierV) (A : Option Addr) (n c : Nat) (S : Option Addr) (m d : Nat) (w : World) (ht : Rd w 4 A n (tcells lt)) (hnc : n ≤ c) (hwt : ∀ t ∈ lt, t.wf) :
  Calls Tryz.prog 119 #[planV nm A n c S m d, .pointer none] w fun r w' => r = .returned (.bool false) ∧ Below w.heap.size w w' := by
 unfold planV
 have HCk : Hid (∀ w', Fr (fun _ => False) w w' → Calls Tryz.prog 42 #[.agg #[.string nm, .slice A n c]] w' fun r w'' => (∃ k : Int, r = .returned (.tuple #[.int .i64 (errOf (checkB nm lt)), .int .i64 k])) ∧ Below w'.heap.size w' w'') :=
  fun w' h => check_any nm hnm lt A n c w' (ht.fr0 h) hnc (fun t ht => (hwt t ht).2.2.2)
 have F0 := Lib.hid (Fr.none_alloc w (.cells #[.string nm, .slice A n c, .slice S m d] 76))
 obtain ⟨E, hE⟩ : ∃ v, errOf (checkB nm lt) = v := ⟨_, rfl⟩
 rw [hE] at HCk
 clear ht hwt hE
 go_enter Tryz.func119, Tryz.ntmps119
 go_wp2_with fail
 obtain ⟨W1, hW1⟩ : ∃ W1, W1 = w.alloc (.cells #[.string nm, .slice A n c, .slice S m d] 76) := ⟨_, rfl⟩
 rw [← hW1]
 rw [← hW1] at F0
 clear hW1
 refine (HCk.out _ F0.out).mono ?_
 rintro r w2 ⟨⟨kk, rfl⟩, b2⟩
 have F2 := Lib.hid (F0.out.trans (Fr.b0 b2) (fun _ h => h.elim))
 clear b2 F0 HCk
 go_wp2_with fail
 go_ret
 exact ⟨rfl, F2.out.below (fun _ h => h.elim)⟩
set_option maxRecDepth 100000 in
set_option maxHeartbeats 4000000 in
theorem build_nil (nm : ByteArray) (hnm : nm.size ≤ maxLen) (lt : List TierV) (A : Option Addr) (n c : Nat) (S : Option Addr) (m d : Nat) (w : World) (ht : Rd w 4 A n (tcells lt)) (hnc : n ≤ c) (hwt : ∀ t ∈ lt, t.wf) :
  Calls Tryz.prog 34 #[planV nm A n c S m d, .pointer none] w fun r w' => r = .returned (.tuple #[.pointer none, .int .i64 1]) ∧ Below w.heap.size w w' := by
 have F0 := Lib.hid (Fr.none_alloc w (.cells #[.string nm, .slice A n c, .slice S m d] 76))
 have HFi : Hid (∀ W, Fr (fun _ => False) w W → Calls Tryz.prog 119 #[.agg #[.string nm, .slice A n c, .slice S m d], .pointer none] W fun r w' => r = .returned (.bool false) ∧ Below W.heap.size W w') := fun W f =>
  fits_nil nm hnm lt A n c S m d W (ht.fr0 f) hnc hwt
 unfold planV
 clear ht hwt
 go_enter Tryz.func34, Tryz.ntmps34
 go_wp2_with fail
 refine (HFi.out _ F0.out).mono ?_
 rintro r w2 ⟨rfl, b2⟩
 have F2 := Lib.hid (F0.out.trans (Fr.b0 b2) (fun _ h => h.elim))
 clear b2
 go_wp2_with fail
 exact bodyPost_ret (v := .tuple #[.pointer none, .int .i64 1]) (by simp [results, Tryz.results34, go_sem]) rfl ⟨rfl, F2.out.below (fun _ h => h.elim)⟩
end Go.Proofs.YtbblmmneeafhgaaGreat
