/- Walk of plan: fits. -/
import Derived.Test.YtkfdgodngbinlaaGreatDoorTiersLoad
import Derived.Test.YtkfdgodngbinlaaGreatDoorRollLaw
import Derived.Test.YtkfdgodngbinlaaGreatDoorGoodX
import Derived.Test.YtkfdgodngbinlaaGreatDoorTk
namespace Go.Proofs.YtkfdgodngbinlaaGreatDoor
set_option linter.all false
open Go.RowKit

def fitL (l : List TierV) (lt : List TierV) (ss : List Int) (i : Nat) : Bool :=
 match ss[i]?, lt[i]? with
 | some s, some y => decide (0 ≤ s) && (match l[s.toNat]? with | some x => dividesB x.every y.every | none => false)
 | _, _ => false
def fitsL (l : List TierV) (nm : ByteArray) (lt : List TierV) (ss : List Int) : Bool := checkB nm lt && decide (ss.length = lt.length) && (List.range ss.length).all (fitL l lt ss)
theorem fitsL_no {l : List TierV} {nm : ByteArray} {lt : List TierV} {ss : List Int} {k : Nat} (hk : k < ss.length) (h : fitL l lt ss k = false) : fitsL l nm lt ss = false := by
 unfold fitsL
 rw [Bool.and_eq_false_iff]
 right
 rw [List.all_eq_false]
 exact ⟨k, List.mem_range.2 hk, by rw [h]; simp⟩
theorem fitsL_yes {l : List TierV} {nm : ByteArray} {lt : List TierV} {ss : List Int} (h1 : checkB nm lt = true) (h2 : ss.length = lt.length) (h : ∀ k, k < ss.length → fitL l lt ss k = true) : fitsL l nm lt ss = true := by
 unfold fitsL
 rw [h1, decide_eq_true h2, List.all_eq_true.2 (fun k hk => h k (List.mem_range.1 hk))]
 rfl
theorem fitsL_at {l : List TierV} {nm : ByteArray} {lt : List TierV} {ss : List Int} (h : fitsL l nm lt ss = true) : checkB nm lt = true ∧ ss.length = lt.length ∧ ∀ k, k < lt.length → ∃ (i : Nat) (x y : TierV), ss[k]? = some (i : Int) ∧ l[i]? = some x ∧ lt[k]? = some y ∧ dividesB x.every y.every = true := by
 unfold fitsL at h
 simp only [Bool.and_eq_true, decide_eq_true_eq] at h
 obtain ⟨⟨h1, h2⟩, h3⟩ := h
 refine ⟨h1, h2, fun k hk => ?_⟩
 have h4 := List.all_eq_true.1 h3 k (List.mem_range.2 (by omega))
 have e1 : ss[k]? = some ss[k] := List.getElem?_eq_getElem (by omega)
 have e2 : lt[k]? = some lt[k] := List.getElem?_eq_getElem hk
 unfold fitL at h4
 rw [e1, e2] at h4
 simp only [Bool.and_eq_true, decide_eq_true_eq] at h4
 obtain ⟨h5, h6⟩ := h4
 obtain ⟨i, hi⟩ := Int.eq_ofNat_of_zero_le h5
 rw [hi] at h6 e1
 rw [Int.toNat_natCast] at h6
 cases hx : l[i]? with
 | none => rw [hx] at h6; simp at h6
 | some x => rw [hx] at h6; exact ⟨i, x, _, e1, hx, e2, h6⟩

set_option maxRecDepth 100000 in
set_option maxHeartbeats 8000000 in
theorem planfits_any (nm : ByteArray) (hnm : nm.size ≤ maxLen) (lt : List TierV) (A : Option Addr) (n c : Nat) (ss : List Int) (S : Option Addr) (m d : Nat) (t base : Nat) (X : TiersX) (w : World) (ht : Rd w 4 A n (tcells lt)) (hnc : n ≤ c) (hn9 : n ≤ 1099511627776) (hwt : ∀ t ∈ lt, t.wf) (hs : Rd w 1 S m (ints ss)) (hm9 : m ≤ 1099511627776) (hss : ∀ s ∈ ss, i64 s) (h : TiersAt w t base X) (hn : X.tiers.length ≤ 1000) (hwf : ∀ x ∈ X.tiers, x.wf) :
  Calls Tryz.prog 133 #[planV nm A n c S m d, .pointer (some ⟨t, 0, none⟩)] w fun r w' => r = .returned (.bool (fitsL X.tiers nm lt ss)) ∧ Below w.heap.size w w' := by
 unfold planV
 have HCk : Hid (∀ w', Fr (fun _ => False) w w' → Calls Tryz.prog 80 #[.agg #[.string nm, .slice A n c]] w' fun r w'' => (∃ k : Int, r = .returned (.tuple #[.int .i64 (errOf (checkB nm lt)), .int .i64 k])) ∧ Below w'.heap.size w' w'') :=
  fun w' h => check_any nm hnm lt A n c w' (ht.fr0 h) hnc (fun t ht => (hwt t ht).2.2.2)
 obtain ⟨tA, tc, tB, td, T, ct, tb, hi⟩ := h
 have Ht := Lib.hid ht
 have Hs := Lib.hid hs
 have Hln := Lib.hid ht.tiers_len
 have Hlm : Hid (ss.length = m) := Rd.len_map hs
 have Hwt := Lib.hid hwt
 have Hwf := Lib.hid hwf
 have Hss := Lib.hid hss
 have Hi := Lib.hid hi
 have F0 := Lib.hid (Fr.none_alloc w (.cells #[.string nm, .slice A n c, .slice S m d] 61))
 have B0 := Lib.hid (Blk.new w 61 #[.string nm, .slice A n c, .slice S m d])
 obtain ⟨res, hres⟩ : ∃ b, fitsL X.tiers nm lt ss = b := ⟨_, rfl⟩
 have Hres := Lib.hid hres
 rw [hres]
 clear ht hs hwt hwf hss hi hres
 go_enter Tryz.func133, Tryz.ntmps133
 go_wp2_with fail
 obtain ⟨W1, hW1⟩ : ∃ W1, W1 = w.alloc (.cells #[.string nm, .slice A n c, .slice S m d] 61) := ⟨_, rfl⟩
 rw [← hW1]
 rw [← hW1] at F0 B0
 clear hW1
 refine (HCk.out _ F0.out).mono ?_
 rintro r w2 ⟨⟨kk, rfl⟩, b2⟩
 have F2 := Lib.hid (F0.out.trans (Fr.b0 b2) (fun _ h => h.elim))
 have B2 := Lib.hid (B0.out.fr (Fr.b0 b2) (fun h => h))
 clear b2 F0 B0 HCk
 have p0 := B2.out.cell 0
 have p1 := B2.out.cell 1
 have p2 := B2.out.cell 2
 simp only [List.getElem?_toArray, List.getElem?_cons_succ, List.getElem?_cons_zero] at p0 p1 p2
 cases hc : checkB nm lt with
 | false =>
  have hr : res = false := by rw [← Hres.out]; unfold fitsL; rw [hc]; rfl
  subst hr
  clear hc
  unfold errOf
  go_wp2_with fail
  go_ret
  exact ⟨rfl, F2.out.below (fun _ h => h.elim)⟩
 | true =>
 have Hck := Lib.hid hc
 clear hc
 unfold errOf
 by_cases hmn : m = n
 case neg =>
  have hr : res = false := by rw [← Hres.out]; unfold fitsL; rw [decide_eq_false (by rw [Hlm.out, Hln.out]; exact hmn)]; simp
  subst hr
  have hm1 : ((m : Int) != (n : Int)) = true := by rw [bne_iff_ne]; omega
  have hm2 : (m != n) = true := by simpa using hmn
  have hm3 : ¬ ((m : Int) = (n : Int)) := by omega
  have hm4 : decide (m = n) = false := decide_eq_false hmn
  go_wp2_with fail
  go_ret
  exact ⟨by first | rfl | simp [*], F2.out.below (fun _ h => h.elim)⟩
 case pos =>
 subst hmn
 go_wp2_with fail
 have O2 : Hid (Fr (fun _ => False) w2 w2) := Fr.refl _ _
 clear p0 p1 p2
 go_loopw [34] (fun i wr => ∃ k : Nat, k ≤ m ∧ i = .int .i64 k ∧ Fr (fun _ => False) w2 wr ∧ ∀ j, j < k → fitL X.tiers lt ss j = true) (fun i _ => m - (intOf i).toNat)
 case atStart => exact ⟨0, Nat.zero_le _, rfl, O2.out, fun j hj => absurd hj (by omega)⟩
 case round =>
  obtain ⟨k, hk, rfl, hf, hall⟩ := hrel
  have Hf := Lib.hid hf
  have Hall := Lib.hid hall
  clear hf hall O2
  by_cases hlt : k < m
  ·have Fr1 := Lib.hid (F2.out.trans Hf.out (fun _ h => h.elim))
   obtain ⟨ad, s, rfl, hs, d0⟩ := Rd.at_map (f := Value.int .i64) (l := ss) (Hs.out.fr0 Fr1.out) hlt
   have hs64 := Hss.out s (mem_of_get hs)
   have hi64 : -9223372036854775808 ≤ s ∧ s ≤ 9223372036854775807 := hs64
   obtain ⟨Tc, X2⟩ : ∃ z : Nat, z = X.tiers.length := ⟨_, rfl⟩
   have Bp := Lib.hid (B2.out.fr Hf.out (fun h => h))
   have Bt := Lib.hid (Hi.out.fr0 Fr1.out).blk
   have hkn : 0 ≤ (k : Int) ∧ (k : Int) < (m : Int) := by omega
   have HC : Hid (∀ W, Fr (fun _ => False) wr W → W.cell? ⟨w.heap.size, 0, none⟩ = some (.string nm) ∧ W.cell? ⟨w.heap.size, 1, none⟩ = some (.slice A m c) ∧ W.cell? ⟨w.heap.size, 2, none⟩ = some (.slice (some ad) m d) ∧ W.cell? ⟨t, 2, none⟩ = some (.slice tA Tc tc)) := fun W f =>
    ⟨(Bp.out.fr f (fun h => h)).cell 0, (Bp.out.fr f (fun h => h)).cell 1, (Bp.out.fr f (fun h => h)).cell 2, by rw [X2]; exact (Bt.out.fr f (fun h => h)).cell 2⟩
   have Hs1 := Lib.hid hs
   have X3 := Lib.hid X2
   have hTc : Tc ≤ 1000 := by rw [X2]; exact hn
   clear hs hs64 X2
   have q0 := (HC.out _ (Fr.refl _ _)).2.2.1
   by_cases hs0 : s < 0
   ·have hd0 : decide (s < 0) = true := decide_eq_true hs0
    have hr : res = false := by
     rw [← Hres.out]
     refine fitsL_no (k := k) (by rw [Hlm.out]; exact hlt) ?_
     unfold fitL
     rw [Hs1.out]
     have : decide (0 ≤ s) = false := decide_eq_false (by omega)
     split
     ·rename_i e _; injection e with e; subst e; rw [this]; rfl
     ·rfl
    subst hr
    go_wp2_with fail
    refine wp_region_held_drew (S := fun W => Fr (fun _ => False) wr W) (by kernel_rfl) ((Fr.refl _ wr).drew) (fun hHeld => ?_)
    refine tq 34 [0,1,2,3,4,5,6,7,8,9,10,11,12,13,14,15,16,17,18,19,20,21,22,23,24,25,26,27,28,29,30,31,32,33] ?_
    iterate 2 refine sf HC.out ?_
    refine sk ?_
    try simp only [Act.put, sA, sB, sC]
    iterate 8 (refine su ?_; try simp only [Act.put, sA, sB, sC])
    refine su ?_
    refine sk ?_
    refine sk ?_
    try simp only [Act.put, sA, sB, sC]
    iterate 18 (refine su ?_; try simp only [Act.put, sA, sB, sC])
    refine su ?_
    refine sk ?_
    try simp only [Act.put, sA, sB, sC]
    refine sz ?_
    try simp only [Act.put, sA, sB, sC]
    refine wpAnyH_done (by kernel_rfl) ?_ _
    go_wp2_with fail
    go_ret
    exact ⟨rfl, (Fr1.out.trans hHeld (fun _ h => h.elim)).below (fun _ h => h.elim)⟩
   ·have hd0 : decide (s < 0) = false := decide_eq_false hs0
    obtain ⟨i, rfl⟩ := Int.eq_ofNat_of_zero_le (show 0 ≤ s by omega)
    obtain ⟨ay, y, rfl, hy, _, y1, _⟩ := (Ht.out.fr0 Fr1.out).tier hlt
    by_cases hlen : Tc ≤ i
    ·have hd1 : decide ((Tc : Int) ≤ (i : Int)) = true := decide_eq_true (by omega)
     have hd2 : decide (Tc ≤ i) = true := decide_eq_true hlen
     have hr : res = false := by
      rw [← Hres.out]
      refine fitsL_no (k := k) (by rw [Hlm.out]; exact hlt) ?_
      unfold fitL
      rw [Hs1.out, hy]
      simp only [Int.toNat_natCast]
      rw [List.getElem?_eq_none (by rw [← X3.out]; exact hlen)]
      simp
     subst hr
     clear hy y1
     go_wp2_with fail
     refine wp_region_held_drew (S := fun W => Fr (fun _ => False) wr W) (by kernel_rfl) ((Fr.refl _ wr).drew) (fun hHeld => ?_)
     refine tq 34 [0,1,2,3,4,5,6,7,8,9,10,11,12,13,14,15,16,17,18,19,20,21,22,23,24,25,26,27,28,29,30,31,32,33] ?_
     iterate 2 refine sf HC.out ?_
     iterate 9 (refine sf HC.out ?_; try simp only [Act.put, sA, sB, sC])
     iterate 2 refine sf HC.out ?_
     refine sk ?_
     try simp only [Act.put, sA, sB, sC]
     iterate 18 (refine su ?_; try simp only [Act.put, sA, sB, sC])
     refine su ?_
     refine sk ?_
     try simp only [Act.put, sA, sB, sC]
     refine sz ?_
     try simp only [Act.put, sA, sB, sC]
     refine wpAnyH_done (by kernel_rfl) ?_ _
     go_wp2_with fail
     go_ret
     exact ⟨rfl, (Fr1.out.trans hHeld (fun _ h => h.elim)).below (fun _ h => h.elim)⟩
    ·have hd1 : decide ((Tc : Int) ≤ (i : Int)) = false := decide_eq_false (by omega)
     have hd2 : decide (Tc ≤ i) = false := decide_eq_false hlen
     have hin : 0 ≤ (i : Int) ∧ (i : Int) < (Tc : Int) := by omega
     have hrow : Rd wr 4 tA Tc (tcells X.tiers) := by rw [X3.out]; exact (own_any (Hi.out.fr0 Fr1.out).tiers).2.2.1
     obtain ⟨ax, x, rfl, hx, _, x1, _⟩ := hrow.tier (show i < Tc by omega)
     have HDv : Hid (∀ W, Calls Tryz.prog 164 #[.int .i64 x.every, .int .i64 y.every] W fun r w' => r = .returned (.bool (dividesB x.every y.every)) ∧ W = w') := fun W => divides_any x.every y.every W
     have HB : Hid (fitL X.tiers lt ss k = dividesB x.every y.every) := by
      show _ = _
      unfold fitL
      rw [Hs1.out, hy]
      simp only [Int.toNat_natCast]
      rw [hx]
      simp
     have HC2 : Hid (∀ W, Fr (fun _ => False) wr W → W.cell? ⟨w.heap.size, 0, none⟩ = some (.string nm) ∧ W.cell? ⟨w.heap.size, 1, none⟩ = some (.slice (some ay) m c) ∧ W.cell? ⟨w.heap.size, 2, none⟩ = some (.slice (some ad) m d) ∧ W.cell? ⟨t, 2, none⟩ = some (.slice (some ax) Tc tc) ∧ W.cell? ⟨(ax.add (i * 4)).block, (ax.add (i * 4)).off + 1, none⟩ = some (.int .i64 x.every) ∧ W.cell? ⟨(ay.add (k * 4)).block, (ay.add (k * 4)).off + 1, none⟩ = some (.int .i64 y.every)) := fun W f => by
      obtain ⟨k0, k1, k2, k3⟩ := HC.out W f
      exact ⟨k0, k1, k2, k3, f.cell x1 (fun h => h), f.cell y1 (fun h => h)⟩
     obtain ⟨xe, hxe⟩ : ∃ z, x.every = z := ⟨_, rfl⟩
     obtain ⟨ye, hye⟩ : ∃ z, y.every = z := ⟨_, rfl⟩
     rw [hxe, hye] at HDv HB HC2
     obtain ⟨dv, hdv⟩ : ∃ z, dividesB xe ye = z := ⟨_, rfl⟩
     rw [hdv] at HDv HB
     clear hrow hx hy x1 y1 hxe hye hdv HC
     cases dv with
     | false =>
      have hr : res = false := by rw [← Hres.out]; exact fitsL_no (k := k) (by rw [Hlm.out]; exact hlt) HB.out
      subst hr
      go_wp2_with fail
      refine wp_region_held_drew (S := fun W => Fr (fun _ => False) wr W) (by kernel_rfl) ((Fr.refl _ wr).drew) (fun hHeld => ?_)
      refine tq 31 [0,1,2,3,4,5,6,7,8,9,10,11,12,13,14,15,16,17,18,19,20,21,22,23,24,25,26,27,28,29,30] ?_
      iterate 2 refine sf HC2.out ?_
      iterate 9 (refine sf HC2.out ?_; try simp only [Act.put, sA, sB, sC])
      iterate 2 refine sf HC2.out ?_
      iterate 18 (refine sf HC2.out ?_; try simp only [Act.put, sA, sB, sC])
      refine sz ?_
      try simp only [Act.put, sA, sB, sC]
      refine rl 31 rfl (fun K hK => ?_)
      go_simp
      go_wp2_with (first | (go_at_call 164; refine (HDv.out _).mono ?_; rintro r w5 ⟨rfl, rfl⟩))
      refine hK.out _ _ (hHeld) (fun hHeld => ?_)
      clear hK K
      try simp only [Act.put, sA, sB, sC]
      refine tq 2 [32,33] ?_
      refine sk ?_
      refine sk ?_
      try simp only [Act.put, sA, sB, sC]
      refine sz ?_
      try simp only [Act.put, sA, sB, sC]
      refine wpAnyH_done (by kernel_rfl) ?_ _
      go_wp2_with fail
      go_ret
      exact ⟨rfl, (Fr1.out.trans hHeld (fun _ h => h.elim)).below (fun _ h => h.elim)⟩
     | true =>
      go_wp2_with fail
      refine wp_region_held_drew (S := fun W => Fr (fun _ => False) wr W) (by kernel_rfl) ((Fr.refl _ wr).drew) (fun hHeld => ?_)
      refine tq 31 [0,1,2,3,4,5,6,7,8,9,10,11,12,13,14,15,16,17,18,19,20,21,22,23,24,25,26,27,28,29,30] ?_
      iterate 2 refine sf HC2.out ?_
      iterate 9 (refine sf HC2.out ?_; try simp only [Act.put, sA, sB, sC])
      iterate 2 refine sf HC2.out ?_
      iterate 18 (refine sf HC2.out ?_; try simp only [Act.put, sA, sB, sC])
      refine sz ?_
      try simp only [Act.put, sA, sB, sC]
      refine rl 31 rfl (fun K hK => ?_)
      go_simp
      go_wp2_with (first | (go_at_call 164; refine (HDv.out _).mono ?_; rintro r w5 ⟨rfl, rfl⟩))
      refine hK.out _ _ (hHeld) (fun hHeld => ?_)
      clear hK K
      try simp only [Act.put, sA, sB, sC]
      refine tq 2 [32,33] ?_
      refine sk ?_
      refine sk ?_
      try simp only [Act.put, sA, sB, sC]
      refine sz ?_
      try simp only [Act.put, sA, sB, sC]
      refine wpAnyH_done (by kernel_rfl) ?_ _
      go_wp2_with fail
      go_roundw
      case rel =>
       refine ⟨k + 1, by omega, by go_num, Hf.out.trans hHeld (fun _ h => h.elim), fun j hj => ?_⟩
       by_cases e : j = k
       ·subst e; exact HB.out
       ·exact Hall.out j (by omega)
      case measure => simp [intOf]; omega
  ·obtain rfl : k = m := by omega
   have hr : res = true := by rw [← Hres.out]; exact fitsL_yes Hck.out (by rw [Hlm.out, Hln.out]) (fun j hj => Hall.out j (by rw [Hlm.out] at hj; exact hj))
   subst hr
   go_wp2_with fail
   go_ret
   exact ⟨rfl, (F2.out.trans Hf.out (fun _ h => h.elim)).below (fun _ h => h.elim)⟩
end Go.Proofs.YtkfdgodngbinlaaGreatDoor
namespace Go.Proofs.YtkfdgodngbinlaaGreatDoor
set_option linter.all false
open Go.RowKit

def buildL (X : TiersX) (lt : List TierV) (ss : List Int) (fl : List Int) (j : Nat) : List RecV :=
 match ss[j]?, lt[j]? with
 | some s, some y => (match X.tiers[s.toNat]? with | some x => rollV x.every y.every (fromV X.now lt fl j) (X.tabs.getD s.toNat []) | none => [])
 | _, _ => []
def buildX (X : TiersX) (nm : ByteArray) (lt : List TierV) (ss : List Int) : TiersX :=
 ⟨X.now, nm, lt, basesV X.now X.tiers X.floors ss lt, (List.range lt.length).map (buildL X lt ss (basesV X.now X.tiers X.floors ss lt))⟩
def buildE (X : TiersX) (nm : ByteArray) (lt : List TierV) (ss : List Int) : Int :=
 if fitsL X.tiers nm lt ss = true then newE nm lt X.now (basesV X.now X.tiers X.floors ss lt) else 1
theorem buildE_01 {X : TiersX} {nm : ByteArray} {lt : List TierV} {ss : List Int} : buildE X nm lt ss = 0 ∨ buildE X nm lt ss = 1 := by
 unfold buildE
 split
 ·rename_i h
  unfold newE
  rw [if_pos (fitsL_at h).1]
  split
  ·exact .inr rfl
  ·split
   ·exact .inl rfl
   ·exact .inr rfl
 ·exact .inr rfl
theorem rollV_len (e1 e fr : Int) (l : List RecV) : (rollV e1 e fr l).length ≤ l.length := by
 unfold rollV
 split
 ·have h1 := addsV_len (every := e) (rollL e fr l) Sorted.nil
  have h2 := rollL_len e fr l
  simp only [List.length_nil] at h1
  omega
 ·simp
theorem mapcell {w W : World} {F : Nat → Prop} (f : Fr (fun j => F j ∧ ∃ es ck, w.heap[j]? = some (.map es ck)) w W) {p : Addr} {v : Value} (h : w.cell? p = some v) : W.cell? p = some v :=
 f.cell h (fun ⟨_, es, ck, hb⟩ => by
  unfold World.cell? at h
  rw [hb] at h
  cases h)
theorem loads_roll {X : TiersX} {j : Nat} {y : TierV} {e1 : Int} {l : List RecV} (hy : X.tiers[j]? = some y) (hm : X.tabs[j]? = some []) : loadX X j (rollV e1 y.every (fromV X.now X.tiers X.floors j) l) = { X with tabs := X.tabs.set j (rollV e1 y.every (fromV X.now X.tiers X.floors j) l) } := by
 unfold loadX
 rw [hy, hm]
 simp only
 have hf : (rollV e1 y.every (fromV X.now X.tiers X.floors j) l).filter (ldB X j) = rollV e1 y.every (fromV X.now X.tiers X.floors j) l :=
  List.filter_eq_self.2 (fun r hr => decide_eq_true ((rollV_right.2 r hr).2))
 rw [hf, adds_roll]
theorem buildL_len {X : TiersX} {lt : List TierV} {ss fl : List Int} {c : Nat} (h : ∀ m ∈ X.tabs, m.length ≤ c) (j : Nat) : (buildL X lt ss fl j).length ≤ c := by
 unfold buildL
 split
 ·split
  ·exact Nat.le_trans (rollV_len _ _ _ _) (getD_len h _)
  ·simp
 ·simp
theorem Rd.mapfr {w W : World} {size n : Nat} {A : Option Addr} {xs : List Value} {F : Nat → Prop} (h : Rd w size A n xs) (hs : 0 < size) (f : Fr (fun j => F j ∧ ∃ es ck, w.heap[j]? = some (.map es ck)) w W) : Rd W size A n xs :=
 h.fr f (fun _ hk ⟨_, _, _, hb⟩ => rd_ne_map h hs hb hk rfl)
theorem fr4 {w a b c d : World} (h1 : Below w.heap.size w a) (h2 : Below a.heap.size a b) (h3 : Below b.heap.size b c) (h4 : Below c.heap.size c d) : Fr (fun _ => False) w d :=
 (((Fr.b0 h1).trans (Fr.b0 h2) (fun _ h => h.elim)).trans (Fr.b0 h3) (fun _ h => h.elim)).trans (Fr.b0 h4) (fun _ h => h.elim)
theorem own_down {w : World} {base b n size : Nat} {e : TypeId} {v : Value} {xs : List Value} (h : w.ownsRow base e size v n xs) (hb : b ≤ base) : w.ownsRow b e size v n xs :=
 own_up h (fun k hk => Nat.le_trans hb (h.lt k hk).1)
theorem TiersOn.down {w : World} {t base b : Nat} {X : TiersX} {F : Nat → Prop} (h : TiersOn w t base X F) (hb : b ≤ base) : TiersOn w t b X F := by
 obtain ⟨A, c, B, d, T, ct, tb, hi, e⟩ := h
 exact ⟨A, c, B, d, T, ct, tb, ⟨hi.blk, own_down hi.tiers hb, own_down hi.floors hb, own_down hi.row hb, hi.tlen, hi.tab, hi.nodup, fun p hp => ⟨Nat.le_trans hb (hi.ge p hp).1, Nat.le_trans hb (hi.ge p hp).2⟩, Nat.le_trans hb hi.tge⟩, e⟩
def BuildR (E : Int) (B : Nat) (Z : TiersX) (r : Ending) (w' : World) : Prop :=
 (E = 0 → ∃ t' F', r = .returned (.tuple #[.pointer (some ⟨t', 0, none⟩), .int .i64 0]) ∧ TiersOn w' t' B Z F' ∧ ∀ j, F' j → B ≤ j) ∧ (E ≠ 0 → r = .returned (.tuple #[.pointer none, .int .i64 1]))

set_option maxRecDepth 100000 in
set_option maxHeartbeats 8000000 in
theorem build_any (nm : ByteArray) (hnm : nm.size ≤ maxLen) (lt : List TierV) (A : Option Addr) (n c : Nat) (ss : List Int) (S : Option Addr) (m d : Nat) (t base : Nat) (X : TiersX) (w : World) (ht : Rd w 4 A n (tcells lt)) (hnc : n ≤ c) (hn9 : n ≤ 1000) (hwt : ∀ t ∈ lt, t.wf) (hs : Rd w 1 S m (ints ss)) (hm9 : m ≤ 1099511627776) (hss : ∀ s ∈ ss, i64 s)
  (h : TiersAt w t base X) (hn : X.tiers.length ≤ 1000) (hl : ∀ m ∈ X.tabs, m.length ≤ 1000000) (hnow : 0 ≤ X.now ∧ X.now ≤ 1099511627776) (hfl : ∀ f ∈ X.floors, i64 f) (hwf : ∀ x ∈ X.tiers, x.wf) :
  Calls Tryz.prog 86 #[planV nm A n c S m d, .pointer (some ⟨t, 0, none⟩)] w fun r w' => BuildR (buildE X nm lt ss) w.heap.size (buildX X nm lt ss) r w' ∧ Below w.heap.size w w' := by
 have hn64 : i64 X.now := by unfold i64; omega
 have F0 := Lib.hid (Fr.none_alloc w (.cells #[.string nm, .slice A n c, .slice S m d] 61))
 have B0 := Lib.hid (Blk.new w 61 #[.string nm, .slice A n c, .slice S m d])
 have HFi : Hid (∀ W, Fr (fun _ => False) w W → Calls Tryz.prog 133 #[.agg #[.string nm, .slice A n c, .slice S m d], .pointer (some ⟨t, 0, none⟩)] W fun r w' => r = .returned (.bool (fitsL X.tiers nm lt ss)) ∧ Below W.heap.size W w') := fun W f =>
  planfits_any nm hnm lt A n c ss S m d t base X W (ht.fr0 f) hnc (by omega) hwt (hs.fr0 f) hm9 hss (h.fr0 f) hn hwf
 have Ht := Lib.hid ht
 have Hs := Lib.hid hs
 have Hln := Lib.hid ht.tiers_len
 have Hlm : Hid (ss.length = m) := Rd.len_map hs
 have Hwt := Lib.hid hwt
 have Hwf := Lib.hid hwf
 have Hss := Lib.hid hss
 have Hl := Lib.hid hl
 have Hfl := Lib.hid hfl
 have HT := Lib.hid h
 obtain ⟨fb, hfb⟩ : ∃ b, fitsL X.tiers nm lt ss = b := ⟨_, rfl⟩
 have Hfb := Lib.hid hfb
 rw [hfb] at HFi
 unfold planV
 clear ht hs hwt hwf hss hl hfl h hfb
 cases fb with
 | false =>
  have hE : buildE X nm lt ss = 1 := by unfold buildE; rw [Hfb.out]; rfl
  obtain ⟨E, hEq⟩ : ∃ E, buildE X nm lt ss = E := ⟨_, rfl⟩
  have HE := Lib.hid hE
  rw [hEq] at HE ⊢
  clear hE hEq
  go_enter Tryz.func86, Tryz.ntmps86
  go_wp2_with fail
  refine (HFi.out _ F0.out).mono ?_
  rintro r w2 ⟨rfl, b2⟩
  have F2 := Lib.hid (F0.out.trans (Fr.b0 b2) (fun _ h => h.elim))
  clear b2
  go_wp2_with fail
  refine bodyPost_ret (v := .tuple #[.pointer none, .int .i64 1]) (by simp [results, Tryz.results86, go_sem]) rfl ⟨⟨fun h => ?_, fun _ => rfl⟩, F2.out.below (fun _ h => h.elim)⟩
  rw [HE.out] at h
  cases h
 | true =>
 have hat := fitsL_at Hfb.out
 have hmn : m = n := by rw [← Hlm.out, hat.2.1, Hln.out]
 have HAt := Lib.hid hat.2.2
 have Hck := Lib.hid hat.1
 clear hat
 subst hmn
 have HE0 : Hid (buildE X nm lt ss = newE nm lt X.now (basesV X.now X.tiers X.floors ss lt)) := by show _ = _; unfold buildE; rw [Hfb.out, if_pos rfl]
 have HE1 : Hid (buildE X nm lt ss = 0 ∨ buildE X nm lt ss = 1) := buildE_01
 obtain ⟨bs, hbs⟩ : ∃ b, basesV X.now X.tiers X.floors ss lt = b := ⟨_, rfl⟩
 have HX : Hid (buildX X nm lt ss = ⟨X.now, nm, lt, bs, (List.range lt.length).map (buildL X lt ss bs)⟩) := by show _ = _; unfold buildX; rw [hbs]
 have Hbl : Hid (bs.length = m) := by show _ = _; rw [← hbs]; unfold basesV; rw [List.length_zipWith, Hlm.out, Hln.out, Nat.min_self]
 obtain ⟨E, hEq⟩ : ∃ E, buildE X nm lt ss = E := ⟨_, rfl⟩
 rw [hEq] at HE0 HE1 ⊢
 rw [hbs] at HE0
 obtain ⟨Z, hZ⟩ : ∃ Z, buildX X nm lt ss = Z := ⟨_, rfl⟩
 rw [hZ] at HX ⊢
 obtain ⟨tA, tc, tB, td, T, ct, tb, hi⟩ := HT.out
 have Hi := Lib.hid hi
 have HBs : Hid (∀ W, Fr (fun _ => False) w W → Calls Tryz.prog 134 #[.agg #[.string nm, .slice A m c, .slice S m d], .agg #[.int .i64 X.now, .string X.name, .slice tA X.tiers.length tc, .slice tB X.floors.length td]] W
   fun r w' => (∃ A' c', r = .returned (.slice A' m c') ∧ w'.ownsRow W.heap.size 3 1 (.slice A' m c') m (ints bs)) ∧ Below W.heap.size W w') := fun W f => by
  rw [← hbs]
  exact bases_own nm lt A m c ss S d X.now hn64 X.name X.tiers tA X.tiers.length tc X.floors tB X.floors.length td W (Ht.out.fr0 f) (Hs.out.fr0 f) (own_any (Hi.out.fr0 f).tiers).2.2.1 (own_any (Hi.out.fr0 f).floors).2.2.1 Hwt.out Hwf.out Hfl.out (by omega) (by omega)
 have HNw : Hid (∀ W B d', Fr (fun _ => False) w W → Rd W 1 B m (ints bs) → Calls Tryz.prog 42 #[.agg #[.string nm, .slice A m c], .int .i64 X.now, .slice B m d'] W fun r w' => (∃ Pv, r = .returned (.tuple #[Pv, .int .i64 E]) ∧ (E = 0 → ∃ t' F', Pv = .pointer (some ⟨t', 0, none⟩) ∧ TiersOn w' t' W.heap.size (newX nm lt X.now bs) F' ∧ ∀ j, F' j → W.heap.size ≤ j) ∧ (E ≠ 0 → Pv = .pointer none)) ∧ Below W.heap.size W w') := fun W B d' f hrd => by
  refine (tnew_any nm hnm lt A m c X.now hn64 bs B m d' W (Ht.out.fr0 f) hnc Hwt.out (by omega) hrd (by omega)).mono ?_
  rintro r w' ⟨⟨h1, h2⟩, hb⟩
  rw [← HE0.out] at h1 h2
  refine ⟨?_, hb⟩
  by_cases hz : E = 0
  ·obtain ⟨t', rfl, ha⟩ := h1 hz
   obtain ⟨F', ho⟩ := ha.on
   exact ⟨_, by rw [hz], fun _ => ⟨t', F', rfl, ho, fun j hj => (ho.ge j hj).1⟩, fun h => absurd hz h⟩
  ·obtain rfl := h2 hz
   exact ⟨_, rfl, fun h => absurd h hz, fun _ => rfl⟩
 have HTa0 : Hid (∀ (i : Nat) (x : TierV), X.tiers[i]? = some x → ∀ W, Fr (fun _ => False) w W → Calls Tryz.prog 101 #[.pointer (some ⟨t, 0, none⟩), .int .i64 i] W fun r w' => (∃ g' b', r = .returned (.pointer (some ⟨g', 0, none⟩)) ∧ TabAt w' g' x.every b' (X.tabs.getD i []) ∧ W.heap.size ≤ g' ∧ W.heap.size ≤ b') ∧ Below W.heap.size W w') := fun i x hx W f => by
  have hil := (List.getElem?_eq_some_iff.1 hx).1
  have e : X.tabs[i]? = some (X.tabs.getD i []) := by rw [List.getD_eq_getElem?_getD, List.getElem?_eq_getElem (by rw [Hi.out.tlen]; exact hil)]; rfl
  exact ttable_in t base X i x _ W (HT.out.fr0 f) hx e
 obtain ⟨x0, hx0⟩ : ∃ x0, X.now = x0 := ⟨_, rfl⟩
 obtain ⟨x1, hx1⟩ : ∃ x1, X.name = x1 := ⟨_, rfl⟩
 obtain ⟨x2, hx2⟩ : ∃ x2, X.tiers.length = x2 := ⟨_, rfl⟩
 obtain ⟨x3, hx3⟩ : ∃ x3, X.floors.length = x3 := ⟨_, rfl⟩
 have Bt := Lib.hid Hi.out.blk
 rw [hx0, hx1, hx2, hx3] at HBs Bt
 rw [hx0] at HNw HX hn64 hnow
 have Hx0 := Lib.hid hx0
 clear hi hbs hZ hEq HT Hfb hx0 hx1 hx2 hx3 Hi
 go_enter Tryz.func86, Tryz.ntmps86
 go_wp2_with fail
 obtain ⟨pb, hpb⟩ : ∃ v, w.heap.size = v := ⟨_, rfl⟩
 obtain ⟨W0, hW0⟩ : ∃ W0, W0 = w.alloc (.cells #[.string nm, .slice A m c, .slice S m d] 61) := ⟨_, rfl⟩
 rw [← hW0]
 rw [← hW0] at F0 B0
 try rw [hpb]
 rw [hpb] at B0
 have Hpb := Lib.hid hpb
 clear hW0 hpb
 refine (HFi.out _ F0.out).mono ?_
 rintro r w2 ⟨rfl, b2⟩
 have F2 := Lib.hid (F0.out.trans (Fr.b0 b2) (fun _ h => h.elim))
 have B2 := Lib.hid (B0.out.fr (Fr.b0 b2) (fun h => h))
 have Bt2 := Lib.hid (Bt.out.fr F2.out (fun h => h))
 clear b2 F0 B0 HFi Bt
 have HC : Hid (∀ W, Fr (fun _ => False) w2 W → W.cell? ⟨pb, 0, none⟩ = some (.string nm) ∧ W.cell? ⟨pb, 1, none⟩ = some (.slice A m c) ∧ W.cell? ⟨pb, 2, none⟩ = some (.slice S m d) ∧ W.cell? ⟨t, 0, none⟩ = some (.int .i64 x0) ∧ W.cell? ⟨t, 1, none⟩ = some (.string x1) ∧ W.cell? ⟨t, 2, none⟩ = some (.slice tA x2 tc) ∧ W.cell? ⟨t, 3, none⟩ = some (.slice tB x3 td)) := fun W f => by
  have b1 := B2.out.fr f (fun h => h)
  have b2 := Bt2.out.fr f (fun h => h)
  exact ⟨b1.cell 0, b1.cell 1, b1.cell 2, b2.cell 0, b2.cell 1, b2.cell 2, b2.cell 3⟩
 have HBs2 : Hid (∀ W, Fr (fun _ => False) w2 W → Calls Tryz.prog 134 #[.agg #[.string nm, .slice A m c, .slice S m d], .agg #[.int .i64 x0, .string x1, .slice tA x2 tc, .slice tB x3 td]] W
   fun r w' => (∃ A' c', r = .returned (.slice A' m c') ∧ w'.ownsRow W.heap.size 3 1 (.slice A' m c') m (ints bs)) ∧ Below W.heap.size W w') := fun W f => HBs.out W (F2.out.trans f (fun _ h => h.elim))
 have HNw2 : Hid (∀ W B d', Fr (fun _ => False) w2 W → Rd W 1 B m (ints bs) → Calls Tryz.prog 42 #[.agg #[.string nm, .slice A m c], .int .i64 x0, .slice B m d'] W fun r w' => (∃ Pv, r = .returned (.tuple #[Pv, .int .i64 E]) ∧ (E = 0 → ∃ t' F', Pv = .pointer (some ⟨t', 0, none⟩) ∧ TiersOn w' t' W.heap.size (newX nm lt x0 bs) F' ∧ ∀ j, F' j → W.heap.size ≤ j) ∧ (E ≠ 0 → Pv = .pointer none)) ∧ Below W.heap.size W w') := fun W B d' f => HNw.out W B d' (F2.out.trans f (fun _ h => h.elim))
 clear HBs HNw
 have HBs := HBs2
 have HNw := HNw2
 clear HBs2 HNw2
 go_wp2_with fail
 refine wp_region_held_drew (S := fun W => Fr (fun _ => False) w2 W) (by kernel_rfl) ((Fr.refl _ w2).drew) (fun hHeld => ?_)
 refine tq 12 [0,1,2,3,4,5,6,7,8,9,10,11] ?_
 iterate 11 refine sf HC.out ?_
 refine sf HC.out ?_
 try simp only [Act.put, sA, sB, sC]
 refine sz ?_
 try simp only [Act.put, sA, sB, sC]
 refine rl 12 rfl (fun K hK => ?_)
 go_simp
 go_wp2_with (first | (go_at_call 134; refine (HBs.out _ hHeld).mono ?_; rintro r wb ⟨⟨Ab, cb, rfl, ob⟩, bb⟩))
 have ob := Lib.hid ob
 refine hK.out _ _ (hHeld.trans (Fr.b0 bb) (fun _ h => h.elim)) (fun hHeld => ?_)
 clear hK K
 try simp only [Act.put, sA, sB, sC]
 refine rl 13 rfl (fun K hK => ?_)
 go_simp
 go_wp2_with (first | (go_at_call 42; refine (HNw.out _ _ _ hHeld (Rd.of_own ob.out)).mono ?_; rintro r wn ⟨⟨Pv, rfl, hn1, hn2⟩, bn⟩))
 have hn1 := Lib.hid hn1
 have hn2 := Lib.hid hn2
 refine hK.out _ _ (hHeld.trans (Fr.b0 bn) (fun _ h => h.elim)) (fun hHeld => ?_)
 clear hK K
 refine tq 5 [14,15,16,17,18] ?_
 iterate 4 refine sf HC.out ?_
 refine sf HC.out ?_
 try simp only [Act.put, sA, sB, sC]
 refine sz ?_
 try simp only [Act.put, sA, sB, sC]
 refine wpAnyH_done (by kernel_rfl) ?_ _
 have F3 := Lib.hid hHeld
 have hsz : Hid (w.heap.size ≤ wb.heap.size) := Nat.le_trans F2.out.size (by have h1 := hHeld.size; have h2 := bn.size; have h3 := bb.size; exact Nat.le_trans (Fr.refl (fun _ => False) w2).drew.size h3)
 have Hpl : Hid (pb < wb.heap.size) := Nat.lt_of_lt_of_le B2.out.lt (by have h3 := bb.size; exact Nat.le_trans (Fr.refl (fun _ => False) w2).drew.size h3)
 clear hHeld bb HBs HNw ob
 rcases HE1.out with hE | hE
 case inr =>
  subst hE
  obtain rfl := hn2.out (by omega)
  clear hn1 hn2 bn
  go_wp2_with fail
  refine bodyPost_ret (v := .tuple #[.pointer none, .int .i64 1]) (by simp [results, Tryz.results86, go_sem]) rfl ⟨⟨fun h => absurd h (by decide), fun _ => rfl⟩, (F2.out.trans F3.out (fun _ h => h.elim)).below (fun _ h => h.elim)⟩
 case inl =>
 subst hE
 obtain ⟨t', F, rfl, To, hFg⟩ := hn1.out rfl
 have HTo := Lib.hid To
 have HFg : Hid (∀ j, F j → w.heap.size ≤ j) := fun j hj => Nat.le_trans hsz.out (hFg j hj)
 have HFb : Hid (∀ j, F j → wb.heap.size ≤ j) := hFg
 have Fw := Lib.hid (F2.out.trans F3.out (fun _ h => h.elim))
 have B3 := Lib.hid (B2.out.fr F3.out (fun h => h))
 clear hn1 hn2 bn To hFg
 have p0 := B3.out.cell 0
 have p1 := B3.out.cell 1
 have p2 := B3.out.cell 2
 simp only [List.getElem?_toArray, List.getElem?_cons_succ, List.getElem?_cons_zero] at p0 p1 p2
 go_wp2_with fail
 clear p0 p1 p2
 obtain ⟨bt, hbt⟩ : ∃ b, (List.range lt.length).map (buildL X lt ss bs) = b := ⟨_, rfl⟩
 have Hbt : Hid (∀ j, j < m → bt[j]? = some (buildL X lt ss bs j)) := fun j hj => by rw [← hbt, List.getElem?_map, List.getElem?_range (by rw [Hln.out]; exact hj)]; rfl
 have Hbtl : Hid (bt.length = m) := by show _ = _; rw [← hbt]; simp [Hln.out]
 have Hbtm : Hid (∀ L ∈ bt, L.length ≤ 1000000) := fun L hL => by
  rw [← hbt] at hL
  obtain ⟨j, _, rfl⟩ := List.mem_map.1 hL
  exact buildL_len Hl.out j
 rw [hbt] at HX
 clear hbt
 obtain ⟨em, hem⟩ : ∃ e : List (List RecV), lt.map (fun _ => ([] : List RecV)) = e := ⟨_, rfl⟩
 have Hem : Hid (∀ j, j < m → em[j]? = some []) := fun j hj => by rw [← hem, List.getElem?_map, List.getElem?_eq_getElem (by rw [Hln.out]; exact hj)]; rfl
 have Heml : Hid (em.length = m) := by show _ = _; rw [← hem]; simp [Hln.out]
 have Hemm : Hid (∀ L ∈ em, L.length ≤ 1000000) := fun L hL => by
  rw [← hem] at hL
  obtain ⟨_, _, rfl⟩ := List.mem_map.1 hL
  simp
 have HTo2 : Hid (TiersOn wn t' wb.heap.size ⟨x0, nm, lt, bs, bt.take 0 ++ em.drop 0⟩ F) := by
  show TiersOn _ _ _ _ _
  rw [List.take_zero, List.drop_zero, List.nil_append, ← hem]
  exact HTo.out
 clear hem HTo
 go_loopw [37] (fun i wr => ∃ k : Nat, k ≤ m ∧ i = .int .i64 k ∧ TiersOn wr t' wb.heap.size ⟨x0, nm, lt, bs, bt.take k ++ em.drop k⟩ F ∧ Fr F wn wr) (fun i _ => m - (intOf i).toNat)
 case atStart => exact ⟨0, Nat.zero_le _, rfl, HTo2.out, Fr.refl _ _⟩
 case round =>
  obtain ⟨k, hk, rfl, hT, hf⟩ := hrel
  have HT := Lib.hid hT
  have Hf := Lib.hid hf
  clear hT hf HTo2
  by_cases hlt : k < m
  ·obtain ⟨i, x, y, hsi, hx, hy, hdv⟩ := HAt.out k (by rw [Hln.out]; exact hlt)
   have hFw : Fr (fun j => w.heap.size ≤ j) w wr := (Fw.out.mono (fun _ h => h.elim)).trans Hf.out (fun j hj => .inl (HFg.out j hj))
   have FW : Hid (Fr (fun _ => False) w wr) := ⟨hFw.os, hFw.tape, hFw.output, hFw.size, fun j hj _ => hFw.block j hj (by omega)⟩
   obtain ⟨ad, y', rfl, hy', y0, y1, y2, y3⟩ := (Ht.out.fr0 FW.out).tier hlt
   obtain rfl : y = y' := by rw [hy] at hy'; exact Option.some.inj hy'
   obtain ⟨sa, s', rfl, hs', d0⟩ := Rd.at_map (f := Value.int .i64) (l := ss) (Hs.out.fr0 FW.out) hlt
   obtain rfl : (i : Int) = s' := by rw [hsi] at hs'; exact Option.some.inj hs'
   have hye : 1 ≤ y.every := (check_mem Hck.out (mem_of_get hy)).1
   have hkm : 0 ≤ (k : Int) ∧ (k : Int) < (m : Int) := by omega
   have Bp := Lib.hid (B3.out.fr Hf.out (fun h => absurd (HFb.out pb h) (Nat.not_le.2 Hpl.out)))
   have hwy := Hwt.out y (mem_of_get hy)
   have Hy := Lib.hid hy
   have Hsi := Lib.hid hsi
   have Hx := Lib.hid hx
   clear hy hsi hx hy' hs' hFw
   go_wp2_with fail
   obtain ⟨w5, hw5⟩ : ∃ w5, w5 = wr.alloc (.cells #[.string y.name, .int .i64 y.every, .int .i64 y.keep, .int .i64 y.shards] 109) := ⟨_, rfl⟩
   rw [← hw5]
   obtain ⟨xb, hxb⟩ : ∃ xb, wr.heap.size = xb := ⟨_, rfl⟩
   try rw [hxb]
   have Bx : Hid (Blk w5 xb 109 #[.string y.name, .int .i64 y.every, .int .i64 y.keep, .int .i64 y.shards]) := by show Blk _ _ _ _; rw [hw5]; exact Blk.new' hxb.symm _ _
   have F5 : Hid (Fr (fun _ => False) wr w5) := by show Fr _ _ _; rw [hw5]; exact Fr.none_alloc _ _
   have FW5 : Hid (Fr (fun _ => False) w w5) := FW.out.trans F5.out (fun _ h => h.elim)
   have T5 := Lib.hid (HT.out.fr0 F5.out)
   have Bp5 := Lib.hid (Bp.out.fr F5.out (fun h => h))
   have d5 := F5.out.cell d0 (fun h => h)
   obtain ⟨oA, oc, oB, od, oT, oct, otb, hoi, hFe⟩ := T5.out
   have Hoi := Lib.hid hoi
   have hbo : Blk w5 t' 42 #[.int .i64 x0, .string nm, .slice oA m oc, .slice oB m od, .slice oT m oct] := by
    have h := hoi.blk
    simp only [Hln.out, Hbl.out] at h
    exact h
   have HC : Hid (∀ W, Fr (fun i => F i ∧ ∃ es ck, w5.heap[i]? = some (.map es ck)) w5 W → W.cell? ⟨pb, 2, none⟩ = some (.slice (some sa) m d) ∧ W.cell? (sa.add k) = some (.int .i64 i) ∧ W.cell? ⟨xb, 1, none⟩ = some (.int .i64 y.every) ∧ W.cell? ⟨t', 0, none⟩ = some (.int .i64 x0) ∧ W.cell? ⟨t', 1, none⟩ = some (.string nm) ∧ W.cell? ⟨t', 2, none⟩ = some (.slice oA m oc) ∧ W.cell? ⟨t', 3, none⟩ = some (.slice oB m od)) := fun W f =>
    ⟨mapcell f (Bp5.out.cell 2), mapcell f d5, mapcell f (Bx.out.cell 1), mapcell f (hbo.cell 0), mapcell f (hbo.cell 1), mapcell f (hbo.cell 2), mapcell f (hbo.cell 3)⟩
   have hRo : Rd w5 4 oA m (tcells lt) := by have h := (own_any hoi.tiers).2.2.1; simp only [Hln.out] at h; exact h
   have hRb : Rd w5 1 oB m (ints bs) := by have h := (own_any hoi.floors).2.2.1; simp only [Hbl.out] at h; exact h
   have hkn : k < lt.length := by rw [Hln.out]; exact hlt
   have hfe : fromI x0 lt bs (k : Int) = fromV x0 lt bs k := fromI_nat hkn
   have HFr : Hid (∀ W, Fr (fun i => F i ∧ ∃ es ck, w5.heap[i]? = some (.map es ck)) w5 W → Calls Tryz.prog 54 #[.agg #[.int .i64 x0, .string nm, .slice oA m oc, .slice oB m od], .int .i64 k] W fun r w' => r = .returned (.int .i64 (fromV x0 lt bs k)) ∧ Below W.heap.size W w') := fun W f => by
    rw [← hfe]
    exact fromI_any x0 hn64 nm lt oA m oc bs oB m od k W (hRo.mapfr (by decide) f) (hRb.mapfr (by decide) f) Hwt.out (by omega)
   have HTa : Hid (∀ W, Fr (fun i => F i ∧ ∃ es ck, w5.heap[i]? = some (.map es ck)) w5 W → Calls Tryz.prog 101 #[.pointer (some ⟨t, 0, none⟩), .int .i64 i] W fun r w' => (∃ g' b', r = .returned (.pointer (some ⟨g', 0, none⟩)) ∧ TabAt w' g' x.every b' (X.tabs.getD i []) ∧ W.heap.size ≤ g' ∧ W.heap.size ≤ b') ∧ Below W.heap.size W w') := fun W f => HTa0.out i x Hx.out W (FW5.out.trans f (fun j hj => .inr (HFg.out j hj.1)))
   have hsl : (X.tabs.getD i []).length ≤ 1000000 := getD_len Hl.out i
   have hmx : max y.every 1 = y.every := by omega
   obtain ⟨sl, hsle⟩ : ∃ l, X.tabs.getD i [] = l := ⟨_, rfl⟩
   rw [hsle] at HTa hsl
   obtain ⟨fv, hfv⟩ : ∃ v, fromV x0 lt bs k = v := ⟨_, rfl⟩
   have Hfv := Lib.hid hfv
   rw [hfv] at HFr
   have HRo : Hid (∀ W g b, TabAt W g x.every b sl → Calls Tryz.prog 135 #[.pointer (some ⟨g, 0, none⟩), .int .i64 y.every, .int .i64 fv] W fun r w' => (∃ g' b', r = .returned (.pointer (some ⟨g', 0, none⟩)) ∧ TabAt w' g' y.every b' (rollV x.every y.every fv sl) ∧ W.heap.size ≤ g' ∧ W.heap.size ≤ b') ∧ Below W.heap.size W w') := fun W g b ht => by
    have h := tabroll_any g x.every b sl y.every fv hwy.1 W ht (by omega)
    rw [hmx] at h
    exact h
   have hL1 : buildL X lt ss bs k = rollV x.every y.every fv sl := by
    unfold buildL
    rw [Hsi.out, Hy.out]
    simp only [Int.toNat_natCast]
    rw [Hx.out]
    simp only
    rw [Hx0.out, hfv, hsle]
   have hlX : loadX ⟨x0, nm, lt, bs, bt.take k ++ em.drop k⟩ k (rollV x.every y.every fv sl) = ⟨x0, nm, lt, bs, (bt.take k ++ em.drop k).set k (rollV x.every y.every fv sl)⟩ := by
    have h := loads_roll (X := ⟨x0, nm, lt, bs, bt.take k ++ em.drop k⟩) (j := k) (e1 := x.every) (l := sl) Hy.out (by
     show (bt.take k ++ em.drop k)[k]? = some []
     rw [List.getElem?_append_right (by rw [List.length_take]; omega), List.length_take, Nat.min_eq_left (by rw [Hbtl.out]; omega), Nat.sub_self, List.getElem?_drop, Nat.add_zero]
     exact Hem.out k hlt)
    simp only [hfv] at h
    exact h
   have hLl : (rollV x.every y.every fv sl).length ≤ 1000000 := Nat.le_trans (rollV_len _ _ _ _) hsl
   obtain ⟨L, hL⟩ : ∃ L, rollV x.every y.every fv sl = L := ⟨_, rfl⟩
   rw [hL] at HRo hL1 hlX hLl
   have hbk : bt[k]? = some L := by rw [Hbt.out k hlt, hL1]
   have hmix := mix_step (D := bt) (L := em) (k := k) (y := L) (by rw [Heml.out]; exact hlt) hbk (by rw [Hbtl.out]; omega)
   rw [hmix] at hlX
   have HAl : Hid (∀ W g b, TabAt W g y.every b L → Calls Tryz.prog 105 #[.pointer (some ⟨g, 0, none⟩)] W fun r w' => (∃ A c, r = .returned (.slice A L.length c) ∧ w'.ownsRow W.heap.size 115 7 (.slice A L.length c) L.length (rcells L)) ∧ Below W.heap.size W w') := fun W g b ht => taball_any g y.every b L W ht (by omega)
   have HLd : Hid (∀ W A c, Fr (fun _ => False) w5 W → Rd W 7 A L.length (rcells L) → (∀ r ∈ L, r.wf) → Calls Tryz.prog 104 #[.pointer (some ⟨t', 0, none⟩), .int .i64 k, .slice A L.length c] W fun r w' => r = .returned (.int .i64 (loadN ⟨x0, nm, lt, bs, bt.take k ++ em.drop k⟩ k L : Nat)) ∧ TiersOn w' t' wb.heap.size ⟨x0, nm, lt, bs, bt.take (k + 1) ++ em.drop (k + 1)⟩ F ∧ Fr (fun i => F i ∧ ∃ es ck, w5.heap[i]? = some (.map es ck)) W w') := fun W A c f hrd hrw => by
    refine (tload_in t' wb.heap.size ⟨x0, nm, lt, bs, bt.take k ++ em.drop k⟩ F k L A L.length c W (T5.out.fr0 f) hkn (by show lt.length ≤ 1000; rw [Hln.out]; exact hn9) ?_ (by omega) hnow Hwt.out hrd hrw).mono ?_
    ·intro z hz
     rcases List.mem_append.1 hz with hz | hz
     ·exact Nat.le_trans (Hbtm.out z (List.mem_of_mem_take hz)) (by omega)
     ·exact Nat.le_trans (Hemm.out z (List.mem_of_mem_drop hz)) (by omega)
    ·rintro r w' ⟨rfl, h1, h2⟩
     rw [hlX] at h1
     refine ⟨rfl, h1, h2.mono (fun j hj => .inl ⟨hj.1, ?_⟩)⟩
     obtain ⟨es, ck, hb⟩ := hj.2
     exact ⟨es, ck, by rw [← f.block j (T5.out.ge j hj.1).2 (fun h => h)]; exact hb⟩
   obtain ⟨ln, hln⟩ : ∃ v, loadN ⟨x0, nm, lt, bs, bt.take k ++ em.drop k⟩ k L = v := ⟨_, rfl⟩
   obtain ⟨Ln, hLn⟩ : ∃ v, L.length = v := ⟨_, rfl⟩
   obtain ⟨ye, hye2⟩ : ∃ v, y.every = v := ⟨_, rfl⟩
   obtain ⟨xe, hxe2⟩ : ∃ v, x.every = v := ⟨_, rfl⟩
   rw [hln, hLn] at HLd
   rw [hLn, hye2] at HAl
   rw [hye2] at HC
   rw [hye2, hxe2] at HRo
   rw [hxe2] at HTa
   clear hln hLn hye2 hxe2 hL hL1 hbk hlX hmix hfv hsle hmx hsl hfe hRo hRb hbo hoi hFe d5 d0 y0 y1 y2 y3 hw5 hxb hye hwy hdv Hoi Hsi Hy Hx HT
   refine wp_region_held_drew (S := fun W => Fr (fun i => F i ∧ ∃ es ck, w5.heap[i]? = some (.map es ck)) w5 W) (by kernel_rfl) ((Fr.refl _ w5).drew) (fun hHeld => ?_)
   refine tq 15 [0,1,2,3,4,5,6,7,9,10,11,12,13,14,15] ?_
   iterate 14 refine sf HC.out ?_
   refine sk ?_
   try simp only [Act.put, sA, sB, sC]
   refine sz ?_
   try simp only [Act.put, sA, sB, sC]
   refine rl 8 rfl (fun K hK => ?_)
   go_simp
   go_wp2_with (first | (go_at_call 101; refine (HTa.out _ hHeld).mono ?_; rintro r wa ⟨⟨ga, ba, rfl, ta, _, _⟩, bba⟩))
   have ta := Lib.hid ta
   refine hK.out _ _ (hHeld.trans (Fr.b0 bba) (fun _ h => h.elim)) (fun hHeld => ?_)
   clear hK K
   try simp only [Act.put, sA, sB, sC]
   refine rl 16 rfl (fun K hK => ?_)
   go_simp
   go_wp2_with (first | (go_at_call 54; refine (HFr.out _ hHeld).mono ?_; rintro r wc ⟨rfl, bbc⟩))
   refine hK.out _ _ (hHeld.trans (Fr.b0 bbc) (fun _ h => h.elim)) (fun hHeld => ?_)
   clear hK K
   try simp only [Act.put, sA, sB, sC]
   refine rl 17 rfl (fun K hK => ?_)
   go_simp
   go_wp2_with (first | (go_at_call 135; refine (HRo.out _ _ _ (ta.out.fr0 (Fr.b0 bbc))).mono ?_; rintro r wd ⟨⟨gd, bd, rfl, td2, _, _⟩, bbd⟩))
   have td2 := Lib.hid td2
   refine hK.out _ _ (hHeld.trans (Fr.b0 bbd) (fun _ h => h.elim)) (fun hHeld => ?_)
   clear hK K
   try simp only [Act.put, sA, sB, sC]
   refine rl 18 rfl (fun K hK => ?_)
   go_simp
   go_wp2_with (first | (go_at_call 105; refine (HAl.out _ _ _ td2.out).mono ?_; rintro r we ⟨⟨Ae, ce, rfl, oe⟩, bbe⟩))
   have oe := Lib.hid oe
   refine hK.out _ _ (hHeld.trans (Fr.b0 bbe) (fun _ h => h.elim)) (fun hHeld => ?_)
   clear hK K
   try simp only [Act.put, sA, sB, sC]
   refine rl 19 rfl (fun K hK => ?_)
   go_simp
   go_wp2_with (first | (go_at_call 104; refine (HLd.out _ _ _ ((Fr.refl _ w5).drew.trans (fr4 bba bbc bbd bbe) (fun _ h => h.elim)) (Rd.of_own oe.out) td2.out.own.wf).mono ?_; rintro r wf ⟨rfl, Tf, ff⟩))
   have Tf := Lib.hid Tf
   refine hK.out _ _ (hHeld.trans ff (fun i hi => .inl hi)) (fun hHeld => ?_)
   clear hK K
   try simp only [Act.put, sA, sB, sC]
   refine wpAnyH_done (by kernel_rfl) ?_ _
   have Fh := Lib.hid hHeld
   clear hHeld ff
   go_wp2_with fail
   go_roundw
   case rel => exact ⟨k + 1, by omega, by go_num, Tf.out, (Hf.out.trans F5.out (fun _ h => h.elim)).trans Fh.out (fun j hj => .inl hj.1)⟩
   case measure => simp [intOf]; omega
  ·obtain rfl : m = k := by omega
   have hfin := HT.out
   rw [← Hbtl.out, List.take_length, Hbtl.out, List.drop_eq_nil_of_le (by rw [Heml.out]; exact Nat.le_refl _), List.append_nil, ← HX.out] at hfin
   have Hfin := Lib.hid hfin
   clear hfin
   go_wp2_with fail
   refine bodyPost_ret (v := .tuple #[.pointer (some ⟨t', 0, none⟩), .int .i64 0]) (by simp [results, Tryz.results86, go_sem]) rfl ⟨⟨fun _ => ⟨t', F, rfl, ?_, HFg.out⟩, fun h => absurd rfl h⟩, ?_⟩
   ·exact Hfin.out.down hsz.out
   ·exact (Fw.out.below (fun _ h => h.elim)).trans (Hf.out.below_of Fw.out.size HFg.out)
end Go.Proofs.YtkfdgodngbinlaaGreatDoor
namespace Go.Proofs.YtkfdgodngbinlaaGreatDoor
set_option linter.all false
open Go.RowKit

theorem from_ge {now : Int} {l : List TierV} {fl : List Int} {k : Nat} {f : Int} (hk : k < l.length) (hf : fl[k]? = some f) : f ≤ fromV now l fl k ∧ fromV now l [] k ≤ fromV now l fl k := by
 unfold fromV
 rw [List.getElem?_eq_getElem hk, List.getElem?_eq_getElem (show min (k + 1) (l.length - 1) < l.length by omega), hf]
 simp only [List.getElem?_nil]
 omega
theorem srcs_get {now : Int} {lf : List TierV} {fl : List Int} {lt : List TierV} {j : Nat} {y : TierV} (hy : lt[j]? = some y) : (srcs now lf fl lt)[j]? = some (srcGo now lf fl y.every lf.length) := by
 unfold srcs
 rw [List.getElem?_map, hy]
 rfl
theorem bases_get {now : Int} {lf : List TierV} {fl : List Int} {ss : List Int} {lt : List TierV} {j : Nat} {s : Int} {y : TierV} (hs : ss[j]? = some s) (hy : lt[j]? = some y) : (basesV now lf fl ss lt)[j]? = some (ceilV (fromI now lf fl s) y.every) := by
 unfold basesV
 rw [List.getElem?_zipWith, hs, hy]
section
variable {nm nm2 : ByteArray} {l lt : List TierV} {X : TiersX} {fl : List Int} {o : Int} {c : Nat}
theorem build_src (p : checkB nm l = true) (hn : 0 ≤ X.now ∧ X.now ≤ 1099511627776) (hfl : ∀ f ∈ fl, 0 ≤ f ∧ f ≤ 2199023255552) (p2 : checkB nm2 lt = true) {j : Nat} {y : TierV} (hy : lt[j]? = some y) :
  ∃ (i : Nat) (x : TierV), l[i]? = some x ∧ (srcs o l fl lt)[j]? = some (i : Int) ∧ dividesB x.every y.every = true ∧ fromV X.now l fl i ≤ fromV X.now lt (basesV X.now l fl (srcs o l fl lt) lt) j ∧ (basesV X.now l fl (srcs o l fl lt) lt)[j]? = some (ceilV (fromV X.now l fl i) y.every) := by
 obtain ⟨i, x, hi, e1, hx, hd, _⟩ := src_law (now := o) (fl := fl) y.every p
 have hy1 := check_mem p2 (mem_of_get hy)
 have hx1 := check_mem p (mem_of_get hx)
 have hs : (srcs o l fl lt)[j]? = some (i : Int) := by rw [srcs_get hy, e1]
 have hb := bases_get (now := X.now) (lf := l) (fl := fl) hs hy
 rw [fromI_nat hi] at hb
 have hf := from_bd p hn.1 hn.2 hfl i
 have hc := ceil_law (t := fromV X.now l fl i) (e := y.every) hf.1 (by omega) hy1.1 hy1.2.1
 refine ⟨i, x, hx, hs, ?_, Int.le_trans hc.2.1 (from_ge (List.getElem?_eq_some_iff.1 hy).1 hb).1, hb⟩
 unfold dividesB
 simp only [Bool.and_eq_true, decide_eq_true_eq]
 exact ⟨hx1.1, hd⟩
theorem srcs_i64 (p : checkB nm l = true) : ∀ s ∈ srcs o l fl lt, i64 s := by
 intro s hs
 unfold srcs at hs
 obtain ⟨y, _, rfl⟩ := List.mem_map.1 hs
 have h1 := srcGo_in o l fl y.every l.length
 have h2 := (check_len p).2
 unfold i64
 omega
theorem build_fits (p : checkB nm l = true) (hn : 0 ≤ X.now ∧ X.now ≤ 1099511627776) (hfl : ∀ f ∈ fl, 0 ≤ f ∧ f ≤ 2199023255552) (p2 : checkB nm2 lt = true) : fitsL l nm2 lt (srcs o l fl lt) = true := by
 have hlen : (srcs o l fl lt).length = lt.length := by unfold srcs; rw [List.length_map]
 refine fitsL_yes p2 hlen (fun k hk => ?_)
 rw [hlen] at hk
 obtain ⟨i, x, hx, hs, hd, _⟩ := build_src (o := o) (X := X) p hn hfl p2 (List.getElem?_eq_getElem hk)
 unfold fitL
 rw [hs, List.getElem?_eq_getElem hk]
 simp only [Int.toNat_natCast]
 rw [hx]
 simpa using hd
theorem build_floors (p : checkB nm l = true) (hn : 0 ≤ X.now ∧ X.now ≤ 1099511627776) (hfl : ∀ f ∈ fl, 0 ≤ f ∧ f ≤ 2199023255552) (p2 : checkB nm2 lt = true) : floorsB lt (basesV X.now l fl (srcs o l fl lt) lt) = true := by
 unfold floorsB
 rw [List.all_eq_true]
 intro k _
 unfold floorOk
 split
 ·rename_i f t hf ht
  obtain ⟨i, x, hx, _, _, _, hb⟩ := build_src (o := o) (X := X) p hn hfl p2 ht
  rw [hb] at hf
  cases hf
  have hf := from_bd p hn.1 hn.2 hfl i
  have hy1 := check_mem p2 (mem_of_get ht)
  have hc := ceil_law (t := fromV X.now l fl i) (e := t.every) hf.1 (by omega) hy1.1 hy1.2.1
  unfold onB
  simp only [Bool.and_eq_true, decide_eq_true_eq]
  exact ⟨hc.2.2.2.1, hy1.1, hc.1⟩
 ·rfl
theorem build_ok (p : checkB nm l = true) (hg : GoodX nm l fl X c) (hfl : ∀ f ∈ fl, 0 ≤ f ∧ f ≤ 2199023255552) (p2 : checkB nm2 lt = true) : buildE X nm2 lt (srcs o l fl lt) = 0 := by
 have hn := hg.now
 unfold buildE
 rw [hg.tiers, hg.floors, if_pos (build_fits (X := X) p hn hfl p2)]
 unfold newE
 rw [if_pos p2, if_neg, if_pos (build_floors (X := X) p hn hfl p2)]
 unfold basesV
 rw [List.length_zipWith]
 omega
theorem build_tab {ss : List Int} {j : Nat} (hj : j < lt.length) : (buildX X nm2 lt ss).tabs.getD j [] = buildL X lt ss (basesV X.now X.tiers X.floors ss lt) j := by
 show ((List.range lt.length).map _).getD j [] = _
 rw [List.getD_eq_getElem?_getD, List.getElem?_map, List.getElem?_range hj]
 rfl
theorem build_goodX (p : checkB nm l = true) (hg : GoodX nm l fl X c) (hfl : ∀ f ∈ fl, 0 ≤ f ∧ f ≤ 2199023255552) (p2 : checkB nm2 lt = true) : GoodX nm2 lt (basesV X.now l fl (srcs o l fl lt) lt) (buildX X nm2 lt (srcs o l fl lt)) c := by
 have hgood : ∀ j, goodL (buildL X lt (srcs o l fl lt) (basesV X.now X.tiers X.floors (srcs o l fl lt) lt) j) := fun j => by
  unfold buildL
  split
  ·split
   ·exact rollV_right.1
   ·exact good_nil
  ·exact good_nil
 refine ⟨rfl, rfl, ?_, hg.now, by simp [buildX], fun m hm => ?_, fun k => ?_, fun k x hx r hr => ?_⟩
 ·show basesV X.now X.tiers X.floors _ lt = _
  rw [hg.tiers, hg.floors]
 ·obtain ⟨j, _, rfl⟩ := List.mem_map.1 hm
  exact buildL_len hg.len j
 ·by_cases hk : k < lt.length
  ·rw [build_tab hk]; exact hgood k
  ·show goodL (((List.range lt.length).map _).getD k [])
   rw [List.getD_eq_getElem?_getD, List.getElem?_eq_none (by simpa using hk)]
   exact good_nil
 ·have hk : k < lt.length := (List.getElem?_eq_some_iff.1 hx).1
  rw [build_tab hk] at hr
  unfold buildL at hr
  split at hr
  ·rename_i s y _ hy
   rw [hx] at hy
   cases hy
   split at hr
   ·have h := (rollV_right.2 r hr).1
    unfold rightR at h
    simp only [Bool.and_eq_true, decide_eq_true_eq] at h
    exact h.1.1.1 |> fun h1 => ⟨h1, h.1.1.2, h.1.2⟩
   ·cases hr
  ·cases hr
end
end Go.Proofs.YtkfdgodngbinlaaGreatDoor
namespace Go.Proofs.YtkfdgodngbinlaaGreatDoor
set_option linter.all false
open Go.RowKit

structure ReachIn (W : World) (t : Nat) (now : Int) (nm : ByteArray) (l : List TierV) (fl : List Int) (tA : Option Addr) (tc : Nat) (tB : Option Addr) (td : Nat) : Prop where
 c0 : W.cell? ⟨t, 0, none⟩ = some (.int .i64 now)
 c1 : W.cell? ⟨t, 1, none⟩ = some (.string nm)
 c2 : W.cell? ⟨t, 2, none⟩ = some (.slice tA l.length tc)
 c3 : W.cell? ⟨t, 3, none⟩ = some (.slice tB fl.length td)
 rt : Rd W 4 tA l.length (tcells l)
 rf : Rd W 1 tB fl.length (ints fl)
 le : l.length ≤ tc
section
variable {nm nm2 : ByteArray} {l lt : List TierV} {fl : List Int} {lo : Nat} {W W' : World} {t : Nat} {X : TiersX} {F : Nat → Prop} {c : Nat} {now : Int} {tA tB : Option Addr} {tc td : Nat}
theorem ReachIn.fr0 (h : ReachIn W t now nm l fl tA tc tB td) (f : Fr (fun _ => False) W W') : ReachIn W' t now nm l fl tA tc tB td :=
 ⟨f.cell h.c0 (fun h => h), f.cell h.c1 (fun h => h), f.cell h.c2 (fun h => h), f.cell h.c3 (fun h => h), h.rt.fr0 f, h.rf.fr0 f, h.le⟩
theorem Tio.reach (h : Tio nm l fl lo W t X F c) : ∃ tA tc tB td, ReachIn W t X.now nm l fl tA tc tB td := by
 obtain ⟨base, hb, tA, tc, tB, td, T, ct, tb, hi, _⟩ := h.on
 have hg := h.good
 have b := hi.blk
 have e1 := own_any hi.tiers
 have e2 := own_any hi.floors
 rw [hg.tiers, hg.floors, hg.name] at b
 rw [hg.tiers] at e1
 rw [hg.floors] at e2
 exact ⟨tA, tc, tB, td, b.cell 0, b.cell 1, b.cell 2, b.cell 3, e1.2.2.1, e2.2.2.1, e1.1⟩
end
end Go.Proofs.YtkfdgodngbinlaaGreatDoor
namespace Go.Proofs.YtkfdgodngbinlaaGreatDoor
set_option linter.all false
open Go.RowKit

section
variable {nm nm2 : ByteArray} {l lt : List TierV} {fl : List Int} {o : Int} {lo : Nat} {W W' : World} {t : Nat} {X : TiersX} {F : Nat → Prop} {c : Nat} {now : Int} {tA tB : Option Addr} {tc td : Nat}
theorem reach_from (p : PolOk nm l) (h : ReachIn W t now nm l fl tA tc tB td) (hn : 0 ≤ now ∧ now ≤ 1099511627776) (k : Nat) (hk : k < l.length) :
  Calls Tryz.prog 54 #[.agg #[.int .i64 now, .string nm, .slice tA l.length tc, .slice tB fl.length td], .int .i64 k] W fun r w' => r = .returned (.int .i64 (fromV now l fl k)) ∧ Below W.heap.size W w' := by
 have h1 := fromI_any now (by unfold i64; omega) nm l tA l.length tc fl tB fl.length td k W h.rt h.rf p.wf (by have := p.five; omega)
 rw [fromI_nat hk] at h1
 exact h1
theorem tio_build (p : PolOk nm l) (p2 : PolOk nm2 lt) (hnm2 : nm2.size ≤ maxLen) (h : Tio nm l fl lo W t X F c) (hc : c ≤ 1000000) (hfl : ∀ f ∈ fl, 0 ≤ f ∧ f ≤ 2199023255552) (A : Option Addr) (n cc : Nat) (S : Option Addr) (d : Nat) (ht : Rd W 4 A n (tcells lt)) (hnc : n ≤ cc) (hs : Rd W 1 S n (ints (srcs o l fl lt))) (lo2 : Nat) (hlo : lo2 ≤ W.heap.size) :
  Calls Tryz.prog 86 #[planV nm2 A n cc S n d, .pointer (some ⟨t, 0, none⟩)] W fun r w' => (∃ t' F', r = .returned (.tuple #[.pointer (some ⟨t', 0, none⟩), .int .i64 0]) ∧ Tio nm2 lt (basesV X.now l fl (srcs o l fl lt) lt) lo2 w' t' (buildX X nm2 lt (srcs o l fl lt)) F' c ∧ ∀ j, F' j → W.heap.size ≤ j) ∧ Below W.heap.size W w' := by
 obtain ⟨base, hb, ho⟩ := h.on
 have hn5 := p2.five
 have hnl := ht.tiers_len
 refine (build_any nm2 hnm2 lt A n cc (srcs o l fl lt) S n d t base X W ht hnc (by omega) p2.wf hs (by omega) (srcs_i64 p.ck) ho.at_ (h.five p) (h.short hc) h.good.now (by
  rw [h.good.floors]
  intro f hf
  have := hfl f hf
  unfold i64
  omega) (h.wf p)).mono ?_
 rintro r w' ⟨⟨h1, _⟩, hb⟩
 obtain ⟨t', F', rfl, h2, h3⟩ := h1 (build_ok p.ck h.good hfl p2.ck)
 exact ⟨⟨t', F', rfl, ⟨⟨_, hlo, h2⟩, build_goodX p.ck h.good hfl p2.ck⟩, h3⟩, hb⟩
end
end Go.Proofs.YtkfdgodngbinlaaGreatDoor
