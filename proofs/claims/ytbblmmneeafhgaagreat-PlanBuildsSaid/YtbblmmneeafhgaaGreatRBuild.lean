/- Walk of the document: Table.Roll. -/
import Derived.Test.YtbblmmneeafhgaaGreatRTAdd
import Derived.Test.YtbblmmneeafhgaaGreatTabNeed
import Derived.Test.YtbblmmneeafhgaaGreatRefGrid
import Derived.Test.YtbblmmneeafhgaaGreatPlanBuild
import Derived.Test.YtbblmmneeafhgaaGreatRefPol
import Derived.Test.YtbblmmneeafhgaaGreatRTNew
import Derived.Test.YtbblmmneeafhgaaGreatRefBases
import Derived.Test.YtbblmmneeafhgaaGreatOwnSet
import Derived.Test.YtbblmmneeafhgaaGreatTk
namespace Go.Proofs.YtbblmmneeafhgaaGreat
set_option linter.all false
open Go.RowKit

set_option maxRecDepth 100000 in
set_option maxHeartbeats 6000000 in
theorem rtroll_any (p lo : Nat) (F : Nat → Prop) (e1 : Int) (l : List RecV) (e fr : Int) (he : 1 ≤ e ∧ e ≤ 1000000) (he1 : 1 ≤ e1 ∧ e1 ≤ 1000000) (w : World) (h : RTabF w p lo F e1 l) (hl : l.length ≤ 1000000) :
    Calls Tryz.prog 123 #[.pointer (some ⟨p, 0, none⟩), .int .i64 e, .int .i64 fr] w fun r w' => (∃ g, r = .returned (.pointer (some ⟨g, 0, none⟩)) ∧ RTabF w' g w.heap.size (fun j => w.heap.size ≤ j) e (rollV e1 e fr l)) ∧ Fr (fun _ => False) w w' := by
  obtain ⟨⟨A, c, hb, ho, hF⟩, hwf, hso, hge⟩ := h
  obtain ⟨n, hn⟩ : ∃ n, l.length = n := ⟨_, rfl⟩
  have Hn := Lib.hid hn
  rw [hn] at hb ho hl
  obtain ⟨hnc, hc9, hrd, _⟩ := own_any ho
  have Hb := Lib.hid hb
  have Hrd := Lib.hid hrd
  have Hwf := Lib.hid hwf
  have hpl := hb.lt
  have hmx : max e 1 = e := by omega
  have he10 : (e1 == 0) = false := by simp; omega
  unfold rollV
  obtain ⟨RV, hRV⟩ : ∃ RV, (if dividesB e1 e = true then addsV e [] (rollL e fr l) else []) = RV := ⟨_, rfl⟩
  rw [hRV]
  have HRV := Lib.hid hRV
  obtain ⟨W1, hW1⟩ : ∃ v, v = w.alloc (.cells #[.int .i64 e, .slice none 0 0] 116) := ⟨_, rfl⟩
  have HW1 := Lib.hid hW1
  have F1 : Hid (Fr (fun _ => False) w W1) := by show Fr _ _ _; rw [hW1]; exact Fr.none_alloc _ _
  obtain ⟨g, hg⟩ : ∃ v, w.heap.size = v := ⟨_, rfl⟩
  have T1 : Hid (RTabF W1 g g (fun j => g ≤ j) e []) := by
    show RTabF _ _ _ _ _ _
    rw [hW1]
    exact ⟨⟨none, 0, Blk.new' hg.symm _ _, World.ownsRow_nil _ _ _ _, fun j hj => by obtain ⟨h0, _⟩ := hj⟩, (fun r hr => by cases hr), List.Pairwise.nil, Nat.le_refl _⟩
  have HFl : Hid (∀ W t, in64 t → Calls Tryz.prog 174 #[.int .i64 t, .int .i64 e] W fun r w' => r = .returned (.int .i64 (floorV t e)) ∧ W = w') := fun W t ht => rfloor_any t e ht.1 ht.2 (by omega) (by omega) W
  have hpg : p ≠ g := by omega
  have hln : n ≤ 1000000 := hl
  obtain ⟨md, hmd⟩ : ∃ v, e.tmod e1 = v := ⟨_, rfl⟩
  have Hmd := Lib.hid hmd
  have a0 : ∀ o, (w.alloc o).cell? ⟨p, 0, none⟩ = some (.int .i64 e1) := fun o => (Fr.none_alloc w o).cell (hb.cell 0) (fun h => h)
  clear hb ho hrd hwf hso hF hn hRV hW1 hl
  by_cases hdv : md = 0
  case neg =>
    have hd2 : (md == 0) = false := by simpa using hdv
    have hd3 : (md != 0) = true := by simpa using hdv
    have hr : RV = [] := by
      rw [← HRV.out, if_neg]
      unfold dividesB
      simp [Hmd.out, hdv]
    have hW2 := HW1.out
    clear HW1
    subst hW2
    go_enter Tryz.func123, Tryz.ntmps123
    go_wp2_with fail
    try rw [hg]
    go_ret
    exact ⟨⟨g, rfl, by rw [hr]; exact T1.out⟩, F1.out⟩
  case pos =>
  have hd2 : (md == 0) = true := by simpa using hdv
  have hd3 : (md != 0) = false := by simpa using hdv
  have hr : RV = addsV e [] (rollL e fr l) := by
    rw [← HRV.out, if_pos]
    unfold dividesB
    simp only [Bool.and_eq_true, decide_eq_true_eq]
    exact ⟨by omega, by rw [Hmd.out]; exact hdv⟩
  rw [hr]
  clear HRV hr
  have Hll : Hid (∀ q, (addsV e [] (rollL e fr (l.take q))).length ≤ 1000000) := fun q => by
    refine Nat.le_trans (addsV_len _ List.Pairwise.nil) ?_
    have := rollL_len e fr (l.take q)
    rw [List.length_take, Hn.out] at this
    simp
    omega
  have HlN : Hid (l.take n = l) := take_all (by rw [Hn.out]; exact Nat.le_refl _)
  have Hst : Hid (∀ q r, l[q]? = some r → addsV e [] (rollL e fr (l.take (q + 1))) = if decide (fr ≤ floorV r.start e) = true then addV e (addsV e [] (rollL e fr (l.take q))) ⟨r.name, floorV r.start e, r.agg⟩ else addsV e [] (rollL e fr (l.take q))) := fun q r hr => by
    rw [take_snoc hr, rollL_snoc]
    cases decide (fr ≤ floorV r.start e)
    · simp
    · simp only [if_pos]
      rw [addsV_snoc]
  go_enter Tryz.func123, Tryz.ntmps123
  go_wp2_with fail
  rw [← HW1.out]
  try rw [hg]
  clear a0 hd2 hd3 hmd
  go_loopw [8] (fun i wr => ∃ q : Nat, q ≤ n ∧ i = .int .i64 q ∧ RTabF wr g g (fun j => g ≤ j) e (addsV e [] (rollL e fr (l.take q))) ∧ Fr (fun j => j = g) W1 wr) (fun i _ => n - (intOf i).toNat)
  case atStart => exact ⟨0, Nat.zero_le _, rfl, T1.out, Fr.refl _ _⟩
  case round =>
    obtain ⟨q, hq, rfl, hT, hfr⟩ := hrel
    have HT := Lib.hid hT
    have HFr := Lib.hid hfr
    have HFw : Hid (∀ W, Fr (fun j => j = g) wr W → Fr (fun _ => False) w W) := fun W f => (F1.out.trans HFr.out (fun j hj => .inr (by omega))).trans f (fun j hj => .inr (by omega))
    have Bp : Hid (Blk wr p 116 #[.int .i64 e1, .slice A n c]) := Hb.out.fr (HFw.out wr (Fr.refl _ _)) (fun h => h)
    have a1 := Bp.out.cell 1
    simp only [List.getElem?_toArray, List.getElem?_cons_succ, List.getElem?_cons_zero] at a1
    clear hT hfr
    by_cases hlt : q < n
    · obtain ⟨ra, ⟨rn, rs, ⟨r1, r2, r3, r4, r5⟩⟩, rfl, hr, d0, d1, d2, d3, d4, d5, d6⟩ := (Hrd.out.fr0 (HFw.out wr (Fr.refl _ _))).rec_ hlt
      have Hsq := Lib.hid (Hst.out q _ hr)
      have hrw := Hwf.out _ (mem_of_get hr)
      simp only at Hsq d0 d1 d2 d3 d4 d5 d6
      have g0 : decide ((q : Int) < (n : Int)) = true := decide_eq_true (by omega)
      have qn : 0 ≤ (q : Int) ∧ (q : Int) < (n : Int) := by omega
      have hqw : IntKind.i64.wrap ((q : Int) + 1) = (q : Int) + 1 := by simp [IntKind.wrap, IntKind.signed, IntKind.bits]; omega
      obtain ⟨hs2, hs3, hs1⟩ := hrw
      simp only at hs1 hs2 hs3
      have hfi := floor_in (e := e) hs2.1 hs2.2
      have HF2 := Lib.hid (fun W => HFl.out W rs hs2)
      obtain ⟨fv, hfv⟩ : ∃ v, floorV rs e = v := ⟨_, rfl⟩
      rw [hfv] at HF2 hfi Hsq
      have hq2 : (⟨rn, fv, ⟨r1, r2, r3, r4, r5⟩⟩ : RecV).wf := ⟨hfi, hs3, hs1⟩
      obtain ⟨cur, hcur⟩ : ∃ v, addsV e [] (rollL e fr (l.take q)) = v := ⟨_, rfl⟩
      have hcl := Hll.out q
      rw [hcur] at HT Hsq hcl
      obtain ⟨rb, hrb⟩ : ∃ v, wr.heap.size = v := ⟨_, rfl⟩
      obtain ⟨W2, hW2⟩ : ∃ v, v = wr.alloc (.cells #[.string rn, .int .i64 rs, .int .i64 r1, .int .i64 r2, .int .u64 r3, .int .i64 r4, .int .i64 r5] 100) := ⟨_, rfl⟩
      have HW2 := Lib.hid hW2
      have B2 : Hid (Blk W2 rb 100 #[.string rn, .int .i64 rs, .int .i64 r1, .int .i64 r2, .int .u64 r3, .int .i64 r4, .int .i64 r5]) := by show Blk _ _ _ _; rw [hW2]; exact Blk.new' hrb.symm _ _
      have F2 : Hid (Fr (fun _ => False) wr W2) := by show Fr _ _ _; rw [hW2]; exact Fr.none_alloc _ _
      have hrg : g < rb := by have := HT.out.ex; obtain ⟨_, _, hb', _⟩ := this; have := hb'.lt; omega
      have HRB : Hid (rb = wr.heap.size) := hrb.symm
      clear hW2 hr hcur hfv
      go_wp2_with fail
      rw [← HW2.out]
      try rw [hrb]
      have z1 := B2.out.cell 1
      have fz1 := B2.out.frozen 1
      simp only [List.getElem?_toArray, List.getElem?_cons_succ, List.getElem?_cons_zero] at z1
      clear d0 d1 d2 d3 d4 d5 d6 a1
      go_wp2_with fail
      refine (HF2.out _).mono ?_
      rintro r w' ⟨rfl, rfl⟩
      go_upto_region 10 with fail
      clear fz1 z1
      obtain ⟨W3, hW3⟩ : ∃ v, v = W2.setCell ⟨rb, 1, none⟩ (.int .i64 fv) := ⟨_, rfl⟩
      rw [← hW3]
      have B3 : Hid (Blk W3 rb 100 #[.string rn, .int .i64 fv, .int .i64 r1, .int .i64 r2, .int .u64 r3, .int .i64 r4, .int .i64 r5]) := by
        show Blk _ _ _ _
        rw [hW3]
        simpa using B2.out.set_ 1 (.int .i64 fv)
      have F3 : Hid (Fr (fun j => j = g) wr W3) := by
        show Fr _ _ _
        rw [hW3]
        exact (F2.out.mono (fun _ h => h.elim)).trans ((Fr.refl (fun j => j = rb) W2).setCell (p := ⟨rb, 1, none⟩) (.inl rfl) _) (fun j hj => .inr (by rw [hj, HRB.out]; exact Nat.le_refl _))
      have T3 : Hid (RTabF W3 g g (fun j => g ≤ j) e cur) := by
        show RTabF _ _ _ _ _ _
        rw [hW3]
        exact (HT.out.mono (fun j hj hjs => (⟨hj, hjs⟩ : g ≤ j ∧ j < wr.heap.size))).fr (F2.out.trans ((Fr.refl (fun j => j = rb) W2).setCell (p := ⟨rb, 1, none⟩) (.inl rfl) _) (fun j hj => .inr (by rw [hj, HRB.out]; exact Nat.le_refl _)) : Fr (fun _ => False) wr _) (fun h => h) (fun _ _ h => h) |>.mono (fun j hj _ => hj.1)
      have z0 := B3.out.cell 0
      have z1 := B3.out.cell 1
      have z2 := B3.out.cell 2
      have z3 := B3.out.cell 3
      have z4 := B3.out.cell 4
      have z5 := B3.out.cell 5
      have z6 := B3.out.cell 6
      simp only [List.getElem?_toArray, List.getElem?_cons_succ, List.getElem?_cons_zero] at z0 z1 z2 z3 z4 z5 z6
      clear hW3
      by_cases hff : fr ≤ fv
      · have hfd : decide (fr ≤ fv) = true := decide_eq_true hff
        rw [if_pos hfd] at Hsq
        have HAd := Lib.hid (radd_anyF g g (fun j => g ≤ j) e cur ⟨rn, fv, ⟨r1, r2, r3, r4, r5⟩⟩ hq2 W3 T3.out (by have := F3.out.size; omega) (by omega))
        unfold RecV.val at HAd
        dsimp only at HAd
        go_wp2_with fail
        refine HAd.out.mono ?_
        rintro r w5 ⟨rfl, t5, f5⟩
        have T5 := Lib.hid (t5.mono (F' := fun j => g ≤ j) (fun j hj _ => by rcases hj with h | h; exact h; have := F3.out.size; omega))
        have F5 : Hid (Fr (fun j => j = g) W1 w5) := (HFr.out.trans F3.out (fun j hj => .inl hj)).trans f5 (fun j hj => .inl hj)
        clear t5 f5 z0 z1 z2 z3 z4 z5 z6 HAd
        go_wp2_with fail
        go_roundw
        case rel => exact ⟨q + 1, by omega, by go_num, by rw [Hsq.out]; exact T5.out, F5.out⟩
        case measure => simp [intOf]; omega
      · have hfd : decide (fr ≤ fv) = false := decide_eq_false hff
        rw [if_neg (by rw [hfd]; simp)] at Hsq
        clear z0 z2 z3 z4 z5 z6
        go_wp2_with fail
        go_roundw
        case rel => exact ⟨q + 1, by omega, by go_num, by rw [Hsq.out]; exact T3.out, HFr.out.trans F3.out (fun j hj => .inl hj)⟩
        case measure => simp [intOf]; omega
    · obtain rfl : q = n := by omega
      have g0 : decide ((q : Int) < (q : Int)) = false := decide_eq_false (by omega)
      rw [HlN.out] at HT
      have FE := Lib.hid (HFw.out wr (Fr.refl _ _))
      go_wp2_with fail
      go_ret
      exact ⟨⟨g, rfl, by rw [hg]; exact HT.out⟩, FE.out⟩
end Go.Proofs.YtbblmmneeafhgaaGreat
namespace Go.Proofs.YtbblmmneeafhgaaGreat
set_option linter.all false
open Go.RowKit

set_option maxRecDepth 100000 in
set_option maxHeartbeats 8000000 in
theorem rfits_any (nm : ByteArray) (hnm : nm.size ≤ maxLen) (lt : List TierV) (A : Option Addr) (n c : Nat) (ss : List Int) (S : Option Addr) (m d : Nat) (t lo : Nat) (F : Nat → Prop) (X : TiersX) (tA : Option Addr) (tc : Nat) (tB : Option Addr) (td : Nat) (T : Option Addr) (ct : Nat) (tP : List Nat) (w : World) (ht : Rd w 4 A n (tcells lt)) (hnc : n ≤ c) (hn9 : n ≤ 1099511627776) (hwt : ∀ t ∈ lt, t.wf) (hs : Rd w 1 S m (ints ss)) (hm9 : m ≤ 1099511627776) (hss : ∀ s ∈ ss, i64 s) (h : RTiersOn w t lo F X tA tc tB td T ct tP) (hn : X.tiers.length ≤ 1000) (hwf : ∀ x ∈ X.tiers, x.wf) (hev : ∀ x ∈ X.tiers, 1 ≤ x.every ∧ x.every ≤ 1000000) :
    Calls Tryz.prog 121 #[planV nm A n c S m d, .pointer (some ⟨t, 0, none⟩)] w fun r w' => r = .returned (.bool (fitsL X.tiers nm lt ss)) ∧ Below w.heap.size w w' := by
  unfold planV
  have HCk : Hid (∀ w', Fr (fun _ => False) w w' → Calls Tryz.prog 46 #[.agg #[.string nm, .slice A n c]] w' fun r w'' => (∃ k : Int, r = .returned (.tuple #[.int .i64 (errOf (checkB nm lt)), .int .i64 k])) ∧ Below w'.heap.size w' w'') :=
    fun w' h => rcheck_any nm hnm lt A n c w' (ht.fr0 h) hn9 (fun t ht => (hwt t ht).2.2.2)
  have hi := h
  have Hev := Lib.hid hev
  have Ht := Lib.hid ht
  have Hs := Lib.hid hs
  have Hln := Lib.hid ht.tiers_len
  have Hlm : Hid (ss.length = m) := Rd.len_map hs
  have Hwt := Lib.hid hwt
  have Hwf := Lib.hid hwf
  have Hss := Lib.hid hss
  have Hi := Lib.hid hi
  have F0 := Lib.hid (Fr.none_alloc w (.cells #[.string nm, .slice A n c, .slice S m d] 85))
  have B0 := Lib.hid (Blk.new w 85 #[.string nm, .slice A n c, .slice S m d])
  obtain ⟨res, hres⟩ : ∃ b, fitsL X.tiers nm lt ss = b := ⟨_, rfl⟩
  have Hres := Lib.hid hres
  rw [hres]
  clear ht hs hwt hwf hss hi hres h hev
  go_enter Tryz.func121, Tryz.ntmps121
  go_wp2_with fail
  obtain ⟨W1, hW1⟩ : ∃ W1, W1 = w.alloc (.cells #[.string nm, .slice A n c, .slice S m d] 85) := ⟨_, rfl⟩
  rw [← hW1]
  rw [← hW1] at F0 B0
  clear hW1
  refine (HCk.out _ F0.out).mono ?_
  rintro r w2 ⟨⟨kk, rfl⟩, b2⟩
  have F2 := Lib.hid (F0.out.trans (Fr.b0 b2) (fun _ h => h.elim))
  have B2 := Lib.hid (B0.out.fr (Fr.b0 b2) (fun h => h))
  clear b2 F0 B0 HCk
  have p0 := B2.out.cell 0
  have p1 := B2.out.cell 1
  have p2 := B2.out.cell 2
  simp only [List.getElem?_toArray, List.getElem?_cons_succ, List.getElem?_cons_zero] at p0 p1 p2
  cases hc : checkB nm lt with
  | false =>
    have hr : res = false := by rw [← Hres.out]; unfold fitsL; rw [hc]; rfl
    subst hr
    clear hc
    unfold errOf
    go_wp2_with fail
    go_ret
    exact ⟨rfl, F2.out.below (fun _ h => h.elim)⟩
  | true =>
  have Hck := Lib.hid hc
  clear hc
  unfold errOf
  by_cases hmn : m = n
  case neg =>
    have hr : res = false := by rw [← Hres.out]; unfold fitsL; rw [decide_eq_false (by rw [Hlm.out, Hln.out]; exact hmn)]; simp
    subst hr
    have hm1 : ((m : Int) != (n : Int)) = true := by rw [bne_iff_ne]; omega
    have hm2 : (m != n) = true := by simpa using hmn
    have hm3 : ¬ ((m : Int) = (n : Int)) := by omega
    have hm4 : decide (m = n) = false := decide_eq_false hmn
    go_wp2_with fail
    go_ret
    exact ⟨by first | rfl | simp [*], F2.out.below (fun _ h => h.elim)⟩
  case pos =>
  subst hmn
  go_wp2_with fail
  have O2 : Hid (Fr (fun _ => False) w2 w2) := Fr.refl _ _
  clear p0 p1 p2
  go_loopw [7] (fun i wr => ∃ k : Nat, k ≤ m ∧ i = .int .i64 k ∧ Fr (fun _ => False) w2 wr ∧ ∀ j, j < k → fitL X.tiers lt ss j = true) (fun i _ => m - (intOf i).toNat)
  case atStart => exact ⟨0, Nat.zero_le _, rfl, O2.out, fun j hj => absurd hj (by omega)⟩
  case round =>
    obtain ⟨k, hk, rfl, hf, hall⟩ := hrel
    have Hf := Lib.hid hf
    have Hall := Lib.hid hall
    clear hf hall O2
    have r2 := (B2.out.fr Hf.out (fun h => h)).cell 2
    simp only [List.getElem?_toArray, List.getElem?_cons_succ, List.getElem?_cons_zero] at r2
    by_cases hlt : k < m
    · have Fr1 := Lib.hid (F2.out.trans Hf.out (fun _ h => h.elim))
      obtain ⟨ad, s, rfl, hs, d0⟩ := Rd.at_map (f := Value.int .i64) (l := ss) (Hs.out.fr0 Fr1.out) hlt
      have hs64 := Hss.out s (mem_of_get hs)
      have hi64 : -9223372036854775808 ≤ s ∧ s ≤ 9223372036854775807 := hs64
      obtain ⟨Tc, X2⟩ : ∃ z : Nat, z = X.tiers.length := ⟨_, rfl⟩
      have Bp := Lib.hid (B2.out.fr Hf.out (fun h => h))
      have Bt := Lib.hid (Hi.out.fr0 Fr1.out).blk
      have hkw : IntKind.i64.wrap ((k : Int) + 1) = (k : Int) + 1 := by simp [IntKind.wrap, IntKind.signed, IntKind.bits]; omega
      have hkn : 0 ≤ (k : Int) ∧ (k : Int) < (m : Int) := by omega
      have HC : Hid (∀ W, Fr (fun _ => False) wr W → W.cell? ⟨w.heap.size, 0, none⟩ = some (.string nm) ∧ W.cell? ⟨w.heap.size, 1, none⟩ = some (.slice A m c) ∧ W.cell? ⟨w.heap.size, 2, none⟩ = some (.slice (some ad) m d) ∧ W.cell? ⟨t, 4, none⟩ = some (.slice T Tc ct)) := fun W f =>
        ⟨(Bp.out.fr f (fun h => h)).cell 0, (Bp.out.fr f (fun h => h)).cell 1, (Bp.out.fr f (fun h => h)).cell 2, by rw [X2]; exact (Bt.out.fr f (fun h => h)).cell 4⟩
      have Hs1 := Lib.hid hs
      have X3 := Lib.hid X2
      have hTc : Tc ≤ 1000 := by rw [X2]; exact hn
      clear hs hs64 X2
      clear r2
      have q0 := (HC.out _ (Fr.refl _ _)).2.2.1
      by_cases hs0 : s < 0
      · have hd0 : decide (s < 0) = true := decide_eq_true hs0
        have hr : res = false := by
          rw [← Hres.out]
          refine fitsL_no (k := k) (by rw [Hlm.out]; exact hlt) ?_
          unfold fitL
          rw [Hs1.out]
          have : decide (0 ≤ s) = false := decide_eq_false (by omega)
          split
          · rename_i e _; injection e with e; subst e; rw [this]; rfl
          · rfl
        subst hr
        go_wp2_with fail
        refine wp_region_held_drew (S := fun W => Fr (fun _ => False) wr W) (by kernel_rfl) ((Fr.refl _ wr).drew) (fun hHeld => ?_)
        refine tl 0 ⟨some 39, .move (.tmp 8), 3, _, _, none⟩ ?v1 rfl ?q1 ?r1
        case q1 => intro W hSw; go_simp; try rfl
        refine tl 1 ⟨some 40, .binOp .lss 3 (.tmp 39) (.const (.int .i64 0)) 3, 4, _, _, none⟩ ?v2 rfl ?q2 ?r2
        case q2 => intro W hSw; (try obtain ⟨k0, k1, k2, k3⟩ := HC.out W hSw); go_simp; try rfl
        refine tl 2 ⟨some 41, .move (.tmp 40), 4, _, _, none⟩ ?v3 rfl ?q3 ?r3
        case q3 => intro W hSw; go_simp; try rfl
        try simp only [Act.put, sA, sB, sC]
        refine tu 3 ⟨some 42, .move (.tmp 8), 3, _, _, some (2, false)⟩ rfl ?_
        try simp only [Act.put, sA, sB, sC]
        refine tu 4 ⟨some 43, .move (.tmp 1), 35, _, _, some (2, false)⟩ rfl ?_
        try simp only [Act.put, sA, sB, sC]
        refine tu 5 ⟨some 44, .nilCheck (.tmp 43), 0, _, _, some (2, false)⟩ rfl ?_
        try simp only [Act.put, sA, sB, sC]
        refine tu 6 ⟨some 45, .fieldAddr 113 (.tmp 44) 1, 0, _, _, some (2, false)⟩ rfl ?_
        try simp only [Act.put, sA, sB, sC]
        refine tu 7 ⟨some 46, .load 111 (.tmp 45), 111, _, _, some (2, false)⟩ rfl ?_
        try simp only [Act.put, sA, sB, sC]
        refine tu 8 ⟨some 47, .call ⟨.builtin .len, #[.tmp 46], #[111]⟩, 3, _, _, some (2, false)⟩ rfl ?_
        try simp only [Act.put, sA, sB, sC]
        refine tu 9 ⟨some 48, .binOp .geq 3 (.tmp 42) (.tmp 47) 3, 4, _, _, some (2, false)⟩ rfl ?_
        refine tl 10 ⟨some 49, .pick (.tmp 41) (.const (.bool true)) (.tmp 48), 4, _, _, none⟩ ?v4 rfl ?q4 ?r4
        case q4 => intro W hSw; go_simp; try rfl
        refine tl 11 ⟨some 50, .move (.tmp 49), 4, _, _, none⟩ ?v5 rfl ?q5 ?r5
        case q5 => intro W hSw; go_simp; try rfl
        try simp only [Act.put, sA, sB, sC]
        refine tu 12 ⟨some 51, .fieldAddr 85 (.tmp 2) 0, 0, _, _, some (11, false)⟩ rfl ?_
        try simp only [Act.put, sA, sB, sC]
        refine tu 13 ⟨some 52, .fieldAddr 24 (.tmp 51) 1, 0, _, _, some (11, false)⟩ rfl ?_
        try simp only [Act.put, sA, sB, sC]
        refine tu 14 ⟨some 53, .load 22 (.tmp 52), 22, _, _, some (11, false)⟩ rfl ?_
        try simp only [Act.put, sA, sB, sC]
        refine tu 15 ⟨some 54, .move (.tmp 7), 3, _, _, some (11, false)⟩ rfl ?_
        try simp only [Act.put, sA, sB, sC]
        refine tu 16 ⟨some 55, .indexAddr 22 (.tmp 53) (.tmp 54), 0, _, _, some (11, false)⟩ rfl ?_
        try simp only [Act.put, sA, sB, sC]
        refine tu 17 ⟨some 56, .fieldAddr 90 (.tmp 55) 1, 0, _, _, some (11, false)⟩ rfl ?_
        try simp only [Act.put, sA, sB, sC]
        refine tu 18 ⟨some 57, .load 3 (.tmp 56), 3, _, _, some (11, false)⟩ rfl ?_
        try simp only [Act.put, sA, sB, sC]
        refine tu 19 ⟨some 58, .move (.tmp 1), 35, _, _, some (11, false)⟩ rfl ?_
        try simp only [Act.put, sA, sB, sC]
        refine tu 20 ⟨some 59, .nilCheck (.tmp 58), 0, _, _, some (11, false)⟩ rfl ?_
        try simp only [Act.put, sA, sB, sC]
        refine tu 21 ⟨some 60, .fieldAddr 113 (.tmp 59) 1, 0, _, _, some (11, false)⟩ rfl ?_
        try simp only [Act.put, sA, sB, sC]
        refine tu 22 ⟨some 61, .load 111 (.tmp 60), 111, _, _, some (11, false)⟩ rfl ?_
        try simp only [Act.put, sA, sB, sC]
        refine tu 23 ⟨some 62, .move (.tmp 8), 3, _, _, some (11, false)⟩ rfl ?_
        try simp only [Act.put, sA, sB, sC]
        refine tu 24 ⟨some 63, .indexAddr 111 (.tmp 61) (.tmp 62), 0, _, _, some (11, false)⟩ rfl ?_
        try simp only [Act.put, sA, sB, sC]
        refine tu 25 ⟨some 64, .load 114 (.tmp 63), 114, _, _, some (11, false)⟩ rfl ?_
        try simp only [Act.put, sA, sB, sC]
        refine tu 26 ⟨some 65, .nilCheck (.tmp 64), 0, _, _, some (11, false)⟩ rfl ?_
        try simp only [Act.put, sA, sB, sC]
        refine tu 27 ⟨some 66, .fieldAddr 116 (.tmp 65) 0, 0, _, _, some (11, false)⟩ rfl ?_
        try simp only [Act.put, sA, sB, sC]
        refine tu 28 ⟨some 67, .load 3 (.tmp 66), 3, _, _, some (11, false)⟩ rfl ?_
        try simp only [Act.put, sA, sB, sC]
        refine tu 29 ⟨some 68, .binOp .rem 3 (.tmp 57) (.tmp 67) 3, 3, _, _, some (11, false)⟩ rfl ?_
        try simp only [Act.put, sA, sB, sC]
        refine tu 30 ⟨some 69, .binOp .neq 3 (.tmp 68) (.const (.int .i64 0)) 3, 4, _, _, some (11, false)⟩ rfl ?_
        refine tl 31 ⟨some 70, .pick (.tmp 50) (.const (.bool true)) (.tmp 69), 4, _, _, none⟩ ?v6 rfl ?q6 ?r6
        case q6 => intro W hSw; go_simp; try rfl
        try simp only [Act.put, sA, sB, sC]
        refine wpAnyH_done (by kernel_rfl) ?_ _
        go_wp2_with fail
        go_ret
        exact ⟨rfl, (Fr1.out.trans hHeld (fun _ h => h.elim)).below (fun _ h => h.elim)⟩
      · have hd0 : decide (s < 0) = false := decide_eq_false hs0
        obtain ⟨i, rfl⟩ := Int.eq_ofNat_of_zero_le (show 0 ≤ s by omega)
        obtain ⟨ay, y, rfl, hy, _, y1, _⟩ := (Ht.out.fr0 Fr1.out).tier hlt
        by_cases hlen : Tc ≤ i
        · have hd1 : decide ((Tc : Int) ≤ (i : Int)) = true := decide_eq_true (by omega)
          have hd2 : decide (Tc ≤ i) = true := decide_eq_true hlen
          have hr : res = false := by
            rw [← Hres.out]
            refine fitsL_no (k := k) (by rw [Hlm.out]; exact hlt) ?_
            unfold fitL
            rw [Hs1.out, hy]
            simp only [Int.toNat_natCast]
            rw [List.getElem?_eq_none (by rw [← X3.out]; exact hlen)]
            simp
          subst hr
          clear hy y1
          go_wp2_with fail
          refine wp_region_held_drew (S := fun W => Fr (fun _ => False) wr W) (by kernel_rfl) ((Fr.refl _ wr).drew) (fun hHeld => ?_)
          refine tl 0 ⟨some 39, .move (.tmp 8), 3, _, _, none⟩ ?v7 rfl ?q7 ?r7
          case q7 => intro W hSw; go_simp; try rfl
          refine tl 1 ⟨some 40, .binOp .lss 3 (.tmp 39) (.const (.int .i64 0)) 3, 4, _, _, none⟩ ?v8 rfl ?q8 ?r8
          case q8 => intro W hSw; (try obtain ⟨k0, k1, k2, k3⟩ := HC.out W hSw); go_simp; try rfl
          refine tl 2 ⟨some 41, .move (.tmp 40), 4, _, _, none⟩ ?v9 rfl ?q9 ?r9
          case q9 => intro W hSw; go_simp; try rfl
          try simp only [Act.put, sA, sB, sC]
          refine tl 3 ⟨some 42, .move (.tmp 8), 3, _, _, some (2, false)⟩ ?v10 rfl ?q10 ?r10
          case q10 => intro W hSw; go_simp; try rfl
          try simp only [Act.put, sA, sB, sC]
          refine tl 4 ⟨some 43, .move (.tmp 1), 35, _, _, some (2, false)⟩ ?v11 rfl ?q11 ?r11
          case q11 => intro W hSw; go_simp; try rfl
          try simp only [Act.put, sA, sB, sC]
          refine tl 5 ⟨some 44, .nilCheck (.tmp 43), 0, _, _, some (2, false)⟩ ?v12 rfl ?q12 ?r12
          case q12 => intro W hSw; go_simp; try rfl
          try simp only [Act.put, sA, sB, sC]
          refine tl 6 ⟨some 45, .fieldAddr 113 (.tmp 44) 1, 0, _, _, some (2, false)⟩ ?v13 rfl ?q13 ?r13
          case q13 => intro W hSw; go_simp; try rfl
          try simp only [Act.put, sA, sB, sC]
          refine tl 7 ⟨some 46, .load 111 (.tmp 45), 111, _, _, some (2, false)⟩ ?v14 rfl ?q14 ?r14
          case q14 => intro W hSw; (try obtain ⟨k0, k1, k2, k3⟩ := HC.out W hSw); go_simp; try rfl
          try simp only [Act.put, sA, sB, sC]
          refine tl 8 ⟨some 47, .call ⟨.builtin .len, #[.tmp 46], #[111]⟩, 3, _, _, some (2, false)⟩ ?v15 rfl ?q15 ?r15
          case q15 => intro W hSw; (try obtain ⟨k0, k1, k2, k3⟩ := HC.out W hSw); go_simp; try rfl
          try simp only [Act.put, sA, sB, sC]
          refine tl 9 ⟨some 48, .binOp .geq 3 (.tmp 42) (.tmp 47) 3, 4, _, _, some (2, false)⟩ ?v16 rfl ?q16 ?r16
          case q16 => intro W hSw; (try obtain ⟨k0, k1, k2, k3⟩ := HC.out W hSw); go_simp; try rfl
          refine tl 10 ⟨some 49, .pick (.tmp 41) (.const (.bool true)) (.tmp 48), 4, _, _, none⟩ ?v17 rfl ?q17 ?r17
          case q17 => intro W hSw; go_simp; try rfl
          refine tl 11 ⟨some 50, .move (.tmp 49), 4, _, _, none⟩ ?v18 rfl ?q18 ?r18
          case q18 => intro W hSw; go_simp; try rfl
          try simp only [Act.put, sA, sB, sC]
          refine tu 12 ⟨some 51, .fieldAddr 85 (.tmp 2) 0, 0, _, _, some (11, false)⟩ rfl ?_
          try simp only [Act.put, sA, sB, sC]
          refine tu 13 ⟨some 52, .fieldAddr 24 (.tmp 51) 1, 0, _, _, some (11, false)⟩ rfl ?_
          try simp only [Act.put, sA, sB, sC]
          refine tu 14 ⟨some 53, .load 22 (.tmp 52), 22, _, _, some (11, false)⟩ rfl ?_
          try simp only [Act.put, sA, sB, sC]
          refine tu 15 ⟨some 54, .move (.tmp 7), 3, _, _, some (11, false)⟩ rfl ?_
          try simp only [Act.put, sA, sB, sC]
          refine tu 16 ⟨some 55, .indexAddr 22 (.tmp 53) (.tmp 54), 0, _, _, some (11, false)⟩ rfl ?_
          try simp only [Act.put, sA, sB, sC]
          refine tu 17 ⟨some 56, .fieldAddr 90 (.tmp 55) 1, 0, _, _, some (11, false)⟩ rfl ?_
          try simp only [Act.put, sA, sB, sC]
          refine tu 18 ⟨some 57, .load 3 (.tmp 56), 3, _, _, some (11, false)⟩ rfl ?_
          try simp only [Act.put, sA, sB, sC]
          refine tu 19 ⟨some 58, .move (.tmp 1), 35, _, _, some (11, false)⟩ rfl ?_
          try simp only [Act.put, sA, sB, sC]
          refine tu 20 ⟨some 59, .nilCheck (.tmp 58), 0, _, _, some (11, false)⟩ rfl ?_
          try simp only [Act.put, sA, sB, sC]
          refine tu 21 ⟨some 60, .fieldAddr 113 (.tmp 59) 1, 0, _, _, some (11, false)⟩ rfl ?_
          try simp only [Act.put, sA, sB, sC]
          refine tu 22 ⟨some 61, .load 111 (.tmp 60), 111, _, _, some (11, false)⟩ rfl ?_
          try simp only [Act.put, sA, sB, sC]
          refine tu 23 ⟨some 62, .move (.tmp 8), 3, _, _, some (11, false)⟩ rfl ?_
          try simp only [Act.put, sA, sB, sC]
          refine tu 24 ⟨some 63, .indexAddr 111 (.tmp 61) (.tmp 62), 0, _, _, some (11, false)⟩ rfl ?_
          try simp only [Act.put, sA, sB, sC]
          refine tu 25 ⟨some 64, .load 114 (.tmp 63), 114, _, _, some (11, false)⟩ rfl ?_
          try simp only [Act.put, sA, sB, sC]
          refine tu 26 ⟨some 65, .nilCheck (.tmp 64), 0, _, _, some (11, false)⟩ rfl ?_
          try simp only [Act.put, sA, sB, sC]
          refine tu 27 ⟨some 66, .fieldAddr 116 (.tmp 65) 0, 0, _, _, some (11, false)⟩ rfl ?_
          try simp only [Act.put, sA, sB, sC]
          refine tu 28 ⟨some 67, .load 3 (.tmp 66), 3, _, _, some (11, false)⟩ rfl ?_
          try simp only [Act.put, sA, sB, sC]
          refine tu 29 ⟨some 68, .binOp .rem 3 (.tmp 57) (.tmp 67) 3, 3, _, _, some (11, false)⟩ rfl ?_
          try simp only [Act.put, sA, sB, sC]
          refine tu 30 ⟨some 69, .binOp .neq 3 (.tmp 68) (.const (.int .i64 0)) 3, 4, _, _, some (11, false)⟩ rfl ?_
          refine tl 31 ⟨some 70, .pick (.tmp 50) (.const (.bool true)) (.tmp 69), 4, _, _, none⟩ ?v19 rfl ?q19 ?r19
          case q19 => intro W hSw; go_simp; try rfl
          try simp only [Act.put, sA, sB, sC]
          refine wpAnyH_done (by kernel_rfl) ?_ _
          go_wp2_with fail
          go_ret
          exact ⟨rfl, (Fr1.out.trans hHeld (fun _ h => h.elim)).below (fun _ h => h.elim)⟩
        · have hd1 : decide ((Tc : Int) ≤ (i : Int)) = false := decide_eq_false (by omega)
          have hd2 : decide (Tc ≤ i) = false := decide_eq_false hlen
          have hin : 0 ≤ (i : Int) ∧ (i : Int) < (Tc : Int) := by omega
          obtain ⟨p, x, lx, hp, hx, hlx⟩ := (Hi.out.fr0 Fr1.out).at_ (k := i) (by rw [← X3.out]; omega)
          have hrow := (own_any (Hi.out.fr0 Fr1.out).row).2.2.1
          rw [← X3.out] at hrow
          obtain ⟨ax, p', rfl, hp', x0⟩ := hrow.at_map (show i < Tc by omega)
          obtain rfl : p = p' := Option.some.inj (hp.symm.trans hp')
          obtain ⟨⟨A9, c9, b9, _, _⟩, _, _, _⟩ := (Hi.out.fr0 Fr1.out).tab i p x lx hp hx hlx
          have x1 := b9.cell 0
          simp only [List.getElem?_toArray, List.getElem?_cons_zero] at x1
          have hxe := Hev.out x (mem_of_get hx)
          have hxz : (x.every == 0) = false := by simp; omega
          have hxz2 : ¬ x.every = 0 := by omega
          have HB : Hid (fitL X.tiers lt ss k = dividesB x.every y.every) := by
            show _ = _
            unfold fitL
            rw [Hs1.out, hy]
            simp only [Int.toNat_natCast]
            rw [hx]
            simp
          have HC2 : Hid (∀ W, Fr (fun _ => False) wr W → W.cell? ⟨w.heap.size, 0, none⟩ = some (.string nm) ∧ W.cell? ⟨w.heap.size, 1, none⟩ = some (.slice (some ay) m c) ∧ W.cell? ⟨w.heap.size, 2, none⟩ = some (.slice (some ad) m d) ∧ W.cell? ⟨t, 4, none⟩ = some (.slice (some ax) Tc ct) ∧ W.cell? (ax.add i) = some (.pointer (some ⟨p, 0, none⟩)) ∧ W.cell? ⟨p, 0, none⟩ = some (.int .i64 x.every) ∧ W.cell? ⟨(ay.add (k * 4)).block, (ay.add (k * 4)).off + 1, none⟩ = some (.int .i64 y.every)) := fun W f => by
            obtain ⟨k0, k1, k2, k3⟩ := HC.out W f
            exact ⟨k0, k1, k2, k3, f.cell x0 (fun h => h), f.cell x1 (fun h => h), f.cell y1 (fun h => h)⟩
          obtain ⟨xe, hxe2⟩ : ∃ z, x.every = z := ⟨_, rfl⟩
          obtain ⟨ye, hye⟩ : ∃ z, y.every = z := ⟨_, rfl⟩
          rw [hxe2, hye] at HB HC2
          rw [hxe2] at hxz hxz2 hxe
          obtain ⟨q, hq⟩ : ∃ q, ye.tmod xe = q := ⟨_, rfl⟩
          have hdq : dividesB xe ye = decide (q = 0) := by
            unfold dividesB
            rw [hq, decide_eq_true (show 1 ≤ xe by omega), Bool.true_and]
          rw [hdq] at HB
          obtain ⟨dv, hdv⟩ : ∃ z, decide (q = 0) = z := ⟨_, rfl⟩
          rw [hdv] at HB
          have hq0 : (q == 0) = dv := by rw [← hdv]; rfl
          have hq1 : (q != 0) = !dv := by rw [bne, hq0]
          clear hrow hx hy x1 y1 hxe2 hye HC hp hp' hlx b9 x0 hdq
          cases dv with
          | false =>
            have hqn : ¬ q = 0 := of_decide_eq_false hdv
            have hr : res = false := by rw [← Hres.out]; exact fitsL_no (k := k) (by rw [Hlm.out]; exact hlt) HB.out
            subst hr
            go_wp2_with fail
            refine wp_region_held_drew (S := fun W => Fr (fun _ => False) wr W) (by kernel_rfl) ((Fr.refl _ wr).drew) (fun hHeld => ?_)
            refine tl 0 ⟨some 39, .move (.tmp 8), 3, _, _, none⟩ ?v20 rfl ?q20 ?r20
            case q20 => intro W hSw; go_simp; try rfl
            refine tl 1 ⟨some 40, .binOp .lss 3 (.tmp 39) (.const (.int .i64 0)) 3, 4, _, _, none⟩ ?v21 rfl ?q21 ?r21
            case q21 => intro W hSw; (try obtain ⟨k0, k1, k2, k3, k4, k5, k6⟩ := HC2.out W hSw); go_simp; try rfl
            refine tl 2 ⟨some 41, .move (.tmp 40), 4, _, _, none⟩ ?v22 rfl ?q22 ?r22
            case q22 => intro W hSw; go_simp; try rfl
            try simp only [Act.put, sA, sB, sC]
            refine tl 3 ⟨some 42, .move (.tmp 8), 3, _, _, some (2, false)⟩ ?v23 rfl ?q23 ?r23
            case q23 => intro W hSw; go_simp; try rfl
            try simp only [Act.put, sA, sB, sC]
            refine tl 4 ⟨some 43, .move (.tmp 1), 35, _, _, some (2, false)⟩ ?v24 rfl ?q24 ?r24
            case q24 => intro W hSw; go_simp; try rfl
            try simp only [Act.put, sA, sB, sC]
            refine tl 5 ⟨some 44, .nilCheck (.tmp 43), 0, _, _, some (2, false)⟩ ?v25 rfl ?q25 ?r25
            case q25 => intro W hSw; go_simp; try rfl
            try simp only [Act.put, sA, sB, sC]
            refine tl 6 ⟨some 45, .fieldAddr 113 (.tmp 44) 1, 0, _, _, some (2, false)⟩ ?v26 rfl ?q26 ?r26
            case q26 => intro W hSw; go_simp; try rfl
            try simp only [Act.put, sA, sB, sC]
            refine tl 7 ⟨some 46, .load 111 (.tmp 45), 111, _, _, some (2, false)⟩ ?v27 rfl ?q27 ?r27
            case q27 => intro W hSw; (try obtain ⟨k0, k1, k2, k3, k4, k5, k6⟩ := HC2.out W hSw); go_simp; try rfl
            try simp only [Act.put, sA, sB, sC]
            refine tl 8 ⟨some 47, .call ⟨.builtin .len, #[.tmp 46], #[111]⟩, 3, _, _, some (2, false)⟩ ?v28 rfl ?q28 ?r28
            case q28 => intro W hSw; (try obtain ⟨k0, k1, k2, k3, k4, k5, k6⟩ := HC2.out W hSw); go_simp; try rfl
            try simp only [Act.put, sA, sB, sC]
            refine tl 9 ⟨some 48, .binOp .geq 3 (.tmp 42) (.tmp 47) 3, 4, _, _, some (2, false)⟩ ?v29 rfl ?q29 ?r29
            case q29 => intro W hSw; (try obtain ⟨k0, k1, k2, k3, k4, k5, k6⟩ := HC2.out W hSw); go_simp; try rfl
            refine tl 10 ⟨some 49, .pick (.tmp 41) (.const (.bool true)) (.tmp 48), 4, _, _, none⟩ ?v30 rfl ?q30 ?r30
            case q30 => intro W hSw; go_simp; try rfl
            refine tl 11 ⟨some 50, .move (.tmp 49), 4, _, _, none⟩ ?v31 rfl ?q31 ?r31
            case q31 => intro W hSw; go_simp; try rfl
            try simp only [Act.put, sA, sB, sC]
            refine tl 12 ⟨some 51, .fieldAddr 85 (.tmp 2) 0, 0, _, _, some (11, false)⟩ ?v32 rfl ?q32 ?r32
            case q32 => intro W hSw; go_simp; try rfl
            try simp only [Act.put, sA, sB, sC]
            refine tl 13 ⟨some 52, .fieldAddr 24 (.tmp 51) 1, 0, _, _, some (11, false)⟩ ?v33 rfl ?q33 ?r33
            case q33 => intro W hSw; go_simp; try rfl
            try simp only [Act.put, sA, sB, sC]
            refine tl 14 ⟨some 53, .load 22 (.tmp 52), 22, _, _, some (11, false)⟩ ?v34 rfl ?q34 ?r34
            case q34 => intro W hSw; (try obtain ⟨k0, k1, k2, k3, k4, k5, k6⟩ := HC2.out W hSw); go_simp; try rfl
            try simp only [Act.put, sA, sB, sC]
            refine tl 15 ⟨some 54, .move (.tmp 7), 3, _, _, some (11, false)⟩ ?v35 rfl ?q35 ?r35
            case q35 => intro W hSw; go_simp; try rfl
            try simp only [Act.put, sA, sB, sC]
            refine tl 16 ⟨some 55, .indexAddr 22 (.tmp 53) (.tmp 54), 0, _, _, some (11, false)⟩ ?v36 rfl ?q36 ?r36
            case q36 => intro W hSw; (try obtain ⟨k0, k1, k2, k3, k4, k5, k6⟩ := HC2.out W hSw); go_simp; try rfl
            try simp only [Act.put, sA, sB, sC]
            refine tl 17 ⟨some 56, .fieldAddr 90 (.tmp 55) 1, 0, _, _, some (11, false)⟩ ?v37 rfl ?q37 ?r37
            case q37 => intro W hSw; go_simp; try rfl
            try simp only [Act.put, sA, sB, sC]
            refine tl 18 ⟨some 57, .load 3 (.tmp 56), 3, _, _, some (11, false)⟩ ?v38 rfl ?q38 ?r38
            case q38 => intro W hSw; (try obtain ⟨k0, k1, k2, k3, k4, k5, k6⟩ := HC2.out W hSw); go_simp; try rfl
            try simp only [Act.put, sA, sB, sC]
            refine tl 19 ⟨some 58, .move (.tmp 1), 35, _, _, some (11, false)⟩ ?v39 rfl ?q39 ?r39
            case q39 => intro W hSw; go_simp; try rfl
            try simp only [Act.put, sA, sB, sC]
            refine tl 20 ⟨some 59, .nilCheck (.tmp 58), 0, _, _, some (11, false)⟩ ?v40 rfl ?q40 ?r40
            case q40 => intro W hSw; go_simp; try rfl
            try simp only [Act.put, sA, sB, sC]
            refine tl 21 ⟨some 60, .fieldAddr 113 (.tmp 59) 1, 0, _, _, some (11, false)⟩ ?v41 rfl ?q41 ?r41
            case q41 => intro W hSw; go_simp; try rfl
            try simp only [Act.put, sA, sB, sC]
            refine tl 22 ⟨some 61, .load 111 (.tmp 60), 111, _, _, some (11, false)⟩ ?v42 rfl ?q42 ?r42
            case q42 => intro W hSw; (try obtain ⟨k0, k1, k2, k3, k4, k5, k6⟩ := HC2.out W hSw); go_simp; try rfl
            try simp only [Act.put, sA, sB, sC]
            refine tl 23 ⟨some 62, .move (.tmp 8), 3, _, _, some (11, false)⟩ ?v43 rfl ?q43 ?r43
            case q43 => intro W hSw; go_simp; try rfl
            try simp only [Act.put, sA, sB, sC]
            refine tl 24 ⟨some 63, .indexAddr 111 (.tmp 61) (.tmp 62), 0, _, _, some (11, false)⟩ ?v44 rfl ?q44 ?r44
            case q44 => intro W hSw; (try obtain ⟨k0, k1, k2, k3, k4, k5, k6⟩ := HC2.out W hSw); go_simp; try rfl
            try simp only [Act.put, sA, sB, sC]
            refine tl 25 ⟨some 64, .load 114 (.tmp 63), 114, _, _, some (11, false)⟩ ?v45 rfl ?q45 ?r45
            case q45 => intro W hSw; (try obtain ⟨k0, k1, k2, k3, k4, k5, k6⟩ := HC2.out W hSw); go_simp; try rfl
            try simp only [Act.put, sA, sB, sC]
            refine tl 26 ⟨some 65, .nilCheck (.tmp 64), 0, _, _, some (11, false)⟩ ?v46 rfl ?q46 ?r46
            case q46 => intro W hSw; go_simp; try rfl
            try simp only [Act.put, sA, sB, sC]
            refine tl 27 ⟨some 66, .fieldAddr 116 (.tmp 65) 0, 0, _, _, some (11, false)⟩ ?v47 rfl ?q47 ?r47
            case q47 => intro W hSw; go_simp; try rfl
            try simp only [Act.put, sA, sB, sC]
            refine tl 28 ⟨some 67, .load 3 (.tmp 66), 3, _, _, some (11, false)⟩ ?v48 rfl ?q48 ?r48
            case q48 => intro W hSw; (try obtain ⟨k0, k1, k2, k3, k4, k5, k6⟩ := HC2.out W hSw); go_simp; try rfl
            try simp only [Act.put, sA, sB, sC]
            refine tl 29 ⟨some 68, .binOp .rem 3 (.tmp 57) (.tmp 67) 3, 3, _, _, some (11, false)⟩ ?v49 rfl ?q49 ?r49
            case q49 => intro W hSw; (try obtain ⟨k0, k1, k2, k3, k4, k5, k6⟩ := HC2.out W hSw); go_simp; try rfl
            try simp only [Act.put, sA, sB, sC]
            refine tl 30 ⟨some 69, .binOp .neq 3 (.tmp 68) (.const (.int .i64 0)) 3, 4, _, _, some (11, false)⟩ ?v50 rfl ?q50 ?r50
            case q50 => intro W hSw; (try obtain ⟨k0, k1, k2, k3, k4, k5, k6⟩ := HC2.out W hSw); go_simp; try rfl
            refine tl 31 ⟨some 70, .pick (.tmp 50) (.const (.bool true)) (.tmp 69), 4, _, _, none⟩ ?v51 rfl ?q51 ?r51
            case q51 => intro W hSw; go_simp; try rfl
            try simp only [Act.put, sA, sB, sC]
            refine wpAnyH_done (by kernel_rfl) ?_ _
            go_wp2_with fail
            go_ret
            exact ⟨rfl, (Fr1.out.trans hHeld (fun _ h => h.elim)).below (fun _ h => h.elim)⟩
          | true =>
            have hqn : q = 0 := of_decide_eq_true hdv
            go_wp2_with fail
            refine wp_region_held_drew (S := fun W => Fr (fun _ => False) wr W) (by kernel_rfl) ((Fr.refl _ wr).drew) (fun hHeld => ?_)
            refine tl 0 ⟨some 39, .move (.tmp 8), 3, _, _, none⟩ ?v52 rfl ?q52 ?r52
            case q52 => intro W hSw; go_simp; try rfl
            refine tl 1 ⟨some 40, .binOp .lss 3 (.tmp 39) (.const (.int .i64 0)) 3, 4, _, _, none⟩ ?v53 rfl ?q53 ?r53
            case q53 => intro W hSw; (try obtain ⟨k0, k1, k2, k3, k4, k5, k6⟩ := HC2.out W hSw); go_simp; try rfl
            refine tl 2 ⟨some 41, .move (.tmp 40), 4, _, _, none⟩ ?v54 rfl ?q54 ?r54
            case q54 => intro W hSw; go_simp; try rfl
            try simp only [Act.put, sA, sB, sC]
            refine tl 3 ⟨some 42, .move (.tmp 8), 3, _, _, some (2, false)⟩ ?v55 rfl ?q55 ?r55
            case q55 => intro W hSw; go_simp; try rfl
            try simp only [Act.put, sA, sB, sC]
            refine tl 4 ⟨some 43, .move (.tmp 1), 35, _, _, some (2, false)⟩ ?v56 rfl ?q56 ?r56
            case q56 => intro W hSw; go_simp; try rfl
            try simp only [Act.put, sA, sB, sC]
            refine tl 5 ⟨some 44, .nilCheck (.tmp 43), 0, _, _, some (2, false)⟩ ?v57 rfl ?q57 ?r57
            case q57 => intro W hSw; go_simp; try rfl
            try simp only [Act.put, sA, sB, sC]
            refine tl 6 ⟨some 45, .fieldAddr 113 (.tmp 44) 1, 0, _, _, some (2, false)⟩ ?v58 rfl ?q58 ?r58
            case q58 => intro W hSw; go_simp; try rfl
            try simp only [Act.put, sA, sB, sC]
            refine tl 7 ⟨some 46, .load 111 (.tmp 45), 111, _, _, some (2, false)⟩ ?v59 rfl ?q59 ?r59
            case q59 => intro W hSw; (try obtain ⟨k0, k1, k2, k3, k4, k5, k6⟩ := HC2.out W hSw); go_simp; try rfl
            try simp only [Act.put, sA, sB, sC]
            refine tl 8 ⟨some 47, .call ⟨.builtin .len, #[.tmp 46], #[111]⟩, 3, _, _, some (2, false)⟩ ?v60 rfl ?q60 ?r60
            case q60 => intro W hSw; (try obtain ⟨k0, k1, k2, k3, k4, k5, k6⟩ := HC2.out W hSw); go_simp; try rfl
            try simp only [Act.put, sA, sB, sC]
            refine tl 9 ⟨some 48, .binOp .geq 3 (.tmp 42) (.tmp 47) 3, 4, _, _, some (2, false)⟩ ?v61 rfl ?q61 ?r61
            case q61 => intro W hSw; (try obtain ⟨k0, k1, k2, k3, k4, k5, k6⟩ := HC2.out W hSw); go_simp; try rfl
            refine tl 10 ⟨some 49, .pick (.tmp 41) (.const (.bool true)) (.tmp 48), 4, _, _, none⟩ ?v62 rfl ?q62 ?r62
            case q62 => intro W hSw; go_simp; try rfl
            refine tl 11 ⟨some 50, .move (.tmp 49), 4, _, _, none⟩ ?v63 rfl ?q63 ?r63
            case q63 => intro W hSw; go_simp; try rfl
            try simp only [Act.put, sA, sB, sC]
            refine tl 12 ⟨some 51, .fieldAddr 85 (.tmp 2) 0, 0, _, _, some (11, false)⟩ ?v64 rfl ?q64 ?r64
            case q64 => intro W hSw; go_simp; try rfl
            try simp only [Act.put, sA, sB, sC]
            refine tl 13 ⟨some 52, .fieldAddr 24 (.tmp 51) 1, 0, _, _, some (11, false)⟩ ?v65 rfl ?q65 ?r65
            case q65 => intro W hSw; go_simp; try rfl
            try simp only [Act.put, sA, sB, sC]
            refine tl 14 ⟨some 53, .load 22 (.tmp 52), 22, _, _, some (11, false)⟩ ?v66 rfl ?q66 ?r66
            case q66 => intro W hSw; (try obtain ⟨k0, k1, k2, k3, k4, k5, k6⟩ := HC2.out W hSw); go_simp; try rfl
            try simp only [Act.put, sA, sB, sC]
            refine tl 15 ⟨some 54, .move (.tmp 7), 3, _, _, some (11, false)⟩ ?v67 rfl ?q67 ?r67
            case q67 => intro W hSw; go_simp; try rfl
            try simp only [Act.put, sA, sB, sC]
            refine tl 16 ⟨some 55, .indexAddr 22 (.tmp 53) (.tmp 54), 0, _, _, some (11, false)⟩ ?v68 rfl ?q68 ?r68
            case q68 => intro W hSw; (try obtain ⟨k0, k1, k2, k3, k4, k5, k6⟩ := HC2.out W hSw); go_simp; try rfl
            try simp only [Act.put, sA, sB, sC]
            refine tl 17 ⟨some 56, .fieldAddr 90 (.tmp 55) 1, 0, _, _, some (11, false)⟩ ?v69 rfl ?q69 ?r69
            case q69 => intro W hSw; go_simp; try rfl
            try simp only [Act.put, sA, sB, sC]
            refine tl 18 ⟨some 57, .load 3 (.tmp 56), 3, _, _, some (11, false)⟩ ?v70 rfl ?q70 ?r70
            case q70 => intro W hSw; (try obtain ⟨k0, k1, k2, k3, k4, k5, k6⟩ := HC2.out W hSw); go_simp; try rfl
            try simp only [Act.put, sA, sB, sC]
            refine tl 19 ⟨some 58, .move (.tmp 1), 35, _, _, some (11, false)⟩ ?v71 rfl ?q71 ?r71
            case q71 => intro W hSw; go_simp; try rfl
            try simp only [Act.put, sA, sB, sC]
            refine tl 20 ⟨some 59, .nilCheck (.tmp 58), 0, _, _, some (11, false)⟩ ?v72 rfl ?q72 ?r72
            case q72 => intro W hSw; go_simp; try rfl
            try simp only [Act.put, sA, sB, sC]
            refine tl 21 ⟨some 60, .fieldAddr 113 (.tmp 59) 1, 0, _, _, some (11, false)⟩ ?v73 rfl ?q73 ?r73
            case q73 => intro W hSw; go_simp; try rfl
            try simp only [Act.put, sA, sB, sC]
            refine tl 22 ⟨some 61, .load 111 (.tmp 60), 111, _, _, some (11, false)⟩ ?v74 rfl ?q74 ?r74
            case q74 => intro W hSw; (try obtain ⟨k0, k1, k2, k3, k4, k5, k6⟩ := HC2.out W hSw); go_simp; try rfl
            try simp only [Act.put, sA, sB, sC]
            refine tl 23 ⟨some 62, .move (.tmp 8), 3, _, _, some (11, false)⟩ ?v75 rfl ?q75 ?r75
            case q75 => intro W hSw; go_simp; try rfl
            try simp only [Act.put, sA, sB, sC]
            refine tl 24 ⟨some 63, .indexAddr 111 (.tmp 61) (.tmp 62), 0, _, _, some (11, false)⟩ ?v76 rfl ?q76 ?r76
            case q76 => intro W hSw; (try obtain ⟨k0, k1, k2, k3, k4, k5, k6⟩ := HC2.out W hSw); go_simp; try rfl
            try simp only [Act.put, sA, sB, sC]
            refine tl 25 ⟨some 64, .load 114 (.tmp 63), 114, _, _, some (11, false)⟩ ?v77 rfl ?q77 ?r77
            case q77 => intro W hSw; (try obtain ⟨k0, k1, k2, k3, k4, k5, k6⟩ := HC2.out W hSw); go_simp; try rfl
            try simp only [Act.put, sA, sB, sC]
            refine tl 26 ⟨some 65, .nilCheck (.tmp 64), 0, _, _, some (11, false)⟩ ?v78 rfl ?q78 ?r78
            case q78 => intro W hSw; go_simp; try rfl
            try simp only [Act.put, sA, sB, sC]
            refine tl 27 ⟨some 66, .fieldAddr 116 (.tmp 65) 0, 0, _, _, some (11, false)⟩ ?v79 rfl ?q79 ?r79
            case q79 => intro W hSw; go_simp; try rfl
            try simp only [Act.put, sA, sB, sC]
            refine tl 28 ⟨some 67, .load 3 (.tmp 66), 3, _, _, some (11, false)⟩ ?v80 rfl ?q80 ?r80
            case q80 => intro W hSw; (try obtain ⟨k0, k1, k2, k3, k4, k5, k6⟩ := HC2.out W hSw); go_simp; try rfl
            try simp only [Act.put, sA, sB, sC]
            refine tl 29 ⟨some 68, .binOp .rem 3 (.tmp 57) (.tmp 67) 3, 3, _, _, some (11, false)⟩ ?v81 rfl ?q81 ?r81
            case q81 => intro W hSw; (try obtain ⟨k0, k1, k2, k3, k4, k5, k6⟩ := HC2.out W hSw); go_simp; try rfl
            try simp only [Act.put, sA, sB, sC]
            refine tl 30 ⟨some 69, .binOp .neq 3 (.tmp 68) (.const (.int .i64 0)) 3, 4, _, _, some (11, false)⟩ ?v82 rfl ?q82 ?r82
            case q82 => intro W hSw; (try obtain ⟨k0, k1, k2, k3, k4, k5, k6⟩ := HC2.out W hSw); go_simp; try rfl
            refine tl 31 ⟨some 70, .pick (.tmp 50) (.const (.bool true)) (.tmp 69), 4, _, _, none⟩ ?v83 rfl ?q83 ?r83
            case q83 => intro W hSw; go_simp; try rfl
            try simp only [Act.put, sA, sB, sC]
            refine wpAnyH_done (by kernel_rfl) ?_ _
            go_wp2_with fail
            go_roundw
            case rel =>
              refine ⟨k + 1, by omega, by go_num, Hf.out.trans hHeld (fun _ h => h.elim), fun j hj => ?_⟩
              by_cases e : j = k
              · subst e; exact HB.out
              · exact Hall.out j (by omega)
            case measure => simp [intOf]; omega
    · obtain rfl : k = m := by omega
      have hr : res = true := by rw [← Hres.out]; exact fitsL_yes Hck.out (by rw [Hlm.out, Hln.out]) (fun j hj => Hall.out j (by rw [Hlm.out] at hj; exact hj))
      subst hr
      go_wp2_with fail
      go_ret
      exact ⟨rfl, (F2.out.trans Hf.out (fun _ h => h.elim)).below (fun _ h => h.elim)⟩
end Go.Proofs.YtbblmmneeafhgaaGreat
namespace Go.Proofs.YtbblmmneeafhgaaGreat
set_option linter.all false
open Go.RowKit

def RNewQ (nm : ByteArray) (l : List TierV) (now : Int) (fl : List Int) (A : Option Addr) (c : Nat) (B : Option Addr) (d : Nat) (w : World) (E : Int) (q : Value) (w' : World) : Prop :=
  (E = 0 → ∃ g F T ct P, q = .pointer (some ⟨g, 0, none⟩) ∧ RTiersOn w' g w.heap.size F (newX nm l now fl) A c B d T ct P) ∧ (E ≠ 0 → q = .pointer none)
def RBuildR (X : TiersX) (nm : ByteArray) (lt : List TierV) (ss : List Int) (A : Option Addr) (c : Nat) (w : World) (E : Int) (r : Ending) (w' : World) : Prop :=
  (E = 0 → ∃ g lo F B d T ct P, r = .returned (.tuple #[.pointer (some ⟨g, 0, none⟩), .int .i64 0]) ∧ w.heap.size ≤ lo ∧ RTiersOn w' g lo F (buildX X nm lt ss) A c B d T ct P) ∧ (E ≠ 0 → r = .returned (.tuple #[.pointer none, .int .i64 E]))
theorem RTabF.more {W : World} {p lo lo2 : Nat} {e : Int} {l : List RecV} (h : RTabF W p lo (fun j => lo ≤ j) e l) (hl : lo2 ≤ lo) : RTabF W p lo2 (fun j => lo2 ≤ j) e l := by
  obtain ⟨⟨A, c, h1, h2, h3⟩, h4, h5, h6⟩ := h
  exact ⟨⟨A, c, h1, own_le h2 hl, fun j hj => Nat.le_trans hl (h3 j hj)⟩, h4, h5, Nat.le_trans hl h6⟩
theorem RTiersOn.swap {W W' : World} {g lo gr : Nat} {F : Nat → Prop} {X : TiersX} {A B : Option Addr} {c d ct : Nat} {P : List Nat} (h : RTiersOn W g lo F X A c B d (some ⟨gr, 0, none⟩) ct P) {k g' : Nat} {x : TierV} {l' : List RecV} (hk : k < X.tiers.length) (hx : X.tiers[k]? = some x) (f : Fr (fun _ => False) W W') (ht : RTabF W' g' W.heap.size (fun j => W.heap.size ≤ j) x.every l') :
    RTiersOn (W'.setCell ⟨gr, k, none⟩ (.pointer (some ⟨g', 0, none⟩))) g lo (fun j => F j ∨ (W.heap.size ≤ j ∧ j < W'.heap.size)) { X with tabs := X.tabs.set k l' } A c B d (some ⟨gr, 0, none⟩) ct (P.set k g') := by
  have h5 := h.fr0 f
  have hlo := h.lo_le
  have hgr : rowF (.slice (some ⟨gr, 0, none⟩) X.tiers.length ct) gr := rfl
  have hgrl := h.row.lt gr hgr
  have fs : Fr (fun j => j = gr) W' (W'.setCell ⟨gr, k, none⟩ (.pointer (some ⟨g', 0, none⟩))) := (Fr.refl (fun j => j = gr) W').setCell (p := ⟨gr, k, none⟩) (.inl rfl) _
  have fl : Fr (fun j => lo ≤ j) W' (W'.setCell ⟨gr, k, none⟩ (.pointer (some ⟨g', 0, none⟩))) := fs.mono (fun j hj => .inl (by rw [hj]; exact hgrl.1))
  obtain ⟨cs, hB⟩ := own_blk h5.row
  have hne : ∀ {q : Nat} {ty : TypeId} {cs' : Array Value}, Blk W' q ty cs' → ty ≠ 114 → ¬ q = gr := fun hq hty => hq.ne_ hB hty
  have htab : ∀ {q lo' : Nat} {G : Nat → Prop} {e : Int} {m : List RecV}, RTabF W' q lo' G e m → RTabF (W'.setCell ⟨gr, k, none⟩ (.pointer (some ⟨g', 0, none⟩))) q lo' G e m := fun {q lo' G e m} hT => by
    obtain ⟨⟨A1, c1, b1, o1, f1⟩, h2, h3, h4⟩ := hT
    exact ⟨⟨A1, c1, b1.fr fs (hne b1 (by decide)), own_fr o1 fs (fun j hj e => own_blk_ne o1 hB (by decide) (by rw [← e]; exact hj)), f1⟩, h2, h3, h4⟩
  have hg'lt : g' < W'.heap.size := by obtain ⟨⟨_, _, b1, _, _⟩, _⟩ := ht; exact b1.lt
  have hsz : (W'.setCell ⟨gr, k, none⟩ (.pointer (some ⟨g', 0, none⟩))).heap.size = W'.heap.size := by simp
  refine ⟨h5.blk.fr fs (hne h5.blk (by decide)), ?_, by rw [List.length_set]; exact h.tlen, fun i p y m h1 h2 h3 => ?_, ?_, .inl h.fg, fun p hp => ?_, fun j hj => .inl (h.ft j hj), fun j hj => ?_, fun W2 f2 => h5.rt W2 (fl.trans f2 (fun _ h => .inl h)), fun W2 f2 => h5.rf W2 (fl.trans f2 (fun _ h => .inl h))⟩
  · have e : rptrs (P.set k g') = (rptrs P).set k (.pointer (some ⟨g', 0, none⟩)) := by unfold rptrs; rw [List.map_set]
    rw [e]
    exact own_set1 h5.row
  · by_cases e : i = k
    · subst e
      rw [List.getElem?_set_self (by rw [h.len]; exact hk)] at h1
      cases h1
      rw [hx] at h2
      cases h2
      have h3' : (X.tabs.set i l')[i]? = some m := h3
      rw [List.getElem?_set_self (by rw [h.tlen]; exact hk)] at h3'
      cases h3'
      obtain ⟨⟨A1, c1, b1, o1, f1⟩, h4, h5', h6⟩ := htab ht
      exact ⟨⟨A1, c1, b1, own_le o1 hlo, fun j hj => .inr ⟨f1 j hj, by have := (o1.lt j hj).2; rwa [hsz] at this⟩⟩, h4, h5', Nat.le_trans hlo h6⟩
    · rw [List.getElem?_set_ne (fun e' => e e'.symm)] at h1
      have h3' : (X.tabs.set k l')[i]? = some m := h3
      rw [List.getElem?_set_ne (fun e' => e e'.symm)] at h3'
      exact (htab (h5.tab i p y m h1 h2 h3')).mono (fun j hj _ => .inl hj)
  · refine nodup_set h.inj (fun hm => ?_)
    have h1 := (h.ge g' (h.fp g' hm)).2
    obtain ⟨_, _, _, h6⟩ := ht
    omega
  · rcases List.mem_or_eq_of_mem_set hp with hp | rfl
    · exact .inl (h.fp p hp)
    · exact .inr ⟨ht.ge, hg'lt⟩
  · rw [hsz]
    have := f.size
    rcases hj with hj | hj
    · have := h.ge j hj; omega
    · omega
set_option maxRecDepth 100000 in
set_option maxHeartbeats 8000000 in
theorem rbuild_any (nm : ByteArray) (hnm : nm.size ≤ maxLen) (lt : List TierV) (A : Option Addr) (n c : Nat) (ss : List Int) (S : Option Addr) (m d : Nat) (t lo : Nat) (F : Nat → Prop) (X : TiersX) (tA : Option Addr) (tc : Nat) (tB : Option Addr) (td : Nat) (T : Option Addr) (ct : Nat) (P : List Nat) (w : World) (ht : Rd w 4 A n (tcells lt)) (hnc : n ≤ c) (hn9 : n ≤ 1000000) (hwt : ∀ t ∈ lt, t.wf) (hs : Rd w 1 S m (ints ss)) (hm9 : m ≤ 1000000) (hss : ∀ s ∈ ss, i64 s) (h : RTiersOn w t lo F X tA tc tB td T ct P) (hn : X.tiers.length ≤ 1000) (hnow : 0 ≤ X.now ∧ X.now ≤ 1099511627776) (hwf : ∀ x ∈ X.tiers, x.wf) (hfl : ∀ f ∈ X.floors, i64 f) (hev : ∀ x ∈ X.tiers, 1 ≤ x.every ∧ x.every ≤ 1000000) (hl : ∀ y ∈ X.tabs, y.length ≤ 1000000) (hA : ∀ j, adF A n j → j < w.heap.size) :
    Calls Tryz.prog 36 #[planV nm A n c S m d, .pointer (some ⟨t, 0, none⟩)] w fun r w' => RBuildR X nm lt ss A c w (buildE X nm lt ss) r w' ∧ Fr (fun _ => False) w w' := by
  unfold planV
  have HX := Lib.hid h
  obtain ⟨nt, hnt⟩ : ∃ v, X.tiers.length = v := ⟨_, rfl⟩
  obtain ⟨mf, hmf⟩ : ∃ v, X.floors.length = v := ⟨_, rfl⟩
  obtain ⟨now, hnw⟩ : ∃ v, X.now = v := ⟨_, rfl⟩
  obtain ⟨nmt, hnmt⟩ : ∃ v, X.name = v := ⟨_, rfl⟩
  have Hnt := Lib.hid hnt
  have Hnw := Lib.hid hnw
  have hn64 : i64 now := by rw [← hnw]; unfold i64; omega
  have Ht := Lib.hid ht
  have Hs := Lib.hid hs
  have Hl := Lib.hid hl
  have Hwt := Lib.hid hwt
  have Hwf := Lib.hid hwf
  have Hfl := Lib.hid hfl
  have Hev := Lib.hid hev
  have Hln := Lib.hid ht.tiers_len
  have Hlm : Hid (ss.length = m) := Rd.len_map hs
  have HAw := Lib.hid hA
  have Hmf := Lib.hid hmf
  have Hts : Hid (∀ {W : World} {G : Nat → Prop}, Fr G w W → ¬ G t → Blk W t 113 #[.int .i64 now, .string nmt, .slice tA nt tc, .slice tB mf td, .slice T nt ct]) := fun f hg => by
    have := h.blk.fr f hg
    rw [hnw, hnmt, hnt, hmf] at this
    exact this
  obtain ⟨W1, hW1⟩ : ∃ v, v = w.alloc (.cells #[.string nm, .slice A n c, .slice S m d] 85) := ⟨_, rfl⟩
  have HW1 := Lib.hid hW1
  obtain ⟨b, hb⟩ : ∃ v, w.heap.size = v := ⟨_, rfl⟩
  have HB1 : Hid (Blk W1 b 85 #[.string nm, .slice A n c, .slice S m d]) := by show Blk _ _ _ _; rw [hW1]; exact Blk.new' hb.symm _ _
  have F1 : Hid (Fr (fun _ => False) w W1) := by show Fr _ _ _; rw [hW1]; exact Fr.none_alloc _ _
  have HFi := Lib.hid (rfits_any nm hnm lt A n c ss S m d t lo F X tA tc tB td T ct P W1 (ht.fr0 F1.out) hnc (by omega) hwt (hs.fr0 F1.out) (by omega) hss (h.fr0 F1.out) (by omega) hwf hev)
  unfold planV at HFi
  obtain ⟨E, hE⟩ : ∃ v, buildE X nm lt ss = v := ⟨_, rfl⟩
  have HE := Lib.hid hE
  rw [hE]
  unfold buildE at hE
  obtain ⟨fb, hfb⟩ : ∃ v, fitsL X.tiers nm lt ss = v := ⟨_, rfl⟩
  rw [hfb] at HFi hE
  have Hfb := Lib.hid hfb
  have x0 := HB1.out.cell 0
  have x1 := HB1.out.cell 1
  have x2 := HB1.out.cell 2
  simp only [List.getElem?_toArray, List.getElem?_cons_succ, List.getElem?_cons_zero] at x0 x1 x2
  clear ht hs hl hwt hwf hfl hev hA h hfb hmf hnmt hss
  go_enter Tryz.func36, Tryz.ntmps36
  go_wp2_with fail
  rw [← HW1.out]
  try rw [hb]
  refine HFi.out.mono ?_
  rintro r w2 ⟨rfl, b2⟩
  have F2 : Hid (Fr (fun _ => False) w w2) := F1.out.trans (Fr.b0 b2) (fun _ h => h.elim)
  have HB2 := Lib.hid (HB1.out.fr (Fr.b0 b2) (fun h => h))
  clear b2 HFi x0 x1 x2 HB1 hW1
  cases fb with
  | false =>
    rw [if_neg (by simp)] at hE
    subst hE
    go_wp2_with fail
    go_ret2
    exact ⟨⟨fun h => absurd h (by decide), fun _ => rfl⟩, F2.out⟩
  | true =>
  rw [if_pos rfl] at hE
  obtain ⟨hck, hlen, hsrc⟩ := fitsL_at Hfb.out
  have hmn : m = n := by have := Hlm.out; have := Hln.out; omega
  subst hmn
  have Hck := Lib.hid hck
  have Hsrc := Lib.hid hsrc
  clear hck hlen hsrc
  rw [hnw] at hE
  obtain ⟨bs, hbs⟩ : ∃ v, basesV now X.tiers X.floors ss lt = v := ⟨_, rfl⟩
  rw [hbs] at hE
  have Hbs := Lib.hid hbs
  have HBa : Hid (∀ W, Fr (fun _ => False) w2 W → Calls Tryz.prog 122 #[.agg #[.string nm, .slice A m c, .slice S m d], .agg #[.int .i64 now, .string nmt, .slice tA nt tc, .slice tB mf td]] W fun r w' => (∃ A' c', r = .returned (.slice A' m c') ∧ Rd w' 1 A' m (ints bs) ∧ ∀ k, adF A' m k → k < w'.heap.size) ∧ Below W.heap.size W w') := fun W f => by
    have fW := F2.out.trans f (fun _ h => h.elim)
    have hrd := (HX.out.fr0 fW).rd
    rw [Hnt.out, Hmf.out] at hrd
    have h := ref_bases_any nm lt A m c ss S d now hn64 nmt X.tiers tA nt tc X.floors tB mf td W (Ht.out.fr0 fW) (Hs.out.fr0 fW) hrd.1 hrd.2 Hwt.out Hwf.out Hfl.out (by omega) (by omega)
    unfold planV reachV at h
    rw [hbs] at h
    refine h.mono ?_
    rintro r w' ⟨⟨A', c', rfl, _, h2, _⟩, h4⟩
    exact ⟨⟨A', c', rfl, h2, fun k hk => h2.adlt (by decide) k hk⟩, h4⟩
  have HNw : Hid (∀ W A' c', Fr (fun _ => False) w2 W → Rd W 1 A' m (ints bs) → (∀ k, adF A' m k → k < W.heap.size) → Calls Tryz.prog 10 #[.agg #[.string nm, .slice A m c], .int .i64 now, .slice A' m c'] W fun r w' => (∃ q, r = .returned (.tuple #[q, .int .i64 E]) ∧ RNewQ nm lt now bs A c A' c' W E q w') ∧ Below W.heap.size W w') := fun W A' c' f h1 h2 => by
    have fW := F2.out.trans f (fun _ h => h.elim)
    have h := rtnew_any nm hnm lt A m c now bs A' m c' W.heap.size W (Nat.le_refl _) (Ht.out.fr0 fW) Hwt.out (by omega) h1 (by omega) (fun j hj => Nat.lt_of_lt_of_le (HAw.out j hj) fW.size) h2
    rw [hE] at h
    refine h.mono ?_
    rintro r w' ⟨⟨h3, h4⟩, h5⟩
    refine ⟨?_, h5⟩
    by_cases hz : E = 0
    · obtain ⟨g, F', T', ct', P', rfl, h6, _⟩ := h3 hz
      exact ⟨_, by rw [hz], fun _ => ⟨g, F', T', ct', P', rfl, h6⟩, fun h => absurd hz h⟩
    · exact ⟨_, h4 hz, fun h => absurd h hz, fun _ => rfl⟩
  have HC3 : Hid (∀ W, Fr (fun _ => False) w2 W → W.cell? ⟨b, 0, none⟩ = some (.string nm) ∧ W.cell? ⟨b, 1, none⟩ = some (.slice A m c) ∧ W.cell? ⟨b, 2, none⟩ = some (.slice S m d) ∧ W.cell? ⟨t, 0, none⟩ = some (.int .i64 now) ∧ W.cell? ⟨t, 1, none⟩ = some (.string nmt) ∧ W.cell? ⟨t, 2, none⟩ = some (.slice tA nt tc) ∧ W.cell? ⟨t, 3, none⟩ = some (.slice tB mf td)) := fun W f => by
    have b1 := HB2.out.fr f (fun h => h)
    have b2 := Hts.out (F2.out.trans f (fun _ h => h.elim)) (fun h => h)
    exact ⟨b1.cell 0, b1.cell 1, b1.cell 2, b2.cell 0, b2.cell 1, b2.cell 2, b2.cell 3⟩
  clear hbs hE
  go_wp2_with fail
  refine wp_region_held_drew (S := fun W_ => Fr (fun _ => False) w2 W_) (by kernel_rfl) ((Fr.refl _ w2).drew) (fun hHeld => ?_)
  refine tl 0 ⟨some 14, .fieldAddr 85 (.tmp 2) 0, 0, _, _, none⟩ ?v1 rfl ?q1 ?r1
  case q1 => intro W hSw; go_simp; try rfl
  refine tl 1 ⟨some 15, .load 24 (.tmp 14), 24, _, _, none⟩ ?v2 rfl ?q2 ?r2
  case q2 => intro W hSw; (try obtain ⟨q0, q1, q2, q3, q4, q5, q6⟩ := HC3.out W hSw); go_simp; try rfl
  refine tl 2 ⟨some 16, .move (.tmp 1), 35, _, _, none⟩ ?v3 rfl ?q3 ?r3
  case q3 => intro W hSw; go_simp; try rfl
  refine tl 3 ⟨some 17, .nilCheck (.tmp 16), 0, _, _, none⟩ ?v4 rfl ?q4 ?r4
  case q4 => intro W hSw; go_simp; try rfl
  refine tl 4 ⟨some 18, .fieldAddr 113 (.tmp 17) 0, 0, _, _, none⟩ ?v5 rfl ?q5 ?r5
  case q5 => intro W hSw; go_simp; try rfl
  refine tl 5 ⟨some 19, .fieldAddr 110 (.tmp 18) 0, 0, _, _, none⟩ ?v6 rfl ?q6 ?r6
  case q6 => intro W hSw; go_simp; try rfl
  refine tl 6 ⟨some 20, .load 3 (.tmp 19), 3, _, _, none⟩ ?v7 rfl ?q7 ?r7
  case q7 => intro W hSw; (try obtain ⟨q0, q1, q2, q3, q4, q5, q6⟩ := HC3.out W hSw); go_simp; try rfl
  refine tl 7 ⟨some 21, .load 85 (.tmp 2), 85, _, _, none⟩ ?v8 rfl ?q8 ?r8
  case q8 => intro W hSw; (try obtain ⟨q0, q1, q2, q3, q4, q5, q6⟩ := HC3.out W hSw); go_simp; try rfl
  refine tl 8 ⟨some 22, .move (.tmp 1), 35, _, _, none⟩ ?v9 rfl ?q9 ?r9
  case q9 => intro W hSw; go_simp; try rfl
  refine tl 9 ⟨some 23, .nilCheck (.tmp 22), 0, _, _, none⟩ ?v10 rfl ?q10 ?r10
  case q10 => intro W hSw; go_simp; try rfl
  refine tl 10 ⟨some 24, .fieldAddr 113 (.tmp 23) 0, 0, _, _, none⟩ ?v11 rfl ?q11 ?r11
  case q11 => intro W hSw; go_simp; try rfl
  refine tl 11 ⟨some 25, .load 110 (.tmp 24), 110, _, _, none⟩ ?v12 rfl ?q12 ?r12
  case q12 => intro W hSw; (try obtain ⟨q0, q1, q2, q3, q4, q5, q6⟩ := HC3.out W hSw); go_simp; try rfl
  try simp only [Act.put, sA, sB, sC]
  refine rl 12 ⟨some 26, .call ⟨.value (.func 122), #[.tmp 21, .tmp 25], #[85, 110]⟩, 25, _, _, none⟩ rfl (fun K hK => ?_)
  go_simp
  go_wp2_with (first | (go_at_call 122; refine (HBa.out _ hHeld).mono ?_; rintro r w3 ⟨⟨B9, d9, rfl, hB9, hL9⟩, b3⟩))
  have HN3 := Lib.hid (HNw.out w3 B9 d9 (hHeld.trans (Fr.b0 b3) (fun _ h => h.elim)) hB9 hL9)
  refine hK.out _ _ (hHeld.trans (Fr.b0 b3) (fun _ h => h.elim)) (fun hHeld => ?_)
  clear hK K
  try simp only [Act.put, sA, sB, sC]
  refine rl 13 ⟨some 27, .call ⟨.value (.func 10), #[.tmp 15, .tmp 20, .tmp 26], #[24, 3, 25]⟩, 36, _, _, none⟩ rfl (fun K hK => ?_)
  go_simp
  go_wp2_with (first | (go_at_call 10; refine HN3.out.mono ?_; rintro r w4 ⟨⟨q9, rfl, hq9⟩, b4⟩))
  refine hK.out _ _ (hHeld.trans (Fr.b0 b4) (fun _ h => h.elim)) (fun hHeld => ?_)
  clear hK K
  refine tl 14 ⟨some 13, .move (.tmp 27), 36, _, _, none⟩ ?v13 rfl ?q13 ?r13
  case q13 => intro W hSw; go_simp; try rfl
  refine tl 15 ⟨some 28, .extract (.tmp 13) 0, 35, _, _, none⟩ ?v14 rfl ?q14 ?r14
  case q14 => intro W hSw; (try obtain ⟨q0, q1, q2, q3, q4, q5, q6⟩ := HC3.out W hSw); go_simp; try rfl
  refine tl 16 ⟨some 29, .extract (.tmp 13) 1, 32, _, _, none⟩ ?v15 rfl ?q15 ?r15
  case q15 => intro W hSw; (try obtain ⟨q0, q1, q2, q3, q4, q5, q6⟩ := HC3.out W hSw); go_simp; try rfl
  refine tl 17 ⟨some 6, .assign (.tmp 28), 35, _, _, none⟩ ?v16 rfl ?q16 ?r16
  case q16 => intro W hSw; (try obtain ⟨q0, q1, q2, q3, q4, q5, q6⟩ := HC3.out W hSw); go_simp; try rfl
  refine tl 18 ⟨some 7, .assign (.tmp 29), 32, _, _, none⟩ ?v17 rfl ?q17 ?r17
  case q17 => intro W hSw; (try obtain ⟨q0, q1, q2, q3, q4, q5, q6⟩ := HC3.out W hSw); go_simp; try rfl
  try simp only [Act.put, sA, sB, sC]
  refine wpAnyH_done (by kernel_rfl) ?_ _
  have F4 : Hid (Fr (fun _ => False) w w4) := F2.out.trans hHeld (fun _ h => h.elim)
  have F24 : Hid (Fr (fun _ => False) w2 w4) := hHeld
  have HQ := Lib.hid hq9
  have hw34 : w3.heap.size ≤ w4.heap.size := (Fr.b0 b4).size
  have hw3 : w.heap.size < w3.heap.size := by have h1 := HB2.out.lt; have h2 := (Fr.b0 b3).size; have h3 : w2.heap.size ≤ w2.drew.heap.size := (Fr.refl (fun _ => False) w2).drew.size; omega
  clear hHeld hq9 hB9 hL9 b3 b4 HBa HNw HC3 HN3
  by_cases hz : E = 0
  case neg =>
    obtain rfl := HQ.out.2 hz
    have hz2 : (E == 0) = false := by simpa using hz
    have hz3 : (E != 0) = true := by simpa using hz
    go_wp2_with fail
    go_ret2
    exact ⟨⟨fun h => absurd h hz, fun _ => rfl⟩, F4.out⟩
  case pos =>
  subst hz
  obtain ⟨g, F9, T9, ct9, P9, rfl, hR⟩ := HQ.out.1 rfl
  have hn1 : 0 < m := by have := (check_len Hck.out).1; have := Hln.out; omega
  have hY0n : (newX nm lt now bs).tiers.length = m := Hln.out
  obtain ⟨gr, hgr⟩ := own_addr hR.row (by rw [hY0n]; exact hn1)
  subst hgr
  have hrdA := Ht.out
  obtain ⟨aA, haA, _⟩ := hrdA.2 hn1
  obtain ⟨aS, haS, _⟩ := Hs.out.2 hn1
  subst haA haS
  obtain ⟨ff, hff⟩ : ∃ f : Nat → List RecV, buildL X lt ss bs = f := ⟨_, rfl⟩
  have Hff : Hid (∀ k, ff k = buildL X lt ss bs k) := fun k => by rw [← hff]
  have HYE : Hid ((⟨now, nm, lt, bs, uptoL m ff (fun _ => []) m⟩ : TiersX) = buildX X nm lt ss) := by
    show _ = _
    unfold buildX
    rw [Hnw.out, Hbs.out, hff, uptoL_all, Hln.out]
  have HR0 : Hid (RTiersOn w4 g w3.heap.size F9 ⟨now, nm, lt, bs, uptoL m ff (fun _ => []) 0⟩ (some aA) c B9 d9 (some ⟨gr, 0, none⟩) ct9 P9) := by
    show RTiersOn _ _ _ _ _ _ _ _ _ _ _ _
    have e : uptoL m ff (fun _ => ([] : List RecV)) 0 = lt.map fun _ => [] := by
      rw [uptoL_zero, ← Hln.out]
      apply List.ext_getElem?
      intro i
      rw [List.getElem?_map, List.getElem?_map]
      by_cases hi : i < lt.length
      · rw [List.getElem?_range hi, List.getElem?_eq_getElem hi]; rfl
      · rw [List.getElem?_eq_none (by rw [List.length_range]; omega), List.getElem?_eq_none (by omega)]; rfl
    rw [e]
    exact hR
  have HB4 := Lib.hid (HB2.out.fr F24.out (fun h => h))
  clear hff hR HQ hrdA
  go_wp2_with fail
  go_loopw [8] (fun i wr => ∃ (k : Nat) (F' : Nat → Prop) (P' : List Nat), k ≤ m ∧ i = .int .i64 k ∧ RTiersOn wr g w3.heap.size F' ⟨now, nm, lt, bs, uptoL m ff (fun _ => []) k⟩ (some aA) c B9 d9 (some ⟨gr, 0, none⟩) ct9 P' ∧ Fr (fun j => w3.heap.size ≤ j) w4 wr) (fun i _ => m - (intOf i).toNat)
  case atStart => exact ⟨0, _, _, Nat.zero_le _, rfl, HR0.out, Fr.refl _ _⟩
  case round =>
    obtain ⟨k, F', P', hk, rfl, hR, hf⟩ := hrel
    have HR := Lib.hid hR
    have FW : Hid (Fr (fun _ => False) w wr) := F4.out.trans hf (fun i hi => .inr (by omega))
    have Hf := Lib.hid hf
    have hbs3 : b < w3.heap.size := by rw [← hb]; exact hw3
    have HBr := Lib.hid (HB4.out.fr hf (by omega))
    have Hgb : Hid (∀ W, Fr (fun j => j = gr) wr W → Blk W g 113 #[.int .i64 now, .string nm, .slice (some aA) m c, .slice B9 m d9, .slice (some ⟨gr, 0, none⟩) m ct9]) := fun W f => by
      have hbl := HR.out.blk
      have hne : ¬ g = gr := fun e => own_blk_ne HR.out.row HR.out.blk (by decide) (by rw [e]; rfl)
      have hb2 := hbl.fr f hne
      simp only at hb2
      have e2 : bs.length = m := by rw [← Hbs.out]; unfold basesV; rw [List.length_zipWith]; have := Hln.out; have := Hlm.out; omega
      rw [Hln.out, e2] at hb2
      exact hb2
    have z4 := (Hgb.out wr (Fr.refl _ wr)).cell 4
    simp only [List.getElem?_toArray, List.getElem?_cons_succ, List.getElem?_cons_zero] at z4
    clear hR hf
    by_cases hlt : k < m
    · obtain ⟨i, x, y, hsi, hx, hy, hdv⟩ := Hsrc.out k (by rw [Hln.out]; exact hlt)
      have hrS := (Hs.out.fr0 FW.out)
      obtain ⟨aS', i', eS, hsi', hS0⟩ := Rd.at_map (f := Value.int .i64) (l := ss) hrS hlt
      obtain rfl := Option.some.inj eS
      obtain rfl := Option.some.inj (hsi.symm.trans hsi')
      obtain ⟨aA', y', eA, hy', _, hA1, _⟩ := (Ht.out.fr0 FW.out).tier hlt
      obtain rfl := Option.some.inj eA
      obtain rfl := Option.some.inj (hy.symm.trans hy')
      have hXr := HX.out.fr0 FW.out
      have hi : i < nt := by rw [← Hnt.out]; exact (List.getElem?_eq_some_iff.1 hx).1
      obtain ⟨p, x', lx, hp, hx', hlx⟩ := hXr.at_ (k := i) (by rw [Hnt.out]; exact hi)
      obtain rfl := Option.some.inj (hx.symm.trans hx')
      have hrow := (own_any hXr.row).2.2.1
      rw [Hnt.out] at hrow
      obtain ⟨aT, p', rfl, hp', hT0⟩ := hrow.at_map hi
      obtain rfl : p = p' := Option.some.inj (hp.symm.trans hp')
      have HXt := Lib.hid (hXr.tab i p x lx hp hx hlx)
      have hlL := Hl.out lx (mem_of_get hlx)
      have hye := check_mem Hck.out (mem_of_get hy)
      have hxe := Hev.out x (mem_of_get hx)
      have e3 : X.tabs.getD i [] = lx := by rw [List.getD_eq_getElem?_getD, hlx]; rfl
      have hgrw : wr.heap.size > gr := (HR.out.row.lt gr rfl).2
      have hgr3 : w3.heap.size ≤ gr := (HR.out.row.lt gr rfl).1
      have hrF := HX.out.row
      have hoffT : (aT.add i).block ≠ gr := fun e => by
        have h1 : rowF (.slice (some aT) X.tiers.length ct) (aT.add i).block := by rw [block_of_add]; rfl
        have := (hrF.lt _ h1).2
        omega
      have hoffS : (aS.add k).block ≠ gr := fun e => by
        have := Hs.out.adlt (by decide) (aS.add k).block ⟨by omega, aS, rfl, by rw [block_of_add]⟩
        omega
      have hoffA : (aA.add (k * 4)).block ≠ gr := fun e => by
        have := Ht.out.adlt (by decide) (aA.add (k * 4)).block ⟨by omega, aA, rfl, by rw [block_of_add]⟩
        omega
      have htw : t < w.heap.size := HX.out.blk.lt
      obtain ⟨ye, hyv⟩ : ∃ v, y.every = v := ⟨_, rfl⟩
      rw [hyv] at hA1 hye
      have HC9 : Hid (∀ W, Fr (fun j => j = gr) wr W → W.cell? ⟨b, 0, none⟩ = some (.string nm) ∧ W.cell? ⟨b, 1, none⟩ = some (.slice (some aA) m c) ∧ W.cell? ⟨b, 2, none⟩ = some (.slice (some aS) m d) ∧ W.cell? ⟨t, 4, none⟩ = some (.slice (some aT) nt ct) ∧ W.cell? ⟨g, 0, none⟩ = some (.int .i64 now) ∧ W.cell? ⟨g, 1, none⟩ = some (.string nm) ∧ W.cell? ⟨g, 2, none⟩ = some (.slice (some aA) m c) ∧ W.cell? ⟨g, 3, none⟩ = some (.slice B9 m d9) ∧ W.cell? ⟨g, 4, none⟩ = some (.slice (some ⟨gr, 0, none⟩) m ct9) ∧ W.cell? (aS.add k) = some (.int .i64 i) ∧ W.cell? (aT.add i) = some (.pointer (some ⟨p, 0, none⟩)) ∧ W.cell? ⟨(aA.add (k * 4)).block, (aA.add (k * 4)).off + 1, none⟩ = some (.int .i64 ye)) := fun W f => by
        have b1 := HBr.out.fr f (by omega)
        have b2 := (Hts.out FW.out (fun h => h)).fr f (by omega)
        have b3 := Hgb.out W f
        exact ⟨b1.cell 0, b1.cell 1, b1.cell 2, b2.cell 4, b3.cell 0, b3.cell 1, b3.cell 2, b3.cell 3, b3.cell 4, f.cell hS0 hoffS, f.cell hT0 hoffT, f.cell hA1 hoffA⟩
      have HFr : Hid (∀ W, Fr (fun _ => False) wr W → Calls Tryz.prog 64 #[.agg #[.int .i64 now, .string nm, .slice (some aA) m c, .slice B9 m d9], .int .i64 (k : Nat)] W fun r w' => r = .returned (.int .i64 (fromV now lt bs k)) ∧ Below W.heap.size W w') := fun W f => by
        obtain ⟨r1, r2⟩ := (HR.out.fr0 f).rd
        simp only at r1 r2
        have e2 : bs.length = m := by rw [← Hbs.out]; unfold basesV; rw [List.length_zipWith]; have := Hln.out; have := Hlm.out; omega
        rw [Hln.out] at r1
        rw [e2] at r2
        exact ref_from_any now hn64 nm lt (some aA) m c bs B9 m d9 k W r1 r2 Hwt.out hlt (by omega)
      obtain ⟨fv, hfv⟩ : ∃ v, fromV now lt bs k = v := ⟨_, rfl⟩
      have hfk : ff k = rollV x.every ye fv lx := by
        rw [Hff.out k, ← hfv, ← hyv, ← e3]
        unfold buildL
        rw [hsi, hy]
        simp only [Int.toNat_natCast]
        rw [hx, Hnw.out]
      rw [hfv] at HFr
      have HRo : Hid (∀ W, Fr (fun _ => False) wr W → Calls Tryz.prog 123 #[.pointer (some ⟨p, 0, none⟩), .int .i64 ye, .int .i64 fv] W fun r w' => (∃ g', r = .returned (.pointer (some ⟨g', 0, none⟩)) ∧ RTabF w' g' W.heap.size (fun j => W.heap.size ≤ j) ye (ff k)) ∧ Fr (fun _ => False) W w') := fun W f => by
        rw [hfk]
        exact rtroll_any p lo F x.every lx ye fv (by omega) hxe W (HXt.out.fr f (fun h => h) (fun _ _ h => h)) hlL
      obtain ⟨csr, hcsr⟩ := own_blk HR.out.row
      have Hgr : Hid (∀ W, Fr (fun _ => False) wr W → W.cell? ⟨gr, k, none⟩ = some (csr.getD k undef) ∧ W.frozen? ⟨gr, k, none⟩ = false) := fun W f => by
        have hB := hcsr.fr f (fun h => h)
        have hlen := own_len HR.out.row hcsr
        refine ⟨?_, hB.frozen k⟩
        rw [hB.cell k, Array.getD_eq_getD_getElem?, Array.getElem?_eq_getElem (by have h1 : lt.length ≤ csr.size := hlen
                                                                                  have := Hln.out
                                                                                  omega)]
        rfl
      have HZ : Hid (∀ W g', Fr (fun _ => False) wr W → RTabF W g' wr.heap.size (fun j => wr.heap.size ≤ j) ye (ff k) → RTiersOn (W.setCell ⟨gr, k, none⟩ (.pointer (some ⟨g', 0, none⟩))) g w3.heap.size (fun j => F' j ∨ (wr.heap.size ≤ j ∧ j < W.heap.size)) ⟨now, nm, lt, bs, uptoL m ff (fun _ => []) (k + 1)⟩ (some aA) c B9 d9 (some ⟨gr, 0, none⟩) ct9 (P'.set k g') ∧ Fr (fun j => w3.heap.size ≤ j) w4 (W.setCell ⟨gr, k, none⟩ (.pointer (some ⟨g', 0, none⟩)))) := fun W g' f hTn => by
        have q := HR.out.swap (k := k) (g' := g') (x := y) (l' := ff k) (by show k < lt.length; rw [Hln.out]; exact hlt) hy f (by rw [hyv]; exact hTn)
        simp only at q
        have e := uptoL_set (n := m) (f := ff) (g := fun _ => ([] : List RecV)) (i := k) hlt
        rw [e] at q
        exact ⟨q, (Hf.out.trans f (fun _ h => h.elim)).trans ((Fr.refl (fun i => i = gr) W).setCell (p := ⟨gr, k, none⟩) (.inl rfl) _) (fun i hi => .inl (by rw [hi]; exact hgr3))⟩
      have kn : 0 ≤ (k : Int) ∧ (k : Int) < (m : Int) := by omega
      have kit : 0 ≤ (i : Int) ∧ (i : Int) < (nt : Int) := by omega
      have g0 : decide ((k : Int) < (m : Int)) = true := decide_eq_true (by omega)
      have hqw : IntKind.i64.wrap ((k : Int) + 1) = (k : Int) + 1 := by simp [IntKind.wrap, IntKind.signed, IntKind.bits]; omega
      clear hsi hx hy hdv hrS hsi' hS0 hy' hA1 hXr hp hx' hlx hrow hp' hT0 hlL hye hxe e3 hgrw hgr3 hrF hoffT hoffS hoffA htw hyv hfv hfk hcsr
      go_wp2_with fail
      refine wp_region_held_drew (S := fun W_ => Fr (fun i => i = gr) wr W_) (by kernel_rfl) ((Fr.refl _ wr).drew) (fun hHeld => ?_)
      refine tl 0 ⟨some 42, .move (.tmp 6), 35, _, _, none⟩ ?v18 rfl ?q18 ?r18
      case q18 => intro W hSw; go_simp; try rfl
      refine tl 1 ⟨some 43, .nilCheck (.tmp 42), 0, _, _, none⟩ ?v19 rfl ?q19 ?r19
      case q19 => intro W hSw; go_simp; try rfl
      refine tl 2 ⟨some 44, .fieldAddr 113 (.tmp 43) 1, 0, _, _, none⟩ ?v20 rfl ?q20 ?r20
      case q20 => intro W hSw; go_simp; try rfl
      refine tl 3 ⟨some 45, .load 111 (.tmp 44), 111, _, _, none⟩ ?v21 rfl ?q21 ?r21
      case q21 => intro W hSw; (try obtain ⟨q0, q1, q2, q3, q4, q5, q6, q7, q8, q9, q10, q11⟩ := HC9.out W hSw); go_simp; try rfl
      refine tl 4 ⟨some 46, .move (.tmp 8), 3, _, _, none⟩ ?v22 rfl ?q22 ?r22
      case q22 => intro W hSw; go_simp; try rfl
      refine tl 5 ⟨some 47, .move (.tmp 1), 35, _, _, none⟩ ?v23 rfl ?q23 ?r23
      case q23 => intro W hSw; go_simp; try rfl
      refine tl 6 ⟨some 48, .nilCheck (.tmp 47), 0, _, _, none⟩ ?v24 rfl ?q24 ?r24
      case q24 => intro W hSw; go_simp; try rfl
      refine tl 7 ⟨some 49, .fieldAddr 113 (.tmp 48) 1, 0, _, _, none⟩ ?v25 rfl ?q25 ?r25
      case q25 => intro W hSw; go_simp; try rfl
      refine tl 8 ⟨some 50, .load 111 (.tmp 49), 111, _, _, none⟩ ?v26 rfl ?q26 ?r26
      case q26 => intro W hSw; (try obtain ⟨q0, q1, q2, q3, q4, q5, q6, q7, q8, q9, q10, q11⟩ := HC9.out W hSw); go_simp; try rfl
      refine tl 9 ⟨some 51, .fieldAddr 85 (.tmp 2) 1, 0, _, _, none⟩ ?v27 rfl ?q27 ?r27
      case q27 => intro W hSw; go_simp; try rfl
      refine tl 10 ⟨some 52, .load 25 (.tmp 51), 25, _, _, none⟩ ?v28 rfl ?q28 ?r28
      case q28 => intro W hSw; (try obtain ⟨q0, q1, q2, q3, q4, q5, q6, q7, q8, q9, q10, q11⟩ := HC9.out W hSw); go_simp; try rfl
      refine tl 11 ⟨some 53, .move (.tmp 8), 3, _, _, none⟩ ?v29 rfl ?q29 ?r29
      case q29 => intro W hSw; go_simp; try rfl
      refine tl 12 ⟨some 54, .indexAddr 25 (.tmp 52) (.tmp 53), 0, _, _, none⟩ ?v30 rfl ?q30 ?r30
      case q30 => intro W hSw; (try obtain ⟨q0, q1, q2, q3, q4, q5, q6, q7, q8, q9, q10, q11⟩ := HC9.out W hSw); go_simp; try rfl
      refine tl 13 ⟨some 55, .load 3 (.tmp 54), 3, _, _, none⟩ ?v31 rfl ?q31 ?r31
      case q31 => intro W hSw; (try obtain ⟨q0, q1, q2, q3, q4, q5, q6, q7, q8, q9, q10, q11⟩ := HC9.out W hSw); go_simp; try rfl
      refine tl 14 ⟨some 56, .indexAddr 111 (.tmp 50) (.tmp 55), 0, _, _, none⟩ ?v32 rfl ?q32 ?r32
      case q32 => intro W hSw; (try obtain ⟨q0, q1, q2, q3, q4, q5, q6, q7, q8, q9, q10, q11⟩ := HC9.out W hSw); go_simp; try rfl
      refine tl 15 ⟨some 57, .load 114 (.tmp 56), 114, _, _, none⟩ ?v33 rfl ?q33 ?r33
      case q33 => intro W hSw; (try obtain ⟨q0, q1, q2, q3, q4, q5, q6, q7, q8, q9, q10, q11⟩ := HC9.out W hSw); go_simp; try rfl
      refine tl 16 ⟨some 58, .fieldAddr 85 (.tmp 2) 0, 0, _, _, none⟩ ?v34 rfl ?q34 ?r34
      case q34 => intro W hSw; go_simp; try rfl
      refine tl 17 ⟨some 59, .fieldAddr 24 (.tmp 58) 1, 0, _, _, none⟩ ?v35 rfl ?q35 ?r35
      case q35 => intro W hSw; go_simp; try rfl
      refine tl 18 ⟨some 60, .load 22 (.tmp 59), 22, _, _, none⟩ ?v36 rfl ?q36 ?r36
      case q36 => intro W hSw; (try obtain ⟨q0, q1, q2, q3, q4, q5, q6, q7, q8, q9, q10, q11⟩ := HC9.out W hSw); go_simp; try rfl
      refine tl 19 ⟨some 61, .move (.tmp 8), 3, _, _, none⟩ ?v37 rfl ?q37 ?r37
      case q37 => intro W hSw; go_simp; try rfl
      refine tl 20 ⟨some 62, .indexAddr 22 (.tmp 60) (.tmp 61), 0, _, _, none⟩ ?v38 rfl ?q38 ?r38
      case q38 => intro W hSw; (try obtain ⟨q0, q1, q2, q3, q4, q5, q6, q7, q8, q9, q10, q11⟩ := HC9.out W hSw); go_simp; try rfl
      refine tl 21 ⟨some 63, .fieldAddr 90 (.tmp 62) 1, 0, _, _, none⟩ ?v39 rfl ?q39 ?r39
      case q39 => intro W hSw; go_simp; try rfl
      refine tl 22 ⟨some 64, .load 3 (.tmp 63), 3, _, _, none⟩ ?v40 rfl ?q40 ?r40
      case q40 => intro W hSw; (try obtain ⟨q0, q1, q2, q3, q4, q5, q6, q7, q8, q9, q10, q11⟩ := HC9.out W hSw); go_simp; try rfl
      refine tl 23 ⟨some 65, .move (.tmp 6), 35, _, _, none⟩ ?v41 rfl ?q41 ?r41
      case q41 => intro W hSw; go_simp; try rfl
      refine tl 24 ⟨some 66, .nilCheck (.tmp 65), 0, _, _, none⟩ ?v42 rfl ?q42 ?r42
      case q42 => intro W hSw; go_simp; try rfl
      refine tl 25 ⟨some 67, .fieldAddr 113 (.tmp 66) 0, 0, _, _, none⟩ ?v43 rfl ?q43 ?r43
      case q43 => intro W hSw; go_simp; try rfl
      refine tl 26 ⟨some 68, .load 110 (.tmp 67), 110, _, _, none⟩ ?v44 rfl ?q44 ?r44
      case q44 => intro W hSw; (try obtain ⟨q0, q1, q2, q3, q4, q5, q6, q7, q8, q9, q10, q11⟩ := HC9.out W hSw); go_simp; try rfl
      refine tl 27 ⟨some 69, .move (.tmp 8), 3, _, _, none⟩ ?v45 rfl ?q45 ?r45
      case q45 => intro W hSw; go_simp; try rfl
      try simp only [Act.put, sA, sB, sC]
      refine rl 28 ⟨some 70, .call ⟨.value (.func 64), #[.tmp 68, .tmp 69], #[110, 3]⟩, 3, _, _, none⟩ rfl (fun K hK => ?_)
      go_simp
      go_wp2_with (first | (go_at_call 64; refine (HFr.out _ (Fr.refl _ wr).drew).mono ?_; rintro r wa ⟨rfl, ba⟩))
      have fa : Fr (fun _ => False) wr wa := (Fr.refl _ wr).drew.trans (Fr.b0 ba) (fun _ h => h.elim)
      refine hK.out _ _ (hHeld.trans (Fr.b0 ba) (fun _ h => h.elim)) (fun hHeld => ?_)
      clear hK K
      try simp only [Act.put, sA, sB, sC]
      refine rl 29 ⟨some 71, .call ⟨.value (.func 123), #[.tmp 57, .tmp 64, .tmp 70], #[114, 3, 3]⟩, 114, _, _, none⟩ rfl (fun K hK => ?_)
      go_simp
      go_wp2_with (first | (go_at_call 123; refine (HRo.out _ fa).mono ?_; rintro r w6 ⟨⟨gn, rfl, hTn⟩, f6⟩))
      have G6 : Fr (fun _ => False) wr w6 := fa.trans f6 (fun _ h => h.elim)
      have Q6 := Lib.hid (HZ.out w6 gn G6 (hTn.more fa.size))
      obtain ⟨y1, y2⟩ := Hgr.out w6 G6
      refine hK.out _ _ (hHeld.trans f6 (fun _ h => h.elim)) (fun hHeld => ?_)
      clear hK K
      refine tl 30 ⟨some 72, .indexAddr 111 (.tmp 45) (.tmp 46), 0, _, _, none⟩ ?v46 rfl ?q46 ?r46
      case q46 => intro W hSw; (try obtain ⟨q0, q1, q2, q3, q4, q5, q6, q7, q8, q9, q10, q11⟩ := HC9.out W hSw); go_simp; try rfl
      try simp only [Act.put, sA, sB, sC]
      refine rl 31 ⟨none, .store 114 (.tmp 72) (.tmp 71), 0, _, _, none⟩ rfl (fun K hK => ?_)
      go_simp
      refine hK.out _ _ (hHeld.setCell (.inl rfl) _) (fun hHeld => ?_)
      clear hK K
      try simp only [Act.put, sA, sB, sC]
      refine wpAnyH_done (by kernel_rfl) ?_ _
      clear hHeld f6 hTn fa ba G6
      go_wp2_with fail
      go_roundw
      case rel => exact ⟨k + 1, _, _, by omega, by go_num, Q6.out.1, Q6.out.2⟩
      case measure => simp [intOf]; omega
    · obtain rfl : k = m := by omega
      have g0 : decide ((k : Int) < (k : Int)) = false := decide_eq_false (by omega)
      rw [HYE.out] at HR
      go_wp2_with fail
      go_ret2
      exact ⟨⟨fun _ => ⟨g, w3.heap.size, F', B9, d9, _, ct9, P', rfl, by omega, HR.out⟩, fun h => absurd rfl h⟩, FW.out⟩
end Go.Proofs.YtbblmmneeafhgaaGreat
