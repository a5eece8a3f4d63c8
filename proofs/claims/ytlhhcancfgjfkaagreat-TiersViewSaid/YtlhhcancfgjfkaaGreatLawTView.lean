/- TiersView's walk: each tier has just the samples of its buckets that are not below its reach. -/
import Derived.Test.YtlhhcancfgjfkaaGreatAlive11
import Derived.Test.YtlhhcancfgjfkaaGreatTioS
import Derived.Test.YtlhhcancfgjfkaaGreatTioReach
import Derived.Test.YtlhhcancfgjfkaaGreatRefViewB
import Derived.Test.YtlhhcancfgjfkaaGreatOpC
import Derived.Test.YtlhhcancfgjfkaaGreatFills
import Derived.Test.YtlhhcancfgjfkaaGreatSame
import Derived.Test.YtlhhcancfgjfkaaGreatTk
namespace Go.Proofs.YtlhhcancfgjfkaaGreat
set_option linter.all false
open Go.RowKit

set_option maxRecDepth 100000 in
set_option maxHeartbeats 4000000 in
theorem tview_walk (nm : ByteArray) (l : List TierV) (A : Option Addr) (n c : Nat) (now : Int) (ops : List OpC) (B : Option Addr) (m d : Nat) (tr : Int) (w : World) (hnm : nm.size ≤ maxLen) (hr : Rd w 4 A n (tcells l)) (hnc : n ≤ c) (hn9 : n ≤ 9223372036854775807) (hwf : ∀ t ∈ l, t.wf) (hnow : -9223372036854775808 ≤ now ∧ now ≤ 9223372036854775807) (hs : Rd w 4 B m (opcells ops)) (hm9 : m ≤ 9223372036854775807) (hok : ∀ o ∈ ops, o.ok w) (htr : -9223372036854775808 ≤ tr ∧ tr ≤ 9223372036854775807) :
    Calls Tryz.prog 3 #[.agg #[.string nm, .slice A n c], .int .i64 now, .slice B m d, .int .i64 tr] w fun e w' => e = .returned (.bool true) ∧ Below w.heap.size w w' := by
  have Hr := Lib.hid hr
  have Hll := Lib.hid hr.tiers_len
  have HAl := Lib.hid alive11_any
  have HSm : Hid (∀ W, Fr (fun _ => False) w W → Calls Tryz.prog 7 #[.agg #[.string nm, .slice A n c]] W fun r w' => SmallR nm n r ∧ Below W.heap.size W w') := fun W f => bsmall_any nm l A n c W (hr.fr0 f) hn9 hnm (fun t h => (hwf t h).2.2.2)
  have HLi : Hid (∀ W, Fr (fun _ => False) w W → Calls Tryz.prog 8 #[.slice B m d] W fun r w' => LightR m r ∧ W = w') := fun W f => light_any ops B m d W (hs.fr0 f) (fun o h => (hok o h).below (f.below (fun _ h => h.elim))) hm9
  have HN : Hid (∀ W, n ≤ 10 → Fr (fun _ => False) w W → Calls Tryz.prog 10 #[.agg #[.string nm, .slice A n c], .int .i64 now, .slice none 0 0] W fun r w' => ((newE nm l now [] = 0 → PolOk nm l ∧ ∃ t F, r = .returned (.tuple #[.pointer (some ⟨t, 0, none⟩), .int .i64 0]) ∧ Tio nm l [] w.heap.size w' t (newX nm l now []) F 0 ∧ ∀ j, F j → W.heap.size ≤ j) ∧ (newE nm l now [] ≠ 0 → r = .returned (.tuple #[.pointer none, .int .i64 (newE nm l now [])]))) ∧ Below W.heap.size W w') := fun W h10 f => tio_new hnm hwf A n c now hnow w.heap.size W f.size (hr.fr0 f) hnc (by omega)
  have Hs := Lib.hid hs
  have Hln := Lib.hid hs.ops_len
  have Hok := Lib.hid hok
  have Hwf := Lib.hid hwf
  have B0 := Lib.hid (Blk.new w 24 #[.string nm, .slice A n c])
  have F0 := Lib.hid (Fr.none_alloc w (.cells #[.string nm, .slice A n c] 24))
  clear hr hwf hs hok
  go_enter Tryz.func3, Tryz.ntmps3
  go_wp2_with fail
  refine (HSm.out _ F0.out).mono ?_
  rintro r w1 ⟨⟨b, rfl, hb⟩, b1⟩
  have F1 := Lib.hid (F0.out.trans (Fr.b0 b1) (fun _ h => h.elim))
  have B1 := Lib.hid (B0.out.fr (Fr.b0 b1) (fun h => h))
  clear b1 HSm
  cases b with
  | false =>
    clear hb
    go_wp2_with fail
    refine (HAl.out _).mono ?_
    rintro r wq ⟨rfl, bq⟩
    go_wp2_with fail
    go_ret
    exact ⟨rfl, (F1.out.trans (Fr.b0 bq) (fun _ h => h.elim)).below (fun _ h => h.elim)⟩
  | true =>
  have h10 : n ≤ 10 := (hb rfl).1
  clear hb
  go_wp2_with fail
  refine (HLi.out _ F1.out).mono ?_
  rintro r w2 ⟨⟨b, rfl, hb⟩, rfl⟩
  cases b with
  | false =>
    clear hb
    go_wp2_with fail
    refine (HAl.out _).mono ?_
    rintro r wq ⟨rfl, bq⟩
    go_wp2_with fail
    go_ret
    exact ⟨rfl, (F1.out.trans (Fr.b0 bq) (fun _ h => h.elim)).below (fun _ h => h.elim)⟩
  | true =>
  have h50 : m ≤ 50 := hb rfl
  clear hb HLi
  have p0 := B1.out.cell 0
  have p1 := B1.out.cell 1
  simp only [List.getElem?_toArray, List.getElem?_cons_succ, List.getElem?_cons_zero] at p0 p1
  go_wp2_with fail
  refine (HN.out _ h10 F1.out).mono ?_
  rintro r w3 ⟨⟨h1, h2⟩, b3⟩
  have F3 := Lib.hid (F1.out.trans (Fr.b0 b3) (fun _ h => h.elim))
  have B3 := Lib.hid (B1.out.fr (Fr.b0 b3) (fun h => h))
  clear b3 p0 p1
  by_cases hE : newE nm l now [] = 0
  case neg =>
    obtain rfl := h2 hE
    clear h1 h2 HN
    obtain ⟨E, hEq⟩ : ∃ E, newE nm l now [] = E := ⟨_, rfl⟩
    rw [hEq] at hE ⊢
    have hE2 : (E == 0) = false := by simpa using hE
    have hE3 : decide (E = 0) = false := decide_eq_false hE
    clear hEq
    go_wp2_with fail
    refine (HAl.out _).mono ?_
    rintro r wq ⟨rfl, bq⟩
    go_wp2_with fail
    go_ret
    exact ⟨by first | rfl | simp, (F3.out.trans (Fr.b0 bq) (fun _ h => h.elim)).below (fun _ h => h.elim)⟩
  case pos =>
  obtain ⟨p, t, F, rfl, T3, hF⟩ := h1 hE
  have P := Lib.hid p
  have HT3 := Lib.hid T3
  have HFl : Hid (∀ j, F j → w.heap.size < j) := fun j hj => by
    have h1 := hF j hj
    have h2 := B1.out.lt
    omega
  have HG : Hid ((newX nm l now []).now = now) := rfl
  clear h1 h2 HN hF p T3
  obtain ⟨X0, hX0⟩ : ∃ X0, newX nm l now [] = X0 := ⟨_, rfl⟩
  have HV0 : Hid (ViewX X0 []) := by show ViewX _ _; rw [← hX0]; exact ViewX.new nm l now []
  rw [hX0] at HT3
  clear hX0 hE HG
  go_wp2_with fail
  have HO0 : Hid (w3.ownsRow w3.heap.size 103 3 (.slice none 0 0) 0 (scells [])) := World.ownsRow_nil _ _ _ _
  obtain ⟨i0, hi, hz0, hz1, hz2⟩ := info_parts info_samp
  go_loopw [11, 12] (fun s11 s12 wr => ∃ (k : Nat) (X : TiersX) (all : List SampV) (A' : Option Addr) (n' c' : Nat), k ≤ m ∧ s12 = .int .i64 k ∧ s11 = .slice A' n' c' ∧ wr.ownsRow w3.heap.size 103 3 (.slice A' n' c') n' (scells all) ∧ n' ≤ k * 8 ∧ (∀ y ∈ all, y.wf) ∧ ViewX X all ∧ Tio nm l [] w.heap.size wr t X F (k * 8) ∧ Fr F w3 wr ∧ Below w.heap.size w wr) (fun _ s12 _ => m - (intOf s12).toNat)
  case atStart => exact ⟨0, X0, [], none, 0, 0, Nat.zero_le _, rfl, rfl, HO0.out, Nat.le_refl _, (fun _ h => by cases h), HV0.out, HT3.out, Fr.refl _ _, F3.out.below (fun _ h => h.elim)⟩
  case round =>
    obtain ⟨k, X, all, A', n', c', hk, rfl, rfl, hown, hn8, hwa, hv, hT, hfr, ho⟩ := hrel
    have HT := Lib.hid hT
    have Ho := Lib.hid ho
    have HF := Lib.hid hfr
    have HV := Lib.hid hv
    have HOw := Lib.hid hown
    have Hwa := Lib.hid hwa
    clear hT ho hfr hv hown hwa HO0
    by_cases hlt : k < m
    · have hkw : IntKind.i64.wrap ((k : Int) + 1) = (k : Int) + 1 := by simp [IntKind.wrap, IntKind.signed, IntKind.bits]; omega
      obtain ⟨ad, o, rfl, hy, a0, a1, a2, a3⟩ := (Hs.out.below Ho.out).op_ hlt
      have HO := Lib.hid ((Hok.out o (mem_of_get hy)).below Ho.out)
      have HPk := Lib.hid (tio_put P.out HT.out (by omega) o.sl o.sa o.sn o.sc HO.out.s HO.out.swf)
      have HKk := Lib.hid (tio_tick P.out HT.out (by omega) o.n HO.out.n)
      have HCk : Hid (∀ W, Below w.heap.size w W → W.cell? (ad.add (k * 4)) = some (.int .i64 o.kind) ∧ W.cell? ⟨(ad.add (k * 4)).block, (ad.add (k * 4)).off + 1, none⟩ = some (.int .i64 o.n) ∧ W.cell? ⟨(ad.add (k * 4)).block, (ad.add (k * 4)).off + 2, none⟩ = some (.slice o.sa o.sn o.sc) ∧ Rd W 3 o.sa o.sn (scells o.sl)) := fun W b => by
        obtain ⟨ad', o', e, ho', c0, c1, c2, _⟩ := (Hs.out.below b).op_ hlt
        injection e with e
        subst e
        rw [hy] at ho'
        cases ho'
        exact ⟨c0, c1, c2, ((Hok.out o (mem_of_get hy)).below b).s⟩
      have HVp : Hid (putE X o.sl = 0 → ViewX (putX X o.sl) (all ++ o.sl)) := fun h => HV.out.put h
      have HVn : Hid (putE X o.sl ≠ 0 → putX X o.sl = X) := fun h => by unfold putX; rw [if_neg h]
      have HVt : Hid (ViewX (tickX X o.n) all) := HV.out.tick (fun x hx => by rw [HT.out.good.tiers] at hx; have := check_mem P.out.ck hx; exact ⟨this.2.2.2.1, this.2.1⟩) HT.out.good.now.1 o.n
      have H8 : Hid (putE X o.sl = 0 → o.sn ≤ 8) := fun h => by rw [← HO.out.slen]; exact putE_eight h
      have Hsw := Lib.hid HO.out.swf
      clear hy HO
      obtain ⟨kd, nn, sl, sa, sn, sc, E, E2, hkd, hnn, h1, h2a, h2b, h2c, hE, hE2⟩ : ∃ kd, ∃ (nn : Int) (sl : List SampV) (sa : Option Addr) (sn sc : Nat) (E E2 : Int), o.kind = kd ∧ o.n = nn ∧ o.sl = sl ∧ o.sa = sa ∧ o.sn = sn ∧ o.sc = sc ∧ putE X o.sl = E ∧ tickE X o.n = E2 := ⟨_, _, _, _, _, _, _, _, rfl, rfl, rfl, rfl, rfl, rfl, rfl, rfl⟩
      rw [h2a, h2b, h2c] at HPk a2 HCk
      rw [hkd] at a0 HCk
      rw [hE] at HPk HVp HVn H8
      rw [h1] at HPk HVp HVn HCk Hsw
      rw [h2b] at H8
      rw [hE2] at HKk
      rw [hnn] at HKk a1 HCk HVt
      clear hkd hnn h1 h2a h2b h2c hE hE2
      by_cases hk1 : kd = 1
      · subst hk1
        by_cases hz : E = 0
        · subst hz
          have HVq := Lib.hid (HVp.out (by trivial))
          have hsn := H8.out (by trivial)
          clear HVp HVn H8 HVt HKk
          go_wp2_with fail
          refine HPk.out.mono ?_
          rintro r w6 ⟨rfl, T6, f6⟩
          have HT6 := Lib.hid (T6.more (d := (k + 1) * 8) (by omega))
          have O6 : Hid (Below w.heap.size w w6) := Ho.out.trans (HT.out.below Ho.out.size f6)
          have F6 : Hid (Fr F w3 w6) := HF.out.trans f6 (fun _ h => .inl h)
          have Ow6 := Lib.hid (HT.out.rowS HOw.out f6)
          clear T6 f6 HPk a0 a1 a2 a3
          obtain ⟨a0, a1, a2, rs6⟩ := HCk.out w6 O6.out
          have Rs6 := Lib.hid rs6
          clear rs6
          go_wp2_with (at_builtin; refine wpList_app2 rfl _ _ 33 rfl 103 i0 _ 3 32 Tryz.underlying33 hi hz0 hz1 hz2 rfl (by decide) (.slice A' n' c') n' (scells all) rfl w3.heap.size F6.out.size Ow6.out sa sn sc (scells sl) rfl Rs6.out (scells_one sl) ?q1 ?q2 ?_)
          case q1 => unfold maxLen; omega
          case q2 => omega
          intro A7 c7 w7 ho7 hm7 _
          have e7 : scells all ++ scells sl = scells (all ++ sl) := by unfold scells; rw [List.flatMap_append]
          rw [e7] at ho7
          have Ow7 := Lib.hid ho7
          have HT7 := Lib.hid (HT6.out.frS hm7.fr (fun j hj => own_ty Ow6.out hj))
          have F7 : Hid (Fr F w3 w7) := F6.out.trans hm7.fr (fun i hi => .inr (Ow6.out.lt i hi).1)
          have O7 : Hid (Below w.heap.size w w7) := O6.out.trans (hm7.fr.below_of O6.out.size (fun i hi => Nat.le_trans F3.out.size (Ow6.out.lt i hi).1))
          have Hw7 : Hid (∀ y ∈ all ++ sl, y.wf) := fun y hy => by
            rcases List.mem_append.1 hy with hy | hy
            · exact Hwa.out y hy
            · exact Hsw.out y hy
          clear ho7 hm7 e7 a0 a1 a2
          obtain ⟨a0, a1, a2, _⟩ := HCk.out w7 O7.out
          go_wp2_with fail
          go_roundw
          case rel => exact ⟨k + 1, _, all ++ sl, A7, n' + sn, c7, by omega, by go_num, rfl, Ow7.out, by omega, Hw7.out, HVq.out, HT7.out, F7.out, O7.out⟩
          case measure => simp [intOf]; omega
        · have hz2 : (E == 0) = false := by simpa using hz
          have hz3 : decide (E = 0) = false := decide_eq_false hz
          have hX := HVn.out hz
          rw [hX] at HPk
          clear HVp HVn H8 HVt HKk hX
          go_wp2_with fail
          refine HPk.out.mono ?_
          rintro r w6 ⟨rfl, T6, f6⟩
          have HT6 := Lib.hid (T6.more (d := (k + 1) * 8) (by omega))
          have O6 : Hid (Below w.heap.size w w6) := Ho.out.trans (HT.out.below Ho.out.size f6)
          have F6 : Hid (Fr F w3 w6) := HF.out.trans f6 (fun _ h => .inl h)
          have Ow6 := Lib.hid (HT.out.rowS HOw.out f6)
          clear T6 f6 HPk a0 a1 a2 a3
          obtain ⟨a0, a1, a2, _⟩ := HCk.out w6 O6.out
          go_wp2_with fail
          go_roundw
          case rel => exact ⟨k + 1, X, all, A', n', c', by omega, by go_num, rfl, Ow6.out, by omega, Hwa.out, HV.out, HT6.out, F6.out, O6.out⟩
          case measure => simp [intOf]; omega
      · have hk2 : (kd == 1) = false := by simpa using hk1
        have hk3 : decide (kd = 1) = false := decide_eq_false hk1
        by_cases hk4 : kd = 2
        · subst hk4
          clear HPk HVp HVn H8
          go_wp2_with fail
          refine HKk.out.mono ?_
          rintro r w6 ⟨rfl, T6, f6⟩
          have HT6 := Lib.hid (T6.more (d := (k + 1) * 8) (by omega))
          have O6 : Hid (Below w.heap.size w w6) := Ho.out.trans (HT.out.below Ho.out.size f6)
          have F6 : Hid (Fr F w3 w6) := HF.out.trans f6 (fun _ h => .inl h)
          have Ow6 := Lib.hid (HT.out.rowS HOw.out f6)
          clear T6 f6 HKk a0 a1 a2 a3
          go_wp2_with fail
          go_roundw
          case rel => exact ⟨k + 1, _, all, A', n', c', by omega, by go_num, rfl, Ow6.out, by omega, Hwa.out, HVt.out, HT6.out, F6.out, O6.out⟩
          case measure => simp [intOf]; omega
        · have hk5 : (kd == 2) = false := by simpa using hk4
          have hk6 : decide (kd = 2) = false := decide_eq_false hk4
          have HT6 := Lib.hid (HT.out.more (d := (k + 1) * 8) (by omega))
          clear HPk HKk HVp HVn H8 HVt
          go_wp2_with fail
          go_roundw
          case rel => exact ⟨k + 1, X, all, A', n', c', by omega, by go_num, rfl, HOw.out, by omega, Hwa.out, HV.out, HT6.out, HF.out, Ho.out⟩
          case measure => simp [intOf]; omega
    · obtain rfl : m = k := by omega
      have BPr : Hid (Blk wr w.heap.size 24 #[.string nm, .slice A n c]) := B3.out.fr HF.out (fun h => absurd (HFl.out _ h) (Nat.lt_irrefl _))
      have hX0 : 0 ≤ X.now ∧ X.now ≤ 1099511627776 := HT.out.good.now
      obtain ⟨tA, tc, tB, td, hR⟩ := HT.out.reach
      have t0 := hR.c0
      obtain ⟨W0, hW0⟩ : ∃ W0, W0 = wr := ⟨_, rfl⟩
      rw [← hW0] at t0 hR BPr HT Ho HF HOw ⊢
      clear hW0
      have hlen : l.length = n := Hll.out
      have hXt : X.tiers = l := HT.out.good.tiers
      have hXf : X.floors = [] := HT.out.good.floors
      have Rall := Lib.hid (own_any HOw.out).2.2.1
      have HVw : Hid (∀ W, Fr (fun _ => False) W0 W → Calls Tryz.prog 15 #[.agg #[.int .i64 X.now, .string nm, .slice A n c, .slice none 0 0], .int .i64 tr, .slice A' n' c'] W fun r w' => ViewR (viewI X tr all) r w' ∧ Below W.heap.size W w') := fun W f =>
        rview_any X.now (by unfold i64; omega) nm l A n c [] none 0 0 X rfl hXt hXf (fun x hx => (check_mem P.out.ck hx).1) tr all A' n' c' W (Hr.out.below (Ho.out.trans (f.below_of Ho.out.size (fun _ h => h.elim)))) Rd.nil_ Hwf.out (by omega) (Rall.out.fr0 f) Hwa.out (by omega)
      have HRc : Hid (∀ W, Fr (fun _ => False) W0 W → Calls Tryz.prog 14 #[.pointer (some ⟨t, 0, none⟩), .int .i64 tr] W fun r w' => ViewR (viewI X tr all) r w' ∧ Below W.heap.size W w') := fun W f => by
        have hT := HT.out.fr0 f
        unfold viewI
        rw [hXt, hlen]
        by_cases hin : 0 ≤ tr ∧ tr < (n : Int)
        · rw [if_pos hin]
          obtain ⟨q, rfl⟩ := Int.eq_ofNat_of_zero_le hin.1
          rw [Int.toNat_natCast, ← HV.out q (by rw [hXt]; omega)]
          exact (tio_records hT (by omega) q (by omega)).mono fun r w' ⟨⟨A, c, e, ho⟩, hb⟩ => ⟨⟨A, c, e, (own_any ho).2.2.1⟩, hb⟩
        · rw [if_neg hin]
          obtain ⟨base, _, ho⟩ := hT.on
          exact (trecords_out t base X tr W ho.at_ (hT.pos P.out) (by rw [hXt, hlen]; exact hin)).mono fun r w' ⟨e, hw⟩ => ⟨⟨none, 0, e, Rd.nil_⟩, by rw [hw]; exact Below.refl _ _⟩
      have HLen : Hid ((viewI X tr all).length ≤ 400) := by
        show _ ≤ _
        unfold viewI
        split
        · rename_i hin
          rw [← HV.out tr.toNat (by omega)]
          exact Nat.le_trans (getD_len HT.out.good.len _) (by omega)
        · simp
      obtain ⟨LV, hLV⟩ : ∃ v, viewI X tr all = v := ⟨_, rfl⟩
      rw [hLV] at HVw HRc HLen
      obtain ⟨x0, hx0⟩ : ∃ v, X.now = v := ⟨_, rfl⟩
      rw [hx0] at HVw t0
      have HC0 : Hid (∀ W, Fr (fun _ => False) W0 W → W.cell? ⟨w.heap.size, 0, none⟩ = some (.string nm) ∧ W.cell? ⟨w.heap.size, 1, none⟩ = some (.slice A n c) ∧ W.cell? ⟨t, 0, none⟩ = some (.int .i64 x0)) := fun W f => by
        have b := BPr.out.fr f (fun h => h)
        exact ⟨b.cell 0, b.cell 1, f.cell t0 (fun h => h)⟩
      clear hLV hx0 hR t0 hXt hXf HV HT BPr hX0
      go_wp2_with fail
      refine wp_region_held_drew (S := fun W => Fr (fun _ => False) W0 W) (by kernel_rfl) ((Fr.refl _ W0).drew) (fun hHeld => ?_)
      refine tk 0 ⟨some 82, .move (.tmp 9), 29, _, _, none⟩ ?vq1 rfl (by kernel_rfl) (.inl ⟨by rfl, ?hq1⟩) ?rq1
      case hq1 => intro W hSw; go_simp; (try with_reducible rfl)
      try simp only [Act.put, List.setIfInBounds_toArray, List.set_cons_zero, List.set_cons_succ]
      refine tk 1 ⟨some 83, .nilCheck (.tmp 82), 0, _, _, none⟩ ?vq2 rfl (by kernel_rfl) (.inl ⟨by rfl, ?hq2⟩) ?rq2
      case hq2 => intro W hSw; go_simp; (try with_reducible rfl)
      try simp only [Act.put, List.setIfInBounds_toArray, List.set_cons_zero, List.set_cons_succ]
      refine tk 2 ⟨some 84, .fieldAddr 44 (.tmp 83) 0, 0, _, _, none⟩ ?vq3 rfl (by kernel_rfl) (.inl ⟨by rfl, ?hq3⟩) ?rq3
      case hq3 => intro W hSw; go_simp; (try with_reducible rfl)
      try simp only [Act.put, List.setIfInBounds_toArray, List.set_cons_zero, List.set_cons_succ]
      refine tk 3 ⟨some 85, .fieldAddr 41 (.tmp 84) 0, 0, _, _, none⟩ ?vq4 rfl (by kernel_rfl) (.inl ⟨by rfl, ?hq4⟩) ?rq4
      case hq4 => intro W hSw; go_simp; (try with_reducible rfl)
      try simp only [Act.put, List.setIfInBounds_toArray, List.set_cons_zero, List.set_cons_succ]
      refine tk 4 ⟨some 86, .load 3 (.tmp 85), 3, _, _, none⟩ ?vq5 rfl (by kernel_rfl) (.inl ⟨by rfl, ?hq5⟩) ?rq5
      case hq5 => intro W hSw; (try obtain ⟨p0, p1, t0⟩ := HC0.out W hSw); go_simp; (try with_reducible rfl)
      try simp only [Act.put, List.setIfInBounds_toArray, List.set_cons_zero, List.set_cons_succ]
      refine tk 5 ⟨some 87, .load 24 (.tmp 4), 24, _, _, none⟩ ?vq6 rfl (by kernel_rfl) (.inl ⟨by rfl, ?hq6⟩) ?rq6
      case hq6 => intro W hSw; (try obtain ⟨p0, p1, t0⟩ := HC0.out W hSw); go_simp; (try with_reducible rfl)
      try simp only [Act.put, List.setIfInBounds_toArray, List.set_cons_zero, List.set_cons_succ]
      refine tk 6 ⟨some 88, .build 46 #[(0, .tmp 86), (1, .tmp 87)], 46, _, _, none⟩ ?vq7 rfl (by kernel_rfl) (.inl ⟨by rfl, ?hq7⟩) ?rq7
      case hq7 => intro W hSw; (try obtain ⟨p0, p1, t0⟩ := HC0.out W hSw); go_simp; (try with_reducible rfl)
      try simp only [Act.put, List.setIfInBounds_toArray, List.set_cons_zero, List.set_cons_succ]
      refine wpAnyH_ready (rs := [7]) (by kernel_rfl) (by simp) ?_
      refine AllReadyH.cons (o := ⟨some 13, .alloc 46, 0, _, _, none⟩) rfl (fun K hK => ?_) AllReadyH.nil
      go_simp
      refine hK.out _ _ (by first | exact ((Fr.refl _ W0).alloc _).drew | exact hHeld.alloc _) (fun hHeld => ?_)
      clear hK K
      try simp only [Act.put, List.setIfInBounds_toArray, List.set_cons_zero, List.set_cons_succ]
      refine wpAnyH_ready (rs := [8]) (by kernel_rfl) (by simp) ?_
      refine AllReadyH.cons (o := ⟨none, .store 46 (.tmp 13) (.tmp 88), 0, _, _, none⟩) rfl (fun K hK => ?_) AllReadyH.nil
      go_simp
      refine hK.out _ _ (by first | exact ((Fr.refl _ W0).alloc _).drew | exact hHeld.alloc _) (fun hHeld => ?_)
      clear hK K
      try simp only [Act.put, List.setIfInBounds_toArray, List.set_cons_zero, List.set_cons_succ]
      refine wpAnyH_done (by kernel_rfl) ?_ _
      have hH5 := hHeld
      obtain ⟨W5, hW5⟩ : ∃ W5, W5 = (W0.alloc (.cells #[.int .i64 x0, .string nm, .slice A n c, .slice none 0 0] 46)).drew := ⟨_, rfl⟩
      rw [← hW5]
      have F5 : Hid (Fr (fun _ => False) W0 W5) := by show Fr _ _ _; rw [hW5]; exact ((Fr.refl _ W0).alloc _).drew
      have B5 : Hid (Blk W5 W0.heap.size 46 #[.int .i64 x0, .string nm, .slice A n c, .slice none 0 0]) := by show Blk _ _ _ _; rw [hW5]; exact (Blk.new W0 _ _).drew
      obtain ⟨rb, hrb⟩ : ∃ v, W0.heap.size = v := ⟨_, rfl⟩
      rw [hrb] at B5
      try rw [hrb]
      clear hHeld hH5 hW5 hrb
      have HC5 : Hid (∀ W, Fr (fun _ => False) W5 W → W.cell? ⟨rb, 0, none⟩ = some (.int .i64 x0) ∧ W.cell? ⟨rb, 1, none⟩ = some (.string nm) ∧ W.cell? ⟨rb, 2, none⟩ = some (.slice A n c) ∧ W.cell? ⟨rb, 3, none⟩ = some (.slice none 0 0)) := fun W f => by
        have b := B5.out.fr f (fun h => h)
        exact ⟨b.cell 0, b.cell 1, b.cell 2, b.cell 3⟩
      have HR5 := Lib.hid (fun W (f : Fr (fun _ => False) W5 W) => HRc.out W (F5.out.trans f (fun _ h => h.elim)))
      have HV5 := Lib.hid (fun W (f : Fr (fun _ => False) W5 W) => HVw.out W (F5.out.trans f (fun _ h => h.elim)))
      clear HC0
      go_wp2_with fail
      refine wp_region_held_drew (S := fun W => Fr (fun _ => False) W5 W) (by kernel_rfl) ((Fr.refl _ W5).drew) (fun hHeld => ?_)
      refine wpAnyH_ready (rs := [0]) (by kernel_rfl) (by simp) ?_
      refine AllReadyH.cons (o := ⟨some 89, .call ⟨.value (.func 9), #[], #[]⟩, 4, _, _, none⟩) rfl (fun K hK => ?_) AllReadyH.nil
      go_simp
      go_wp2_with (first | (go_at_call 9; refine (HAl.out _).mono ?_; rintro r wa ⟨rfl, ba⟩))
      refine hK.out _ _ (hHeld.trans (Fr.b0 ba) (fun _ h => h.elim)) (fun hHeld => ?_)
      clear hK K
      try simp only [Act.put, List.setIfInBounds_toArray, List.set_cons_zero, List.set_cons_succ]
      refine tk 1 ⟨some 90, .move (.tmp 89), 4, _, _, none⟩ ?vq8 rfl (by kernel_rfl) (.inl ⟨by rfl, ?hq8⟩) ?rq8
      case hq8 => intro W hSw; go_simp; (try with_reducible rfl)
      try simp only [Act.put, List.setIfInBounds_toArray, List.set_cons_zero, List.set_cons_succ]
      refine tk 2 ⟨some 91, .move (.tmp 9), 29, _, _, some (1, true)⟩ ?vq9 rfl (by kernel_rfl) (.inl ⟨by rfl, ?hq9⟩) ?rq9
      case hq9 => intro W hSw; go_simp; (try with_reducible rfl)
      try simp only [Act.put, List.setIfInBounds_toArray, List.set_cons_zero, List.set_cons_succ]
      refine tk 3 ⟨some 92, .move (.tmp 3), 3, _, _, some (1, true)⟩ ?vq10 rfl (by kernel_rfl) (.inl ⟨by rfl, ?hq10⟩) ?rq10
      case hq10 => intro W hSw; go_simp; (try with_reducible rfl)
      try simp only [Act.put, List.setIfInBounds_toArray, List.set_cons_zero, List.set_cons_succ]
      refine tk 5 ⟨some 94, .load 46 (.tmp 13), 46, _, _, some (1, true)⟩ ?vq11 rfl (by kernel_rfl) (.inl ⟨by rfl, ?hq11⟩) ?rq11
      case hq11 => intro W hSw; (try obtain ⟨r0, r1, r2, r3⟩ := HC5.out W hSw); go_simp; (try with_reducible rfl)
      try simp only [Act.put, List.setIfInBounds_toArray, List.set_cons_zero, List.set_cons_succ]
      refine tk 6 ⟨some 95, .move (.tmp 3), 3, _, _, some (1, true)⟩ ?vq12 rfl (by kernel_rfl) (.inl ⟨by rfl, ?hq12⟩) ?rq12
      case hq12 => intro W hSw; go_simp; (try with_reducible rfl)
      try simp only [Act.put, List.setIfInBounds_toArray, List.set_cons_zero, List.set_cons_succ]
      refine tk 7 ⟨some 96, .move (.tmp 11), 33, _, _, some (1, true)⟩ ?vq13 rfl (by kernel_rfl) (.inl ⟨by rfl, ?hq13⟩) ?rq13
      case hq13 => intro W hSw; go_simp; (try with_reducible rfl)
      try simp only [Act.put, List.setIfInBounds_toArray, List.set_cons_zero, List.set_cons_succ]
      refine wpAnyH_ready (rs := [4]) (by kernel_rfl) (by simp) ?_
      refine AllReadyH.cons (o := ⟨some 93, .call ⟨.value (.func 14), #[.tmp 91, .tmp 92], #[29, 3]⟩, 34, _, _, some (1, true)⟩) rfl (fun K hK => ?_) AllReadyH.nil
      go_simp
      go_wp2_with (first | (go_at_call 14; refine (HR5.out _ hHeld).mono ?_; rintro r wb ⟨⟨Ar, cr, rfl, rr⟩, bb⟩))
      have rr := Lib.hid rr
      refine hK.out _ _ (hHeld.trans (Fr.b0 bb) (fun _ h => h.elim)) (fun hHeld => ?_)
      clear hK K
      try simp only [Act.put, List.setIfInBounds_toArray, List.set_cons_zero, List.set_cons_succ]
      refine wpAnyH_ready (rs := [8]) (by kernel_rfl) (by simp) ?_
      refine AllReadyH.cons (o := ⟨some 97, .call ⟨.value (.func 15), #[.tmp 94, .tmp 95, .tmp 96], #[46, 3, 33]⟩, 34, _, _, some (1, true)⟩) rfl (fun K hK => ?_) AllReadyH.nil
      go_simp
      go_wp2_with (first | (go_at_call 15; refine (HV5.out _ hHeld).mono ?_; rintro r wc ⟨⟨Av, cv, rfl, rv⟩, bc⟩))
      have rv := Lib.hid rv
      refine hK.out _ _ (hHeld.trans (Fr.b0 bc) (fun _ h => h.elim)) (fun hHeld => ?_)
      clear hK K
      try simp only [Act.put, List.setIfInBounds_toArray, List.set_cons_zero, List.set_cons_succ]
      refine wpAnyH_ready (rs := [9]) (by kernel_rfl) (by simp) ?_
      refine AllReadyH.cons (o := ⟨some 98, .call ⟨.value (.func 13), #[.tmp 93, .tmp 97], #[34, 34]⟩, 4, _, _, some (1, true)⟩) rfl (fun K hK => ?_) AllReadyH.nil
      go_simp
      go_wp2_with (first | (go_at_call 13; refine (samerecs_eq LV Ar LV.length cr Av cv _ (rr.out.below bc) rv.out (by have := HLen.out; omega)).mono ?_; rintro r wd ⟨rfl, bd⟩))
      refine hK.out _ _ (hHeld.trans (Fr.b0 bd) (fun _ h => h.elim)) (fun hHeld => ?_)
      clear hK K
      try simp only [Act.put, List.setIfInBounds_toArray, List.set_cons_zero, List.set_cons_succ]
      refine tk 10 ⟨some 99, .pick (.tmp 90) (.tmp 98) (.const (.bool false)), 4, _, _, none⟩ ?vq14 rfl (by kernel_rfl) (.inl ⟨by rfl, ?hq14⟩) ?rq14
      case hq14 => intro W hSw; go_simp; (try with_reducible rfl)
      try simp only [Act.put, List.setIfInBounds_toArray, List.set_cons_zero, List.set_cons_succ]
      refine tk 11 ⟨some 8, .assign (.tmp 99), 4, _, _, none⟩ ?vq15 rfl (by kernel_rfl) (.inl ⟨by rfl, ?hq15⟩) ?rq15
      case hq15 => intro W hSw; (try obtain ⟨r0, r1, r2, r3⟩ := HC5.out W hSw); go_simp; (try with_reducible rfl)
      try simp only [Act.put, List.setIfInBounds_toArray, List.set_cons_zero, List.set_cons_succ]
      refine wpAnyH_done (by kernel_rfl) ?_ _
      go_wp2_with fail
      go_ret
      exact ⟨rfl, Ho.out.trans ((F5.out.trans hHeld (fun _ h => h.elim)).below_of Ho.out.size (fun _ h => h.elim))⟩
end Go.Proofs.YtlhhcancfgjfkaaGreat
