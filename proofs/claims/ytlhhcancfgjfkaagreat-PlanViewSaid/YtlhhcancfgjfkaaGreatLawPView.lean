/- PlanView's walk: what a plan builds is just what an empty store under the new policy has of all samples that ever came. -/
import Derived.Test.YtlhhcancfgjfkaaGreatAlive
import Derived.Test.YtlhhcancfgjfkaaGreatTioS
import Derived.Test.YtlhhcancfgjfkaaGreatRefViewB
import Derived.Test.YtlhhcancfgjfkaaGreatTioR
import Derived.Test.YtlhhcancfgjfkaaGreatOpC
import Derived.Test.YtlhhcancfgjfkaaGreatFills
import Derived.Test.YtlhhcancfgjfkaaGreatSame
import Derived.Test.YtlhhcancfgjfkaaGreatTk
namespace Go.Proofs.YtlhhcancfgjfkaaGreat
set_option linter.all false
open Go.RowKit

theorem Blk.set4 {w : World} {g : Nat} {t : TypeId} {a0 b0 c0 d0 a b c d : Value} (h : Blk w g t #[a0, b0, c0, d0]) : Blk ((((w.setCell ⟨g, 0, none⟩ a).setCell ⟨g, 1, none⟩ b).setCell ⟨g, 2, none⟩ c).setCell ⟨g, 3, none⟩ d) g t #[a, b, c, d] := by
  have := (((h.set_ 0 a).set_ 1 b).set_ 2 c).set_ 3 d
  simpa using this
theorem Fr.set4 {w1 w : World} {F : Nat → Prop} (h : Fr F w1 w) {g : Nat} (hg : F g ∨ w1.heap.size ≤ g) (a b c d : Value) : Fr F w1 ((((w.setCell ⟨g, 0, none⟩ a).setCell ⟨g, 1, none⟩ b).setCell ⟨g, 2, none⟩ c).setCell ⟨g, 3, none⟩ d) :=
  (h.set3 hg a b c).setCell (p := ⟨g, 3, none⟩) hg d
set_option maxRecDepth 100000 in
set_option maxHeartbeats 6000000 in
theorem pview_walk (nm : ByteArray) (l : List TierV) (A : Option Addr) (n c : Nat) (now : Int) (ops : List OpC) (B : Option Addr) (m d : Nat) (nm2 : ByteArray) (lt : List TierV) (A2 : Option Addr) (n2 c2 : Nat) (w : World) (hnm : nm.size ≤ maxLen) (hr : Rd w 4 A n (tcells l)) (hnc : n ≤ c) (hn9 : n ≤ 9223372036854775807) (hwf : ∀ t ∈ l, t.wf) (hnow : -9223372036854775808 ≤ now ∧ now ≤ 9223372036854775807) (hs : Rd w 4 B m (opcells ops)) (hm9 : m ≤ 9223372036854775807) (hok : ∀ o ∈ ops, o.ok w) (hnm2 : nm2.size ≤ maxLen) (hr2 : Rd w 4 A2 n2 (tcells lt)) (hnc2 : n2 ≤ c2) (hn92 : n2 ≤ 9223372036854775807) (hwf2 : ∀ t ∈ lt, t.wf) :
    Calls Tryz.prog 4 #[.agg #[.string nm, .slice A n c], .agg #[.string nm2, .slice A2 n2 c2], .int .i64 now, .slice B m d] w fun e w' => e = .returned (.bool true) ∧ Below w.heap.size w w' := by
  have Hr := Lib.hid hr
  have Hll := Lib.hid hr.tiers_len
  have Hr2 := Lib.hid hr2
  have Hll2 := Lib.hid hr2.tiers_len
  have HAl := Lib.hid alive13_any
  have HSm : Hid (∀ W, Fr (fun _ => False) w W → Calls Tryz.prog 7 #[.agg #[.string nm, .slice A n c]] W fun r w' => SmallR nm n r ∧ Below W.heap.size W w') := fun W f => bsmall_any nm l A n c W (hr.fr0 f) hn9 hnm (fun t h => (hwf t h).2.2.2)
  have HLi : Hid (∀ W, Fr (fun _ => False) w W → Calls Tryz.prog 8 #[.slice B m d] W fun r w' => LightR m r ∧ W = w') := fun W f => light_any ops B m d W (hs.fr0 f) (fun o h => (hok o h).below (f.below (fun _ h => h.elim))) hm9
  have HN : Hid (∀ W, n ≤ 10 → Fr (fun _ => False) w W → Calls Tryz.prog 10 #[.agg #[.string nm, .slice A n c], .int .i64 now, .slice none 0 0] W fun r w' => ((newE nm l now [] = 0 → PolOk nm l ∧ ∃ t F, r = .returned (.tuple #[.pointer (some ⟨t, 0, none⟩), .int .i64 0]) ∧ Tio nm l [] w.heap.size w' t (newX nm l now []) F 0 ∧ ∀ j, F j → W.heap.size ≤ j) ∧ (newE nm l now [] ≠ 0 → r = .returned (.tuple #[.pointer none, .int .i64 (newE nm l now [])]))) ∧ Below W.heap.size W w') := fun W h10 f => tio_new hnm hwf A n c now hnow w.heap.size W f.size (hr.fr0 f) hnc (by omega)
  have Hs := Lib.hid hs
  have Hln := Lib.hid hs.ops_len
  have Hok := Lib.hid hok
  have Hwf := Lib.hid hwf
  have HSm2 : Hid (∀ W, Fr (fun _ => False) w W → Calls Tryz.prog 7 #[.agg #[.string nm2, .slice A2 n2 c2]] W fun r w' => SmallR nm2 n2 r ∧ Below W.heap.size W w') := fun W f => bsmall_any nm2 lt A2 n2 c2 W (hr2.fr0 f) hn92 hnm2 (fun t h => (hwf2 t h).2.2.2)
  have Hwf2 := Lib.hid hwf2
  have F0 : Hid (Fr (fun _ => False) w ((w.alloc (.cells #[.string nm, .slice A n c] 24)).alloc (.cells #[.string nm2, .slice A2 n2 c2] 24))) := (Fr.none_alloc w _).trans (Fr.none_alloc _ _) (fun _ h => h.elim)
  have B0 := Lib.hid ((Blk.new w 24 #[.string nm, .slice A n c]).alloc (.cells #[.string nm2, .slice A2 n2 c2] 24))
  have B02 := Lib.hid (Blk.new' (w := w.alloc (.cells #[.string nm, .slice A n c] 24)) (k := w.heap.size + 1) (by simp) 24 #[.string nm2, .slice A2 n2 c2])
  clear hr hwf hs hok hr2 hwf2
  go_enter Tryz.func4, Tryz.ntmps4
  go_wp2_with fail
  refine (HSm.out _ F0.out).mono ?_
  rintro r wa ⟨⟨b, rfl, hb⟩, ba⟩
  have Fa := Lib.hid (F0.out.trans (Fr.b0 ba) (fun _ h => h.elim))
  have Ba := Lib.hid (B0.out.fr (Fr.b0 ba) (fun h => h))
  have Ba2 := Lib.hid (B02.out.fr (Fr.b0 ba) (fun h => h))
  clear ba HSm
  have q0 := Ba.out.cell 0
  have q1 := Ba.out.cell 1
  have q2 := Ba2.out.cell 0
  have q3 := Ba2.out.cell 1
  simp only [List.getElem?_toArray, List.getElem?_cons_succ, List.getElem?_cons_zero] at q0 q1 q2 q3
  cases b with
  | false =>
    clear hb
    go_wp2_with fail
    refine (HAl.out _).mono ?_
    rintro r wq ⟨rfl, bq⟩
    go_wp2_with fail
    go_ret
    exact ⟨rfl, (Fa.out.trans (Fr.b0 bq) (fun _ h => h.elim)).below (fun _ h => h.elim)⟩
  | true =>
  have h10 := (hb rfl).1
  clear hb
  go_wp2_with fail
  refine (HSm2.out _ Fa.out).mono ?_
  rintro r w1 ⟨⟨b, rfl, hb⟩, b1⟩
  have F1 := Lib.hid (Fa.out.trans (Fr.b0 b1) (fun _ h => h.elim))
  have B1 := Lib.hid (Ba.out.fr (Fr.b0 b1) (fun h => h))
  have B12 := Lib.hid (Ba2.out.fr (Fr.b0 b1) (fun h => h))
  clear b1 HSm2
  have q0 := B1.out.cell 0
  have q1 := B1.out.cell 1
  have q2 := B12.out.cell 0
  have q3 := B12.out.cell 1
  simp only [List.getElem?_toArray, List.getElem?_cons_succ, List.getElem?_cons_zero] at q0 q1 q2 q3
  cases b with
  | false =>
    clear hb
    go_wp2_with fail
    refine (HAl.out _).mono ?_
    rintro r wq ⟨rfl, bq⟩
    go_wp2_with fail
    go_ret
    exact ⟨rfl, (F1.out.trans (Fr.b0 bq) (fun _ h => h.elim)).below (fun _ h => h.elim)⟩
  | true =>
  have h102 := (hb rfl).1
  clear hb
  go_wp2_with fail
  refine (HLi.out _ F1.out).mono ?_
  rintro r w2 ⟨⟨b, rfl, hb⟩, rfl⟩
  cases b with
  | false =>
    clear hb
    go_wp2_with fail
    refine (HAl.out _).mono ?_
    rintro r wq ⟨rfl, bq⟩
    go_wp2_with fail
    go_ret
    exact ⟨rfl, (F1.out.trans (Fr.b0 bq) (fun _ h => h.elim)).below (fun _ h => h.elim)⟩
  | true =>
  have h50 : m ≤ 50 := hb rfl
  clear hb HLi
  have p0 := B1.out.cell 0
  have p1 := B1.out.cell 1
  simp only [List.getElem?_toArray, List.getElem?_cons_succ, List.getElem?_cons_zero] at p0 p1
  go_wp2_with fail
  refine (HN.out _ h10 F1.out).mono ?_
  rintro r w3 ⟨⟨h1, h2⟩, b3⟩
  have F3 := Lib.hid (F1.out.trans (Fr.b0 b3) (fun _ h => h.elim))
  have B3 := Lib.hid (B1.out.fr (Fr.b0 b3) (fun h => h))
  have B32 := Lib.hid (B12.out.fr (Fr.b0 b3) (fun h => h))
  clear b3 p0 p1
  by_cases hE : newE nm l now [] = 0
  case neg =>
    obtain rfl := h2 hE
    clear h1 h2 HN
    obtain ⟨E, hEq⟩ : ∃ E, newE nm l now [] = E := ⟨_, rfl⟩
    rw [hEq] at hE ⊢
    have hE2 : (E == 0) = false := by simpa using hE
    have hE3 : decide (E = 0) = false := decide_eq_false hE
    clear hEq
    go_wp2_with fail
    refine (HAl.out _).mono ?_
    rintro r wq ⟨rfl, bq⟩
    go_wp2_with fail
    go_ret
    exact ⟨rfl, (F3.out.trans (Fr.b0 bq) (fun _ h => h.elim)).below (fun _ h => h.elim)⟩
  case pos =>
  obtain ⟨p, t, F, rfl, T3, hF⟩ := h1 hE
  have P := Lib.hid p
  have HT3 := Lib.hid T3
  have HFl : Hid (∀ j, F j → w.heap.size < j) := fun j hj => by
    have h1 := hF j hj
    have h2 := B1.out.lt
    omega
  have HFl2 : Hid (∀ j, F j → w.heap.size + 1 < j) := fun j hj => by
    have h1 := hF j hj
    have h2 := B12.out.lt
    omega
  have HG : Hid ((newX nm l now []).now = now) := rfl
  clear h1 h2 HN hF p T3
  obtain ⟨X0, hX0⟩ : ∃ X0, newX nm l now [] = X0 := ⟨_, rfl⟩
  have HV0 : Hid (ViewX X0 []) := by show ViewX _ _; rw [← hX0]; exact ViewX.new nm l now []
  rw [hX0] at HT3
  clear hX0 hE HG
  go_wp2_with fail
  have HO0 : Hid (w3.ownsRow w3.heap.size 103 3 (.slice none 0 0) 0 (scells [])) := World.ownsRow_nil _ _ _ _
  obtain ⟨i0, hi, hz0, hz1, hz2⟩ := info_parts info_samp
  go_loopw [11, 12] (fun s11 s12 wr => ∃ (k : Nat) (X : TiersX) (all : List SampV) (A' : Option Addr) (n' c' : Nat), k ≤ m ∧ s12 = .int .i64 k ∧ s11 = .slice A' n' c' ∧ wr.ownsRow w3.heap.size 103 3 (.slice A' n' c') n' (scells all) ∧ n' ≤ k * 8 ∧ (∀ y ∈ all, y.wf) ∧ ViewX X all ∧ Tio nm l [] w.heap.size wr t X F (k * 8) ∧ Fr F w3 wr ∧ Below w.heap.size w wr) (fun _ s12 _ => m - (intOf s12).toNat)
  case atStart => exact ⟨0, X0, [], none, 0, 0, Nat.zero_le _, rfl, rfl, HO0.out, Nat.le_refl _, (fun _ h => by cases h), HV0.out, HT3.out, Fr.refl _ _, F3.out.below (fun _ h => h.elim)⟩
  case round =>
    obtain ⟨k, X, all, A', n', c', hk, rfl, rfl, hown, hn8, hwa, hv, hT, hfr, ho⟩ := hrel
    have HT := Lib.hid hT
    have Ho := Lib.hid ho
    have HF := Lib.hid hfr
    have HV := Lib.hid hv
    have HOw := Lib.hid hown
    have Hwa := Lib.hid hwa
    clear hT ho hfr hv hown hwa HO0
    by_cases hlt : k < m
    · have hkw : IntKind.i64.wrap ((k : Int) + 1) = (k : Int) + 1 := by simp [IntKind.wrap, IntKind.signed, IntKind.bits]; omega
      obtain ⟨ad, o, rfl, hy, a0, a1, a2, a3⟩ := (Hs.out.below Ho.out).op_ hlt
      have HO := Lib.hid ((Hok.out o (mem_of_get hy)).below Ho.out)
      have HPk := Lib.hid (tio_put P.out HT.out (by omega) o.sl o.sa o.sn o.sc HO.out.s HO.out.swf)
      have HKk := Lib.hid (tio_tick P.out HT.out (by omega) o.n HO.out.n)
      have HCk : Hid (∀ W, Below w.heap.size w W → W.cell? (ad.add (k * 4)) = some (.int .i64 o.kind) ∧ W.cell? ⟨(ad.add (k * 4)).block, (ad.add (k * 4)).off + 1, none⟩ = some (.int .i64 o.n) ∧ W.cell? ⟨(ad.add (k * 4)).block, (ad.add (k * 4)).off + 2, none⟩ = some (.slice o.sa o.sn o.sc) ∧ Rd W 3 o.sa o.sn (scells o.sl)) := fun W b => by
        obtain ⟨ad', o', e, ho', c0, c1, c2, _⟩ := (Hs.out.below b).op_ hlt
        injection e with e
        subst e
        rw [hy] at ho'
        cases ho'
        exact ⟨c0, c1, c2, ((Hok.out o (mem_of_get hy)).below b).s⟩
      have HVp : Hid (putE X o.sl = 0 → ViewX (putX X o.sl) (all ++ o.sl)) := fun h => HV.out.put h
      have HVn : Hid (putE X o.sl ≠ 0 → putX X o.sl = X) := fun h => by unfold putX; rw [if_neg h]
      have HVt : Hid (ViewX (tickX X o.n) all) := HV.out.tick (fun x hx => by rw [HT.out.good.tiers] at hx; have := check_mem P.out.ck hx; exact ⟨this.2.2.2.1, this.2.1⟩) HT.out.good.now.1 o.n
      have H8 : Hid (putE X o.sl = 0 → o.sn ≤ 8) := fun h => by rw [← HO.out.slen]; exact putE_eight h
      have Hsw := Lib.hid HO.out.swf
      clear hy HO
      obtain ⟨kd, nn, sl, sa, sn, sc, E, E2, hkd, hnn, h1, h2a, h2b, h2c, hE, hE2⟩ : ∃ kd, ∃ (nn : Int) (sl : List SampV) (sa : Option Addr) (sn sc : Nat) (E E2 : Int), o.kind = kd ∧ o.n = nn ∧ o.sl = sl ∧ o.sa = sa ∧ o.sn = sn ∧ o.sc = sc ∧ putE X o.sl = E ∧ tickE X o.n = E2 := ⟨_, _, _, _, _, _, _, _, rfl, rfl, rfl, rfl, rfl, rfl, rfl, rfl⟩
      rw [h2a, h2b, h2c] at HPk a2 HCk
      rw [hkd] at a0 HCk
      rw [hE] at HPk HVp HVn H8
      rw [h1] at HPk HVp HVn HCk Hsw
      rw [h2b] at H8
      rw [hE2] at HKk
      rw [hnn] at HKk a1 HCk HVt
      clear hkd hnn h1 h2a h2b h2c hE hE2
      by_cases hk1 : kd = 1
      · subst hk1
        by_cases hz : E = 0
        · subst hz
          have HVq := Lib.hid (HVp.out (by trivial))
          have hsn := H8.out (by trivial)
          clear HVp HVn H8 HVt HKk
          go_wp2_with fail
          refine HPk.out.mono ?_
          rintro r w6 ⟨rfl, T6, f6⟩
          have HT6 := Lib.hid (T6.more (d := (k + 1) * 8) (by omega))
          have O6 : Hid (Below w.heap.size w w6) := Ho.out.trans (HT.out.below Ho.out.size f6)
          have F6 : Hid (Fr F w3 w6) := HF.out.trans f6 (fun _ h => .inl h)
          have Ow6 := Lib.hid (HT.out.rowS HOw.out f6)
          clear T6 f6 HPk a0 a1 a2 a3
          obtain ⟨a0, a1, a2, rs6⟩ := HCk.out w6 O6.out
          have Rs6 := Lib.hid rs6
          clear rs6
          go_wp2_with (at_builtin; refine wpList_app2 rfl _ _ 33 rfl 103 i0 _ 3 32 Tryz.underlying33 hi hz0 hz1 hz2 rfl (by decide) (.slice A' n' c') n' (scells all) rfl w3.heap.size F6.out.size Ow6.out sa sn sc (scells sl) rfl Rs6.out (scells_one sl) ?q1 ?q2 ?_)
          case q1 => unfold maxLen; omega
          case q2 => omega
          intro A7 c7 w7 ho7 hm7 _
          have e7 : scells all ++ scells sl = scells (all ++ sl) := by unfold scells; rw [List.flatMap_append]
          rw [e7] at ho7
          have Ow7 := Lib.hid ho7
          have HT7 := Lib.hid (HT6.out.frS hm7.fr (fun j hj => own_ty Ow6.out hj))
          have F7 : Hid (Fr F w3 w7) := F6.out.trans hm7.fr (fun i hi => .inr (Ow6.out.lt i hi).1)
          have O7 : Hid (Below w.heap.size w w7) := O6.out.trans (hm7.fr.below_of O6.out.size (fun i hi => Nat.le_trans F3.out.size (Ow6.out.lt i hi).1))
          have Hw7 : Hid (∀ y ∈ all ++ sl, y.wf) := fun y hy => by
            rcases List.mem_append.1 hy with hy | hy
            · exact Hwa.out y hy
            · exact Hsw.out y hy
          clear ho7 hm7 e7 a0 a1 a2
          obtain ⟨a0, a1, a2, _⟩ := HCk.out w7 O7.out
          go_wp2_with fail
          go_roundw
          case rel => exact ⟨k + 1, _, all ++ sl, A7, n' + sn, c7, by omega, by go_num, rfl, Ow7.out, by omega, Hw7.out, HVq.out, HT7.out, F7.out, O7.out⟩
          case measure => simp [intOf]; omega
        · have hz2 : (E == 0) = false := by simpa using hz
          have hz3 : decide (E = 0) = false := decide_eq_false hz
          have hX := HVn.out hz
          rw [hX] at HPk
          clear HVp HVn H8 HVt HKk hX
          go_wp2_with fail
          refine HPk.out.mono ?_
          rintro r w6 ⟨rfl, T6, f6⟩
          have HT6 := Lib.hid (T6.more (d := (k + 1) * 8) (by omega))
          have O6 : Hid (Below w.heap.size w w6) := Ho.out.trans (HT.out.below Ho.out.size f6)
          have F6 : Hid (Fr F w3 w6) := HF.out.trans f6 (fun _ h => .inl h)
          have Ow6 := Lib.hid (HT.out.rowS HOw.out f6)
          clear T6 f6 HPk a0 a1 a2 a3
          obtain ⟨a0, a1, a2, _⟩ := HCk.out w6 O6.out
          go_wp2_with fail
          go_roundw
          case rel => exact ⟨k + 1, X, all, A', n', c', by omega, by go_num, rfl, Ow6.out, by omega, Hwa.out, HV.out, HT6.out, F6.out, O6.out⟩
          case measure => simp [intOf]; omega
      · have hk2 : (kd == 1) = false := by simpa using hk1
        have hk3 : decide (kd = 1) = false := decide_eq_false hk1
        by_cases hk4 : kd = 2
        · subst hk4
          clear HPk HVp HVn H8
          go_wp2_with fail
          refine HKk.out.mono ?_
          rintro r w6 ⟨rfl, T6, f6⟩
          have HT6 := Lib.hid (T6.more (d := (k + 1) * 8) (by omega))
          have O6 : Hid (Below w.heap.size w w6) := Ho.out.trans (HT.out.below Ho.out.size f6)
          have F6 : Hid (Fr F w3 w6) := HF.out.trans f6 (fun _ h => .inl h)
          have Ow6 := Lib.hid (HT.out.rowS HOw.out f6)
          clear T6 f6 HKk a0 a1 a2 a3
          go_wp2_with fail
          go_roundw
          case rel => exact ⟨k + 1, _, all, A', n', c', by omega, by go_num, rfl, Ow6.out, by omega, Hwa.out, HVt.out, HT6.out, F6.out, O6.out⟩
          case measure => simp [intOf]; omega
        · have hk5 : (kd == 2) = false := by simpa using hk4
          have hk6 : decide (kd = 2) = false := decide_eq_false hk4
          have HT6 := Lib.hid (HT.out.more (d := (k + 1) * 8) (by omega))
          clear HPk HKk HVp HVn H8 HVt
          go_wp2_with fail
          go_roundw
          case rel => exact ⟨k + 1, X, all, A', n', c', by omega, by go_num, rfl, HOw.out, by omega, Hwa.out, HV.out, HT6.out, HF.out, Ho.out⟩
          case measure => simp [intOf]; omega
    · obtain rfl : m = k := by omega
      have BPr : Hid (Blk wr w.heap.size 24 #[.string nm, .slice A n c]) := B3.out.fr HF.out (fun h => absurd (HFl.out _ h) (Nat.lt_irrefl _))
      have BPs : Hid (Blk wr (w.heap.size + 1) 24 #[.string nm2, .slice A2 n2 c2]) := B32.out.fr HF.out (fun h => absurd (HFl2.out _ h) (Nat.lt_irrefl _))
      have hX0 : 0 ≤ X.now ∧ X.now ≤ 1099511627776 := HT.out.good.now
      obtain ⟨tA, tc, tB, td, hR⟩ := HT.out.reach
      obtain ⟨W0, hW0⟩ : ∃ W0, W0 = wr := ⟨_, rfl⟩
      rw [← hW0] at hR BPr BPs HT Ho HF HOw ⊢
      clear hW0
      have hlen : l.length = n := Hll.out
      have hlen2 : lt.length = n2 := Hll2.out
      have hXt : X.tiers = l := HT.out.good.tiers
      have hXf : X.floors = [] := HT.out.good.floors
      have Rall := Lib.hid (own_any HOw.out).2.2.1
      have HRp : Hid (∀ W, Fr (fun _ => False) W0 W → Rd W 4 A n (tcells l)) := fun W f => Hr.out.below (Ho.out.trans (f.below_of Ho.out.size (fun _ h => h.elim)))
      have HRp2 : Hid (∀ W, Fr (fun _ => False) W0 W → Rd W 4 A2 n2 (tcells lt)) := fun W f => Hr2.out.below (Ho.out.trans (f.below_of Ho.out.size (fun _ h => h.elim)))
      have HC0 : Hid (∀ W, Fr (fun _ => False) W0 W → W.cell? ⟨w.heap.size, 0, none⟩ = some (.string nm) ∧ W.cell? ⟨w.heap.size, 1, none⟩ = some (.slice A n c) ∧ W.cell? ⟨w.heap.size + 1, 0, none⟩ = some (.string nm2) ∧ W.cell? ⟨w.heap.size + 1, 1, none⟩ = some (.slice A2 n2 c2) ∧ W.cell? ⟨t, 0, none⟩ = some (.int .i64 X.now) ∧ W.cell? ⟨t, 1, none⟩ = some (.string nm) ∧ W.cell? ⟨t, 2, none⟩ = some (.slice tA n tc) ∧ W.cell? ⟨t, 3, none⟩ = some (.slice tB 0 td)) := fun W f => by
        have b := BPr.out.fr f (fun h => h)
        have b2 := BPs.out.fr f (fun h => h)
        have h := hR.fr0 f
        have h2 := h.c2
        rw [hlen] at h2
        exact ⟨b.cell 0, b.cell 1, b2.cell 0, b2.cell 1, h.c0, h.c1, h2, h.c3⟩
      have HR0 := Lib.hid hR
      obtain ⟨x0, hx0⟩ : ∃ v, X.now = v := ⟨_, rfl⟩
      rw [hx0] at HC0 hX0 HR0
      cases hck2 : checkB nm2 lt with
      | false =>
        have HMk : Hid (∀ W, Fr (fun _ => False) W0 W → Calls Tryz.prog 17 #[.agg #[.string nm, .slice A n c], .agg #[.int .i64 x0, .string nm, .slice tA n tc, .slice tB 0 td], .agg #[.string nm2, .slice A2 n2 c2]] W fun r w' => r = .returned (.tuple #[.agg #[.string ByteArray.empty, .slice none 0 0, .slice none 0 0], .int .i64 23]) ∧ Below W.heap.size W w') := fun W f =>
          make_bad nm l A n c x0 nm tA n tc tB 0 td nm2 lt A2 n2 c2 W (HRp.out W f) hnc (HRp2.out W f) hnc2 Hwf.out Hwf2.out hnm hnm2 (by rw [hck2, Bool.and_false])
        clear hck2 hx0 hR hXt hXf HV HT BPr BPs HR0
        go_wp2_with fail
        go_cut [13, 14] (fun s13 s14 wx => (∃ g, s13 = .pointer (some ⟨g, 0, none⟩)) ∧ s14 = .int .i64 23 ∧ Fr (fun _ => False) W0 wx)
        case first =>
          refine wp_region_held_drew (S := fun W => Fr (fun _ => False) W0 W) (by kernel_rfl) ((Fr.refl _ W0).drew) (fun hHeld => ?_)
          refine tk 0 ⟨some 89, .load 24 (.tmp 4), 24, _, _, none⟩ ?vq16 rfl (by kernel_rfl) (.inl ⟨by rfl, ?hq16⟩) ?rq16
          case hq16 => intro W hSw; (try obtain ⟨p0, p1, p2, p3, t0, t1, t2, t3⟩ := HC0.out W hSw); go_simp; (try with_reducible rfl)
          refine tk 1 ⟨some 90, .move (.tmp 9), 29, _, _, none⟩ ?vq17 rfl (by kernel_rfl) (.inl ⟨by rfl, ?hq17⟩) ?rq17
          case hq17 => intro W hSw; go_simp; (try with_reducible rfl)
          refine tk 2 ⟨some 91, .nilCheck (.tmp 90), 0, _, _, none⟩ ?vq18 rfl (by kernel_rfl) (.inl ⟨by rfl, ?hq18⟩) ?rq18
          case hq18 => intro W hSw; go_simp; (try with_reducible rfl)
          refine tk 3 ⟨some 92, .fieldAddr 44 (.tmp 91) 0, 0, _, _, none⟩ ?vq19 rfl (by kernel_rfl) (.inl ⟨by rfl, ?hq19⟩) ?rq19
          case hq19 => intro W hSw; go_simp; (try with_reducible rfl)
          refine tk 4 ⟨some 93, .load 41 (.tmp 92), 41, _, _, none⟩ ?vq20 rfl (by kernel_rfl) (.inl ⟨by rfl, ?hq20⟩) ?rq20
          case hq20 => intro W hSw; (try obtain ⟨p0, p1, p2, p3, t0, t1, t2, t3⟩ := HC0.out W hSw); go_simp; (try with_reducible rfl)
          refine tk 5 ⟨some 94, .load 24 (.tmp 5), 24, _, _, none⟩ ?vq21 rfl (by kernel_rfl) (.inl ⟨by rfl, ?hq21⟩) ?rq21
          case hq21 => intro W hSw; (try obtain ⟨p0, p1, p2, p3, t0, t1, t2, t3⟩ := HC0.out W hSw); go_simp; (try with_reducible rfl)
          try simp only [Act.put, List.setIfInBounds_toArray, List.set_cons_zero, List.set_cons_succ]
          refine wpAnyH_ready (rs := [6, 10]) (by kernel_rfl) (by simp) ?_
          refine AllReadyH.cons (o := ⟨some 95, .call ⟨.value (.func 17), #[.tmp 89, .tmp 93, .tmp 94], #[24, 41, 24]⟩, 53, _, _, none⟩) rfl (fun K hK => ?_) ?_
          · go_simp
            go_wp2_with (first | (go_at_call 17; refine (HMk.out _ hHeld).mono ?_; rintro r wm ⟨rfl, b5⟩))
            refine hK.out _ _ (hHeld.trans (Fr.b0 b5) (fun _ h => h.elim)) (fun hHeld => ?_)
            clear hK K
            refine tk 7 ⟨some 88, .move (.tmp 95), 53, _, _, none⟩ ?vq22 rfl (by kernel_rfl) (.inl ⟨by rfl, ?hq22⟩) ?rq22
            case hq22 => intro W hSw; go_simp; (try with_reducible rfl)
            refine tk 8 ⟨some 96, .extract (.tmp 88) 0, 52, _, _, none⟩ ?vq23 rfl (by kernel_rfl) (.inl ⟨by rfl, ?hq23⟩) ?rq23
            case hq23 => intro W hSw; (try obtain ⟨p0, p1, p2, p3, t0, t1, t2, t3⟩ := HC0.out W hSw); go_simp; (try with_reducible rfl)
            refine tk 9 ⟨some 97, .extract (.tmp 88) 1, 30, _, _, none⟩ ?vq24 rfl (by kernel_rfl) (.inl ⟨by rfl, ?hq24⟩) ?rq24
            case hq24 => intro W hSw; (try obtain ⟨p0, p1, p2, p3, t0, t1, t2, t3⟩ := HC0.out W hSw); go_simp; (try with_reducible rfl)
            try simp only [Act.put, List.setIfInBounds_toArray, List.set_cons_zero, List.set_cons_succ]
            refine wpAnyH_ready (rs := [10]) (by kernel_rfl) (by simp) ?_
            refine AllReadyH.cons (o := ⟨some 13, .alloc 52, 0, _, _, none⟩) rfl (fun K hK => ?_) AllReadyH.nil
            go_simp
            have hHm := hHeld
            refine hK.out _ _ (hHm.trans (Fr.none_alloc _ _) (fun _ h => h.elim)) (fun hHeld => ?_)
            clear hK K
            try simp only [Act.put, List.setIfInBounds_toArray, List.set_cons_zero, List.set_cons_succ]
            refine wpAnyH_ready (rs := [11]) (by kernel_rfl) (by simp) ?_
            refine AllReadyH.cons (o := ⟨none, .store 52 (.tmp 13) (.tmp 96), 0, _, _, none⟩) rfl (fun K hK => ?_) AllReadyH.nil
            go_simp
            refine hK.out _ _ (hHm.trans (Fr.none_alloc _ _) (fun _ h => h.elim)) (fun hHeld => ?_)
            clear hK K
            refine tk 12 ⟨some 14, .assign (.tmp 97), 30, _, _, none⟩ ?vq25 rfl (by kernel_rfl) (.inl ⟨by rfl, ?hq25⟩) ?rq25
            case hq25 => intro W hSw; (try obtain ⟨p0, p1, p2, p3, t0, t1, t2, t3⟩ := HC0.out W hSw); go_simp; (try with_reducible rfl)
            try simp only [Act.put, List.setIfInBounds_toArray, List.set_cons_zero, List.set_cons_succ]
            refine wpAnyH_done (by kernel_rfl) ?_ _
            go_wp2_with fail
            go_meet
            exact ⟨⟨_, rfl⟩, rfl, hHeld⟩
          refine AllReadyH.cons (o := ⟨some 13, .alloc 52, 0, _, _, none⟩) rfl (fun K hK => ?_) AllReadyH.nil
          go_simp
          have BPz := Lib.hid (Blk.new W0 52 #[.string ByteArray.empty, .slice none 0 0, .slice none 0 0]).drew
          refine hK.out _ _ (by first | exact ((Fr.refl _ W0).alloc _).drew | exact hHeld.alloc _) (fun hHeld => ?_)
          clear hK K
          try simp only [Act.put, List.setIfInBounds_toArray, List.set_cons_zero, List.set_cons_succ]
          refine wpAnyH_ready (rs := [6]) (by kernel_rfl) (by simp) ?_
          refine AllReadyH.cons (o := ⟨some 95, .call ⟨.value (.func 17), #[.tmp 89, .tmp 93, .tmp 94], #[24, 41, 24]⟩, 53, _, _, none⟩) rfl (fun K hK => ?_) AllReadyH.nil
          go_simp
          go_wp2_with (first | (go_at_call 17; refine (HMk.out _ hHeld).mono ?_; rintro r wm ⟨rfl, b5⟩))
          have BPm := Lib.hid (BPz.out.below b5)
          have g0 := BPm.out.frozen 0
          have g1 := BPm.out.frozen 1
          have g2 := BPm.out.frozen 2
          have q0 := BPm.out.cell 0
          have q1 := BPm.out.cell 1
          have q2 := BPm.out.cell 2
          simp only [List.getElem?_toArray, List.getElem?_cons_succ, List.getElem?_cons_zero] at q0 q1 q2
          refine hK.out _ _ (hHeld.trans (Fr.b0 b5) (fun _ h => h.elim)) (fun hHeld => ?_)
          clear hK K
          refine tk 7 ⟨some 88, .move (.tmp 95), 53, _, _, none⟩ ?vq26 rfl (by kernel_rfl) (.inl ⟨by rfl, ?hq26⟩) ?rq26
          case hq26 => intro W hSw; go_simp; (try with_reducible rfl)
          refine tk 8 ⟨some 96, .extract (.tmp 88) 0, 52, _, _, none⟩ ?vq27 rfl (by kernel_rfl) (.inl ⟨by rfl, ?hq27⟩) ?rq27
          case hq27 => intro W hSw; (try obtain ⟨p0, p1, p2, p3, t0, t1, t2, t3⟩ := HC0.out W hSw); go_simp; (try with_reducible rfl)
          refine tk 9 ⟨some 97, .extract (.tmp 88) 1, 30, _, _, none⟩ ?vq28 rfl (by kernel_rfl) (.inl ⟨by rfl, ?hq28⟩) ?rq28
          case hq28 => intro W hSw; (try obtain ⟨p0, p1, p2, p3, t0, t1, t2, t3⟩ := HC0.out W hSw); go_simp; (try with_reducible rfl)
          try simp only [Act.put, List.setIfInBounds_toArray, List.set_cons_zero, List.set_cons_succ]
          refine wpAnyH_ready (rs := [11]) (by kernel_rfl) (by simp) ?_
          refine AllReadyH.cons (o := ⟨none, .store 52 (.tmp 13) (.tmp 96), 0, _, _, none⟩) rfl (fun K hK => ?_) AllReadyH.nil
          go_simp
          refine hK.out _ _ (hHeld.set3 (.inr (Nat.le_refl _)) _ _ _) (fun hHeld => ?_)
          clear hK K
          refine tk 12 ⟨some 14, .assign (.tmp 97), 30, _, _, none⟩ ?vq29 rfl (by kernel_rfl) (.inl ⟨by rfl, ?hq29⟩) ?rq29
          case hq29 => intro W hSw; (try obtain ⟨p0, p1, p2, p3, t0, t1, t2, t3⟩ := HC0.out W hSw); go_simp; (try with_reducible rfl)
          try simp only [Act.put, List.setIfInBounds_toArray, List.set_cons_zero, List.set_cons_succ]
          refine wpAnyH_done (by kernel_rfl) ?_ _
          go_wp2_with fail
          go_meet
          exact ⟨⟨_, rfl⟩, rfl, hHeld⟩
        case rest =>
          obtain ⟨⟨pg, rfl⟩, rfl, hf5⟩ := hcut
          have F5 := Lib.hid hf5
          clear hf5
          go_wp2_with fail
          refine (HAl.out _).mono ?_
          rintro r wz ⟨rfl, bz⟩
          go_wp2_with fail
          go_ret
          exact ⟨rfl, Ho.out.trans ((F5.out.trans (Fr.b0 bz) (fun _ h => h.elim)).below_of Ho.out.size (fun _ h => h.elim))⟩
      | true =>
      have PP : Hid (PolOk nm2 lt) := ⟨hck2, Hwf2.out⟩
      have HMk : Hid (∀ W, Fr (fun _ => False) W0 W → Calls Tryz.prog 17 #[.agg #[.string nm, .slice A n c], .agg #[.int .i64 x0, .string nm, .slice tA n tc, .slice tB 0 td], .agg #[.string nm2, .slice A2 n2 c2]] W fun r w' => (∃ A' c' S cs, r = .returned (.tuple #[.agg #[.string nm2, .slice A' n2 c', .slice S n2 cs], .int .i64 0]) ∧ n2 ≤ c' ∧ ∀ wx, Fr (fun k => k < W.heap.size) w' wx → Rd wx 4 A' n2 (tcells lt) ∧ Rd wx 1 S n2 (ints (srcs x0 l [] lt))) ∧ Below W.heap.size W w') := fun W f => by
        have h := tio_make P.out PP.out hnm hnm2 (HR0.out.fr0 f) hX0 A c (by rw [hlen]; exact HRp.out W f) (by omega) A2 c2 (by rw [hlen2]; exact HRp2.out W f) (by omega)
        simp only [hlen, hlen2] at h
        exact h
      have hbl : (basesV X.now l [] (srcs X.now l [] lt) lt).length = n2 := by
        unfold basesV srcs
        rw [List.length_zipWith, List.length_map, Nat.min_self, hlen2]
      have Hview : Hid (∀ j, j < n2 → (buildX X nm2 lt (srcs X.now l [] lt)).tabs.getD j [] = viewL (buildX X nm2 lt (srcs X.now l [] lt)) j all) := fun j hj => build_view P.out.ck HT.out.good (fun _ h => by cases h) PP.out.ck HV.out (by omega)
      have Hb64 : Hid (∀ f ∈ basesV X.now l [] (srcs X.now l [] lt) lt, 0 ≤ f ∧ f ≤ 4398047511104) := bases_in (X := X) P.out.ck HT.out.good.now (fun _ h => by cases h) PP.out.ck
      have HBu : Hid (∀ W A' c' S cs, Fr (fun _ => False) W0 W → n2 ≤ c' → Rd W 4 A' n2 (tcells lt) → Rd W 1 S n2 (ints (srcs X.now l [] lt)) → Calls Tryz.prog 18 #[.agg #[.string nm2, .slice A' n2 c', .slice S n2 cs], .pointer (some ⟨t, 0, none⟩)] W fun r w' => (∃ t' F', r = .returned (.tuple #[.pointer (some ⟨t', 0, none⟩), .int .i64 0]) ∧ Tio nm2 lt (basesV X.now l [] (srcs X.now l [] lt) lt) w.heap.size w' t' (buildX X nm2 lt (srcs X.now l [] lt)) F' (m * 8) ∧ ∀ j, F' j → W.heap.size ≤ j) ∧ Below W.heap.size W w') := fun W A' c' S cs f hc' hA hS =>
        tio_build P.out PP.out hnm2 (HT.out.fr0 f) (by omega) (fun _ h => by cases h) A' n2 c' S cs hA hc' hS w.heap.size (Nat.le_trans Ho.out.size f.size)
      have HBa : Hid (∀ W A' c' S cs, Fr (fun _ => False) W0 W → Rd W 4 A' n2 (tcells lt) → Rd W 1 S n2 (ints (srcs X.now l [] lt)) → Calls Tryz.prog 19 #[.agg #[.string nm2, .slice A' n2 c', .slice S n2 cs], .agg #[.int .i64 x0, .string nm, .slice tA n tc, .slice tB 0 td]] W fun r w' => (∃ B' d', r = .returned (.slice B' n2 d') ∧ ∀ wx, Fr (fun k => k < W.heap.size) w' wx → Rd wx 1 B' n2 (ints (basesV X.now l [] (srcs X.now l [] lt) lt))) ∧ Below W.heap.size W w') := fun W A' c' S cs f hA hS => by
        have hq := HR0.out.fr0 f
        have hrt := hq.rt
        rw [hlen] at hrt
        rw [hx0] at hS ⊢
        refine (bases_own nm2 lt A' n2 c' (srcs x0 l [] lt) S cs x0 (by unfold i64; omega) nm l tA n tc [] tB 0 td W hA hS hrt hq.rf Hwf2.out Hwf.out (fun _ h => by cases h) (by omega) (by omega)).mono ?_
        rintro r w' ⟨⟨B', d', e, ho⟩, hb⟩
        exact ⟨⟨B', d', e, fun wx fx => (own_any ho).2.2.1.fr fx (fun j hj hj2 => absurd (ho.lt j (adF_row j hj)).1 (Nat.not_le.2 hj2))⟩, hb⟩
      obtain ⟨bs, hbs⟩ : ∃ v, basesV X.now l [] (srcs X.now l [] lt) lt = v := ⟨_, rfl⟩
      obtain ⟨ss, hss⟩ : ∃ v, srcs X.now l [] lt = v := ⟨_, rfl⟩
      obtain ⟨Y, hY⟩ : ∃ v, buildX X nm2 lt (srcs X.now l [] lt) = v := ⟨_, rfl⟩
      have HYn : Hid (Y.now = x0) := by show _ = _; rw [← hY, ← hx0]; rfl
      have hss2 : srcs x0 l [] lt = ss := by rw [← hss, hx0]
      rw [hbs, hY] at HBu
      rw [hY] at Hview
      rw [hbs] at hbl Hb64 HBa
      rw [hss] at HBu HBa
      rw [hss2] at HMk
      have Hbl := Lib.hid hbl
      have Hshort : Hid (∀ L ∈ all, L.wf) := Hwa.out
      clear hx0 hbs hss hY hss2 HV hR hXt hXf hck2 HT BPr BPs hbl
      go_wp2_with fail
      go_cut [13, 14] (fun s13 s14 wx => ∃ (g : Nat) (A' : Option Addr) (c' : Nat) (S : Option Addr) (cs : Nat), s13 = .pointer (some ⟨g, 0, none⟩) ∧ s14 = .int .i64 0 ∧ Blk wx g 52 #[.string nm2, .slice A' n2 c', .slice S n2 cs] ∧ n2 ≤ c' ∧ Rd wx 4 A' n2 (tcells lt) ∧ Rd wx 1 S n2 (ints ss) ∧ Fr (fun _ => False) W0 wx)
      case first =>
        refine wp_region_held_drew (S := fun W => Fr (fun _ => False) W0 W) (by kernel_rfl) ((Fr.refl _ W0).drew) (fun hHeld => ?_)
        refine tk 0 ⟨some 89, .load 24 (.tmp 4), 24, _, _, none⟩ ?vq30 rfl (by kernel_rfl) (.inl ⟨by rfl, ?hq30⟩) ?rq30
        case hq30 => intro W hSw; (try obtain ⟨p0, p1, p2, p3, t0, t1, t2, t3⟩ := HC0.out W hSw); go_simp; (try with_reducible rfl)
        refine tk 1 ⟨some 90, .move (.tmp 9), 29, _, _, none⟩ ?vq31 rfl (by kernel_rfl) (.inl ⟨by rfl, ?hq31⟩) ?rq31
        case hq31 => intro W hSw; go_simp; (try with_reducible rfl)
        refine tk 2 ⟨some 91, .nilCheck (.tmp 90), 0, _, _, none⟩ ?vq32 rfl (by kernel_rfl) (.inl ⟨by rfl, ?hq32⟩) ?rq32
        case hq32 => intro W hSw; go_simp; (try with_reducible rfl)
        refine tk 3 ⟨some 92, .fieldAddr 44 (.tmp 91) 0, 0, _, _, none⟩ ?vq33 rfl (by kernel_rfl) (.inl ⟨by rfl, ?hq33⟩) ?rq33
        case hq33 => intro W hSw; go_simp; (try with_reducible rfl)
        refine tk 4 ⟨some 93, .load 41 (.tmp 92), 41, _, _, none⟩ ?vq34 rfl (by kernel_rfl) (.inl ⟨by rfl, ?hq34⟩) ?rq34
        case hq34 => intro W hSw; (try obtain ⟨p0, p1, p2, p3, t0, t1, t2, t3⟩ := HC0.out W hSw); go_simp; (try with_reducible rfl)
        refine tk 5 ⟨some 94, .load 24 (.tmp 5), 24, _, _, none⟩ ?vq35 rfl (by kernel_rfl) (.inl ⟨by rfl, ?hq35⟩) ?rq35
        case hq35 => intro W hSw; (try obtain ⟨p0, p1, p2, p3, t0, t1, t2, t3⟩ := HC0.out W hSw); go_simp; (try with_reducible rfl)
        try simp only [Act.put, List.setIfInBounds_toArray, List.set_cons_zero, List.set_cons_succ]
        refine wpAnyH_ready (rs := [6, 10]) (by kernel_rfl) (by simp) ?_
        refine AllReadyH.cons (o := ⟨some 95, .call ⟨.value (.func 17), #[.tmp 89, .tmp 93, .tmp 94], #[24, 41, 24]⟩, 53, _, _, none⟩) rfl (fun K hK => ?_) ?_
        · go_simp
          go_wp2_with (first | (go_at_call 17; refine (HMk.out _ hHeld).mono ?_; rintro r wm ⟨⟨A5, c5, S5, cs5, rfl, hc5, rr5⟩, b5⟩))
          have rr5 := Lib.hid rr5
          refine hK.out _ _ (hHeld.trans (Fr.b0 b5) (fun _ h => h.elim)) (fun hHeld => ?_)
          clear hK K
          refine tk 7 ⟨some 88, .move (.tmp 95), 53, _, _, none⟩ ?vq36 rfl (by kernel_rfl) (.inl ⟨by rfl, ?hq36⟩) ?rq36
          case hq36 => intro W hSw; go_simp; (try with_reducible rfl)
          refine tk 8 ⟨some 96, .extract (.tmp 88) 0, 52, _, _, none⟩ ?vq37 rfl (by kernel_rfl) (.inl ⟨by rfl, ?hq37⟩) ?rq37
          case hq37 => intro W hSw; (try obtain ⟨p0, p1, p2, p3, t0, t1, t2, t3⟩ := HC0.out W hSw); go_simp; (try with_reducible rfl)
          refine tk 9 ⟨some 97, .extract (.tmp 88) 1, 30, _, _, none⟩ ?vq38 rfl (by kernel_rfl) (.inl ⟨by rfl, ?hq38⟩) ?rq38
          case hq38 => intro W hSw; (try obtain ⟨p0, p1, p2, p3, t0, t1, t2, t3⟩ := HC0.out W hSw); go_simp; (try with_reducible rfl)
          try simp only [Act.put, List.setIfInBounds_toArray, List.set_cons_zero, List.set_cons_succ]
          refine wpAnyH_ready (rs := [10]) (by kernel_rfl) (by simp) ?_
          refine AllReadyH.cons (o := ⟨some 13, .alloc 52, 0, _, _, none⟩) rfl (fun K hK => ?_) AllReadyH.nil
          go_simp
          have hHm := hHeld
          refine hK.out _ _ (hHm.trans (Fr.none_alloc _ _) (fun _ h => h.elim)) (fun hHeld => ?_)
          clear hK K
          try simp only [Act.put, List.setIfInBounds_toArray, List.set_cons_zero, List.set_cons_succ]
          refine wpAnyH_ready (rs := [11]) (by kernel_rfl) (by simp) ?_
          refine AllReadyH.cons (o := ⟨none, .store 52 (.tmp 13) (.tmp 96), 0, _, _, none⟩) rfl (fun K hK => ?_) AllReadyH.nil
          go_simp
          refine hK.out _ _ (hHm.trans (Fr.none_alloc _ _) (fun _ h => h.elim)) (fun hHeld => ?_)
          clear hK K
          refine tk 12 ⟨some 14, .assign (.tmp 97), 30, _, _, none⟩ ?vq39 rfl (by kernel_rfl) (.inl ⟨by rfl, ?hq39⟩) ?rq39
          case hq39 => intro W hSw; (try obtain ⟨p0, p1, p2, p3, t0, t1, t2, t3⟩ := HC0.out W hSw); go_simp; (try with_reducible rfl)
          try simp only [Act.put, List.setIfInBounds_toArray, List.set_cons_zero, List.set_cons_succ]
          refine wpAnyH_done (by kernel_rfl) ?_ _
          go_wp2_with fail
          go_meet
          exact ⟨wm.heap.size, A5, c5, S5, cs5, rfl, rfl, Blk.new _ _ _, hc5, (rr5.out _ ((Fr.none_alloc _ _).mono (fun _ h => h.elim))).1, (rr5.out _ ((Fr.none_alloc _ _).mono (fun _ h => h.elim))).2, hHeld⟩
        refine AllReadyH.cons (o := ⟨some 13, .alloc 52, 0, _, _, none⟩) rfl (fun K hK => ?_) AllReadyH.nil
        go_simp
        have BPz := Lib.hid (Blk.new W0 52 #[.string ByteArray.empty, .slice none 0 0, .slice none 0 0]).drew
        refine hK.out _ _ (by first | exact ((Fr.refl _ W0).alloc _).drew | exact hHeld.alloc _) (fun hHeld => ?_)
        clear hK K
        try simp only [Act.put, List.setIfInBounds_toArray, List.set_cons_zero, List.set_cons_succ]
        refine wpAnyH_ready (rs := [6]) (by kernel_rfl) (by simp) ?_
        refine AllReadyH.cons (o := ⟨some 95, .call ⟨.value (.func 17), #[.tmp 89, .tmp 93, .tmp 94], #[24, 41, 24]⟩, 53, _, _, none⟩) rfl (fun K hK => ?_) AllReadyH.nil
        go_simp
        go_wp2_with (first | (go_at_call 17; refine (HMk.out _ hHeld).mono ?_; rintro r wm ⟨⟨A5, c5, S5, cs5, rfl, hc5, rr5⟩, b5⟩))
        have rr5 := Lib.hid rr5
        have BPm := Lib.hid (BPz.out.below b5)
        have g0 := BPm.out.frozen 0
        have g1 := BPm.out.frozen 1
        have g2 := BPm.out.frozen 2
        have q0 := BPm.out.cell 0
        have q1 := BPm.out.cell 1
        have q2 := BPm.out.cell 2
        simp only [List.getElem?_toArray, List.getElem?_cons_succ, List.getElem?_cons_zero] at q0 q1 q2
        refine hK.out _ _ (hHeld.trans (Fr.b0 b5) (fun _ h => h.elim)) (fun hHeld => ?_)
        clear hK K
        refine tk 7 ⟨some 88, .move (.tmp 95), 53, _, _, none⟩ ?vq40 rfl (by kernel_rfl) (.inl ⟨by rfl, ?hq40⟩) ?rq40
        case hq40 => intro W hSw; go_simp; (try with_reducible rfl)
        refine tk 8 ⟨some 96, .extract (.tmp 88) 0, 52, _, _, none⟩ ?vq41 rfl (by kernel_rfl) (.inl ⟨by rfl, ?hq41⟩) ?rq41
        case hq41 => intro W hSw; (try obtain ⟨p0, p1, p2, p3, t0, t1, t2, t3⟩ := HC0.out W hSw); go_simp; (try with_reducible rfl)
        refine tk 9 ⟨some 97, .extract (.tmp 88) 1, 30, _, _, none⟩ ?vq42 rfl (by kernel_rfl) (.inl ⟨by rfl, ?hq42⟩) ?rq42
        case hq42 => intro W hSw; (try obtain ⟨p0, p1, p2, p3, t0, t1, t2, t3⟩ := HC0.out W hSw); go_simp; (try with_reducible rfl)
        try simp only [Act.put, List.setIfInBounds_toArray, List.set_cons_zero, List.set_cons_succ]
        refine wpAnyH_ready (rs := [11]) (by kernel_rfl) (by simp) ?_
        refine AllReadyH.cons (o := ⟨none, .store 52 (.tmp 13) (.tmp 96), 0, _, _, none⟩) rfl (fun K hK => ?_) AllReadyH.nil
        go_simp
        refine hK.out _ _ (hHeld.set3 (.inr (Nat.le_refl _)) _ _ _) (fun hHeld => ?_)
        clear hK K
        refine tk 12 ⟨some 14, .assign (.tmp 97), 30, _, _, none⟩ ?vq43 rfl (by kernel_rfl) (.inl ⟨by rfl, ?hq43⟩) ?rq43
        case hq43 => intro W hSw; (try obtain ⟨p0, p1, p2, p3, t0, t1, t2, t3⟩ := HC0.out W hSw); go_simp; (try with_reducible rfl)
        try simp only [Act.put, List.setIfInBounds_toArray, List.set_cons_zero, List.set_cons_succ]
        refine wpAnyH_done (by kernel_rfl) ?_ _
        go_wp2_with fail
        go_meet
        exact ⟨W0.heap.size, A5, c5, S5, cs5, rfl, rfl, BPm.out.set3, hc5, (rr5.out _ ((Fr.refl _ wm).set3 (.inl (by simp)) _ _ _)).1, (rr5.out _ ((Fr.refl _ wm).set3 (.inl (by simp)) _ _ _)).2, hHeld⟩
      case rest =>
        obtain ⟨pg, A5, c5, S5, cs5, rfl, rfl, hb5, hc5, ra5, rs5, hf5⟩ := hcut
        have F5 := Lib.hid hf5
        have B5 := Lib.hid hb5
        have Ra5 := Lib.hid ra5
        have Rs5 := Lib.hid rs5
        have p0 := hb5.cell 0
        have p1 := hb5.cell 1
        have p2 := hb5.cell 2
        simp only [List.getElem?_toArray, List.getElem?_cons_succ, List.getElem?_cons_zero] at p0 p1 p2
        have HB6 := Lib.hid (HBu.out _ A5 c5 S5 cs5 F5.out hc5 ra5 rs5)
        clear hb5 hc5 ra5 rs5 hf5 HBu HMk
        go_wp2_with fail
        refine HB6.out.mono ?_
        rintro r w6 ⟨⟨tt, FF, rfl, T6, _⟩, b6⟩
        have F6 : Hid (Fr (fun _ => False) W0 w6) := F5.out.trans (Fr.b0 b6) (fun _ h => h.elim)
        have O6 : Hid (Below w.heap.size w w6) := Ho.out.trans (F6.out.below_of Ho.out.size (fun _ h => h.elim))
        have B6 := Lib.hid (B5.out.fr (Fr.b0 b6) (fun h => h))
        have Ra6 := Lib.hid (Ra5.out.fr0 (Fr.b0 b6))
        have Rs6 := Lib.hid (Rs5.out.fr0 (Fr.b0 b6))
        have HT6 := Lib.hid T6
        clear b6 T6 p0 p1 p2 HB6 F5 B5 Ra5 Rs5
        obtain ⟨bA, bc, bB, bd, hR6⟩ := HT6.out.reach
        rw [HYn.out] at hR6
        have HR6 := Lib.hid hR6
        have HC6 : Hid (∀ W, Fr (fun _ => False) w6 W → W.cell? ⟨w.heap.size + 1, 0, none⟩ = some (.string nm2) ∧ W.cell? ⟨w.heap.size + 1, 1, none⟩ = some (.slice A2 n2 c2) ∧ W.cell? ⟨pg, 0, none⟩ = some (.string nm2) ∧ W.cell? ⟨pg, 1, none⟩ = some (.slice A5 n2 c5) ∧ W.cell? ⟨pg, 2, none⟩ = some (.slice S5 n2 cs5) ∧ W.cell? ⟨t, 0, none⟩ = some (.int .i64 x0) ∧ W.cell? ⟨t, 1, none⟩ = some (.string nm) ∧ W.cell? ⟨t, 2, none⟩ = some (.slice tA n tc) ∧ W.cell? ⟨t, 3, none⟩ = some (.slice tB 0 td)) := fun W f => by
          obtain ⟨_, _, k2, k3, k4, k5, k6, k7⟩ := HC0.out W (F6.out.trans f (fun _ h => h.elim))
          have b := B6.out.fr f (fun h => h)
          exact ⟨k2, k3, b.cell 0, b.cell 1, b.cell 2, k4, k5, k6, k7⟩
        have HBa6 : Hid (∀ W, Fr (fun _ => False) w6 W → Calls Tryz.prog 19 #[.agg #[.string nm2, .slice A5 n2 c5, .slice S5 n2 cs5], .agg #[.int .i64 x0, .string nm, .slice tA n tc, .slice tB 0 td]] W fun r w' => (∃ B' d', r = .returned (.slice B' n2 d') ∧ ∀ wx, Fr (fun k => k < W.heap.size) w' wx → Rd wx 1 B' n2 (ints bs)) ∧ Below W.heap.size W w') := fun W f => HBa.out W A5 c5 S5 cs5 (F6.out.trans f (fun _ h => h.elim)) (Ra6.out.fr0 f) (Rs6.out.fr0 f)
        go_upto_region 20 with fail
        go_cut [17] (fun s17 wx => ∃ (g : Nat) (B' : Option Addr) (d' : Nat) (W7 : World), W7 = wx ∧ s17 = .pointer (some ⟨g, 0, none⟩) ∧ Blk wx g 46 #[.int .i64 x0, .string nm2, .slice A2 n2 c2, .slice B' n2 d'] ∧ Rd wx 1 B' n2 (ints bs) ∧ Fr (fun _ => False) w6 wx)
        case first =>
          refine wp_region_held_drew (S := fun W => Fr (fun _ => False) w6 W) (by kernel_rfl) ((Fr.refl _ w6).drew) (fun hHeld => ?_)
          refine tk 0 ⟨some 113, .move (.tmp 9), 29, _, _, none⟩ ?vq44 rfl (by kernel_rfl) (.inl ⟨by rfl, ?hq44⟩) ?rq44
          case hq44 => intro W hSw; go_simp; (try with_reducible rfl)
          refine tk 1 ⟨some 114, .nilCheck (.tmp 113), 0, _, _, none⟩ ?vq45 rfl (by kernel_rfl) (.inl ⟨by rfl, ?hq45⟩) ?rq45
          case hq45 => intro W hSw; go_simp; (try with_reducible rfl)
          refine tk 2 ⟨some 115, .fieldAddr 44 (.tmp 114) 0, 0, _, _, none⟩ ?vq46 rfl (by kernel_rfl) (.inl ⟨by rfl, ?hq46⟩) ?rq46
          case hq46 => intro W hSw; go_simp; (try with_reducible rfl)
          refine tk 3 ⟨some 116, .fieldAddr 41 (.tmp 115) 0, 0, _, _, none⟩ ?vq47 rfl (by kernel_rfl) (.inl ⟨by rfl, ?hq47⟩) ?rq47
          case hq47 => intro W hSw; go_simp; (try with_reducible rfl)
          refine tk 4 ⟨some 117, .load 3 (.tmp 116), 3, _, _, none⟩ ?vq48 rfl (by kernel_rfl) (.inl ⟨by rfl, ?hq48⟩) ?rq48
          case hq48 => intro W hSw; (try obtain ⟨p2, p3, z0, z1, z2, t0, t1, t2, t3⟩ := HC6.out W hSw); go_simp; (try with_reducible rfl)
          refine tk 5 ⟨some 118, .load 24 (.tmp 5), 24, _, _, none⟩ ?vq49 rfl (by kernel_rfl) (.inl ⟨by rfl, ?hq49⟩) ?rq49
          case hq49 => intro W hSw; (try obtain ⟨p2, p3, z0, z1, z2, t0, t1, t2, t3⟩ := HC6.out W hSw); go_simp; (try with_reducible rfl)
          refine tk 6 ⟨some 119, .load 52 (.tmp 13), 52, _, _, none⟩ ?vq50 rfl (by kernel_rfl) (.inl ⟨by rfl, ?hq50⟩) ?rq50
          case hq50 => intro W hSw; (try obtain ⟨p2, p3, z0, z1, z2, t0, t1, t2, t3⟩ := HC6.out W hSw); go_simp; (try with_reducible rfl)
          refine tk 7 ⟨some 120, .move (.tmp 9), 29, _, _, none⟩ ?vq51 rfl (by kernel_rfl) (.inl ⟨by rfl, ?hq51⟩) ?rq51
          case hq51 => intro W hSw; go_simp; (try with_reducible rfl)
          refine tk 8 ⟨some 121, .nilCheck (.tmp 120), 0, _, _, none⟩ ?vq52 rfl (by kernel_rfl) (.inl ⟨by rfl, ?hq52⟩) ?rq52
          case hq52 => intro W hSw; go_simp; (try with_reducible rfl)
          refine tk 9 ⟨some 122, .fieldAddr 44 (.tmp 121) 0, 0, _, _, none⟩ ?vq53 rfl (by kernel_rfl) (.inl ⟨by rfl, ?hq53⟩) ?rq53
          case hq53 => intro W hSw; go_simp; (try with_reducible rfl)
          refine tk 10 ⟨some 123, .load 41 (.tmp 122), 41, _, _, none⟩ ?vq54 rfl (by kernel_rfl) (.inl ⟨by rfl, ?hq54⟩) ?rq54
          case hq54 => intro W hSw; (try obtain ⟨p2, p3, z0, z1, z2, t0, t1, t2, t3⟩ := HC6.out W hSw); go_simp; (try with_reducible rfl)
          try simp only [Act.put, List.setIfInBounds_toArray, List.set_cons_zero, List.set_cons_succ]
          refine wpAnyH_ready (rs := [11, 13]) (by kernel_rfl) (by simp) ?_
          refine AllReadyH.cons (o := ⟨some 124, .call ⟨.value (.func 19), #[.tmp 119, .tmp 123], #[52, 41]⟩, 39, _, _, none⟩) rfl (fun K hK => ?_) ?_
          · go_simp
            go_wp2_with (first | (go_at_call 19; refine (HBa6.out _ hHeld).mono ?_; rintro r wm ⟨⟨B7, d7, rfl, rr7⟩, b7⟩))
            have rr7 := Lib.hid rr7
            refine hK.out _ _ (hHeld.trans (Fr.b0 b7) (fun _ h => h.elim)) (fun hHeld => ?_)
            clear hK K
            refine tk 12 ⟨some 125, .build 46 #[(0, .tmp 117), (1, .tmp 118), (2, .tmp 124)], 46, _, _, none⟩ ?vq55 rfl (by kernel_rfl) (.inl ⟨by rfl, ?hq55⟩) ?rq55
            case hq55 => intro W hSw; (try obtain ⟨p2, p3, z0, z1, z2, t0, t1, t2, t3⟩ := HC6.out W hSw); go_simp; (try with_reducible rfl)
            try simp only [Act.put, List.setIfInBounds_toArray, List.set_cons_zero, List.set_cons_succ]
            refine wpAnyH_ready (rs := [13]) (by kernel_rfl) (by simp) ?_
            refine AllReadyH.cons (o := ⟨some 17, .alloc 46, 0, _, _, none⟩) rfl (fun K hK => ?_) AllReadyH.nil
            go_simp
            have hHm := hHeld
            refine hK.out _ _ (hHm.trans (Fr.none_alloc _ _) (fun _ h => h.elim)) (fun hHeld => ?_)
            clear hK K
            try simp only [Act.put, List.setIfInBounds_toArray, List.set_cons_zero, List.set_cons_succ]
            refine wpAnyH_ready (rs := [14]) (by kernel_rfl) (by simp) ?_
            refine AllReadyH.cons (o := ⟨none, .store 46 (.tmp 17) (.tmp 125), 0, _, _, none⟩) rfl (fun K hK => ?_) AllReadyH.nil
            go_simp
            refine hK.out _ _ (hHm.trans (Fr.none_alloc _ _) (fun _ h => h.elim)) (fun hHeld => ?_)
            clear hK K
            try simp only [Act.put, List.setIfInBounds_toArray, List.set_cons_zero, List.set_cons_succ]
            refine wpAnyH_done (by kernel_rfl) ?_ _
            go_wp2_with fail
            go_meet
            exact ⟨wm.heap.size, B7, d7, _, rfl, rfl, Blk.new _ _ _, rr7.out _ ((Fr.none_alloc _ _).mono (fun _ h => h.elim)), hHeld⟩
          refine AllReadyH.cons (o := ⟨some 17, .alloc 46, 0, _, _, none⟩) rfl (fun K hK => ?_) AllReadyH.nil
          go_simp
          have BRz := Lib.hid (Blk.new w6 46 #[.int .i64 0, .string ByteArray.empty, .slice none 0 0, .slice none 0 0]).drew
          refine hK.out _ _ (by first | exact ((Fr.refl _ w6).alloc _).drew | exact hHeld.alloc _) (fun hHeld => ?_)
          clear hK K
          try simp only [Act.put, List.setIfInBounds_toArray, List.set_cons_zero, List.set_cons_succ]
          refine wpAnyH_ready (rs := [11]) (by kernel_rfl) (by simp) ?_
          refine AllReadyH.cons (o := ⟨some 124, .call ⟨.value (.func 19), #[.tmp 119, .tmp 123], #[52, 41]⟩, 39, _, _, none⟩) rfl (fun K hK => ?_) AllReadyH.nil
          go_simp
          go_wp2_with (first | (go_at_call 19; refine (HBa6.out _ hHeld).mono ?_; rintro r wm ⟨⟨B7, d7, rfl, rr7⟩, b7⟩))
          have rr7 := Lib.hid rr7
          have BRm := Lib.hid (BRz.out.below b7)
          have g0 := BRm.out.frozen 0
          have g1 := BRm.out.frozen 1
          have g2 := BRm.out.frozen 2
          have g3 := BRm.out.frozen 3
          have q0 := BRm.out.cell 0
          have q1 := BRm.out.cell 1
          have q2 := BRm.out.cell 2
          have q3 := BRm.out.cell 3
          simp only [List.getElem?_toArray, List.getElem?_cons_succ, List.getElem?_cons_zero] at q0 q1 q2 q3
          refine hK.out _ _ (hHeld.trans (Fr.b0 b7) (fun _ h => h.elim)) (fun hHeld => ?_)
          clear hK K
          refine tk 12 ⟨some 125, .build 46 #[(0, .tmp 117), (1, .tmp 118), (2, .tmp 124)], 46, _, _, none⟩ ?vq56 rfl (by kernel_rfl) (.inl ⟨by rfl, ?hq56⟩) ?rq56
          case hq56 => intro W hSw; (try obtain ⟨p2, p3, z0, z1, z2, t0, t1, t2, t3⟩ := HC6.out W hSw); go_simp; (try with_reducible rfl)
          try simp only [Act.put, List.setIfInBounds_toArray, List.set_cons_zero, List.set_cons_succ]
          refine wpAnyH_ready (rs := [14]) (by kernel_rfl) (by simp) ?_
          refine AllReadyH.cons (o := ⟨none, .store 46 (.tmp 17) (.tmp 125), 0, _, _, none⟩) rfl (fun K hK => ?_) AllReadyH.nil
          go_simp
          refine hK.out _ _ (hHeld.set4 (.inr (Nat.le_refl _)) _ _ _ _) (fun hHeld => ?_)
          clear hK K
          try simp only [Act.put, List.setIfInBounds_toArray, List.set_cons_zero, List.set_cons_succ]
          refine wpAnyH_done (by kernel_rfl) ?_ _
          go_wp2_with fail
          go_meet
          exact ⟨w6.heap.size, B7, d7, _, rfl, rfl, BRm.out.set4, rr7.out _ ((Fr.refl _ wm).set4 (.inl (by simp)) _ _ _ _), hHeld⟩
        case rest =>
          obtain ⟨rg, Bb, db, W7, rfl, rfl, hbr, rbs, hf7⟩ := hcut
          have F7 := Lib.hid hf7
          have HBr := Lib.hid hbr
          have HRs := Lib.hid rbs
          have OE : Hid (∀ W, Fr (fun _ => False) W7 W → Below w.heap.size w W) := fun W f => O6.out.trans ((F7.out.trans f (fun _ h => h.elim)).below_of O6.out.size (fun _ h => h.elim))
          have HCy : Hid (∀ W, Fr (fun _ => False) W7 W → W.cell? ⟨w.heap.size + 1, 1, none⟩ = some (.slice A2 n2 c2) ∧ W.cell? ⟨tt, 0, none⟩ = some (.int .i64 x0) ∧ W.cell? ⟨tt, 1, none⟩ = some (.string nm2) ∧ W.cell? ⟨tt, 2, none⟩ = some (.slice bA n2 bc) ∧ W.cell? ⟨tt, 3, none⟩ = some (.slice bB n2 bd) ∧ W.cell? ⟨rg, 0, none⟩ = some (.int .i64 x0) ∧ W.cell? ⟨rg, 1, none⟩ = some (.string nm2) ∧ W.cell? ⟨rg, 2, none⟩ = some (.slice A2 n2 c2) ∧ W.cell? ⟨rg, 3, none⟩ = some (.slice Bb n2 db)) := fun W f => by
            have k1 := (HC6.out W (F7.out.trans f (fun _ h => h.elim))).2.1
            have h := HR6.out.fr0 (F7.out.trans f (fun _ h => h.elim))
            have h2 := h.c2
            have h3 := h.c3
            rw [hlen2] at h2
            rw [Hbl.out] at h3
            have b := HBr.out.fr f (fun h => h)
            exact ⟨k1, h.c0, h.c1, h2, h3, b.cell 0, b.cell 1, b.cell 2, b.cell 3⟩
          have hYt : Y.tiers = lt := HT6.out.good.tiers
          have hYf : Y.floors = bs := HT6.out.good.floors
          have HFrB : Hid (∀ W, Fr (fun _ => False) W7 W → ∀ j : Nat, j < n2 → Calls Tryz.prog 20 #[.agg #[.int .i64 x0, .string nm2, .slice bA n2 bc, .slice bB n2 bd], .int .i64 j] W fun r w' => r = .returned (.int .i64 (fromV x0 lt bs j)) ∧ Below W.heap.size W w') := fun W f j hj => by
            have h := reach_from PP.out (HR6.out.fr0 (F7.out.trans f (fun _ h => h.elim))) hX0 j (by omega)
            simp only [hlen2, Hbl.out] at h
            exact h
          have HFrR : Hid (∀ W, Fr (fun _ => False) W7 W → ∀ j : Nat, j < n2 → Calls Tryz.prog 21 #[.agg #[.int .i64 x0, .string nm2, .slice A2 n2 c2, .slice Bb n2 db], .int .i64 j] W fun r w' => r = .returned (.int .i64 (fromV x0 lt bs j)) ∧ Below W.heap.size W w') := fun W f j hj => by
            have h := ref_fromI_any x0 (by unfold i64; omega) nm2 lt A2 n2 c2 bs Bb n2 db j W (HRp2.out W (F6.out.trans (F7.out.trans f (fun _ h => h.elim)) (fun _ h => h.elim))) (HRs.out.fr0 f) Hwf2.out (by omega)
            rw [fromI_nat (by omega)] at h
            exact h
          have HRb : Hid (∀ W, Fr (fun _ => False) W7 W → ∀ j : Nat, j < n2 → Calls Tryz.prog 14 #[.pointer (some ⟨tt, 0, none⟩), .int .i64 j] W fun r w' => ViewR (viewL Y j all) r w' ∧ Below W.heap.size W w') := fun W f j hj => by
            rw [← Hview.out j hj]
            exact (tio_records (HT6.out.fr0 (F7.out.trans f (fun _ h => h.elim))) (by omega) j (by omega)).mono fun r w' ⟨⟨A, c, e, ho⟩, hb⟩ => ⟨⟨A, c, e, (own_any ho).2.2.1⟩, hb⟩
          have HVw : Hid (∀ W, Fr (fun _ => False) W7 W → ∀ j : Nat, j < n2 → Calls Tryz.prog 15 #[.agg #[.int .i64 x0, .string nm2, .slice A2 n2 c2, .slice Bb n2 db], .int .i64 j, .slice A' n' c'] W fun r w' => ViewR (viewL Y j all) r w' ∧ Below W.heap.size W w') := fun W f j hj => by
            have fW := F6.out.trans (F7.out.trans f (fun _ h => h.elim)) (fun _ h => h.elim)
            have h := rview_any x0 (by unfold i64; omega) nm2 lt A2 n2 c2 bs Bb n2 db Y HYn.out hYt hYf (fun x hx => (check_mem PP.out.ck hx).1) j all A' n' c' W (HRp2.out W fW) (HRs.out.fr0 f) Hwf2.out (by omega) (Rall.out.fr0 fW) Hwa.out (by omega)
            rw [show viewI Y (j : Int) all = viewL Y j all from by unfold viewI; rw [if_pos ⟨by omega, by rw [hYt]; omega⟩, Int.toNat_natCast]] at h
            exact h
          have Hlen : Hid (∀ j, j < n2 → (viewL Y j all).length ≤ 400) := fun j hj => by
            rw [← Hview.out j hj]
            exact Nat.le_trans (getD_len HT6.out.good.len j) (by omega)
          have Z7 : Hid (Fr (fun _ => False) W7 W7) := Fr.refl _ _
          have pp := (HCy.out _ Z7.out).1
          clear hbr rbs hf7 hR6 HC6 HBa6 HT6 HR6 HC0 HBr HRs hYt hYf Hview Rall
          go_wp2_with fail
          clear pp
          go_loopw [18] (fun s18 ws => ∃ j : Nat, j ≤ n2 ∧ s18 = .int .i64 j ∧ Fr (fun _ => False) W7 ws) (fun s18 _ => n2 - (intOf s18).toNat)
          case atStart => exact ⟨0, Nat.zero_le _, rfl, Z7.out⟩
          case round =>
            obtain ⟨j, hj, rfl, fj⟩ := hrel
            have Fj := Lib.hid fj
            have pp := (HCy.out _ fj).1
            clear fj Z7
            by_cases hlj : j < n2
            · have hjw : IntKind.i64.wrap ((j : Int) + 1) = (j : Int) + 1 := by simp [IntKind.wrap, IntKind.signed, IntKind.bits]; omega
              have HFb := Lib.hid (fun W f => HFrB.out W f j hlj)
              have HFr := Lib.hid (fun W f => HFrR.out W f j hlj)
              have HBj := Lib.hid (fun W f => HRb.out W f j hlj)
              have HVj := Lib.hid (fun W f => HVw.out W f j hlj)
              have hln := Hlen.out j hlj
              obtain ⟨fv, hfv⟩ : ∃ v, fromV x0 lt bs j = v := ⟨_, rfl⟩
              obtain ⟨LV, hLV⟩ : ∃ v, viewL Y j all = v := ⟨_, rfl⟩
              rw [hfv] at HFb HFr
              rw [hLV] at HBj HVj hln
              have HLn := Lib.hid hln
              clear hfv hLV hln
              go_wp2_with fail
              refine wp_region_held_drew (S := fun W => Fr (fun _ => False) W7 W) (by kernel_rfl) (Fj.out.drew) (fun hHeld => ?_)
              refine tk 0 ⟨some 133, .move (.tmp 15), 29, _, _, none⟩ ?vq57 rfl (by kernel_rfl) (.inl ⟨by rfl, ?hq57⟩) ?rq57
              case hq57 => intro W hSw; go_simp; (try with_reducible rfl)
              refine tk 1 ⟨some 134, .nilCheck (.tmp 133), 0, _, _, none⟩ ?vq58 rfl (by kernel_rfl) (.inl ⟨by rfl, ?hq58⟩) ?rq58
              case hq58 => intro W hSw; go_simp; (try with_reducible rfl)
              refine tk 2 ⟨some 135, .fieldAddr 44 (.tmp 134) 0, 0, _, _, none⟩ ?vq59 rfl (by kernel_rfl) (.inl ⟨by rfl, ?hq59⟩) ?rq59
              case hq59 => intro W hSw; go_simp; (try with_reducible rfl)
              refine tk 3 ⟨some 136, .load 41 (.tmp 135), 41, _, _, none⟩ ?vq60 rfl (by kernel_rfl) (.inl ⟨by rfl, ?hq60⟩) ?rq60
              case hq60 => intro W hSw; (try obtain ⟨p3, t0, t1, t2, t3, z0, z1, z2, z3⟩ := HCy.out W hSw); go_simp; (try with_reducible rfl)
              refine tk 4 ⟨some 137, .move (.tmp 18), 3, _, _, none⟩ ?vq61 rfl (by kernel_rfl) (.inl ⟨by rfl, ?hq61⟩) ?rq61
              case hq61 => intro W hSw; go_simp; (try with_reducible rfl)
              refine tk 6 ⟨some 139, .load 46 (.tmp 17), 46, _, _, none⟩ ?vq62 rfl (by kernel_rfl) (.inl ⟨by rfl, ?hq62⟩) ?rq62
              case hq62 => intro W hSw; (try obtain ⟨p3, t0, t1, t2, t3, z0, z1, z2, z3⟩ := HCy.out W hSw); go_simp; (try with_reducible rfl)
              refine tk 7 ⟨some 140, .move (.tmp 18), 3, _, _, none⟩ ?vq63 rfl (by kernel_rfl) (.inl ⟨by rfl, ?hq63⟩) ?rq63
              case hq63 => intro W hSw; go_simp; (try with_reducible rfl)
              try simp only [Act.put, List.setIfInBounds_toArray, List.set_cons_zero, List.set_cons_succ]
              refine wpAnyH_ready (rs := [5]) (by kernel_rfl) (by simp) ?_
              refine AllReadyH.cons (o := ⟨some 138, .call ⟨.value (.func 20), #[.tmp 136, .tmp 137], #[41, 3]⟩, 3, _, _, none⟩) rfl (fun K hK => ?_) AllReadyH.nil
              go_simp
              go_wp2_with (first | (go_at_call 20; refine (HFb.out _ hHeld).mono ?_; rintro r wa ⟨rfl, ba⟩))
              refine hK.out _ _ (hHeld.trans (Fr.b0 ba) (fun _ h => h.elim)) (fun hHeld => ?_)
              clear hK K
              try simp only [Act.put, List.setIfInBounds_toArray, List.set_cons_zero, List.set_cons_succ]
              refine wpAnyH_ready (rs := [8]) (by kernel_rfl) (by simp) ?_
              refine AllReadyH.cons (o := ⟨some 141, .call ⟨.value (.func 21), #[.tmp 139, .tmp 140], #[46, 3]⟩, 3, _, _, none⟩) rfl (fun K hK => ?_) AllReadyH.nil
              go_simp
              go_wp2_with (first | (go_at_call 21; refine (HFr.out _ hHeld).mono ?_; rintro r wb ⟨rfl, bb⟩))
              refine hK.out _ _ (hHeld.trans (Fr.b0 bb) (fun _ h => h.elim)) (fun hHeld => ?_)
              clear hK K
              refine tk 9 ⟨some 142, .binOp .neq 3 (.tmp 138) (.tmp 141) 3, 4, _, _, none⟩ ?vq64 rfl (by kernel_rfl) (.inl ⟨by rfl, ?hq64⟩) ?rq64
              case hq64 => intro W hSw; (try obtain ⟨p3, t0, t1, t2, t3, z0, z1, z2, z3⟩ := HCy.out W hSw); go_simp; (try with_reducible rfl)
              refine tk 10 ⟨some 143, .move (.tmp 142), 4, _, _, none⟩ ?vq65 rfl (by kernel_rfl) (.inl ⟨by rfl, ?hq65⟩) ?rq65
              case hq65 => intro W hSw; go_simp; (try with_reducible rfl)
              refine tk 11 ⟨some 144, .move (.tmp 15), 29, _, _, some (10, false)⟩ ?vq66 rfl (by kernel_rfl) (.inl ⟨by rfl, ?hq66⟩) ?rq66
              case hq66 => intro W hSw; go_simp; (try with_reducible rfl)
              refine tk 12 ⟨some 145, .move (.tmp 18), 3, _, _, some (10, false)⟩ ?vq67 rfl (by kernel_rfl) (.inl ⟨by rfl, ?hq67⟩) ?rq67
              case hq67 => intro W hSw; go_simp; (try with_reducible rfl)
              refine tk 14 ⟨some 147, .load 46 (.tmp 17), 46, _, _, some (10, false)⟩ ?vq68 rfl (by kernel_rfl) (.inl ⟨by rfl, ?hq68⟩) ?rq68
              case hq68 => intro W hSw; (try obtain ⟨p3, t0, t1, t2, t3, z0, z1, z2, z3⟩ := HCy.out W hSw); go_simp; (try with_reducible rfl)
              refine tk 15 ⟨some 148, .move (.tmp 18), 3, _, _, some (10, false)⟩ ?vq69 rfl (by kernel_rfl) (.inl ⟨by rfl, ?hq69⟩) ?rq69
              case hq69 => intro W hSw; go_simp; (try with_reducible rfl)
              refine tk 16 ⟨some 149, .move (.tmp 11), 33, _, _, some (10, false)⟩ ?vq70 rfl (by kernel_rfl) (.inl ⟨by rfl, ?hq70⟩) ?rq70
              case hq70 => intro W hSw; go_simp; (try with_reducible rfl)
              try simp only [Act.put, List.setIfInBounds_toArray, List.set_cons_zero, List.set_cons_succ]
              refine wpAnyH_ready (rs := [13]) (by kernel_rfl) (by simp) ?_
              refine AllReadyH.cons (o := ⟨some 146, .call ⟨.value (.func 14), #[.tmp 144, .tmp 145], #[29, 3]⟩, 34, _, _, some (10, false)⟩) rfl (fun K hK => ?_) AllReadyH.nil
              go_simp
              go_wp2_with (first | (go_at_call 14; refine (HBj.out _ hHeld).mono ?_; rintro r wc ⟨⟨Ar, cr, rfl, rr⟩, bc'⟩))
              have rr := Lib.hid rr
              refine hK.out _ _ (hHeld.trans (Fr.b0 bc') (fun _ h => h.elim)) (fun hHeld => ?_)
              clear hK K
              try simp only [Act.put, List.setIfInBounds_toArray, List.set_cons_zero, List.set_cons_succ]
              refine wpAnyH_ready (rs := [17]) (by kernel_rfl) (by simp) ?_
              refine AllReadyH.cons (o := ⟨some 150, .call ⟨.value (.func 15), #[.tmp 147, .tmp 148, .tmp 149], #[46, 3, 33]⟩, 34, _, _, some (10, false)⟩) rfl (fun K hK => ?_) AllReadyH.nil
              go_simp
              go_wp2_with (first | (go_at_call 15; refine (HVj.out _ hHeld).mono ?_; rintro r wd ⟨⟨Av, cv, rfl, rv⟩, bd'⟩))
              have rv := Lib.hid rv
              refine hK.out _ _ (hHeld.trans (Fr.b0 bd') (fun _ h => h.elim)) (fun hHeld => ?_)
              clear hK K
              try simp only [Act.put, List.setIfInBounds_toArray, List.set_cons_zero, List.set_cons_succ]
              refine wpAnyH_ready (rs := [18]) (by kernel_rfl) (by simp) ?_
              refine AllReadyH.cons (o := ⟨some 151, .call ⟨.value (.func 13), #[.tmp 146, .tmp 150], #[34, 34]⟩, 4, _, _, some (10, false)⟩) rfl (fun K hK => ?_) AllReadyH.nil
              go_simp
              go_wp2_with (first | (go_at_call 13; refine (samerecs_eq LV Ar LV.length cr Av cv _ (rr.out.below bd') rv.out (by have := HLn.out; omega)).mono ?_; rintro r we ⟨rfl, be'⟩))
              refine hK.out _ _ (hHeld.trans (Fr.b0 be') (fun _ h => h.elim)) (fun hHeld => ?_)
              clear hK K
              refine tk 19 ⟨some 152, .unOp .not 4 (.tmp 151), 4, _, _, some (10, false)⟩ ?vq71 rfl (by kernel_rfl) (.inl ⟨by rfl, ?hq71⟩) ?rq71
              case hq71 => intro W hSw; go_simp; (try with_reducible rfl)
              refine tk 20 ⟨some 153, .pick (.tmp 143) (.const (.bool true)) (.tmp 152), 4, _, _, none⟩ ?vq72 rfl (by kernel_rfl) (.inl ⟨by rfl, ?hq72⟩) ?rq72
              case hq72 => intro W hSw; go_simp; (try with_reducible rfl)
              try simp only [Act.put, List.setIfInBounds_toArray, List.set_cons_zero, List.set_cons_succ]
              refine wpAnyH_done (by kernel_rfl) ?_ _
              have Fh := Lib.hid hHeld
              clear hHeld ba bb bc' bd' be' rr rv pp
              go_wp2_with fail
              go_roundw
              case rel => exact ⟨j + 1, by omega, by go_num, Fh.out⟩
              case measure => simp [intOf]; omega
            · obtain rfl : n2 = j := by omega
              go_wp2_with fail
              refine (HAl.out _).mono ?_
              rintro r wz ⟨rfl, bz⟩
              go_wp2_with fail
              go_ret
              exact ⟨rfl, OE.out _ (Fj.out.trans (Fr.b0 bz) (fun _ h => h.elim))⟩
end Go.Proofs.YtlhhcancfgjfkaaGreat
