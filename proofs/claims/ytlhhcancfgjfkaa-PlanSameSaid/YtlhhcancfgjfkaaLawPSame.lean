/- PlanSame's walk: to the same policy again nothing is lost and nothing is new. -/
import Derived.Test.YtlhhcancfgjfkaaAlive
import Derived.Test.YtlhhcancfgjfkaaTioR
import Derived.Test.YtlhhcancfgjfkaaOpC
import Derived.Test.YtlhhcancfgjfkaaFills
import Derived.Test.YtlhhcancfgjfkaaSame
namespace Go.Proofs.Ytlhhcancfgjfkaa
set_option linter.all false
open Go.RowKit

set_option maxRecDepth 100000 in
set_option maxHeartbeats 4000000 in
theorem psame_walk (nm : ByteArray) (l : List TierV) (A : Option Addr) (n c : Nat) (now : Int) (ops : List OpC) (B : Option Addr) (m d : Nat) (w : World) (hnm : nm.size ≤ maxLen) (hr : Rd w 4 A n (tcells l)) (hnc : n ≤ c) (hn9 : n ≤ 9223372036854775807) (hwf : ∀ t ∈ l, t.wf) (hnow : -9223372036854775808 ≤ now ∧ now ≤ 9223372036854775807) (hs : Rd w 4 B m (opcells ops)) (hm9 : m ≤ 9223372036854775807) (hok : ∀ o ∈ ops, o.ok w) :
    Calls Try.prog 8 #[.agg #[.string nm, .slice A n c], .int .i64 now, .slice B m d] w fun e w' => e = .returned (.bool true) ∧ Below w.heap.size w w' := by
  have Hr := Lib.hid hr
  have Hll := Lib.hid hr.tiers_len
  have HAl := Lib.hid alive13_any
  have HSm : Hid (∀ W, Fr (fun _ => False) w W → Calls Try.prog 15 #[.agg #[.string nm, .slice A n c]] W fun r w' => SmallR nm n r ∧ Below W.heap.size W w') := fun W f => bsmall_any nm l A n c W (hr.fr0 f) hn9 hnm (fun t h => (hwf t h).2.2.2)
  have HLi : Hid (∀ W, Fr (fun _ => False) w W → Calls Try.prog 16 #[.slice B m d] W fun r w' => LightR m r ∧ W = w') := fun W f => light_any ops B m d W (hs.fr0 f) (fun o h => (hok o h).below (f.below (fun _ h => h.elim))) hm9
  have HN : Hid (∀ W, n ≤ 10 → Fr (fun _ => False) w W → Calls Try.prog 12 #[.agg #[.string nm, .slice A n c], .int .i64 now, .slice none 0 0] W fun r w' => ((newE nm l now [] = 0 → PolOk nm l ∧ ∃ t F, r = .returned (.tuple #[.pointer (some ⟨t, 0, none⟩), .int .i64 0]) ∧ Tio nm l [] w.heap.size w' t (newX nm l now []) F 0 ∧ ∀ j, F j → W.heap.size ≤ j) ∧ (newE nm l now [] ≠ 0 → r = .returned (.tuple #[.pointer none, .int .i64 (newE nm l now [])]))) ∧ Below W.heap.size W w') := fun W h10 f => tio_new hnm hwf A n c now hnow w.heap.size W f.size (hr.fr0 f) hnc (by omega)
  have Hs := Lib.hid hs
  have Hln := Lib.hid hs.ops_len
  have Hok := Lib.hid hok
  have Hwf := Lib.hid hwf
  have B0 := Lib.hid (Blk.new w 33 #[.string nm, .slice A n c])
  have F0 := Lib.hid (Fr.none_alloc w (.cells #[.string nm, .slice A n c] 33))
  clear hr hwf hs hok
  go_enter Try.func8, Try.ntmps8
  go_wp2_with fail
  refine (HSm.out _ F0.out).mono ?_
  rintro r w1 ⟨⟨b, rfl, hb⟩, b1⟩
  have F1 := Lib.hid (F0.out.trans (Fr.b0 b1) (fun _ h => h.elim))
  have B1 := Lib.hid (B0.out.fr (Fr.b0 b1) (fun h => h))
  clear b1 HSm
  cases b with
  | false =>
    clear hb
    go_wp2_with fail
    refine (HAl.out _).mono ?_
    rintro r wq ⟨rfl, bq⟩
    go_wp2_with fail
    go_ret
    exact ⟨rfl, (F1.out.trans (Fr.b0 bq) (fun _ h => h.elim)).below (fun _ h => h.elim)⟩
  | true =>
  have h10 : n ≤ 10 := (hb rfl).1
  clear hb
  go_wp2_with fail
  refine (HLi.out _ F1.out).mono ?_
  rintro r w2 ⟨⟨b, rfl, hb⟩, rfl⟩
  cases b with
  | false =>
    clear hb
    go_wp2_with fail
    refine (HAl.out _).mono ?_
    rintro r wq ⟨rfl, bq⟩
    go_wp2_with fail
    go_ret
    exact ⟨rfl, (F1.out.trans (Fr.b0 bq) (fun _ h => h.elim)).below (fun _ h => h.elim)⟩
  | true =>
  have h50 : m ≤ 50 := hb rfl
  clear hb HLi
  have p0 := B1.out.cell 0
  have p1 := B1.out.cell 1
  simp only [List.getElem?_toArray, List.getElem?_cons_succ, List.getElem?_cons_zero] at p0 p1
  go_wp2_with fail
  refine (HN.out _ h10 F1.out).mono ?_
  rintro r w3 ⟨⟨h1, h2⟩, b3⟩
  have F3 := Lib.hid (F1.out.trans (Fr.b0 b3) (fun _ h => h.elim))
  have B3 := Lib.hid (B1.out.fr (Fr.b0 b3) (fun h => h))
  clear b3 p0 p1
  by_cases hE : newE nm l now [] = 0
  case neg =>
    obtain rfl := h2 hE
    clear h1 h2 HN
    obtain ⟨E, hEq⟩ : ∃ E, newE nm l now [] = E := ⟨_, rfl⟩
    rw [hEq] at hE ⊢
    have hE2 : (E == 0) = false := by simpa using hE
    have hE3 : decide (E = 0) = false := decide_eq_false hE
    clear hEq
    go_wp2_with fail
    refine (HAl.out _).mono ?_
    rintro r wq ⟨rfl, bq⟩
    go_wp2_with fail
    go_ret
    exact ⟨rfl, (F3.out.trans (Fr.b0 bq) (fun _ h => h.elim)).below (fun _ h => h.elim)⟩
  case pos =>
  obtain ⟨p, t, F, rfl, T3, hF⟩ := h1 hE
  have P := Lib.hid p
  have HT3 := Lib.hid T3
  have HFl : Hid (∀ j, F j → w.heap.size < j) := fun j hj => by
    have h1 := hF j hj
    have h2 := B1.out.lt
    omega
  have HG : Hid ((newX nm l now []).now = now) := rfl
  clear h1 h2 HN hF p T3
  obtain ⟨X0, hX0⟩ : ∃ X0, newX nm l now [] = X0 := ⟨_, rfl⟩
  have HV0 : Hid (∃ all, ViewX X0 all) := by show ∃ _, _; rw [← hX0]; exact ⟨_, ViewX.new nm l now []⟩
  rw [hX0] at HT3
  clear hX0 hE HG
  go_wp2_with fail
  go_loopw [9] (fun i wr => ∃ (k : Nat) (X : TiersX), k ≤ m ∧ i = .int .i64 k ∧ Tio nm l [] w.heap.size wr t X F (k * 8) ∧ Fr F w3 wr ∧ Below w.heap.size w wr ∧ ∃ all, ViewX X all) (fun i _ => m - (intOf i).toNat)
  case atStart => exact ⟨0, X0, Nat.zero_le _, rfl, HT3.out, Fr.refl _ _, F3.out.below (fun _ h => h.elim), HV0.out⟩
  case round =>
    obtain ⟨k, X, hk, rfl, hT, hfr, ho, hv⟩ := hrel
    have HT := Lib.hid hT
    have Ho := Lib.hid ho
    have HF := Lib.hid hfr
    have HV := Lib.hid hv
    clear hT ho hfr hv
    by_cases hlt : k < m
    · have hkw : IntKind.i64.wrap ((k : Int) + 1) = (k : Int) + 1 := by simp [IntKind.wrap, IntKind.signed, IntKind.bits]; omega
      obtain ⟨ad, o, rfl, hy, a0, a1, a2, a3⟩ := (Hs.out.below Ho.out).op_ hlt
      have HO := Lib.hid ((Hok.out o (mem_of_get hy)).below Ho.out)
      have HPk := Lib.hid (tio_put P.out HT.out (by omega) o.sl o.sa o.sn o.sc HO.out.s HO.out.swf)
      have HKk := Lib.hid (tio_tick P.out HT.out (by omega) o.n HO.out.n)
      have HCk : Hid (∀ W, Below w.heap.size w W → W.cell? (ad.add (k * 4)) = some (.int .i64 o.kind)) := fun W b => by
        obtain ⟨ad', o', e, ho', c0, _⟩ := (Hs.out.below b).op_ hlt
        injection e with e
        subst e
        rw [hy] at ho'
        cases ho'
        exact c0
      have HVp : Hid (∃ all, ViewX (putX X o.sl) all) := by
        obtain ⟨all, ha⟩ := HV.out
        by_cases hz : putE X o.sl = 0
        · exact ⟨_, ha.put hz⟩
        · refine ⟨all, ?_⟩
          unfold putX
          rw [if_neg hz]
          exact ha
      have HVt : Hid (∃ all, ViewX (tickX X o.n) all) := by
        obtain ⟨all, ha⟩ := HV.out
        exact ⟨all, ha.tick (fun x hx => by rw [HT.out.good.tiers] at hx; have := check_mem P.out.ck hx; exact ⟨this.2.2.2.1, this.2.1⟩) HT.out.good.now.1 o.n⟩
      clear hy HO
      obtain ⟨kd, nn, sl, sa, sn, sc, la, ln, lc, E, E2, hkd, hnn, h1, h2, h3, hE, hE2⟩ : ∃ kd, ∃ (nn : Int) (sl : List SampV) (sa : Option Addr) (sn sc : Nat) (la : Option Addr) (ln lc : Nat) (E E2 : Int), o.kind = kd ∧ o.n = nn ∧ o.sl = sl ∧ (Value.slice o.sa o.sn o.sc) = .slice sa sn sc ∧ Value.slice o.la o.ln o.lc = .slice la ln lc ∧ putE X o.sl = E ∧ tickE X o.n = E2 := ⟨_, _, _, _, _, _, _, _, _, _, _, rfl, rfl, rfl, rfl, rfl, rfl, rfl⟩
      rw [h2] at HPk a2
      rw [h3] at a3
      rw [hkd] at a0 HCk
      rw [hE, h1] at HPk
      rw [h1] at HVp
      rw [hE2, hnn] at HKk
      rw [hnn] at HVt
      rw [hnn] at a1
      clear hkd hnn h1 h2 h3 hE hE2
      by_cases hk1 : kd = 1
      · subst hk1
        go_wp2_with fail
        refine HPk.out.mono ?_
        rintro r w6 ⟨rfl, T6, f6⟩
        have HT6 := Lib.hid (T6.more (d := (k + 1) * 8) (by omega))
        have O6 : Hid (Below w.heap.size w w6) := Ho.out.trans (HT.out.below Ho.out.size f6)
        have F6 : Hid (Fr F w3 w6) := HF.out.trans f6 (fun _ h => .inl h)
        clear T6 f6 HPk HKk a0 a1 a2 a3
        have a0 := HCk.out w6 O6.out
        go_wp2_with fail
        go_roundw
        case rel => exact ⟨k + 1, _, by omega, by go_num, HT6.out, F6.out, O6.out, HVp.out⟩
        case measure => simp [intOf]; omega
      · have hk2 : (kd == 1) = false := by simpa using hk1
        have hk3 : decide (kd = 1) = false := decide_eq_false hk1
        by_cases hk4 : kd = 2
        · subst hk4
          clear HPk
          go_wp2_with fail
          refine HKk.out.mono ?_
          rintro r w6 ⟨rfl, T6, f6⟩
          have HT6 := Lib.hid (T6.more (d := (k + 1) * 8) (by omega))
          have O6 : Hid (Below w.heap.size w w6) := Ho.out.trans (HT.out.below Ho.out.size f6)
          have F6 : Hid (Fr F w3 w6) := HF.out.trans f6 (fun _ h => .inl h)
          clear T6 f6 HKk a0 a1 a2 a3
          go_wp2_with fail
          go_roundw
          case rel => exact ⟨k + 1, _, by omega, by go_num, HT6.out, F6.out, O6.out, HVt.out⟩
          case measure => simp [intOf]; omega
        · have hk5 : (kd == 2) = false := by simpa using hk4
          have hk6 : decide (kd = 2) = false := decide_eq_false hk4
          have HT6 := Lib.hid (HT.out.more (d := (k + 1) * 8) (by omega))
          clear HPk HKk
          go_wp2_with fail
          go_roundw
          case rel => exact ⟨k + 1, X, by omega, by go_num, HT6.out, HF.out, Ho.out, HV.out⟩
          case measure => simp [intOf]; omega
    · obtain rfl : m = k := by omega
      have BPr : Hid (Blk wr w.heap.size 33 #[.string nm, .slice A n c]) := B3.out.fr HF.out (fun h => absurd (HFl.out _ h) (Nat.lt_irrefl _))
      obtain ⟨tA, tc, tB, td, hR⟩ := HT.out.reach
      have hRl := hR
      have hX0 : 0 ≤ X.now ∧ X.now ≤ 1099511627776 := HT.out.good.now
      obtain ⟨W0, hW0⟩ : ∃ W0, W0 = wr := ⟨_, rfl⟩
      rw [← hW0] at hR BPr HT Ho HF ⊢
      clear hW0
      have hlen : l.length = n := Hll.out
      have HMk : Hid (∀ W, Fr (fun _ => False) W0 W → Calls Try.prog 28 #[.agg #[.string nm, .slice A n c], .agg #[.int .i64 X.now, .string nm, .slice tA n tc, .slice tB 0 td], .agg #[.string nm, .slice A n c]] W fun r w' => (∃ A' c' S cs, r = .returned (.tuple #[.agg #[.string nm, .slice A' n c', .slice S n cs], .int .i64 0]) ∧ n ≤ c' ∧ ∀ wx, Fr (fun k => k < W.heap.size) w' wx → Rd wx 4 A' n (tcells l) ∧ Rd wx 1 S n (ints (srcs X.now l [] l))) ∧ Below W.heap.size W w') := fun W f => by
        have hp : Rd W 4 A l.length (tcells l) := by rw [hlen]; exact Hr.out.below (Ho.out.trans (f.below_of Ho.out.size (fun _ h => h.elim)))
        have h := tio_make P.out P.out hnm hnm (hR.fr0 f) hX0 A c hp (by omega) A c hp (by omega)
        simp only [hlen] at h
        exact h
      have HRc : Hid (∀ W, Fr (fun _ => False) W0 W → W.cell? ⟨t, 0, none⟩ = some (.int .i64 X.now) ∧ W.cell? ⟨t, 1, none⟩ = some (.string nm) ∧ W.cell? ⟨t, 2, none⟩ = some (.slice tA n tc) ∧ W.cell? ⟨t, 3, none⟩ = some (.slice tB 0 td)) := fun W f => by
        have h := hR.fr0 f
        have h2 := h.c2
        rw [hlen] at h2
        exact ⟨h.c0, h.c1, h2, h.c3⟩
      have HFrT : Hid (∀ W, Fr (fun _ => False) W0 W → ∀ j : Nat, j < n → Calls Try.prog 30 #[.agg #[.int .i64 X.now, .string nm, .slice tA n tc, .slice tB 0 td], .int .i64 j] W fun r w' => r = .returned (.int .i64 (fromV X.now l [] j)) ∧ Below W.heap.size W w') := fun W f j hj => by
        have h := reach_from P.out (hR.fr0 f) hX0 j (by omega)
        simp only [hlen, List.length_nil] at h
        exact h
      have HRt : Hid (∀ W, Fr (fun _ => False) W0 W → ∀ j : Nat, j < n → Calls Try.prog 14 #[.pointer (some ⟨t, 0, none⟩), .int .i64 j] W fun r w' => (∃ A c, r = .returned (.slice A (X.tabs.getD j []).length c) ∧ Rd w' 7 A (X.tabs.getD j []).length (rcells (X.tabs.getD j []))) ∧ Below W.heap.size W w') := fun W f j hj => (tio_records (HT.out.fr0 f) (by omega) j (by omega)).mono fun r w' ⟨⟨A, c, e, ho⟩, hb⟩ => ⟨⟨A, c, e, (own_any ho).2.2.1⟩, hb⟩
      obtain ⟨all, hall⟩ := HV.out
      have Hsame : Hid (∀ j, j < n → fromV X.now l [] j ≤ fromV X.now l (basesV X.now l [] (srcs X.now l [] l) l) j ∧ (buildX X nm l (srcs X.now l [] l)).tabs.getD j [] = keepT (startBelow (fromV X.now l (basesV X.now l [] (srcs X.now l [] l) l) j)) (X.tabs.getD j [])) := fun j hj => build_same P.out.ck HT.out.good hall (by omega)
      have Hshort : Hid (∀ j, (X.tabs.getD j []).length ≤ 400) := fun j => Nat.le_trans (getD_len HT.out.good.len j) (by omega)
      have HBu : Hid (∀ W A' c' S cs, Fr (fun _ => False) W0 W → n ≤ c' → Rd W 4 A' n (tcells l) → Rd W 1 S n (ints (srcs X.now l [] l)) → Calls Try.prog 29 #[.agg #[.string nm, .slice A' n c', .slice S n cs], .pointer (some ⟨t, 0, none⟩)] W fun r w' => (∃ t' F', r = .returned (.tuple #[.pointer (some ⟨t', 0, none⟩), .int .i64 0]) ∧ Tio nm l (basesV X.now l [] (srcs X.now l [] l) l) w.heap.size w' t' (buildX X nm l (srcs X.now l [] l)) F' (m * 8) ∧ ∀ j, F' j → W.heap.size ≤ j) ∧ Below W.heap.size W w') := fun W A' c' S cs f hc' hA hS =>
        tio_build P.out P.out hnm (HT.out.fr0 f) (by omega) (fun _ h => by cases h) A' n c' S cs hA hc' hS w.heap.size (Nat.le_trans Ho.out.size f.size)
      obtain ⟨x0, hx0⟩ : ∃ v, X.now = v := ⟨_, rfl⟩
      obtain ⟨bs, hbs⟩ : ∃ v, basesV X.now l [] (srcs X.now l [] l) l = v := ⟨_, rfl⟩
      obtain ⟨ss, hss⟩ : ∃ v, srcs X.now l [] l = v := ⟨_, rfl⟩
      obtain ⟨Y, hY⟩ : ∃ v, buildX X nm l (srcs X.now l [] l) = v := ⟨_, rfl⟩
      have HYn : Hid (Y.now = X.now) := by show _ = _; rw [← hY]; rfl
      rw [hbs, hY] at Hsame HBu
      rw [hss] at HBu HMk
      rw [hx0] at HMk HRc HFrT Hsame HYn
      clear hx0 hbs hss hY hall HV hRl
      have HC0 : Hid (∀ W, Fr (fun _ => False) W0 W → W.cell? ⟨w.heap.size, 0, none⟩ = some (.string nm) ∧ W.cell? ⟨w.heap.size, 1, none⟩ = some (.slice A n c) ∧ W.cell? ⟨t, 0, none⟩ = some (.int .i64 x0) ∧ W.cell? ⟨t, 1, none⟩ = some (.string nm) ∧ W.cell? ⟨t, 2, none⟩ = some (.slice tA n tc) ∧ W.cell? ⟨t, 3, none⟩ = some (.slice tB 0 td)) := fun W f => by
        obtain ⟨k0, k1, k2, k3⟩ := HRc.out W f
        have b := BPr.out.fr f (fun h => h)
        exact ⟨b.cell 0, b.cell 1, k0, k1, k2, k3⟩
      clear hR HRc
      go_wp2_with fail
      go_cut [10, 11] (fun s10 s11 wx => ∃ (g : Nat) (A' : Option Addr) (c' : Nat) (S : Option Addr) (cs : Nat), s10 = .pointer (some ⟨g, 0, none⟩) ∧ s11 = .int .i64 0 ∧ Blk wx g 73 #[.string nm, .slice A' n c', .slice S n cs] ∧ n ≤ c' ∧ Rd wx 4 A' n (tcells l) ∧ Rd wx 1 S n (ints ss) ∧ Fr (fun _ => False) W0 wx)
      case first =>
        refine wp_region_held_drew (S := fun W => Fr (fun _ => False) W0 W) (by kernel_rfl) ((Fr.refl _ W0).drew) (fun hHeld => ?_)
        refine wpAnyH_take (i := 0) (oi := { dst := some 74, op := Op.load 33 (Operand.tmp 3), type := 33, pos := "more.go:64", after := #[], guard := none }) (v := ?vq1) rfl (by kernel_rfl) (by kernel_rfl) (by kernel_rfl) (fun _ _ _ h => h) (Or.inl ⟨by rfl, ?hq1⟩) (by assumption) ?rq1
        case hq1 => intro W hSw; (try obtain ⟨p0, p1, t0, t1, t2, t3⟩ := HC0.out W hSw); go_simp; (try with_reducible rfl)
        try simp only [Act.put, List.setIfInBounds_toArray, List.set_cons_zero, List.set_cons_succ]
        refine wpAnyH_take (i := 1) (oi := { dst := some 75, op := Op.move (Operand.tmp 7), type := 25, pos := "more.go:64", after := #[], guard := none }) (v := ?vq2) rfl (by kernel_rfl) (by kernel_rfl) (by kernel_rfl) (fun _ _ _ h => h) (Or.inl ⟨by rfl, ?hq2⟩) (by assumption) ?rq2
        case hq2 => intro W hSw; (try obtain ⟨p0, p1, t0, t1, t2, t3⟩ := HC0.out W hSw); go_simp; (try with_reducible rfl)
        try simp only [Act.put, List.setIfInBounds_toArray, List.set_cons_zero, List.set_cons_succ]
        refine wpAnyH_take (i := 2) (oi := { dst := some 76, op := Op.nilCheck (Operand.tmp 75), type := 0, pos := "more.go:64", after := #[{ on := 1, ground := Ground.data }], guard := none }) (v := ?vq3) rfl (by kernel_rfl) (by kernel_rfl) (by kernel_rfl) (fun _ _ _ h => h) (Or.inl ⟨by rfl, ?hq3⟩) (by assumption) ?rq3
        case hq3 => intro W hSw; (try obtain ⟨p0, p1, t0, t1, t2, t3⟩ := HC0.out W hSw); go_simp; (try with_reducible rfl)
        try simp only [Act.put, List.setIfInBounds_toArray, List.set_cons_zero, List.set_cons_succ]
        refine wpAnyH_take (i := 3) (oi := { dst := some 77, op := Op.fieldAddr 61 (Operand.tmp 76) 0, type := 0, pos := "more.go:64", after := #[{ on := 2, ground := Ground.data }], guard := none }) (v := ?vq4) rfl (by kernel_rfl) (by kernel_rfl) (by kernel_rfl) (fun _ _ _ h => h) (Or.inl ⟨by rfl, ?hq4⟩) (by assumption) ?rq4
        case hq4 => intro W hSw; (try obtain ⟨p0, p1, t0, t1, t2, t3⟩ := HC0.out W hSw); go_simp; (try with_reducible rfl)
        try simp only [Act.put, List.setIfInBounds_toArray, List.set_cons_zero, List.set_cons_succ]
        refine wpAnyH_take (i := 4) (oi := { dst := some 78, op := Op.load 58 (Operand.tmp 77), type := 58, pos := "more.go:64", after := #[{ on := 3, ground := Ground.data }], guard := none }) (v := ?vq5) rfl (by kernel_rfl) (by kernel_rfl) (by kernel_rfl) (fun _ _ _ h => h) (Or.inl ⟨by rfl, ?hq5⟩) (by assumption) ?rq5
        case hq5 => intro W hSw; (try obtain ⟨p0, p1, t0, t1, t2, t3⟩ := HC0.out W hSw); go_simp; (try with_reducible rfl)
        try simp only [Act.put, List.setIfInBounds_toArray, List.set_cons_zero, List.set_cons_succ]
        refine wpAnyH_take (i := 5) (oi := { dst := some 79, op := Op.load 33 (Operand.tmp 3), type := 33, pos := "more.go:64", after := #[], guard := none }) (v := ?vq6) rfl (by kernel_rfl) (by kernel_rfl) (by kernel_rfl) (fun _ _ _ h => h) (Or.inl ⟨by rfl, ?hq6⟩) (by assumption) ?rq6
        case hq6 => intro W hSw; (try obtain ⟨p0, p1, t0, t1, t2, t3⟩ := HC0.out W hSw); go_simp; (try with_reducible rfl)
        try simp only [Act.put, List.setIfInBounds_toArray, List.set_cons_zero, List.set_cons_succ]
        refine wpAnyH_ready (rs := [6, 10]) (by kernel_rfl) (by simp) ?_
        refine AllReadyH.cons (o := { dst := some 80, op := Op.call { callee := Callee.value (Operand.func 28), args := #[Operand.tmp 74, Operand.tmp 78, Operand.tmp 79], argTypes := #[33, 58, 33] }, type := 74, pos := "more.go:64", after := #[{ on := 0, ground := Ground.data }, { on := 4, ground := Ground.data }, { on := 5, ground := Ground.data }], guard := none }) rfl (fun K hK => ?_) ?_
        · go_simp
          go_wp2_with (first | (go_at_call 28; refine (HMk.out _ hHeld).mono ?_; rintro r wm ⟨⟨A5, c5, S5, cs5, rfl, hc5, rr5⟩, b5⟩))
          have rr5 := Lib.hid rr5
          refine hK.out _ _ (hHeld.trans (Fr.b0 b5) (fun _ h => h.elim)) (fun hHeld => ?_)
          clear hK K
          try simp only [Act.put, List.setIfInBounds_toArray, List.set_cons_zero, List.set_cons_succ]
          refine wpAnyH_take (i := 7) (oi := { dst := some 73, op := Op.move (Operand.tmp 80), type := 74, pos := "more.go:64", after := #[{ on := 6, ground := Ground.data }], guard := none }) (v := ?vq7) rfl (by kernel_rfl) (by kernel_rfl) (by kernel_rfl) (fun _ _ _ h => h) (Or.inl ⟨by rfl, ?hq7⟩) (by assumption) ?rq7
          case hq7 => intro W hSw; (try obtain ⟨p0, p1, t0, t1, t2, t3⟩ := HC0.out W hSw); go_simp; (try with_reducible rfl)
          try simp only [Act.put, List.setIfInBounds_toArray, List.set_cons_zero, List.set_cons_succ]
          refine wpAnyH_take (i := 8) (oi := { dst := some 81, op := Op.extract (Operand.tmp 73) 0, type := 73, pos := "more.go:64", after := #[{ on := 7, ground := Ground.data }], guard := none }) (v := ?vq8) rfl (by kernel_rfl) (by kernel_rfl) (by kernel_rfl) (fun _ _ _ h => h) (Or.inl ⟨by rfl, ?hq8⟩) (by assumption) ?rq8
          case hq8 => intro W hSw; (try obtain ⟨p0, p1, t0, t1, t2, t3⟩ := HC0.out W hSw); go_simp; (try with_reducible rfl)
          try simp only [Act.put, List.setIfInBounds_toArray, List.set_cons_zero, List.set_cons_succ]
          refine wpAnyH_take (i := 9) (oi := { dst := some 82, op := Op.extract (Operand.tmp 73) 1, type := 26, pos := "more.go:64", after := #[{ on := 7, ground := Ground.data }, { on := 11, ground := Ground.gcOnly Departure.lateStores }], guard := none }) (v := ?vq9) rfl (by kernel_rfl) (by kernel_rfl) (by kernel_rfl) (fun _ _ _ h => h) (Or.inl ⟨by rfl, ?hq9⟩) (by assumption) ?rq9
          case hq9 => intro W hSw; (try obtain ⟨p0, p1, t0, t1, t2, t3⟩ := HC0.out W hSw); go_simp; (try with_reducible rfl)
          try simp only [Act.put, List.setIfInBounds_toArray, List.set_cons_zero, List.set_cons_succ]
          refine wpAnyH_ready (rs := [10]) (by kernel_rfl) (by simp) ?_
          refine AllReadyH.cons (o := { dst := some 10, op := Op.alloc 73, type := 0, pos := "more.go:64", after := #[], guard := none }) rfl (fun K hK => ?_) AllReadyH.nil
          go_simp
          have hHm := hHeld
          refine hK.out _ _ (hHm.trans (Fr.none_alloc _ _) (fun _ h => h.elim)) (fun hHeld => ?_)
          clear hK K
          try simp only [Act.put, List.setIfInBounds_toArray, List.set_cons_zero, List.set_cons_succ]
          refine wpAnyH_ready (rs := [11]) (by kernel_rfl) (by simp) ?_
          refine AllReadyH.cons (o := { dst := none, op := Op.store 73 (Operand.tmp 10) (Operand.tmp 81), type := 0, pos := "more.go:64", after := #[{ on := 10, ground := Ground.data }, { on := 8, ground := Ground.data }, { on := 6, ground := Ground.chain }, { on := 0, ground := Ground.phase }, { on := 1, ground := Ground.phase }, { on := 2, ground := Ground.phase }, { on := 3, ground := Ground.phase }, { on := 4, ground := Ground.phase }, { on := 5, ground := Ground.phase }, { on := 6, ground := Ground.phase }, { on := 7, ground := Ground.phase }, { on := 8, ground := Ground.phase }, { on := 9, ground := Ground.textOnly Departure.lateStores }, { on := 10, ground := Ground.phase }], guard := none }) rfl (fun K hK => ?_) AllReadyH.nil
          go_simp
          refine hK.out _ _ (hHm.trans (Fr.none_alloc _ _) (fun _ h => h.elim)) (fun hHeld => ?_)
          clear hK K
          try simp only [Act.put, List.setIfInBounds_toArray, List.set_cons_zero, List.set_cons_succ]
          refine wpAnyH_take (i := 12) (oi := { dst := some 11, op := Op.assign (Operand.tmp 82), type := 26, pos := "more.go:64", after := #[{ on := 9, ground := Ground.data }, { on := 11, ground := Ground.chain }, { on := 0, ground := Ground.phase }, { on := 1, ground := Ground.phase }, { on := 2, ground := Ground.phase }, { on := 3, ground := Ground.phase }, { on := 4, ground := Ground.phase }, { on := 5, ground := Ground.phase }, { on := 6, ground := Ground.phase }, { on := 7, ground := Ground.phase }, { on := 8, ground := Ground.phase }, { on := 9, ground := Ground.phase }, { on := 10, ground := Ground.phase }, { on := 11, ground := Ground.phase }], guard := none }) (v := ?vq10) rfl (by kernel_rfl) (by kernel_rfl) (by kernel_rfl) (fun _ _ _ h => h) (Or.inl ⟨by rfl, ?hq10⟩) (by assumption) ?rq10
          case hq10 => intro W hSw; (try obtain ⟨p0, p1, t0, t1, t2, t3⟩ := HC0.out W hSw); go_simp; (try with_reducible rfl)
          try simp only [Act.put, List.setIfInBounds_toArray, List.set_cons_zero, List.set_cons_succ]
          refine wpAnyH_done (by kernel_rfl) ?_ _
          go_wp2_with fail
          go_meet
          exact ⟨wm.heap.size, A5, c5, S5, cs5, rfl, rfl, Blk.new _ _ _, hc5, (rr5.out _ ((Fr.none_alloc _ _).mono (fun _ h => h.elim))).1, (rr5.out _ ((Fr.none_alloc _ _).mono (fun _ h => h.elim))).2, hHeld⟩
        refine AllReadyH.cons (o := { dst := some 10, op := Op.alloc 73, type := 0, pos := "more.go:64", after := #[], guard := none }) rfl (fun K hK => ?_) AllReadyH.nil
        go_simp
        have BPz := Lib.hid (Blk.new W0 73 #[.string ByteArray.empty, .slice none 0 0, .slice none 0 0]).drew
        refine hK.out _ _ (by first | exact ((Fr.refl _ W0).alloc _).drew | exact hHeld.alloc _) (fun hHeld => ?_)
        clear hK K
        try simp only [Act.put, List.setIfInBounds_toArray, List.set_cons_zero, List.set_cons_succ]
        refine wpAnyH_ready (rs := [6]) (by kernel_rfl) (by simp) ?_
        refine AllReadyH.cons (o := { dst := some 80, op := Op.call { callee := Callee.value (Operand.func 28), args := #[Operand.tmp 74, Operand.tmp 78, Operand.tmp 79], argTypes := #[33, 58, 33] }, type := 74, pos := "more.go:64", after := #[{ on := 0, ground := Ground.data }, { on := 4, ground := Ground.data }, { on := 5, ground := Ground.data }], guard := none }) rfl (fun K hK => ?_) AllReadyH.nil
        go_simp
        go_wp2_with (first | (go_at_call 28; refine (HMk.out _ hHeld).mono ?_; rintro r wm ⟨⟨A5, c5, S5, cs5, rfl, hc5, rr5⟩, b5⟩))
        have rr5 := Lib.hid rr5
        have BPm := Lib.hid (BPz.out.below b5)
        have g0 := BPm.out.frozen 0
        have g1 := BPm.out.frozen 1
        have g2 := BPm.out.frozen 2
        have q0 := BPm.out.cell 0
        have q1 := BPm.out.cell 1
        have q2 := BPm.out.cell 2
        simp only [List.getElem?_toArray, List.getElem?_cons_succ, List.getElem?_cons_zero] at q0 q1 q2
        refine hK.out _ _ (hHeld.trans (Fr.b0 b5) (fun _ h => h.elim)) (fun hHeld => ?_)
        clear hK K
        try simp only [Act.put, List.setIfInBounds_toArray, List.set_cons_zero, List.set_cons_succ]
        refine wpAnyH_take (i := 7) (oi := { dst := some 73, op := Op.move (Operand.tmp 80), type := 74, pos := "more.go:64", after := #[{ on := 6, ground := Ground.data }], guard := none }) (v := ?vq11) rfl (by kernel_rfl) (by kernel_rfl) (by kernel_rfl) (fun _ _ _ h => h) (Or.inl ⟨by rfl, ?hq11⟩) (by assumption) ?rq11
        case hq11 => intro W hSw; (try obtain ⟨p0, p1, t0, t1, t2, t3⟩ := HC0.out W hSw); go_simp; (try with_reducible rfl)
        try simp only [Act.put, List.setIfInBounds_toArray, List.set_cons_zero, List.set_cons_succ]
        refine wpAnyH_take (i := 8) (oi := { dst := some 81, op := Op.extract (Operand.tmp 73) 0, type := 73, pos := "more.go:64", after := #[{ on := 7, ground := Ground.data }], guard := none }) (v := ?vq12) rfl (by kernel_rfl) (by kernel_rfl) (by kernel_rfl) (fun _ _ _ h => h) (Or.inl ⟨by rfl, ?hq12⟩) (by assumption) ?rq12
        case hq12 => intro W hSw; (try obtain ⟨p0, p1, t0, t1, t2, t3⟩ := HC0.out W hSw); go_simp; (try with_reducible rfl)
        try simp only [Act.put, List.setIfInBounds_toArray, List.set_cons_zero, List.set_cons_succ]
        refine wpAnyH_take (i := 9) (oi := { dst := some 82, op := Op.extract (Operand.tmp 73) 1, type := 26, pos := "more.go:64", after := #[{ on := 7, ground := Ground.data }, { on := 11, ground := Ground.gcOnly Departure.lateStores }], guard := none }) (v := ?vq13) rfl (by kernel_rfl) (by kernel_rfl) (by kernel_rfl) (fun _ _ _ h => h) (Or.inl ⟨by rfl, ?hq13⟩) (by assumption) ?rq13
        case hq13 => intro W hSw; (try obtain ⟨p0, p1, t0, t1, t2, t3⟩ := HC0.out W hSw); go_simp; (try with_reducible rfl)
        try simp only [Act.put, List.setIfInBounds_toArray, List.set_cons_zero, List.set_cons_succ]
        refine wpAnyH_ready (rs := [11]) (by kernel_rfl) (by simp) ?_
        refine AllReadyH.cons (o := { dst := none, op := Op.store 73 (Operand.tmp 10) (Operand.tmp 81), type := 0, pos := "more.go:64", after := #[{ on := 10, ground := Ground.data }, { on := 8, ground := Ground.data }, { on := 6, ground := Ground.chain }, { on := 0, ground := Ground.phase }, { on := 1, ground := Ground.phase }, { on := 2, ground := Ground.phase }, { on := 3, ground := Ground.phase }, { on := 4, ground := Ground.phase }, { on := 5, ground := Ground.phase }, { on := 6, ground := Ground.phase }, { on := 7, ground := Ground.phase }, { on := 8, ground := Ground.phase }, { on := 9, ground := Ground.textOnly Departure.lateStores }, { on := 10, ground := Ground.phase }], guard := none }) rfl (fun K hK => ?_) AllReadyH.nil
        go_simp
        refine hK.out _ _ (hHeld.set3 (.inr (Nat.le_refl _)) _ _ _) (fun hHeld => ?_)
        clear hK K
        try simp only [Act.put, List.setIfInBounds_toArray, List.set_cons_zero, List.set_cons_succ]
        refine wpAnyH_take (i := 12) (oi := { dst := some 11, op := Op.assign (Operand.tmp 82), type := 26, pos := "more.go:64", after := #[{ on := 9, ground := Ground.data }, { on := 11, ground := Ground.chain }, { on := 0, ground := Ground.phase }, { on := 1, ground := Ground.phase }, { on := 2, ground := Ground.phase }, { on := 3, ground := Ground.phase }, { on := 4, ground := Ground.phase }, { on := 5, ground := Ground.phase }, { on := 6, ground := Ground.phase }, { on := 7, ground := Ground.phase }, { on := 8, ground := Ground.phase }, { on := 9, ground := Ground.phase }, { on := 10, ground := Ground.phase }, { on := 11, ground := Ground.phase }], guard := none }) (v := ?vq14) rfl (by kernel_rfl) (by kernel_rfl) (by kernel_rfl) (fun _ _ _ h => h) (Or.inl ⟨by rfl, ?hq14⟩) (by assumption) ?rq14
        case hq14 => intro W hSw; (try obtain ⟨p0, p1, t0, t1, t2, t3⟩ := HC0.out W hSw); go_simp; (try with_reducible rfl)
        try simp only [Act.put, List.setIfInBounds_toArray, List.set_cons_zero, List.set_cons_succ]
        refine wpAnyH_done (by kernel_rfl) ?_ _
        go_wp2_with fail
        go_meet
        exact ⟨W0.heap.size, A5, c5, S5, cs5, rfl, rfl, BPm.out.set3, hc5, (rr5.out _ ((Fr.refl _ wm).set3 (.inl (by simp)) _ _ _)).1, (rr5.out _ ((Fr.refl _ wm).set3 (.inl (by simp)) _ _ _)).2, hHeld⟩
      case rest =>
        obtain ⟨pg, A5, c5, S5, cs5, rfl, rfl, hb5, hc5, ra5, rs5, hf5⟩ := hcut
        have F5 := Lib.hid hf5
        have p0 := hb5.cell 0
        have p1 := hb5.cell 1
        have p2 := hb5.cell 2
        simp only [List.getElem?_toArray, List.getElem?_cons_succ, List.getElem?_cons_zero] at p0 p1 p2
        have HB6 := Lib.hid (HBu.out _ A5 c5 S5 cs5 F5.out hc5 ra5 rs5)
        clear hb5 hc5 ra5 rs5 hf5 HBu HMk
        go_wp2_with fail
        refine HB6.out.mono ?_
        rintro r w6 ⟨⟨tt, FF, rfl, T6, _⟩, b6⟩
        have F6 : Hid (Fr (fun _ => False) W0 w6) := F5.out.trans (Fr.b0 b6) (fun _ h => h.elim)
        have O6 : Hid (Below w.heap.size w w6) := Ho.out.trans (F6.out.below_of Ho.out.size (fun _ h => h.elim))
        obtain ⟨bA, bc, bB, bd, hR6⟩ := T6.reach
        have HT6 := Lib.hid T6
        rw [HYn.out] at hR6
        have HR6 := Lib.hid hR6
        obtain ⟨nb, hnb⟩ : ∃ v, bs.length = v := ⟨_, rfl⟩
        have HC6 : Hid (∀ W, Fr (fun _ => False) w6 W → W.cell? ⟨w.heap.size, 1, none⟩ = some (.slice A n c) ∧ W.cell? ⟨t, 0, none⟩ = some (.int .i64 x0) ∧ W.cell? ⟨t, 1, none⟩ = some (.string nm) ∧ W.cell? ⟨t, 2, none⟩ = some (.slice tA n tc) ∧ W.cell? ⟨t, 3, none⟩ = some (.slice tB 0 td) ∧ W.cell? ⟨tt, 0, none⟩ = some (.int .i64 x0) ∧ W.cell? ⟨tt, 1, none⟩ = some (.string nm) ∧ W.cell? ⟨tt, 2, none⟩ = some (.slice bA n bc) ∧ W.cell? ⟨tt, 3, none⟩ = some (.slice bB nb bd)) := fun W f => by
          obtain ⟨_, k1, k2, k3, k4, k5⟩ := HC0.out W (F6.out.trans f (fun _ h => h.elim))
          have h := HR6.out.fr0 f
          have h2 := h.c2
          have h3 := h.c3
          rw [hlen] at h2
          rw [hnb] at h3
          exact ⟨k1, k2, k3, k4, k5, h.c0, h.c1, h2, h3⟩
        have HFrB : Hid (∀ W, Fr (fun _ => False) w6 W → ∀ j : Nat, j < n → Calls Try.prog 30 #[.agg #[.int .i64 x0, .string nm, .slice bA n bc, .slice bB nb bd], .int .i64 j] W fun r w' => r = .returned (.int .i64 (fromV x0 l bs j)) ∧ Below W.heap.size W w') := fun W f j hj => by
          have h := reach_from P.out (HR6.out.fr0 f) (by rw [← HYn.out]; exact HT6.out.good.now) j (by omega)
          simp only [hlen, hnb] at h
          exact h
        have HRb : Hid (∀ W, Fr (fun _ => False) w6 W → ∀ j : Nat, j < n → Calls Try.prog 14 #[.pointer (some ⟨tt, 0, none⟩), .int .i64 j] W fun r w' => (∃ A c, r = .returned (.slice A (Y.tabs.getD j []).length c) ∧ Rd w' 7 A (Y.tabs.getD j []).length (rcells (Y.tabs.getD j []))) ∧ Below W.heap.size W w') := fun W f j hj => (tio_records (HT6.out.fr0 f) (by omega) j (by omega)).mono fun r w' ⟨⟨A, c, e, ho⟩, hb⟩ => ⟨⟨A, c, e, (own_any ho).2.2.1⟩, hb⟩
        have HFrT6 : Hid (∀ W, Fr (fun _ => False) w6 W → ∀ j : Nat, j < n → Calls Try.prog 30 #[.agg #[.int .i64 x0, .string nm, .slice tA n tc, .slice tB 0 td], .int .i64 j] W fun r w' => r = .returned (.int .i64 (fromV x0 l [] j)) ∧ Below W.heap.size W w') := fun W f => HFrT.out W (F6.out.trans f (fun _ h => h.elim))
        have HRt6 : Hid (∀ W, Fr (fun _ => False) w6 W → ∀ j : Nat, j < n → Calls Try.prog 14 #[.pointer (some ⟨t, 0, none⟩), .int .i64 j] W fun r w' => (∃ A c, r = .returned (.slice A (X.tabs.getD j []).length c) ∧ Rd w' 7 A (X.tabs.getD j []).length (rcells (X.tabs.getD j []))) ∧ Below W.heap.size W w') := fun W f => HRt.out W (F6.out.trans f (fun _ h => h.elim))
        have OE : Hid (∀ W, Fr (fun _ => False) w6 W → Below w.heap.size w W) := fun W f => O6.out.trans (f.below_of O6.out.size (fun _ h => h.elim))
        clear b6 T6 hR6 p0 p1 p2 HB6 F5 HRt HFrT HC0 hnb HYn HT6 HR6 F6 O6 HT BPr B1 B3 Ho
        go_wp2_with fail
        refine wp_region_held_drew (S := fun W => Fr (fun _ => False) w6 W) (by kernel_rfl) ((Fr.refl _ w6).drew) (fun hHeld => ?_)
        refine wpAnyH_take (i := 0) (oi := { dst := some 91, op := Op.move (Operand.tmp 13), type := 26, pos := "more.go:69", after := #[], guard := none }) (v := ?vq15) rfl (by kernel_rfl) (by kernel_rfl) (by kernel_rfl) (fun _ _ _ h => h) (Or.inl ⟨by rfl, ?hq15⟩) (by assumption) ?rq15
        case hq15 => intro W hSw; (try obtain ⟨p1, t0, t1, t2, t3, z0, z1, z2, z3⟩ := HC6.out W hSw); go_simp; (try with_reducible rfl)
        try simp only [Act.put, List.setIfInBounds_toArray, List.set_cons_zero, List.set_cons_succ]
        refine wpAnyH_take (i := 1) (oi := { dst := some 92, op := Op.binOp BinOp.neq 26 (Operand.tmp 91) (Operand.const (Value.int IntKind.i64 0)) 26, type := 4, pos := "more.go:69", after := #[{ on := 0, ground := Ground.data }], guard := none }) (v := ?vq16) rfl (by kernel_rfl) (by kernel_rfl) (by kernel_rfl) (fun _ _ _ h => h) (Or.inl ⟨by rfl, ?hq16⟩) (by assumption) ?rq16
        case hq16 => intro W hSw; (try obtain ⟨p1, t0, t1, t2, t3, z0, z1, z2, z3⟩ := HC6.out W hSw); go_simp; (try with_reducible rfl)
        try simp only [Act.put, List.setIfInBounds_toArray, List.set_cons_zero, List.set_cons_succ]
        refine wpAnyH_take (i := 2) (oi := { dst := some 93, op := Op.move (Operand.tmp 92), type := 4, pos := "more.go:69", after := #[{ on := 1, ground := Ground.data }], guard := none }) (v := ?vq17) rfl (by kernel_rfl) (by kernel_rfl) (by kernel_rfl) (fun _ _ _ h => h) (Or.inl ⟨by rfl, ?hq17⟩) (by assumption) ?rq17
        case hq17 => intro W hSw; (try obtain ⟨p1, t0, t1, t2, t3, z0, z1, z2, z3⟩ := HC6.out W hSw); go_simp; (try with_reducible rfl)
        try simp only [Act.put, List.setIfInBounds_toArray, List.set_cons_zero, List.set_cons_succ]
        refine wpAnyH_take (i := 3) (oi := { dst := some 94, op := Op.move (Operand.tmp 12), type := 25, pos := "more.go:69", after := #[{ on := 2, ground := Ground.guard }], guard := some (2, false) }) (v := ?vq18) rfl (by kernel_rfl) (by kernel_rfl) (by kernel_rfl) (fun _ _ _ h => h) (Or.inl ⟨by rfl, ?hq18⟩) (by assumption) ?rq18
        case hq18 => intro W hSw; (try obtain ⟨p1, t0, t1, t2, t3, z0, z1, z2, z3⟩ := HC6.out W hSw); go_simp; (try with_reducible rfl)
        try simp only [Act.put, List.setIfInBounds_toArray, List.set_cons_zero, List.set_cons_succ]
        refine wpAnyH_take (i := 4) (oi := { dst := some 95, op := Op.binOp BinOp.eql 25 (Operand.tmp 94) (Operand.const (Value.pointer none)) 25, type := 4, pos := "more.go:69", after := #[{ on := 3, ground := Ground.data }, { on := 2, ground := Ground.guard }], guard := some (2, false) }) (v := ?vq19) rfl (by kernel_rfl) (by kernel_rfl) (by kernel_rfl) (fun _ _ _ h => h) (Or.inl ⟨by rfl, ?hq19⟩) (by assumption) ?rq19
        case hq19 => intro W hSw; (try obtain ⟨p1, t0, t1, t2, t3, z0, z1, z2, z3⟩ := HC6.out W hSw); go_simp; (try with_reducible rfl)
        try simp only [Act.put, List.setIfInBounds_toArray, List.set_cons_zero, List.set_cons_succ]
        refine wpAnyH_take (i := 5) (oi := { dst := some 96, op := Op.pick (Operand.tmp 93) (Operand.const (Value.bool true)) (Operand.tmp 95), type := 4, pos := "more.go:69", after := #[{ on := 2, ground := Ground.data }, { on := 4, ground := Ground.data }], guard := none }) (v := ?vq20) rfl (by kernel_rfl) (by kernel_rfl) (by kernel_rfl) (fun _ _ _ h => h) (Or.inl ⟨by rfl, ?hq20⟩) (by assumption) ?rq20
        case hq20 => intro W hSw; (try obtain ⟨p1, t0, t1, t2, t3, z0, z1, z2, z3⟩ := HC6.out W hSw); go_simp; (try with_reducible rfl)
        try simp only [Act.put, List.setIfInBounds_toArray, List.set_cons_zero, List.set_cons_succ]
        refine wpAnyH_take (i := 6) (oi := { dst := some 97, op := Op.move (Operand.tmp 96), type := 4, pos := "more.go:69", after := #[{ on := 5, ground := Ground.data }, { on := 2, ground := Ground.chain }], guard := none }) (v := ?vq21) rfl (by kernel_rfl) (by kernel_rfl) (by kernel_rfl) (fun _ _ _ h => h) (Or.inl ⟨by rfl, ?hq21⟩) (by assumption) ?rq21
        case hq21 => intro W hSw; (try obtain ⟨p1, t0, t1, t2, t3, z0, z1, z2, z3⟩ := HC6.out W hSw); go_simp; (try with_reducible rfl)
        try simp only [Act.put, List.setIfInBounds_toArray, List.set_cons_zero, List.set_cons_succ]
        refine wpAnyH_take (i := 7) (oi := { dst := some 98, op := Op.move (Operand.tmp 12), type := 25, pos := "more.go:69", after := #[{ on := 6, ground := Ground.guard }], guard := some (6, false) }) (v := ?vq22) rfl (by kernel_rfl) (by kernel_rfl) (by kernel_rfl) (fun _ _ _ h => h) (Or.inl ⟨by rfl, ?hq22⟩) (by assumption) ?rq22
        case hq22 => intro W hSw; (try obtain ⟨p1, t0, t1, t2, t3, z0, z1, z2, z3⟩ := HC6.out W hSw); go_simp; (try with_reducible rfl)
        try simp only [Act.put, List.setIfInBounds_toArray, List.set_cons_zero, List.set_cons_succ]
        refine wpAnyH_take (i := 8) (oi := { dst := some 99, op := Op.nilCheck (Operand.tmp 98), type := 0, pos := "more.go:69", after := #[{ on := 7, ground := Ground.data }, { on := 6, ground := Ground.guard }], guard := some (6, false) }) (v := ?vq23) rfl (by kernel_rfl) (by kernel_rfl) (by kernel_rfl) (fun _ _ _ h => h) (Or.inl ⟨by rfl, ?hq23⟩) (by assumption) ?rq23
        case hq23 => intro W hSw; (try obtain ⟨p1, t0, t1, t2, t3, z0, z1, z2, z3⟩ := HC6.out W hSw); go_simp; (try with_reducible rfl)
        try simp only [Act.put, List.setIfInBounds_toArray, List.set_cons_zero, List.set_cons_succ]
        refine wpAnyH_take (i := 9) (oi := { dst := some 100, op := Op.fieldAddr 61 (Operand.tmp 99) 0, type := 0, pos := "more.go:69", after := #[{ on := 8, ground := Ground.data }, { on := 6, ground := Ground.guard }], guard := some (6, false) }) (v := ?vq24) rfl (by kernel_rfl) (by kernel_rfl) (by kernel_rfl) (fun _ _ _ h => h) (Or.inl ⟨by rfl, ?hq24⟩) (by assumption) ?rq24
        case hq24 => intro W hSw; (try obtain ⟨p1, t0, t1, t2, t3, z0, z1, z2, z3⟩ := HC6.out W hSw); go_simp; (try with_reducible rfl)
        try simp only [Act.put, List.setIfInBounds_toArray, List.set_cons_zero, List.set_cons_succ]
        refine wpAnyH_take (i := 10) (oi := { dst := some 101, op := Op.fieldAddr 58 (Operand.tmp 100) 0, type := 0, pos := "more.go:69", after := #[{ on := 9, ground := Ground.data }, { on := 6, ground := Ground.guard }], guard := some (6, false) }) (v := ?vq25) rfl (by kernel_rfl) (by kernel_rfl) (by kernel_rfl) (fun _ _ _ h => h) (Or.inl ⟨by rfl, ?hq25⟩) (by assumption) ?rq25
        case hq25 => intro W hSw; (try obtain ⟨p1, t0, t1, t2, t3, z0, z1, z2, z3⟩ := HC6.out W hSw); go_simp; (try with_reducible rfl)
        try simp only [Act.put, List.setIfInBounds_toArray, List.set_cons_zero, List.set_cons_succ]
        refine wpAnyH_take (i := 11) (oi := { dst := some 102, op := Op.load 3 (Operand.tmp 101), type := 3, pos := "more.go:69", after := #[{ on := 10, ground := Ground.data }, { on := 6, ground := Ground.guard }], guard := some (6, false) }) (v := ?vq26) rfl (by kernel_rfl) (by kernel_rfl) (by kernel_rfl) (fun _ _ _ h => h) (Or.inl ⟨by rfl, ?hq26⟩) (by assumption) ?rq26
        case hq26 => intro W hSw; (try obtain ⟨p1, t0, t1, t2, t3, z0, z1, z2, z3⟩ := HC6.out W hSw); go_simp; (try with_reducible rfl)
        try simp only [Act.put, List.setIfInBounds_toArray, List.set_cons_zero, List.set_cons_succ]
        refine wpAnyH_take (i := 12) (oi := { dst := some 103, op := Op.move (Operand.tmp 7), type := 25, pos := "more.go:69", after := #[{ on := 6, ground := Ground.guard }], guard := some (6, false) }) (v := ?vq27) rfl (by kernel_rfl) (by kernel_rfl) (by kernel_rfl) (fun _ _ _ h => h) (Or.inl ⟨by rfl, ?hq27⟩) (by assumption) ?rq27
        case hq27 => intro W hSw; (try obtain ⟨p1, t0, t1, t2, t3, z0, z1, z2, z3⟩ := HC6.out W hSw); go_simp; (try with_reducible rfl)
        try simp only [Act.put, List.setIfInBounds_toArray, List.set_cons_zero, List.set_cons_succ]
        refine wpAnyH_take (i := 13) (oi := { dst := some 104, op := Op.nilCheck (Operand.tmp 103), type := 0, pos := "more.go:69", after := #[{ on := 12, ground := Ground.data }, { on := 6, ground := Ground.guard }], guard := some (6, false) }) (v := ?vq28) rfl (by kernel_rfl) (by kernel_rfl) (by kernel_rfl) (fun _ _ _ h => h) (Or.inl ⟨by rfl, ?hq28⟩) (by assumption) ?rq28
        case hq28 => intro W hSw; (try obtain ⟨p1, t0, t1, t2, t3, z0, z1, z2, z3⟩ := HC6.out W hSw); go_simp; (try with_reducible rfl)
        try simp only [Act.put, List.setIfInBounds_toArray, List.set_cons_zero, List.set_cons_succ]
        refine wpAnyH_take (i := 14) (oi := { dst := some 105, op := Op.fieldAddr 61 (Operand.tmp 104) 0, type := 0, pos := "more.go:69", after := #[{ on := 13, ground := Ground.data }, { on := 6, ground := Ground.guard }], guard := some (6, false) }) (v := ?vq29) rfl (by kernel_rfl) (by kernel_rfl) (by kernel_rfl) (fun _ _ _ h => h) (Or.inl ⟨by rfl, ?hq29⟩) (by assumption) ?rq29
        case hq29 => intro W hSw; (try obtain ⟨p1, t0, t1, t2, t3, z0, z1, z2, z3⟩ := HC6.out W hSw); go_simp; (try with_reducible rfl)
        try simp only [Act.put, List.setIfInBounds_toArray, List.set_cons_zero, List.set_cons_succ]
        refine wpAnyH_take (i := 15) (oi := { dst := some 106, op := Op.fieldAddr 58 (Operand.tmp 105) 0, type := 0, pos := "more.go:69", after := #[{ on := 14, ground := Ground.data }, { on := 6, ground := Ground.guard }], guard := some (6, false) }) (v := ?vq30) rfl (by kernel_rfl) (by kernel_rfl) (by kernel_rfl) (fun _ _ _ h => h) (Or.inl ⟨by rfl, ?hq30⟩) (by assumption) ?rq30
        case hq30 => intro W hSw; (try obtain ⟨p1, t0, t1, t2, t3, z0, z1, z2, z3⟩ := HC6.out W hSw); go_simp; (try with_reducible rfl)
        try simp only [Act.put, List.setIfInBounds_toArray, List.set_cons_zero, List.set_cons_succ]
        refine wpAnyH_take (i := 16) (oi := { dst := some 107, op := Op.load 3 (Operand.tmp 106), type := 3, pos := "more.go:69", after := #[{ on := 15, ground := Ground.data }, { on := 6, ground := Ground.guard }], guard := some (6, false) }) (v := ?vq31) rfl (by kernel_rfl) (by kernel_rfl) (by kernel_rfl) (fun _ _ _ h => h) (Or.inl ⟨by rfl, ?hq31⟩) (by assumption) ?rq31
        case hq31 => intro W hSw; (try obtain ⟨p1, t0, t1, t2, t3, z0, z1, z2, z3⟩ := HC6.out W hSw); go_simp; (try with_reducible rfl)
        try simp only [Act.put, List.setIfInBounds_toArray, List.set_cons_zero, List.set_cons_succ]
        refine wpAnyH_take (i := 17) (oi := { dst := some 108, op := Op.binOp BinOp.neq 3 (Operand.tmp 102) (Operand.tmp 107) 3, type := 4, pos := "more.go:69", after := #[{ on := 11, ground := Ground.data }, { on := 16, ground := Ground.data }, { on := 6, ground := Ground.guard }], guard := some (6, false) }) (v := ?vq32) rfl (by kernel_rfl) (by kernel_rfl) (by kernel_rfl) (fun _ _ _ h => h) (Or.inl ⟨by rfl, ?hq32⟩) (by assumption) ?rq32
        case hq32 => intro W hSw; (try obtain ⟨p1, t0, t1, t2, t3, z0, z1, z2, z3⟩ := HC6.out W hSw); go_simp; (try with_reducible rfl)
        try simp only [Act.put, List.setIfInBounds_toArray, List.set_cons_zero, List.set_cons_succ]
        refine wpAnyH_take (i := 18) (oi := { dst := some 109, op := Op.pick (Operand.tmp 97) (Operand.const (Value.bool true)) (Operand.tmp 108), type := 4, pos := "more.go:69", after := #[{ on := 6, ground := Ground.data }, { on := 17, ground := Ground.data }], guard := none }) (v := ?vq33) rfl (by kernel_rfl) (by kernel_rfl) (by kernel_rfl) (fun _ _ _ h => h) (Or.inl ⟨by rfl, ?hq33⟩) (by assumption) ?rq33
        case hq33 => intro W hSw; (try obtain ⟨p1, t0, t1, t2, t3, z0, z1, z2, z3⟩ := HC6.out W hSw); go_simp; (try with_reducible rfl)
        try simp only [Act.put, List.setIfInBounds_toArray, List.set_cons_zero, List.set_cons_succ]
        refine wpAnyH_done (by kernel_rfl) ?_ _
        have H7 := Lib.hid hHeld
        clear hHeld
        go_wp2_with fail
        go_loopw [14] (fun i ws => ∃ j : Nat, j ≤ n ∧ i = .int .i64 j ∧ Fr (fun _ => False) w6 ws) (fun i _ => n - (intOf i).toNat)
        case atStart => exact ⟨0, Nat.zero_le _, rfl, H7.out⟩
        case round =>
          obtain ⟨j, hj, rfl, fj⟩ := hrel
          have Fj := Lib.hid fj
          have pp := (HC6.out _ fj).1
          clear fj H7
          by_cases hlj : j < n
          · obtain ⟨hs1, hs2⟩ := Hsame.out j hlj
            have HFb := Lib.hid (fun W f => HFrB.out W f j hlj)
            have HFt := Lib.hid (fun W f => HFrT6.out W f j hlj)
            have HBj := Lib.hid (fun W f => HRb.out W f j hlj)
            have HTj := Lib.hid (fun W f => HRt6.out W f j hlj)
            have hLy := Hshort.out j
            obtain ⟨fb, hfb⟩ : ∃ v, fromV x0 l bs j = v := ⟨_, rfl⟩
            obtain ⟨ft, hft⟩ : ∃ v, fromV x0 l [] j = v := ⟨_, rfl⟩
            obtain ⟨LX, hLX⟩ : ∃ v, Y.tabs.getD j [] = v := ⟨_, rfl⟩
            obtain ⟨LY, hLY⟩ : ∃ v, X.tabs.getD j [] = v := ⟨_, rfl⟩
            rw [hfb] at HFb hs1 hs2
            rw [hft] at HFt hs1
            rw [hLX] at HBj hs2
            rw [hLY] at HTj hs2 hLy
            have d1 : decide (fb < ft) = false := decide_eq_false (by omega)
            have d2 : ¬ fb < ft := by omega
            obtain ⟨Pf, hPf⟩ : ∃ P : RecV → Bool, (fun r => !startBelow fb r) = P := ⟨_, rfl⟩
            have HPf : Hid (∀ r, Pf r = decide (fb ≤ r.start)) := fun r => by
              rw [← hPf]
              unfold startBelow
              by_cases h : r.start < fb
              · simp [h]
              · simp [h]; omega
            have HLX : Hid (LX = LY.filter Pf) := by show _ = _; rw [hs2, ← hPf]; rfl
            obtain ⟨ny, hny⟩ : ∃ v, LY.length = v := ⟨_, rfl⟩
            obtain ⟨nx, hnx⟩ : ∃ v, LX.length = v := ⟨_, rfl⟩
            have hxy : nx ≤ ny := by rw [← hnx, HLX.out, ← hny]; exact List.length_filter_le _ _
            have Hny := Lib.hid hny
            have Hnx := Lib.hid hnx
            rw [hny] at HTj hLy
            rw [hnx] at HBj
            clear hfb hft hLX hLY hs1 hs2 hPf hny hnx
            have hj2 : IntKind.i64.wrap ((j : Int) + 1) = (j : Int) + 1 := by simp [IntKind.wrap, IntKind.signed, IntKind.bits]; omega
            go_wp2_with fail
            refine wp_region_held_drew (S := fun W => Fr (fun _ => False) w6 W) (by kernel_rfl) (Fj.out.drew) (fun hHeld => ?_)
            refine wpAnyH_take (i := 0) (oi := { dst := some 117, op := Op.move (Operand.tmp 12), type := 25, pos := "more.go:73", after := #[], guard := none }) (v := ?vq34) rfl (by kernel_rfl) (by kernel_rfl) (by kernel_rfl) (fun _ _ _ h => h) (Or.inl ⟨by rfl, ?hq34⟩) (by assumption) ?rq34
            case hq34 => intro W hSw; (try obtain ⟨p1, t0, t1, t2, t3, z0, z1, z2, z3⟩ := HC6.out W hSw); go_simp; (try with_reducible rfl)
            try simp only [Act.put, List.setIfInBounds_toArray, List.set_cons_zero, List.set_cons_succ]
            refine wpAnyH_take (i := 1) (oi := { dst := some 118, op := Op.nilCheck (Operand.tmp 117), type := 0, pos := "more.go:73", after := #[{ on := 0, ground := Ground.data }], guard := none }) (v := ?vq35) rfl (by kernel_rfl) (by kernel_rfl) (by kernel_rfl) (fun _ _ _ h => h) (Or.inl ⟨by rfl, ?hq35⟩) (by assumption) ?rq35
            case hq35 => intro W hSw; (try obtain ⟨p1, t0, t1, t2, t3, z0, z1, z2, z3⟩ := HC6.out W hSw); go_simp; (try with_reducible rfl)
            try simp only [Act.put, List.setIfInBounds_toArray, List.set_cons_zero, List.set_cons_succ]
            refine wpAnyH_take (i := 2) (oi := { dst := some 119, op := Op.fieldAddr 61 (Operand.tmp 118) 0, type := 0, pos := "more.go:73", after := #[{ on := 1, ground := Ground.data }], guard := none }) (v := ?vq36) rfl (by kernel_rfl) (by kernel_rfl) (by kernel_rfl) (fun _ _ _ h => h) (Or.inl ⟨by rfl, ?hq36⟩) (by assumption) ?rq36
            case hq36 => intro W hSw; (try obtain ⟨p1, t0, t1, t2, t3, z0, z1, z2, z3⟩ := HC6.out W hSw); go_simp; (try with_reducible rfl)
            try simp only [Act.put, List.setIfInBounds_toArray, List.set_cons_zero, List.set_cons_succ]
            refine wpAnyH_take (i := 3) (oi := { dst := some 120, op := Op.load 58 (Operand.tmp 119), type := 58, pos := "more.go:73", after := #[{ on := 2, ground := Ground.data }], guard := none }) (v := ?vq37) rfl (by kernel_rfl) (by kernel_rfl) (by kernel_rfl) (fun _ _ _ h => h) (Or.inl ⟨by rfl, ?hq37⟩) (by assumption) ?rq37
            case hq37 => intro W hSw; (try obtain ⟨p1, t0, t1, t2, t3, z0, z1, z2, z3⟩ := HC6.out W hSw); go_simp; (try with_reducible rfl)
            try simp only [Act.put, List.setIfInBounds_toArray, List.set_cons_zero, List.set_cons_succ]
            refine wpAnyH_take (i := 4) (oi := { dst := some 121, op := Op.move (Operand.tmp 14), type := 3, pos := "more.go:73", after := #[], guard := none }) (v := ?vq38) rfl (by kernel_rfl) (by kernel_rfl) (by kernel_rfl) (fun _ _ _ h => h) (Or.inl ⟨by rfl, ?hq38⟩) (by assumption) ?rq38
            case hq38 => intro W hSw; (try obtain ⟨p1, t0, t1, t2, t3, z0, z1, z2, z3⟩ := HC6.out W hSw); go_simp; (try with_reducible rfl)
            try simp only [Act.put, List.setIfInBounds_toArray, List.set_cons_zero, List.set_cons_succ]
            refine wpAnyH_take (i := 6) (oi := { dst := some 123, op := Op.move (Operand.tmp 7), type := 25, pos := "more.go:73", after := #[], guard := none }) (v := ?vq39) rfl (by kernel_rfl) (by kernel_rfl) (by kernel_rfl) (fun _ _ _ h => h) (Or.inl ⟨by rfl, ?hq39⟩) (by assumption) ?rq39
            case hq39 => intro W hSw; (try obtain ⟨p1, t0, t1, t2, t3, z0, z1, z2, z3⟩ := HC6.out W hSw); go_simp; (try with_reducible rfl)
            try simp only [Act.put, List.setIfInBounds_toArray, List.set_cons_zero, List.set_cons_succ]
            refine wpAnyH_take (i := 7) (oi := { dst := some 124, op := Op.nilCheck (Operand.tmp 123), type := 0, pos := "more.go:73", after := #[{ on := 6, ground := Ground.data }], guard := none }) (v := ?vq40) rfl (by kernel_rfl) (by kernel_rfl) (by kernel_rfl) (fun _ _ _ h => h) (Or.inl ⟨by rfl, ?hq40⟩) (by assumption) ?rq40
            case hq40 => intro W hSw; (try obtain ⟨p1, t0, t1, t2, t3, z0, z1, z2, z3⟩ := HC6.out W hSw); go_simp; (try with_reducible rfl)
            try simp only [Act.put, List.setIfInBounds_toArray, List.set_cons_zero, List.set_cons_succ]
            refine wpAnyH_take (i := 8) (oi := { dst := some 125, op := Op.fieldAddr 61 (Operand.tmp 124) 0, type := 0, pos := "more.go:73", after := #[{ on := 7, ground := Ground.data }], guard := none }) (v := ?vq41) rfl (by kernel_rfl) (by kernel_rfl) (by kernel_rfl) (fun _ _ _ h => h) (Or.inl ⟨by rfl, ?hq41⟩) (by assumption) ?rq41
            case hq41 => intro W hSw; (try obtain ⟨p1, t0, t1, t2, t3, z0, z1, z2, z3⟩ := HC6.out W hSw); go_simp; (try with_reducible rfl)
            try simp only [Act.put, List.setIfInBounds_toArray, List.set_cons_zero, List.set_cons_succ]
            refine wpAnyH_take (i := 9) (oi := { dst := some 126, op := Op.load 58 (Operand.tmp 125), type := 58, pos := "more.go:73", after := #[{ on := 8, ground := Ground.data }], guard := none }) (v := ?vq42) rfl (by kernel_rfl) (by kernel_rfl) (by kernel_rfl) (fun _ _ _ h => h) (Or.inl ⟨by rfl, ?hq42⟩) (by assumption) ?rq42
            case hq42 => intro W hSw; (try obtain ⟨p1, t0, t1, t2, t3, z0, z1, z2, z3⟩ := HC6.out W hSw); go_simp; (try with_reducible rfl)
            try simp only [Act.put, List.setIfInBounds_toArray, List.set_cons_zero, List.set_cons_succ]
            refine wpAnyH_take (i := 10) (oi := { dst := some 127, op := Op.move (Operand.tmp 14), type := 3, pos := "more.go:73", after := #[], guard := none }) (v := ?vq43) rfl (by kernel_rfl) (by kernel_rfl) (by kernel_rfl) (fun _ _ _ h => h) (Or.inl ⟨by rfl, ?hq43⟩) (by assumption) ?rq43
            case hq43 => intro W hSw; (try obtain ⟨p1, t0, t1, t2, t3, z0, z1, z2, z3⟩ := HC6.out W hSw); go_simp; (try with_reducible rfl)
            try simp only [Act.put, List.setIfInBounds_toArray, List.set_cons_zero, List.set_cons_succ]
            refine wpAnyH_ready (rs := [5]) (by kernel_rfl) (by simp) ?_
            refine AllReadyH.cons (o := { dst := some 122, op := Op.call { callee := Callee.value (Operand.func 30), args := #[Operand.tmp 120, Operand.tmp 121], argTypes := #[58, 3] }, type := 3, pos := "more.go:73", after := #[{ on := 3, ground := Ground.data }, { on := 4, ground := Ground.data }], guard := none }) rfl (fun K hK => ?_) AllReadyH.nil
            go_simp
            go_wp2_with (first | (go_at_call 30; refine (HFb.out _ hHeld).mono ?_; rintro r wa ⟨rfl, ba⟩))
            refine hK.out _ _ (hHeld.trans (Fr.b0 ba) (fun _ h => h.elim)) (fun hHeld => ?_)
            clear hK K
            try simp only [Act.put, List.setIfInBounds_toArray, List.set_cons_zero, List.set_cons_succ]
            refine wpAnyH_ready (rs := [11]) (by kernel_rfl) (by simp) ?_
            refine AllReadyH.cons (o := { dst := some 128, op := Op.call { callee := Callee.value (Operand.func 30), args := #[Operand.tmp 126, Operand.tmp 127], argTypes := #[58, 3] }, type := 3, pos := "more.go:73", after := #[{ on := 9, ground := Ground.data }, { on := 10, ground := Ground.data }, { on := 5, ground := Ground.chain }], guard := none }) rfl (fun K hK => ?_) AllReadyH.nil
            go_simp
            go_wp2_with (first | (go_at_call 30; refine (HFt.out _ hHeld).mono ?_; rintro r wb ⟨rfl, bb⟩))
            refine hK.out _ _ (hHeld.trans (Fr.b0 bb) (fun _ h => h.elim)) (fun hHeld => ?_)
            clear hK K
            try simp only [Act.put, List.setIfInBounds_toArray, List.set_cons_zero, List.set_cons_succ]
            refine wpAnyH_take (i := 12) (oi := { dst := some 129, op := Op.binOp BinOp.lss 3 (Operand.tmp 122) (Operand.tmp 128) 3, type := 4, pos := "more.go:73", after := #[{ on := 5, ground := Ground.data }, { on := 11, ground := Ground.data }], guard := none }) (v := ?vq44) rfl (by kernel_rfl) (by kernel_rfl) (by kernel_rfl) (fun _ _ _ h => h) (Or.inl ⟨by rfl, ?hq44⟩) (by assumption) ?rq44
            case hq44 => intro W hSw; (try obtain ⟨p1, t0, t1, t2, t3, z0, z1, z2, z3⟩ := HC6.out W hSw); go_simp; (try with_reducible rfl)
            try simp only [Act.put, List.setIfInBounds_toArray, List.set_cons_zero, List.set_cons_succ]
            refine wpAnyH_done (by kernel_rfl) ?_ _
            have H8 := Lib.hid hHeld
            clear hHeld ba bb pp
            go_wp2_with fail
            refine (HBj.out _ H8.out).mono ?_
            rintro r w8 ⟨⟨Ax, cx, rfl, rx⟩, b8⟩
            have F8 : Hid (Fr (fun _ => False) w6 w8) := H8.out.trans (Fr.b0 b8) (fun _ h => h.elim)
            have Rx := Lib.hid rx
            clear b8 rx HBj
            go_wp2_with fail
            refine (HTj.out _ F8.out).mono ?_
            rintro r w9 ⟨⟨Ay, cy, rfl, ry⟩, b9⟩
            have F9 : Hid (Fr (fun _ => False) w6 w9) := F8.out.trans (Fr.b0 b9) (fun _ h => h.elim)
            have Rx9 := Lib.hid (Rx.out.fr0 (Fr.b0 b9))
            have Ry := Lib.hid ry
            clear b9 ry HTj F8 Rx H8
            go_wp2_with fail
            go_loopw [17, 18] (fun kk i ws => ∃ q : Nat, q ≤ ny ∧ kk = .int .i64 (((LY.take q).filter Pf).length : Nat) ∧ i = .int .i64 q ∧ Fr (fun _ => False) w9 ws) (fun _ i _ => ny - (intOf i).toNat)
            case atStart => exact ⟨0, Nat.zero_le _, rfl, rfl, Fr.refl _ _⟩
            case round =>
              obtain ⟨q, hq, rfl, rfl, fq⟩ := hrel
              have Fq := Lib.hid fq
              clear fq
              by_cases hlq : q < ny
              · obtain ⟨ay, v, rfl, hv, d0, e1, e2, e3, e4, e5, e6⟩ := (Ry.out.fr0 Fq.out).rec_ hlq
                have hq2 : IntKind.i64.wrap ((q : Int) + 1) = (q : Int) + 1 := by simp [IntKind.wrap, IntKind.signed, IntKind.bits]; omega
                have hq3 : 0 ≤ (q : Int) ∧ (q : Int) < (ny : Int) := by omega
                have Hsn : Hid (((LY.take (q + 1)).filter Pf).length = ((LY.take q).filter Pf).length + (if Pf v then 1 else 0)) := filter_snoc hv
                have hcl : ((LY.take q).filter Pf).length ≤ q := Nat.le_trans (List.length_filter_le _ _) (by rw [List.length_take]; omega)
                have HPv := Lib.hid (HPf.out v)
                have HCr : Hid (∀ W, Fr (fun _ => False) wr W → W.cell? (ay.add (q * 7)) = some (.string v.name) ∧ W.cell? ⟨(ay.add (q * 7)).block, (ay.add (q * 7)).off + 1, none⟩ = some (.int .i64 v.start) ∧ W.cell? ⟨(ay.add (q * 7)).block, (ay.add (q * 7)).off + 2, none⟩ = some (.int .i64 v.agg.count) ∧ W.cell? ⟨(ay.add (q * 7)).block, (ay.add (q * 7)).off + 3, none⟩ = some (.int .i64 v.agg.hi) ∧ W.cell? ⟨(ay.add (q * 7)).block, (ay.add (q * 7)).off + 4, none⟩ = some (.int .u64 v.agg.lo) ∧ W.cell? ⟨(ay.add (q * 7)).block, (ay.add (q * 7)).off + 5, none⟩ = some (.int .i64 v.agg.min) ∧ W.cell? ⟨(ay.add (q * 7)).block, (ay.add (q * 7)).off + 6, none⟩ = some (.int .i64 v.agg.max)) := fun W f =>
                  ⟨f.cell d0 (fun h => h), f.cell e1 (fun h => h), f.cell e2 (fun h => h), f.cell e3 (fun h => h), f.cell e4 (fun h => h), f.cell e5 (fun h => h), f.cell e6 (fun h => h)⟩
                have F6q : Hid (Fr (fun _ => False) w6 wr) := F9.out.trans Fq.out (fun _ h => h.elim)
                have HCq : Hid (∀ W, Fr (fun _ => False) wr W → W.cell? ⟨tt, 0, none⟩ = some (.int .i64 x0) ∧ W.cell? ⟨tt, 1, none⟩ = some (.string nm) ∧ W.cell? ⟨tt, 2, none⟩ = some (.slice bA n bc) ∧ W.cell? ⟨tt, 3, none⟩ = some (.slice bB nb bd)) := fun W f => (HC6.out W (F6q.out.trans f (fun _ h => h.elim))).2.2.2.2.2
                have HFq : Hid (∀ W, Fr (fun _ => False) wr W → Calls Try.prog 30 #[.agg #[.int .i64 x0, .string nm, .slice bA n bc, .slice bB nb bd], .int .i64 j] W fun r w' => r = .returned (.int .i64 fb) ∧ Below W.heap.size W w') := fun W f => HFb.out W (F6q.out.trans f (fun _ h => h.elim))
                by_cases hp : fb ≤ v.start
                · have g1 : decide (fb ≤ v.start) = true := decide_eq_true hp
                  have hpv : Pf v = true := by rw [HPv.out]; exact g1
                  have hat : LX[((LY.take q).filter Pf).length]? = some v := by rw [HLX.out]; exact filter_at hv hpv
                  rw [hpv, if_pos rfl] at Hsn
                  obtain ⟨kq, hkq⟩ : ∃ z, ((LY.take q).filter Pf).length = z := ⟨_, rfl⟩
                  rw [hkq] at hat Hsn hcl ⊢
                  have hkx : kq < nx := by rw [← Hnx.out]; exact (List.getElem?_eq_some_iff.1 hat).1
                  obtain ⟨ax, v', rfl, hv', x0', x1', x2', x3', x4', x5', x6'⟩ := (Rx9.out.fr0 Fq.out).rec_ hkx
                  obtain rfl : v = v' := by rw [hat] at hv'; exact Option.some.inj hv'
                  have hk1 : decide ((nx : Int) ≤ (kq : Int)) = false := decide_eq_false (by omega)
                  have hk2 : decide (nx ≤ kq) = false := decide_eq_false (by omega)
                  have hk3 : 0 ≤ (kq : Int) ∧ (kq : Int) < (nx : Int) := by omega
                  have hk4 : IntKind.i64.wrap ((kq : Int) + 1) = (kq : Int) + 1 := by simp [IntKind.wrap, IntKind.signed, IntKind.bits]; omega
                  have HCx : Hid (∀ W, Fr (fun _ => False) wr W → W.cell? (ax.add (kq * 7)) = some (.string v.name) ∧ W.cell? ⟨(ax.add (kq * 7)).block, (ax.add (kq * 7)).off + 1, none⟩ = some (.int .i64 v.start) ∧ W.cell? ⟨(ax.add (kq * 7)).block, (ax.add (kq * 7)).off + 2, none⟩ = some (.int .i64 v.agg.count) ∧ W.cell? ⟨(ax.add (kq * 7)).block, (ax.add (kq * 7)).off + 3, none⟩ = some (.int .i64 v.agg.hi) ∧ W.cell? ⟨(ax.add (kq * 7)).block, (ax.add (kq * 7)).off + 4, none⟩ = some (.int .u64 v.agg.lo) ∧ W.cell? ⟨(ax.add (kq * 7)).block, (ax.add (kq * 7)).off + 5, none⟩ = some (.int .i64 v.agg.min) ∧ W.cell? ⟨(ax.add (kq * 7)).block, (ax.add (kq * 7)).off + 6, none⟩ = some (.int .i64 v.agg.max)) := fun W f =>
                    ⟨f.cell x0' (fun h => h), f.cell x1' (fun h => h), f.cell x2' (fun h => h), f.cell x3' (fun h => h), f.cell x4' (fun h => h), f.cell x5' (fun h => h), f.cell x6' (fun h => h)⟩
                  have hNe := fun W => recNeS_true (rfl : v = v) W
                  unfold RecV.val at hNe
                  obtain ⟨v0, hv0⟩ : ∃ z, v.name = z := ⟨_, rfl⟩
                  obtain ⟨v1, hv1⟩ : ∃ z, v.start = z := ⟨_, rfl⟩
                  obtain ⟨v2, hv2⟩ : ∃ z, v.agg.count = z := ⟨_, rfl⟩
                  obtain ⟨v3, hv3⟩ : ∃ z, v.agg.hi = z := ⟨_, rfl⟩
                  obtain ⟨v4, hv4⟩ : ∃ z, v.agg.lo = z := ⟨_, rfl⟩
                  obtain ⟨v5, hv5⟩ : ∃ z, v.agg.min = z := ⟨_, rfl⟩
                  obtain ⟨v6, hv6⟩ : ∃ z, v.agg.max = z := ⟨_, rfl⟩
                  rw [hv0, hv1, hv2, hv3, hv4, hv5, hv6] at HCr HCx hNe
                  rw [hv1] at g1 hp
                  clear hv hv' hat hpv hkq HPv d0 e1 e2 e3 e4 e5 e6 x0' x1' x2' x3' x4' x5' x6' hv0 hv1 hv2 hv3 hv4 hv5 hv6
                  go_wp2_with fail
                  refine wp_region_held_drew (S := fun W => Fr (fun _ => False) wr W) (by kernel_rfl) ((Fr.refl _ wr).drew) (fun hHeld => ?_)
                  refine wpAnyH_take (i := 0) (oi := { dst := some 142, op := Op.move (Operand.tmp 16), type := 38, pos := "more.go:79", after := #[], guard := none }) (v := ?vq45) rfl (by kernel_rfl) (by kernel_rfl) (by kernel_rfl) (fun _ _ _ h => h) (Or.inl ⟨by rfl, ?hq45⟩) (by assumption) ?rq45
                  case hq45 => intro W hSw; (try obtain ⟨r0, r1, r2, r3, r4, r5, r6⟩ := HCr.out W hSw; obtain ⟨z0, z1, z2, z3⟩ := HCq.out W hSw); go_simp; (try with_reducible rfl)
                  try simp only [Act.put, List.setIfInBounds_toArray, List.set_cons_zero, List.set_cons_succ]
                  refine wpAnyH_take (i := 1) (oi := { dst := some 143, op := Op.move (Operand.tmp 18), type := 3, pos := "more.go:79", after := #[], guard := none }) (v := ?vq46) rfl (by kernel_rfl) (by kernel_rfl) (by kernel_rfl) (fun _ _ _ h => h) (Or.inl ⟨by rfl, ?hq46⟩) (by assumption) ?rq46
                  case hq46 => intro W hSw; (try obtain ⟨r0, r1, r2, r3, r4, r5, r6⟩ := HCr.out W hSw; obtain ⟨z0, z1, z2, z3⟩ := HCq.out W hSw); go_simp; (try with_reducible rfl)
                  try simp only [Act.put, List.setIfInBounds_toArray, List.set_cons_zero, List.set_cons_succ]
                  refine wpAnyH_take (i := 2) (oi := { dst := some 144, op := Op.indexAddr 38 (Operand.tmp 142) (Operand.tmp 143), type := 0, pos := "more.go:79", after := #[{ on := 0, ground := Ground.data }, { on := 1, ground := Ground.data }], guard := none }) (v := ?vq47) rfl (by kernel_rfl) (by kernel_rfl) (by kernel_rfl) (fun _ _ _ h => h) (Or.inl ⟨by rfl, ?hq47⟩) (by assumption) ?rq47
                  case hq47 => intro W hSw; (try obtain ⟨r0, r1, r2, r3, r4, r5, r6⟩ := HCr.out W hSw; obtain ⟨z0, z1, z2, z3⟩ := HCq.out W hSw); go_simp; (try with_reducible rfl)
                  try simp only [Act.put, List.setIfInBounds_toArray, List.set_cons_zero, List.set_cons_succ]
                  refine wpAnyH_take (i := 3) (oi := { dst := some 145, op := Op.fieldAddr 43 (Operand.tmp 144) 1, type := 0, pos := "more.go:79", after := #[{ on := 2, ground := Ground.data }], guard := none }) (v := ?vq48) rfl (by kernel_rfl) (by kernel_rfl) (by kernel_rfl) (fun _ _ _ h => h) (Or.inl ⟨by rfl, ?hq48⟩) (by assumption) ?rq48
                  case hq48 => intro W hSw; (try obtain ⟨r0, r1, r2, r3, r4, r5, r6⟩ := HCr.out W hSw; obtain ⟨z0, z1, z2, z3⟩ := HCq.out W hSw); go_simp; (try with_reducible rfl)
                  try simp only [Act.put, List.setIfInBounds_toArray, List.set_cons_zero, List.set_cons_succ]
                  refine wpAnyH_take (i := 4) (oi := { dst := some 146, op := Op.load 3 (Operand.tmp 145), type := 3, pos := "more.go:79", after := #[{ on := 3, ground := Ground.data }], guard := none }) (v := ?vq49) rfl (by kernel_rfl) (by kernel_rfl) (by kernel_rfl) (fun _ _ _ h => h) (Or.inl ⟨by rfl, ?hq49⟩) (by assumption) ?rq49
                  case hq49 => intro W hSw; (try obtain ⟨r0, r1, r2, r3, r4, r5, r6⟩ := HCr.out W hSw; obtain ⟨z0, z1, z2, z3⟩ := HCq.out W hSw); go_simp; (try with_reducible rfl)
                  try simp only [Act.put, List.setIfInBounds_toArray, List.set_cons_zero, List.set_cons_succ]
                  refine wpAnyH_take (i := 5) (oi := { dst := some 147, op := Op.move (Operand.tmp 12), type := 25, pos := "more.go:79", after := #[], guard := none }) (v := ?vq50) rfl (by kernel_rfl) (by kernel_rfl) (by kernel_rfl) (fun _ _ _ h => h) (Or.inl ⟨by rfl, ?hq50⟩) (by assumption) ?rq50
                  case hq50 => intro W hSw; (try obtain ⟨r0, r1, r2, r3, r4, r5, r6⟩ := HCr.out W hSw; obtain ⟨z0, z1, z2, z3⟩ := HCq.out W hSw); go_simp; (try with_reducible rfl)
                  try simp only [Act.put, List.setIfInBounds_toArray, List.set_cons_zero, List.set_cons_succ]
                  refine wpAnyH_take (i := 6) (oi := { dst := some 148, op := Op.nilCheck (Operand.tmp 147), type := 0, pos := "more.go:79", after := #[{ on := 5, ground := Ground.data }], guard := none }) (v := ?vq51) rfl (by kernel_rfl) (by kernel_rfl) (by kernel_rfl) (fun _ _ _ h => h) (Or.inl ⟨by rfl, ?hq51⟩) (by assumption) ?rq51
                  case hq51 => intro W hSw; (try obtain ⟨r0, r1, r2, r3, r4, r5, r6⟩ := HCr.out W hSw; obtain ⟨z0, z1, z2, z3⟩ := HCq.out W hSw); go_simp; (try with_reducible rfl)
                  try simp only [Act.put, List.setIfInBounds_toArray, List.set_cons_zero, List.set_cons_succ]
                  refine wpAnyH_take (i := 7) (oi := { dst := some 149, op := Op.fieldAddr 61 (Operand.tmp 148) 0, type := 0, pos := "more.go:79", after := #[{ on := 6, ground := Ground.data }], guard := none }) (v := ?vq52) rfl (by kernel_rfl) (by kernel_rfl) (by kernel_rfl) (fun _ _ _ h => h) (Or.inl ⟨by rfl, ?hq52⟩) (by assumption) ?rq52
                  case hq52 => intro W hSw; (try obtain ⟨r0, r1, r2, r3, r4, r5, r6⟩ := HCr.out W hSw; obtain ⟨z0, z1, z2, z3⟩ := HCq.out W hSw); go_simp; (try with_reducible rfl)
                  try simp only [Act.put, List.setIfInBounds_toArray, List.set_cons_zero, List.set_cons_succ]
                  refine wpAnyH_take (i := 8) (oi := { dst := some 150, op := Op.load 58 (Operand.tmp 149), type := 58, pos := "more.go:79", after := #[{ on := 7, ground := Ground.data }], guard := none }) (v := ?vq53) rfl (by kernel_rfl) (by kernel_rfl) (by kernel_rfl) (fun _ _ _ h => h) (Or.inl ⟨by rfl, ?hq53⟩) (by assumption) ?rq53
                  case hq53 => intro W hSw; (try obtain ⟨r0, r1, r2, r3, r4, r5, r6⟩ := HCr.out W hSw; obtain ⟨z0, z1, z2, z3⟩ := HCq.out W hSw); go_simp; (try with_reducible rfl)
                  try simp only [Act.put, List.setIfInBounds_toArray, List.set_cons_zero, List.set_cons_succ]
                  refine wpAnyH_take (i := 9) (oi := { dst := some 151, op := Op.move (Operand.tmp 14), type := 3, pos := "more.go:79", after := #[], guard := none }) (v := ?vq54) rfl (by kernel_rfl) (by kernel_rfl) (by kernel_rfl) (fun _ _ _ h => h) (Or.inl ⟨by rfl, ?hq54⟩) (by assumption) ?rq54
                  case hq54 => intro W hSw; (try obtain ⟨r0, r1, r2, r3, r4, r5, r6⟩ := HCr.out W hSw; obtain ⟨z0, z1, z2, z3⟩ := HCq.out W hSw); go_simp; (try with_reducible rfl)
                  try simp only [Act.put, List.setIfInBounds_toArray, List.set_cons_zero, List.set_cons_succ]
                  refine wpAnyH_ready (rs := [10]) (by kernel_rfl) (by simp) ?_
                  refine AllReadyH.cons (o := { dst := some 152, op := Op.call { callee := Callee.value (Operand.func 30), args := #[Operand.tmp 150, Operand.tmp 151], argTypes := #[58, 3] }, type := 3, pos := "more.go:79", after := #[{ on := 8, ground := Ground.data }, { on := 9, ground := Ground.data }], guard := none }) rfl (fun K hK => ?_) AllReadyH.nil
                  go_simp
                  go_wp2_with (first | (go_at_call 30; refine (HFq.out _ hHeld).mono ?_; rintro r wa ⟨rfl, ba⟩))
                  refine hK.out _ _ (hHeld.trans (Fr.b0 ba) (fun _ h => h.elim)) (fun hHeld => ?_)
                  clear hK K
                  try simp only [Act.put, List.setIfInBounds_toArray, List.set_cons_zero, List.set_cons_succ]
                  refine wpAnyH_take (i := 11) (oi := { dst := some 153, op := Op.binOp BinOp.geq 3 (Operand.tmp 146) (Operand.tmp 152) 3, type := 4, pos := "more.go:79", after := #[{ on := 4, ground := Ground.data }, { on := 10, ground := Ground.data }], guard := none }) (v := ?vq55) rfl (by kernel_rfl) (by kernel_rfl) (by kernel_rfl) (fun _ _ _ h => h) (Or.inl ⟨by rfl, ?hq55⟩) (by assumption) ?rq55
                  case hq55 => intro W hSw; (try obtain ⟨r0, r1, r2, r3, r4, r5, r6⟩ := HCr.out W hSw; obtain ⟨z0, z1, z2, z3⟩ := HCq.out W hSw); go_simp; (try with_reducible rfl)
                  try simp only [Act.put, List.setIfInBounds_toArray, List.set_cons_zero, List.set_cons_succ]
                  refine wpAnyH_done (by kernel_rfl) ?_ _
                  have H10 := Lib.hid hHeld
                  clear hHeld ba
                  go_wp2_with fail
                  refine wp_region_held_drew (S := fun W => Fr (fun _ => False) wr W) (by kernel_rfl) (H10.out.drew) (fun hHeld => ?_)
                  refine wpAnyH_take (i := 0) (oi := { dst := some 154, op := Op.move (Operand.tmp 17), type := 3, pos := "more.go:80", after := #[], guard := none }) (v := ?vq56) rfl (by kernel_rfl) (by kernel_rfl) (by kernel_rfl) (fun _ _ _ h => h) (Or.inl ⟨by rfl, ?hq56⟩) (by assumption) ?rq56
                  case hq56 => intro W hSw; (try obtain ⟨r0, r1, r2, r3, r4, r5, r6⟩ := HCr.out W hSw; obtain ⟨y0, y1, y2, y3, y4, y5, y6⟩ := HCx.out W hSw); go_simp; (try with_reducible rfl)
                  try simp only [Act.put, List.setIfInBounds_toArray, List.set_cons_zero, List.set_cons_succ]
                  refine wpAnyH_take (i := 1) (oi := { dst := some 155, op := Op.move (Operand.tmp 15), type := 38, pos := "more.go:80", after := #[], guard := none }) (v := ?vq57) rfl (by kernel_rfl) (by kernel_rfl) (by kernel_rfl) (fun _ _ _ h => h) (Or.inl ⟨by rfl, ?hq57⟩) (by assumption) ?rq57
                  case hq57 => intro W hSw; (try obtain ⟨r0, r1, r2, r3, r4, r5, r6⟩ := HCr.out W hSw; obtain ⟨y0, y1, y2, y3, y4, y5, y6⟩ := HCx.out W hSw); go_simp; (try with_reducible rfl)
                  try simp only [Act.put, List.setIfInBounds_toArray, List.set_cons_zero, List.set_cons_succ]
                  refine wpAnyH_take (i := 2) (oi := { dst := some 156, op := Op.call { callee := Callee.builtin Builtin.len, args := #[Operand.tmp 155], argTypes := #[38] }, type := 3, pos := "more.go:80", after := #[{ on := 1, ground := Ground.data }], guard := none }) (v := ?vq58) rfl (by kernel_rfl) (by kernel_rfl) (by kernel_rfl) (fun _ _ _ h => h) (Or.inl ⟨by rfl, ?hq58⟩) (by assumption) ?rq58
                  case hq58 => intro W hSw; (try obtain ⟨r0, r1, r2, r3, r4, r5, r6⟩ := HCr.out W hSw; obtain ⟨y0, y1, y2, y3, y4, y5, y6⟩ := HCx.out W hSw); go_simp; (try with_reducible rfl)
                  try simp only [Act.put, List.setIfInBounds_toArray, List.set_cons_zero, List.set_cons_succ]
                  refine wpAnyH_take (i := 3) (oi := { dst := some 157, op := Op.binOp BinOp.geq 3 (Operand.tmp 154) (Operand.tmp 156) 3, type := 4, pos := "more.go:80", after := #[{ on := 0, ground := Ground.data }, { on := 2, ground := Ground.data }], guard := none }) (v := ?vq59) rfl (by kernel_rfl) (by kernel_rfl) (by kernel_rfl) (fun _ _ _ h => h) (Or.inl ⟨by rfl, ?hq59⟩) (by assumption) ?rq59
                  case hq59 => intro W hSw; (try obtain ⟨r0, r1, r2, r3, r4, r5, r6⟩ := HCr.out W hSw; obtain ⟨y0, y1, y2, y3, y4, y5, y6⟩ := HCx.out W hSw); go_simp; (try with_reducible rfl)
                  try simp only [Act.put, List.setIfInBounds_toArray, List.set_cons_zero, List.set_cons_succ]
                  refine wpAnyH_take (i := 4) (oi := { dst := some 158, op := Op.move (Operand.tmp 157), type := 4, pos := "more.go:80", after := #[{ on := 3, ground := Ground.data }], guard := none }) (v := ?vq60) rfl (by kernel_rfl) (by kernel_rfl) (by kernel_rfl) (fun _ _ _ h => h) (Or.inl ⟨by rfl, ?hq60⟩) (by assumption) ?rq60
                  case hq60 => intro W hSw; (try obtain ⟨r0, r1, r2, r3, r4, r5, r6⟩ := HCr.out W hSw; obtain ⟨y0, y1, y2, y3, y4, y5, y6⟩ := HCx.out W hSw); go_simp; (try with_reducible rfl)
                  try simp only [Act.put, List.setIfInBounds_toArray, List.set_cons_zero, List.set_cons_succ]
                  refine wpAnyH_take (i := 5) (oi := { dst := some 159, op := Op.move (Operand.tmp 15), type := 38, pos := "more.go:80", after := #[{ on := 4, ground := Ground.guard }], guard := some (4, false) }) (v := ?vq61) rfl (by kernel_rfl) (by kernel_rfl) (by kernel_rfl) (fun _ _ _ h => h) (Or.inl ⟨by rfl, ?hq61⟩) (by assumption) ?rq61
                  case hq61 => intro W hSw; (try obtain ⟨r0, r1, r2, r3, r4, r5, r6⟩ := HCr.out W hSw; obtain ⟨y0, y1, y2, y3, y4, y5, y6⟩ := HCx.out W hSw); go_simp; (try with_reducible rfl)
                  try simp only [Act.put, List.setIfInBounds_toArray, List.set_cons_zero, List.set_cons_succ]
                  refine wpAnyH_take (i := 6) (oi := { dst := some 160, op := Op.move (Operand.tmp 17), type := 3, pos := "more.go:80", after := #[{ on := 4, ground := Ground.guard }], guard := some (4, false) }) (v := ?vq62) rfl (by kernel_rfl) (by kernel_rfl) (by kernel_rfl) (fun _ _ _ h => h) (Or.inl ⟨by rfl, ?hq62⟩) (by assumption) ?rq62
                  case hq62 => intro W hSw; (try obtain ⟨r0, r1, r2, r3, r4, r5, r6⟩ := HCr.out W hSw; obtain ⟨y0, y1, y2, y3, y4, y5, y6⟩ := HCx.out W hSw); go_simp; (try with_reducible rfl)
                  try simp only [Act.put, List.setIfInBounds_toArray, List.set_cons_zero, List.set_cons_succ]
                  refine wpAnyH_take (i := 7) (oi := { dst := some 161, op := Op.indexAddr 38 (Operand.tmp 159) (Operand.tmp 160), type := 0, pos := "more.go:80", after := #[{ on := 5, ground := Ground.data }, { on := 6, ground := Ground.data }, { on := 4, ground := Ground.guard }], guard := some (4, false) }) (v := ?vq63) rfl (by kernel_rfl) (by kernel_rfl) (by kernel_rfl) (fun _ _ _ h => h) (Or.inl ⟨by rfl, ?hq63⟩) (by assumption) ?rq63
                  case hq63 => intro W hSw; (try obtain ⟨r0, r1, r2, r3, r4, r5, r6⟩ := HCr.out W hSw; obtain ⟨y0, y1, y2, y3, y4, y5, y6⟩ := HCx.out W hSw); go_simp; (try with_reducible rfl)
                  try simp only [Act.put, List.setIfInBounds_toArray, List.set_cons_zero, List.set_cons_succ]
                  refine wpAnyH_take (i := 8) (oi := { dst := some 162, op := Op.load 43 (Operand.tmp 161), type := 43, pos := "more.go:80", after := #[{ on := 7, ground := Ground.data }, { on := 4, ground := Ground.guard }], guard := some (4, false) }) (v := ?vq64) rfl (by kernel_rfl) (by kernel_rfl) (by kernel_rfl) (fun _ _ _ h => h) (Or.inl ⟨by rfl, ?hq64⟩) (by assumption) ?rq64
                  case hq64 => intro W hSw; (try obtain ⟨r0, r1, r2, r3, r4, r5, r6⟩ := HCr.out W hSw; obtain ⟨y0, y1, y2, y3, y4, y5, y6⟩ := HCx.out W hSw); go_simp; (try with_reducible rfl)
                  try simp only [Act.put, List.setIfInBounds_toArray, List.set_cons_zero, List.set_cons_succ]
                  refine wpAnyH_take (i := 9) (oi := { dst := some 163, op := Op.move (Operand.tmp 16), type := 38, pos := "more.go:80", after := #[{ on := 4, ground := Ground.guard }], guard := some (4, false) }) (v := ?vq65) rfl (by kernel_rfl) (by kernel_rfl) (by kernel_rfl) (fun _ _ _ h => h) (Or.inl ⟨by rfl, ?hq65⟩) (by assumption) ?rq65
                  case hq65 => intro W hSw; (try obtain ⟨r0, r1, r2, r3, r4, r5, r6⟩ := HCr.out W hSw; obtain ⟨y0, y1, y2, y3, y4, y5, y6⟩ := HCx.out W hSw); go_simp; (try with_reducible rfl)
                  try simp only [Act.put, List.setIfInBounds_toArray, List.set_cons_zero, List.set_cons_succ]
                  refine wpAnyH_take (i := 10) (oi := { dst := some 164, op := Op.move (Operand.tmp 18), type := 3, pos := "more.go:80", after := #[{ on := 4, ground := Ground.guard }], guard := some (4, false) }) (v := ?vq66) rfl (by kernel_rfl) (by kernel_rfl) (by kernel_rfl) (fun _ _ _ h => h) (Or.inl ⟨by rfl, ?hq66⟩) (by assumption) ?rq66
                  case hq66 => intro W hSw; (try obtain ⟨r0, r1, r2, r3, r4, r5, r6⟩ := HCr.out W hSw; obtain ⟨y0, y1, y2, y3, y4, y5, y6⟩ := HCx.out W hSw); go_simp; (try with_reducible rfl)
                  try simp only [Act.put, List.setIfInBounds_toArray, List.set_cons_zero, List.set_cons_succ]
                  refine wpAnyH_take (i := 11) (oi := { dst := some 165, op := Op.indexAddr 38 (Operand.tmp 163) (Operand.tmp 164), type := 0, pos := "more.go:80", after := #[{ on := 9, ground := Ground.data }, { on := 10, ground := Ground.data }, { on := 4, ground := Ground.guard }], guard := some (4, false) }) (v := ?vq67) rfl (by kernel_rfl) (by kernel_rfl) (by kernel_rfl) (fun _ _ _ h => h) (Or.inl ⟨by rfl, ?hq67⟩) (by assumption) ?rq67
                  case hq67 => intro W hSw; (try obtain ⟨r0, r1, r2, r3, r4, r5, r6⟩ := HCr.out W hSw; obtain ⟨y0, y1, y2, y3, y4, y5, y6⟩ := HCx.out W hSw); go_simp; (try with_reducible rfl)
                  try simp only [Act.put, List.setIfInBounds_toArray, List.set_cons_zero, List.set_cons_succ]
                  refine wpAnyH_take (i := 12) (oi := { dst := some 166, op := Op.load 43 (Operand.tmp 165), type := 43, pos := "more.go:80", after := #[{ on := 11, ground := Ground.data }, { on := 4, ground := Ground.guard }], guard := some (4, false) }) (v := ?vq68) rfl (by kernel_rfl) (by kernel_rfl) (by kernel_rfl) (fun _ _ _ h => h) (Or.inl ⟨by rfl, ?hq68⟩) (by assumption) ?rq68
                  case hq68 => intro W hSw; (try obtain ⟨r0, r1, r2, r3, r4, r5, r6⟩ := HCr.out W hSw; obtain ⟨y0, y1, y2, y3, y4, y5, y6⟩ := HCx.out W hSw); go_simp; (try with_reducible rfl)
                  try simp only [Act.put, List.setIfInBounds_toArray, List.set_cons_zero, List.set_cons_succ]
                  refine wpAnyH_take (i := 13) (oi := { dst := some 167, op := Op.binOp BinOp.neq 43 (Operand.tmp 162) (Operand.tmp 166) 43, type := 4, pos := "more.go:80", after := #[{ on := 8, ground := Ground.data }, { on := 12, ground := Ground.data }, { on := 4, ground := Ground.guard }], guard := some (4, false) }) (v := ?vq69) rfl (by kernel_rfl) (by kernel_rfl) (by kernel_rfl) (fun _ _ _ h => h) (Or.inl ⟨by rfl, ?hq69⟩) (by assumption) ?rq69
                  case hq69 => intro W hSw; (try obtain ⟨r0, r1, r2, r3, r4, r5, r6⟩ := HCr.out W hSw; obtain ⟨y0, y1, y2, y3, y4, y5, y6⟩ := HCx.out W hSw); go_simp; (try with_reducible rfl)
                  try simp only [Act.put, List.setIfInBounds_toArray, List.set_cons_zero, List.set_cons_succ]
                  refine wpAnyH_take (i := 14) (oi := { dst := some 168, op := Op.pick (Operand.tmp 158) (Operand.const (Value.bool true)) (Operand.tmp 167), type := 4, pos := "more.go:80", after := #[{ on := 4, ground := Ground.data }, { on := 13, ground := Ground.data }], guard := none }) (v := ?vq70) rfl (by kernel_rfl) (by kernel_rfl) (by kernel_rfl) (fun _ _ _ h => h) (Or.inl ⟨by rfl, ?hq70⟩) (by assumption) ?rq70
                  case hq70 => intro W hSw; (try obtain ⟨r0, r1, r2, r3, r4, r5, r6⟩ := HCr.out W hSw; obtain ⟨y0, y1, y2, y3, y4, y5, y6⟩ := HCx.out W hSw); go_simp; (try with_reducible rfl)
                  try simp only [Act.put, List.setIfInBounds_toArray, List.set_cons_zero, List.set_cons_succ]
                  refine wpAnyH_done (by kernel_rfl) ?_ _
                  have H11 := Lib.hid hHeld
                  clear hHeld
                  go_wp2_with fail
                  go_roundw
                  case rel => exact ⟨q + 1, by omega, by rw [Hsn.out]; go_num, by go_num, Fq.out.trans H11.out (fun _ h => h.elim)⟩
                  case measure => simp [intOf]; omega
                · have g1 : decide (fb ≤ v.start) = false := decide_eq_false hp
                  have hpv : Pf v = false := by rw [HPv.out]; exact g1
                  rw [hpv, if_neg (by simp), Nat.add_zero] at Hsn
                  obtain ⟨kq, hkq⟩ : ∃ z, ((LY.take q).filter Pf).length = z := ⟨_, rfl⟩
                  rw [hkq] at Hsn hcl ⊢
                  obtain ⟨v1, hv1⟩ : ∃ z, v.start = z := ⟨_, rfl⟩
                  rw [hv1] at HCr g1 hp
                  clear hv hpv hkq HPv d0 e1 e2 e3 e4 e5 e6 hv1
                  go_wp2_with fail
                  refine wp_region_held_drew (S := fun W => Fr (fun _ => False) wr W) (by kernel_rfl) ((Fr.refl _ wr).drew) (fun hHeld => ?_)
                  refine wpAnyH_take (i := 0) (oi := { dst := some 142, op := Op.move (Operand.tmp 16), type := 38, pos := "more.go:79", after := #[], guard := none }) (v := ?vq71) rfl (by kernel_rfl) (by kernel_rfl) (by kernel_rfl) (fun _ _ _ h => h) (Or.inl ⟨by rfl, ?hq71⟩) (by assumption) ?rq71
                  case hq71 => intro W hSw; (try obtain ⟨r0, r1, r2, r3, r4, r5, r6⟩ := HCr.out W hSw; obtain ⟨z0, z1, z2, z3⟩ := HCq.out W hSw); go_simp; (try with_reducible rfl)
                  try simp only [Act.put, List.setIfInBounds_toArray, List.set_cons_zero, List.set_cons_succ]
                  refine wpAnyH_take (i := 1) (oi := { dst := some 143, op := Op.move (Operand.tmp 18), type := 3, pos := "more.go:79", after := #[], guard := none }) (v := ?vq72) rfl (by kernel_rfl) (by kernel_rfl) (by kernel_rfl) (fun _ _ _ h => h) (Or.inl ⟨by rfl, ?hq72⟩) (by assumption) ?rq72
                  case hq72 => intro W hSw; (try obtain ⟨r0, r1, r2, r3, r4, r5, r6⟩ := HCr.out W hSw; obtain ⟨z0, z1, z2, z3⟩ := HCq.out W hSw); go_simp; (try with_reducible rfl)
                  try simp only [Act.put, List.setIfInBounds_toArray, List.set_cons_zero, List.set_cons_succ]
                  refine wpAnyH_take (i := 2) (oi := { dst := some 144, op := Op.indexAddr 38 (Operand.tmp 142) (Operand.tmp 143), type := 0, pos := "more.go:79", after := #[{ on := 0, ground := Ground.data }, { on := 1, ground := Ground.data }], guard := none }) (v := ?vq73) rfl (by kernel_rfl) (by kernel_rfl) (by kernel_rfl) (fun _ _ _ h => h) (Or.inl ⟨by rfl, ?hq73⟩) (by assumption) ?rq73
                  case hq73 => intro W hSw; (try obtain ⟨r0, r1, r2, r3, r4, r5, r6⟩ := HCr.out W hSw; obtain ⟨z0, z1, z2, z3⟩ := HCq.out W hSw); go_simp; (try with_reducible rfl)
                  try simp only [Act.put, List.setIfInBounds_toArray, List.set_cons_zero, List.set_cons_succ]
                  refine wpAnyH_take (i := 3) (oi := { dst := some 145, op := Op.fieldAddr 43 (Operand.tmp 144) 1, type := 0, pos := "more.go:79", after := #[{ on := 2, ground := Ground.data }], guard := none }) (v := ?vq74) rfl (by kernel_rfl) (by kernel_rfl) (by kernel_rfl) (fun _ _ _ h => h) (Or.inl ⟨by rfl, ?hq74⟩) (by assumption) ?rq74
                  case hq74 => intro W hSw; (try obtain ⟨r0, r1, r2, r3, r4, r5, r6⟩ := HCr.out W hSw; obtain ⟨z0, z1, z2, z3⟩ := HCq.out W hSw); go_simp; (try with_reducible rfl)
                  try simp only [Act.put, List.setIfInBounds_toArray, List.set_cons_zero, List.set_cons_succ]
                  refine wpAnyH_take (i := 4) (oi := { dst := some 146, op := Op.load 3 (Operand.tmp 145), type := 3, pos := "more.go:79", after := #[{ on := 3, ground := Ground.data }], guard := none }) (v := ?vq75) rfl (by kernel_rfl) (by kernel_rfl) (by kernel_rfl) (fun _ _ _ h => h) (Or.inl ⟨by rfl, ?hq75⟩) (by assumption) ?rq75
                  case hq75 => intro W hSw; (try obtain ⟨r0, r1, r2, r3, r4, r5, r6⟩ := HCr.out W hSw; obtain ⟨z0, z1, z2, z3⟩ := HCq.out W hSw); go_simp; (try with_reducible rfl)
                  try simp only [Act.put, List.setIfInBounds_toArray, List.set_cons_zero, List.set_cons_succ]
                  refine wpAnyH_take (i := 5) (oi := { dst := some 147, op := Op.move (Operand.tmp 12), type := 25, pos := "more.go:79", after := #[], guard := none }) (v := ?vq76) rfl (by kernel_rfl) (by kernel_rfl) (by kernel_rfl) (fun _ _ _ h => h) (Or.inl ⟨by rfl, ?hq76⟩) (by assumption) ?rq76
                  case hq76 => intro W hSw; (try obtain ⟨r0, r1, r2, r3, r4, r5, r6⟩ := HCr.out W hSw; obtain ⟨z0, z1, z2, z3⟩ := HCq.out W hSw); go_simp; (try with_reducible rfl)
                  try simp only [Act.put, List.setIfInBounds_toArray, List.set_cons_zero, List.set_cons_succ]
                  refine wpAnyH_take (i := 6) (oi := { dst := some 148, op := Op.nilCheck (Operand.tmp 147), type := 0, pos := "more.go:79", after := #[{ on := 5, ground := Ground.data }], guard := none }) (v := ?vq77) rfl (by kernel_rfl) (by kernel_rfl) (by kernel_rfl) (fun _ _ _ h => h) (Or.inl ⟨by rfl, ?hq77⟩) (by assumption) ?rq77
                  case hq77 => intro W hSw; (try obtain ⟨r0, r1, r2, r3, r4, r5, r6⟩ := HCr.out W hSw; obtain ⟨z0, z1, z2, z3⟩ := HCq.out W hSw); go_simp; (try with_reducible rfl)
                  try simp only [Act.put, List.setIfInBounds_toArray, List.set_cons_zero, List.set_cons_succ]
                  refine wpAnyH_take (i := 7) (oi := { dst := some 149, op := Op.fieldAddr 61 (Operand.tmp 148) 0, type := 0, pos := "more.go:79", after := #[{ on := 6, ground := Ground.data }], guard := none }) (v := ?vq78) rfl (by kernel_rfl) (by kernel_rfl) (by kernel_rfl) (fun _ _ _ h => h) (Or.inl ⟨by rfl, ?hq78⟩) (by assumption) ?rq78
                  case hq78 => intro W hSw; (try obtain ⟨r0, r1, r2, r3, r4, r5, r6⟩ := HCr.out W hSw; obtain ⟨z0, z1, z2, z3⟩ := HCq.out W hSw); go_simp; (try with_reducible rfl)
                  try simp only [Act.put, List.setIfInBounds_toArray, List.set_cons_zero, List.set_cons_succ]
                  refine wpAnyH_take (i := 8) (oi := { dst := some 150, op := Op.load 58 (Operand.tmp 149), type := 58, pos := "more.go:79", after := #[{ on := 7, ground := Ground.data }], guard := none }) (v := ?vq79) rfl (by kernel_rfl) (by kernel_rfl) (by kernel_rfl) (fun _ _ _ h => h) (Or.inl ⟨by rfl, ?hq79⟩) (by assumption) ?rq79
                  case hq79 => intro W hSw; (try obtain ⟨r0, r1, r2, r3, r4, r5, r6⟩ := HCr.out W hSw; obtain ⟨z0, z1, z2, z3⟩ := HCq.out W hSw); go_simp; (try with_reducible rfl)
                  try simp only [Act.put, List.setIfInBounds_toArray, List.set_cons_zero, List.set_cons_succ]
                  refine wpAnyH_take (i := 9) (oi := { dst := some 151, op := Op.move (Operand.tmp 14), type := 3, pos := "more.go:79", after := #[], guard := none }) (v := ?vq80) rfl (by kernel_rfl) (by kernel_rfl) (by kernel_rfl) (fun _ _ _ h => h) (Or.inl ⟨by rfl, ?hq80⟩) (by assumption) ?rq80
                  case hq80 => intro W hSw; (try obtain ⟨r0, r1, r2, r3, r4, r5, r6⟩ := HCr.out W hSw; obtain ⟨z0, z1, z2, z3⟩ := HCq.out W hSw); go_simp; (try with_reducible rfl)
                  try simp only [Act.put, List.setIfInBounds_toArray, List.set_cons_zero, List.set_cons_succ]
                  refine wpAnyH_ready (rs := [10]) (by kernel_rfl) (by simp) ?_
                  refine AllReadyH.cons (o := { dst := some 152, op := Op.call { callee := Callee.value (Operand.func 30), args := #[Operand.tmp 150, Operand.tmp 151], argTypes := #[58, 3] }, type := 3, pos := "more.go:79", after := #[{ on := 8, ground := Ground.data }, { on := 9, ground := Ground.data }], guard := none }) rfl (fun K hK => ?_) AllReadyH.nil
                  go_simp
                  go_wp2_with (first | (go_at_call 30; refine (HFq.out _ hHeld).mono ?_; rintro r wa ⟨rfl, ba⟩))
                  refine hK.out _ _ (hHeld.trans (Fr.b0 ba) (fun _ h => h.elim)) (fun hHeld => ?_)
                  clear hK K
                  try simp only [Act.put, List.setIfInBounds_toArray, List.set_cons_zero, List.set_cons_succ]
                  refine wpAnyH_take (i := 11) (oi := { dst := some 153, op := Op.binOp BinOp.geq 3 (Operand.tmp 146) (Operand.tmp 152) 3, type := 4, pos := "more.go:79", after := #[{ on := 4, ground := Ground.data }, { on := 10, ground := Ground.data }], guard := none }) (v := ?vq81) rfl (by kernel_rfl) (by kernel_rfl) (by kernel_rfl) (fun _ _ _ h => h) (Or.inl ⟨by rfl, ?hq81⟩) (by assumption) ?rq81
                  case hq81 => intro W hSw; (try obtain ⟨r0, r1, r2, r3, r4, r5, r6⟩ := HCr.out W hSw; obtain ⟨z0, z1, z2, z3⟩ := HCq.out W hSw); go_simp; (try with_reducible rfl)
                  try simp only [Act.put, List.setIfInBounds_toArray, List.set_cons_zero, List.set_cons_succ]
                  refine wpAnyH_done (by kernel_rfl) ?_ _
                  have H10 := Lib.hid hHeld
                  clear hHeld ba
                  go_wp2_with fail
                  go_roundw
                  case rel => exact ⟨q + 1, by omega, by (rw [Hsn.out]; rfl), by go_num, Fq.out.trans H10.out (fun _ h => h.elim)⟩
                  case measure => simp [intOf]; omega
              · obtain rfl : ny = q := by omega
                have hk : ((LY.take ny).filter Pf).length = nx := by rw [← Hny.out, List.take_length, ← HLX.out]; exact Hnx.out
                rw [hk]
                have F6q : Hid (Fr (fun _ => False) w6 wr) := F9.out.trans Fq.out (fun _ h => h.elim)
                clear hk
                go_wp2_with fail
                go_roundw
                case rel => exact ⟨j + 1, by omega, by go_num, F6q.out⟩
                case measure => simp [intOf]; omega
          · obtain rfl : n = j := by omega
            go_wp2_with fail
            refine (HAl.out _).mono ?_
            rintro r wz ⟨rfl, bz⟩
            go_wp2_with fail
            go_ret
            exact ⟨rfl, OE.out _ (Fj.out.trans (Fr.b0 bz) (fun _ h => h.elim))⟩
end Go.Proofs.Ytlhhcancfgjfkaa
