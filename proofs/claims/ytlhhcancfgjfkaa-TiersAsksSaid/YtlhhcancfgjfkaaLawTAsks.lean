/- TiersAsks' walk: what is answered is of one tier, of that series, between the ends, and rises; cut in two it is that of both parts. -/
import Derived.Test.YtlhhcancfgjfkaaAlive11
import Derived.Test.YtlhhcancfgjfkaaTio
import Derived.Test.YtlhhcancfgjfkaaOpC
import Derived.Test.YtlhhcancfgjfkaaFills
import Derived.Test.YtlhhcancfgjfkaaSame
import Derived.Test.YtlhhcancfgjfkaaTiersP
namespace Go.Proofs.Ytlhhcancfgjfkaa
set_option linter.all false
open Go.RowKit

theorem ask_len {nm : ByteArray} {l : List TierV} {fl : List Int} {X : TiersX} {c : Nat} (h : GoodX nm l fl X c) (s : ByteArray) (a b : Int) : (askL X s a b).length ≤ c := by
  unfold askL keepT
  refine Nat.le_trans (List.length_filter_le _ _) ?_
  rcases getD_mem_or (L := X.tabs) (askT X a).toNat with h3 | h3
  · exact h.len _ h3
  · rw [h3]; exact Nat.zero_le _

set_option maxRecDepth 100000 in
set_option maxHeartbeats 3000000 in
theorem tasks_walk (nm : ByteArray) (l : List TierV) (A : Option Addr) (n c : Nat) (now : Int) (ops : List OpC) (B : Option Addr) (m d : Nat) (s : ByteArray) (fr md tt : Int) (w : World) (hnm : nm.size ≤ maxLen) (hr : Rd w 4 A n (tcells l)) (hnc : n ≤ c) (hn9 : n ≤ 9223372036854775807) (hwf : ∀ t ∈ l, t.wf) (hnow : -9223372036854775808 ≤ now ∧ now ≤ 9223372036854775807) (hs : Rd w 4 B m (opcells ops)) (hm9 : m ≤ 9223372036854775807) (hok : ∀ o ∈ ops, o.ok w) (hss : s.size ≤ maxLen) :
    Calls Try.prog 4 #[.agg #[.string nm, .slice A n c], .int .i64 now, .slice B m d, .string s, .int .i64 fr, .int .i64 md, .int .i64 tt] w fun e w' => e = .returned (.bool true) ∧ Below w.heap.size w w' := by
  have Hr := Lib.hid hr
  have Hll := Lib.hid hr.tiers_len
  have HAl := Lib.hid alive11_any
  have HSm : Hid (∀ W, Fr (fun _ => False) w W → Calls Try.prog 15 #[.agg #[.string nm, .slice A n c]] W fun r w' => SmallR nm n r ∧ Below W.heap.size W w') := fun W f => bsmall_any nm l A n c W (hr.fr0 f) hn9 hnm (fun t h => (hwf t h).2.2.2)
  have HLi : Hid (∀ W, Fr (fun _ => False) w W → Calls Try.prog 16 #[.slice B m d] W fun r w' => LightR m r ∧ W = w') := fun W f => light_any ops B m d W (hs.fr0 f) (fun o h => (hok o h).below (f.below (fun _ h => h.elim))) hm9
  have HN : Hid (∀ W, n ≤ 10 → Fr (fun _ => False) w W → Calls Try.prog 12 #[.agg #[.string nm, .slice A n c], .int .i64 now, .slice none 0 0] W fun r w' => ((newE nm l now [] = 0 → PolOk nm l ∧ ∃ t F, r = .returned (.tuple #[.pointer (some ⟨t, 0, none⟩), .int .i64 0]) ∧ Tio nm l [] w.heap.size w' t (newX nm l now []) F 0 ∧ ∀ j, F j → W.heap.size ≤ j) ∧ (newE nm l now [] ≠ 0 → r = .returned (.tuple #[.pointer none, .int .i64 (newE nm l now [])]))) ∧ Below W.heap.size W w') := fun W h10 f => tio_new hnm hwf A n c now hnow w.heap.size W f.size (hr.fr0 f) hnc (by omega)
  have Hs := Lib.hid hs
  have Hln := Lib.hid hs.ops_len
  have Hok := Lib.hid hok
  have Hwf := Lib.hid hwf
  have B0 := Lib.hid (Blk.new w 33 #[.string nm, .slice A n c])
  have F0 := Lib.hid (Fr.none_alloc w (.cells #[.string nm, .slice A n c] 33))
  clear hr hwf hs hok
  go_enter Try.func4, Try.ntmps4
  go_wp2_with fail
  refine (HSm.out _ F0.out).mono ?_
  rintro r w1 ⟨⟨b, rfl, hb⟩, b1⟩
  have F1 := Lib.hid (F0.out.trans (Fr.b0 b1) (fun _ h => h.elim))
  have B1 := Lib.hid (B0.out.fr (Fr.b0 b1) (fun h => h))
  clear b1 HSm
  cases b with
  | false =>
    clear hb
    go_wp2_with fail
    refine (HAl.out _).mono ?_
    rintro r wq ⟨rfl, bq⟩
    go_wp2_with fail
    go_ret
    exact ⟨rfl, (F1.out.trans (Fr.b0 bq) (fun _ h => h.elim)).below (fun _ h => h.elim)⟩
  | true =>
  have h10 : n ≤ 10 := (hb rfl).1
  clear hb
  go_wp2_with fail
  refine (HLi.out _ F1.out).mono ?_
  rintro r w2 ⟨⟨b, rfl, hb⟩, rfl⟩
  cases b with
  | false =>
    clear hb
    go_wp2_with fail
    refine (HAl.out _).mono ?_
    rintro r wq ⟨rfl, bq⟩
    go_wp2_with fail
    go_ret
    exact ⟨rfl, (F1.out.trans (Fr.b0 bq) (fun _ h => h.elim)).below (fun _ h => h.elim)⟩
  | true =>
  have h50 : m ≤ 50 := hb rfl
  clear hb HLi
  by_cases c0 : 60 < s.size
  · have c0d : decide ((60 : Int) < (s.size : Int)) = true := decide_eq_true (by omega)
    go_wp2_with fail
    refine (HAl.out _).mono ?_
    rintro r wq ⟨rfl, bq⟩
    go_wp2_with fail
    go_ret
    exact ⟨rfl, (F1.out.trans (Fr.b0 bq) (fun _ h => h.elim)).below (fun _ h => h.elim)⟩
  have c0d : decide ((60 : Int) < (s.size : Int)) = false := decide_eq_false (by omega)
  by_cases c1 : fr < 0
  · have c1d : decide (fr < 0) = true := decide_eq_true (by omega)
    go_wp2_with fail
    refine (HAl.out _).mono ?_
    rintro r wq ⟨rfl, bq⟩
    go_wp2_with fail
    go_ret
    exact ⟨rfl, (F1.out.trans (Fr.b0 bq) (fun _ h => h.elim)).below (fun _ h => h.elim)⟩
  have c1d : decide (fr < 0) = false := decide_eq_false (by omega)
  by_cases c2 : md < fr
  · have c2d : decide (md < fr) = true := decide_eq_true (by omega)
    go_wp2_with fail
    refine (HAl.out _).mono ?_
    rintro r wq ⟨rfl, bq⟩
    go_wp2_with fail
    go_ret
    exact ⟨rfl, (F1.out.trans (Fr.b0 bq) (fun _ h => h.elim)).below (fun _ h => h.elim)⟩
  have c2d : decide (md < fr) = false := decide_eq_false (by omega)
  by_cases c3 : tt < md
  · have c3d : decide (tt < md) = true := decide_eq_true (by omega)
    go_wp2_with fail
    refine (HAl.out _).mono ?_
    rintro r wq ⟨rfl, bq⟩
    go_wp2_with fail
    go_ret
    exact ⟨rfl, (F1.out.trans (Fr.b0 bq) (fun _ h => h.elim)).below (fun _ h => h.elim)⟩
  have c3d : decide (tt < md) = false := decide_eq_false (by omega)
  have p0 := B1.out.cell 0
  have p1 := B1.out.cell 1
  simp only [List.getElem?_toArray, List.getElem?_cons_succ, List.getElem?_cons_zero] at p0 p1
  go_wp2_with fail
  refine (HN.out _ h10 F1.out).mono ?_
  rintro r w3 ⟨⟨h1, h2⟩, b3⟩
  have F3 := Lib.hid (F1.out.trans (Fr.b0 b3) (fun _ h => h.elim))
  have B3 := Lib.hid (B1.out.fr (Fr.b0 b3) (fun h => h))
  clear b3 p0 p1
  by_cases hE : newE nm l now [] = 0
  case neg =>
    obtain rfl := h2 hE
    clear h1 h2 HN
    obtain ⟨E, hEq⟩ : ∃ E, newE nm l now [] = E := ⟨_, rfl⟩
    rw [hEq] at hE ⊢
    have hE2 : (E == 0) = false := by simpa using hE
    have hE3 : decide (E = 0) = false := decide_eq_false hE
    clear hEq
    go_wp2_with fail
    refine (HAl.out _).mono ?_
    rintro r wq ⟨rfl, bq⟩
    go_wp2_with fail
    go_ret
    exact ⟨rfl, (F3.out.trans (Fr.b0 bq) (fun _ h => h.elim)).below (fun _ h => h.elim)⟩
  case pos =>
  obtain ⟨p, t, F, rfl, T3, hF⟩ := h1 hE
  have P := Lib.hid p
  have HT3 := Lib.hid T3
  have HFl : Hid (∀ j, F j → w.heap.size < j) := fun j hj => by
    have h1 := hF j hj
    have h2 := B1.out.lt
    omega
  have HG : Hid ((newX nm l now []).now = now) := rfl
  clear h1 h2 HN hF p T3
  obtain ⟨X0, hX0⟩ : ∃ X0, newX nm l now [] = X0 := ⟨_, rfl⟩
  rw [hX0] at HT3
  clear hX0 hE HG
  go_wp2_with fail
  go_loopw [17] (fun i wr => ∃ (k : Nat) (X : TiersX), k ≤ m ∧ i = .int .i64 k ∧ Tio nm l [] w.heap.size wr t X F (k * 8) ∧ Fr F w3 wr ∧ Below w.heap.size w wr) (fun i _ => m - (intOf i).toNat)
  case atStart => exact ⟨0, X0, Nat.zero_le _, rfl, HT3.out, Fr.refl _ _, F3.out.below (fun _ h => h.elim)⟩
  case round =>
    obtain ⟨k, X, hk, rfl, hT, hfr, ho⟩ := hrel
    have HT := Lib.hid hT
    have Ho := Lib.hid ho
    have HF := Lib.hid hfr
    clear hT ho hfr
    by_cases hlt : k < m
    · have hkw : IntKind.i64.wrap ((k : Int) + 1) = (k : Int) + 1 := by simp [IntKind.wrap, IntKind.signed, IntKind.bits]; omega
      obtain ⟨ad, o, rfl, hy, a0, a1, a2, a3⟩ := (Hs.out.below Ho.out).op_ hlt
      have HO := Lib.hid ((Hok.out o (mem_of_get hy)).below Ho.out)
      have HPk := Lib.hid (tio_put P.out HT.out (by omega) o.sl o.sa o.sn o.sc HO.out.s HO.out.swf)
      have HKk := Lib.hid (tio_tick P.out HT.out (by omega) o.n HO.out.n)
      have HCk : Hid (∀ W, Below w.heap.size w W → W.cell? (ad.add (k * 4)) = some (.int .i64 o.kind)) := fun W b => by
        obtain ⟨ad', o', e, ho', c0, _⟩ := (Hs.out.below b).op_ hlt
        injection e with e
        subst e
        rw [hy] at ho'
        cases ho'
        exact c0
      clear hy HO
      obtain ⟨kd, nn, sl, sa, sn, sc, la, ln, lc, E, E2, hkd, hnn, h1, h2, h3, hE, hE2⟩ : ∃ kd, ∃ (nn : Int) (sl : List SampV) (sa : Option Addr) (sn sc : Nat) (la : Option Addr) (ln lc : Nat) (E E2 : Int), o.kind = kd ∧ o.n = nn ∧ o.sl = sl ∧ (Value.slice o.sa o.sn o.sc) = .slice sa sn sc ∧ Value.slice o.la o.ln o.lc = .slice la ln lc ∧ putE X o.sl = E ∧ tickE X o.n = E2 := ⟨_, _, _, _, _, _, _, _, _, _, _, rfl, rfl, rfl, rfl, rfl, rfl, rfl⟩
      rw [h2] at HPk a2
      rw [h3] at a3
      rw [hkd] at a0 HCk
      rw [hE, h1] at HPk
      rw [hE2, hnn] at HKk
      rw [hnn] at a1
      clear hkd hnn h1 h2 h3 hE hE2
      by_cases hk1 : kd = 1
      · subst hk1
        go_wp2_with fail
        refine HPk.out.mono ?_
        rintro r w6 ⟨rfl, T6, f6⟩
        have HT6 := Lib.hid (T6.more (d := (k + 1) * 8) (by omega))
        have O6 : Hid (Below w.heap.size w w6) := Ho.out.trans (HT.out.below Ho.out.size f6)
        have F6 : Hid (Fr F w3 w6) := HF.out.trans f6 (fun _ h => .inl h)
        clear T6 f6 HPk HKk a0 a1 a2 a3
        have a0 := HCk.out w6 O6.out
        go_wp2_with fail
        go_roundw
        case rel => exact ⟨k + 1, _, by omega, by go_num, HT6.out, F6.out, O6.out⟩
        case measure => simp [intOf]; omega
      · have hk2 : (kd == 1) = false := by simpa using hk1
        have hk3 : decide (kd = 1) = false := decide_eq_false hk1
        by_cases hk4 : kd = 2
        · subst hk4
          clear HPk
          go_wp2_with fail
          refine HKk.out.mono ?_
          rintro r w6 ⟨rfl, T6, f6⟩
          have HT6 := Lib.hid (T6.more (d := (k + 1) * 8) (by omega))
          have O6 : Hid (Below w.heap.size w w6) := Ho.out.trans (HT.out.below Ho.out.size f6)
          have F6 : Hid (Fr F w3 w6) := HF.out.trans f6 (fun _ h => .inl h)
          clear T6 f6 HKk a0 a1 a2 a3
          go_wp2_with fail
          go_roundw
          case rel => exact ⟨k + 1, _, by omega, by go_num, HT6.out, F6.out, O6.out⟩
          case measure => simp [intOf]; omega
        · have hk5 : (kd == 2) = false := by simpa using hk4
          have hk6 : decide (kd = 2) = false := decide_eq_false hk4
          have HT6 := Lib.hid (HT.out.more (d := (k + 1) * 8) (by omega))
          clear HPk HKk
          go_wp2_with fail
          go_roundw
          case rel => exact ⟨k + 1, X, by omega, by go_num, HT6.out, HF.out, Ho.out⟩
          case measure => simp [intOf]; omega
    · obtain rfl : k = m := by omega
      have BPr : Hid (Blk wr w.heap.size 33 #[.string nm, .slice A n c]) := B3.out.fr HF.out (fun h => absurd (HFl.out _ h) (Nat.lt_irrefl _))
      have HAb := Lib.hid (fun W f => tio_ask P.out (HT.out.fr0 (W' := W) f) (by omega) s hss fr tt)
      have hc12 : 0 ≤ fr ∧ fr ≤ tt ∧ 0 ≤ md ∧ fr ≤ md ∧ md ≤ tt := by omega
      by_cases hv : validB s = true
      case neg =>
        have hB : askB s fr tt = false := by unfold askB; simp [hv]
        have HAn : Hid (Calls Try.prog 18 #[.pointer (some ⟨t, 0, none⟩), .string s, .int .i64 fr, .int .i64 tt] wr fun r w' => r = .returned (.tuple #[.agg #[.int .i64 0, .slice none 0 0], .int .i64 1]) ∧ Below wr.heap.size wr w') := (HAb.out wr (Fr.refl _ _)).mono fun r w' ⟨⟨_, h2⟩, hb⟩ => ⟨h2 hB, hb⟩
        clear HAb
        go_wp2_with fail
        refine HAn.out.mono ?_
        rintro r w6 ⟨rfl, b6⟩
        have O6 : Hid (Below w.heap.size w w6) := Ho.out.trans (b6.mono Ho.out.size)
        clear b6 HAn
        go_wp2_with fail
        have O7 : Hid (Below w.heap.size w (w6.alloc (.cells #[.int .i64 0, .slice none 0 0] 52))) := O6.out.trans ((Fr.none_alloc _ _).below_of O6.out.size (fun _ h => h.elim))
        refine (HAl.out _).mono ?_
        rintro r w7 ⟨rfl, b7⟩
        go_wp2_with fail
        go_ret
        exact ⟨rfl, O7.out.trans (b7.mono O7.out.size)⟩
      case pos =>
      have hB1 : askB s fr tt = true := by unfold askB; simp [hv, hc12.1, hc12.2.1]
      have hB2 : askB s fr md = true := by unfold askB; simp [hv, hc12.1, hc12.2.2.2.1]
      have hB3 : askB s md tt = true := by unfold askB; simp [hv, hc12.2.2.1, hc12.2.2.2.2]
      obtain ⟨kT, hkT, hkE⟩ := cover_in (now := X.now) (fl := X.floors) (t := fr) (show 0 < X.tiers.length from HT.out.pos P.out)
      obtain ⟨kC, hkC, hkF⟩ := cover_in (now := X.now) (fl := X.floors) (t := md) (show 0 < X.tiers.length from HT.out.pos P.out)
      have hTa : askT X fr = (kT : Int) := hkE
      have hTc : askT X md = (kC : Int) := hkF
      have hkn : kT < n := by rw [HT.out.good.tiers, Hll.out] at hkT; exact hkT
      have Hmem := Lib.hid (fun x hx => ask_mem HT.out.good s fr tt hTa (x := x) hx)
      have Hsrt := Lib.hid (ask_sorted HT.out.good s fr tt)
      have Hcut : Hid (kT = kC → askL X s fr md ++ askL X s md tt = askL X s fr tt) := fun e => ask_cut HT.out.good s hc12.2.2.2.1 hc12.2.2.2.2 (by rw [hTa, hTc, e])
      have Hlen := Lib.hid (fun a b => ask_len HT.out.good s a b)
      have HA1 : Hid (∀ W, Fr (fun _ => False) wr W → Calls Try.prog 18 #[.pointer (some ⟨t, 0, none⟩), .string s, .int .i64 fr, .int .i64 tt] W fun r w' => (∃ A c, r = .returned (.tuple #[.agg #[.int .i64 kT, .slice A (askL X s fr tt).length c], .int .i64 0]) ∧ Rd w' 7 A (askL X s fr tt).length (rcells (askL X s fr tt))) ∧ Below W.heap.size W w') := fun W f => (tio_ask P.out (HT.out.fr0 f) (by omega) s hss fr tt).mono fun r w' ⟨⟨h1, _⟩, hb⟩ => ⟨by obtain ⟨A, c, e, ho⟩ := h1 hB1; rw [hTa] at e; exact ⟨A, c, e, (own_any ho).2.2.1⟩, hb⟩
      have HA2 : Hid (∀ W, Fr (fun _ => False) wr W → Calls Try.prog 18 #[.pointer (some ⟨t, 0, none⟩), .string s, .int .i64 fr, .int .i64 md] W fun r w' => (∃ A c, r = .returned (.tuple #[.agg #[.int .i64 kT, .slice A (askL X s fr md).length c], .int .i64 0]) ∧ Rd w' 7 A (askL X s fr md).length (rcells (askL X s fr md))) ∧ Below W.heap.size W w') := fun W f => (tio_ask P.out (HT.out.fr0 f) (by omega) s hss fr md).mono fun r w' ⟨⟨h1, _⟩, hb⟩ => ⟨by obtain ⟨A, c, e, ho⟩ := h1 hB2; rw [hTa] at e; exact ⟨A, c, e, (own_any ho).2.2.1⟩, hb⟩
      have HA3 : Hid (∀ W, Fr (fun _ => False) wr W → Calls Try.prog 18 #[.pointer (some ⟨t, 0, none⟩), .string s, .int .i64 md, .int .i64 tt] W fun r w' => (∃ A c, r = .returned (.tuple #[.agg #[.int .i64 kC, .slice A (askL X s md tt).length c], .int .i64 0]) ∧ Rd w' 7 A (askL X s md tt).length (rcells (askL X s md tt))) ∧ Below W.heap.size W w') := fun W f => (tio_ask P.out (HT.out.fr0 f) (by omega) s hss md tt).mono fun r w' ⟨⟨h1, _⟩, hb⟩ => ⟨by obtain ⟨A, c, e, ho⟩ := h1 hB3; rw [hTc] at e; exact ⟨A, c, e, (own_any ho).2.2.1⟩, hb⟩
      have HCov : Hid (∃ tA tc tB td, (∀ W, Fr (fun _ => False) wr W → W.cell? ⟨t, 0, none⟩ = some (.int .i64 X.now) ∧ W.cell? ⟨t, 1, none⟩ = some (.string X.name) ∧ W.cell? ⟨t, 2, none⟩ = some (.slice tA X.tiers.length tc) ∧ W.cell? ⟨t, 3, none⟩ = some (.slice tB X.floors.length td)) ∧ ∀ W, Fr (fun _ => False) wr W → Calls Try.prog 19 #[.agg #[.int .i64 X.now, .string X.name, .slice tA X.tiers.length tc, .slice tB X.floors.length td], .int .i64 fr] W fun r w' => r = .returned (.int .i64 kT) ∧ Below W.heap.size W w') := by
        obtain ⟨base, hb, tA, tc, tB, td, T, ct, tb, hi, _⟩ := HT.out.on
        refine ⟨tA, tc, tB, td, fun W f => ?_, fun W f => ?_⟩
        · have b := hi.blk.fr f (fun h => h)
          exact ⟨b.cell 0, b.cell 1, b.cell 2, b.cell 3⟩
        · have h := cover_any X.now HT.out.now64 X.name X.tiers tA X.tiers.length tc X.floors tB X.floors.length td fr W (own_any (hi.fr0 f).tiers).2.2.1 (own_any (hi.fr0 f).floors).2.2.1 (HT.out.wf P.out) (Nat.le_trans (HT.out.five P.out) (by omega))
          rw [show coverV X.now X.tiers X.floors fr = (kT : Int) from hkE] at h
          exact h
      obtain ⟨tA, tc, tB, td, HTc, HCv⟩ := HCov.out
      have HTC := Lib.hid HTc
      have HCV := Lib.hid HCv
      clear HAb HCov HTc HCv hkE hkF hB1 hB2 hB3 hTa hTc hkT hkC
      obtain ⟨x0, hx0⟩ : ∃ x0, X.now = x0 := ⟨_, rfl⟩
      obtain ⟨x1, hx1⟩ : ∃ x1, X.name = x1 := ⟨_, rfl⟩
      obtain ⟨x2, hx2⟩ : ∃ x2, X.tiers.length = x2 := ⟨_, rfl⟩
      obtain ⟨x3, hx3⟩ : ∃ x3, X.floors.length = x3 := ⟨_, rfl⟩
      rw [hx0, hx1, hx2, hx3] at HTC HCV
      clear hx0 hx1 hx2 hx3
      obtain ⟨LA, hLA⟩ : ∃ L, askL X s fr tt = L := ⟨_, rfl⟩
      obtain ⟨LB, hLB⟩ : ∃ L, askL X s fr md = L := ⟨_, rfl⟩
      obtain ⟨LC, hLC⟩ : ∃ L, askL X s md tt = L := ⟨_, rfl⟩
      have HnA : Hid (LA.length ≤ 400) := by show _ ≤ _; rw [← hLA]; exact Nat.le_trans (Hlen.out _ _) (by omega)
      have HnB : Hid (LB.length ≤ 400) := by show _ ≤ _; rw [← hLB]; exact Nat.le_trans (Hlen.out _ _) (by omega)
      have HnC : Hid (LC.length ≤ 400) := by show _ ≤ _; rw [← hLC]; exact Nat.le_trans (Hlen.out _ _) (by omega)
      rw [hLA] at HA1 Hmem Hsrt Hcut
      rw [hLB] at HA2 Hcut
      rw [hLC] at HA3 Hcut
      clear hLA hLB hLC Hlen
      obtain ⟨na, hna⟩ : ∃ v, LA.length = v := ⟨_, rfl⟩
      obtain ⟨nb, hnb⟩ : ∃ v, LB.length = v := ⟨_, rfl⟩
      obtain ⟨nc, hnc⟩ : ∃ v, LC.length = v := ⟨_, rfl⟩
      rw [hna] at HA1 HnA
      rw [hnb] at HA2 HnB
      rw [hnc] at HA3 HnC
      have Hna := Lib.hid hna
      have Hnb := Lib.hid hnb
      have Hnc := Lib.hid hnc
      clear hna hnb hnc
      go_wp2_with fail
      refine (HA1.out _ (Fr.refl _ _)).mono ?_
      rintro r w6 ⟨⟨A6, c6, rfl, r6⟩, b6⟩
      have F6 := Lib.hid (Fr.b0 b6)
      have R6 := Lib.hid r6
      clear b6 r6 HA1
      go_wp2_with fail
      obtain ⟨W1, hW1⟩ : ∃ W1, W1 = w6.alloc (.cells #[.int .i64 kT, .slice A6 na c6] 52) := ⟨_, rfl⟩
      rw [← hW1]
      have FA : Hid (Fr (fun _ => False) wr W1) := hW1 ▸ F6.out.trans (Fr.none_alloc _ _) (fun _ h => h.elim)
      have BA : Hid (Blk W1 w6.heap.size 52 #[.int .i64 kT, .slice A6 na c6]) := hW1 ▸ Blk.new _ _ _
      have RA : Hid (Rd W1 7 A6 na (rcells LA)) := hW1 ▸ R6.out.alloc _
      obtain ⟨pa, hpa⟩ : ∃ v, w6.heap.size = v := ⟨_, rfl⟩
      rw [hpa] at BA ⊢
      clear hW1 hpa R6 F6
      have OA : Hid (Below w.heap.size w W1) := Ho.out.trans (FA.out.below_of Ho.out.size (fun _ h => h.elim))
      have pA0 := BA.out.cell 0
      have pA1 := BA.out.cell 1
      simp only [List.getElem?_toArray, List.getElem?_cons_succ, List.getElem?_cons_zero] at pA0 pA1
      go_wp2_with fail
      obtain ⟨wro, hwro⟩ : ∃ wro, wro = wr := ⟨_, rfl⟩
      rw [← hwro] at FA HA2 HA3 HTC HCV BPr
      clear hwro
      go_loopw [20] (fun i ws => ∃ q : Nat, q ≤ na ∧ i = .int .i64 q ∧ Fr (fun _ => False) W1 ws) (fun i _ => na - (intOf i).toNat)
      case atStart => exact ⟨0, Nat.zero_le _, rfl, Fr.refl _ _⟩
      case round =>
        obtain ⟨q, hq, rfl, fq⟩ := hrel
        have Fq := Lib.hid fq
        have pA0 := (BA.out.fr fq (fun h => h)).cell 0
        have pA1 := (BA.out.fr fq (fun h => h)).cell 1
        simp only [List.getElem?_toArray, List.getElem?_cons_succ, List.getElem?_cons_zero] at pA0 pA1
        clear fq
        by_cases hlq : q < na
        · obtain ⟨ae, v, rfl, hv, d0, d1, d2, d3, d4, d5, d6⟩ := (RA.out.fr0 Fq.out).rec_ hlq
          obtain ⟨ad, x, rfl, hx, _⟩ := (Hr.out).tier hkn
          have Hm := Lib.hid (Hmem.out x hx v (mem_of_get hv))
          have hxe : 1 ≤ x.every := (check_mem P.out.ck (mem_of_get hx)).1
          have hqw : IntKind.i64.wrap ((q : Int) + 1) = (q : Int) + 1 := by have := HnA.out; simp [IntKind.wrap, IntKind.signed, IntKind.bits]; omega
          have HvL := Lib.hid hv
          go_wp2_with fail
          obtain ⟨W2, hW2⟩ : ∃ W2, W2 = wr.alloc (.cells #[.string v.name, .int .i64 v.start, .int .i64 v.agg.count, .int .i64 v.agg.hi, .int .u64 v.agg.lo, .int .i64 v.agg.min, .int .i64 v.agg.max] 43) := ⟨_, rfl⟩
          rw [← hW2]
          have F2 : Hid (Fr (fun _ => False) W1 W2) := hW2 ▸ Fq.out.trans (Fr.none_alloc _ _) (fun _ h => h.elim)
          have B2 : Hid (Blk W2 wr.heap.size 43 #[.string v.name, .int .i64 v.start, .int .i64 v.agg.count, .int .i64 v.agg.hi, .int .u64 v.agg.lo, .int .i64 v.agg.min, .int .i64 v.agg.max]) := hW2 ▸ Blk.new _ _ _
          obtain ⟨pr, hpr⟩ : ∃ z, wr.heap.size = z := ⟨_, rfl⟩
          rw [hpr] at B2 ⊢
          clear hW2 hpr d0 d1 d2 d3 d4 d5 d6 pA0 pA1
          obtain ⟨m1, m2, m3, m4⟩ := Hm.out
          obtain ⟨st, hst⟩ : ∃ z, v.start = z := ⟨_, rfl⟩
          obtain ⟨ev, hev⟩ : ∃ z, x.every = z := ⟨_, rfl⟩
          rw [m1, hst] at B2
          rw [hst] at m2 m3 m4
          rw [hev] at m4 hxe
          have q1 : decide (st < fr) = false := decide_eq_false (by omega)
          have q2 : ¬ st < fr := by omega
          have q3 : decide (tt ≤ st) = false := decide_eq_false (by omega)
          have q4 : ¬ tt ≤ st := by omega
          have q5 : ¬ ev = 0 := by omega
          have q6 : (ev == 0) = false := by simpa using q5
          have q7 : decide (ev = 0) = false := decide_eq_false q5
          have q8 : 0 ≤ (kT : Int) ∧ (kT : Int) < (n : Int) := by omega
          have HC0 : Hid (∀ W, Fr (fun _ => False) W2 W → W.cell? ⟨pr, 0, none⟩ = some (.string s) ∧ W.cell? ⟨pr, 1, none⟩ = some (.int .i64 st) ∧ W.cell? ⟨w.heap.size, 1, none⟩ = some (.slice (some ad) n c) ∧ W.cell? ⟨pa, 0, none⟩ = some (.int .i64 kT) ∧ W.cell? ⟨pa, 1, none⟩ = some (.slice (some ae) na c6) ∧ W.cell? ⟨(ad.add (kT * 4)).block, (ad.add (kT * 4)).off + 1, none⟩ = some (.int .i64 ev)) := fun W f => by
            have fW := F2.out.trans f (fun _ h => h.elim)
            have oW : Below w.heap.size w W := OA.out.trans (fW.below_of OA.out.size (fun _ h => h.elim))
            have b2 := B2.out.fr f (fun h => h)
            have b3 := BA.out.fr fW (fun h => h)
            have b0 := BPr.out.fr (FA.out.trans fW (fun _ h => h.elim)) (fun h => h)
            obtain ⟨ad', x', e, hx', _, k1, _⟩ := (Hr.out.below oW).tier hkn
            injection e with e
            subst e
            rw [hx] at hx'
            cases hx'
            rw [hev] at k1
            exact ⟨b2.cell 0, b2.cell 1, b0.cell 1, b3.cell 0, b3.cell 1, k1⟩
          by_cases hq0 : q = 0
          · have g1 : decide ((0 : Int) < (q : Int)) = false := decide_eq_false (by omega)
            have g2 : ¬ (0 : Int) < (q : Int) := by omega
            have HC := HC0
            clear HC0 hst hev m1 m2 m3
            refine wp_region_held_drew (S := fun W => Fr (fun _ => False) W2 W) (by kernel_rfl) ((Fr.refl _ W2).drew) (fun hHeld => ?_)
            refine wpAnyH_take (i := 0) (oi := { dst := some 122, op := Op.fieldAddr 43 (Operand.tmp 21) 0, type := 0, pos := "more.go:74", after := #[], guard := none }) (v := ?vq1) rfl (by kernel_rfl) (by kernel_rfl) (by kernel_rfl) (fun _ _ _ h => h) (Or.inl ⟨by rfl, ?hq1⟩) (by assumption) ?rq1
            case hq1 => intro W hSw; (try obtain ⟨z0, z1, z2, z3, z4, z5⟩ := HC.out W hSw); go_simp; (try with_reducible rfl)
            try simp only [Act.put, List.setIfInBounds_toArray, List.set_cons_zero, List.set_cons_succ]
            refine wpAnyH_take (i := 1) (oi := { dst := some 123, op := Op.load 9 (Operand.tmp 122), type := 9, pos := "more.go:74", after := #[{ on := 0, ground := Ground.data }], guard := none }) (v := ?vq2) rfl (by kernel_rfl) (by kernel_rfl) (by kernel_rfl) (fun _ _ _ h => h) (Or.inl ⟨by rfl, ?hq2⟩) (by assumption) ?rq2
            case hq2 => intro W hSw; (try obtain ⟨z0, z1, z2, z3, z4, z5⟩ := HC.out W hSw); go_simp; (try with_reducible rfl)
            try simp only [Act.put, List.setIfInBounds_toArray, List.set_cons_zero, List.set_cons_succ]
            refine wpAnyH_take (i := 2) (oi := { dst := some 124, op := Op.move (Operand.tmp 3), type := 9, pos := "more.go:74", after := #[], guard := none }) (v := ?vq3) rfl (by kernel_rfl) (by kernel_rfl) (by kernel_rfl) (fun _ _ _ h => h) (Or.inl ⟨by rfl, ?hq3⟩) (by assumption) ?rq3
            case hq3 => intro W hSw; (try obtain ⟨z0, z1, z2, z3, z4, z5⟩ := HC.out W hSw); go_simp; (try with_reducible rfl)
            try simp only [Act.put, List.setIfInBounds_toArray, List.set_cons_zero, List.set_cons_succ]
            refine wpAnyH_take (i := 3) (oi := { dst := some 125, op := Op.binOp BinOp.neq 9 (Operand.tmp 123) (Operand.tmp 124) 9, type := 4, pos := "more.go:74", after := #[{ on := 1, ground := Ground.data }, { on := 2, ground := Ground.data }], guard := none }) (v := ?vq4) rfl (by kernel_rfl) (by kernel_rfl) (by kernel_rfl) (fun _ _ _ h => h) (Or.inl ⟨by rfl, ?hq4⟩) (by assumption) ?rq4
            case hq4 => intro W hSw; (try obtain ⟨z0, z1, z2, z3, z4, z5⟩ := HC.out W hSw); go_simp; (try with_reducible rfl)
            try simp only [Act.put, List.setIfInBounds_toArray, List.set_cons_zero, List.set_cons_succ]
            refine wpAnyH_take (i := 4) (oi := { dst := some 126, op := Op.move (Operand.tmp 125), type := 4, pos := "more.go:74", after := #[{ on := 3, ground := Ground.data }], guard := none }) (v := ?vq5) rfl (by kernel_rfl) (by kernel_rfl) (by kernel_rfl) (fun _ _ _ h => h) (Or.inl ⟨by rfl, ?hq5⟩) (by assumption) ?rq5
            case hq5 => intro W hSw; (try obtain ⟨z0, z1, z2, z3, z4, z5⟩ := HC.out W hSw); go_simp; (try with_reducible rfl)
            try simp only [Act.put, List.setIfInBounds_toArray, List.set_cons_zero, List.set_cons_succ]
            refine wpAnyH_take (i := 5) (oi := { dst := some 127, op := Op.fieldAddr 43 (Operand.tmp 21) 1, type := 0, pos := "more.go:74", after := #[{ on := 4, ground := Ground.guard }], guard := some (4, false) }) (v := ?vq6) rfl (by kernel_rfl) (by kernel_rfl) (by kernel_rfl) (fun _ _ _ h => h) (Or.inl ⟨by rfl, ?hq6⟩) (by assumption) ?rq6
            case hq6 => intro W hSw; (try obtain ⟨z0, z1, z2, z3, z4, z5⟩ := HC.out W hSw); go_simp; (try with_reducible rfl)
            try simp only [Act.put, List.setIfInBounds_toArray, List.set_cons_zero, List.set_cons_succ]
            refine wpAnyH_take (i := 6) (oi := { dst := some 128, op := Op.load 3 (Operand.tmp 127), type := 3, pos := "more.go:74", after := #[{ on := 5, ground := Ground.data }, { on := 4, ground := Ground.guard }], guard := some (4, false) }) (v := ?vq7) rfl (by kernel_rfl) (by kernel_rfl) (by kernel_rfl) (fun _ _ _ h => h) (Or.inl ⟨by rfl, ?hq7⟩) (by assumption) ?rq7
            case hq7 => intro W hSw; (try obtain ⟨z0, z1, z2, z3, z4, z5⟩ := HC.out W hSw); go_simp; (try with_reducible rfl)
            try simp only [Act.put, List.setIfInBounds_toArray, List.set_cons_zero, List.set_cons_succ]
            refine wpAnyH_take (i := 7) (oi := { dst := some 129, op := Op.move (Operand.tmp 4), type := 3, pos := "more.go:74", after := #[{ on := 4, ground := Ground.guard }], guard := some (4, false) }) (v := ?vq8) rfl (by kernel_rfl) (by kernel_rfl) (by kernel_rfl) (fun _ _ _ h => h) (Or.inl ⟨by rfl, ?hq8⟩) (by assumption) ?rq8
            case hq8 => intro W hSw; (try obtain ⟨z0, z1, z2, z3, z4, z5⟩ := HC.out W hSw); go_simp; (try with_reducible rfl)
            try simp only [Act.put, List.setIfInBounds_toArray, List.set_cons_zero, List.set_cons_succ]
            refine wpAnyH_take (i := 8) (oi := { dst := some 130, op := Op.binOp BinOp.lss 3 (Operand.tmp 128) (Operand.tmp 129) 3, type := 4, pos := "more.go:74", after := #[{ on := 6, ground := Ground.data }, { on := 7, ground := Ground.data }, { on := 4, ground := Ground.guard }], guard := some (4, false) }) (v := ?vq9) rfl (by kernel_rfl) (by kernel_rfl) (by kernel_rfl) (fun _ _ _ h => h) (Or.inl ⟨by rfl, ?hq9⟩) (by assumption) ?rq9
            case hq9 => intro W hSw; (try obtain ⟨z0, z1, z2, z3, z4, z5⟩ := HC.out W hSw); go_simp; (try with_reducible rfl)
            try simp only [Act.put, List.setIfInBounds_toArray, List.set_cons_zero, List.set_cons_succ]
            refine wpAnyH_take (i := 9) (oi := { dst := some 131, op := Op.pick (Operand.tmp 126) (Operand.const (Value.bool true)) (Operand.tmp 130), type := 4, pos := "more.go:74", after := #[{ on := 4, ground := Ground.data }, { on := 8, ground := Ground.data }], guard := none }) (v := ?vq10) rfl (by kernel_rfl) (by kernel_rfl) (by kernel_rfl) (fun _ _ _ h => h) (Or.inl ⟨by rfl, ?hq10⟩) (by assumption) ?rq10
            case hq10 => intro W hSw; (try obtain ⟨z0, z1, z2, z3, z4, z5⟩ := HC.out W hSw); go_simp; (try with_reducible rfl)
            try simp only [Act.put, List.setIfInBounds_toArray, List.set_cons_zero, List.set_cons_succ]
            refine wpAnyH_take (i := 10) (oi := { dst := some 132, op := Op.move (Operand.tmp 131), type := 4, pos := "more.go:74", after := #[{ on := 9, ground := Ground.data }, { on := 4, ground := Ground.chain }], guard := none }) (v := ?vq11) rfl (by kernel_rfl) (by kernel_rfl) (by kernel_rfl) (fun _ _ _ h => h) (Or.inl ⟨by rfl, ?hq11⟩) (by assumption) ?rq11
            case hq11 => intro W hSw; (try obtain ⟨z0, z1, z2, z3, z4, z5⟩ := HC.out W hSw); go_simp; (try with_reducible rfl)
            try simp only [Act.put, List.setIfInBounds_toArray, List.set_cons_zero, List.set_cons_succ]
            refine wpAnyH_take (i := 11) (oi := { dst := some 133, op := Op.fieldAddr 43 (Operand.tmp 21) 1, type := 0, pos := "more.go:74", after := #[{ on := 10, ground := Ground.guard }], guard := some (10, false) }) (v := ?vq12) rfl (by kernel_rfl) (by kernel_rfl) (by kernel_rfl) (fun _ _ _ h => h) (Or.inl ⟨by rfl, ?hq12⟩) (by assumption) ?rq12
            case hq12 => intro W hSw; (try obtain ⟨z0, z1, z2, z3, z4, z5⟩ := HC.out W hSw); go_simp; (try with_reducible rfl)
            try simp only [Act.put, List.setIfInBounds_toArray, List.set_cons_zero, List.set_cons_succ]
            refine wpAnyH_take (i := 12) (oi := { dst := some 134, op := Op.load 3 (Operand.tmp 133), type := 3, pos := "more.go:74", after := #[{ on := 11, ground := Ground.data }, { on := 10, ground := Ground.guard }], guard := some (10, false) }) (v := ?vq13) rfl (by kernel_rfl) (by kernel_rfl) (by kernel_rfl) (fun _ _ _ h => h) (Or.inl ⟨by rfl, ?hq13⟩) (by assumption) ?rq13
            case hq13 => intro W hSw; (try obtain ⟨z0, z1, z2, z3, z4, z5⟩ := HC.out W hSw); go_simp; (try with_reducible rfl)
            try simp only [Act.put, List.setIfInBounds_toArray, List.set_cons_zero, List.set_cons_succ]
            refine wpAnyH_take (i := 13) (oi := { dst := some 135, op := Op.move (Operand.tmp 6), type := 3, pos := "more.go:74", after := #[{ on := 10, ground := Ground.guard }], guard := some (10, false) }) (v := ?vq14) rfl (by kernel_rfl) (by kernel_rfl) (by kernel_rfl) (fun _ _ _ h => h) (Or.inl ⟨by rfl, ?hq14⟩) (by assumption) ?rq14
            case hq14 => intro W hSw; (try obtain ⟨z0, z1, z2, z3, z4, z5⟩ := HC.out W hSw); go_simp; (try with_reducible rfl)
            try simp only [Act.put, List.setIfInBounds_toArray, List.set_cons_zero, List.set_cons_succ]
            refine wpAnyH_take (i := 14) (oi := { dst := some 136, op := Op.binOp BinOp.geq 3 (Operand.tmp 134) (Operand.tmp 135) 3, type := 4, pos := "more.go:74", after := #[{ on := 12, ground := Ground.data }, { on := 13, ground := Ground.data }, { on := 10, ground := Ground.guard }], guard := some (10, false) }) (v := ?vq15) rfl (by kernel_rfl) (by kernel_rfl) (by kernel_rfl) (fun _ _ _ h => h) (Or.inl ⟨by rfl, ?hq15⟩) (by assumption) ?rq15
            case hq15 => intro W hSw; (try obtain ⟨z0, z1, z2, z3, z4, z5⟩ := HC.out W hSw); go_simp; (try with_reducible rfl)
            try simp only [Act.put, List.setIfInBounds_toArray, List.set_cons_zero, List.set_cons_succ]
            refine wpAnyH_take (i := 15) (oi := { dst := some 137, op := Op.pick (Operand.tmp 132) (Operand.const (Value.bool true)) (Operand.tmp 136), type := 4, pos := "more.go:74", after := #[{ on := 10, ground := Ground.data }, { on := 14, ground := Ground.data }], guard := none }) (v := ?vq16) rfl (by kernel_rfl) (by kernel_rfl) (by kernel_rfl) (fun _ _ _ h => h) (Or.inl ⟨by rfl, ?hq16⟩) (by assumption) ?rq16
            case hq16 => intro W hSw; (try obtain ⟨z0, z1, z2, z3, z4, z5⟩ := HC.out W hSw); go_simp; (try with_reducible rfl)
            try simp only [Act.put, List.setIfInBounds_toArray, List.set_cons_zero, List.set_cons_succ]
            refine wpAnyH_take (i := 16) (oi := { dst := some 138, op := Op.move (Operand.tmp 137), type := 4, pos := "more.go:74", after := #[{ on := 15, ground := Ground.data }, { on := 10, ground := Ground.chain }], guard := none }) (v := ?vq17) rfl (by kernel_rfl) (by kernel_rfl) (by kernel_rfl) (fun _ _ _ h => h) (Or.inl ⟨by rfl, ?hq17⟩) (by assumption) ?rq17
            case hq17 => intro W hSw; (try obtain ⟨z0, z1, z2, z3, z4, z5⟩ := HC.out W hSw); go_simp; (try with_reducible rfl)
            try simp only [Act.put, List.setIfInBounds_toArray, List.set_cons_zero, List.set_cons_succ]
            refine wpAnyH_take (i := 17) (oi := { dst := some 139, op := Op.fieldAddr 43 (Operand.tmp 21) 1, type := 0, pos := "more.go:74", after := #[{ on := 16, ground := Ground.guard }], guard := some (16, false) }) (v := ?vq18) rfl (by kernel_rfl) (by kernel_rfl) (by kernel_rfl) (fun _ _ _ h => h) (Or.inl ⟨by rfl, ?hq18⟩) (by assumption) ?rq18
            case hq18 => intro W hSw; (try obtain ⟨z0, z1, z2, z3, z4, z5⟩ := HC.out W hSw); go_simp; (try with_reducible rfl)
            try simp only [Act.put, List.setIfInBounds_toArray, List.set_cons_zero, List.set_cons_succ]
            refine wpAnyH_take (i := 18) (oi := { dst := some 140, op := Op.load 3 (Operand.tmp 139), type := 3, pos := "more.go:74", after := #[{ on := 17, ground := Ground.data }, { on := 16, ground := Ground.guard }], guard := some (16, false) }) (v := ?vq19) rfl (by kernel_rfl) (by kernel_rfl) (by kernel_rfl) (fun _ _ _ h => h) (Or.inl ⟨by rfl, ?hq19⟩) (by assumption) ?rq19
            case hq19 => intro W hSw; (try obtain ⟨z0, z1, z2, z3, z4, z5⟩ := HC.out W hSw); go_simp; (try with_reducible rfl)
            try simp only [Act.put, List.setIfInBounds_toArray, List.set_cons_zero, List.set_cons_succ]
            refine wpAnyH_take (i := 19) (oi := { dst := some 141, op := Op.fieldAddr 33 (Operand.tmp 7) 1, type := 0, pos := "more.go:74", after := #[{ on := 16, ground := Ground.guard }], guard := some (16, false) }) (v := ?vq20) rfl (by kernel_rfl) (by kernel_rfl) (by kernel_rfl) (fun _ _ _ h => h) (Or.inl ⟨by rfl, ?hq20⟩) (by assumption) ?rq20
            case hq20 => intro W hSw; (try obtain ⟨z0, z1, z2, z3, z4, z5⟩ := HC.out W hSw); go_simp; (try with_reducible rfl)
            try simp only [Act.put, List.setIfInBounds_toArray, List.set_cons_zero, List.set_cons_succ]
            refine wpAnyH_take (i := 20) (oi := { dst := some 142, op := Op.load 31 (Operand.tmp 141), type := 31, pos := "more.go:74", after := #[{ on := 19, ground := Ground.data }, { on := 16, ground := Ground.guard }], guard := some (16, false) }) (v := ?vq21) rfl (by kernel_rfl) (by kernel_rfl) (by kernel_rfl) (fun _ _ _ h => h) (Or.inl ⟨by rfl, ?hq21⟩) (by assumption) ?rq21
            case hq21 => intro W hSw; (try obtain ⟨z0, z1, z2, z3, z4, z5⟩ := HC.out W hSw); go_simp; (try with_reducible rfl)
            try simp only [Act.put, List.setIfInBounds_toArray, List.set_cons_zero, List.set_cons_succ]
            refine wpAnyH_take (i := 21) (oi := { dst := some 143, op := Op.fieldAddr 52 (Operand.tmp 18) 0, type := 0, pos := "more.go:74", after := #[{ on := 16, ground := Ground.guard }], guard := some (16, false) }) (v := ?vq22) rfl (by kernel_rfl) (by kernel_rfl) (by kernel_rfl) (fun _ _ _ h => h) (Or.inl ⟨by rfl, ?hq22⟩) (by assumption) ?rq22
            case hq22 => intro W hSw; (try obtain ⟨z0, z1, z2, z3, z4, z5⟩ := HC.out W hSw); go_simp; (try with_reducible rfl)
            try simp only [Act.put, List.setIfInBounds_toArray, List.set_cons_zero, List.set_cons_succ]
            refine wpAnyH_take (i := 22) (oi := { dst := some 144, op := Op.load 3 (Operand.tmp 143), type := 3, pos := "more.go:74", after := #[{ on := 21, ground := Ground.data }, { on := 16, ground := Ground.guard }], guard := some (16, false) }) (v := ?vq23) rfl (by kernel_rfl) (by kernel_rfl) (by kernel_rfl) (fun _ _ _ h => h) (Or.inl ⟨by rfl, ?hq23⟩) (by assumption) ?rq23
            case hq23 => intro W hSw; (try obtain ⟨z0, z1, z2, z3, z4, z5⟩ := HC.out W hSw); go_simp; (try with_reducible rfl)
            try simp only [Act.put, List.setIfInBounds_toArray, List.set_cons_zero, List.set_cons_succ]
            refine wpAnyH_take (i := 23) (oi := { dst := some 145, op := Op.indexAddr 31 (Operand.tmp 142) (Operand.tmp 144), type := 0, pos := "more.go:74", after := #[{ on := 20, ground := Ground.data }, { on := 22, ground := Ground.data }, { on := 16, ground := Ground.guard }], guard := some (16, false) }) (v := ?vq24) rfl (by kernel_rfl) (by kernel_rfl) (by kernel_rfl) (fun _ _ _ h => h) (Or.inl ⟨by rfl, ?hq24⟩) (by assumption) ?rq24
            case hq24 => intro W hSw; (try obtain ⟨z0, z1, z2, z3, z4, z5⟩ := HC.out W hSw); go_simp; (try with_reducible rfl)
            try simp only [Act.put, List.setIfInBounds_toArray, List.set_cons_zero, List.set_cons_succ]
            refine wpAnyH_take (i := 24) (oi := { dst := some 146, op := Op.fieldAddr 30 (Operand.tmp 145) 1, type := 0, pos := "more.go:74", after := #[{ on := 23, ground := Ground.data }, { on := 16, ground := Ground.guard }], guard := some (16, false) }) (v := ?vq25) rfl (by kernel_rfl) (by kernel_rfl) (by kernel_rfl) (fun _ _ _ h => h) (Or.inl ⟨by rfl, ?hq25⟩) (by assumption) ?rq25
            case hq25 => intro W hSw; (try obtain ⟨z0, z1, z2, z3, z4, z5⟩ := HC.out W hSw); go_simp; (try with_reducible rfl)
            try simp only [Act.put, List.setIfInBounds_toArray, List.set_cons_zero, List.set_cons_succ]
            refine wpAnyH_take (i := 25) (oi := { dst := some 147, op := Op.load 3 (Operand.tmp 146), type := 3, pos := "more.go:74", after := #[{ on := 24, ground := Ground.data }, { on := 16, ground := Ground.guard }], guard := some (16, false) }) (v := ?vq26) rfl (by kernel_rfl) (by kernel_rfl) (by kernel_rfl) (fun _ _ _ h => h) (Or.inl ⟨by rfl, ?hq26⟩) (by assumption) ?rq26
            case hq26 => intro W hSw; (try obtain ⟨z0, z1, z2, z3, z4, z5⟩ := HC.out W hSw); go_simp; (try with_reducible rfl)
            try simp only [Act.put, List.setIfInBounds_toArray, List.set_cons_zero, List.set_cons_succ]
            refine wpAnyH_take (i := 26) (oi := { dst := some 148, op := Op.binOp BinOp.rem 3 (Operand.tmp 140) (Operand.tmp 147) 3, type := 3, pos := "more.go:74", after := #[{ on := 18, ground := Ground.data }, { on := 25, ground := Ground.data }, { on := 16, ground := Ground.guard }], guard := some (16, false) }) (v := ?vq27) rfl (by kernel_rfl) (by kernel_rfl) (by kernel_rfl) (fun _ _ _ h => h) (Or.inl ⟨by rfl, ?hq27⟩) (by assumption) ?rq27
            case hq27 => intro W hSw; (try obtain ⟨z0, z1, z2, z3, z4, z5⟩ := HC.out W hSw); go_simp; (try with_reducible rfl)
            try simp only [Act.put, List.setIfInBounds_toArray, List.set_cons_zero, List.set_cons_succ]
            refine wpAnyH_take (i := 27) (oi := { dst := some 149, op := Op.binOp BinOp.neq 3 (Operand.tmp 148) (Operand.const (Value.int IntKind.i64 0)) 3, type := 4, pos := "more.go:74", after := #[{ on := 26, ground := Ground.data }, { on := 16, ground := Ground.guard }], guard := some (16, false) }) (v := ?vq28) rfl (by kernel_rfl) (by kernel_rfl) (by kernel_rfl) (fun _ _ _ h => h) (Or.inl ⟨by rfl, ?hq28⟩) (by assumption) ?rq28
            case hq28 => intro W hSw; (try obtain ⟨z0, z1, z2, z3, z4, z5⟩ := HC.out W hSw); go_simp; (try with_reducible rfl)
            try simp only [Act.put, List.setIfInBounds_toArray, List.set_cons_zero, List.set_cons_succ]
            refine wpAnyH_take (i := 28) (oi := { dst := some 150, op := Op.pick (Operand.tmp 138) (Operand.const (Value.bool true)) (Operand.tmp 149), type := 4, pos := "more.go:74", after := #[{ on := 16, ground := Ground.data }, { on := 27, ground := Ground.data }], guard := none }) (v := ?vq29) rfl (by kernel_rfl) (by kernel_rfl) (by kernel_rfl) (fun _ _ _ h => h) (Or.inl ⟨by rfl, ?hq29⟩) (by assumption) ?rq29
            case hq29 => intro W hSw; (try obtain ⟨z0, z1, z2, z3, z4, z5⟩ := HC.out W hSw); go_simp; (try with_reducible rfl)
            try simp only [Act.put, List.setIfInBounds_toArray, List.set_cons_zero, List.set_cons_succ]
            refine wpAnyH_take (i := 29) (oi := { dst := some 151, op := Op.move (Operand.tmp 150), type := 4, pos := "more.go:74", after := #[{ on := 28, ground := Ground.data }, { on := 16, ground := Ground.chain }], guard := none }) (v := ?vq30) rfl (by kernel_rfl) (by kernel_rfl) (by kernel_rfl) (fun _ _ _ h => h) (Or.inl ⟨by rfl, ?hq30⟩) (by assumption) ?rq30
            case hq30 => intro W hSw; (try obtain ⟨z0, z1, z2, z3, z4, z5⟩ := HC.out W hSw); go_simp; (try with_reducible rfl)
            try simp only [Act.put, List.setIfInBounds_toArray, List.set_cons_zero, List.set_cons_succ]
            refine wpAnyH_take (i := 30) (oi := { dst := some 152, op := Op.move (Operand.tmp 20), type := 3, pos := "more.go:74", after := #[{ on := 29, ground := Ground.guard }], guard := some (29, false) }) (v := ?vq31) rfl (by kernel_rfl) (by kernel_rfl) (by kernel_rfl) (fun _ _ _ h => h) (Or.inl ⟨by rfl, ?hq31⟩) (by assumption) ?rq31
            case hq31 => intro W hSw; (try obtain ⟨z0, z1, z2, z3, z4, z5⟩ := HC.out W hSw); go_simp; (try with_reducible rfl)
            try simp only [Act.put, List.setIfInBounds_toArray, List.set_cons_zero, List.set_cons_succ]
            refine wpAnyH_take (i := 31) (oi := { dst := some 153, op := Op.binOp BinOp.gtr 3 (Operand.tmp 152) (Operand.const (Value.int IntKind.i64 0)) 3, type := 4, pos := "more.go:74", after := #[{ on := 30, ground := Ground.data }, { on := 29, ground := Ground.guard }], guard := some (29, false) }) (v := ?vq32) rfl (by kernel_rfl) (by kernel_rfl) (by kernel_rfl) (fun _ _ _ h => h) (Or.inl ⟨by rfl, ?hq32⟩) (by assumption) ?rq32
            case hq32 => intro W hSw; (try obtain ⟨z0, z1, z2, z3, z4, z5⟩ := HC.out W hSw); go_simp; (try with_reducible rfl)
            try simp only [Act.put, List.setIfInBounds_toArray, List.set_cons_zero, List.set_cons_succ]
            refine wpAnyH_take (i := 32) (oi := { dst := some 154, op := Op.move (Operand.tmp 153), type := 4, pos := "more.go:74", after := #[{ on := 31, ground := Ground.data }, { on := 29, ground := Ground.chain }, { on := 29, ground := Ground.guard }], guard := some (29, false) }) (v := ?vq33) rfl (by kernel_rfl) (by kernel_rfl) (by kernel_rfl) (fun _ _ _ h => h) (Or.inl ⟨by rfl, ?hq33⟩) (by assumption) ?rq33
            case hq33 => intro W hSw; (try obtain ⟨z0, z1, z2, z3, z4, z5⟩ := HC.out W hSw); go_simp; (try with_reducible rfl)
            try simp only [Act.put, List.setIfInBounds_toArray, List.set_cons_zero, List.set_cons_succ]
            refine wpAnyH_take (i := 33) (oi := { dst := some 155, op := Op.fieldAddr 43 (Operand.tmp 21) 1, type := 0, pos := "more.go:74", after := #[{ on := 32, ground := Ground.guard }], guard := some (32, true) }) (v := undef) rfl (by kernel_rfl) (by kernel_rfl) (by kernel_rfl) (fun _ _ _ h => h) (Or.inr ⟨by rfl, rfl⟩) (by assumption) ?_
            try simp only [Act.put, List.setIfInBounds_toArray, List.set_cons_zero, List.set_cons_succ]
            refine wpAnyH_take (i := 34) (oi := { dst := some 156, op := Op.load 3 (Operand.tmp 155), type := 3, pos := "more.go:74", after := #[{ on := 33, ground := Ground.data }, { on := 32, ground := Ground.guard }], guard := some (32, true) }) (v := undef) rfl (by kernel_rfl) (by kernel_rfl) (by kernel_rfl) (fun _ _ _ h => h) (Or.inr ⟨by rfl, rfl⟩) (by assumption) ?_
            try simp only [Act.put, List.setIfInBounds_toArray, List.set_cons_zero, List.set_cons_succ]
            refine wpAnyH_take (i := 35) (oi := { dst := some 157, op := Op.fieldAddr 52 (Operand.tmp 18) 1, type := 0, pos := "more.go:74", after := #[{ on := 32, ground := Ground.guard }], guard := some (32, true) }) (v := undef) rfl (by kernel_rfl) (by kernel_rfl) (by kernel_rfl) (fun _ _ _ h => h) (Or.inr ⟨by rfl, rfl⟩) (by assumption) ?_
            try simp only [Act.put, List.setIfInBounds_toArray, List.set_cons_zero, List.set_cons_succ]
            refine wpAnyH_take (i := 36) (oi := { dst := some 158, op := Op.load 38 (Operand.tmp 157), type := 38, pos := "more.go:74", after := #[{ on := 35, ground := Ground.data }, { on := 32, ground := Ground.guard }], guard := some (32, true) }) (v := undef) rfl (by kernel_rfl) (by kernel_rfl) (by kernel_rfl) (fun _ _ _ h => h) (Or.inr ⟨by rfl, rfl⟩) (by assumption) ?_
            try simp only [Act.put, List.setIfInBounds_toArray, List.set_cons_zero, List.set_cons_succ]
            refine wpAnyH_take (i := 37) (oi := { dst := some 159, op := Op.move (Operand.tmp 20), type := 3, pos := "more.go:74", after := #[{ on := 32, ground := Ground.guard }], guard := some (32, true) }) (v := undef) rfl (by kernel_rfl) (by kernel_rfl) (by kernel_rfl) (fun _ _ _ h => h) (Or.inr ⟨by rfl, rfl⟩) (by assumption) ?_
            try simp only [Act.put, List.setIfInBounds_toArray, List.set_cons_zero, List.set_cons_succ]
            refine wpAnyH_take (i := 38) (oi := { dst := some 160, op := Op.binOp BinOp.sub 3 (Operand.tmp 159) (Operand.const (Value.int IntKind.i64 1)) 3, type := 3, pos := "more.go:74", after := #[{ on := 37, ground := Ground.data }, { on := 32, ground := Ground.guard }], guard := some (32, true) }) (v := undef) rfl (by kernel_rfl) (by kernel_rfl) (by kernel_rfl) (fun _ _ _ h => h) (Or.inr ⟨by rfl, rfl⟩) (by assumption) ?_
            try simp only [Act.put, List.setIfInBounds_toArray, List.set_cons_zero, List.set_cons_succ]
            refine wpAnyH_take (i := 39) (oi := { dst := some 161, op := Op.indexAddr 38 (Operand.tmp 158) (Operand.tmp 160), type := 0, pos := "more.go:74", after := #[{ on := 36, ground := Ground.data }, { on := 38, ground := Ground.data }, { on := 32, ground := Ground.guard }], guard := some (32, true) }) (v := undef) rfl (by kernel_rfl) (by kernel_rfl) (by kernel_rfl) (fun _ _ _ h => h) (Or.inr ⟨by rfl, rfl⟩) (by assumption) ?_
            try simp only [Act.put, List.setIfInBounds_toArray, List.set_cons_zero, List.set_cons_succ]
            refine wpAnyH_take (i := 40) (oi := { dst := some 162, op := Op.fieldAddr 43 (Operand.tmp 161) 1, type := 0, pos := "more.go:74", after := #[{ on := 39, ground := Ground.data }, { on := 32, ground := Ground.guard }], guard := some (32, true) }) (v := undef) rfl (by kernel_rfl) (by kernel_rfl) (by kernel_rfl) (fun _ _ _ h => h) (Or.inr ⟨by rfl, rfl⟩) (by assumption) ?_
            try simp only [Act.put, List.setIfInBounds_toArray, List.set_cons_zero, List.set_cons_succ]
            refine wpAnyH_take (i := 41) (oi := { dst := some 163, op := Op.load 3 (Operand.tmp 162), type := 3, pos := "more.go:74", after := #[{ on := 40, ground := Ground.data }, { on := 32, ground := Ground.guard }], guard := some (32, true) }) (v := undef) rfl (by kernel_rfl) (by kernel_rfl) (by kernel_rfl) (fun _ _ _ h => h) (Or.inr ⟨by rfl, rfl⟩) (by assumption) ?_
            try simp only [Act.put, List.setIfInBounds_toArray, List.set_cons_zero, List.set_cons_succ]
            refine wpAnyH_take (i := 42) (oi := { dst := some 164, op := Op.binOp BinOp.leq 3 (Operand.tmp 156) (Operand.tmp 163) 3, type := 4, pos := "more.go:74", after := #[{ on := 34, ground := Ground.data }, { on := 41, ground := Ground.data }, { on := 32, ground := Ground.guard }], guard := some (32, true) }) (v := undef) rfl (by kernel_rfl) (by kernel_rfl) (by kernel_rfl) (fun _ _ _ h => h) (Or.inr ⟨by rfl, rfl⟩) (by assumption) ?_
            try simp only [Act.put, List.setIfInBounds_toArray, List.set_cons_zero, List.set_cons_succ]
            refine wpAnyH_take (i := 43) (oi := { dst := some 165, op := Op.pick (Operand.tmp 154) (Operand.tmp 164) (Operand.const (Value.bool false)), type := 4, pos := "more.go:74", after := #[{ on := 32, ground := Ground.data }, { on := 42, ground := Ground.data }, { on := 29, ground := Ground.guard }], guard := some (29, false) }) (v := ?vq34) rfl (by kernel_rfl) (by kernel_rfl) (by kernel_rfl) (fun _ _ _ h => h) (Or.inl ⟨by rfl, ?hq34⟩) (by assumption) ?rq34
            case hq34 => intro W hSw; (try obtain ⟨z0, z1, z2, z3, z4, z5⟩ := HC.out W hSw); go_simp; (try with_reducible rfl)
            try simp only [Act.put, List.setIfInBounds_toArray, List.set_cons_zero, List.set_cons_succ]
            refine wpAnyH_take (i := 44) (oi := { dst := some 166, op := Op.pick (Operand.tmp 151) (Operand.const (Value.bool true)) (Operand.tmp 165), type := 4, pos := "more.go:74", after := #[{ on := 29, ground := Ground.data }, { on := 43, ground := Ground.data }], guard := none }) (v := ?vq35) rfl (by kernel_rfl) (by kernel_rfl) (by kernel_rfl) (fun _ _ _ h => h) (Or.inl ⟨by rfl, ?hq35⟩) (by assumption) ?rq35
            case hq35 => intro W hSw; (try obtain ⟨z0, z1, z2, z3, z4, z5⟩ := HC.out W hSw); go_simp; (try with_reducible rfl)
            try simp only [Act.put, List.setIfInBounds_toArray, List.set_cons_zero, List.set_cons_succ]
            refine wpAnyH_done (by kernel_rfl) ?_ _
            go_wp2_with fail
            go_roundw
            case rel => exact ⟨q + 1, by omega, by go_num, F2.out.trans hHeld (fun _ h => h.elim)⟩
            case measure => simp [intOf]; omega
          · have g1 : decide ((0 : Int) < (q : Int)) = true := decide_eq_true (by omega)
            have g2 : (0 : Int) < (q : Int) := by omega
            have g7 : 0 < q := by omega
            have g8 : decide (0 < q) = true := decide_eq_true g7
            obtain ⟨ae', y, e, hy, _, e1, _⟩ := (RA.out.fr0 F2.out).rec_ (show q - 1 < na by omega)
            injection e with e
            subst e
            have hrise : y.start < v.start := sorted_rise Hsrt.out (i := q - 1) hy (by rw [show q - 1 + 1 = q by omega]; exact HvL.out) (by rw [m1]; exact (Hmem.out x hx y (mem_of_get hy)).1)
            obtain ⟨sy, hsy⟩ : ∃ z, y.start = z := ⟨_, rfl⟩
            rw [hst, hsy] at hrise
            rw [hsy] at e1
            have g3 : decide (st ≤ sy) = false := decide_eq_false (by omega)
            have g4 : ¬ st ≤ sy := by omega
            have g5 : IntKind.i64.wrap ((q : Int) - 1) = ((q - 1 : Nat) : Int) := by have := HnA.out; simp [IntKind.wrap, IntKind.signed, IntKind.bits]; omega
            obtain ⟨q', hq'⟩ : ∃ z, q - 1 = z := ⟨_, rfl⟩
            rw [hq'] at g5 e1
            have g6 : 0 ≤ (q' : Int) ∧ (q' : Int) < (na : Int) := by omega
            have HC : Hid (∀ W, Fr (fun _ => False) W2 W → W.cell? ⟨pr, 0, none⟩ = some (.string s) ∧ W.cell? ⟨pr, 1, none⟩ = some (.int .i64 st) ∧ W.cell? ⟨w.heap.size, 1, none⟩ = some (.slice (some ad) n c) ∧ W.cell? ⟨pa, 0, none⟩ = some (.int .i64 kT) ∧ W.cell? ⟨pa, 1, none⟩ = some (.slice (some ae) na c6) ∧ W.cell? ⟨(ad.add (kT * 4)).block, (ad.add (kT * 4)).off + 1, none⟩ = some (.int .i64 ev) ∧ W.cell? ⟨(ae.add (q' * 7)).block, (ae.add (q' * 7)).off + 1, none⟩ = some (.int .i64 sy)) := fun W f => by
              obtain ⟨k0, k1, k2, k3, k4, k5⟩ := HC0.out W f
              exact ⟨k0, k1, k2, k3, k4, k5, f.cell e1 (fun h => h)⟩
            clear HC0 hst hev m1 m2 m3 hrise hy hsy e1
            refine wp_region_held_drew (S := fun W => Fr (fun _ => False) W2 W) (by kernel_rfl) ((Fr.refl _ W2).drew) (fun hHeld => ?_)
            refine wpAnyH_take (i := 0) (oi := { dst := some 122, op := Op.fieldAddr 43 (Operand.tmp 21) 0, type := 0, pos := "more.go:74", after := #[], guard := none }) (v := ?vq36) rfl (by kernel_rfl) (by kernel_rfl) (by kernel_rfl) (fun _ _ _ h => h) (Or.inl ⟨by rfl, ?hq36⟩) (by assumption) ?rq36
            case hq36 => intro W hSw; (try obtain ⟨z0, z1, z2, z3, z4, z5, z6⟩ := HC.out W hSw); go_simp; (try with_reducible rfl)
            try simp only [Act.put, List.setIfInBounds_toArray, List.set_cons_zero, List.set_cons_succ]
            refine wpAnyH_take (i := 1) (oi := { dst := some 123, op := Op.load 9 (Operand.tmp 122), type := 9, pos := "more.go:74", after := #[{ on := 0, ground := Ground.data }], guard := none }) (v := ?vq37) rfl (by kernel_rfl) (by kernel_rfl) (by kernel_rfl) (fun _ _ _ h => h) (Or.inl ⟨by rfl, ?hq37⟩) (by assumption) ?rq37
            case hq37 => intro W hSw; (try obtain ⟨z0, z1, z2, z3, z4, z5, z6⟩ := HC.out W hSw); go_simp; (try with_reducible rfl)
            try simp only [Act.put, List.setIfInBounds_toArray, List.set_cons_zero, List.set_cons_succ]
            refine wpAnyH_take (i := 2) (oi := { dst := some 124, op := Op.move (Operand.tmp 3), type := 9, pos := "more.go:74", after := #[], guard := none }) (v := ?vq38) rfl (by kernel_rfl) (by kernel_rfl) (by kernel_rfl) (fun _ _ _ h => h) (Or.inl ⟨by rfl, ?hq38⟩) (by assumption) ?rq38
            case hq38 => intro W hSw; (try obtain ⟨z0, z1, z2, z3, z4, z5, z6⟩ := HC.out W hSw); go_simp; (try with_reducible rfl)
            try simp only [Act.put, List.setIfInBounds_toArray, List.set_cons_zero, List.set_cons_succ]
            refine wpAnyH_take (i := 3) (oi := { dst := some 125, op := Op.binOp BinOp.neq 9 (Operand.tmp 123) (Operand.tmp 124) 9, type := 4, pos := "more.go:74", after := #[{ on := 1, ground := Ground.data }, { on := 2, ground := Ground.data }], guard := none }) (v := ?vq39) rfl (by kernel_rfl) (by kernel_rfl) (by kernel_rfl) (fun _ _ _ h => h) (Or.inl ⟨by rfl, ?hq39⟩) (by assumption) ?rq39
            case hq39 => intro W hSw; (try obtain ⟨z0, z1, z2, z3, z4, z5, z6⟩ := HC.out W hSw); go_simp; (try with_reducible rfl)
            try simp only [Act.put, List.setIfInBounds_toArray, List.set_cons_zero, List.set_cons_succ]
            refine wpAnyH_take (i := 4) (oi := { dst := some 126, op := Op.move (Operand.tmp 125), type := 4, pos := "more.go:74", after := #[{ on := 3, ground := Ground.data }], guard := none }) (v := ?vq40) rfl (by kernel_rfl) (by kernel_rfl) (by kernel_rfl) (fun _ _ _ h => h) (Or.inl ⟨by rfl, ?hq40⟩) (by assumption) ?rq40
            case hq40 => intro W hSw; (try obtain ⟨z0, z1, z2, z3, z4, z5, z6⟩ := HC.out W hSw); go_simp; (try with_reducible rfl)
            try simp only [Act.put, List.setIfInBounds_toArray, List.set_cons_zero, List.set_cons_succ]
            refine wpAnyH_take (i := 5) (oi := { dst := some 127, op := Op.fieldAddr 43 (Operand.tmp 21) 1, type := 0, pos := "more.go:74", after := #[{ on := 4, ground := Ground.guard }], guard := some (4, false) }) (v := ?vq41) rfl (by kernel_rfl) (by kernel_rfl) (by kernel_rfl) (fun _ _ _ h => h) (Or.inl ⟨by rfl, ?hq41⟩) (by assumption) ?rq41
            case hq41 => intro W hSw; (try obtain ⟨z0, z1, z2, z3, z4, z5, z6⟩ := HC.out W hSw); go_simp; (try with_reducible rfl)
            try simp only [Act.put, List.setIfInBounds_toArray, List.set_cons_zero, List.set_cons_succ]
            refine wpAnyH_take (i := 6) (oi := { dst := some 128, op := Op.load 3 (Operand.tmp 127), type := 3, pos := "more.go:74", after := #[{ on := 5, ground := Ground.data }, { on := 4, ground := Ground.guard }], guard := some (4, false) }) (v := ?vq42) rfl (by kernel_rfl) (by kernel_rfl) (by kernel_rfl) (fun _ _ _ h => h) (Or.inl ⟨by rfl, ?hq42⟩) (by assumption) ?rq42
            case hq42 => intro W hSw; (try obtain ⟨z0, z1, z2, z3, z4, z5, z6⟩ := HC.out W hSw); go_simp; (try with_reducible rfl)
            try simp only [Act.put, List.setIfInBounds_toArray, List.set_cons_zero, List.set_cons_succ]
            refine wpAnyH_take (i := 7) (oi := { dst := some 129, op := Op.move (Operand.tmp 4), type := 3, pos := "more.go:74", after := #[{ on := 4, ground := Ground.guard }], guard := some (4, false) }) (v := ?vq43) rfl (by kernel_rfl) (by kernel_rfl) (by kernel_rfl) (fun _ _ _ h => h) (Or.inl ⟨by rfl, ?hq43⟩) (by assumption) ?rq43
            case hq43 => intro W hSw; (try obtain ⟨z0, z1, z2, z3, z4, z5, z6⟩ := HC.out W hSw); go_simp; (try with_reducible rfl)
            try simp only [Act.put, List.setIfInBounds_toArray, List.set_cons_zero, List.set_cons_succ]
            refine wpAnyH_take (i := 8) (oi := { dst := some 130, op := Op.binOp BinOp.lss 3 (Operand.tmp 128) (Operand.tmp 129) 3, type := 4, pos := "more.go:74", after := #[{ on := 6, ground := Ground.data }, { on := 7, ground := Ground.data }, { on := 4, ground := Ground.guard }], guard := some (4, false) }) (v := ?vq44) rfl (by kernel_rfl) (by kernel_rfl) (by kernel_rfl) (fun _ _ _ h => h) (Or.inl ⟨by rfl, ?hq44⟩) (by assumption) ?rq44
            case hq44 => intro W hSw; (try obtain ⟨z0, z1, z2, z3, z4, z5, z6⟩ := HC.out W hSw); go_simp; (try with_reducible rfl)
            try simp only [Act.put, List.setIfInBounds_toArray, List.set_cons_zero, List.set_cons_succ]
            refine wpAnyH_take (i := 9) (oi := { dst := some 131, op := Op.pick (Operand.tmp 126) (Operand.const (Value.bool true)) (Operand.tmp 130), type := 4, pos := "more.go:74", after := #[{ on := 4, ground := Ground.data }, { on := 8, ground := Ground.data }], guard := none }) (v := ?vq45) rfl (by kernel_rfl) (by kernel_rfl) (by kernel_rfl) (fun _ _ _ h => h) (Or.inl ⟨by rfl, ?hq45⟩) (by assumption) ?rq45
            case hq45 => intro W hSw; (try obtain ⟨z0, z1, z2, z3, z4, z5, z6⟩ := HC.out W hSw); go_simp; (try with_reducible rfl)
            try simp only [Act.put, List.setIfInBounds_toArray, List.set_cons_zero, List.set_cons_succ]
            refine wpAnyH_take (i := 10) (oi := { dst := some 132, op := Op.move (Operand.tmp 131), type := 4, pos := "more.go:74", after := #[{ on := 9, ground := Ground.data }, { on := 4, ground := Ground.chain }], guard := none }) (v := ?vq46) rfl (by kernel_rfl) (by kernel_rfl) (by kernel_rfl) (fun _ _ _ h => h) (Or.inl ⟨by rfl, ?hq46⟩) (by assumption) ?rq46
            case hq46 => intro W hSw; (try obtain ⟨z0, z1, z2, z3, z4, z5, z6⟩ := HC.out W hSw); go_simp; (try with_reducible rfl)
            try simp only [Act.put, List.setIfInBounds_toArray, List.set_cons_zero, List.set_cons_succ]
            refine wpAnyH_take (i := 11) (oi := { dst := some 133, op := Op.fieldAddr 43 (Operand.tmp 21) 1, type := 0, pos := "more.go:74", after := #[{ on := 10, ground := Ground.guard }], guard := some (10, false) }) (v := ?vq47) rfl (by kernel_rfl) (by kernel_rfl) (by kernel_rfl) (fun _ _ _ h => h) (Or.inl ⟨by rfl, ?hq47⟩) (by assumption) ?rq47
            case hq47 => intro W hSw; (try obtain ⟨z0, z1, z2, z3, z4, z5, z6⟩ := HC.out W hSw); go_simp; (try with_reducible rfl)
            try simp only [Act.put, List.setIfInBounds_toArray, List.set_cons_zero, List.set_cons_succ]
            refine wpAnyH_take (i := 12) (oi := { dst := some 134, op := Op.load 3 (Operand.tmp 133), type := 3, pos := "more.go:74", after := #[{ on := 11, ground := Ground.data }, { on := 10, ground := Ground.guard }], guard := some (10, false) }) (v := ?vq48) rfl (by kernel_rfl) (by kernel_rfl) (by kernel_rfl) (fun _ _ _ h => h) (Or.inl ⟨by rfl, ?hq48⟩) (by assumption) ?rq48
            case hq48 => intro W hSw; (try obtain ⟨z0, z1, z2, z3, z4, z5, z6⟩ := HC.out W hSw); go_simp; (try with_reducible rfl)
            try simp only [Act.put, List.setIfInBounds_toArray, List.set_cons_zero, List.set_cons_succ]
            refine wpAnyH_take (i := 13) (oi := { dst := some 135, op := Op.move (Operand.tmp 6), type := 3, pos := "more.go:74", after := #[{ on := 10, ground := Ground.guard }], guard := some (10, false) }) (v := ?vq49) rfl (by kernel_rfl) (by kernel_rfl) (by kernel_rfl) (fun _ _ _ h => h) (Or.inl ⟨by rfl, ?hq49⟩) (by assumption) ?rq49
            case hq49 => intro W hSw; (try obtain ⟨z0, z1, z2, z3, z4, z5, z6⟩ := HC.out W hSw); go_simp; (try with_reducible rfl)
            try simp only [Act.put, List.setIfInBounds_toArray, List.set_cons_zero, List.set_cons_succ]
            refine wpAnyH_take (i := 14) (oi := { dst := some 136, op := Op.binOp BinOp.geq 3 (Operand.tmp 134) (Operand.tmp 135) 3, type := 4, pos := "more.go:74", after := #[{ on := 12, ground := Ground.data }, { on := 13, ground := Ground.data }, { on := 10, ground := Ground.guard }], guard := some (10, false) }) (v := ?vq50) rfl (by kernel_rfl) (by kernel_rfl) (by kernel_rfl) (fun _ _ _ h => h) (Or.inl ⟨by rfl, ?hq50⟩) (by assumption) ?rq50
            case hq50 => intro W hSw; (try obtain ⟨z0, z1, z2, z3, z4, z5, z6⟩ := HC.out W hSw); go_simp; (try with_reducible rfl)
            try simp only [Act.put, List.setIfInBounds_toArray, List.set_cons_zero, List.set_cons_succ]
            refine wpAnyH_take (i := 15) (oi := { dst := some 137, op := Op.pick (Operand.tmp 132) (Operand.const (Value.bool true)) (Operand.tmp 136), type := 4, pos := "more.go:74", after := #[{ on := 10, ground := Ground.data }, { on := 14, ground := Ground.data }], guard := none }) (v := ?vq51) rfl (by kernel_rfl) (by kernel_rfl) (by kernel_rfl) (fun _ _ _ h => h) (Or.inl ⟨by rfl, ?hq51⟩) (by assumption) ?rq51
            case hq51 => intro W hSw; (try obtain ⟨z0, z1, z2, z3, z4, z5, z6⟩ := HC.out W hSw); go_simp; (try with_reducible rfl)
            try simp only [Act.put, List.setIfInBounds_toArray, List.set_cons_zero, List.set_cons_succ]
            refine wpAnyH_take (i := 16) (oi := { dst := some 138, op := Op.move (Operand.tmp 137), type := 4, pos := "more.go:74", after := #[{ on := 15, ground := Ground.data }, { on := 10, ground := Ground.chain }], guard := none }) (v := ?vq52) rfl (by kernel_rfl) (by kernel_rfl) (by kernel_rfl) (fun _ _ _ h => h) (Or.inl ⟨by rfl, ?hq52⟩) (by assumption) ?rq52
            case hq52 => intro W hSw; (try obtain ⟨z0, z1, z2, z3, z4, z5, z6⟩ := HC.out W hSw); go_simp; (try with_reducible rfl)
            try simp only [Act.put, List.setIfInBounds_toArray, List.set_cons_zero, List.set_cons_succ]
            refine wpAnyH_take (i := 17) (oi := { dst := some 139, op := Op.fieldAddr 43 (Operand.tmp 21) 1, type := 0, pos := "more.go:74", after := #[{ on := 16, ground := Ground.guard }], guard := some (16, false) }) (v := ?vq53) rfl (by kernel_rfl) (by kernel_rfl) (by kernel_rfl) (fun _ _ _ h => h) (Or.inl ⟨by rfl, ?hq53⟩) (by assumption) ?rq53
            case hq53 => intro W hSw; (try obtain ⟨z0, z1, z2, z3, z4, z5, z6⟩ := HC.out W hSw); go_simp; (try with_reducible rfl)
            try simp only [Act.put, List.setIfInBounds_toArray, List.set_cons_zero, List.set_cons_succ]
            refine wpAnyH_take (i := 18) (oi := { dst := some 140, op := Op.load 3 (Operand.tmp 139), type := 3, pos := "more.go:74", after := #[{ on := 17, ground := Ground.data }, { on := 16, ground := Ground.guard }], guard := some (16, false) }) (v := ?vq54) rfl (by kernel_rfl) (by kernel_rfl) (by kernel_rfl) (fun _ _ _ h => h) (Or.inl ⟨by rfl, ?hq54⟩) (by assumption) ?rq54
            case hq54 => intro W hSw; (try obtain ⟨z0, z1, z2, z3, z4, z5, z6⟩ := HC.out W hSw); go_simp; (try with_reducible rfl)
            try simp only [Act.put, List.setIfInBounds_toArray, List.set_cons_zero, List.set_cons_succ]
            refine wpAnyH_take (i := 19) (oi := { dst := some 141, op := Op.fieldAddr 33 (Operand.tmp 7) 1, type := 0, pos := "more.go:74", after := #[{ on := 16, ground := Ground.guard }], guard := some (16, false) }) (v := ?vq55) rfl (by kernel_rfl) (by kernel_rfl) (by kernel_rfl) (fun _ _ _ h => h) (Or.inl ⟨by rfl, ?hq55⟩) (by assumption) ?rq55
            case hq55 => intro W hSw; (try obtain ⟨z0, z1, z2, z3, z4, z5, z6⟩ := HC.out W hSw); go_simp; (try with_reducible rfl)
            try simp only [Act.put, List.setIfInBounds_toArray, List.set_cons_zero, List.set_cons_succ]
            refine wpAnyH_take (i := 20) (oi := { dst := some 142, op := Op.load 31 (Operand.tmp 141), type := 31, pos := "more.go:74", after := #[{ on := 19, ground := Ground.data }, { on := 16, ground := Ground.guard }], guard := some (16, false) }) (v := ?vq56) rfl (by kernel_rfl) (by kernel_rfl) (by kernel_rfl) (fun _ _ _ h => h) (Or.inl ⟨by rfl, ?hq56⟩) (by assumption) ?rq56
            case hq56 => intro W hSw; (try obtain ⟨z0, z1, z2, z3, z4, z5, z6⟩ := HC.out W hSw); go_simp; (try with_reducible rfl)
            try simp only [Act.put, List.setIfInBounds_toArray, List.set_cons_zero, List.set_cons_succ]
            refine wpAnyH_take (i := 21) (oi := { dst := some 143, op := Op.fieldAddr 52 (Operand.tmp 18) 0, type := 0, pos := "more.go:74", after := #[{ on := 16, ground := Ground.guard }], guard := some (16, false) }) (v := ?vq57) rfl (by kernel_rfl) (by kernel_rfl) (by kernel_rfl) (fun _ _ _ h => h) (Or.inl ⟨by rfl, ?hq57⟩) (by assumption) ?rq57
            case hq57 => intro W hSw; (try obtain ⟨z0, z1, z2, z3, z4, z5, z6⟩ := HC.out W hSw); go_simp; (try with_reducible rfl)
            try simp only [Act.put, List.setIfInBounds_toArray, List.set_cons_zero, List.set_cons_succ]
            refine wpAnyH_take (i := 22) (oi := { dst := some 144, op := Op.load 3 (Operand.tmp 143), type := 3, pos := "more.go:74", after := #[{ on := 21, ground := Ground.data }, { on := 16, ground := Ground.guard }], guard := some (16, false) }) (v := ?vq58) rfl (by kernel_rfl) (by kernel_rfl) (by kernel_rfl) (fun _ _ _ h => h) (Or.inl ⟨by rfl, ?hq58⟩) (by assumption) ?rq58
            case hq58 => intro W hSw; (try obtain ⟨z0, z1, z2, z3, z4, z5, z6⟩ := HC.out W hSw); go_simp; (try with_reducible rfl)
            try simp only [Act.put, List.setIfInBounds_toArray, List.set_cons_zero, List.set_cons_succ]
            refine wpAnyH_take (i := 23) (oi := { dst := some 145, op := Op.indexAddr 31 (Operand.tmp 142) (Operand.tmp 144), type := 0, pos := "more.go:74", after := #[{ on := 20, ground := Ground.data }, { on := 22, ground := Ground.data }, { on := 16, ground := Ground.guard }], guard := some (16, false) }) (v := ?vq59) rfl (by kernel_rfl) (by kernel_rfl) (by kernel_rfl) (fun _ _ _ h => h) (Or.inl ⟨by rfl, ?hq59⟩) (by assumption) ?rq59
            case hq59 => intro W hSw; (try obtain ⟨z0, z1, z2, z3, z4, z5, z6⟩ := HC.out W hSw); go_simp; (try with_reducible rfl)
            try simp only [Act.put, List.setIfInBounds_toArray, List.set_cons_zero, List.set_cons_succ]
            refine wpAnyH_take (i := 24) (oi := { dst := some 146, op := Op.fieldAddr 30 (Operand.tmp 145) 1, type := 0, pos := "more.go:74", after := #[{ on := 23, ground := Ground.data }, { on := 16, ground := Ground.guard }], guard := some (16, false) }) (v := ?vq60) rfl (by kernel_rfl) (by kernel_rfl) (by kernel_rfl) (fun _ _ _ h => h) (Or.inl ⟨by rfl, ?hq60⟩) (by assumption) ?rq60
            case hq60 => intro W hSw; (try obtain ⟨z0, z1, z2, z3, z4, z5, z6⟩ := HC.out W hSw); go_simp; (try with_reducible rfl)
            try simp only [Act.put, List.setIfInBounds_toArray, List.set_cons_zero, List.set_cons_succ]
            refine wpAnyH_take (i := 25) (oi := { dst := some 147, op := Op.load 3 (Operand.tmp 146), type := 3, pos := "more.go:74", after := #[{ on := 24, ground := Ground.data }, { on := 16, ground := Ground.guard }], guard := some (16, false) }) (v := ?vq61) rfl (by kernel_rfl) (by kernel_rfl) (by kernel_rfl) (fun _ _ _ h => h) (Or.inl ⟨by rfl, ?hq61⟩) (by assumption) ?rq61
            case hq61 => intro W hSw; (try obtain ⟨z0, z1, z2, z3, z4, z5, z6⟩ := HC.out W hSw); go_simp; (try with_reducible rfl)
            try simp only [Act.put, List.setIfInBounds_toArray, List.set_cons_zero, List.set_cons_succ]
            refine wpAnyH_take (i := 26) (oi := { dst := some 148, op := Op.binOp BinOp.rem 3 (Operand.tmp 140) (Operand.tmp 147) 3, type := 3, pos := "more.go:74", after := #[{ on := 18, ground := Ground.data }, { on := 25, ground := Ground.data }, { on := 16, ground := Ground.guard }], guard := some (16, false) }) (v := ?vq62) rfl (by kernel_rfl) (by kernel_rfl) (by kernel_rfl) (fun _ _ _ h => h) (Or.inl ⟨by rfl, ?hq62⟩) (by assumption) ?rq62
            case hq62 => intro W hSw; (try obtain ⟨z0, z1, z2, z3, z4, z5, z6⟩ := HC.out W hSw); go_simp; (try with_reducible rfl)
            try simp only [Act.put, List.setIfInBounds_toArray, List.set_cons_zero, List.set_cons_succ]
            refine wpAnyH_take (i := 27) (oi := { dst := some 149, op := Op.binOp BinOp.neq 3 (Operand.tmp 148) (Operand.const (Value.int IntKind.i64 0)) 3, type := 4, pos := "more.go:74", after := #[{ on := 26, ground := Ground.data }, { on := 16, ground := Ground.guard }], guard := some (16, false) }) (v := ?vq63) rfl (by kernel_rfl) (by kernel_rfl) (by kernel_rfl) (fun _ _ _ h => h) (Or.inl ⟨by rfl, ?hq63⟩) (by assumption) ?rq63
            case hq63 => intro W hSw; (try obtain ⟨z0, z1, z2, z3, z4, z5, z6⟩ := HC.out W hSw); go_simp; (try with_reducible rfl)
            try simp only [Act.put, List.setIfInBounds_toArray, List.set_cons_zero, List.set_cons_succ]
            refine wpAnyH_take (i := 28) (oi := { dst := some 150, op := Op.pick (Operand.tmp 138) (Operand.const (Value.bool true)) (Operand.tmp 149), type := 4, pos := "more.go:74", after := #[{ on := 16, ground := Ground.data }, { on := 27, ground := Ground.data }], guard := none }) (v := ?vq64) rfl (by kernel_rfl) (by kernel_rfl) (by kernel_rfl) (fun _ _ _ h => h) (Or.inl ⟨by rfl, ?hq64⟩) (by assumption) ?rq64
            case hq64 => intro W hSw; (try obtain ⟨z0, z1, z2, z3, z4, z5, z6⟩ := HC.out W hSw); go_simp; (try with_reducible rfl)
            try simp only [Act.put, List.setIfInBounds_toArray, List.set_cons_zero, List.set_cons_succ]
            refine wpAnyH_take (i := 29) (oi := { dst := some 151, op := Op.move (Operand.tmp 150), type := 4, pos := "more.go:74", after := #[{ on := 28, ground := Ground.data }, { on := 16, ground := Ground.chain }], guard := none }) (v := ?vq65) rfl (by kernel_rfl) (by kernel_rfl) (by kernel_rfl) (fun _ _ _ h => h) (Or.inl ⟨by rfl, ?hq65⟩) (by assumption) ?rq65
            case hq65 => intro W hSw; (try obtain ⟨z0, z1, z2, z3, z4, z5, z6⟩ := HC.out W hSw); go_simp; (try with_reducible rfl)
            try simp only [Act.put, List.setIfInBounds_toArray, List.set_cons_zero, List.set_cons_succ]
            refine wpAnyH_take (i := 30) (oi := { dst := some 152, op := Op.move (Operand.tmp 20), type := 3, pos := "more.go:74", after := #[{ on := 29, ground := Ground.guard }], guard := some (29, false) }) (v := ?vq66) rfl (by kernel_rfl) (by kernel_rfl) (by kernel_rfl) (fun _ _ _ h => h) (Or.inl ⟨by rfl, ?hq66⟩) (by assumption) ?rq66
            case hq66 => intro W hSw; (try obtain ⟨z0, z1, z2, z3, z4, z5, z6⟩ := HC.out W hSw); go_simp; (try with_reducible rfl)
            try simp only [Act.put, List.setIfInBounds_toArray, List.set_cons_zero, List.set_cons_succ]
            refine wpAnyH_take (i := 31) (oi := { dst := some 153, op := Op.binOp BinOp.gtr 3 (Operand.tmp 152) (Operand.const (Value.int IntKind.i64 0)) 3, type := 4, pos := "more.go:74", after := #[{ on := 30, ground := Ground.data }, { on := 29, ground := Ground.guard }], guard := some (29, false) }) (v := ?vq67) rfl (by kernel_rfl) (by kernel_rfl) (by kernel_rfl) (fun _ _ _ h => h) (Or.inl ⟨by rfl, ?hq67⟩) (by assumption) ?rq67
            case hq67 => intro W hSw; (try obtain ⟨z0, z1, z2, z3, z4, z5, z6⟩ := HC.out W hSw); go_simp; (try with_reducible rfl)
            try simp only [Act.put, List.setIfInBounds_toArray, List.set_cons_zero, List.set_cons_succ]
            refine wpAnyH_take (i := 32) (oi := { dst := some 154, op := Op.move (Operand.tmp 153), type := 4, pos := "more.go:74", after := #[{ on := 31, ground := Ground.data }, { on := 29, ground := Ground.chain }, { on := 29, ground := Ground.guard }], guard := some (29, false) }) (v := ?vq68) rfl (by kernel_rfl) (by kernel_rfl) (by kernel_rfl) (fun _ _ _ h => h) (Or.inl ⟨by rfl, ?hq68⟩) (by assumption) ?rq68
            case hq68 => intro W hSw; (try obtain ⟨z0, z1, z2, z3, z4, z5, z6⟩ := HC.out W hSw); go_simp; (try with_reducible rfl)
            try simp only [Act.put, List.setIfInBounds_toArray, List.set_cons_zero, List.set_cons_succ]
            refine wpAnyH_take (i := 33) (oi := { dst := some 155, op := Op.fieldAddr 43 (Operand.tmp 21) 1, type := 0, pos := "more.go:74", after := #[{ on := 32, ground := Ground.guard }], guard := some (32, true) }) (v := ?vq69) rfl (by kernel_rfl) (by kernel_rfl) (by kernel_rfl) (fun _ _ _ h => h) (Or.inl ⟨by rfl, ?hq69⟩) (by assumption) ?rq69
            case hq69 => intro W hSw; (try obtain ⟨z0, z1, z2, z3, z4, z5, z6⟩ := HC.out W hSw); go_simp; (try with_reducible rfl)
            try simp only [Act.put, List.setIfInBounds_toArray, List.set_cons_zero, List.set_cons_succ]
            refine wpAnyH_take (i := 34) (oi := { dst := some 156, op := Op.load 3 (Operand.tmp 155), type := 3, pos := "more.go:74", after := #[{ on := 33, ground := Ground.data }, { on := 32, ground := Ground.guard }], guard := some (32, true) }) (v := ?vq70) rfl (by kernel_rfl) (by kernel_rfl) (by kernel_rfl) (fun _ _ _ h => h) (Or.inl ⟨by rfl, ?hq70⟩) (by assumption) ?rq70
            case hq70 => intro W hSw; (try obtain ⟨z0, z1, z2, z3, z4, z5, z6⟩ := HC.out W hSw); go_simp; (try with_reducible rfl)
            try simp only [Act.put, List.setIfInBounds_toArray, List.set_cons_zero, List.set_cons_succ]
            refine wpAnyH_take (i := 35) (oi := { dst := some 157, op := Op.fieldAddr 52 (Operand.tmp 18) 1, type := 0, pos := "more.go:74", after := #[{ on := 32, ground := Ground.guard }], guard := some (32, true) }) (v := ?vq71) rfl (by kernel_rfl) (by kernel_rfl) (by kernel_rfl) (fun _ _ _ h => h) (Or.inl ⟨by rfl, ?hq71⟩) (by assumption) ?rq71
            case hq71 => intro W hSw; (try obtain ⟨z0, z1, z2, z3, z4, z5, z6⟩ := HC.out W hSw); go_simp; (try with_reducible rfl)
            try simp only [Act.put, List.setIfInBounds_toArray, List.set_cons_zero, List.set_cons_succ]
            refine wpAnyH_take (i := 36) (oi := { dst := some 158, op := Op.load 38 (Operand.tmp 157), type := 38, pos := "more.go:74", after := #[{ on := 35, ground := Ground.data }, { on := 32, ground := Ground.guard }], guard := some (32, true) }) (v := ?vq72) rfl (by kernel_rfl) (by kernel_rfl) (by kernel_rfl) (fun _ _ _ h => h) (Or.inl ⟨by rfl, ?hq72⟩) (by assumption) ?rq72
            case hq72 => intro W hSw; (try obtain ⟨z0, z1, z2, z3, z4, z5, z6⟩ := HC.out W hSw); go_simp; (try with_reducible rfl)
            try simp only [Act.put, List.setIfInBounds_toArray, List.set_cons_zero, List.set_cons_succ]
            refine wpAnyH_take (i := 37) (oi := { dst := some 159, op := Op.move (Operand.tmp 20), type := 3, pos := "more.go:74", after := #[{ on := 32, ground := Ground.guard }], guard := some (32, true) }) (v := ?vq73) rfl (by kernel_rfl) (by kernel_rfl) (by kernel_rfl) (fun _ _ _ h => h) (Or.inl ⟨by rfl, ?hq73⟩) (by assumption) ?rq73
            case hq73 => intro W hSw; (try obtain ⟨z0, z1, z2, z3, z4, z5, z6⟩ := HC.out W hSw); go_simp; (try with_reducible rfl)
            try simp only [Act.put, List.setIfInBounds_toArray, List.set_cons_zero, List.set_cons_succ]
            refine wpAnyH_take (i := 38) (oi := { dst := some 160, op := Op.binOp BinOp.sub 3 (Operand.tmp 159) (Operand.const (Value.int IntKind.i64 1)) 3, type := 3, pos := "more.go:74", after := #[{ on := 37, ground := Ground.data }, { on := 32, ground := Ground.guard }], guard := some (32, true) }) (v := ?vq74) rfl (by kernel_rfl) (by kernel_rfl) (by kernel_rfl) (fun _ _ _ h => h) (Or.inl ⟨by rfl, ?hq74⟩) (by assumption) ?rq74
            case hq74 => intro W hSw; (try obtain ⟨z0, z1, z2, z3, z4, z5, z6⟩ := HC.out W hSw); go_simp; (try with_reducible rfl)
            try simp only [Act.put, List.setIfInBounds_toArray, List.set_cons_zero, List.set_cons_succ]
            refine wpAnyH_take (i := 39) (oi := { dst := some 161, op := Op.indexAddr 38 (Operand.tmp 158) (Operand.tmp 160), type := 0, pos := "more.go:74", after := #[{ on := 36, ground := Ground.data }, { on := 38, ground := Ground.data }, { on := 32, ground := Ground.guard }], guard := some (32, true) }) (v := ?vq75) rfl (by kernel_rfl) (by kernel_rfl) (by kernel_rfl) (fun _ _ _ h => h) (Or.inl ⟨by rfl, ?hq75⟩) (by assumption) ?rq75
            case hq75 => intro W hSw; (try obtain ⟨z0, z1, z2, z3, z4, z5, z6⟩ := HC.out W hSw); go_simp; (try with_reducible rfl)
            try simp only [Act.put, List.setIfInBounds_toArray, List.set_cons_zero, List.set_cons_succ]
            refine wpAnyH_take (i := 40) (oi := { dst := some 162, op := Op.fieldAddr 43 (Operand.tmp 161) 1, type := 0, pos := "more.go:74", after := #[{ on := 39, ground := Ground.data }, { on := 32, ground := Ground.guard }], guard := some (32, true) }) (v := ?vq76) rfl (by kernel_rfl) (by kernel_rfl) (by kernel_rfl) (fun _ _ _ h => h) (Or.inl ⟨by rfl, ?hq76⟩) (by assumption) ?rq76
            case hq76 => intro W hSw; (try obtain ⟨z0, z1, z2, z3, z4, z5, z6⟩ := HC.out W hSw); go_simp; (try with_reducible rfl)
            try simp only [Act.put, List.setIfInBounds_toArray, List.set_cons_zero, List.set_cons_succ]
            refine wpAnyH_take (i := 41) (oi := { dst := some 163, op := Op.load 3 (Operand.tmp 162), type := 3, pos := "more.go:74", after := #[{ on := 40, ground := Ground.data }, { on := 32, ground := Ground.guard }], guard := some (32, true) }) (v := ?vq77) rfl (by kernel_rfl) (by kernel_rfl) (by kernel_rfl) (fun _ _ _ h => h) (Or.inl ⟨by rfl, ?hq77⟩) (by assumption) ?rq77
            case hq77 => intro W hSw; (try obtain ⟨z0, z1, z2, z3, z4, z5, z6⟩ := HC.out W hSw); go_simp; (try with_reducible rfl)
            try simp only [Act.put, List.setIfInBounds_toArray, List.set_cons_zero, List.set_cons_succ]
            refine wpAnyH_take (i := 42) (oi := { dst := some 164, op := Op.binOp BinOp.leq 3 (Operand.tmp 156) (Operand.tmp 163) 3, type := 4, pos := "more.go:74", after := #[{ on := 34, ground := Ground.data }, { on := 41, ground := Ground.data }, { on := 32, ground := Ground.guard }], guard := some (32, true) }) (v := ?vq78) rfl (by kernel_rfl) (by kernel_rfl) (by kernel_rfl) (fun _ _ _ h => h) (Or.inl ⟨by rfl, ?hq78⟩) (by assumption) ?rq78
            case hq78 => intro W hSw; (try obtain ⟨z0, z1, z2, z3, z4, z5, z6⟩ := HC.out W hSw); go_simp; (try with_reducible rfl)
            try simp only [Act.put, List.setIfInBounds_toArray, List.set_cons_zero, List.set_cons_succ]
            refine wpAnyH_take (i := 43) (oi := { dst := some 165, op := Op.pick (Operand.tmp 154) (Operand.tmp 164) (Operand.const (Value.bool false)), type := 4, pos := "more.go:74", after := #[{ on := 32, ground := Ground.data }, { on := 42, ground := Ground.data }, { on := 29, ground := Ground.guard }], guard := some (29, false) }) (v := ?vq79) rfl (by kernel_rfl) (by kernel_rfl) (by kernel_rfl) (fun _ _ _ h => h) (Or.inl ⟨by rfl, ?hq79⟩) (by assumption) ?rq79
            case hq79 => intro W hSw; (try obtain ⟨z0, z1, z2, z3, z4, z5, z6⟩ := HC.out W hSw); go_simp; (try with_reducible rfl)
            try simp only [Act.put, List.setIfInBounds_toArray, List.set_cons_zero, List.set_cons_succ]
            refine wpAnyH_take (i := 44) (oi := { dst := some 166, op := Op.pick (Operand.tmp 151) (Operand.const (Value.bool true)) (Operand.tmp 165), type := 4, pos := "more.go:74", after := #[{ on := 29, ground := Ground.data }, { on := 43, ground := Ground.data }], guard := none }) (v := ?vq80) rfl (by kernel_rfl) (by kernel_rfl) (by kernel_rfl) (fun _ _ _ h => h) (Or.inl ⟨by rfl, ?hq80⟩) (by assumption) ?rq80
            case hq80 => intro W hSw; (try obtain ⟨z0, z1, z2, z3, z4, z5, z6⟩ := HC.out W hSw); go_simp; (try with_reducible rfl)
            try simp only [Act.put, List.setIfInBounds_toArray, List.set_cons_zero, List.set_cons_succ]
            refine wpAnyH_done (by kernel_rfl) ?_ _
            go_wp2_with fail
            go_roundw
            case rel => exact ⟨q + 1, by omega, by go_num, F2.out.trans hHeld (fun _ h => h.elim)⟩
            case measure => simp [intOf]; omega
        · obtain rfl : na = q := by omega
          have FAq := Lib.hid (FA.out.trans Fq.out (fun _ h => h.elim))
          clear Hmem Hsrt Hr
          go_wp2_with fail
          clear pA0 pA1
          refine (HA2.out _ FAq.out).mono ?_
          rintro r w7 ⟨⟨A7, c7, rfl, r7⟩, b7⟩
          have F7 : Hid (Fr (fun _ => False) W1 w7) := Fq.out.trans (Fr.b0 b7) (fun _ h => h.elim)
          have R7 := Lib.hid r7
          clear b7 r7 HA2 FAq Fq
          go_wp2_with fail
          obtain ⟨W4, hW4⟩ : ∃ W4, W4 = w7.alloc (.cells #[.int .i64 kT, .slice A7 nb c7] 52) := ⟨_, rfl⟩
          rw [← hW4]
          have F8 : Hid (Fr (fun _ => False) W1 W4) := hW4 ▸ F7.out.trans (Fr.none_alloc _ _) (fun _ h => h.elim)
          have BB : Hid (Blk W4 w7.heap.size 52 #[.int .i64 kT, .slice A7 nb c7]) := hW4 ▸ Blk.new _ _ _
          have RB4 : Hid (Rd W4 7 A7 nb (rcells LB)) := hW4 ▸ R7.out.alloc _
          obtain ⟨pb, hpb⟩ : ∃ v, w7.heap.size = v := ⟨_, rfl⟩
          rw [hpb] at BB ⊢
          clear hW4 hpb R7 F7
          refine (HA3.out _ (FA.out.trans F8.out (fun _ h => h.elim))).mono ?_
          rintro r w8 ⟨⟨A9, c9, rfl, r9⟩, b9⟩
          have F9 : Hid (Fr (fun _ => False) W4 w8) := Fr.b0 b9
          have R9 := Lib.hid r9
          clear b9 r9 HA3
          go_wp2_with fail
          obtain ⟨W3, hW3⟩ : ∃ W3, W3 = w8.alloc (.cells #[.int .i64 kC, .slice A9 nc c9] 52) := ⟨_, rfl⟩
          rw [← hW3]
          have Fa : Hid (Fr (fun _ => False) W4 W3) := hW3 ▸ F9.out.trans (Fr.none_alloc _ _) (fun _ h => h.elim)
          have BC : Hid (Blk W3 w8.heap.size 52 #[.int .i64 kC, .slice A9 nc c9]) := hW3 ▸ Blk.new _ _ _
          have RC : Hid (Rd W3 7 A9 nc (rcells LC)) := hW3 ▸ R9.out.alloc _
          obtain ⟨pc, hpc⟩ : ∃ v, w8.heap.size = v := ⟨_, rfl⟩
          rw [hpc] at BC ⊢
          clear hW3 hpc R9 F9
          have Fb : Hid (Fr (fun _ => False) W1 W3) := F8.out.trans Fa.out (fun _ h => h.elim)
          have RB := Lib.hid (RB4.out.fr0 Fa.out)
          have RA3 := Lib.hid (RA.out.fr0 Fb.out)
          have Fc : Hid (Fr (fun _ => False) wro W3) := FA.out.trans Fb.out (fun _ h => h.elim)
          have HC : Hid (∀ W, Fr (fun _ => False) W3 W → W.cell? ⟨t, 0, none⟩ = some (.int .i64 x0) ∧ W.cell? ⟨t, 1, none⟩ = some (.string x1) ∧ W.cell? ⟨t, 2, none⟩ = some (.slice tA x2 tc) ∧ W.cell? ⟨t, 3, none⟩ = some (.slice tB x3 td) ∧ W.cell? ⟨pa, 0, none⟩ = some (.int .i64 kT) ∧ W.cell? ⟨pa, 1, none⟩ = some (.slice A6 na c6) ∧ W.cell? ⟨pb, 0, none⟩ = some (.int .i64 kT) ∧ W.cell? ⟨pb, 1, none⟩ = some (.slice A7 nb c7) ∧ W.cell? ⟨pc, 0, none⟩ = some (.int .i64 kC) ∧ W.cell? ⟨pc, 1, none⟩ = some (.slice A9 nc c9)) := fun W f => by
            obtain ⟨k0, k1, k2, k3⟩ := HTC.out W (Fc.out.trans f (fun _ h => h.elim))
            have ba := BA.out.fr (Fb.out.trans f (fun _ h => h.elim)) (fun h => h)
            have bb := BB.out.fr (Fa.out.trans f (fun _ h => h.elim)) (fun h => h)
            have bc := BC.out.fr f (fun h => h)
            exact ⟨k0, k1, k2, k3, ba.cell 0, ba.cell 1, bb.cell 0, bb.cell 1, bc.cell 0, bc.cell 1⟩
          have HCv : Hid (∀ W, Fr (fun _ => False) W3 W → Calls Try.prog 19 #[.agg #[.int .i64 x0, .string x1, .slice tA x2 tc, .slice tB x3 td], .int .i64 fr] W fun r w' => r = .returned (.int .i64 kT) ∧ Below W.heap.size W w') := fun W f => HCV.out W (Fc.out.trans f (fun _ h => h.elim))
          have OE : Hid (∀ W, Fr (fun _ => False) W3 W → Below w.heap.size w W) := fun W f => OA.out.trans ((Fb.out.trans f (fun _ h => h.elim)).below_of OA.out.size (fun _ h => h.elim))
          obtain ⟨i0, hi, hz0, hz1, hz2⟩ := info_parts info_rec
          clear HTC HCV BA BB BC RB4 RA Fb Fc Fa F8 OA
          by_cases hkk : kT = kC
          case pos =>
            have HSr : Hid (∀ W A cc, Fr (fun _ => False) W3 W → Rd W 7 A (0 + nb + nc) ([] ++ rcells LB ++ rcells LC) → Calls Try.prog 20 #[.slice A (nb + nc) cc, .slice A6 na c6] W fun r w' => r = .returned (.bool true) ∧ Below W.heap.size W w') := fun W A cc f hrd => by
              have e : [] ++ rcells LB ++ rcells LC = rcells LA := by
                rw [List.nil_append, ← Hcut.out hkk]
                unfold rcells
                rw [List.flatMap_append]
              rw [e] at hrd
              have e2 : 0 + nb + nc = na := by
                have h1 := hrd.recs_len
                rw [Hna.out] at h1
                exact h1.symm
              rw [e2] at hrd
              rw [show nb + nc = na by omega]
              exact samerecs_eq LA A na cc A6 c6 W hrd (RA3.out.fr0 f) (by have := HnA.out; omega)
            subst hkk
            clear Hcut
            go_wp2_with fail
            refine wp_region_held_drew (S := fun W => Fr (fun _ => False) W3 W) (by kernel_rfl) ((Fr.refl _ W3).drew) (fun hHeld => ?_)
            refine wpAnyH_ready (rs := [0]) (by kernel_rfl) (by simp) ?_
            refine AllReadyH.cons (o := { dst := some 183, op := Op.call { callee := Callee.value (Operand.func 11), args := #[], argTypes := #[] }, type := 4, pos := "more.go:80", after := #[], guard := none }) rfl (fun K hK => ?_) AllReadyH.nil
            go_simp
            go_wp2_with (first | (go_at_call 11; refine (HAl.out _).mono ?_; rintro r wa ⟨rfl, ba⟩))
            refine hK.out _ _ (hHeld.trans (Fr.b0 ba) (fun _ h => h.elim)) (fun hHeld => ?_)
            clear hK K
            try simp only [Act.put, List.setIfInBounds_toArray, List.set_cons_zero, List.set_cons_succ]
            refine wpAnyH_take (i := 1) (oi := { dst := some 184, op := Op.move (Operand.tmp 183), type := 4, pos := "more.go:80", after := #[{ on := 0, ground := Ground.data }, { on := 0, ground := Ground.chain }], guard := none }) (v := ?vq81) rfl (by kernel_rfl) (by kernel_rfl) (by kernel_rfl) (fun _ _ _ h => h) (Or.inl ⟨by rfl, ?hq81⟩) (by assumption) ?rq81
            case hq81 => intro W hSw; (try obtain ⟨z0, z1, z2, z3, z4, z5, z6, z7, z8, z9⟩ := HC.out W hSw); go_simp; (try with_reducible rfl)
            try simp only [Act.put, List.setIfInBounds_toArray, List.set_cons_zero, List.set_cons_succ]
            refine wpAnyH_take (i := 2) (oi := { dst := some 185, op := Op.fieldAddr 52 (Operand.tmp 18) 0, type := 0, pos := "more.go:80", after := #[{ on := 1, ground := Ground.guard }], guard := some (1, true) }) (v := ?vq82) rfl (by kernel_rfl) (by kernel_rfl) (by kernel_rfl) (fun _ _ _ h => h) (Or.inl ⟨by rfl, ?hq82⟩) (by assumption) ?rq82
            case hq82 => intro W hSw; (try obtain ⟨z0, z1, z2, z3, z4, z5, z6, z7, z8, z9⟩ := HC.out W hSw); go_simp; (try with_reducible rfl)
            try simp only [Act.put, List.setIfInBounds_toArray, List.set_cons_zero, List.set_cons_succ]
            refine wpAnyH_take (i := 3) (oi := { dst := some 186, op := Op.load 3 (Operand.tmp 185), type := 3, pos := "more.go:80", after := #[{ on := 2, ground := Ground.data }, { on := 1, ground := Ground.guard }], guard := some (1, true) }) (v := ?vq83) rfl (by kernel_rfl) (by kernel_rfl) (by kernel_rfl) (fun _ _ _ h => h) (Or.inl ⟨by rfl, ?hq83⟩) (by assumption) ?rq83
            case hq83 => intro W hSw; (try obtain ⟨z0, z1, z2, z3, z4, z5, z6, z7, z8, z9⟩ := HC.out W hSw); go_simp; (try with_reducible rfl)
            try simp only [Act.put, List.setIfInBounds_toArray, List.set_cons_zero, List.set_cons_succ]
            refine wpAnyH_take (i := 4) (oi := { dst := some 187, op := Op.move (Operand.tmp 15), type := 25, pos := "more.go:80", after := #[{ on := 1, ground := Ground.guard }], guard := some (1, true) }) (v := ?vq84) rfl (by kernel_rfl) (by kernel_rfl) (by kernel_rfl) (fun _ _ _ h => h) (Or.inl ⟨by rfl, ?hq84⟩) (by assumption) ?rq84
            case hq84 => intro W hSw; (try obtain ⟨z0, z1, z2, z3, z4, z5, z6, z7, z8, z9⟩ := HC.out W hSw); go_simp; (try with_reducible rfl)
            try simp only [Act.put, List.setIfInBounds_toArray, List.set_cons_zero, List.set_cons_succ]
            refine wpAnyH_take (i := 5) (oi := { dst := some 188, op := Op.nilCheck (Operand.tmp 187), type := 0, pos := "more.go:80", after := #[{ on := 4, ground := Ground.data }, { on := 1, ground := Ground.guard }], guard := some (1, true) }) (v := ?vq85) rfl (by kernel_rfl) (by kernel_rfl) (by kernel_rfl) (fun _ _ _ h => h) (Or.inl ⟨by rfl, ?hq85⟩) (by assumption) ?rq85
            case hq85 => intro W hSw; (try obtain ⟨z0, z1, z2, z3, z4, z5, z6, z7, z8, z9⟩ := HC.out W hSw); go_simp; (try with_reducible rfl)
            try simp only [Act.put, List.setIfInBounds_toArray, List.set_cons_zero, List.set_cons_succ]
            refine wpAnyH_take (i := 6) (oi := { dst := some 189, op := Op.fieldAddr 61 (Operand.tmp 188) 0, type := 0, pos := "more.go:80", after := #[{ on := 5, ground := Ground.data }, { on := 1, ground := Ground.guard }], guard := some (1, true) }) (v := ?vq86) rfl (by kernel_rfl) (by kernel_rfl) (by kernel_rfl) (fun _ _ _ h => h) (Or.inl ⟨by rfl, ?hq86⟩) (by assumption) ?rq86
            case hq86 => intro W hSw; (try obtain ⟨z0, z1, z2, z3, z4, z5, z6, z7, z8, z9⟩ := HC.out W hSw); go_simp; (try with_reducible rfl)
            try simp only [Act.put, List.setIfInBounds_toArray, List.set_cons_zero, List.set_cons_succ]
            refine wpAnyH_take (i := 7) (oi := { dst := some 190, op := Op.load 58 (Operand.tmp 189), type := 58, pos := "more.go:80", after := #[{ on := 6, ground := Ground.data }, { on := 1, ground := Ground.guard }], guard := some (1, true) }) (v := ?vq87) rfl (by kernel_rfl) (by kernel_rfl) (by kernel_rfl) (fun _ _ _ h => h) (Or.inl ⟨by rfl, ?hq87⟩) (by assumption) ?rq87
            case hq87 => intro W hSw; (try obtain ⟨z0, z1, z2, z3, z4, z5, z6, z7, z8, z9⟩ := HC.out W hSw); go_simp; (try with_reducible rfl)
            try simp only [Act.put, List.setIfInBounds_toArray, List.set_cons_zero, List.set_cons_succ]
            refine wpAnyH_take (i := 8) (oi := { dst := some 191, op := Op.move (Operand.tmp 4), type := 3, pos := "more.go:80", after := #[{ on := 1, ground := Ground.guard }], guard := some (1, true) }) (v := ?vq88) rfl (by kernel_rfl) (by kernel_rfl) (by kernel_rfl) (fun _ _ _ h => h) (Or.inl ⟨by rfl, ?hq88⟩) (by assumption) ?rq88
            case hq88 => intro W hSw; (try obtain ⟨z0, z1, z2, z3, z4, z5, z6, z7, z8, z9⟩ := HC.out W hSw); go_simp; (try with_reducible rfl)
            try simp only [Act.put, List.setIfInBounds_toArray, List.set_cons_zero, List.set_cons_succ]
            refine wpAnyH_ready (rs := [9]) (by kernel_rfl) (by simp) ?_
            refine AllReadyH.cons (o := { dst := some 192, op := Op.call { callee := Callee.value (Operand.func 19), args := #[Operand.tmp 190, Operand.tmp 191], argTypes := #[58, 3] }, type := 3, pos := "more.go:80", after := #[{ on := 7, ground := Ground.data }, { on := 8, ground := Ground.data }, { on := 1, ground := Ground.chain }, { on := 1, ground := Ground.guard }], guard := some (1, true) }) rfl (fun K hK => ?_) AllReadyH.nil
            go_simp
            go_wp2_with (first | (go_at_call 19; refine (HCv.out _ hHeld).mono ?_; rintro r wb ⟨rfl, bb⟩))
            have hb0 := (hHeld.trans (Fr.b0 bb) (fun _ h => h.elim)).size
            refine hK.out _ _ (hHeld.trans (Fr.b0 bb) (fun _ h => h.elim)) (fun hHeld => ?_)
            clear hK K
            try simp only [Act.put, List.setIfInBounds_toArray, List.set_cons_zero, List.set_cons_succ]
            refine wpAnyH_take (i := 10) (oi := { dst := some 193, op := Op.binOp BinOp.eql 3 (Operand.tmp 186) (Operand.tmp 192) 3, type := 4, pos := "more.go:80", after := #[{ on := 3, ground := Ground.data }, { on := 9, ground := Ground.data }, { on := 1, ground := Ground.guard }], guard := some (1, true) }) (v := ?vq89) rfl (by kernel_rfl) (by kernel_rfl) (by kernel_rfl) (fun _ _ _ h => h) (Or.inl ⟨by rfl, ?hq89⟩) (by assumption) ?rq89
            case hq89 => intro W hSw; (try obtain ⟨z0, z1, z2, z3, z4, z5, z6, z7, z8, z9⟩ := HC.out W hSw); go_simp; (try with_reducible rfl)
            try simp only [Act.put, List.setIfInBounds_toArray, List.set_cons_zero, List.set_cons_succ]
            refine wpAnyH_take (i := 11) (oi := { dst := some 194, op := Op.pick (Operand.tmp 184) (Operand.tmp 193) (Operand.const (Value.bool false)), type := 4, pos := "more.go:80", after := #[{ on := 1, ground := Ground.data }, { on := 10, ground := Ground.data }], guard := none }) (v := ?vq90) rfl (by kernel_rfl) (by kernel_rfl) (by kernel_rfl) (fun _ _ _ h => h) (Or.inl ⟨by rfl, ?hq90⟩) (by assumption) ?rq90
            case hq90 => intro W hSw; (try obtain ⟨z0, z1, z2, z3, z4, z5, z6, z7, z8, z9⟩ := HC.out W hSw); go_simp; (try with_reducible rfl)
            try simp only [Act.put, List.setIfInBounds_toArray, List.set_cons_zero, List.set_cons_succ]
            refine wpAnyH_take (i := 12) (oi := { dst := some 195, op := Op.move (Operand.tmp 194), type := 4, pos := "more.go:80", after := #[{ on := 11, ground := Ground.data }, { on := 9, ground := Ground.chain }], guard := none }) (v := ?vq91) rfl (by kernel_rfl) (by kernel_rfl) (by kernel_rfl) (fun _ _ _ h => h) (Or.inl ⟨by rfl, ?hq91⟩) (by assumption) ?rq91
            case hq91 => intro W hSw; (try obtain ⟨z0, z1, z2, z3, z4, z5, z6, z7, z8, z9⟩ := HC.out W hSw); go_simp; (try with_reducible rfl)
            try simp only [Act.put, List.setIfInBounds_toArray, List.set_cons_zero, List.set_cons_succ]
            refine wpAnyH_take (i := 13) (oi := { dst := some 196, op := Op.fieldAddr 52 (Operand.tmp 22) 0, type := 0, pos := "more.go:80", after := #[{ on := 12, ground := Ground.guard }], guard := some (12, true) }) (v := ?vq92) rfl (by kernel_rfl) (by kernel_rfl) (by kernel_rfl) (fun _ _ _ h => h) (Or.inl ⟨by rfl, ?hq92⟩) (by assumption) ?rq92
            case hq92 => intro W hSw; (try obtain ⟨z0, z1, z2, z3, z4, z5, z6, z7, z8, z9⟩ := HC.out W hSw); go_simp; (try with_reducible rfl)
            try simp only [Act.put, List.setIfInBounds_toArray, List.set_cons_zero, List.set_cons_succ]
            refine wpAnyH_take (i := 14) (oi := { dst := some 197, op := Op.load 3 (Operand.tmp 196), type := 3, pos := "more.go:80", after := #[{ on := 13, ground := Ground.data }, { on := 12, ground := Ground.guard }], guard := some (12, true) }) (v := ?vq93) rfl (by kernel_rfl) (by kernel_rfl) (by kernel_rfl) (fun _ _ _ h => h) (Or.inl ⟨by rfl, ?hq93⟩) (by assumption) ?rq93
            case hq93 => intro W hSw; (try obtain ⟨z0, z1, z2, z3, z4, z5, z6, z7, z8, z9⟩ := HC.out W hSw); go_simp; (try with_reducible rfl)
            try simp only [Act.put, List.setIfInBounds_toArray, List.set_cons_zero, List.set_cons_succ]
            refine wpAnyH_take (i := 15) (oi := { dst := some 198, op := Op.fieldAddr 52 (Operand.tmp 24) 0, type := 0, pos := "more.go:80", after := #[{ on := 12, ground := Ground.guard }], guard := some (12, true) }) (v := ?vq94) rfl (by kernel_rfl) (by kernel_rfl) (by kernel_rfl) (fun _ _ _ h => h) (Or.inl ⟨by rfl, ?hq94⟩) (by assumption) ?rq94
            case hq94 => intro W hSw; (try obtain ⟨z0, z1, z2, z3, z4, z5, z6, z7, z8, z9⟩ := HC.out W hSw); go_simp; (try with_reducible rfl)
            try simp only [Act.put, List.setIfInBounds_toArray, List.set_cons_zero, List.set_cons_succ]
            refine wpAnyH_take (i := 16) (oi := { dst := some 199, op := Op.load 3 (Operand.tmp 198), type := 3, pos := "more.go:80", after := #[{ on := 15, ground := Ground.data }, { on := 12, ground := Ground.guard }], guard := some (12, true) }) (v := ?vq95) rfl (by kernel_rfl) (by kernel_rfl) (by kernel_rfl) (fun _ _ _ h => h) (Or.inl ⟨by rfl, ?hq95⟩) (by assumption) ?rq95
            case hq95 => intro W hSw; (try obtain ⟨z0, z1, z2, z3, z4, z5, z6, z7, z8, z9⟩ := HC.out W hSw); go_simp; (try with_reducible rfl)
            try simp only [Act.put, List.setIfInBounds_toArray, List.set_cons_zero, List.set_cons_succ]
            refine wpAnyH_take (i := 17) (oi := { dst := some 200, op := Op.binOp BinOp.neq 3 (Operand.tmp 197) (Operand.tmp 199) 3, type := 4, pos := "more.go:80", after := #[{ on := 14, ground := Ground.data }, { on := 16, ground := Ground.data }, { on := 12, ground := Ground.guard }], guard := some (12, true) }) (v := ?vq96) rfl (by kernel_rfl) (by kernel_rfl) (by kernel_rfl) (fun _ _ _ h => h) (Or.inl ⟨by rfl, ?hq96⟩) (by assumption) ?rq96
            case hq96 => intro W hSw; (try obtain ⟨z0, z1, z2, z3, z4, z5, z6, z7, z8, z9⟩ := HC.out W hSw); go_simp; (try with_reducible rfl)
            try simp only [Act.put, List.setIfInBounds_toArray, List.set_cons_zero, List.set_cons_succ]
            refine wpAnyH_take (i := 18) (oi := { dst := some 201, op := Op.move (Operand.tmp 200), type := 4, pos := "more.go:80", after := #[{ on := 17, ground := Ground.data }, { on := 12, ground := Ground.chain }, { on := 12, ground := Ground.guard }], guard := some (12, true) }) (v := ?vq97) rfl (by kernel_rfl) (by kernel_rfl) (by kernel_rfl) (fun _ _ _ h => h) (Or.inl ⟨by rfl, ?hq97⟩) (by assumption) ?rq97
            case hq97 => intro W hSw; (try obtain ⟨z0, z1, z2, z3, z4, z5, z6, z7, z8, z9⟩ := HC.out W hSw); go_simp; (try with_reducible rfl)
            try simp only [Act.put, List.setIfInBounds_toArray, List.set_cons_zero, List.set_cons_succ]
            refine wpAnyH_take (i := 19) (oi := { dst := some 202, op := Op.fieldAddr 52 (Operand.tmp 22) 1, type := 0, pos := "more.go:80", after := #[{ on := 18, ground := Ground.guard }], guard := some (18, false) }) (v := ?vq98) rfl (by kernel_rfl) (by kernel_rfl) (by kernel_rfl) (fun _ _ _ h => h) (Or.inl ⟨by rfl, ?hq98⟩) (by assumption) ?rq98
            case hq98 => intro W hSw; (try obtain ⟨z0, z1, z2, z3, z4, z5, z6, z7, z8, z9⟩ := HC.out W hSw); go_simp; (try with_reducible rfl)
            try simp only [Act.put, List.setIfInBounds_toArray, List.set_cons_zero, List.set_cons_succ]
            refine wpAnyH_take (i := 20) (oi := { dst := some 203, op := Op.load 38 (Operand.tmp 202), type := 38, pos := "more.go:80", after := #[{ on := 19, ground := Ground.data }, { on := 18, ground := Ground.guard }], guard := some (18, false) }) (v := ?vq99) rfl (by kernel_rfl) (by kernel_rfl) (by kernel_rfl) (fun _ _ _ h => h) (Or.inl ⟨by rfl, ?hq99⟩) (by assumption) ?rq99
            case hq99 => intro W hSw; (try obtain ⟨z0, z1, z2, z3, z4, z5, z6, z7, z8, z9⟩ := HC.out W hSw); go_simp; (try with_reducible rfl)
            try simp only [Act.put, List.setIfInBounds_toArray, List.set_cons_zero, List.set_cons_succ]
            refine wpAnyH_take (i := 22) (oi := { dst := some 205, op := Op.fieldAddr 52 (Operand.tmp 24) 1, type := 0, pos := "more.go:80", after := #[{ on := 18, ground := Ground.guard }], guard := some (18, false) }) (v := ?vq100) rfl (by kernel_rfl) (by kernel_rfl) (by kernel_rfl) (fun _ _ _ h => h) (Or.inl ⟨by rfl, ?hq100⟩) (by assumption) ?rq100
            case hq100 => intro W hSw; (try obtain ⟨z0, z1, z2, z3, z4, z5, z6, z7, z8, z9⟩ := HC.out W hSw); go_simp; (try with_reducible rfl)
            try simp only [Act.put, List.setIfInBounds_toArray, List.set_cons_zero, List.set_cons_succ]
            refine wpAnyH_take (i := 23) (oi := { dst := some 206, op := Op.load 38 (Operand.tmp 205), type := 38, pos := "more.go:80", after := #[{ on := 22, ground := Ground.data }, { on := 18, ground := Ground.guard }], guard := some (18, false) }) (v := ?vq101) rfl (by kernel_rfl) (by kernel_rfl) (by kernel_rfl) (fun _ _ _ h => h) (Or.inl ⟨by rfl, ?hq101⟩) (by assumption) ?rq101
            case hq101 => intro W hSw; (try obtain ⟨z0, z1, z2, z3, z4, z5, z6, z7, z8, z9⟩ := HC.out W hSw); go_simp; (try with_reducible rfl)
            try simp only [Act.put, List.setIfInBounds_toArray, List.set_cons_zero, List.set_cons_succ]
            refine wpAnyH_take (i := 25) (oi := { dst := some 208, op := Op.fieldAddr 52 (Operand.tmp 18) 1, type := 0, pos := "more.go:80", after := #[{ on := 18, ground := Ground.guard }], guard := some (18, false) }) (v := ?vq102) rfl (by kernel_rfl) (by kernel_rfl) (by kernel_rfl) (fun _ _ _ h => h) (Or.inl ⟨by rfl, ?hq102⟩) (by assumption) ?rq102
            case hq102 => intro W hSw; (try obtain ⟨z0, z1, z2, z3, z4, z5, z6, z7, z8, z9⟩ := HC.out W hSw); go_simp; (try with_reducible rfl)
            try simp only [Act.put, List.setIfInBounds_toArray, List.set_cons_zero, List.set_cons_succ]
            refine wpAnyH_take (i := 26) (oi := { dst := some 209, op := Op.load 38 (Operand.tmp 208), type := 38, pos := "more.go:80", after := #[{ on := 25, ground := Ground.data }, { on := 18, ground := Ground.guard }], guard := some (18, false) }) (v := ?vq103) rfl (by kernel_rfl) (by kernel_rfl) (by kernel_rfl) (fun _ _ _ h => h) (Or.inl ⟨by rfl, ?hq103⟩) (by assumption) ?rq103
            case hq103 => intro W hSw; (try obtain ⟨z0, z1, z2, z3, z4, z5, z6, z7, z8, z9⟩ := HC.out W hSw); go_simp; (try with_reducible rfl)
            try simp only [Act.put, List.setIfInBounds_toArray, List.set_cons_zero, List.set_cons_succ]
            refine wpAnyH_ready (rs := [21]) (by kernel_rfl) (by simp) ?_
            refine AllReadyH.cons (o := { dst := some 204, op := Op.call { callee := Callee.builtin Builtin.append, args := #[Operand.const (Value.slice none 0 0), Operand.tmp 203], argTypes := #[38, 38] }, type := 38, pos := "more.go:80", after := #[{ on := 20, ground := Ground.data }, { on := 18, ground := Ground.chain }, { on := 18, ground := Ground.guard }], guard := some (18, false) }) rfl (fun K hK => ?_) AllReadyH.nil
            rw [if_pos (by rfl)]
            refine op_app3 _ _ 38 rfl 43 i0 _ 7 64 Try.underlying38 hi hz0 hz1 hz2 rfl (by decide) (.slice none 0 0) 0 [] rfl wb.heap.size (Nat.le_refl _) (World.ownsRow_nil _ _ _ _) A7 nb c7 (rcells LB) rfl (RB.out.fr0 hHeld) (rcells_one _) (by have := HnB.out; unfold maxLen; omega) (by have := HnB.out; omega) (fun AA ca wc hoc hmc _ => ?_)
            refine hK.out _ _ (hHeld.trans hmc.fr (fun i hi => by cases hi)) (fun hHeld => ?_)
            clear hK K
            try simp only [Act.put, List.setIfInBounds_toArray, List.set_cons_zero, List.set_cons_succ]
            refine wpAnyH_ready (rs := [24]) (by kernel_rfl) (by simp) ?_
            refine AllReadyH.cons (o := { dst := some 207, op := Op.call { callee := Callee.builtin Builtin.append, args := #[Operand.tmp 204, Operand.tmp 206], argTypes := #[38, 38] }, type := 38, pos := "more.go:80", after := #[{ on := 21, ground := Ground.data }, { on := 23, ground := Ground.data }, { on := 21, ground := Ground.chain }, { on := 18, ground := Ground.guard }], guard := some (18, false) }) rfl (fun K hK => ?_) AllReadyH.nil
            rw [if_pos (by rfl)]
            refine op_app3 _ _ 38 rfl 43 i0 _ 7 64 Try.underlying38 hi hz0 hz1 hz2 rfl (by decide) (.slice AA (0 + nb) ca) (0 + nb) ([] ++ rcells LB) rfl wb.heap.size hmc.fr.size hoc A9 nc c9 (rcells LC) rfl (RC.out.fr0 hHeld) (rcells_one _) (by have := HnB.out; have := HnC.out; unfold maxLen; omega) (by have := HnB.out; have := HnC.out; omega) (fun AB cb wd hod hmd _ => ?_)
            refine hK.out _ _ (hHeld.trans hmd.fr (fun i hi => .inr (Nat.le_trans hb0 (hoc.lt i hi).1))) (fun hHeld => ?_)
            clear hK K
            try simp only [Act.put, List.setIfInBounds_toArray, List.set_cons_zero, List.set_cons_succ]
            refine wpAnyH_ready (rs := [27]) (by kernel_rfl) (by simp) ?_
            refine AllReadyH.cons (o := { dst := some 210, op := Op.call { callee := Callee.value (Operand.func 20), args := #[Operand.tmp 207, Operand.tmp 209], argTypes := #[38, 38] }, type := 4, pos := "more.go:80", after := #[{ on := 24, ground := Ground.data }, { on := 26, ground := Ground.data }, { on := 24, ground := Ground.chain }, { on := 18, ground := Ground.guard }], guard := some (18, false) }) rfl (fun K hK => ?_) AllReadyH.nil
            go_simp
            go_wp2_with (first | (go_at_call 20; refine (HSr.out _ AB cb hHeld (Rd.of_own hod)).mono ?_; rintro r we ⟨rfl, be⟩))
            refine hK.out _ _ (hHeld.trans (Fr.b0 be) (fun _ h => h.elim)) (fun hHeld => ?_)
            clear hK K
            try simp only [Act.put, List.setIfInBounds_toArray, List.set_cons_zero, List.set_cons_succ]
            refine wpAnyH_take (i := 28) (oi := { dst := some 211, op := Op.pick (Operand.tmp 201) (Operand.const (Value.bool true)) (Operand.tmp 210), type := 4, pos := "more.go:80", after := #[{ on := 18, ground := Ground.data }, { on := 27, ground := Ground.data }, { on := 12, ground := Ground.guard }], guard := some (12, true) }) (v := ?vq104) rfl (by kernel_rfl) (by kernel_rfl) (by kernel_rfl) (fun _ _ _ h => h) (Or.inl ⟨by rfl, ?hq104⟩) (by assumption) ?rq104
            case hq104 => intro W hSw; (try obtain ⟨z0, z1, z2, z3, z4, z5, z6, z7, z8, z9⟩ := HC.out W hSw); go_simp; (try with_reducible rfl)
            try simp only [Act.put, List.setIfInBounds_toArray, List.set_cons_zero, List.set_cons_succ]
            refine wpAnyH_take (i := 29) (oi := { dst := some 212, op := Op.pick (Operand.tmp 195) (Operand.tmp 211) (Operand.const (Value.bool false)), type := 4, pos := "more.go:80", after := #[{ on := 12, ground := Ground.data }, { on := 28, ground := Ground.data }], guard := none }) (v := ?vq105) rfl (by kernel_rfl) (by kernel_rfl) (by kernel_rfl) (fun _ _ _ h => h) (Or.inl ⟨by rfl, ?hq105⟩) (by assumption) ?rq105
            case hq105 => intro W hSw; (try obtain ⟨z0, z1, z2, z3, z4, z5, z6, z7, z8, z9⟩ := HC.out W hSw); go_simp; (try with_reducible rfl)
            try simp only [Act.put, List.setIfInBounds_toArray, List.set_cons_zero, List.set_cons_succ]
            refine wpAnyH_take (i := 30) (oi := { dst := some 14, op := Op.assign (Operand.tmp 212), type := 4, pos := "more.go:80", after := #[{ on := 29, ground := Ground.data }, { on := 27, ground := Ground.chain }, { on := 0, ground := Ground.phase }, { on := 1, ground := Ground.phase }, { on := 2, ground := Ground.phase }, { on := 3, ground := Ground.phase }, { on := 4, ground := Ground.phase }, { on := 5, ground := Ground.phase }, { on := 6, ground := Ground.phase }, { on := 7, ground := Ground.phase }, { on := 8, ground := Ground.phase }, { on := 9, ground := Ground.phase }, { on := 10, ground := Ground.phase }, { on := 11, ground := Ground.phase }, { on := 12, ground := Ground.phase }, { on := 13, ground := Ground.phase }, { on := 14, ground := Ground.phase }, { on := 15, ground := Ground.phase }, { on := 16, ground := Ground.phase }, { on := 17, ground := Ground.phase }, { on := 18, ground := Ground.phase }, { on := 19, ground := Ground.phase }, { on := 20, ground := Ground.phase }, { on := 21, ground := Ground.phase }, { on := 22, ground := Ground.phase }, { on := 23, ground := Ground.phase }, { on := 24, ground := Ground.phase }, { on := 25, ground := Ground.phase }, { on := 26, ground := Ground.phase }, { on := 27, ground := Ground.phase }, { on := 28, ground := Ground.phase }, { on := 29, ground := Ground.phase }], guard := none }) (v := ?vq106) rfl (by kernel_rfl) (by kernel_rfl) (by kernel_rfl) (fun _ _ _ h => h) (Or.inl ⟨by rfl, ?hq106⟩) (by assumption) ?rq106
            case hq106 => intro W hSw; (try obtain ⟨z0, z1, z2, z3, z4, z5, z6, z7, z8, z9⟩ := HC.out W hSw); go_simp; (try with_reducible rfl)
            try simp only [Act.put, List.setIfInBounds_toArray, List.set_cons_zero, List.set_cons_succ]
            refine wpAnyH_done (by kernel_rfl) ?_ _
            go_wp2_with fail
            go_ret
            exact ⟨rfl, OE.out _ hHeld⟩
          case neg =>
            have k1 : ((kT : Int) != (kC : Int)) = true := by rw [bne_iff_ne]; omega
            have k2 : (kT != kC) = true := by rw [bne_iff_ne]; omega
            have k3 : ((kT : Int) == (kC : Int)) = false := by simp; omega
            have k4 : (kT == kC) = false := by simp; omega
            have k5 : decide (kT = kC) = false := decide_eq_false hkk
            have k6 : decide ((kT : Int) = (kC : Int)) = false := decide_eq_false (by omega)
            clear Hcut
            go_wp2_with fail
            refine wp_region_held_drew (S := fun W => Fr (fun _ => False) W3 W) (by kernel_rfl) ((Fr.refl _ W3).drew) (fun hHeld => ?_)
            refine wpAnyH_ready (rs := [0]) (by kernel_rfl) (by simp) ?_
            refine AllReadyH.cons (o := { dst := some 183, op := Op.call { callee := Callee.value (Operand.func 11), args := #[], argTypes := #[] }, type := 4, pos := "more.go:80", after := #[], guard := none }) rfl (fun K hK => ?_) AllReadyH.nil
            go_simp
            go_wp2_with (first | (go_at_call 11; refine (HAl.out _).mono ?_; rintro r wa ⟨rfl, ba⟩))
            refine hK.out _ _ (hHeld.trans (Fr.b0 ba) (fun _ h => h.elim)) (fun hHeld => ?_)
            clear hK K
            try simp only [Act.put, List.setIfInBounds_toArray, List.set_cons_zero, List.set_cons_succ]
            refine wpAnyH_take (i := 1) (oi := { dst := some 184, op := Op.move (Operand.tmp 183), type := 4, pos := "more.go:80", after := #[{ on := 0, ground := Ground.data }, { on := 0, ground := Ground.chain }], guard := none }) (v := ?vq107) rfl (by kernel_rfl) (by kernel_rfl) (by kernel_rfl) (fun _ _ _ h => h) (Or.inl ⟨by rfl, ?hq107⟩) (by assumption) ?rq107
            case hq107 => intro W hSw; (try obtain ⟨z0, z1, z2, z3, z4, z5, z6, z7, z8, z9⟩ := HC.out W hSw); go_simp; (try with_reducible rfl)
            try simp only [Act.put, List.setIfInBounds_toArray, List.set_cons_zero, List.set_cons_succ]
            refine wpAnyH_take (i := 2) (oi := { dst := some 185, op := Op.fieldAddr 52 (Operand.tmp 18) 0, type := 0, pos := "more.go:80", after := #[{ on := 1, ground := Ground.guard }], guard := some (1, true) }) (v := ?vq108) rfl (by kernel_rfl) (by kernel_rfl) (by kernel_rfl) (fun _ _ _ h => h) (Or.inl ⟨by rfl, ?hq108⟩) (by assumption) ?rq108
            case hq108 => intro W hSw; (try obtain ⟨z0, z1, z2, z3, z4, z5, z6, z7, z8, z9⟩ := HC.out W hSw); go_simp; (try with_reducible rfl)
            try simp only [Act.put, List.setIfInBounds_toArray, List.set_cons_zero, List.set_cons_succ]
            refine wpAnyH_take (i := 3) (oi := { dst := some 186, op := Op.load 3 (Operand.tmp 185), type := 3, pos := "more.go:80", after := #[{ on := 2, ground := Ground.data }, { on := 1, ground := Ground.guard }], guard := some (1, true) }) (v := ?vq109) rfl (by kernel_rfl) (by kernel_rfl) (by kernel_rfl) (fun _ _ _ h => h) (Or.inl ⟨by rfl, ?hq109⟩) (by assumption) ?rq109
            case hq109 => intro W hSw; (try obtain ⟨z0, z1, z2, z3, z4, z5, z6, z7, z8, z9⟩ := HC.out W hSw); go_simp; (try with_reducible rfl)
            try simp only [Act.put, List.setIfInBounds_toArray, List.set_cons_zero, List.set_cons_succ]
            refine wpAnyH_take (i := 4) (oi := { dst := some 187, op := Op.move (Operand.tmp 15), type := 25, pos := "more.go:80", after := #[{ on := 1, ground := Ground.guard }], guard := some (1, true) }) (v := ?vq110) rfl (by kernel_rfl) (by kernel_rfl) (by kernel_rfl) (fun _ _ _ h => h) (Or.inl ⟨by rfl, ?hq110⟩) (by assumption) ?rq110
            case hq110 => intro W hSw; (try obtain ⟨z0, z1, z2, z3, z4, z5, z6, z7, z8, z9⟩ := HC.out W hSw); go_simp; (try with_reducible rfl)
            try simp only [Act.put, List.setIfInBounds_toArray, List.set_cons_zero, List.set_cons_succ]
            refine wpAnyH_take (i := 5) (oi := { dst := some 188, op := Op.nilCheck (Operand.tmp 187), type := 0, pos := "more.go:80", after := #[{ on := 4, ground := Ground.data }, { on := 1, ground := Ground.guard }], guard := some (1, true) }) (v := ?vq111) rfl (by kernel_rfl) (by kernel_rfl) (by kernel_rfl) (fun _ _ _ h => h) (Or.inl ⟨by rfl, ?hq111⟩) (by assumption) ?rq111
            case hq111 => intro W hSw; (try obtain ⟨z0, z1, z2, z3, z4, z5, z6, z7, z8, z9⟩ := HC.out W hSw); go_simp; (try with_reducible rfl)
            try simp only [Act.put, List.setIfInBounds_toArray, List.set_cons_zero, List.set_cons_succ]
            refine wpAnyH_take (i := 6) (oi := { dst := some 189, op := Op.fieldAddr 61 (Operand.tmp 188) 0, type := 0, pos := "more.go:80", after := #[{ on := 5, ground := Ground.data }, { on := 1, ground := Ground.guard }], guard := some (1, true) }) (v := ?vq112) rfl (by kernel_rfl) (by kernel_rfl) (by kernel_rfl) (fun _ _ _ h => h) (Or.inl ⟨by rfl, ?hq112⟩) (by assumption) ?rq112
            case hq112 => intro W hSw; (try obtain ⟨z0, z1, z2, z3, z4, z5, z6, z7, z8, z9⟩ := HC.out W hSw); go_simp; (try with_reducible rfl)
            try simp only [Act.put, List.setIfInBounds_toArray, List.set_cons_zero, List.set_cons_succ]
            refine wpAnyH_take (i := 7) (oi := { dst := some 190, op := Op.load 58 (Operand.tmp 189), type := 58, pos := "more.go:80", after := #[{ on := 6, ground := Ground.data }, { on := 1, ground := Ground.guard }], guard := some (1, true) }) (v := ?vq113) rfl (by kernel_rfl) (by kernel_rfl) (by kernel_rfl) (fun _ _ _ h => h) (Or.inl ⟨by rfl, ?hq113⟩) (by assumption) ?rq113
            case hq113 => intro W hSw; (try obtain ⟨z0, z1, z2, z3, z4, z5, z6, z7, z8, z9⟩ := HC.out W hSw); go_simp; (try with_reducible rfl)
            try simp only [Act.put, List.setIfInBounds_toArray, List.set_cons_zero, List.set_cons_succ]
            refine wpAnyH_take (i := 8) (oi := { dst := some 191, op := Op.move (Operand.tmp 4), type := 3, pos := "more.go:80", after := #[{ on := 1, ground := Ground.guard }], guard := some (1, true) }) (v := ?vq114) rfl (by kernel_rfl) (by kernel_rfl) (by kernel_rfl) (fun _ _ _ h => h) (Or.inl ⟨by rfl, ?hq114⟩) (by assumption) ?rq114
            case hq114 => intro W hSw; (try obtain ⟨z0, z1, z2, z3, z4, z5, z6, z7, z8, z9⟩ := HC.out W hSw); go_simp; (try with_reducible rfl)
            try simp only [Act.put, List.setIfInBounds_toArray, List.set_cons_zero, List.set_cons_succ]
            refine wpAnyH_ready (rs := [9]) (by kernel_rfl) (by simp) ?_
            refine AllReadyH.cons (o := { dst := some 192, op := Op.call { callee := Callee.value (Operand.func 19), args := #[Operand.tmp 190, Operand.tmp 191], argTypes := #[58, 3] }, type := 3, pos := "more.go:80", after := #[{ on := 7, ground := Ground.data }, { on := 8, ground := Ground.data }, { on := 1, ground := Ground.chain }, { on := 1, ground := Ground.guard }], guard := some (1, true) }) rfl (fun K hK => ?_) AllReadyH.nil
            go_simp
            go_wp2_with (first | (go_at_call 19; refine (HCv.out _ hHeld).mono ?_; rintro r wb ⟨rfl, bb⟩))
            have hb0 := (hHeld.trans (Fr.b0 bb) (fun _ h => h.elim)).size
            refine hK.out _ _ (hHeld.trans (Fr.b0 bb) (fun _ h => h.elim)) (fun hHeld => ?_)
            clear hK K
            try simp only [Act.put, List.setIfInBounds_toArray, List.set_cons_zero, List.set_cons_succ]
            refine wpAnyH_take (i := 10) (oi := { dst := some 193, op := Op.binOp BinOp.eql 3 (Operand.tmp 186) (Operand.tmp 192) 3, type := 4, pos := "more.go:80", after := #[{ on := 3, ground := Ground.data }, { on := 9, ground := Ground.data }, { on := 1, ground := Ground.guard }], guard := some (1, true) }) (v := ?vq115) rfl (by kernel_rfl) (by kernel_rfl) (by kernel_rfl) (fun _ _ _ h => h) (Or.inl ⟨by rfl, ?hq115⟩) (by assumption) ?rq115
            case hq115 => intro W hSw; (try obtain ⟨z0, z1, z2, z3, z4, z5, z6, z7, z8, z9⟩ := HC.out W hSw); go_simp; (try with_reducible rfl)
            try simp only [Act.put, List.setIfInBounds_toArray, List.set_cons_zero, List.set_cons_succ]
            refine wpAnyH_take (i := 11) (oi := { dst := some 194, op := Op.pick (Operand.tmp 184) (Operand.tmp 193) (Operand.const (Value.bool false)), type := 4, pos := "more.go:80", after := #[{ on := 1, ground := Ground.data }, { on := 10, ground := Ground.data }], guard := none }) (v := ?vq116) rfl (by kernel_rfl) (by kernel_rfl) (by kernel_rfl) (fun _ _ _ h => h) (Or.inl ⟨by rfl, ?hq116⟩) (by assumption) ?rq116
            case hq116 => intro W hSw; (try obtain ⟨z0, z1, z2, z3, z4, z5, z6, z7, z8, z9⟩ := HC.out W hSw); go_simp; (try with_reducible rfl)
            try simp only [Act.put, List.setIfInBounds_toArray, List.set_cons_zero, List.set_cons_succ]
            refine wpAnyH_take (i := 12) (oi := { dst := some 195, op := Op.move (Operand.tmp 194), type := 4, pos := "more.go:80", after := #[{ on := 11, ground := Ground.data }, { on := 9, ground := Ground.chain }], guard := none }) (v := ?vq117) rfl (by kernel_rfl) (by kernel_rfl) (by kernel_rfl) (fun _ _ _ h => h) (Or.inl ⟨by rfl, ?hq117⟩) (by assumption) ?rq117
            case hq117 => intro W hSw; (try obtain ⟨z0, z1, z2, z3, z4, z5, z6, z7, z8, z9⟩ := HC.out W hSw); go_simp; (try with_reducible rfl)
            try simp only [Act.put, List.setIfInBounds_toArray, List.set_cons_zero, List.set_cons_succ]
            refine wpAnyH_take (i := 13) (oi := { dst := some 196, op := Op.fieldAddr 52 (Operand.tmp 22) 0, type := 0, pos := "more.go:80", after := #[{ on := 12, ground := Ground.guard }], guard := some (12, true) }) (v := ?vq118) rfl (by kernel_rfl) (by kernel_rfl) (by kernel_rfl) (fun _ _ _ h => h) (Or.inl ⟨by rfl, ?hq118⟩) (by assumption) ?rq118
            case hq118 => intro W hSw; (try obtain ⟨z0, z1, z2, z3, z4, z5, z6, z7, z8, z9⟩ := HC.out W hSw); go_simp; (try with_reducible rfl)
            try simp only [Act.put, List.setIfInBounds_toArray, List.set_cons_zero, List.set_cons_succ]
            refine wpAnyH_take (i := 14) (oi := { dst := some 197, op := Op.load 3 (Operand.tmp 196), type := 3, pos := "more.go:80", after := #[{ on := 13, ground := Ground.data }, { on := 12, ground := Ground.guard }], guard := some (12, true) }) (v := ?vq119) rfl (by kernel_rfl) (by kernel_rfl) (by kernel_rfl) (fun _ _ _ h => h) (Or.inl ⟨by rfl, ?hq119⟩) (by assumption) ?rq119
            case hq119 => intro W hSw; (try obtain ⟨z0, z1, z2, z3, z4, z5, z6, z7, z8, z9⟩ := HC.out W hSw); go_simp; (try with_reducible rfl)
            try simp only [Act.put, List.setIfInBounds_toArray, List.set_cons_zero, List.set_cons_succ]
            refine wpAnyH_take (i := 15) (oi := { dst := some 198, op := Op.fieldAddr 52 (Operand.tmp 24) 0, type := 0, pos := "more.go:80", after := #[{ on := 12, ground := Ground.guard }], guard := some (12, true) }) (v := ?vq120) rfl (by kernel_rfl) (by kernel_rfl) (by kernel_rfl) (fun _ _ _ h => h) (Or.inl ⟨by rfl, ?hq120⟩) (by assumption) ?rq120
            case hq120 => intro W hSw; (try obtain ⟨z0, z1, z2, z3, z4, z5, z6, z7, z8, z9⟩ := HC.out W hSw); go_simp; (try with_reducible rfl)
            try simp only [Act.put, List.setIfInBounds_toArray, List.set_cons_zero, List.set_cons_succ]
            refine wpAnyH_take (i := 16) (oi := { dst := some 199, op := Op.load 3 (Operand.tmp 198), type := 3, pos := "more.go:80", after := #[{ on := 15, ground := Ground.data }, { on := 12, ground := Ground.guard }], guard := some (12, true) }) (v := ?vq121) rfl (by kernel_rfl) (by kernel_rfl) (by kernel_rfl) (fun _ _ _ h => h) (Or.inl ⟨by rfl, ?hq121⟩) (by assumption) ?rq121
            case hq121 => intro W hSw; (try obtain ⟨z0, z1, z2, z3, z4, z5, z6, z7, z8, z9⟩ := HC.out W hSw); go_simp; (try with_reducible rfl)
            try simp only [Act.put, List.setIfInBounds_toArray, List.set_cons_zero, List.set_cons_succ]
            refine wpAnyH_take (i := 17) (oi := { dst := some 200, op := Op.binOp BinOp.neq 3 (Operand.tmp 197) (Operand.tmp 199) 3, type := 4, pos := "more.go:80", after := #[{ on := 14, ground := Ground.data }, { on := 16, ground := Ground.data }, { on := 12, ground := Ground.guard }], guard := some (12, true) }) (v := ?vq122) rfl (by kernel_rfl) (by kernel_rfl) (by kernel_rfl) (fun _ _ _ h => h) (Or.inl ⟨by rfl, ?hq122⟩) (by assumption) ?rq122
            case hq122 => intro W hSw; (try obtain ⟨z0, z1, z2, z3, z4, z5, z6, z7, z8, z9⟩ := HC.out W hSw); go_simp; (try with_reducible rfl)
            try simp only [Act.put, List.setIfInBounds_toArray, List.set_cons_zero, List.set_cons_succ]
            refine wpAnyH_take (i := 18) (oi := { dst := some 201, op := Op.move (Operand.tmp 200), type := 4, pos := "more.go:80", after := #[{ on := 17, ground := Ground.data }, { on := 12, ground := Ground.chain }, { on := 12, ground := Ground.guard }], guard := some (12, true) }) (v := ?vq123) rfl (by kernel_rfl) (by kernel_rfl) (by kernel_rfl) (fun _ _ _ h => h) (Or.inl ⟨by rfl, ?hq123⟩) (by assumption) ?rq123
            case hq123 => intro W hSw; (try obtain ⟨z0, z1, z2, z3, z4, z5, z6, z7, z8, z9⟩ := HC.out W hSw); go_simp; (try with_reducible rfl)
            try simp only [Act.put, List.setIfInBounds_toArray, List.set_cons_zero, List.set_cons_succ]
            refine wpAnyH_take (i := 19) (oi := { dst := some 202, op := Op.fieldAddr 52 (Operand.tmp 22) 1, type := 0, pos := "more.go:80", after := #[{ on := 18, ground := Ground.guard }], guard := some (18, false) }) (v := undef) rfl (by kernel_rfl) (by kernel_rfl) (by kernel_rfl) (fun _ _ _ h => h) (Or.inr ⟨by rfl, rfl⟩) (by assumption) ?_
            try simp only [Act.put, List.setIfInBounds_toArray, List.set_cons_zero, List.set_cons_succ]
            refine wpAnyH_take (i := 20) (oi := { dst := some 203, op := Op.load 38 (Operand.tmp 202), type := 38, pos := "more.go:80", after := #[{ on := 19, ground := Ground.data }, { on := 18, ground := Ground.guard }], guard := some (18, false) }) (v := undef) rfl (by kernel_rfl) (by kernel_rfl) (by kernel_rfl) (fun _ _ _ h => h) (Or.inr ⟨by rfl, rfl⟩) (by assumption) ?_
            try simp only [Act.put, List.setIfInBounds_toArray, List.set_cons_zero, List.set_cons_succ]
            refine wpAnyH_take (i := 21) (oi := { dst := some 204, op := Op.call { callee := Callee.builtin Builtin.append, args := #[Operand.const (Value.slice none 0 0), Operand.tmp 203], argTypes := #[38, 38] }, type := 38, pos := "more.go:80", after := #[{ on := 20, ground := Ground.data }, { on := 18, ground := Ground.chain }, { on := 18, ground := Ground.guard }], guard := some (18, false) }) (v := undef) rfl (by kernel_rfl) (by kernel_rfl) (by kernel_rfl) (fun _ _ _ h => h) (Or.inr ⟨by rfl, rfl⟩) (by assumption) ?_
            try simp only [Act.put, List.setIfInBounds_toArray, List.set_cons_zero, List.set_cons_succ]
            refine wpAnyH_take (i := 22) (oi := { dst := some 205, op := Op.fieldAddr 52 (Operand.tmp 24) 1, type := 0, pos := "more.go:80", after := #[{ on := 18, ground := Ground.guard }], guard := some (18, false) }) (v := undef) rfl (by kernel_rfl) (by kernel_rfl) (by kernel_rfl) (fun _ _ _ h => h) (Or.inr ⟨by rfl, rfl⟩) (by assumption) ?_
            try simp only [Act.put, List.setIfInBounds_toArray, List.set_cons_zero, List.set_cons_succ]
            refine wpAnyH_take (i := 23) (oi := { dst := some 206, op := Op.load 38 (Operand.tmp 205), type := 38, pos := "more.go:80", after := #[{ on := 22, ground := Ground.data }, { on := 18, ground := Ground.guard }], guard := some (18, false) }) (v := undef) rfl (by kernel_rfl) (by kernel_rfl) (by kernel_rfl) (fun _ _ _ h => h) (Or.inr ⟨by rfl, rfl⟩) (by assumption) ?_
            try simp only [Act.put, List.setIfInBounds_toArray, List.set_cons_zero, List.set_cons_succ]
            refine wpAnyH_take (i := 24) (oi := { dst := some 207, op := Op.call { callee := Callee.builtin Builtin.append, args := #[Operand.tmp 204, Operand.tmp 206], argTypes := #[38, 38] }, type := 38, pos := "more.go:80", after := #[{ on := 21, ground := Ground.data }, { on := 23, ground := Ground.data }, { on := 21, ground := Ground.chain }, { on := 18, ground := Ground.guard }], guard := some (18, false) }) (v := undef) rfl (by kernel_rfl) (by kernel_rfl) (by kernel_rfl) (fun _ _ _ h => h) (Or.inr ⟨by rfl, rfl⟩) (by assumption) ?_
            try simp only [Act.put, List.setIfInBounds_toArray, List.set_cons_zero, List.set_cons_succ]
            refine wpAnyH_take (i := 25) (oi := { dst := some 208, op := Op.fieldAddr 52 (Operand.tmp 18) 1, type := 0, pos := "more.go:80", after := #[{ on := 18, ground := Ground.guard }], guard := some (18, false) }) (v := undef) rfl (by kernel_rfl) (by kernel_rfl) (by kernel_rfl) (fun _ _ _ h => h) (Or.inr ⟨by rfl, rfl⟩) (by assumption) ?_
            try simp only [Act.put, List.setIfInBounds_toArray, List.set_cons_zero, List.set_cons_succ]
            refine wpAnyH_take (i := 26) (oi := { dst := some 209, op := Op.load 38 (Operand.tmp 208), type := 38, pos := "more.go:80", after := #[{ on := 25, ground := Ground.data }, { on := 18, ground := Ground.guard }], guard := some (18, false) }) (v := undef) rfl (by kernel_rfl) (by kernel_rfl) (by kernel_rfl) (fun _ _ _ h => h) (Or.inr ⟨by rfl, rfl⟩) (by assumption) ?_
            try simp only [Act.put, List.setIfInBounds_toArray, List.set_cons_zero, List.set_cons_succ]
            refine wpAnyH_take (i := 27) (oi := { dst := some 210, op := Op.call { callee := Callee.value (Operand.func 20), args := #[Operand.tmp 207, Operand.tmp 209], argTypes := #[38, 38] }, type := 4, pos := "more.go:80", after := #[{ on := 24, ground := Ground.data }, { on := 26, ground := Ground.data }, { on := 24, ground := Ground.chain }, { on := 18, ground := Ground.guard }], guard := some (18, false) }) (v := undef) rfl (by kernel_rfl) (by kernel_rfl) (by kernel_rfl) (fun _ _ _ h => h) (Or.inr ⟨by rfl, rfl⟩) (by assumption) ?_
            try simp only [Act.put, List.setIfInBounds_toArray, List.set_cons_zero, List.set_cons_succ]
            refine wpAnyH_take (i := 28) (oi := { dst := some 211, op := Op.pick (Operand.tmp 201) (Operand.const (Value.bool true)) (Operand.tmp 210), type := 4, pos := "more.go:80", after := #[{ on := 18, ground := Ground.data }, { on := 27, ground := Ground.data }, { on := 12, ground := Ground.guard }], guard := some (12, true) }) (v := ?vq124) rfl (by kernel_rfl) (by kernel_rfl) (by kernel_rfl) (fun _ _ _ h => h) (Or.inl ⟨by rfl, ?hq124⟩) (by assumption) ?rq124
            case hq124 => intro W hSw; (try obtain ⟨z0, z1, z2, z3, z4, z5, z6, z7, z8, z9⟩ := HC.out W hSw); go_simp; (try with_reducible rfl)
            try simp only [Act.put, List.setIfInBounds_toArray, List.set_cons_zero, List.set_cons_succ]
            refine wpAnyH_take (i := 29) (oi := { dst := some 212, op := Op.pick (Operand.tmp 195) (Operand.tmp 211) (Operand.const (Value.bool false)), type := 4, pos := "more.go:80", after := #[{ on := 12, ground := Ground.data }, { on := 28, ground := Ground.data }], guard := none }) (v := ?vq125) rfl (by kernel_rfl) (by kernel_rfl) (by kernel_rfl) (fun _ _ _ h => h) (Or.inl ⟨by rfl, ?hq125⟩) (by assumption) ?rq125
            case hq125 => intro W hSw; (try obtain ⟨z0, z1, z2, z3, z4, z5, z6, z7, z8, z9⟩ := HC.out W hSw); go_simp; (try with_reducible rfl)
            try simp only [Act.put, List.setIfInBounds_toArray, List.set_cons_zero, List.set_cons_succ]
            refine wpAnyH_take (i := 30) (oi := { dst := some 14, op := Op.assign (Operand.tmp 212), type := 4, pos := "more.go:80", after := #[{ on := 29, ground := Ground.data }, { on := 27, ground := Ground.chain }, { on := 0, ground := Ground.phase }, { on := 1, ground := Ground.phase }, { on := 2, ground := Ground.phase }, { on := 3, ground := Ground.phase }, { on := 4, ground := Ground.phase }, { on := 5, ground := Ground.phase }, { on := 6, ground := Ground.phase }, { on := 7, ground := Ground.phase }, { on := 8, ground := Ground.phase }, { on := 9, ground := Ground.phase }, { on := 10, ground := Ground.phase }, { on := 11, ground := Ground.phase }, { on := 12, ground := Ground.phase }, { on := 13, ground := Ground.phase }, { on := 14, ground := Ground.phase }, { on := 15, ground := Ground.phase }, { on := 16, ground := Ground.phase }, { on := 17, ground := Ground.phase }, { on := 18, ground := Ground.phase }, { on := 19, ground := Ground.phase }, { on := 20, ground := Ground.phase }, { on := 21, ground := Ground.phase }, { on := 22, ground := Ground.phase }, { on := 23, ground := Ground.phase }, { on := 24, ground := Ground.phase }, { on := 25, ground := Ground.phase }, { on := 26, ground := Ground.phase }, { on := 27, ground := Ground.phase }, { on := 28, ground := Ground.phase }, { on := 29, ground := Ground.phase }], guard := none }) (v := ?vq126) rfl (by kernel_rfl) (by kernel_rfl) (by kernel_rfl) (fun _ _ _ h => h) (Or.inl ⟨by rfl, ?hq126⟩) (by assumption) ?rq126
            case hq126 => intro W hSw; (try obtain ⟨z0, z1, z2, z3, z4, z5, z6, z7, z8, z9⟩ := HC.out W hSw); go_simp; (try with_reducible rfl)
            try simp only [Act.put, List.setIfInBounds_toArray, List.set_cons_zero, List.set_cons_succ]
            refine wpAnyH_done (by kernel_rfl) ?_ _
            go_wp2_with fail
            go_ret
            exact ⟨rfl, OE.out _ hHeld⟩
end Go.Proofs.Ytlhhcancfgjfkaa
