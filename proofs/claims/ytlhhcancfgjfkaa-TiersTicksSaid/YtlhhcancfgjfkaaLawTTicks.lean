/- TiersTicks' walk: it does not matter whether time goes on at once, or in pieces. -/
import Derived.Test.YtlhhcancfgjfkaaAlive11
import Derived.Test.YtlhhcancfgjfkaaTio
import Derived.Test.YtlhhcancfgjfkaaOpC
import Derived.Test.YtlhhcancfgjfkaaFills
namespace Go.Proofs.Ytlhhcancfgjfkaa
set_option linter.all false
open Go.RowKit

set_option maxRecDepth 100000 in
set_option maxHeartbeats 8000000 in
theorem tticks_walk (nm : ByteArray) (l : List TierV) (A : Option Addr) (n c : Nat) (now : Int) (ops : List OpC) (B : Option Addr) (m d : Nat) (a b : Int) (w : World) (hnm : nm.size ≤ maxLen) (hr : Rd w 4 A n (tcells l)) (hnc : n ≤ c) (hn9 : n ≤ 9223372036854775807) (hwf : ∀ t ∈ l, t.wf) (hnow : -9223372036854775808 ≤ now ∧ now ≤ 9223372036854775807) (hs : Rd w 4 B m (opcells ops)) (hm9 : m ≤ 9223372036854775807) (hok : ∀ o ∈ ops, o.ok w) (ha : -9223372036854775808 ≤ a ∧ a ≤ 9223372036854775807) (hb : -9223372036854775808 ≤ b ∧ b ≤ 9223372036854775807) :
    Calls Try.prog 7 #[.agg #[.string nm, .slice A n c], .int .i64 now, .slice B m d, .int .i64 a, .int .i64 b] w fun e w' => e = .returned (.bool true) ∧ Below w.heap.size w w' := by
  have HAl := Lib.hid alive11_any
  have HSm : Hid (∀ W, Fr (fun _ => False) w W → Calls Try.prog 15 #[.agg #[.string nm, .slice A n c]] W fun r w' => SmallR nm n r ∧ Below W.heap.size W w') := fun W f => bsmall_any nm l A n c W (hr.fr0 f) hn9 hnm (fun t h => (hwf t h).2.2.2)
  have HLi : Hid (∀ W, Fr (fun _ => False) w W → Calls Try.prog 16 #[.slice B m d] W fun r w' => LightR m r ∧ W = w') := fun W f => light_any ops B m d W (hs.fr0 f) (fun o h => (hok o h).below (f.below (fun _ h => h.elim))) hm9
  have HN : Hid (∀ W, n ≤ 10 → Fr (fun _ => False) w W → Calls Try.prog 12 #[.agg #[.string nm, .slice A n c], .int .i64 now, .slice none 0 0] W fun r w' => ((newE nm l now [] = 0 → PolOk nm l ∧ ∃ t F, r = .returned (.tuple #[.pointer (some ⟨t, 0, none⟩), .int .i64 0]) ∧ Tio nm l [] w.heap.size w' t (newX nm l now []) F 0 ∧ ∀ j, F j → W.heap.size ≤ j) ∧ (newE nm l now [] ≠ 0 → r = .returned (.tuple #[.pointer none, .int .i64 (newE nm l now [])]))) ∧ Below W.heap.size W w') := fun W h10 f => tio_new hnm hwf A n c now hnow w.heap.size W f.size (hr.fr0 f) hnc (by omega)
  have Hs := Lib.hid hs
  have Hln := Lib.hid hs.ops_len
  have Hok := Lib.hid hok
  have Hwf := Lib.hid hwf
  have B0 := Lib.hid (Blk.new w 33 #[.string nm, .slice A n c])
  have F0 := Lib.hid (Fr.none_alloc w (.cells #[.string nm, .slice A n c] 33))
  clear hr hwf hs hok
  have Ha0 := ha
  have Hb0 := hb
  go_enter Try.func7, Try.ntmps7
  go_wp2_with fail
  refine (HSm.out _ F0.out).mono ?_
  rintro r w1 ⟨⟨b, rfl, hb⟩, b1⟩
  have F1 := Lib.hid (F0.out.trans (Fr.b0 b1) (fun _ h => h.elim))
  have B1 := Lib.hid (B0.out.fr (Fr.b0 b1) (fun h => h))
  clear b1 HSm
  cases b with
  | false =>
    clear hb
    go_wp2_with fail
    refine (HAl.out _).mono ?_
    rintro r wq ⟨rfl, bq⟩
    go_wp2_with fail
    go_ret
    exact ⟨rfl, (F1.out.trans (Fr.b0 bq) (fun _ h => h.elim)).below (fun _ h => h.elim)⟩
  | true =>
  have h10 : n ≤ 10 := (hb rfl).1
  clear hb
  go_wp2_with fail
  refine (HLi.out _ F1.out).mono ?_
  rintro r w2 ⟨⟨b, rfl, hb⟩, rfl⟩
  cases b with
  | false =>
    clear hb
    go_wp2_with fail
    refine (HAl.out _).mono ?_
    rintro r wq ⟨rfl, bq⟩
    go_wp2_with fail
    go_ret
    exact ⟨rfl, (F1.out.trans (Fr.b0 bq) (fun _ h => h.elim)).below (fun _ h => h.elim)⟩
  | true =>
  have h50 : m ≤ 50 := hb rfl
  clear hb HLi
  by_cases c1 : a < 0
  · have c1d : decide (a < 0) = true := decide_eq_true (by omega)
    go_wp2_with fail
    refine (HAl.out _).mono ?_
    rintro r wq ⟨rfl, bq⟩
    go_wp2_with fail
    go_ret
    exact ⟨rfl, (F1.out.trans (Fr.b0 bq) (fun _ h => h.elim)).below (fun _ h => h.elim)⟩
  have c1d : decide (a < 0) = false := decide_eq_false (by omega)
  by_cases c2 : 1000 < a
  · have c2d : decide (1000 < a) = true := decide_eq_true (by omega)
    go_wp2_with fail
    refine (HAl.out _).mono ?_
    rintro r wq ⟨rfl, bq⟩
    go_wp2_with fail
    go_ret
    exact ⟨rfl, (F1.out.trans (Fr.b0 bq) (fun _ h => h.elim)).below (fun _ h => h.elim)⟩
  have c2d : decide (1000 < a) = false := decide_eq_false (by omega)
  by_cases c3 : b < 0
  · have c3d : decide (b < 0) = true := decide_eq_true (by omega)
    go_wp2_with fail
    refine (HAl.out _).mono ?_
    rintro r wq ⟨rfl, bq⟩
    go_wp2_with fail
    go_ret
    exact ⟨rfl, (F1.out.trans (Fr.b0 bq) (fun _ h => h.elim)).below (fun _ h => h.elim)⟩
  have c3d : decide (b < 0) = false := decide_eq_false (by omega)
  by_cases c4 : 1000 < b
  · have c4d : decide (1000 < b) = true := decide_eq_true (by omega)
    go_wp2_with fail
    refine (HAl.out _).mono ?_
    rintro r wq ⟨rfl, bq⟩
    go_wp2_with fail
    go_ret
    exact ⟨rfl, (F1.out.trans (Fr.b0 bq) (fun _ h => h.elim)).below (fun _ h => h.elim)⟩
  have c4d : decide (1000 < b) = false := decide_eq_false (by omega)
  have p0 := B1.out.cell 0
  have p1 := B1.out.cell 1
  simp only [List.getElem?_toArray, List.getElem?_cons_succ, List.getElem?_cons_zero] at p0 p1
  go_wp2_with fail
  refine (HN.out _ h10 F1.out).mono ?_
  rintro r w3 ⟨⟨h1, h2⟩, b3⟩
  have F3 := Lib.hid (F1.out.trans (Fr.b0 b3) (fun _ h => h.elim))
  have B3 := Lib.hid (B1.out.fr (Fr.b0 b3) (fun h => h))
  clear b3 p0 p1
  by_cases hE : newE nm l now [] = 0
  case neg =>
    obtain rfl := h2 hE
    clear h1 h2 HN
    obtain ⟨E, hEq⟩ : ∃ E, newE nm l now [] = E := ⟨_, rfl⟩
    rw [hEq] at hE ⊢
    have hE2 : (E == 0) = false := by simpa using hE
    have hE3 : decide (E = 0) = false := decide_eq_false hE
    clear hEq
    go_wp2_with fail
    refine (HAl.out _).mono ?_
    rintro r wq ⟨rfl, bq⟩
    go_wp2_with fail
    go_ret
    exact ⟨rfl, (F3.out.trans (Fr.b0 bq) (fun _ h => h.elim)).below (fun _ h => h.elim)⟩
  case pos =>
  obtain ⟨p, t, F, rfl, T3, hF⟩ := h1 hE
  have P := Lib.hid p
  have HT3 := Lib.hid T3
  have HG : Hid ((newX nm l now []).now = now) := rfl
  clear h1 h2 HN hF p T3
  by_cases hbig : 1000000 < now
  · have hbd : decide (1000000 < now) = true := decide_eq_true hbig
    go_wp2_with fail
    refine (HAl.out _).mono ?_
    rintro r wq ⟨rfl, bq⟩
    go_wp2_with fail
    go_ret
    exact ⟨rfl, (F3.out.trans (Fr.b0 bq) (fun _ h => h.elim)).below (fun _ h => h.elim)⟩
  have hbd : decide (1000000 < now) = false := decide_eq_false hbig
  obtain ⟨X0, hX0⟩ : ∃ X0, newX nm l now [] = X0 := ⟨_, rfl⟩
  rw [hX0] at HT3 HG
  clear hX0 hE
  go_wp2_with fail
  go_loopw [13] (fun i wr => ∃ (k : Nat) (X : TiersX), k ≤ m ∧ i = .int .i64 k ∧ Hid (X.now = now) ∧ Tio nm l [] w.heap.size wr t X F (k * 8) ∧ Below w.heap.size w wr) (fun i _ => m - (intOf i).toNat)
  case atStart => exact ⟨0, X0, Nat.zero_le _, rfl, HG.out, HT3.out, F3.out.below (fun _ h => h.elim)⟩
  case round =>
    obtain ⟨k, X, hk, rfl, hXn, hT, ho⟩ := hrel
    have HT := Lib.hid hT
    have Ho := Lib.hid ho
    clear hT ho HT3
    by_cases hlt : k < m
    · have hkw : IntKind.i64.wrap ((k : Int) + 1) = (k : Int) + 1 := by simp [IntKind.wrap, IntKind.signed, IntKind.bits]; omega
      obtain ⟨ad, o, rfl, hy, a0, a1, a2, a3⟩ := (Hs.out.below Ho.out).op_ hlt
      have HO := Lib.hid ((Hok.out o (mem_of_get hy)).below Ho.out)
      have HPk := Lib.hid (tio_put P.out HT.out (by omega) o.sl o.sa o.sn o.sc HO.out.s HO.out.swf)
      clear hy HO
      obtain ⟨kd, sl, sa, sn, sc, la, ln, lc, E, hkd, h1, h2, h3, hE⟩ : ∃ kd, ∃ (sl : List SampV) (sa : Option Addr) (sn sc : Nat) (la : Option Addr) (ln lc : Nat) (E : Int), o.kind = kd ∧ o.sl = sl ∧ (Value.slice o.sa o.sn o.sc) = .slice sa sn sc ∧ Value.slice o.la o.ln o.lc = .slice la ln lc ∧ putE X o.sl = E := ⟨_, _, _, _, _, _, _, _, _, rfl, rfl, rfl, rfl, rfl⟩
      rw [h2] at HPk a2
      rw [h3] at a3
      rw [hkd] at a0
      rw [hE, h1] at HPk
      clear hkd h1 h2 h3 hE
      by_cases hk1 : kd = 1
      · subst hk1
        go_wp2_with fail
        refine HPk.out.mono ?_
        rintro r w6 ⟨rfl, T6, f6⟩
        have HT6 := Lib.hid (T6.more (d := (k + 1) * 8) (by omega))
        have O6 : Hid (Below w.heap.size w w6) := Ho.out.trans (HT.out.below Ho.out.size f6)
        have hX6 : Hid ((putX X sl).now = now) := by show _ = _; unfold putX; split <;> exact hXn.out
        clear T6 f6 HPk a0 a1 a2 a3
        go_wp2_with fail
        go_roundw
        case rel => exact ⟨k + 1, _, by omega, by go_num, hX6.out, HT6.out, O6.out⟩
        case measure => simp [intOf]; omega
      · have hk2 : (kd == 1) = false := by simpa using hk1
        have hk3 : decide (kd = 1) = false := decide_eq_false hk1
        have HT6 := Lib.hid (HT.out.more (d := (k + 1) * 8) (by omega))
        clear HPk
        go_wp2_with fail
        go_roundw
        case rel => exact ⟨k + 1, X, by omega, by go_num, hXn.out, HT6.out, Ho.out⟩
        case measure => simp [intOf]; omega
    · obtain rfl : k = m := by omega
      have HCp := Lib.hid (tio_copy P.out HT.out (by simp) w.heap.size Ho.out.size)
      go_wp2_with fail
      refine HCp.out.mono ?_
      rintro r w6 ⟨⟨u, F', rfl, U6, hF'⟩, b6⟩
      have HD : Hid (∀ j, F' j → ¬ F j) := fun j h1 h2 => by
        have k1 := (HT.out.ge j h2).2
        have k2 := hF' j h1
        omega
      have HT6 := Lib.hid (HT.out.fr0 (Fr.b0 b6))
      have HU6 := Lib.hid U6
      have O6 : Hid (Below w.heap.size w w6) := Ho.out.trans (b6.mono Ho.out.size)
      clear U6 hF' b6 HCp
      obtain ⟨t1, t2, t3, t4, t5, t6⟩ := tick_twice (X := X) (a := a) (b := b) (fun x hx => by rw [HT.out.good.tiers] at hx; have := check_mem P.out.ck hx; omega) HT.out.good.now.1 (by omega) (by omega) (by rw [hXn.out]; omega)
      have hsw : IntKind.i64.wrap (a + b) = a + b := by simp [IntKind.wrap, IntKind.signed, IntKind.bits]; omega
      have H5 := Lib.hid t4
      have H1 := Lib.hid t1
      have H2 := Lib.hid t2
      have H3 := Lib.hid t3
      clear t1 t2 t3 t4 t5 t6
      go_wp2_with fail
      refine (HAl.out _).mono ?_
      rintro r w7 ⟨rfl, b7⟩
      have HT7 := Lib.hid (HT6.out.fr0 (Fr.b0 b7))
      have HU7 := Lib.hid (HU6.out.fr0 (Fr.b0 b7))
      have O7 : Hid (Below w.heap.size w w7) := O6.out.trans (b7.mono O6.out.size)
      clear b7
      have HK := Lib.hid (tio_tick P.out HT7.out (by omega) a (by unfold i64; omega))
      rw [H1.out] at HK
      go_wp2_with fail
      refine HK.out.mono ?_
      rintro r w8 ⟨rfl, T8, f8⟩
      have HT8 := Lib.hid T8
      have HU8 := Lib.hid (HU7.out.apart HT7.out f8 (fun _ h => h) HD.out)
      have O8 : Hid (Below w.heap.size w w8) := O7.out.trans (HT7.out.below O7.out.size f8)
      clear T8 f8 HK
      have HK := Lib.hid (tio_tick P.out HT8.out (by omega) b (by unfold i64; omega))
      rw [H2.out] at HK
      go_wp2_with fail
      refine HK.out.mono ?_
      rintro r w9 ⟨rfl, T9, f9⟩
      have HT9 := Lib.hid T9
      have HU9 := Lib.hid (HU8.out.apart HT8.out f9 (fun _ h => h) HD.out)
      have O9 : Hid (Below w.heap.size w w9) := O8.out.trans (HT8.out.below O8.out.size f9)
      clear T9 f9 HK
      have HK := Lib.hid (tio_tick P.out HU9.out (by omega) (a + b) (by unfold i64; omega))
      rw [H3.out] at HK
      go_wp2_with fail
      refine HK.out.mono ?_
      rintro r wa ⟨rfl, Ua, fa⟩
      have HUa := Lib.hid Ua
      have HTa := Lib.hid (HT9.out.apart HU9.out fa (fun _ h => h) (fun j h1 h2 => HD.out j h2 h1))
      have Oa : Hid (Below w.heap.size w wa) := O9.out.trans (HU9.out.below O9.out.size fa)
      clear Ua fa HK
      rw [H5.out] at HTa
      have HS1 := Lib.hid (fun W f => tio_same P.out P.out (HTa.out.fr0 (W' := W) f) (HUa.out.fr0 f) (by omega) (by omega))
      have HS2 := Lib.hid (fun W f => tio_same P.out P.out (HUa.out.fr0 (W' := W) f) (HTa.out.fr0 f) (by omega) (by omega))
      rw [sameX_self] at HS1 HS2
      go_wp2_with fail
      refine (HS1.out _ (Fr.refl _ _)).mono ?_
      rintro r wb ⟨rfl, bb⟩
      go_wp2_with fail
      refine (HS2.out _ (Fr.b0 bb)).mono ?_
      rintro r wc ⟨rfl, bc⟩
      go_wp2_with fail
      go_ret
      exact ⟨rfl, (Oa.out.trans (bb.mono Oa.out.size)).trans (bc.mono (Nat.le_trans Oa.out.size bb.size))⟩
end Go.Proofs.Ytlhhcancfgjfkaa
