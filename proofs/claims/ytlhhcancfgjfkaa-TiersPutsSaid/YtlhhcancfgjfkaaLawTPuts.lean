/- TiersPuts' walk: samples put at once are as one by one, and in whatever order. -/
import Derived.Test.YtlhhcancfgjfkaaAlive11
import Derived.Test.YtlhhcancfgjfkaaTio
import Derived.Test.YtlhhcancfgjfkaaFew
import Derived.Test.YtlhhcancfgjfkaaFills
namespace Go.Proofs.Ytlhhcancfgjfkaa
set_option linter.all false
open Go.RowKit

theorem putE_zero {X : TiersX} {s : List SampV} (h : putE X s = 0) : 1 ≤ s.length ∧ s.length ≤ 8 ∧ ∀ y ∈ s, takesV X.now X.tiers X.floors y = 0 := by
  unfold putE at h
  split at h
  · omega
  · split at h
    · omega
    · refine ⟨by omega, by omega, fun y hy => ?_⟩
      unfold firstE at h
      split at h
      · rename_i z hz
        have := List.find?_some hz
        simp only [decide_eq_true_eq] at this
        exact absurd h this
      · rename_i hz
        have := List.find?_eq_none.1 hz y hy
        simpa using this
/-- Tiers behind the first k samples. -/
def ordX (X : TiersX) (s : List SampV) (k : Nat) : TiersX := { X with tabs := putsT X X.tabs (s.take k) }
theorem ordX_zero (X : TiersX) (s : List SampV) : ordX X s 0 = X := rfl
theorem ordX_put {X : TiersX} {s : List SampV} {k : Nat} {y : SampV} (hy : s[k]? = some y) (ht : takesV X.now X.tiers X.floors y = 0) : putE (ordX X s k) [y] = 0 ∧ putX (ordX X s k) [y] = ordX X s (k + 1) := by
  have hE : putE (ordX X s k) [y] = 0 := by rw [putE_1]; exact ht
  refine ⟨hE, ?_⟩
  unfold putX
  rw [if_pos hE]
  unfold ordX
  rw [take_snoc hy, putsT_snoc]
  rfl
theorem ordX_all {X : TiersX} {s r : List SampV} (h : putE X s = 0) (hg : goodT X X.tabs) (hr : r = s ∨ r = s.reverse) : ordX X r s.length = putX X s := by
  unfold putX
  rw [if_pos h]
  unfold ordX
  rcases hr with rfl | rfl
  · rw [List.take_length]
  · rw [← List.length_reverse, List.take_length, putsT_back hg]

set_option maxRecDepth 100000 in
set_option maxHeartbeats 8000000 in
theorem tputs_walk (nm : ByteArray) (l : List TierV) (A : Option Addr) (n c : Nat) (now : Int) (s : List SampV) (B : Option Addr) (m d : Nat) (bk : Bool) (w : World) (hnm : nm.size ≤ maxLen) (hr : Rd w 4 A n (tcells l)) (hnc : n ≤ c) (hn9 : n ≤ 9223372036854775807) (hwf : ∀ t ∈ l, t.wf) (hnow : -9223372036854775808 ≤ now ∧ now ≤ 9223372036854775807) (hs : Rd w 3 B m (scells s)) (hm9 : m ≤ 9223372036854775807) (hswf : ∀ y ∈ s, y.wf) :
    Calls Try.prog 5 #[.agg #[.string nm, .slice A n c], .int .i64 now, .slice B m d, .bool bk] w fun e w' => e = .returned (.bool true) ∧ Below w.heap.size w w' := by
  have HAl := Lib.hid alive11_any
  have HSm : Hid (∀ W, Fr (fun _ => False) w W → Calls Try.prog 15 #[.agg #[.string nm, .slice A n c]] W fun r w' => SmallR nm n r ∧ Below W.heap.size W w') := fun W f => bsmall_any nm l A n c W (hr.fr0 f) hn9 hnm (fun t h => (hwf t h).2.2.2)
  have HSo : Hid (∀ W, Fr (fun _ => False) w W → Calls Try.prog 10 #[.int .i64 8, .slice B m d] W fun r w' => FewR 8 m r ∧ W = w') := fun W f => some_any 8 (by omega) s (fun y h => (hswf y h).2.2) B m d W (hs.fr0 f) hm9
  have HN : Hid (∀ W, n ≤ 10 → Fr (fun _ => False) w W → Calls Try.prog 12 #[.agg #[.string nm, .slice A n c], .int .i64 now, .slice none 0 0] W fun r w' => ((newE nm l now [] = 0 → PolOk nm l ∧ ∃ t F, r = .returned (.tuple #[.pointer (some ⟨t, 0, none⟩), .int .i64 0]) ∧ Tio nm l [] w.heap.size w' t (newX nm l now []) F 0 ∧ ∀ j, F j → W.heap.size ≤ j) ∧ (newE nm l now [] ≠ 0 → r = .returned (.tuple #[.pointer none, .int .i64 (newE nm l now [])]))) ∧ Below W.heap.size W w') := fun W h10 f => tio_new hnm hwf A n c now hnow w.heap.size W f.size (hr.fr0 f) hnc (by omega)
  have Hs := Lib.hid hs
  have Hln := Lib.hid hs.samps_len
  have Hswf := Lib.hid hswf
  have B0 := Lib.hid (Blk.new w 33 #[.string nm, .slice A n c])
  have F0 := Lib.hid (Fr.none_alloc w (.cells #[.string nm, .slice A n c] 33))
  clear hr hwf hs hswf
  go_enter Try.func5, Try.ntmps5
  go_wp2_with fail
  refine (HSm.out _ F0.out).mono ?_
  rintro r w1 ⟨⟨b, rfl, hb⟩, b1⟩
  have F1 := Lib.hid (F0.out.trans (Fr.b0 b1) (fun _ h => h.elim))
  have B1 := Lib.hid (B0.out.fr (Fr.b0 b1) (fun h => h))
  clear b1 HSm
  cases b with
  | false =>
    clear hb
    go_wp2_with fail
    refine (HAl.out _).mono ?_
    rintro r w2 ⟨rfl, b2⟩
    go_wp2_with fail
    go_ret
    exact ⟨rfl, (F1.out.trans (Fr.b0 b2) (fun _ h => h.elim)).below (fun _ h => h.elim)⟩
  | true =>
  have h10 : n ≤ 10 := (hb rfl).1
  clear hb
  go_wp2_with fail
  refine (HSo.out _ F1.out).mono ?_
  rintro r w2 ⟨⟨b, rfl, hb⟩, rfl⟩
  cases b with
  | false =>
    clear hb
    go_wp2_with fail
    refine (HAl.out _).mono ?_
    rintro r w2 ⟨rfl, b2⟩
    go_wp2_with fail
    go_ret
    exact ⟨rfl, (F1.out.trans (Fr.b0 b2) (fun _ h => h.elim)).below (fun _ h => h.elim)⟩
  | true =>
  have h8 : m ≤ 8 := hb rfl
  clear hb HSo
  have p0 := B1.out.cell 0
  have p1 := B1.out.cell 1
  simp only [List.getElem?_toArray, List.getElem?_cons_succ, List.getElem?_cons_zero] at p0 p1
  go_wp2_with fail
  refine (HN.out _ h10 F1.out).mono ?_
  rintro r w3 ⟨⟨h1, h2⟩, b3⟩
  have F3 := Lib.hid (F1.out.trans (Fr.b0 b3) (fun _ h => h.elim))
  have B3 := Lib.hid (B1.out.fr (Fr.b0 b3) (fun h => h))
  have HS3 := Lib.hid b3.size
  clear b3 p0 p1
  have p0 := B3.out.cell 0
  have p1 := B3.out.cell 1
  simp only [List.getElem?_toArray, List.getElem?_cons_succ, List.getElem?_cons_zero] at p0 p1
  by_cases hE : newE nm l now [] = 0
  case neg =>
    have HN3 : Hid (Calls Try.prog 12 #[.agg #[.string nm, .slice A n c], .int .i64 now, .slice none 0 0] w3 fun r w' => r = .returned (.tuple #[.pointer none, .int .i64 (newE nm l now [])]) ∧ Below w3.heap.size w3 w') := (HN.out _ h10 F3.out).mono fun r w' ⟨⟨_, h2⟩, hb⟩ => ⟨h2 hE, hb⟩
    obtain rfl := h2 hE
    clear h1 h2 HN
    obtain ⟨E, hEq⟩ : ∃ E, newE nm l now [] = E := ⟨_, rfl⟩
    rw [hEq] at hE HN3 ⊢
    have hE2 : (E == 0) = false := by simpa using hE
    have hE3 : decide (E = 0) = false := decide_eq_false hE
    clear hEq
    go_wp2_with fail
    refine HN3.out.mono ?_
    rintro r w4 ⟨rfl, b4⟩
    have F4 := Lib.hid (F3.out.trans (Fr.b0 b4) (fun _ h => h.elim))
    clear b4 p0 p1
    go_wp2_with fail
    refine (HAl.out _).mono ?_
    rintro r w5 ⟨rfl, b5⟩
    go_wp2_with fail
    go_ret
    exact ⟨rfl, (F4.out.trans (Fr.b0 b5) (fun _ h => h.elim)).below (fun _ h => h.elim)⟩
  case pos =>
  obtain ⟨p, t, F, rfl, T3, hF⟩ := h1 hE
  have HN3 : Hid (Calls Try.prog 12 #[.agg #[.string nm, .slice A n c], .int .i64 now, .slice none 0 0] w3 fun r w' => (∃ t F, r = .returned (.tuple #[.pointer (some ⟨t, 0, none⟩), .int .i64 0]) ∧ Tio nm l [] w.heap.size w' t (newX nm l now []) F 0 ∧ ∀ j, F j → w3.heap.size ≤ j) ∧ Below w3.heap.size w3 w') := (HN.out _ h10 F3.out).mono fun r w' ⟨⟨h1, _⟩, hb⟩ => ⟨(h1 hE).2, hb⟩
  have P := Lib.hid p
  have HT3 := Lib.hid T3
  clear h1 h2 hE HN hF p T3
  go_wp2_with fail
  refine HN3.out.mono ?_
  rintro r w4 ⟨⟨u, F2, rfl, U4, hF2⟩, b4⟩
  have F4 := Lib.hid (F3.out.trans (Fr.b0 b4) (fun _ h => h.elim))
  have HT4 := Lib.hid (HT3.out.fr0 (Fr.b0 b4))
  have HU4 := Lib.hid U4
  have HD : Hid (∀ j, F j → ¬ F2 j) := fun j hj hj2 => by
    have h1 := (HT3.out.ge j hj).2
    have h2 := hF2 j hj2
    omega
  clear b4 p0 p1 U4 hF2 HN3 HT3 HS3
  obtain ⟨X0, hX0⟩ : ∃ X0, newX nm l now [] = X0 := ⟨_, rfl⟩
  rw [hX0] at HT4 HU4
  clear hX0
  have HP := Lib.hid (tio_put P.out HT4.out (by omega) s B m d (Hs.out.fr0 F4.out) Hswf.out)
  by_cases hE : putE X0 s = 0
  case neg =>
    obtain ⟨E, hEq⟩ : ∃ E, putE X0 s = E := ⟨_, rfl⟩
    rw [hEq] at hE HP
    have hE2 : (E == 0) = false := by simpa using hE
    have hE3 : decide (E = 0) = false := decide_eq_false hE
    clear hEq
    go_wp2_with fail
    refine HP.out.mono ?_
    rintro r w5 ⟨rfl, T5, f5⟩
    have O5 : Hid (Below w.heap.size w w5) := (F4.out.below (fun _ h => h.elim)).trans (HT4.out.below F4.out.size f5)
    clear T5 f5 HP
    go_wp2_with fail
    refine (HAl.out _).mono ?_
    rintro r w6 ⟨rfl, b6⟩
    go_wp2_with fail
    go_ret
    exact ⟨rfl, O5.out.trans (b6.mono O5.out.size)⟩
  case pos =>
  have hZ := putE_zero hE
  have HTk := Lib.hid hZ.2.2
  rw [hE] at HP
  go_wp2_with fail
  refine HP.out.mono ?_
  rintro r w5 ⟨rfl, T5, f5⟩
  have O5 : Hid (Below w.heap.size w w5) := (F4.out.below (fun _ h => h.elim)).trans (HT4.out.below F4.out.size f5)
  have HU5 := Lib.hid (HU4.out.apart HT4.out f5 (fun _ h => h) (fun j h1 h2 => HD.out j h2 h1))
  have HT5 := Lib.hid T5
  have HEnd : Hid (∀ r, r = s ∨ r = s.reverse → ordX X0 r m = putX X0 s) := fun r h => by rw [← Hln.out]; exact ordX_all hE HU4.out.good.good h
  have HX : Hid (∀ r, (r = s ∨ r = s.reverse) → ∀ k y, r[k]? = some y → putE (ordX X0 r k) [y] = 0 ∧ putX (ordX X0 r k) [y] = ordX X0 r (k + 1)) := fun r h k y hy => ordX_put hy (HTk.out y (by rcases h with rfl | rfl; exact mem_of_get hy; exact List.mem_reverse.1 (mem_of_get hy)))
  clear T5 f5 HP hZ hE HT4 HU4 HTk
  obtain ⟨ord, hord⟩ : ∃ r, (if bk then s.reverse else s) = r := ⟨_, rfl⟩
  have hor : Hid (ord = s ∨ ord = s.reverse) := by
    show _ ∨ _
    rw [← hord]
    cases bk
    · exact .inl rfl
    · exact .inr rfl
  have hidx : Hid (∀ k, k < m → ord[k]? = s[if bk then m - 1 - k else k]?) := fun k hk => by
    rw [← hord]
    cases bk
    · rfl
    · simp only [if_true]
      rw [List.getElem?_reverse (by rw [Hln.out]; exact hk), Hln.out]
  clear hord
  go_wp2_with fail
  go_loopw [13] (fun i wr => ∃ k : Nat, k ≤ m ∧ i = .int .i64 k ∧ Tio nm l [] w.heap.size wr t (putX X0 s) F 8 ∧ Tio nm l [] w.heap.size wr u (ordX X0 ord k) F2 (k * 8) ∧ Below w.heap.size w wr) (fun i _ => m - (intOf i).toNat)
  case atStart => exact ⟨0, Nat.zero_le _, rfl, HT5.out, HU5.out, O5.out⟩
  case round =>
    obtain ⟨k, hk, rfl, hT, hU, ho⟩ := hrel
    have HT := Lib.hid hT
    have HU := Lib.hid hU
    have Ho := Lib.hid ho
    clear hT hU ho
    by_cases hlt : k < m
    · have hkw : IntKind.i64.wrap ((k : Int) + 1) = (k : Int) + 1 := by simp [IntKind.wrap, IntKind.signed, IntKind.bits]; omega
      have hw1 : IntKind.i64.wrap ((m : Int) - 1) = (m : Int) - 1 := by simp [IntKind.wrap, IntKind.signed, IntKind.bits]; omega
      have hw2 : IntKind.i64.wrap ((m : Int) - 1 - (k : Int)) = ((m - 1 - k : Nat) : Int) := by simp [IntKind.wrap, IntKind.signed, IntKind.bits]; omega
      have hix := Lib.hid (hidx.out k hlt)
      obtain ⟨q, hq⟩ : ∃ q, (if bk = true then m - 1 - k else k) = q := ⟨_, rfl⟩
      have hqm : q < m := by rw [← hq]; split <;> omega
      rw [hq] at hix
      obtain ⟨ad, y, rfl, hy, a0, a1, a2⟩ := (Hs.out.below Ho.out).samp_ hqm
      have hyo : ord[k]? = some y := hix.out.trans hy
      have hE := HX.out ord hor.out k y hyo
      have F2' := Lib.hid (Fr.none_alloc wr (.cells #[.string y.name, .int .i64 y.time, .int .i64 y.value] 37))
      have HPk := Lib.hid (tio_put P.out (HU.out.fr0 F2'.out) (by omega) [y] _ 1 1 (Rd.newS rfl _ _ 1 3 rfl) (fun z hz => by rw [List.mem_singleton] at hz; rw [hz]; exact Hswf.out y (mem_of_get hy)))
      rw [hE.1, hE.2] at HPk
      clear hE hyo hy hix
      cases bk with
      | false =>
        simp only [Bool.false_eq_true, if_false] at hq
        subst hq
        go_wp2_with fail
        refine HPk.out.mono ?_
        rintro r w6 ⟨rfl, U6, f6⟩
        have HU6 := Lib.hid (U6.more (d := (k + 1) * 8) (by omega))
        have HT6 := Lib.hid ((HT.out.fr0 F2'.out).apart (HU.out.fr0 F2'.out) f6 (fun _ h => h) HD.out)
        have O6 : Hid (Below w.heap.size w w6) := (Ho.out.trans (F2'.out.below_of Ho.out.size (fun _ h => h.elim))).trans ((HU.out.fr0 F2'.out).below (Nat.le_trans Ho.out.size F2'.out.size) f6)
        clear U6 f6 HPk a0 a1 a2
        go_wp2_with fail
        go_roundw
        case rel => exact ⟨k + 1, by omega, by go_num, HT6.out, HU6.out, O6.out⟩
        case measure => simp [intOf]; omega
      | true =>
        simp only [if_true] at hq
        rw [hq] at hw2
        go_wp2_with fail
        refine HPk.out.mono ?_
        rintro r w6 ⟨rfl, U6, f6⟩
        have HU6 := Lib.hid (U6.more (d := (k + 1) * 8) (by omega))
        have HT6 := Lib.hid ((HT.out.fr0 F2'.out).apart (HU.out.fr0 F2'.out) f6 (fun _ h => h) HD.out)
        have O6 : Hid (Below w.heap.size w w6) := (Ho.out.trans (F2'.out.below_of Ho.out.size (fun _ h => h.elim))).trans ((HU.out.fr0 F2'.out).below (Nat.le_trans Ho.out.size F2'.out.size) f6)
        clear U6 f6 HPk a0 a1 a2
        go_wp2_with fail
        go_roundw
        case rel => exact ⟨k + 1, by omega, by go_num, HT6.out, HU6.out, O6.out⟩
        case measure => simp [intOf]; omega
    · obtain rfl : k = m := by omega
      have hU2 := Lib.hid HU.out
      rw [HEnd.out ord hor.out] at hU2
      have HSa := Lib.hid (fun W f => tio_same P.out P.out (HT.out.fr0 (W' := W) f) (hU2.out.fr0 f) (by omega) (by omega))
      rw [sameX_self] at HSa
      have HNa := Lib.hid (fun W f => tio_need P.out (HT.out.fr0 (W' := W) f) (by omega))
      have HNb := Lib.hid (fun W f => tio_need P.out (hU2.out.fr0 (W' := W) f) (by omega))
      have HLa := Lib.hid (fun W f => tio_len P.out (HT.out.fr0 (W' := W) f) (by omega))
      have HLb := Lib.hid (fun W f => tio_len P.out (hU2.out.fr0 (W' := W) f) (by omega))
      obtain ⟨nx, hnx⟩ : ∃ v, needX (putX X0 s) = v := ⟨_, rfl⟩
      obtain ⟨lx, hlx⟩ : ∃ v, lenX (putX X0 s) = v := ⟨_, rfl⟩
      rw [hnx] at HNa HNb
      rw [hlx] at HLa HLb
      clear hnx hlx hU2 HX HEnd hidx
      go_wp2_with fail
      refine (HAl.out _).mono ?_
      rintro r w6 ⟨rfl, b6⟩
      have F6 := Lib.hid (Fr.b0 b6)
      clear b6
      go_wp2_with fail
      refine (HSa.out _ F6.out).mono ?_
      rintro r w7 ⟨rfl, b7⟩
      have F7 := Lib.hid (F6.out.trans (Fr.b0 b7) (fun _ h => h.elim))
      clear b7
      go_wp2_with fail
      refine (HNa.out _ F7.out).mono ?_
      rintro r w8 ⟨rfl, b8⟩
      have F8 := Lib.hid (F7.out.trans (Fr.b0 b8) (fun _ h => h.elim))
      clear b8
      go_wp2_with fail
      refine (HNb.out _ F8.out).mono ?_
      rintro r w9 ⟨rfl, b9⟩
      have F9 := Lib.hid (F8.out.trans (Fr.b0 b9) (fun _ h => h.elim))
      clear b9
      go_wp2_with fail
      refine (HLa.out _ F9.out).mono ?_
      rintro r wa ⟨rfl, rfl⟩
      go_wp2_with fail
      refine (HLb.out _ F9.out).mono ?_
      rintro r wa ⟨rfl, rfl⟩
      go_wp2_with fail
      go_ret
      exact ⟨rfl, Ho.out.trans (F9.out.below_of Ho.out.size (fun _ h => h.elim))⟩
end Go.Proofs.Ytlhhcancfgjfkaa
