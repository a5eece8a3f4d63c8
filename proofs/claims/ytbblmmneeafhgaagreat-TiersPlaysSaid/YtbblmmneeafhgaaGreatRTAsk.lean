/- Walks of the document: Table.Range, Asks, Tiers.Ask. -/
import Derived.Test.YtbblmmneeafhgaaGreatRTAdd
import Derived.Test.YtbblmmneeafhgaaGreatTabNeed
import Derived.Test.YtbblmmneeafhgaaGreatTiersAsk
import Derived.Test.YtbblmmneeafhgaaGreatRefGrid
namespace Go.Proofs.YtbblmmneeafhgaaGreat
set_option linter.all false
open Go.RowKit

set_option maxRecDepth 100000 in
set_option maxHeartbeats 6000000 in
theorem rtrange_any (p lo : Nat) (F : Nat → Prop) (every : Int) (l : List RecV) (s : ByteArray) (fr tt : Int) (w : World) (h : RTabF w p lo F every l) (hl : l.length ≤ 1000000) :
  Calls Tryz.prog 73 #[.pointer (some ⟨p, 0, none⟩), .string s, .int .i64 fr, .int .i64 tt] w fun r w' => (∃ R cs, r = .returned (.slice R (keepT (outR s fr tt) l).length cs) ∧ w'.ownsRow w.heap.size 100 7 (.slice R (keepT (outR s fr tt) l).length cs) (keepT (outR s fr tt) l).length (rcells (keepT (outR s fr tt) l))) ∧ Fr (fun _ => False) w w' := by
 obtain ⟨⟨A, c, hb, ho, _⟩, hwf, _, _⟩ := h
 obtain ⟨n, hn⟩ : ∃ n, l.length = n := ⟨_, rfl⟩
 have Hn := Lib.hid hn
 rw [hn] at hb ho hl
 obtain ⟨hnc, hc9, hrd, _⟩ := own_any ho
 have Hb := Lib.hid hb
 have Hrd := Lib.hid hrd
 have Hwf := Lib.hid hwf
 obtain ⟨kp, hkp⟩ : ∃ f : List RecV → List RecV, keepT (outR s fr tt) = f := ⟨_, rfl⟩
 rw [hkp]
 have Hsn : Hid (∀ (q : Nat) (r : RecV), l[q]? = some r → kp (l.take (q + 1)) = if (!outR s fr tt r) = true then kp (l.take q) ++ [r] else kp (l.take q)) := by
  intro q r hr
  rw [← hkp, take_snoc hr]
  unfold keepT
  rw [List.filter_append]
  cases h : outR s fr tt r <;> simp [h]
 have Hk0 : Hid (kp (l.take 0) = []) := by show _ = _; rw [← hkp]; rfl
 have HkN : Hid (kp (l.take n) = kp l) := by show _ = _; rw [← hn, List.take_length]
 have Hkl : Hid (∀ q, (kp (l.take q)).length ≤ 1000000) := fun q => by
  rw [← hkp]
  refine Nat.le_trans (List.length_filter_le _ _) ?_
  rw [List.length_take]
  omega
 obtain ⟨i0, hi, hz0, hz1, hz2⟩ := info_parts info_rec
 have HHi := Lib.hid hi
 obtain ⟨NL, hNL⟩ : ∃ v, (kp l).length = v := ⟨_, rfl⟩
 have HNL := Lib.hid hNL
 rw [hNL]
 clear hb ho hrd hwf hn hkp hNL
 go_enter Tryz.func73, Tryz.ntmps73
 go_wp2_with fail
 go_loopw [9, 10] (fun o i wr => ∃ (q k : Nat) (R : Option Addr) (cs : Nat), q ≤ n ∧ i = .int .i64 q ∧ o = .slice R k cs ∧ (kp (l.take q)).length = k ∧ wr.ownsRow w.heap.size 100 7 (.slice R k cs) k (rcells (kp (l.take q))) ∧ Fr (fun _ => False) w wr) (fun _ i _ => n - (intOf i).toNat)
 case atStart =>
  refine ⟨0, 0, none, 0, Nat.zero_le _, rfl, rfl, by rw [Hk0.out]; rfl, ?_, Fr.refl _ _⟩
  rw [Hk0.out]
  exact World.ownsRow_nil _ _ _ _
 case round =>
  obtain ⟨q, k, R, cs, hq, rfl, rfl, hlk, hrow, hfr⟩ := hrel
  have hklm : k ≤ 1000000 := by rw [← hlk]; exact Hkl.out q
  have Hlk := Lib.hid hlk
  have Hrow := Lib.hid hrow
  have HFr := Lib.hid hfr
  have a1 := (Hb.out.fr hfr (fun h => h)).cell 1
  simp only [List.getElem?_toArray, List.getElem?_cons_succ, List.getElem?_cons_zero] at a1
  clear hlk hrow hfr
  by_cases hlt : q < n
  ·obtain ⟨ra, ⟨rn, rs, ⟨r1, r2, r3, r4, r5⟩⟩, rfl, hr, d0, d1, d2, d3, d4, d5, d6⟩ := (Hrd.out.fr0 HFr.out).rec_ hlt
   have Hsq := Lib.hid (Hsn.out q _ hr)
   simp only at Hsq d0 d1 d2 d3 d4 d5 d6
   have e1 : decide ((q : Int) < (n : Int)) = true := decide_eq_true (by omega)
   have e5 : 0 ≤ (q : Int) ∧ (q : Int) < (n : Int) := by omega
   have hqw : IntKind.i64.wrap ((q : Int) + 1) = (q : Int) + 1 := by simp [IntKind.wrap, IntKind.signed, IntKind.bits]; omega
   obtain ⟨eb, heb⟩ : ∃ b, (!outR s fr tt ⟨rn, rs, ⟨r1, r2, r3, r4, r5⟩⟩) = b := ⟨_, rfl⟩
   rw [heb] at Hsq
   have Heb : Hid (eb = (decide (rn = s) && decide (fr ≤ rs) && decide (rs < tt))) := by
    show _ = _
    rw [← heb]
    unfold outR
    simp only [Bool.not_or, Bool.not_not, ← decide_not, Int.not_lt, Int.not_le, Classical.not_not]
   clear hr heb
   go_upto_region 5 with fail
   go_cut [53] from 11 to 63 (fun s53 wx => s53 = .bool eb ∧ wr = wx)
   case first =>
    by_cases h1 : rn = s
    ·have g1 : (rn.toList == s.toList) = true := by rw [h1]; exact beq_self_eq_true _
     have g1' : decide (rn = s) = true := decide_eq_true h1
     by_cases h2 : fr ≤ rs
     ·have g2 : decide (fr ≤ rs) = true := decide_eq_true h2
      have ge : eb = decide (rs < tt) := by rw [Heb.out, g1', g2]; rfl
      have Ge := Lib.hid ge
      clear ge g1' h1
      go_wp2_with fail
      try go_meet
      exact ⟨by rw [Ge.out], by trivial⟩
     ·have g2 : decide (fr ≤ rs) = false := decide_eq_false h2
      have ge : eb = false := by rw [Heb.out, g1', g2]; rfl
      have Ge := Lib.hid ge
      clear ge g1' h1
      go_wp2_with fail
      try go_meet
      exact ⟨by rw [Ge.out], by trivial⟩
    ·have g1 : (rn.toList == s.toList) = false := beq_eq_false_iff_ne.2 (fun h => h1 (toList_inj h))
     have g1' : decide (rn = s) = false := decide_eq_false h1
     have ge : eb = false := by rw [Heb.out, g1']; rfl
     have Ge := Lib.hid ge
     clear ge g1'
     go_wp2_with fail
     try go_meet
     exact ⟨by rw [Ge.out], by trivial⟩
   case rest =>
   obtain ⟨rfl, rfl⟩ := hcut
   clear Heb
   cases eb with
   | true =>
    have hHsq : Hid (kp (l.take (q + 1)) = kp (l.take q) ++ [⟨rn, rs, ⟨r1, r2, r3, r4, r5⟩⟩]) := by show _ = _; rw [Hsq.out, if_pos rfl]
    clear Hsq
    go_wp2_with (at_builtin; refine wpList_app2 rfl _ _ 51 rfl 100 i0 _ 7 64 Tryz.underlying51 hi hz0 hz1 hz2 rfl (by decide) (.slice R k cs) k _ rfl w.heap.size (by have := HFr.out.size; simp; omega) (own_fr0 Hrow.out (Fr.none_alloc _ _)) (some ⟨wr.heap.size, 0, none⟩) 1 1 [.string rn, .int .i64 rs, .int .i64 r1, .int .i64 r2, .int .u64 r3, .int .i64 r4, .int .i64 r5] rfl (Rd.newS (by simp) _ _ _ _ rfl) (by simp [Value.oneCell']) ?q1 ?q2 ?_)
    case q1 => unfold maxLen; omega
    case q2 => omega
    intro R6 c6 w6 ho6 hm6 _
    have Ho6 := Lib.hid ho6
    have F6 : Hid (Fr (fun _ => False) w w6) := (HFr.out.trans (Fr.none_alloc _ _) (fun _ h => h.elim)).trans hm6.fr (fun i hi => .inr (Hrow.out.lt i hi).1)
    clear ho6 hm6 d0 d1 d2 d3 d4 d5 d6 a1
    go_wp2
    go_roundw
    case rel =>
     refine ⟨q + 1, k + 1, R6, c6, by omega, by go_num, rfl, by rw [hHsq.out, List.length_append, Hlk.out]; rfl, ?_, F6.out⟩
     have h := Ho6.out
     rw [hHsq.out]
     unfold rcells at h ⊢
     rw [List.flatMap_append]
     exact h
    case measure => simp [intOf]; omega
   | false =>
    have hHsq : Hid (kp (l.take (q + 1)) = kp (l.take q)) := by show _ = _; rw [Hsq.out, if_neg (by simp)]
    clear Hsq
    go_wp2_with fail
    go_roundw
    case rel => exact ⟨q + 1, k, R, cs, by omega, by go_num, rfl, by rw [hHsq.out]; exact Hlk.out, by rw [hHsq.out]; exact Hrow.out, HFr.out⟩
    case measure => simp [intOf]; omega
  ·obtain rfl : q = n := by omega
   have e1 : decide ((q : Int) < (q : Int)) = false := decide_eq_false (by omega)
   rw [HkN.out] at Hlk Hrow
   go_wp2_with fail
   go_ret
   exact ⟨⟨R, cs, by (have e : NL = k := HNL.out.symm.trans Hlk.out); subst e; rfl, by have e : NL = k := HNL.out.symm.trans Hlk.out; rw [e]; exact Hrow.out⟩, HFr.out⟩
set_option maxHeartbeats 2000000 in
theorem rasks_any (s : ByteArray) (hs : s.size ≤ maxLen) (fr tt : Int) (w : World) :
  Calls Tryz.prog 71 #[.string s, .int .i64 fr, .int .i64 tt] w fun r w' => r = .returned (.int .i64 (if askB s fr tt then 0 else 1)) ∧ w = w' := by
 have HN := Lib.hid (rvalid_any s hs w)
 obtain ⟨vb, hvb⟩ : ∃ v, validB s = v := ⟨_, rfl⟩
 have hA : askB s fr tt = (vb && decide (0 ≤ fr) && decide (fr ≤ tt)) := by rw [← hvb]; rfl
 rw [hA]
 rw [hvb] at HN
 clear hA hvb hs
 cases vb with
 | false =>
  go_enter Tryz.func71, Tryz.ntmps71
  go_wp2_with fail
  refine HN.out.mono ?_
  rintro r w' ⟨rfl, rfl⟩
  go_wp2_with fail
  go_ret
  exact ⟨rfl, rfl⟩
 | true =>
 by_cases h1 : fr < 0
 ·have g1 : decide (fr < 0) = true := decide_eq_true h1
  have g2 : decide (0 ≤ fr) = false := decide_eq_false (by omega)
  rw [g2]
  go_enter Tryz.func71, Tryz.ntmps71
  go_wp2_with fail
  refine HN.out.mono ?_
  rintro r w' ⟨rfl, rfl⟩
  go_wp2_with fail
  go_ret
  exact ⟨rfl, rfl⟩
 ·have g1 : decide (fr < 0) = false := decide_eq_false h1
  have g2 : decide (0 ≤ fr) = true := decide_eq_true (by omega)
  rw [g2]
  by_cases h2 : tt < fr
  ·have g3 : decide (tt < fr) = true := decide_eq_true h2
   have g4 : decide (fr ≤ tt) = false := decide_eq_false (by omega)
   rw [g4]
   go_enter Tryz.func71, Tryz.ntmps71
   go_wp2_with fail
   refine HN.out.mono ?_
   rintro r w' ⟨rfl, rfl⟩
   go_wp2_with fail
   go_ret
   exact ⟨rfl, rfl⟩
  ·have g3 : decide (tt < fr) = false := decide_eq_false h2
   have g4 : decide (fr ≤ tt) = true := decide_eq_true (by omega)
   rw [g4]
   go_enter Tryz.func71, Tryz.ntmps71
   go_wp2_with fail
   refine HN.out.mono ?_
   rintro r w' ⟨rfl, rfl⟩
   go_wp2_with fail
   go_ret
   exact ⟨rfl, rfl⟩

set_option maxRecDepth 100000 in
set_option maxHeartbeats 8000000 in
theorem rask_any (g lo : Nat) (F : Nat → Prop) (X : TiersX) (A : Option Addr) (c : Nat) (B : Option Addr) (d : Nat) (T : Option Addr) (ct : Nat) (P : List Nat) (s : ByteArray) (hs : s.size ≤ maxLen) (fr tt : Int) (w : World) (h : RTiersOn w g lo F X A c B d T ct P) (h0 : 0 < X.tiers.length) (hn : X.tiers.length ≤ 1000) (hl : ∀ m ∈ X.tabs, m.length ≤ 1000000) (hnow : 0 ≤ X.now ∧ X.now ≤ 1099511627776) (hwf : ∀ x ∈ X.tiers, x.wf) :
  Calls Tryz.prog 26 #[.pointer (some ⟨g, 0, none⟩), .string s, .int .i64 fr, .int .i64 tt] w fun r w' => ((askB s fr tt = true → ∃ A c, r = .returned (.tuple #[ansV (askT X fr) A (askL X s fr tt).length c, .int .i64 0]) ∧ w'.ownsRow w.heap.size 100 7 (.slice A (askL X s fr tt).length c) (askL X s fr tt).length (rcells (askL X s fr tt))) ∧ (askB s fr tt = false → r = .returned (.tuple #[ansV 0 none 0 0, .int .i64 1]))) ∧ Below w.heap.size w w' := by
 obtain ⟨W0, hW0⟩ : ∃ W0, W0 = w.alloc (.cells #[.int .i64 0, .slice none 0 0] 67) := ⟨_, rfl⟩
 have HW0 := Lib.hid hW0
 have F0 : Hid (Fr (fun _ => False) w W0) := by show Fr _ _ _; rw [hW0]; exact Fr.none_alloc _ _
 have BA : Hid (Blk W0 w.heap.size 67 #[.int .i64 0, .slice none 0 0]) := by show Blk _ _ _ _; rw [hW0]; exact Blk.new _ _ _
 have HS0 : Hid (w.heap.size + 1 = W0.heap.size) := by show _ = _; rw [hW0]; simp
 have HT0 := h.fr0 F0.out
 have HA := Lib.hid (rasks_any s hs fr tt W0)
 unfold ansV
 clear hW0
 cases hB : askB s fr tt with
 | false =>
  rw [hB, if_neg Bool.false_ne_true] at HA
  clear hB h HT0
  go_enter Tryz.func26, Tryz.ntmps26
  go_wp2_with fail
  rw [← HW0.out]
  refine HA.out.mono ?_
  rintro r w' ⟨rfl, rfl⟩
  have b1 := BA.out
  have a0 := b1.cell 0
  have a1 := b1.cell 1
  have z0 := b1.frozen 0
  have z1 := b1.frozen 1
  simp only [List.getElem?_toArray, List.getElem?_cons_succ, List.getElem?_cons_zero] at a0 a1
  go_wp2_with fail
  rw [setCell_same a0, setCell_same a1]
  refine bodyPost_ret (v := .tuple #[.agg #[.int .i64 0, .slice none 0 0], .int .i64 1]) ?_ rfl ⟨⟨fun h => by simp at h, fun _ => rfl⟩, F0.out.below (fun _ h => h.elim)⟩
  simp [results, Tryz.results26, go_sem, *]
 | true =>
  rw [hB, if_pos rfl] at HA
  have Hi := Lib.hid HT0
  obtain ⟨k, hk, hcv⟩ := cover_in (now := X.now) (fl := X.floors) (t := fr) h0
  obtain ⟨p, x, l, q1, q2, q3⟩ := HT0.at_ hk
  have hTb := HT0.tab k p x l q1 q2 q3
  have hA1 : askT X fr = (k : Int) := hcv
  have hA2 : askL X s fr tt = keepT (outR s fr tt) l := by
   unfold askL
   rw [hA1, Int.toNat_natCast, List.getD_eq_getElem?_getD, q3]; rfl
  rw [hA1, hA2]
  have hll := hl l (mem_of_get q3)
  have HCv : Hid (∀ W, Fr (fun _ => False) W0 W → Calls Tryz.prog 72 #[.agg #[.int .i64 X.now, .string X.name, .slice A X.tiers.length c, .slice B X.floors.length d], .int .i64 fr] W fun r w' => r = .returned (.int .i64 k) ∧ Below W.heap.size W w') := fun W f => by
   have hi' := HT0.fr0 f
   rw [← hcv]
   exact rcover_any X.now (by unfold i64; omega) X.name X.tiers A X.tiers.length c X.floors B X.floors.length d fr W hi'.rd.1 hi'.rd.2 hwf (by omega)
  have HRg : Hid (∀ W, Fr (fun _ => False) W0 W → Calls Tryz.prog 73 #[.pointer (some ⟨p, 0, none⟩), .string s, .int .i64 fr, .int .i64 tt] W fun r w' => (∃ R cs, r = .returned (.slice R (keepT (outR s fr tt) l).length cs) ∧ w'.ownsRow W.heap.size 100 7 (.slice R (keepT (outR s fr tt) l).length cs) (keepT (outR s fr tt) l).length (rcells (keepT (outR s fr tt) l))) ∧ Fr (fun _ => False) W w') := fun W f => rtrange_any p lo F x.every l s fr tt W (hTb.fr f (fun h => h) (fun _ _ h => h)) hll
  obtain ⟨out, hout⟩ : ∃ out, keepT (outR s fr tt) l = out := ⟨_, rfl⟩
  rw [hout] at HRg ⊢
  have HP : Hid (∀ W, Fr (fun _ => False) W0 W → ∃ ad, T = some ad ∧ W.cell? (ad.add k) = some (.pointer (some ⟨p, 0, none⟩))) := fun W f => by
   obtain ⟨ad, p', e, hp', cp⟩ := ((own_any (HT0.fr0 f).row).2.2.1).at_map hk
   obtain rfl : p = p' := Option.some.inj (q1.symm.trans hp')
   exact ⟨ad, e, cp⟩
  have kn : 0 ≤ (k : Int) ∧ (k : Int) < (X.tiers.length : Int) := by omega
  clear hB hout hTb q1 q2 q3 hcv hA1 hA2 hl hwf h HT0
  go_enter Tryz.func26, Tryz.ntmps26
  go_wp2_with fail
  rw [← HW0.out]
  refine HA.out.mono ?_
  rintro r w' ⟨rfl, rfl⟩
  have a0 := Hi.out.blk.cell 0
  have a1 := Hi.out.blk.cell 1
  have a2 := Hi.out.blk.cell 2
  have a3 := Hi.out.blk.cell 3
  simp only [List.getElem?_toArray, List.getElem?_cons_succ, List.getElem?_cons_zero] at a0 a1 a2 a3
  go_wp2_with fail
  refine (HCv.out _ (Fr.refl _ _)).mono ?_
  rintro r w5 ⟨rfl, b5⟩
  have F5 : Hid (Fr (fun _ => False) W0 w5) := Fr.b0 b5
  obtain ⟨ad, rfl, p0⟩ := HP.out w5 F5.out
  clear a0 a1 a2 a3 b5
  have a4 := (Hi.out.fr0 F5.out).blk.cell 4
  simp only [List.getElem?_toArray, List.getElem?_cons_succ, List.getElem?_cons_zero] at a4
  go_wp2_with fail
  refine (HRg.out _ F5.out).mono ?_
  rintro r w6 ⟨⟨A6, c6, rfl, ho6⟩, b6⟩
  have F6 := Lib.hid (F5.out.trans b6 (fun _ h => h.elim))
  have Ho6 := Lib.hid ho6
  have H56 : Hid (w.heap.size ≤ w5.heap.size) := (F0.out.trans F5.out (fun _ h => h.elim)).size
  have hB6 := BA.out.fr F6.out (fun h => h)
  have HB6 := Lib.hid hB6
  clear a4 p0 b6 ho6
  have a0 := hB6.cell 0
  have a1 := hB6.cell 1
  have z0 := hB6.frozen 0
  have z1 := hB6.frozen 1
  simp only [List.getElem?_toArray, List.getElem?_cons_succ, List.getElem?_cons_zero] at a0 a1
  clear hB6
  go_wp2_with fail
  obtain ⟨W7, hW7⟩ : ∃ W7, W7 = (w6.setCell ⟨w.heap.size, 0, none⟩ (.int .i64 k)).setCell ⟨w.heap.size, 1, none⟩ (.slice A6 out.length c6) := ⟨_, rfl⟩
  rw [← hW7]
  have F7 : Fr (fun j => j = w.heap.size) w6 W7 := by rw [hW7]; exact ((Fr.refl (fun j => j = w.heap.size) w6).setCell (p := ⟨w.heap.size, 0, none⟩) (.inl rfl) _).setCell (p := ⟨w.heap.size, 1, none⟩) (.inl rfl) _
  have B7 : Blk W7 w.heap.size 67 #[.int .i64 k, .slice A6 out.length c6] := by rw [hW7]; exact (HB6.out.set_ 0 _).set_ 1 _
  have c0 := B7.cell 0
  have c1 := B7.cell 1
  simp only [List.getElem?_toArray, List.getElem?_cons_succ, List.getElem?_cons_zero] at c0 c1
  have hfin : Below w.heap.size w W7 := ((F0.out.trans F6.out (fun _ h => h.elim)).below (fun _ h => h.elim)).trans (F7.below_of (F0.out.trans F6.out (fun _ h => h.elim)).size (fun _ h => by omega))
  have hown : W7.ownsRow w.heap.size 100 7 (.slice A6 out.length c6) out.length (rcells out) := own_le (own_fr Ho6.out F7 (fun j hj e => own_blk_ne Ho6.out HB6.out (by decide) (by rw [← e]; exact hj))) H56.out
  clear a0 a1 z0 z1 hW7 B7 F7
  refine bodyPost_ret (v := .tuple #[.agg #[.int .i64 k, .slice A6 out.length c6], .int .i64 0]) ?_ rfl ⟨⟨fun _ => ⟨A6, c6, rfl, hown⟩, fun h => by simp at h⟩, hfin⟩
  simp [results, Tryz.results26, go_sem, c0, c1]
end Go.Proofs.YtbblmmneeafhgaaGreat
