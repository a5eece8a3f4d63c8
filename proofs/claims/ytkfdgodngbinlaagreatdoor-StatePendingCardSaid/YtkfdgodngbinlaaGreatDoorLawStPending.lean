/- StatePending's walk. -/
import Derived.Test.YtkfdgodngbinlaaGreatDoorStsRun
import Derived.Test.YtkfdgodngbinlaaGreatDoorStSame
import Derived.Test.YtkfdgodngbinlaaGreatDoorStSh
import Derived.Test.YtkfdgodngbinlaaGreatDoorStAb
import Derived.Test.YtkfdgodngbinlaaGreatDoorAlive15
namespace Go.Proofs.YtkfdgodngbinlaaGreatDoor
set_option linter.all false
open Go.RowKit

set_option maxRecDepth 100000 in
set_option maxHeartbeats 8000000 in
theorem stpending_walk (text txt2 other : ByteArray) (l : List OpS) (A : Option Addr) (n c : Nat) (name : ByteArray) (from_ till : Int) (w : World) (htx : text.size ≤ maxLen) (hto : txt2.size ≤ maxLen) (hot : other.size ≤ maxLen) (hr : Rd w 4 A n (opscells l)) (hok : ∀ o ∈ l, o.ok w) (hn : n ≤ 9223372036854775807) (hnm : name.size ≤ maxLen) (hmx : MaxL w) :
  Calls Tryz.prog 6 #[.string text, .string txt2, .string other, .slice A n c, .string name, .int .i64 from_, .int .i64 till] w fun e w' => e = .returned (.bool true) ∧ Below w.heap.size w w' := by
 have HAl : Hid (∀ W, Fr (fun _ => False) w W → Calls Tryz.prog 11 #[] W fun r w' => r = .returned (.bool true) ∧ Below W.heap.size W w') := fun W f => alive15_any W (hmx.fr f (fun h => h))
 have HL1 := Lib.hid (light15_any l A n c w hr hok hn)
 have Hr := Lib.hid hr
 have Hok := Lib.hid hok
 have HMX := Lib.hid hmx
 have F0 := Lib.hid (Fr.refl (fun _ => False) w)
 have htx2 : text.size ≤ 9223372036854775807 := by unfold maxLen at htx; omega
 have hto2 : txt2.size ≤ 9223372036854775807 := by unfold maxLen at hto; omega
 have hot2 : other.size ≤ 9223372036854775807 := by unfold maxLen at hot; omega
 have hnm2 : name.size ≤ 9223372036854775807 := by unfold maxLen at hnm; omega
 clear hr hok hmx
 by_cases h1 : 4100 < text.size
 ·have hz : decide ((4100 : Int) < (text.size : Int)) = true := decide_eq_true (by omega)
  have hz2 : (4100 : Int) < (text.size : Int) := by omega
  go_enter Tryz.func6, Tryz.ntmps6
  go_wp2_with fail
  refine HL1.out.mono ?_
  rintro r w1 ⟨⟨b, rfl, hb⟩, rfl⟩
  have HL1b := Lib.hid hb
  clear hb
  cases b with
  | false =>
   go_wp2_with fail
   refine (HAl.out _ F0.out).mono ?_
   rintro r wz ⟨rfl, bz⟩
   go_wp2_with fail
   go_ret
   exact ⟨rfl, bz⟩
  | true =>
   go_wp2_with fail
   refine (HAl.out _ F0.out).mono ?_
   rintro r wz ⟨rfl, bz⟩
   go_wp2_with fail
   go_ret
   exact ⟨rfl, bz⟩
 have h1d : decide ((4100 : Int) < (text.size : Int)) = false := decide_eq_false (by omega)
 have h1e : ¬ (4100 : Int) < (text.size : Int) := by omega
 by_cases h2 : 4100 < txt2.size
 ·have hz : decide ((4100 : Int) < (txt2.size : Int)) = true := decide_eq_true (by omega)
  have hz2 : (4100 : Int) < (txt2.size : Int) := by omega
  go_enter Tryz.func6, Tryz.ntmps6
  go_wp2_with fail
  refine HL1.out.mono ?_
  rintro r w1 ⟨⟨b, rfl, hb⟩, rfl⟩
  have HL1b := Lib.hid hb
  clear hb
  cases b with
  | false =>
   go_wp2_with fail
   refine (HAl.out _ F0.out).mono ?_
   rintro r wz ⟨rfl, bz⟩
   go_wp2_with fail
   go_ret
   exact ⟨rfl, bz⟩
  | true =>
   go_wp2_with fail
   refine (HAl.out _ F0.out).mono ?_
   rintro r wz ⟨rfl, bz⟩
   go_wp2_with fail
   go_ret
   exact ⟨rfl, bz⟩
 have h2d : decide ((4100 : Int) < (txt2.size : Int)) = false := decide_eq_false (by omega)
 have h2e : ¬ (4100 : Int) < (txt2.size : Int) := by omega
 by_cases h3 : 4100 < other.size
 ·have hz : decide ((4100 : Int) < (other.size : Int)) = true := decide_eq_true (by omega)
  have hz2 : (4100 : Int) < (other.size : Int) := by omega
  go_enter Tryz.func6, Tryz.ntmps6
  go_wp2_with fail
  refine HL1.out.mono ?_
  rintro r w1 ⟨⟨b, rfl, hb⟩, rfl⟩
  have HL1b := Lib.hid hb
  clear hb
  cases b with
  | false =>
   go_wp2_with fail
   refine (HAl.out _ F0.out).mono ?_
   rintro r wz ⟨rfl, bz⟩
   go_wp2_with fail
   go_ret
   exact ⟨rfl, bz⟩
  | true =>
   go_wp2_with fail
   refine (HAl.out _ F0.out).mono ?_
   rintro r wz ⟨rfl, bz⟩
   go_wp2_with fail
   go_ret
   exact ⟨rfl, bz⟩
 have h3d : decide ((4100 : Int) < (other.size : Int)) = false := decide_eq_false (by omega)
 have h3e : ¬ (4100 : Int) < (other.size : Int) := by omega
 by_cases h4 : 60 < name.size
 ·have hz : decide ((60 : Int) < (name.size : Int)) = true := decide_eq_true (by omega)
  have hz2 : (60 : Int) < (name.size : Int) := by omega
  go_enter Tryz.func6, Tryz.ntmps6
  go_wp2_with fail
  refine HL1.out.mono ?_
  rintro r w1 ⟨⟨b, rfl, hb⟩, rfl⟩
  have HL1b := Lib.hid hb
  clear hb
  cases b with
  | false =>
   go_wp2_with fail
   refine (HAl.out _ F0.out).mono ?_
   rintro r wz ⟨rfl, bz⟩
   go_wp2_with fail
   go_ret
   exact ⟨rfl, bz⟩
  | true =>
   go_wp2_with fail
   refine (HAl.out _ F0.out).mono ?_
   rintro r wz ⟨rfl, bz⟩
   go_wp2_with fail
   go_ret
   exact ⟨rfl, bz⟩
 have h4d : decide ((60 : Int) < (name.size : Int)) = false := decide_eq_false (by omega)
 have h4e : ¬ (60 : Int) < (name.size : Int) := by omega
 have HNw := Lib.hid (ss_new 4000 text (by omega) w HMX.out w.heap.size (Nat.le_refl _))
 go_enter Tryz.func6, Tryz.ntmps6
 go_wp2_with fail
 refine HL1.out.mono ?_
 rintro r w1 ⟨⟨b, rfl, hb⟩, rfl⟩
 have HL1b := Lib.hid hb
 clear hb
 cases b with
 | false =>
  go_wp2_with fail
  refine (HAl.out _ F0.out).mono ?_
  rintro r wz ⟨rfl, bz⟩
  go_wp2_with fail
  go_ret
  exact ⟨rfl, bz⟩
 | true =>
  have hn60 : n ≤ 60 := (HL1b.out (by trivial)).1
  have HT1 : Hid (∀ o ∈ l, o.text.size ≤ 4100) := fun o ho => ((HL1b.out (by trivial)).2 o ho).2
  clear HL1 HL1b
  obtain ⟨E, hE⟩ : ∃ v, stNewE 4000 (readV text) = v := ⟨_, rfl⟩
  rw [hE] at HNw
  clear hE
  by_cases he0 : E = 0
  ·subst he0
   go_wp2_with fail
   refine HNw.out.mono ?_
   rintro r w1 ⟨⟨h1, _⟩, b1⟩
   obtain ⟨g, rfl, hs1⟩ := h1 (by trivial)
   obtain ⟨Q, hQ⟩ : ∃ v, stNewQ 4000 (readV text) = v := ⟨_, rfl⟩
   rw [hQ] at hs1
   have HR1 := Lib.hid (ss_run (w0 := w) hs1 (i := 0) rfl b1 (Nat.le_refl _) l A n c Hr.out Hok.out HT1.out (by omega) (by omega) HMX.out)
   have B1 := Lib.hid b1
   clear h1 b1 hs1 hQ HNw
   go_wp2_with fail
   refine HR1.out.mono ?_
   rintro r w2 ⟨rfl, h2, b2⟩
   obtain ⟨Qn, hQn⟩ : ∃ v, stRun Q l = v := ⟨_, rfl⟩
   rw [hQn] at h2
   have h2 : Sts w2 w.heap.size [(g, Qn)] (0 + 8 * n) := h2
   have B2 := Lib.hid (B1.out.trans b2)
   have HA2 := Lib.hid (ss_abort h2 (i := 0) rfl)
   clear h2 b2 hQn HR1 B1
   go_wp2_with fail
   refine HA2.out.mono ?_
   rintro r w3 ⟨rfl, h3, b3⟩
   obtain ⟨Qa, hQa⟩ : ∃ v, stAbort Qn = v := ⟨_, rfl⟩
   rw [hQa] at h3
   have h3 : Sts w3 w.heap.size [(g, Qa)] (0 + 8 * n) := h3
   have B3 := Lib.hid (B2.out.trans b3)
   have HG4 := Lib.hid (ss_change h3 (i := 0) rfl (by omega) txt2 (by omega) (HMX.out.below B3.out))
   clear h3 b3 HA2 B2 hQa
   have HGo : Hid (∀ W d, Sts W w.heap.size [(g, stChange Qa (readV txt2))] d → StGood (stChange Qa (readV txt2)) d) := fun W d h => h.good (i := 0) rfl
   have HSt : Hid (∀ d, StGood (stChange Qa (readV txt2)) d → stChangeE Qa (readV txt2) = 0 → RmI (stChange Qa (readV txt2)) (readV txt2).2.2 0 ∧ 2 ≤ stepsV (readV txt2).2.2 ∧ stepsV (readV txt2).2.2 ≤ 42) := fun d hg h => ⟨(change_rm hg h).1, (change_rm hg h).2.2.2⟩
   obtain ⟨E2, hE2⟩ : ∃ v, stChangeE Qa (readV txt2) = v := ⟨_, rfl⟩
   obtain ⟨Q1, hQ1⟩ : ∃ v, stChange Qa (readV txt2) = v := ⟨_, rfl⟩
   rw [hE2] at HG4 HSt
   rw [hQ1] at HG4 HSt HGo
   obtain ⟨lt, hlt⟩ : ∃ v, (readV txt2).2.2 = v := ⟨_, rfl⟩
   rw [hlt] at HSt
   clear hE2 hQ1 hlt
   by_cases he2 : E2 = 0
   ·subst he2
    go_wp2_with fail
    refine HG4.out.mono ?_
    rintro r w4 ⟨⟨kk, rfl, hkk⟩, h4, b4⟩
    obtain rfl := hkk (by first | exact .inr rfl | simp)
    have h4 : Sts w4 w.heap.size [(g, Q1)] (0 + 8 * n) := h4
    obtain ⟨hrm, hst2, hst42⟩ := HSt.out _ (HGo.out w4 _ h4) (by trivial)
    have Hrm0 := Lib.hid hrm
    obtain ⟨S, hch, hd0, hSt⟩ := hrm.1 (by omega)
    obtain ⟨st, hstn⟩ : ∃ st : Nat, stepsV lt = (st : Int) := ⟨(stepsV lt).toNat, by omega⟩
    have Hst := Lib.hid hstn
    have hs2 : 2 ≤ st := by omega
    have hs42 : st ≤ 42 := by omega
    have hgd := HGo.out w4 _ h4
    have hsh : ∀ t ∈ S.tiers, t.shards ≤ 8 := fun x hx => (check_mem (hgd.ch S hch).pol.ck hx).2.2.2.2.2
    have h55 := (hgd.ch S hch).pol.five
    have HStp : Hid (∀ W s base, ShAt W s base S → ∃ A c B d, (W.cell? ⟨s, 0, none⟩ = some (.string S.name) ∧ W.cell? ⟨s, 1, none⟩ = some (.slice A S.tiers.length c) ∧ W.cell? ⟨s, 2, none⟩ = some (.slice B S.srcs.length d)) ∧ Calls Tryz.prog 29 #[.agg #[.string S.name, .slice A S.tiers.length c, .slice B S.srcs.length d]] W fun r w' => r = .returned (.int .i64 (st : Int)) ∧ Below W.heap.size W w') := fun W s base h => by
     obtain ⟨A, c, B, d, h0, h1, h2, h3, _⟩ := h.plan
     have := steps_any S.name S.tiers A S.tiers.length c B S.srcs.length d W h3 (by omega) hsh
     rw [hSt, hstn] at this
     rw [hSt] at h1 ⊢
     exact ⟨A, c, B, d, ⟨h0, h1, h2⟩, this⟩
    have hQis : Q1.ch.isSome = true := by rw [hch]; rfl
    have HQis := Lib.hid hQis
    have B4 := Lib.hid (B3.out.trans b4)
    have S4 := Lib.hid h4
    have HC4 := Lib.hid (ss_copy h4 (i := 0) rfl)
    have hl4 := h4.lo_le (i := 0) rfl
    have Hch := Lib.hid hch
    clear hrm hst2 hst42 hd0 hSt hstn hgd hsh h55 h4 b4 hkk HG4 B3 HSt HGo hQis hch
    go_wp2_with fail
    refine HC4.out.mono ?_
    rintro r w5 ⟨⟨gc, rfl, h5⟩, b5⟩
    have h5 : Sts w5 w.heap.size [(g, Q1), (gc, Q1)] (0 + 8 * n) := h5
    have S5 := Lib.hid h5
    have B5 := Lib.hid (B4.out.trans (b5.mono hl4))
    have HK5 := Lib.hid (ss_ask h5 (i := 0) rfl (by omega) name hnm from_ till)
    have HLn : Hid ((pnL Q1.X name from_ till).length ≤ 1099511627776) := by
     have hg := h5.good (i := 0) rfl
     have h : ∀ m ∈ Q1.X.tabs, m.length ≤ 0 + 8 * n := hg.good.len
     show _ ≤ _
     unfold pnL
     split
     ·unfold askL
      refine Nat.le_trans (List.length_filter_le _ _) ?_
      rcases getD_mem_or (L := Q1.X.tabs) (askT Q1.X from_).toNat with h3 | h3
      ·have := h _ h3; omega
      ·rw [h3]; exact Nat.zero_le _
     ·exact Nat.zero_le _
    obtain ⟨X1, hX1⟩ : ∃ v, Q1.X = v := ⟨_, rfl⟩
    have HX1 := Lib.hid hX1
    rw [hX1] at HK5 HLn
    have HKk : Hid (∀ W d Qj, Sts W w.heap.size [(g, Qj), (gc, Q1)] d → d ≤ 1000000 → Qj.X = X1 → Calls Tryz.prog 33 #[.pointer (some ⟨g, 0, none⟩), .string name, .int .i64 from_, .int .i64 till] W fun r w' => (∃ (A : Option Addr) (d : Nat), r = .returned (.tuple #[.agg #[.int .i64 (pnT X1 name from_ till), .slice A (pnL X1 name from_ till).length d], .int .i64 (pnE name from_ till)]) ∧ Rd w' 7 A (pnL X1 name from_ till).length (rcells (pnL X1 name from_ till))) ∧ Below W.heap.size W w') := fun W d Qj h hd hx => by
     have := ss_ask h (i := 0) rfl hd name hnm from_ till
     rw [hx] at this
     refine this.mono ?_
     rintro r w' ⟨⟨A, d, hr, ho⟩, hb⟩
     exact ⟨⟨A, d, hr, Rd.of_own ho⟩, hb⟩
    obtain ⟨PT, hPT⟩ : ∃ v, pnT X1 name from_ till = v := ⟨_, rfl⟩
    obtain ⟨PL, hPL⟩ : ∃ v, pnL X1 name from_ till = v := ⟨_, rfl⟩
    obtain ⟨PE, hPE⟩ : ∃ v, pnE name from_ till = v := ⟨_, rfl⟩
    rw [hPT, hPL, hPE] at HK5 HKk
    rw [hPL] at HLn
    obtain ⟨pl, hpl⟩ : ∃ v, PL.length = v := ⟨_, rfl⟩
    rw [hpl] at HK5 HKk HLn
    have hl5 := h5.lo_le (i := 0) rfl
    clear h5 b5 HC4 B4 S4 hX1 hPT hPL hPE
    go_wp2_with fail
    refine HK5.out.mono ?_
    rintro r w6 ⟨⟨Aa, ca, rfl, ho⟩, b6⟩
    have f7 : Fr (fun _ => False) w6 (w6.alloc (.cells #[.int .i64 PT, .slice Aa pl ca] 71)) := Fr.none_alloc _ _
    have F57 := Lib.hid ((Fr.b0 b6).trans f7 (fun _ h => h.elim))
    have HO := Lib.hid (own_fr0 ho f7)
    have AB := Lib.hid (Blk.new w6 71 #[.int .i64 PT, .slice Aa pl ca])
    have h67 := b6.size
    obtain ⟨ab, hab⟩ : ∃ v, w6.heap.size = v := ⟨_, rfl⟩
    have Hab := Lib.hid hab
    rw [hab] at AB h67
    have B7 := Lib.hid (B5.out.trans (F57.out.below_of hl5 (fun _ h => h.elim)))
    obtain ⟨w7, hw7⟩ : ∃ v, v = w6.alloc (.cells #[.int .i64 PT, .slice Aa pl ca] 71) := ⟨_, rfl⟩
    have Hw7 := Lib.hid hw7
    have h7s : w7.heap.size = w6.heap.size + 1 := by rw [hw7]; simp
    rw [← hw7] at F57 HO AB B7
    have S7 : Hid (StsK w7 w.heap.size (fun j => w5.heap.size ≤ j ∧ j < w7.heap.size) [(g, Q1), (gc, Q1)] (0 + 8 * n)) := StsK.keep S5.out F57.out (fun k hk => hk)
    obtain ⟨K, hK⟩ : ∃ K : Nat → Prop, (fun j => w5.heap.size ≤ j ∧ j < w7.heap.size) = K := ⟨_, rfl⟩
    have HKab : Hid (K ab) := by show K ab; rw [← hK]; exact ⟨by omega, by omega⟩
    have HKr : Hid (∀ j, rowF (.slice Aa pl ca) j → K j) := fun j hj => by rw [← hK]; exact HO.out.lt j hj
    rw [hK] at S7
    have HA7 : Hid (∀ W, Fr (fun j => w.heap.size ≤ j ∧ ¬ K j) w7 W → W.cell? ⟨ab, 0, none⟩ = some (.int .i64 PT) ∧ W.cell? ⟨ab, 1, none⟩ = some (.slice Aa pl ca) ∧ Rd W 7 Aa pl (rcells PL)) := fun W f =>
     ⟨(AB.out.fr f (fun h => h.2 HKab.out)).cell 0, (AB.out.fr f (fun h => h.2 HKab.out)).cell 1, Rd.of_own (own_fr HO.out f (fun j hj h => h.2 (HKr.out j hj)))⟩
    have HG7 := Lib.hid (ssk_change S7.out (i := 0) rfl (by omega) other (by omega) (HMX.out.below B7.out))
    have hpc := pend_change (R := readV other) HQis.out
    rw [hpc.1, hpc.2] at HG7
    have HXs := Lib.hid (fun W (h : StP W g w.heap.size Q1 (0 + 8 * n)) (hg : StGood Q1 (0 + 8 * n)) => sp_shadow hg h)
    clear b6 f7 ho HK5 S5 B5 hpc hab hK
    go_wp2_with fail
    rw [← Hw7.out]
    refine HG7.out.mono ?_
    rintro r w8 ⟨⟨kk, rfl, hkk⟩, h8, b8, f8⟩
    obtain rfl := hkk (.inl HQis.out)
    have h8 : StsK w8 w.heap.size K [(g, Q1), (gc, Q1)] (0 + 8 * n) := h8
    have S8 := Lib.hid h8
    have F8 := Lib.hid f8
    have B8 := Lib.hid (B7.out.trans b8)
    have HX8 := Lib.hid (HXs.out w8 (h8.p (i := 0) rfl) (h8.good (i := 0) rfl))
    have hl8 := h8.lo_le (i := 0) rfl
    clear hkk h8 b8 f8 HG7 S7 B7 HXs h7s h67
    go_wp2_with fail
    refine HX8.out.mono ?_
    rintro r w9 ⟨⟨_, hv⟩, b9⟩
    obtain ⟨s, base, F', rfl, hx, _⟩ := hv S Hch.out
    obtain ⟨pA, pc, pB, pd, ⟨p0, p1, p2⟩, hcl⟩ := HStp.out w9 s base hx.at_
    have Hcl := Lib.hid hcl
    have S9 := Lib.hid (S8.out.fr0 (Fr.b0 b9))
    have F9 := Lib.hid (F8.out.trans ((Fr.b0 b9).mono (fun _ h => h.elim)) (fun i h => .inl h))
    have B9 := Lib.hid (B8.out.trans (b9.mono hl8))
    have hl9 := S9.out.lo_le (i := 0) rfl
    clear hv hx hcl b9 HX8 S8 B8 F8 HStp Hch
    go_wp2_with fail
    refine Hcl.out.mono ?_
    rintro r w10 ⟨rfl, b10⟩
    have S10 := Lib.hid (S9.out.fr0 (Fr.b0 b10))
    have F10 := Lib.hid (F9.out.trans ((Fr.b0 b10).mono (fun _ h => h.elim)) (fun i h => .inl h))
    have B10 := Lib.hid (B9.out.trans (b10.mono hl9))
    clear b10 Hcl S9 B9 F9 p0 p1 p2
    have hpe1 : (PE != PE) = false := by simp
    have hpt1 : (PT != PT) = false := by simp
    go_wp2_with fail
    go_loopw [24] (fun i wr => ∃ (j cj : Nat) (Qj : StX), j + 1 ≤ st ∧ i = .int .i64 ((st : Int) - (j : Int)) ∧ cj ≤ 8 * n + 8 * j ∧ Hid (RmI Qj lt (j : Int) ∧ Qj.X = X1) ∧ StsK wr w.heap.size K [(g, Qj), (gc, Q1)] cj ∧ Fr (fun j => w.heap.size ≤ j ∧ ¬ K j) w7 wr ∧ Below w.heap.size w wr) (fun i _ => (intOf i).toNat)
    case atStart => exact ⟨0, 0 + 8 * n, Q1, by omega, by simp, by omega, ⟨Hrm0.out, HX1.out⟩, S10.out, F10.out, B10.out⟩
    case round =>
     obtain ⟨j, cj, Qj, hj, rfl, hcj, hq, hs, hf, hb⟩ := hrel
     have Hq := hq
     have Hs := Lib.hid hs
     have Hf := Lib.hid hf
     have Hb := Lib.hid hb
     clear hq hs hf hb
     by_cases hj2 : j + 1 < st
     ·have hd2 : decide ((1 : Int) < (st : Int) - (j : Int)) = true := decide_eq_true (by omega)
      have hd3 : (1 : Int) < (st : Int) - (j : Int) := by omega
      have hkw : IntKind.i64.wrap ((st : Int) - (j : Int) - 1) = (st : Int) - (j : Int) - 1 := by simp [IntKind.wrap, IntKind.signed, IntKind.bits]; omega
      have hst := Hq.out.1.step (by rw [Hst.out]; omega)
      have hkp := Hq.out.1.keep (by rw [Hst.out]; omega)
      have HSp : Hid (Calls Tryz.prog 23 #[.pointer (some ⟨g, 0, none⟩)] wr fun r w' => (∃ a b c, r = .returned (.tuple #[.agg #[.int .i64 a, .int .i64 b, .int .i64 c], .int .i64 0])) ∧ StsK w' w.heap.size K [(g, stStep Qj), (gc, Q1)] (cj + 8) ∧ Below w.heap.size wr w' ∧ Fr (fun j => w.heap.size ≤ j ∧ ¬ K j) wr w') := by
       refine (ssk_step Hs.out (i := 0) rfl (by omega)).mono ?_
       rintro r w' ⟨hr, h1, h2, h3⟩
       rw [hst.2] at hr
       exact ⟨⟨_, _, _, hr⟩, h1, h2, h3⟩
      have Hq6 : Hid (RmI (stStep Qj) lt ((j : Int) + 1) ∧ (stStep Qj).X = X1) := ⟨hst.1, hkp.1.trans Hq.out.2⟩
      obtain ⟨Q6, hQ6⟩ : ∃ v, stStep Qj = v := ⟨_, rfl⟩
      rw [hQ6] at HSp Hq6
      clear hst hkp hQ6
      go_wp2_with fail
      refine HSp.out.mono ?_
      rintro r w6' ⟨⟨a, b, c', rfl⟩, h6, b6, f6⟩
      have f7 : Fr (fun _ => False) w6' (w6'.alloc (.cells #[.int .i64 a, .int .i64 b, .int .i64 c'] 54)) := Fr.none_alloc _ _
      have S7 := Lib.hid (h6.fr0 f7)
      have hlo6 := h6.lo_le (i := 0) rfl
      have B7 := Lib.hid (Hb.out.trans (b6.trans (f7.below_of hlo6 (fun _ h => h.elim))))
      have F7 := Lib.hid ((Hf.out.trans f6 (fun i h => .inl h)).trans f7 (fun _ h => h.elim))
      have HK7 := Lib.hid (HKk.out _ (cj + 8) Q6 S7.out.drop_ (by omega) Hq6.out.2)
      have hlo7 := S7.out.lo_le (i := 0) rfl
      clear h6 b6 f6 f7 HSp Hs Hf Hb
      go_wp2_with fail
      refine HK7.out.mono ?_
      rintro r w8' ⟨⟨Ab, cb, rfl, rb⟩, b8⟩
      have f9 : Fr (fun _ => False) w8' (w8'.alloc (.cells #[.int .i64 PT, .slice Ab pl cb] 71)) := Fr.none_alloc _ _
      have X9 := Lib.hid (Blk.new w8' 71 #[.int .i64 PT, .slice Ab pl cb])
      have R9 := Lib.hid (rb.fr0 f9)
      have S9 := Lib.hid ((S7.out.fr0 (Fr.b0 b8)).fr0 f9)
      have F9 := Lib.hid ((F7.out.trans (Fr.b0 b8) (fun _ h => h.elim)).trans f9 (fun _ h => h.elim))
      have hs8 := b8.size
      have B9 := Lib.hid (B7.out.trans ((b8.mono hlo7).trans (f9.below_of (by omega) (fun _ h => h.elim))))
      obtain ⟨y0, y1, ra⟩ := HA7.out _ F9.out
      rw [← Hab.out] at y0 y1
      have z0 := X9.out.cell 0
      have z1 := X9.out.cell 1
      simp only [List.getElem?_toArray, List.getElem?_cons_succ, List.getElem?_cons_zero] at z0 z1
      have HSm := Lib.hid (samerecs_any PL PL Aa pl ca Ab pl cb _ ra R9.out HLn.out HLn.out)
      rw [decide_eq_true (show PL = PL from rfl)] at HSm
      have hlo9 := S9.out.lo_le (i := 0) rfl
      clear rb b8 f9 HK7 S7 F7 B7 ra hs8
      go_wp2_with fail
      refine HSm.out.mono ?_
      rintro r w10' ⟨rfl, b10⟩
      have S10 := Lib.hid (S9.out.fr0 (Fr.b0 b10))
      have F10 := Lib.hid (F9.out.trans (Fr.b0 b10) (fun _ h => h.elim))
      have B10 := Lib.hid (B9.out.trans (b10.mono hlo9))
      clear b10 HSm S9 F9 B9 y0 y1 z0 z1
      go_wp2_with fail
      go_roundw
      case rel => exact ⟨j + 1, cj + 8, Q6, by omega, by first | go_num | (simp; omega), by omega, ⟨(by rw [show ((j + 1 : Nat) : Int) = (j : Int) + 1 by omega]; exact Hq6.out.1), Hq6.out.2⟩, S10.out, F10.out, B10.out⟩
      case measure => simp [intOf]; omega
     ·obtain rfl : st = j + 1 := by omega
      have hd2 : decide ((1 : Int) < ((j + 1 : Nat) : Int) - (j : Int)) = false := decide_eq_false (by omega)
      have hd3 : ¬ (1 : Int) < ((j + 1 : Nat) : Int) - (j : Int) := by omega
      have hcut := Hq.out.1.cut (Hs.out.good (i := 0) rfl) (by rw [Hst.out]; omega)
      have HSp : Hid (Calls Tryz.prog 23 #[.pointer (some ⟨g, 0, none⟩)] wr fun r w' => (∃ b c, r = .returned (.tuple #[.agg #[.int .i64 3, .int .i64 b, .int .i64 c], .int .i64 0])) ∧ Sts w' w.heap.size [(g, stStep Qj), (gc, Q1)] (cj + 8) ∧ Below w.heap.size wr w') := by
       refine (ss_step Hs.out.drop_ (i := 0) rfl (by omega)).mono ?_
       rintro r w' ⟨hr, h1, h2⟩
       unfold stepVal at hr
       rw [hcut.1, hcut.2.1] at hr
       exact ⟨⟨_, _, hr⟩, h1, h2⟩
      have hoff : (stStep Qj).ch.isSome = false := by rw [hcut.2.2]; rfl
      have hns := pend_same (C := Q1) hcut.2.2 HQis.out
      obtain ⟨Q6, hQ6⟩ : ∃ v, stStep Qj = v := ⟨_, rfl⟩
      rw [hQ6] at HSp hoff hns
      clear hcut hQ6
      go_wp2_with fail
      refine HSp.out.mono ?_
      rintro r w6' ⟨⟨b, c', rfl⟩, h6, b6⟩
      have f7 : Fr (fun _ => False) w6' (w6'.alloc (.cells #[.int .i64 3, .int .i64 b, .int .i64 c'] 54)) := Fr.none_alloc _ _
      have X7 := Lib.hid (Blk.new w6' 54 #[.int .i64 3, .int .i64 b, .int .i64 c'])
      have S7 := Lib.hid (h6.fr0 f7)
      have hlo6 := h6.lo_le (i := 0) rfl
      have B7 := Lib.hid (Hb.out.trans (b6.trans (f7.below_of hlo6 (fun _ h => h.elim))))
      clear h6 b6 f7 HSp Hs Hf Hb
      go_wp2_with fail
      refine (HAl.out _ (Fr.b0 B7.out)).mono ?_
      rintro r w8' ⟨rfl, b8⟩
      have S8 := Lib.hid (S7.out.fr0 (Fr.b0 b8))
      have B8 := Lib.hid (B7.out.trans (b8.mono B7.out.size))
      have z0 := (X7.out.below b8).cell 0
      simp only [List.getElem?_toArray, List.getElem?_cons_zero] at z0
      have HP8 := Lib.hid (sp_pend (S8.out.p (i := 0) rfl))
      rw [hoff] at HP8
      have HS8 := Lib.hid (ss_same S8.out (i := 0) (j := 1) rfl rfl (by omega))
      rw [hns] at HS8
      have hl8 := S8.out.lo_le (i := 0) rfl
      clear b8 S7 B7 hoff hns
      go_wp2_with fail
      refine HP8.out.mono ?_
      rintro r w9' ⟨rfl, rfl⟩
      go_wp2_with fail
      refine HS8.out.mono ?_
      rintro r w10' ⟨rfl, b10⟩
      have B10 := Lib.hid (B8.out.trans (b10.mono hl8))
      clear b10
      go_wp2_with fail
      go_ret
      exact ⟨by first | rfl | simp, B10.out⟩
   ·have he3 : (E2 != 0) = true := by simpa using he2
    go_wp2_with fail
    refine HG4.out.mono ?_
    rintro r w5 ⟨⟨kk, rfl, _⟩, h5, b5⟩
    have B5 := Lib.hid (B3.out.trans b5)
    clear h5 b5 HG4 B3 HSt HGo
    go_wp2_with fail
    refine (HAl.out w5 (Fr.b0 B5.out)).mono ?_
    rintro r wz ⟨rfl, bz⟩
    have Bz := Lib.hid (B5.out.trans (bz.mono B5.out.size))
    go_wp2_with fail
    go_ret
    exact ⟨rfl, Bz.out⟩
  ·have he1 : (E != 0) = true := by simpa using he0
   go_wp2_with fail
   refine HNw.out.mono ?_
   rintro r w1 ⟨⟨_, h1⟩, b1⟩
   obtain rfl := h1 he0
   have B1 := Lib.hid b1
   clear h1 b1 HNw
   go_wp2_with fail
   refine (HAl.out w1 (Fr.b0 B1.out)).mono ?_
   rintro r wz ⟨rfl, bz⟩
   have Bz := Lib.hid (B1.out.trans (bz.mono B1.out.size))
   go_wp2_with fail
   go_ret
   exact ⟨rfl, Bz.out⟩
end Go.Proofs.YtkfdgodngbinlaaGreatDoor
