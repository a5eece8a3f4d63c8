/- StateAborts' walk. -/
import Derived.Test.YtkfdgodngbinlaaGreatDoorStsRun
import Derived.Test.YtkfdgodngbinlaaGreatDoorStSame
import Derived.Test.YtkfdgodngbinlaaGreatDoorStSh
import Derived.Test.YtkfdgodngbinlaaGreatDoorStAb
import Derived.Test.YtkfdgodngbinlaaGreatDoorAlive15
namespace Go.Proofs.YtkfdgodngbinlaaGreatDoor
set_option linter.all false
open Go.RowKit

theorem Rd.opS1 {w : World} {n k : Nat} {ad : Addr} {l : List OpS} {o : OpS} (h : Rd w 4 (some ad) n (opscells l)) (ho : l[k]? = some o) : Rd w 4 (some (ad.add (k * 4))) 1 (opscells [o]) := by
 have hk : k < n := by have := h.opsS_len; have := (List.getElem?_eq_some_iff.1 ho).1; omega
 obtain ⟨ad', s, e, hr, hc⟩ := Rd.elem opS_cells h hk (by decide)
 cases e
 rw [ho] at hr
 cases hr
 refine ⟨rfl, fun _ => ⟨_, rfl, fun j u hu => hc j u ?_⟩⟩
 rw [← hu]
 show _ = (o.cells ++ [])[j]?
 rw [List.append_nil]
set_option maxRecDepth 100000 in
set_option maxHeartbeats 8000000 in
theorem staborts_walk (text txt2 : ByteArray) (l : List OpS) (A : Option Addr) (n c : Nat) (steps : Int) (lm : List OpS) (B : Option Addr) (m d : Nat) (w : World) (htx : text.size ≤ maxLen) (hto : txt2.size ≤ maxLen) (hr : Rd w 4 A n (opscells l)) (hok : ∀ o ∈ l, o.ok w) (hn : n ≤ 9223372036854775807) (hrm : Rd w 4 B m (opscells lm)) (hokm : ∀ o ∈ lm, o.ok w) (hm : m ≤ 9223372036854775807) (hmd : m ≤ d) (hmx : MaxL w) :
  Calls Tryz.prog 7 #[.string text, .string txt2, .slice A n c, .int .i64 steps, .slice B m d] w fun e w' => e = .returned (.bool true) ∧ Below w.heap.size w w' := by
 have HAl : Hid (∀ W, Fr (fun _ => False) w W → Calls Tryz.prog 11 #[] W fun r w' => r = .returned (.bool true) ∧ Below W.heap.size W w') := fun W f => alive15_any W (hmx.fr f (fun h => h))
 have HL1 := Lib.hid (light15_any l A n c w hr hok hn)
 have HL2 := Lib.hid (light15_any lm B m d w hrm hokm hm)
 have Hr := Lib.hid hr
 have Hok := Lib.hid hok
 have Hrm := Lib.hid hrm
 have Hokm := Lib.hid hokm
 have Hmd := Lib.hid hmd
 have HMX := Lib.hid hmx
 have F0 := Lib.hid (Fr.refl (fun _ => False) w)
 have htx2 : text.size ≤ 9223372036854775807 := by unfold maxLen at htx; omega
 have hto2 : txt2.size ≤ 9223372036854775807 := by unfold maxLen at hto; omega
 clear hr hok hrm hokm hmx
 by_cases h41 : 4100 < text.size
 ·have hd : decide ((4100 : Int) < (text.size : Int)) = true := decide_eq_true (by omega)
  have hd2 : (4100 : Int) < (text.size : Int) := by omega
  go_enter Tryz.func7, Tryz.ntmps7
  go_wp2_with fail
  refine HL1.out.mono ?_
  rintro r w1 ⟨⟨b, rfl, hb⟩, rfl⟩
  have HL1b := Lib.hid hb
  clear hb
  cases b with
  | false =>
   go_wp2_with fail
   refine (HAl.out _ F0.out).mono ?_
   rintro r wz ⟨rfl, bz⟩
   go_wp2_with fail
   go_ret
   exact ⟨rfl, bz⟩
  | true =>
   go_wp2_with fail
   refine HL2.out.mono ?_
   rintro r w1 ⟨⟨b, rfl, hb⟩, rfl⟩
   have HL2b := Lib.hid hb
   clear hb
   cases b with
   | false =>
    go_wp2_with fail
    refine (HAl.out _ F0.out).mono ?_
    rintro r wz ⟨rfl, bz⟩
    go_wp2_with fail
    go_ret
    exact ⟨rfl, bz⟩
   | true =>
    go_wp2_with fail
    refine (HAl.out _ F0.out).mono ?_
    rintro r wz ⟨rfl, bz⟩
    go_wp2_with fail
    go_ret
    exact ⟨rfl, bz⟩
 have hd : decide ((4100 : Int) < (text.size : Int)) = false := decide_eq_false (by omega)
 have hd2 : ¬ (4100 : Int) < (text.size : Int) := by omega
 by_cases h42 : 4100 < txt2.size
 ·have he : decide ((4100 : Int) < (txt2.size : Int)) = true := decide_eq_true (by omega)
  have he2 : (4100 : Int) < (txt2.size : Int) := by omega
  go_enter Tryz.func7, Tryz.ntmps7
  go_wp2_with fail
  refine HL1.out.mono ?_
  rintro r w1 ⟨⟨b, rfl, hb⟩, rfl⟩
  have HL1b := Lib.hid hb
  clear hb
  cases b with
  | false =>
   go_wp2_with fail
   refine (HAl.out _ F0.out).mono ?_
   rintro r wz ⟨rfl, bz⟩
   go_wp2_with fail
   go_ret
   exact ⟨rfl, bz⟩
  | true =>
   go_wp2_with fail
   refine HL2.out.mono ?_
   rintro r w1 ⟨⟨b, rfl, hb⟩, rfl⟩
   have HL2b := Lib.hid hb
   clear hb
   cases b with
   | false =>
    go_wp2_with fail
    refine (HAl.out _ F0.out).mono ?_
    rintro r wz ⟨rfl, bz⟩
    go_wp2_with fail
    go_ret
    exact ⟨rfl, bz⟩
   | true =>
    go_wp2_with fail
    refine (HAl.out _ F0.out).mono ?_
    rintro r wz ⟨rfl, bz⟩
    go_wp2_with fail
    go_ret
    exact ⟨rfl, bz⟩
 have he : decide ((4100 : Int) < (txt2.size : Int)) = false := decide_eq_false (by omega)
 have he2 : ¬ (4100 : Int) < (txt2.size : Int) := by omega
 by_cases h43 : steps < 0
 ·have hf : decide (steps < 0) = true := decide_eq_true h43
  go_enter Tryz.func7, Tryz.ntmps7
  go_wp2_with fail
  refine HL1.out.mono ?_
  rintro r w1 ⟨⟨b, rfl, hb⟩, rfl⟩
  have HL1b := Lib.hid hb
  clear hb
  cases b with
  | false =>
   go_wp2_with fail
   refine (HAl.out _ F0.out).mono ?_
   rintro r wz ⟨rfl, bz⟩
   go_wp2_with fail
   go_ret
   exact ⟨rfl, bz⟩
  | true =>
   go_wp2_with fail
   refine HL2.out.mono ?_
   rintro r w1 ⟨⟨b, rfl, hb⟩, rfl⟩
   have HL2b := Lib.hid hb
   clear hb
   cases b with
   | false =>
    go_wp2_with fail
    refine (HAl.out _ F0.out).mono ?_
    rintro r wz ⟨rfl, bz⟩
    go_wp2_with fail
    go_ret
    exact ⟨rfl, bz⟩
   | true =>
    go_wp2_with fail
    refine (HAl.out _ F0.out).mono ?_
    rintro r wz ⟨rfl, bz⟩
    go_wp2_with fail
    go_ret
    exact ⟨rfl, bz⟩
 have hf : decide (steps < 0) = false := decide_eq_false h43
 by_cases h44 : 40 < steps
 ·have hg : decide (40 < steps) = true := decide_eq_true h44
  go_enter Tryz.func7, Tryz.ntmps7
  go_wp2_with fail
  refine HL1.out.mono ?_
  rintro r w1 ⟨⟨b, rfl, hb⟩, rfl⟩
  have HL1b := Lib.hid hb
  clear hb
  cases b with
  | false =>
   go_wp2_with fail
   refine (HAl.out _ F0.out).mono ?_
   rintro r wz ⟨rfl, bz⟩
   go_wp2_with fail
   go_ret
   exact ⟨rfl, bz⟩
  | true =>
   go_wp2_with fail
   refine HL2.out.mono ?_
   rintro r w1 ⟨⟨b, rfl, hb⟩, rfl⟩
   have HL2b := Lib.hid hb
   clear hb
   cases b with
   | false =>
    go_wp2_with fail
    refine (HAl.out _ F0.out).mono ?_
    rintro r wz ⟨rfl, bz⟩
    go_wp2_with fail
    go_ret
    exact ⟨rfl, bz⟩
   | true =>
    go_wp2_with fail
    refine (HAl.out _ F0.out).mono ?_
    rintro r wz ⟨rfl, bz⟩
    go_wp2_with fail
    go_ret
    exact ⟨rfl, bz⟩
 have hg : decide (40 < steps) = false := decide_eq_false h44
 have HNw := Lib.hid (ss_new 4000 text (by omega) w HMX.out w.heap.size (Nat.le_refl _))
 go_enter Tryz.func7, Tryz.ntmps7
 go_wp2_with fail
 refine HL1.out.mono ?_
 rintro r w1 ⟨⟨b, rfl, hb⟩, rfl⟩
 have HL1b := Lib.hid hb
 clear hb
 cases b with
 | false =>
  go_wp2_with fail
  refine (HAl.out _ F0.out).mono ?_
  rintro r wz ⟨rfl, bz⟩
  go_wp2_with fail
  go_ret
  exact ⟨rfl, bz⟩
 | true =>
  go_wp2_with fail
  refine HL2.out.mono ?_
  rintro r w1 ⟨⟨b, rfl, hb⟩, rfl⟩
  have HL2b := Lib.hid hb
  clear hb
  cases b with
  | false =>
   go_wp2_with fail
   refine (HAl.out _ F0.out).mono ?_
   rintro r wz ⟨rfl, bz⟩
   go_wp2_with fail
   go_ret
   exact ⟨rfl, bz⟩
  | true =>
   have hn60 : n ≤ 60 := (HL1b.out (by trivial)).1
   have hm60 : m ≤ 60 := (HL2b.out (by trivial)).1
   have HT1 : Hid (∀ o ∈ l, o.text.size ≤ 4100) := fun o ho => ((HL1b.out (by trivial)).2 o ho).2
   have HT2 : Hid (∀ o ∈ lm, o.text.size ≤ 4100) := fun o ho => ((HL2b.out (by trivial)).2 o ho).2
   clear HL1 HL2 HL1b HL2b
   obtain ⟨E, hE⟩ : ∃ v, stNewE 4000 (readV text) = v := ⟨_, rfl⟩
   rw [hE] at HNw
   clear hE
   by_cases he : E = 0
   ·subst he
    go_wp2_with fail
    refine HNw.out.mono ?_
    rintro r w1 ⟨⟨h1, _⟩, b1⟩
    obtain ⟨g, rfl, hs1⟩ := h1 (by trivial)
    obtain ⟨Q, hQ⟩ : ∃ v, stNewQ 4000 (readV text) = v := ⟨_, rfl⟩
    rw [hQ] at hs1
    have HR1 := Lib.hid (ss_run (w0 := w) hs1 (i := 0) rfl b1 (Nat.le_refl _) l A n c Hr.out Hok.out HT1.out (by omega) (by omega) HMX.out)
    have B1 := Lib.hid b1
    clear h1 b1 hs1 hQ HNw
    go_wp2_with fail
    refine HR1.out.mono ?_
    rintro r w2 ⟨rfl, h2, b2⟩
    obtain ⟨Qn, hQn⟩ : ∃ v, stRun Q l = v := ⟨_, rfl⟩
    rw [hQn] at h2
    have h2 : Sts w2 w.heap.size [(g, Qn)] (0 + 8 * n) := h2
    have B2 := Lib.hid (B1.out.trans b2)
    have HA2 := Lib.hid (ss_abort h2 (i := 0) rfl)
    clear h2 b2 hQn HR1 B1
    go_wp2_with fail
    refine HA2.out.mono ?_
    rintro r w3 ⟨rfl, h3, b3⟩
    obtain ⟨Qa, hQa⟩ : ∃ v, stAbort Qn = v := ⟨_, rfl⟩
    rw [hQa] at h3
    have h3 : Sts w3 w.heap.size [(g, Qa)] (0 + 8 * n) := h3
    have B3 := Lib.hid (B2.out.trans b3)
    have hl3 := h3.lo_le (i := 0) rfl
    have HC3 := Lib.hid (ss_copy h3 (i := 0) rfl)
    clear h3 b3 HA2 B2 hQa
    go_wp2_with fail
    refine HC3.out.mono ?_
    rintro r w4 ⟨⟨gc, rfl, h4⟩, b4⟩
    have h4 : Sts w4 w.heap.size [(g, Qa), (gc, Qa)] (0 + 8 * n) := h4
    have B4 := Lib.hid (B3.out.trans (b4.mono hl3))
    have HG4 := Lib.hid (ss_change h4 (i := 0) rfl (by omega) txt2 (by omega) (HMX.out.below B4.out))
    clear h4 b4 HC3 B3
    have HGo : Hid (∀ W d, Sts W w.heap.size [(g, stChange Qa (readV txt2)), (gc, Qa)] d → StGood (stChange Qa (readV txt2)) d) := fun W d h => h.good (i := 0) rfl
    have HSt : Hid (∀ d, StGood (stChange Qa (readV txt2)) d → stChangeE Qa (readV txt2) = 0 → AbI (stChange Qa (readV txt2)) Qa (readV txt2).2.2 0 ∧ 2 ≤ stepsV (readV txt2).2.2 ∧ stepsV (readV txt2).2.2 ≤ 42) := fun d hg h => ⟨AbI.start hg h, (change_rm hg h).2.2.2⟩
    have HBad : Hid (stChangeE Qa (readV txt2) ≠ 0 → stChange Qa (readV txt2) = Qa) := fun h => change_bad h
    obtain ⟨E2, hE2⟩ : ∃ v, stChangeE Qa (readV txt2) = v := ⟨_, rfl⟩
    obtain ⟨Q1, hQ1⟩ : ∃ v, stChange Qa (readV txt2) = v := ⟨_, rfl⟩
    rw [hE2] at HG4 HSt HBad
    rw [hQ1] at HG4 HSt HGo HBad
    obtain ⟨lt, hlt⟩ : ∃ v, (readV txt2).2.2 = v := ⟨_, rfl⟩
    rw [hlt] at HSt
    clear hE2 hQ1 hlt
    by_cases he2 : E2 = 0
    ·subst he2
     go_wp2_with fail
     refine HG4.out.mono ?_
     rintro r w5 ⟨⟨kk, rfl, hkk⟩, h5, b5⟩
     obtain rfl := hkk (by first | exact .inr rfl | simp)
     have h5 : Sts w5 w.heap.size [(g, Q1), (gc, Qa)] (0 + 8 * n) := h5
     obtain ⟨hab, hst2, hst42⟩ := HSt.out _ (HGo.out w5 _ h5) (by trivial)
     have Hab0 := Lib.hid hab
     obtain ⟨S, hch, hd0, hSt⟩ := hab.rm.1 (by omega)
     obtain ⟨st, hstn⟩ : ∃ st : Nat, stepsV lt = (st : Int) := ⟨(stepsV lt).toNat, by omega⟩
     have Hst := Lib.hid hstn
     have hs2 : 2 ≤ st := by omega
     have hs42 : st ≤ 42 := by omega
     have hgd := HGo.out w5 _ h5
     have hsh : ∀ t ∈ S.tiers, t.shards ≤ 8 := fun x hx => (check_mem (hgd.ch S hch).pol.ck hx).2.2.2.2.2
     have h55 := (hgd.ch S hch).pol.five
     have HStp : Hid (∀ W s base, ShAt W s base S → ∃ A c B d, (W.cell? ⟨s, 0, none⟩ = some (.string S.name) ∧ W.cell? ⟨s, 1, none⟩ = some (.slice A S.tiers.length c) ∧ W.cell? ⟨s, 2, none⟩ = some (.slice B S.srcs.length d)) ∧ Calls Tryz.prog 29 #[.agg #[.string S.name, .slice A S.tiers.length c, .slice B S.srcs.length d]] W fun r w' => r = .returned (.int .i64 (st : Int)) ∧ Below W.heap.size W w') := fun W s base h => by
      obtain ⟨A, c, B, d, h0, h1, h2, h3, _⟩ := h.plan
      have := steps_any S.name S.tiers A S.tiers.length c B S.srcs.length d W h3 (by omega) hsh
      rw [hSt, hstn] at this
      rw [hSt] at h1 ⊢
      exact ⟨A, c, B, d, ⟨h0, h1, h2⟩, this⟩
     have B5 := Lib.hid (B4.out.trans b5)
     have S5 := Lib.hid h5
     have HX5 := Lib.hid (sp_shadow hgd (h5.p (i := 0) rfl))
     have hl5 := h5.lo_le (i := 0) rfl
     clear hab hst2 hst42 hd0 hSt hstn hgd hsh h55 h5 b5 hkk HG4 B4 HSt HGo HBad
     go_wp2_with fail
     refine HX5.out.mono ?_
     rintro r w6 ⟨⟨_, hv⟩, b6⟩
     obtain ⟨s, base, F', rfl, hx, _⟩ := hv S hch
     obtain ⟨pA, pc, pB, pd, ⟨p0, p1, p2⟩, hcl⟩ := HStp.out w6 s base hx.at_
     have Hcl := Lib.hid hcl
     have S6 := Lib.hid (S5.out.fr0 (Fr.b0 b6))
     have B6 := Lib.hid (B5.out.trans (b6.mono hl5))
     have hl6 := S6.out.lo_le (i := 0) rfl
     clear hv hx hcl b6 HX5 S5 B5 hch HStp
     go_wp2_with fail
     refine Hcl.out.mono ?_
     rintro r w7 ⟨rfl, b7⟩
     have S7 := Lib.hid (S6.out.fr0 (Fr.b0 b7))
     have B7 := Lib.hid (B6.out.trans (b7.mono hl6))
     have hw1 : IntKind.i64.wrap ((st : Int) - 1) = (st : Int) - 1 := by simp [IntKind.wrap, IntKind.signed, IntKind.bits]; omega
     clear b7 Hcl S6 B6 p0 p1 p2
     go_wp2_with fail
     go_loopw [17] (fun i wr => ∃ (k ck : Nat) (Qk Ck : StX), (k : Int) ≤ steps ∧ k + 1 ≤ st ∧ i = .int .i64 (k : Int) ∧ ck ≤ 8 * n + 24 * k ∧ Hid (AbI Qk Ck lt (k : Int)) ∧ Sts wr w.heap.size [(g, Qk), (gc, Ck)] ck ∧ Below w.heap.size w wr) (fun i _ => 41 - (intOf i).toNat)
     case atStart => exact ⟨0, 0 + 8 * n, Q1, Qa, by omega, by omega, rfl, by omega, Hab0.out, S7.out, B7.out⟩
     case round =>
      obtain ⟨k, ck, Qk, Ck, hks, hk1, rfl, hck, hab, hs, hb⟩ := hrel
      have Hab := hab
      have Hs := Lib.hid hs
      have Hb := Lib.hid hb
      clear hab hs hb
      have hkw : IntKind.i64.wrap ((k : Int) + 1) = (k : Int) + 1 := by simp [IntKind.wrap, IntKind.signed, IntKind.bits]; omega
      by_cases hk2 : (k : Int) < steps
      ·have hdk : decide ((k : Int) < steps) = true := decide_eq_true hk2
       by_cases hk3 : k + 1 < st
       ·have hdk3 : decide ((k : Int) < (st : Int) - 1) = true := decide_eq_true (by omega)
        have hk4 : (k : Int) < (st : Int) - 1 := by omega
        by_cases hkm : k < m
        ·have hdm : decide ((k : Int) < (m : Int)) = true := decide_eq_true (by omega)
         have hdm2 : (k : Int) < (m : Int) := by omega
         obtain ⟨ad, o, rfl, ho, a0, a1, a2, a3⟩ := (Hrm.out.below Hb.out).opS hkm
         have hom := mem_of_get ho
         have Hrs := Lib.hid (Rd.opS1 Hrm.out ho)
         have HOo : Hid (∀ x ∈ [o], x.ok w ∧ x.text.size ≤ 4100) := fun x hx => by
          rw [List.mem_singleton] at hx
          rw [hx]
          exact ⟨Hokm.out o hom, HT2.out o hom⟩
         clear ho hom
         by_cases hkd : o.kind ≤ 2
         ·have hdd : decide (o.kind ≤ 2) = true := decide_eq_true hkd
          have HCp := Lib.hid (ss_copy Hs.out (i := 0) rfl)
          have hgk := Hs.out.good (i := 0) rfl
          obtain ⟨hyes, hno⟩ := Hab.out.op hgk o hkd
          have HYes := Lib.hid hyes
          have HNo := Lib.hid hno
          have hlr := Hs.out.lo_le (i := 0) rfl
          have hmc : m ≤ d := Hmd.out
          have hkc1 : IntKind.i64.wrap ((k : Int) + 1) = (k : Int) + 1 := hkw
          clear hyes hno hgk
          go_wp2_with fail
          refine HCp.out.mono ?_
          rintro r w2 ⟨⟨gw, rfl, h2⟩, b2⟩
          have h2 : Sts w2 w.heap.size [(g, Qk), (gc, Ck), (gw, Qk)] ck := h2
          have B2 := Lib.hid (Hb.out.trans (b2.mono hlr))
          have S2 := Lib.hid h2
          have HR2 := Lib.hid (fun d' => ss_run (w0 := w) S2.out (i := 0) rfl B2.out (Nat.le_refl _) [o] (some (ad.add (k * 4))) 1 d' Hrs.out (fun x hx => (HOo.out x hx).1) (fun x hx => (HOo.out x hx).2) (by omega) (by omega) HMX.out)
          have eop : stRun Qk [o] = stOp Qk o := rfl
          have eop2 : stRun Ck [o] = stOp Ck o := rfl
          rw [eop] at HR2
          obtain ⟨Qp, hQp⟩ : ∃ v, stOp Qk o = v := ⟨_, rfl⟩
          rw [hQp] at HR2 HYes HNo
          clear h2 b2 HCp eop hQp a0 a1 a2 a3 Hs Hb
          go_wp2_with fail
          refine (HR2.out _).mono ?_
          rintro r w3 ⟨rfl, h3, b3⟩
          have h3 : Sts w3 w.heap.size [(g, Qp), (gc, Ck), (gw, Qk)] (ck + 8 * 1) := h3
          have B3 := Lib.hid (B2.out.trans b3)
          have S3 := Lib.hid h3
          have HT3 := Lib.hid (ss_tiers h3 (i := 0) rfl)
          have hl3 := h3.lo_le (i := 0) rfl
          have hp3 := (h3.good (i := 0) rfl).pol
          have hp4 := (h3.good (i := 2) rfl).pol
          clear h3 b3 HR2 B2 S2
          go_wp2_with fail
          refine HT3.out.mono ?_
          rintro r w4 ⟨⟨t3, F3, rfl, t4⟩, b4⟩
          have T4 := Lib.hid t4
          have S4 := Lib.hid (S3.out.fr0 (Fr.b0 b4))
          have B4' := Lib.hid (B3.out.trans (b4.mono hl3))
          have HT4 := Lib.hid (ss_tiers S4.out (i := 2) rfl)
          have hl4 := S4.out.lo_le (i := 0) rfl
          clear t4 b4 HT3 S3 B3
          go_wp2_with fail
          refine HT4.out.mono ?_
          rintro r w5 ⟨⟨t5, F5, rfl, u5⟩, b5⟩
          have S5 := Lib.hid (S4.out.fr0 (Fr.b0 b5))
          have B5 := Lib.hid (B4'.out.trans (b5.mono hl4))
          have HE5 := Lib.hid (tio_same hp3 hp4 (T4.out.fr0 (Fr.b0 b5)) u5 (by omega) (by omega))
          have hl5 := S5.out.lo_le (i := 0) rfl
          obtain ⟨SE, hSE⟩ : ∃ v, sameX Qp.X Qk.X = v := ⟨_, rfl⟩
          rw [hSE] at HE5 HYes HNo
          clear u5 b5 HT4 S4 B4' T4 hp3 hp4 hSE
          cases SE with
          | true =>
           have Hab := Lib.hid (HYes.out rfl)
           clear HNo HYes
           go_wp2_with fail
           refine HE5.out.mono ?_
           rintro r w6 ⟨rfl, b6⟩
           obtain ⟨Cp, hCp⟩ : ∃ v, Ck = v := ⟨_, rfl⟩
           rw [hCp] at Hab S5
           obtain ⟨cp, hcp⟩ : ∃ v, ck + 8 * 1 = v := ⟨_, rfl⟩
           rw [hcp] at S5
           have S6 := Lib.hid (StsK.pop (L := [(g, Qp), (gc, Cp)]) (S5.out.fr0 (Fr.b0 b6)))
           have B6 := Lib.hid (B5.out.trans (b6.mono hl5))
           clear b6 HE5 B5 S5 hCp
           have S5 := S6
           have B5 := B6
           clear S6 B6
           obtain ⟨AB, hst, hpe⟩ := Hab.out.step (show (k : Int) < stepsV lt - 1 by rw [Hst.out]; omega)
           have HSp : Hid (Calls Tryz.prog 23 #[.pointer (some ⟨g, 0, none⟩)] w6 fun r w' => (∃ a b c, r = .returned (.tuple #[.agg #[.int .i64 a, .int .i64 b, .int .i64 c], .int .i64 0])) ∧ Sts w' w.heap.size [(g, stStep Qp), (gc, Cp)] (cp + 8) ∧ Below w.heap.size w6 w') := by
            refine (ss_step S5.out (i := 0) rfl (by omega)).mono ?_
            rintro r w' ⟨hr, h1, h2⟩
            rw [hst] at hr
            exact ⟨⟨_, _, _, hr⟩, h1, h2⟩
           obtain ⟨Q6, hQ6⟩ : ∃ v, stStep Qp = v := ⟨_, rfl⟩
           rw [hQ6] at HSp AB hpe
           have Hab6 := Lib.hid AB
           clear AB hst hQ6 Hab
           go_wp2_with fail
           refine HSp.out.mono ?_
           rintro r wn6 ⟨⟨a, b, c', rfl⟩, h6, b6⟩
           have f7 : Fr (fun _ => False) wn6 (wn6.alloc (.cells #[.int .i64 a, .int .i64 b, .int .i64 c'] 54)) := Fr.none_alloc _ _
           have S7 := Lib.hid (h6.fr0 f7)
           have hlo6 := h6.lo_le (i := 0) rfl
           have B7 := Lib.hid (B5.out.trans (b6.trans (f7.below_of hlo6 (fun _ h => h.elim))))
           have HP7 := Lib.hid (sp_pend (S7.out.p (i := 0) rfl))
           rw [hpe] at HP7
           clear h6 b6 f7 HSp S5 B5 hpe
           go_wp2_with fail
           refine HP7.out.mono ?_
           rintro r wn8 ⟨rfl, rfl⟩
           go_wp2_with fail
           go_roundw
           case rel => exact ⟨k + 1, cp + 8, Q6, Cp, by omega, by omega, by go_num, by omega, (by rw [show ((k + 1 : Nat) : Int) = (k : Int) + 1 by omega]; exact Hab6.out), S7.out, B7.out⟩
           case measure => simp [intOf]; omega
          | false =>
           have Hab := Lib.hid (HNo.out rfl)
           clear HNo HYes
           go_wp2_with fail
           refine HE5.out.mono ?_
           rintro r w6 ⟨rfl, b6⟩
           have S6 := Lib.hid (S5.out.fr0 (Fr.b0 b6))
           have B6 := Lib.hid (B5.out.trans (b6.mono hl5))
           have HR6 := Lib.hid (fun d' => ss_run (w0 := w) S6.out (i := 1) rfl B6.out (Nat.le_refl _) [o] (some (ad.add (k * 4))) 1 d' Hrs.out (fun x hx => (HOo.out x hx).1) (fun x hx => (HOo.out x hx).2) (by omega) (by omega) HMX.out)
           rw [eop2] at HR6
           obtain ⟨Cp, hCp⟩ : ∃ v, stOp Ck o = v := ⟨_, rfl⟩
           rw [hCp] at Hab HR6
           clear b6 HE5 B5 S5 hCp
           go_wp2_with fail
           refine (HR6.out _).mono ?_
           rintro r w7 ⟨rfl, h7, b7⟩
           obtain ⟨cp, hcp⟩ : ∃ v, ck + 8 * 1 + 8 * 1 = v := ⟨_, rfl⟩
           rw [hcp] at h7
           have h7 : Sts w7 w.heap.size ([(g, Qp), (gc, Cp)] ++ [(gw, Qk)]) cp := h7
           have S5 := Lib.hid (StsK.pop h7)
           have B5 := Lib.hid (B6.out.trans b7)
           clear h7 b7 HR6 B6 S6
           obtain ⟨AB, hst, hpe⟩ := Hab.out.step (show (k : Int) < stepsV lt - 1 by rw [Hst.out]; omega)
           have HSp : Hid (Calls Tryz.prog 23 #[.pointer (some ⟨g, 0, none⟩)] w7 fun r w' => (∃ a b c, r = .returned (.tuple #[.agg #[.int .i64 a, .int .i64 b, .int .i64 c], .int .i64 0])) ∧ Sts w' w.heap.size [(g, stStep Qp), (gc, Cp)] (cp + 8) ∧ Below w.heap.size w7 w') := by
            refine (ss_step S5.out (i := 0) rfl (by omega)).mono ?_
            rintro r w' ⟨hr, h1, h2⟩
            rw [hst] at hr
            exact ⟨⟨_, _, _, hr⟩, h1, h2⟩
           obtain ⟨Q6, hQ6⟩ : ∃ v, stStep Qp = v := ⟨_, rfl⟩
           rw [hQ6] at HSp AB hpe
           have Hab6 := Lib.hid AB
           clear AB hst hQ6 Hab
           go_wp2_with fail
           refine HSp.out.mono ?_
           rintro r wn6 ⟨⟨a, b, c', rfl⟩, h6, b6⟩
           have f7 : Fr (fun _ => False) wn6 (wn6.alloc (.cells #[.int .i64 a, .int .i64 b, .int .i64 c'] 54)) := Fr.none_alloc _ _
           have S7 := Lib.hid (h6.fr0 f7)
           have hlo6 := h6.lo_le (i := 0) rfl
           have B7 := Lib.hid (B5.out.trans (b6.trans (f7.below_of hlo6 (fun _ h => h.elim))))
           have HP7 := Lib.hid (sp_pend (S7.out.p (i := 0) rfl))
           rw [hpe] at HP7
           clear h6 b6 f7 HSp S5 B5 hpe
           go_wp2_with fail
           refine HP7.out.mono ?_
           rintro r wn8 ⟨rfl, rfl⟩
           go_wp2_with fail
           go_roundw
           case rel => exact ⟨k + 1, cp + 8, Q6, Cp, by omega, by omega, by go_num, by omega, (by rw [show ((k + 1 : Nat) : Int) = (k : Int) + 1 by omega]; exact Hab6.out), S7.out, B7.out⟩
           case measure => simp [intOf]; omega
         ·have hdd : decide (o.kind ≤ 2) = false := decide_eq_false hkd
          have S5 := Lib.hid Hs.out
          have B5 := Hb
          obtain ⟨Qp, hQp⟩ : ∃ v, Qk = v := ⟨_, rfl⟩
          obtain ⟨Cp, hCp⟩ : ∃ v, Ck = v := ⟨_, rfl⟩
          obtain ⟨cp, hcp⟩ : ∃ v, ck = v := ⟨_, rfl⟩
          rw [hQp, hCp, hcp] at S5
          rw [hQp, hCp] at Hab
          clear hQp hCp Hs Hb
          obtain ⟨AB, hst, hpe⟩ := Hab.out.step (show (k : Int) < stepsV lt - 1 by rw [Hst.out]; omega)
          have HSp : Hid (Calls Tryz.prog 23 #[.pointer (some ⟨g, 0, none⟩)] wr fun r w' => (∃ a b c, r = .returned (.tuple #[.agg #[.int .i64 a, .int .i64 b, .int .i64 c], .int .i64 0])) ∧ Sts w' w.heap.size [(g, stStep Qp), (gc, Cp)] (cp + 8) ∧ Below w.heap.size wr w') := by
           refine (ss_step S5.out (i := 0) rfl (by omega)).mono ?_
           rintro r w' ⟨hr, h1, h2⟩
           rw [hst] at hr
           exact ⟨⟨_, _, _, hr⟩, h1, h2⟩
          obtain ⟨Q6, hQ6⟩ : ∃ v, stStep Qp = v := ⟨_, rfl⟩
          rw [hQ6] at HSp AB hpe
          have Hab6 := Lib.hid AB
          clear AB hst hQ6 Hab
          go_wp2_with fail
          refine HSp.out.mono ?_
          rintro r wn6 ⟨⟨a, b, c', rfl⟩, h6, b6⟩
          have f7 : Fr (fun _ => False) wn6 (wn6.alloc (.cells #[.int .i64 a, .int .i64 b, .int .i64 c'] 54)) := Fr.none_alloc _ _
          have S7 := Lib.hid (h6.fr0 f7)
          have hlo6 := h6.lo_le (i := 0) rfl
          have B7 := Lib.hid (B5.out.trans (b6.trans (f7.below_of hlo6 (fun _ h => h.elim))))
          have HP7 := Lib.hid (sp_pend (S7.out.p (i := 0) rfl))
          rw [hpe] at HP7
          clear h6 b6 f7 HSp S5 B5 hpe
          go_wp2_with fail
          refine HP7.out.mono ?_
          rintro r wn8 ⟨rfl, rfl⟩
          go_wp2_with fail
          go_roundw
          case rel => exact ⟨k + 1, cp + 8, Q6, Cp, by omega, by omega, by go_num, by omega, (by rw [show ((k + 1 : Nat) : Int) = (k : Int) + 1 by omega]; exact Hab6.out), S7.out, B7.out⟩
          case measure => simp [intOf]; omega
        ·have hdm : decide ((k : Int) < (m : Int)) = false := decide_eq_false (by omega)
         have hdm2 : ¬ (k : Int) < (m : Int) := by omega
         have S5 := Lib.hid Hs.out
         have B5 := Hb
         obtain ⟨Qp, hQp⟩ : ∃ v, Qk = v := ⟨_, rfl⟩
         obtain ⟨Cp, hCp⟩ : ∃ v, Ck = v := ⟨_, rfl⟩
         obtain ⟨cp, hcp⟩ : ∃ v, ck = v := ⟨_, rfl⟩
         rw [hQp, hCp, hcp] at S5
         rw [hQp, hCp] at Hab
         clear hQp hCp Hs Hb
         obtain ⟨AB, hst, hpe⟩ := Hab.out.step (show (k : Int) < stepsV lt - 1 by rw [Hst.out]; omega)
         have HSp : Hid (Calls Tryz.prog 23 #[.pointer (some ⟨g, 0, none⟩)] wr fun r w' => (∃ a b c, r = .returned (.tuple #[.agg #[.int .i64 a, .int .i64 b, .int .i64 c], .int .i64 0])) ∧ Sts w' w.heap.size [(g, stStep Qp), (gc, Cp)] (cp + 8) ∧ Below w.heap.size wr w') := by
          refine (ss_step S5.out (i := 0) rfl (by omega)).mono ?_
          rintro r w' ⟨hr, h1, h2⟩
          rw [hst] at hr
          exact ⟨⟨_, _, _, hr⟩, h1, h2⟩
         obtain ⟨Q6, hQ6⟩ : ∃ v, stStep Qp = v := ⟨_, rfl⟩
         rw [hQ6] at HSp AB hpe
         have Hab6 := Lib.hid AB
         clear AB hst hQ6 Hab
         go_wp2_with fail
         refine HSp.out.mono ?_
         rintro r wn6 ⟨⟨a, b, c', rfl⟩, h6, b6⟩
         have f7 : Fr (fun _ => False) wn6 (wn6.alloc (.cells #[.int .i64 a, .int .i64 b, .int .i64 c'] 54)) := Fr.none_alloc _ _
         have S7 := Lib.hid (h6.fr0 f7)
         have hlo6 := h6.lo_le (i := 0) rfl
         have B7 := Lib.hid (B5.out.trans (b6.trans (f7.below_of hlo6 (fun _ h => h.elim))))
         have HP7 := Lib.hid (sp_pend (S7.out.p (i := 0) rfl))
         rw [hpe] at HP7
         clear h6 b6 f7 HSp S5 B5 hpe
         go_wp2_with fail
         refine HP7.out.mono ?_
         rintro r wn8 ⟨rfl, rfl⟩
         go_wp2_with fail
         go_roundw
         case rel => exact ⟨k + 1, cp + 8, Q6, Cp, by omega, by omega, by go_num, by omega, (by rw [show ((k + 1 : Nat) : Int) = (k : Int) + 1 by omega]; exact Hab6.out), S7.out, B7.out⟩
         case measure => simp [intOf]; omega
       ·have hdk3 : decide ((k : Int) < (st : Int) - 1) = false := decide_eq_false (by omega)
        have hk4 : ¬ (k : Int) < (st : Int) - 1 := by omega
        obtain ⟨e1, e2, e3⟩ := Hab.out.abort (show (k : Int) < stepsV lt by rw [Hst.out]; omega)
        have HA1 := Lib.hid (fun W (h : Sts W w.heap.size [(g, Qk), (gc, Ck)] ck) => ss_abort h (i := 0) rfl)
        rw [e1] at HA1
        clear e1 Hab
        go_wp2_with fail
        refine (HAl.out wr (Fr.b0 Hb.out)).mono ?_
        rintro r w5 ⟨rfl, b5⟩
        have HA5 := Lib.hid (HA1.out w5 (Hs.out.fr0 (Fr.b0 b5)))
        have B5 := Lib.hid (Hb.out.trans (b5.mono Hb.out.size))
        clear b5 HA1
        go_wp2_with fail
        refine HA5.out.mono ?_
        rintro r w6 ⟨rfl, h6, b6⟩
        have h6 : Sts w6 w.heap.size [(g, stAbort Qk), (gc, Ck)] ck := h6
        have B6 := Lib.hid (B5.out.trans b6)
        have S6 := Lib.hid h6
        have HS6 := Lib.hid (ss_same h6 (i := 0) (j := 1) rfl rfl (by omega))
        rw [e2] at HS6
        have hl6 := h6.lo_le (i := 0) rfl
        clear h6 b6 HA5 B5 e2
        go_wp2_with fail
        refine HS6.out.mono ?_
        rintro r w7 ⟨rfl, b7⟩
        have B7 := Lib.hid (B6.out.trans (b7.mono hl6))
        have HA7 := Lib.hid (ss_abort (S6.out.fr0 (Fr.b0 b7)) (i := 0) rfl)
        rw [e3] at HA7
        clear b7 HS6 e3 B6 S6
        go_wp2_with fail
        refine HA7.out.mono ?_
        rintro r w8 ⟨rfl, h8, b8⟩
        have B8 := Lib.hid (B7.out.trans b8)
        clear h8 b8
        go_wp2_with fail
        go_ret
        exact ⟨by first | rfl | simp, B8.out⟩
      ·have hdk : decide ((k : Int) < steps) = false := decide_eq_false hk2
       obtain ⟨e1, e2, e3⟩ := Hab.out.abort (show (k : Int) < stepsV lt by rw [Hst.out]; omega)
       have HA1 := Lib.hid (fun W (h : Sts W w.heap.size [(g, Qk), (gc, Ck)] ck) => ss_abort h (i := 0) rfl)
       rw [e1] at HA1
       clear e1 Hab
       go_wp2_with fail
       refine (HAl.out wr (Fr.b0 Hb.out)).mono ?_
       rintro r w5 ⟨rfl, b5⟩
       have HA5 := Lib.hid (HA1.out w5 (Hs.out.fr0 (Fr.b0 b5)))
       have B5 := Lib.hid (Hb.out.trans (b5.mono Hb.out.size))
       clear b5 HA1
       go_wp2_with fail
       refine HA5.out.mono ?_
       rintro r w6 ⟨rfl, h6, b6⟩
       have h6 : Sts w6 w.heap.size [(g, stAbort Qk), (gc, Ck)] ck := h6
       have B6 := Lib.hid (B5.out.trans b6)
       have S6 := Lib.hid h6
       have HS6 := Lib.hid (ss_same h6 (i := 0) (j := 1) rfl rfl (by omega))
       rw [e2] at HS6
       have hl6 := h6.lo_le (i := 0) rfl
       clear h6 b6 HA5 B5 e2
       go_wp2_with fail
       refine HS6.out.mono ?_
       rintro r w7 ⟨rfl, b7⟩
       have B7 := Lib.hid (B6.out.trans (b7.mono hl6))
       have HA7 := Lib.hid (ss_abort (S6.out.fr0 (Fr.b0 b7)) (i := 0) rfl)
       rw [e3] at HA7
       clear b7 HS6 e3 B6 S6
       go_wp2_with fail
       refine HA7.out.mono ?_
       rintro r w8 ⟨rfl, h8, b8⟩
       have B8 := Lib.hid (B7.out.trans b8)
       clear h8 b8
       go_wp2_with fail
       go_ret
       exact ⟨by first | rfl | simp, B8.out⟩
    ·have he3 : (E2 != 0) = true := by simpa using he2
     have hqq := HBad.out he2
     rw [hqq] at HG4
     go_wp2_with fail
     refine HG4.out.mono ?_
     rintro r w5 ⟨⟨kk, rfl, _⟩, h5, b5⟩
     have h5 : Sts w5 w.heap.size [(g, Qa), (gc, Qa)] (0 + 8 * n) := h5
     have B5 := Lib.hid (B4.out.trans b5)
     have S5 := Lib.hid h5
     clear h5 b5 HG4 B4 HSt HGo
     go_wp2_with fail
     refine (HAl.out w5 (Fr.b0 B5.out)).mono ?_
     rintro r w6 ⟨rfl, b6⟩
     have B6 := Lib.hid (B5.out.trans (b6.mono B5.out.size))
     have HS6 := Lib.hid (ss_same (S5.out.fr0 (Fr.b0 b6)) (i := 0) (j := 1) rfl rfl (by omega))
     rw [sameSt_self] at HS6
     clear b6 B5
     go_wp2_with fail
     refine HS6.out.mono ?_
     rintro r w7 ⟨rfl, b7⟩
     go_wp2_with fail
     go_ret
     exact ⟨rfl, B6.out.trans (b7.mono B6.out.size)⟩
   ·have he1 : (E != 0) = true := by simpa using he
    go_wp2_with fail
    refine HNw.out.mono ?_
    rintro r w1 ⟨⟨_, h1⟩, b1⟩
    obtain rfl := h1 he
    have B1 := Lib.hid b1
    clear h1 b1 HNw
    go_wp2_with fail
    refine (HAl.out w1 (Fr.b0 B1.out)).mono ?_
    rintro r wz ⟨rfl, bz⟩
    have Bz := Lib.hid (B1.out.trans (bz.mono B1.out.size))
    go_wp2_with fail
    go_ret
    exact ⟨rfl, Bz.out⟩
end Go.Proofs.YtkfdgodngbinlaaGreatDoor
