/- OplogParts' walk. -/
import Derived.Test.YtkfdgodngbinlaaGreatDoorOpApB
import Derived.Test.YtkfdgodngbinlaaGreatDoorStSame
namespace Go.Proofs.YtkfdgodngbinlaaGreatDoor
set_option linter.all false
open Go.RowKit

theorem flat_takeL : ∀ (l : List OpL) (k : Nat), (olcells l).take (k * 3) = olcells (l.take k)
 | [], k => by simp [olcells]
 | a :: l, 0 => by simp [olcells]
 | a :: l, k + 1 => by
  have ih := flat_takeL l k
  unfold olcells at ih ⊢
  simp only [List.take_succ_cons, List.flatMap_cons]
  rw [show (k + 1) * 3 = a.cells.length + k * 3 by rw [opL_cells]; omega, List.take_length_add_append, ih]
theorem flat_dropL : ∀ (l : List OpL) (k : Nat), (olcells l).drop (k * 3) = olcells (l.drop k)
 | [], k => by simp [olcells]
 | a :: l, 0 => by simp
 | a :: l, k + 1 => by
  have ih := flat_dropL l k
  unfold olcells at ih ⊢
  simp only [List.drop_succ_cons, List.flatMap_cons]
  rw [show (k + 1) * 3 = a.cells.length + k * 3 by rw [opL_cells]; omega, List.drop_length_add_append, ih]
theorem apL_le : ∀ (l : List OpL) (Q : StX), (apL l Q).1 ≤ l.length
 | [], Q => Nat.le_refl _
 | o :: l, Q => by
  unfold apL
  split
  ·have := apL_le l (op1 Q o).2
   rw [List.length_cons]
   show (apL l (op1 Q o).2).1 + 1 ≤ _
   omega
  ·exact Nat.zero_le _
set_option maxRecDepth 100000 in
set_option maxHeartbeats 8000000 in
theorem oparts_walk (l : List OpL) (A : Option Addr) (n c : Nat) (cut : Int) (w : World) (hr : Rd w 3 A n (olcells l)) (hok : ∀ o ∈ l, o.ok w) (hn : n ≤ 9223372036854775807) (hnc : n ≤ c) (hc9 : c ≤ 9223372036854775807) (hmx : MaxL w) :
  Calls Tryz.prog 8 #[.slice A n c, .int .i64 cut] w fun e w' => e = .returned (.bool true) ∧ Below w.heap.size w w' := by
 have HAl := Lib.hid alive20_any
 have Hr := Lib.hid hr
 have Hln := Lib.hid hr.opL_len
 have Hok := Lib.hid hok
 have HMX := Lib.hid hmx
 have HSo : Hid (∀ W o, o ∈ l → Below w.heap.size w W → Calls Tryz.prog 10 #[.int .i64 20, .slice o.sa o.sn o.sc] W fun r w' => FewR 20 o.sn r ∧ W = w') := fun W o h b => some_any 20 (by omega) o.sl (fun y hy => ((hok o h).swf y hy).2.2) o.sa o.sn o.sc W ((hok o h).s.below b) (by have h1 := (hok o h).sle; have h2 := (hok o h).smax; unfold maxLen at h2; omega)
 have HE0 := Lib.hid (rm_new (room := 60) ⟨by omega, by omega⟩)
 have HN1 := Lib.hid (ss_new 60 web8 (by decide) w HMX.out w.heap.size (Nat.le_refl _))
 have HN2 : Hid (∀ W L, Below w.heap.size w W → Sts W w.heap.size L 0 → w.heap.size ≤ W.heap.size → Calls Tryz.prog 12 #[.int .i64 60, .string { data := #[112, 111, 108, 105, 99, 121, 32, 119, 101, 98, 10, 116, 105, 101, 114, 32, 114, 97, 119, 32, 101, 118, 101, 114, 121, 32, 49, 32, 107, 101, 101, 112, 32, 49, 48, 48, 32, 115, 104, 97, 114, 100, 115, 32, 50, 10, 116, 105, 101, 114, 32, 116, 101, 110, 115, 32, 101, 118, 101, 114, 121, 32, 49, 48, 32, 107, 101, 101, 112, 32, 49, 48, 48, 48, 32, 115, 104, 97, 114, 100, 115, 32, 49, 10] }] W fun r w' => ((stNewE 60 (readV web8) = 0 → ∃ g, r = .returned (.tuple #[.pointer (some ⟨g, 0, none⟩), .int .i64 0]) ∧ Sts w' w.heap.size (L ++ [(g, stNewQ 60 (readV web8))]) 0) ∧ (stNewE 60 (readV web8) ≠ 0 → r = .returned (.tuple #[.pointer none, .int .i64 (stNewE 60 (readV web8))]))) ∧ Below W.heap.size W w') := fun W L b h hl => ss_new2 h hl 60 web8 (by decide) (HMX.out.below b)
 have HN1' : Hid (Calls Tryz.prog 12 #[.int .i64 60, .string { data := #[112, 111, 108, 105, 99, 121, 32, 119, 101, 98, 10, 116, 105, 101, 114, 32, 114, 97, 119, 32, 101, 118, 101, 114, 121, 32, 49, 32, 107, 101, 101, 112, 32, 49, 48, 48, 32, 115, 104, 97, 114, 100, 115, 32, 50, 10, 116, 105, 101, 114, 32, 116, 101, 110, 115, 32, 101, 118, 101, 114, 121, 32, 49, 48, 32, 107, 101, 101, 112, 32, 49, 48, 48, 48, 32, 115, 104, 97, 114, 100, 115, 32, 49, 10] }] w fun r w' => (∃ g, r = .returned (.tuple #[.pointer (some ⟨g, 0, none⟩), .int .i64 0]) ∧ Sts w' w.heap.size [(g, stNewQ 60 (readV web8))] 0) ∧ Below w.heap.size w w') := by
  refine HN1.out.mono ?_
  rintro r w' ⟨⟨h1, _⟩, hb⟩
  exact ⟨h1 HE0.out, hb⟩
 have HN2' : Hid (∀ W g, Below w.heap.size w W → Sts W w.heap.size [(g, stNewQ 60 (readV web8))] 0 → w.heap.size ≤ W.heap.size → Calls Tryz.prog 12 #[.int .i64 60, .string { data := #[112, 111, 108, 105, 99, 121, 32, 119, 101, 98, 10, 116, 105, 101, 114, 32, 114, 97, 119, 32, 101, 118, 101, 114, 121, 32, 49, 32, 107, 101, 101, 112, 32, 49, 48, 48, 32, 115, 104, 97, 114, 100, 115, 32, 50, 10, 116, 105, 101, 114, 32, 116, 101, 110, 115, 32, 101, 118, 101, 114, 121, 32, 49, 48, 32, 107, 101, 101, 112, 32, 49, 48, 48, 48, 32, 115, 104, 97, 114, 100, 115, 32, 49, 10] }] W fun r w' => (∃ g', r = .returned (.tuple #[.pointer (some ⟨g', 0, none⟩), .int .i64 0]) ∧ Sts w' w.heap.size [(g, stNewQ 60 (readV web8)), (g', stNewQ 60 (readV web8))] 0) ∧ Below W.heap.size W w') := fun W g b h hl => by
  refine (HN2.out W _ b h hl).mono ?_
  rintro r w' ⟨⟨h1, _⟩, hb⟩
  exact ⟨h1 HE0.out, hb⟩
 clear HN1 HN2 HE0 hr hok hmx
 obtain ⟨Q0, hQ0⟩ : ∃ v, stNewQ 60 (readV web8) = v := ⟨_, rfl⟩
 rw [hQ0] at HN1' HN2'
 clear hQ0
 by_cases h30 : 30 < n
 ·have hd : decide ((30 : Int) < (n : Int)) = true := decide_eq_true (by omega)
  have hd2 : (30 : Int) < (n : Int) := by omega
  go_enter Tryz.func8, Tryz.ntmps8
  go_wp2_with fail
  refine (HAl.out w).mono ?_
  rintro r wz ⟨rfl, bz⟩
  go_wp2_with fail
  go_ret
  exact ⟨rfl, bz⟩
 have hd : decide ((30 : Int) < (n : Int)) = false := decide_eq_false (by omega)
 have hd2 : ¬ (30 : Int) < (n : Int) := by omega
 by_cases hc0 : cut < 0
 ·have he : decide (cut < 0) = true := decide_eq_true hc0
  go_enter Tryz.func8, Tryz.ntmps8
  go_wp2_with fail
  refine (HAl.out w).mono ?_
  rintro r wz ⟨rfl, bz⟩
  go_wp2_with fail
  go_ret
  exact ⟨rfl, bz⟩
 have he : decide (cut < 0) = false := decide_eq_false hc0
 by_cases hcn : (n : Int) < cut
 ·have hf : decide ((n : Int) < cut) = true := decide_eq_true hcn
  go_enter Tryz.func8, Tryz.ntmps8
  go_wp2_with fail
  refine (HAl.out w).mono ?_
  rintro r wz ⟨rfl, bz⟩
  go_wp2_with fail
  go_ret
  exact ⟨rfl, bz⟩
 have hf : decide ((n : Int) < cut) = false := decide_eq_false hcn
 obtain ⟨cu, rfl⟩ : ∃ cu : Nat, cut = (cu : Int) := ⟨cut.toNat, by omega⟩
 have hcu : cu ≤ n := by omega
 go_enter Tryz.func8, Tryz.ntmps8
 go_wp2_with fail
 go_loop [5] (fun i => ∃ k : Nat, k ≤ n ∧ i = .int .i64 k ∧ Hid (∀ j o, j < k → l[j]? = some o → o.sn ≤ 20)) (fun i => n - (intOf i).toNat)
 case atStart => exact ⟨0, Nat.zero_le _, rfl, fun j _ h => absurd h (Nat.not_lt_zero _)⟩
 case round =>
  obtain ⟨k, hk, rfl, hall⟩ := hrel
  have Hall := hall
  clear hall
  by_cases hlt : k < n
  ·obtain ⟨ad, o, rfl, ho, a0, a1, a2⟩ := Hr.out.opL hlt
   have H1 := Lib.hid (HSo.out w o (mem_of_get ho) (Below.refl _ _))
   have hkw : IntKind.i64.wrap ((k : Int) + 1) = (k : Int) + 1 := by simp [IntKind.wrap, IntKind.signed, IntKind.bits]; omega
   have Ho := Lib.hid ho
   clear ho
   go_wp2_with fail
   refine H1.out.mono ?_
   rintro r w1 ⟨⟨b, rfl, hb⟩, rfl⟩
   have Hb1 := Lib.hid hb
   clear hb H1 a0 a1 a2
   cases b with
   | false =>
    go_wp2_with fail
    refine (HAl.out w).mono ?_
    rintro r wz ⟨rfl, bz⟩
    go_wp2_with fail
    go_ret
    exact ⟨rfl, bz⟩
   | true =>
    go_wp2_with fail
    go_round
    case rel => exact ⟨k + 1, by omega, by go_num, fun j o' hj h => by
     by_cases e : j = k
     ·subst e
      rw [Ho.out] at h
      cases h
      exact Hb1.out (by trivial)
     ·exact Hall.out j o' (by omega) h⟩
    case measure => simp [intOf]; omega
  ·obtain rfl : k = n := by omega
   have HFew : Hid (∀ o ∈ l, o.sn ≤ 20) := fun o ho => by
    obtain ⟨j, hj⟩ := List.getElem?_of_mem ho
    have hjl := (List.getElem?_eq_some_iff.1 hj).1
    have hln := Hln.out
    exact Hall.out j o (by omega) hj
   clear Hall
   go_wp2_with fail
   refine HN1'.out.mono ?_
   rintro r w1 ⟨⟨ga, rfl, h1⟩, b1⟩
   have B1 := Lib.hid b1
   have HN3 := Lib.hid (HN2'.out w1 ga b1 h1 (h1.lo_le (i := 0) rfl))
   have hl1 := h1.lo_le (i := 0) rfl
   clear h1 b1 HN1' HN2'
   go_wp2_with fail
   refine HN3.out.mono ?_
   rintro r w2 ⟨⟨gb, rfl, h2⟩, b2⟩
   have B2 := Lib.hid (B1.out.trans (b2.mono hl1))
   have S2 := Lib.hid h2
   have hl2 := h2.lo_le (i := 0) rfl
   clear h2 b2 HN3 B1
   have HRd : Hid (∀ W W', Below w.heap.size w W → Fr (fun j => w.heap.size ≤ j ∧ ¬ False) W W' → w.heap.size ≤ W.heap.size → Rd W' 3 A k (olcells l) ∧ ∀ o ∈ l, o.ok W') := fun W W' b f hl => by
    have b2 := b.trans (f.below_of hl (fun j hj => hj.1))
    exact ⟨Hr.out.below b2, fun o ho => (Hok.out o ho).below b2⟩
   have HAd : Hid (∀ o ∈ l, o.sn ≤ 1000000 ∧ ∀ j, adF o.sa o.sn j → j < w.heap.size ∨ False) := fun o ho => ⟨by have := HFew.out o ho; omega, fun j hj => .inl ((Hok.out o ho).s.adlt (by decide) j hj)⟩
   have HA1 := Lib.hid (opapply_any S2.out (i := 0) rfl l A k c (fun W' f => HRd.out w2 W' B2.out f hl2) HAd.out (by omega) (by omega))
   have HApp : Hid (apL l Q0 = if (apL (l.take cu) Q0).2.1 = 0 then ((apL (l.drop cu) (apL (l.take cu) Q0).2.2).1 + cu, (apL (l.drop cu) (apL (l.take cu) Q0).2.2).2) else apL (l.take cu) Q0) := by
    have h := apL_append (l.take cu) (l.drop cu) Q0
    rw [List.take_append_drop, List.length_take, Hln.out, Nat.min_eq_left hcu] at h
    exact h
   obtain ⟨N1, hN1⟩ : ∃ v, (apL l Q0).1 = v := ⟨_, rfl⟩
   obtain ⟨E1, hE1⟩ : ∃ v, (apL l Q0).2.1 = v := ⟨_, rfl⟩
   obtain ⟨Qa, hQa⟩ : ∃ v, (apL l Q0).2.2 = v := ⟨_, rfl⟩
   have HL1 : Hid (apL l Q0 = (N1, E1, Qa)) := by show _ = _; rw [← hN1, ← hE1, ← hQa]
   rw [hN1, hE1, hQa] at HA1
   clear hN1 hE1 hQa
   have hcc : (cu : Int) ≤ (k : Int) := by omega
   have hcI : 0 ≤ (cu : Int) ∧ (cu : Int) ≤ (c : Int) := by omega
   have hcI2 : 0 ≤ (cu : Int) ∧ (cu : Int) ≤ (k : Int) ∧ (k : Int) ≤ (c : Int) := by omega
   have hcI3 : 0 ≤ (cu : Int) ∧ (cu : Int) ≤ (k : Int) ∧ (cu : Int) ≤ (c : Int) := by omega
   go_wp2_with fail
   refine HA1.out.mono ?_
   rintro r w3 ⟨rfl, h3, b3, _⟩
   have h3 : Sts w3 w.heap.size [(ga, Qa), (gb, Q0)] (0 + 8 * k) := h3
   have B3 := Lib.hid (B2.out.trans b3)
   have S3 := Lib.hid h3
   have hl3 := h3.lo_le (i := 0) rfl
   have HA3 := Lib.hid (fun d' => opapply_any S3.out (i := 1) rfl (l.take cu) A cu d' (fun W' f => ⟨by
     have h := (HRd.out w3 W' B3.out f hl3).1.take hcu
     rwa [flat_takeL] at h, fun o ho => (HRd.out w3 W' B3.out f hl3).2 o (List.mem_of_mem_take ho)⟩) (fun o ho => HAd.out o (List.mem_of_mem_take ho)) (by omega) (by omega))
   obtain ⟨N2, hN2⟩ : ∃ v, (apL (l.take cu) Q0).1 = v := ⟨_, rfl⟩
   obtain ⟨E2, hE2⟩ : ∃ v, (apL (l.take cu) Q0).2.1 = v := ⟨_, rfl⟩
   obtain ⟨Qb, hQb⟩ : ∃ v, (apL (l.take cu) Q0).2.2 = v := ⟨_, rfl⟩
   have HL2 : Hid (apL (l.take cu) Q0 = (N2, E2, Qb)) := by show _ = _; rw [← hN2, ← hE2, ← hQb]
   have HN2 : Hid (E2 = 0 → N2 = cu) := fun h => by rw [← hN2, apL_all (hE2.trans h), List.length_take, Hln.out, Nat.min_eq_left hcu]
   rw [hN2, hE2, hQb] at HA3
   rw [HL1.out, HL2.out] at HApp
   clear h3 b3 HA1 S2 B2 hN2 hE2 hQb
   go_wp2_with fail
   refine (HA3.out _).mono ?_
   rintro r w4 ⟨rfl, h4, b4, _⟩
   have h4 : Sts w4 w.heap.size [(ga, Qa), (gb, Qb)] (0 + 8 * k + 8 * cu) := h4
   have B4 := Lib.hid (B3.out.trans b4)
   have S4 := Lib.hid h4
   have hl4 := h4.lo_le (i := 0) rfl
   clear h4 b4 HA3 S3 B3
   by_cases hE2 : E2 = 0
   ·subst hE2
    have hq := HApp.out
    simp only [if_true] at hq
    have hN := HN2.out rfl
    subst hN
    have HA4 := Lib.hid (fun A' q d' (hq : ∀ W', Fr (fun j => w.heap.size ≤ j ∧ ¬ False) w4 W' → Rd W' 3 A' q (olcells (l.drop N2))) (hqn : q ≤ 30) => opapply_any S4.out (i := 1) rfl (l.drop N2) A' q d' (fun W' f => ⟨hq W' f, fun o ho => (HRd.out w4 W' B4.out f hl4).2 o (List.mem_of_mem_drop ho)⟩) (fun o ho => HAd.out o (List.mem_of_mem_drop ho)) (by omega) (by omega))
    have RDD : Hid (∀ W', Fr (fun j => w.heap.size ≤ j ∧ ¬ False) w4 W' → Rd W' 3 (if c = N2 then A else A.map (·.add (N2 * 3))) (k - N2) (olcells (l.drop N2))) := fun W' f => by
     have h := (HRd.out w4 W' B4.out f hl4).1.cut hcu hnc
     rwa [flat_dropL] at h
    obtain ⟨N3, hN3⟩ : ∃ v, (apL (l.drop N2) Qb).1 = v := ⟨_, rfl⟩
    obtain ⟨E3, hE3⟩ : ∃ v, (apL (l.drop N2) Qb).2.1 = v := ⟨_, rfl⟩
    obtain ⟨Qc, hQc⟩ : ∃ v, (apL (l.drop N2) Qb).2.2 = v := ⟨_, rfl⟩
    have HL3 : Hid (apL (l.drop N2) Qb = (N3, E3, Qc)) := by show _ = _; rw [← hN3, ← hE3, ← hQc]
    have HN3 : Hid (N3 ≤ 30) := by
     have h := apL_le (l.drop N2) Qb
     rw [HL3.out, List.length_drop] at h
     have := Hln.out
     show N3 ≤ 30
     have h : N3 ≤ l.length - N2 := h
     omega
    rw [hN3, hE3, hQc] at HA4
    rw [HL3.out] at hq
    simp only [Prod.mk.injEq] at hq
    obtain ⟨q1, q2, q3⟩ := hq
    subst q1 q2 q3
    have hw : IntKind.i64.wrap ((N2 : Int) + (N3 : Int)) = (N2 : Int) + (N3 : Int) := by have := HN3.out; simp [IntKind.wrap, IntKind.signed, IntKind.bits]; omega
    have heq : ((((N3 + N2 : Nat) : Int)) == (N2 : Int) + (N3 : Int)) = true := by rw [beq_iff_eq]; omega
    have heq2 : ((N3 : Int) + (N2 : Int) == (N2 : Int) + (N3 : Int)) = true := by rw [beq_iff_eq]; omega
    have hself : (E1 == E1) = true := by simp
    clear hN3 hE3 hQc HApp HL1 HL2 HL3
    by_cases hck : c = N2
    ·subst hck
     have hn0 : k = c := by omega
     subst hn0
     go_wp2_with fail
     refine (HA4.out _ _ _ (fun W' f => by
      have h := RDD.out W' f
      first | rw [if_pos rfl] at h | rw [if_pos trivial] at h
      first | exact h | (simp at h; exact h) | (rw [Nat.sub_self] at h; exact h)) (by omega)).mono ?_
     rintro r w5 ⟨rfl, h5, b5, _⟩
     obtain ⟨cc, hcc⟩ : ∃ cc, cc ≤ 1000 ∧ Sts w5 w.heap.size [(ga, Qa), (gb, Qa)] cc := ⟨_, by omega, h5⟩
     have S5 := Lib.hid hcc.2
     have hc5 := hcc.1
     have B5 := Lib.hid (B4.out.trans b5)
     have hl5 := hcc.2.lo_le (i := 0) rfl
     clear h5 b5 HA4 S4 B4 hcc
     go_wp2_with fail
     refine (HAl.out w5).mono ?_
     rintro r w6 ⟨rfl, b6⟩
     have S6 := Lib.hid (S5.out.fr0 (Fr.b0 b6))
     have B6 := Lib.hid (B5.out.trans (b6.mono hl5))
     have HS6 := Lib.hid (ss_same S6.out (i := 0) (j := 1) rfl rfl (by omega))
     rw [sameSt_self] at HS6
     have hl6 := S6.out.lo_le (i := 0) rfl
     clear b6
     go_wp2_with fail
     refine HS6.out.mono ?_
     rintro r w7 ⟨rfl, b7⟩
     go_wp2_with fail
     go_ret
     exact ⟨by first | rfl | simp, B6.out.trans (b7.mono hl6)⟩
    ·go_wp2_with fail
     refine (HA4.out _ _ _ (fun W' f => by
      have h := RDD.out W' f
      rw [if_neg hck] at h
      exact h) (by omega)).mono ?_
     rintro r w5 ⟨rfl, h5, b5, _⟩
     obtain ⟨cc, hcc⟩ : ∃ cc, cc ≤ 1000 ∧ Sts w5 w.heap.size [(ga, Qa), (gb, Qa)] cc := ⟨_, by omega, h5⟩
     have S5 := Lib.hid hcc.2
     have hc5 := hcc.1
     have B5 := Lib.hid (B4.out.trans b5)
     have hl5 := hcc.2.lo_le (i := 0) rfl
     clear h5 b5 HA4 S4 B4 hcc
     go_wp2_with fail
     refine (HAl.out w5).mono ?_
     rintro r w6 ⟨rfl, b6⟩
     have S6 := Lib.hid (S5.out.fr0 (Fr.b0 b6))
     have B6 := Lib.hid (B5.out.trans (b6.mono hl5))
     have HS6 := Lib.hid (ss_same S6.out (i := 0) (j := 1) rfl rfl (by omega))
     rw [sameSt_self] at HS6
     have hl6 := S6.out.lo_le (i := 0) rfl
     clear b6
     go_wp2_with fail
     refine HS6.out.mono ?_
     rintro r w7 ⟨rfl, b7⟩
     go_wp2_with fail
     go_ret
     exact ⟨by first | rfl | simp, B6.out.trans (b7.mono hl6)⟩
   ·have he : (E2 == 0) = false := by simpa using hE2
    have hq := HApp.out
    rw [if_neg hE2] at hq
    simp only [Prod.mk.injEq] at hq
    obtain ⟨q1, q2, q3⟩ := hq
    subst q1 q2 q3
    clear HApp HL1 HL2 HN2
    have hself1 : ((N1 : Int) == (N1 : Int)) = true := by simp
    have hself : (E1 == E1) = true := by simp
    go_wp2_with fail
    refine (HAl.out w4).mono ?_
    rintro r w6 ⟨rfl, b6⟩
    have S6 := Lib.hid (S4.out.fr0 (Fr.b0 b6))
    have B6 := Lib.hid (B4.out.trans (b6.mono hl4))
    have HS6 := Lib.hid (ss_same S6.out (i := 0) (j := 1) rfl rfl (by omega))
    rw [sameSt_self] at HS6
    have hl6 := S6.out.lo_le (i := 0) rfl
    clear b6
    go_wp2_with fail
    refine HS6.out.mono ?_
    rintro r w7 ⟨rfl, b7⟩
    go_wp2_with fail
    go_ret
    exact ⟨by first | rfl | simp, B6.out.trans (b7.mono hl6)⟩
end Go.Proofs.YtkfdgodngbinlaaGreatDoor
