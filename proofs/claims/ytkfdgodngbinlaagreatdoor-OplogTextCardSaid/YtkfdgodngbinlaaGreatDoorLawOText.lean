/- OplogText's walk. -/
import Derived.Test.YtkfdgodngbinlaaGreatDoorOpApB
import Derived.Test.YtkfdgodngbinlaaGreatDoorStSame
namespace Go.Proofs.YtkfdgodngbinlaaGreatDoor
set_option linter.all false
open Go.RowKit

theorem apL_one (o : OpL) (Q : StX) : (apL [o] Q).2 = op1 Q o := by
 rw [apL]
 by_cases h : (op1 Q o).1 = 0
 ·rw [if_pos h]
  show (apL [] (op1 Q o).2).2 = op1 Q o
  show ((0 : Int), (op1 Q o).2) = op1 Q o
  rw [← h]
 ·rw [if_neg h]
set_option maxRecDepth 100000 in
set_option maxHeartbeats 8000000 in
theorem optext_walk (l : List OpL) (A : Option Addr) (n c : Nat) (w : World) (hr : Rd w 3 A n (olcells l)) (hok : ∀ o ∈ l, o.ok w) (hn : n ≤ 9223372036854775807) (hmx : MaxL w) :
  Calls Tryz.prog 9 #[.slice A n c] w fun e w' => e = .returned (.bool true) ∧ Below w.heap.size w w' := by
 have HAl := Lib.hid alive20_any
 have Hr := Lib.hid hr
 have Hln := Lib.hid hr.opL_len
 have Hok := Lib.hid hok
 have HMX := Lib.hid hmx
 have HSo : Hid (∀ W o, o ∈ l → Below w.heap.size w W → Calls Tryz.prog 10 #[.int .i64 20, .slice o.sa o.sn o.sc] W fun r w' => FewR 20 o.sn r ∧ W = w') := fun W o h b => some_any 20 (by omega) o.sl (fun y hy => ((hok o h).swf y hy).2.2) o.sa o.sn o.sc W ((hok o h).s.below b) (by have h1 := (hok o h).sle; have h2 := (hok o h).smax; unfold maxLen at h2; omega)
 have HE0 := Lib.hid (rm_new (room := 60) ⟨by omega, by omega⟩)
 have HN1 := Lib.hid (ss_new 60 web8 (by decide) w HMX.out w.heap.size (Nat.le_refl _))
 have HN2 : Hid (∀ W L, Below w.heap.size w W → Sts W w.heap.size L 0 → w.heap.size ≤ W.heap.size → Calls Tryz.prog 12 #[.int .i64 60, .string { data := #[112, 111, 108, 105, 99, 121, 32, 119, 101, 98, 10, 116, 105, 101, 114, 32, 114, 97, 119, 32, 101, 118, 101, 114, 121, 32, 49, 32, 107, 101, 101, 112, 32, 49, 48, 48, 32, 115, 104, 97, 114, 100, 115, 32, 50, 10, 116, 105, 101, 114, 32, 116, 101, 110, 115, 32, 101, 118, 101, 114, 121, 32, 49, 48, 32, 107, 101, 101, 112, 32, 49, 48, 48, 48, 32, 115, 104, 97, 114, 100, 115, 32, 49, 10] }] W fun r w' => ((stNewE 60 (readV web8) = 0 → ∃ g, r = .returned (.tuple #[.pointer (some ⟨g, 0, none⟩), .int .i64 0]) ∧ Sts w' w.heap.size (L ++ [(g, stNewQ 60 (readV web8))]) 0) ∧ (stNewE 60 (readV web8) ≠ 0 → r = .returned (.tuple #[.pointer none, .int .i64 (stNewE 60 (readV web8))]))) ∧ Below W.heap.size W w') := fun W L b h hl => ss_new2 h hl 60 web8 (by decide) (HMX.out.below b)
 have HN1' : Hid (Calls Tryz.prog 12 #[.int .i64 60, .string { data := #[112, 111, 108, 105, 99, 121, 32, 119, 101, 98, 10, 116, 105, 101, 114, 32, 114, 97, 119, 32, 101, 118, 101, 114, 121, 32, 49, 32, 107, 101, 101, 112, 32, 49, 48, 48, 32, 115, 104, 97, 114, 100, 115, 32, 50, 10, 116, 105, 101, 114, 32, 116, 101, 110, 115, 32, 101, 118, 101, 114, 121, 32, 49, 48, 32, 107, 101, 101, 112, 32, 49, 48, 48, 48, 32, 115, 104, 97, 114, 100, 115, 32, 49, 10] }] w fun r w' => (∃ g, r = .returned (.tuple #[.pointer (some ⟨g, 0, none⟩), .int .i64 0]) ∧ Sts w' w.heap.size [(g, stNewQ 60 (readV web8))] 0) ∧ Below w.heap.size w w') := by
  refine HN1.out.mono ?_
  rintro r w' ⟨⟨h1, _⟩, hb⟩
  exact ⟨h1 HE0.out, hb⟩
 have HN2' : Hid (∀ W g, Below w.heap.size w W → Sts W w.heap.size [(g, stNewQ 60 (readV web8))] 0 → w.heap.size ≤ W.heap.size → Calls Tryz.prog 12 #[.int .i64 60, .string { data := #[112, 111, 108, 105, 99, 121, 32, 119, 101, 98, 10, 116, 105, 101, 114, 32, 114, 97, 119, 32, 101, 118, 101, 114, 121, 32, 49, 32, 107, 101, 101, 112, 32, 49, 48, 48, 32, 115, 104, 97, 114, 100, 115, 32, 50, 10, 116, 105, 101, 114, 32, 116, 101, 110, 115, 32, 101, 118, 101, 114, 121, 32, 49, 48, 32, 107, 101, 101, 112, 32, 49, 48, 48, 48, 32, 115, 104, 97, 114, 100, 115, 32, 49, 10] }] W fun r w' => (∃ g', r = .returned (.tuple #[.pointer (some ⟨g', 0, none⟩), .int .i64 0]) ∧ Sts w' w.heap.size [(g, stNewQ 60 (readV web8)), (g', stNewQ 60 (readV web8))] 0) ∧ Below W.heap.size W w') := fun W g b h hl => by
  refine (HN2.out W _ b h hl).mono ?_
  rintro r w' ⟨⟨h1, _⟩, hb⟩
  exact ⟨h1 HE0.out, hb⟩
 clear HN1 HN2 HE0 hr hok hmx
 obtain ⟨Q0, hQ0⟩ : ∃ v, stNewQ 60 (readV web8) = v := ⟨_, rfl⟩
 rw [hQ0] at HN1' HN2'
 clear hQ0
 by_cases h30 : 30 < n
 ·have hd : decide ((30 : Int) < (n : Int)) = true := decide_eq_true (by omega)
  have hd2 : (30 : Int) < (n : Int) := by omega
  go_enter Tryz.func9, Tryz.ntmps9
  go_wp2_with fail
  refine (HAl.out w).mono ?_
  rintro r wz ⟨rfl, bz⟩
  go_wp2_with fail
  go_ret
  exact ⟨rfl, bz⟩
 have hd : decide ((30 : Int) < (n : Int)) = false := decide_eq_false (by omega)
 have hd2 : ¬ (30 : Int) < (n : Int) := by omega
 go_enter Tryz.func9, Tryz.ntmps9
 go_wp2_with fail
 refine HN1'.out.mono ?_
 rintro r w1 ⟨⟨ga, rfl, h1⟩, b1⟩
 have B1 := Lib.hid b1
 have HN3 := Lib.hid (HN2'.out w1 ga b1 h1 (h1.lo_le (i := 0) rfl))
 have hl1 := h1.lo_le (i := 0) rfl
 clear h1 b1 HN1' HN2'
 go_wp2_with fail
 refine HN3.out.mono ?_
 rintro r w2 ⟨⟨gb, rfl, h2⟩, b2⟩
 have B2 := Lib.hid (B1.out.trans (b2.mono hl1))
 have S2 := Lib.hid h2
 have hl2 := h2.lo_le (i := 0) rfl
 clear h2 b2 HN3 B1
 go_wp2_with fail
 go_loopw [7] (fun i wr => ∃ (k cc : Nat) (Qk : StX), k ≤ n ∧ i = .int .i64 k ∧ cc ≤ 16 * k ∧ Sts wr w.heap.size [(ga, Qk), (gb, Qk)] cc ∧ Below w.heap.size w wr) (fun i _ => n - (intOf i).toNat)
 case atStart => exact ⟨0, 0, Q0, Nat.zero_le _, rfl, Nat.le_refl _, S2.out, B2.out⟩
 case round =>
  obtain ⟨k, cc, Qk, hk, rfl, hcc, hs, hb⟩ := hrel
  have Hs := Lib.hid hs
  have Hb := Lib.hid hb
  have hlr := hs.lo_le (i := 0) rfl
  by_cases hlt : k < n
  ·obtain ⟨ad, o, rfl, ho, a0, a1, a2⟩ := (Hr.out.below hb).opL hlt
   have hom := mem_of_get ho
   have HOk : Hid (∀ W, Below w.heap.size w W → o.ok W) := fun W b => (Hok.out o hom).below b
   have HAd : Hid (∀ j, adF o.sa o.sn j → j < w.heap.size) := (Hok.out o hom).s.adlt (by decide)
   have H1 := Lib.hid (HSo.out wr o hom hb)
   have HCl : Hid (∀ W, Fr (fun _ => False) wr W → W.cell? (ad.add (k * 3)) = some (.int .i64 o.kind) ∧ W.cell? ⟨(ad.add (k * 3)).block, (ad.add (k * 3)).off + 1, none⟩ = some (.int .i64 o.n) ∧ W.cell? ⟨(ad.add (k * 3)).block, (ad.add (k * 3)).off + 2, none⟩ = some (.slice o.sa o.sn o.sc)) := fun W f => ⟨f.cell a0 (fun h => h), f.cell a1 (fun h => h), f.cell a2 (fun h => h)⟩
   have hkw : IntKind.i64.wrap ((k : Int) + 1) = (k : Int) + 1 := by simp [IntKind.wrap, IntKind.signed, IntKind.bits]; omega
   clear hs hb ho hom
   go_wp2_with fail
   refine H1.out.mono ?_
   rintro r w1 ⟨⟨b, rfl, hb⟩, rfl⟩
   have Hb1 := Lib.hid hb
   clear hb H1
   cases b with
   | false =>
    go_wp2_with fail
    refine (HAl.out wr).mono ?_
    rintro r wz ⟨rfl, bz⟩
    have Bz := Lib.hid (Hb.out.trans (bz.mono hlr))
    go_wp2_with fail
    go_ret
    exact ⟨rfl, Bz.out⟩
   | true =>
    have HBy := Lib.hid (opbytes_any o.kind o.n o.sl (HOk.out _ Hb.out).swf o.sa o.sn o.sc wr (HOk.out _ Hb.out).s (by have := Hb1.out (by trivial); omega))
    cases hv : opOk o.kind o.n o.sl with
    | false =>
     rw [hv] at HBy
     clear hv
     go_wp2_with fail
     refine HBy.out.mono ?_
     rintro r w2 ⟨rfl, b2⟩
     have S3 := Lib.hid (Hs.out.fr0 (Fr.b0 b2))
     have B3 := Lib.hid (Hb.out.trans (b2.mono hlr))
     clear b2 HBy a0 a1 a2
     go_wp2_with fail
     go_roundw
     case rel => exact ⟨k + 1, cc, Qk, by omega, by go_num, by omega, S3.out, B3.out⟩
     case measure => simp [intOf]; omega
    | true =>
     rw [hv] at HBy
     obtain ⟨hb1, hb2, hb3, hb4⟩ := opB_rd (HOk.out _ Hb.out).n (HOk.out _ Hb.out).swf hv
     have hrok := readOk_back (HOk.out _ Hb.out).n (HOk.out _ Hb.out).swf hv
     have hlen : 10 ≤ (opB o.kind o.n o.sl).length ∧ (opB o.kind o.n o.sl).length ≤ 1000000 := by
      have h8 := opOk_parts hv
      have := sampsB_len h8.2.2
      unfold opB
      rw [List.length_append, List.length_append, le8_len, this]
      simp
      omega
     have HRd : Hid (∀ W, Calls Tryz.prog 39 #[.string (bstr (opB o.kind o.n o.sl))] W fun r w' => (∃ A m c, r = .returned (.tuple #[.agg #[.int .i64 o.kind, .int .i64 o.n, .slice A m c], .int .i64 0]) ∧ w'.ownsRow W.heap.size 44 3 (.slice A m c) m (scells o.sl)) ∧ Below W.heap.size W w') := fun W => by
      refine (opread_any _ hlen.1 hlen.2 W).mono ?_
      rintro r w' ⟨h1, _, hb⟩
      obtain ⟨A, m, c, hr, ho⟩ := h1 hrok
      rw [hb1, hb2] at hr
      rw [hb3] at ho
      exact ⟨⟨A, m, c, hr, ho⟩, hb⟩
     have HOp : Hid (∀ Q (o2 : OpL), o2.kind = o.kind → o2.n = o.n → o2.sl = o.sl → op1 Q o2 = op1 Q o) := fun Q o2 h1 h2 h3 => by unfold op1; rw [h1, h2, h3]
     obtain ⟨BS, hBS⟩ : ∃ v, bstr (opB o.kind o.n o.sl) = v := ⟨_, rfl⟩
     rw [hBS] at HBy HRd
     clear hb1 hb2 hb3 hb4 hrok hlen hBS hv
     go_wp2_with fail
     refine HBy.out.mono ?_
     rintro r w2 ⟨rfl, b2⟩
     have F2 := Lib.hid (Fr.b0 b2)
     have HR2 := Lib.hid (HRd.out w2)
     clear b2 HBy HRd a0 a1 a2
     go_wp2_with fail
     refine HR2.out.mono ?_
     rintro r w3 ⟨⟨A2, m, c2, rfl, ho2⟩, b3⟩
     obtain rfl : m = o.sn := by
      have h1 := (own_any ho2).2.2.1.samps_len
      have h2 := (HOk.out _ Hb.out).slen
      omega
     have hs3 := b3.size
     have hs2 := F2.out.size
     have HO2 := Lib.hid ho2
     have F3 := Lib.hid (F2.out.trans (Fr.b0 b3) (fun _ h => h.elim))
     have f4 : Fr (fun _ => False) w3 (w3.alloc (.cells #[.int .i64 o.kind, .int .i64 o.n, .slice A2 o.sn c2] 80)) := Fr.none_alloc _ _
     have X4 : Hid (Blk (w3.alloc (.cells #[.int .i64 o.kind, .int .i64 o.n, .slice A2 o.sn c2] 80)) w3.heap.size 80 #[.int .i64 o.kind, .int .i64 o.n, .slice A2 o.sn c2]) := Blk.new _ _ _
     have F4 := Lib.hid (F3.out.trans f4 (fun _ h => h.elim))
     obtain ⟨a0, a1, a2⟩ := HCl.out _ F4.out
     have f5 : Fr (fun _ => False) (w3.alloc (.cells #[.int .i64 o.kind, .int .i64 o.n, .slice A2 o.sn c2] 80)) ((w3.alloc (.cells #[.int .i64 o.kind, .int .i64 o.n, .slice A2 o.sn c2] 80)).alloc (.cells #[.int .i64 o.kind, .int .i64 o.n, .slice o.sa o.sn o.sc] 80)) := Fr.none_alloc _ _
     have F5 := Lib.hid (F4.out.trans f5 (fun _ h => h.elim))
     have R5 : Rd ((w3.alloc (.cells #[.int .i64 o.kind, .int .i64 o.n, .slice A2 o.sn c2] 80)).alloc (.cells #[.int .i64 o.kind, .int .i64 o.n, .slice o.sa o.sn o.sc] 80)) 3 (some ⟨(w3.alloc (.cells #[.int .i64 o.kind, .int .i64 o.n, .slice A2 o.sn c2] 80)).heap.size, 0, none⟩) 1 (olcells [o]) := Rd.newS rfl [.int .i64 o.kind, .int .i64 o.n, .slice o.sa o.sn o.sc] _ 1 3 rfl
     have O5 := Lib.hid (own_fr0 (own_fr0 ho2 f4) f5)
     have X5 := Lib.hid (X4.out.fr f5 (fun h => h))
     have hs5 : ((w3.alloc (.cells #[.int .i64 o.kind, .int .i64 o.n, .slice A2 o.sn c2] 80)).alloc (.cells #[.int .i64 o.kind, .int .i64 o.n, .slice o.sa o.sn o.sc] 80)).heap.size = w3.heap.size + 2 := by simp
     have hs4 : (w3.alloc (.cells #[.int .i64 o.kind, .int .i64 o.n, .slice A2 o.sn c2] 80)).heap.size = w3.heap.size + 1 := by simp
     obtain ⟨w5, hw5⟩ : ∃ v, v = (w3.alloc (.cells #[.int .i64 o.kind, .int .i64 o.n, .slice A2 o.sn c2] 80)).alloc (.cells #[.int .i64 o.kind, .int .i64 o.n, .slice o.sa o.sn o.sc] 80) := ⟨_, rfl⟩
     have Hw5 := Lib.hid hw5
     rw [hs4, ← hw5] at R5
     rw [← hw5] at F5 O5 X5 hs5
     have HR5 := Lib.hid R5
     have S5 : Hid (StsK w5 w.heap.size (fun j => wr.heap.size ≤ j ∧ j < w5.heap.size) [(ga, Qk), (gb, Qk)] cc) := StsK.keep Hs.out F5.out (fun k hk => hk)
     obtain ⟨K, hK⟩ : ∃ K : Nat → Prop, (fun j => wr.heap.size ≤ j ∧ j < w5.heap.size) = K := ⟨_, rfl⟩
     rw [hK] at S5
     have HKi : Hid (∀ j, wr.heap.size ≤ j → j < w5.heap.size → K j) := fun j h1 h2 => by rw [← hK]; exact ⟨h1, h2⟩
     have HRo : Hid (∀ j, rowF (.slice A2 o.sn c2) j → K j) := fun j hj => by
      have h1 := O5.out.lt j hj
      exact HKi.out j (by omega) h1.2
     have B5 := Lib.hid (Hb.out.trans (F5.out.below_of hlr (fun _ h => h.elim)))
     have hl5 := S5.out.lo_le (i := 0) rfl
     have HA5 := Lib.hid (opapply_any S5.out (i := 0) rfl [o] (some ⟨w3.heap.size + 1, 0, none⟩) 1 1 (fun W' f => ⟨HR5.out.fr f (fun j hj hn => by
       obtain ⟨_, ad, e, h3⟩ := hj
       cases e
       simp only at h3
       exact hn.2 (HKi.out j (by omega) (by omega))), fun x hx => by
       rw [List.mem_singleton] at hx
       rw [hx]
       exact HOk.out _ (B5.out.trans (f.below_of hl5 (fun j hj => hj.1)))⟩) (fun x hx => by
       rw [List.mem_singleton] at hx
       rw [hx]
       exact ⟨by have := Hb1.out (by trivial); omega, fun j hj => .inl (HAd.out j hj)⟩) (by omega) (by omega))
     have e1 := apL_one o Qk
     obtain ⟨E, hE⟩ : ∃ v, (op1 Qk o).1 = v := ⟨_, rfl⟩
     obtain ⟨Q6, hQ6⟩ : ∃ v, (op1 Qk o).2 = v := ⟨_, rfl⟩
     obtain ⟨N6, hN6⟩ : ∃ v, (apL [o] Qk).1 = v := ⟨_, rfl⟩
     rw [hN6, e1, hE, hQ6] at HA5
     have hEE : (E != E) = false := by simp
     clear b3 ho2 f4 f5 R5 hw5 hK hN6 e1 HR2 S5 F2 F4 X4
     go_wp2_with fail
     rw [← Hw5.out]
     refine HA5.out.mono ?_
     rintro r w6 ⟨rfl, h6, b6, f6⟩
     have h6 : StsK w6 w.heap.size K [(ga, Q6), (gb, Qk)] (cc + 8 * 1) := h6
     have X6 : Hid (Blk w6 w3.heap.size 80 #[.int .i64 o.kind, .int .i64 o.n, .slice A2 o.sn c2]) := X5.out.fr f6 (fun h => h.2 (HKi.out _ (by omega) (by omega)))
     have O6 := Lib.hid (own_fr O5.out f6 (fun j hj h => h.2 (HRo.out j hj)))
     have B6 := Lib.hid (B5.out.trans b6)
     have hs6 := b6.size
     have x0 := X6.out.cell 0
     have x1 := X6.out.cell 1
     have x2 := X6.out.cell 2
     simp only [List.getElem?_toArray, List.getElem?_cons_succ, List.getElem?_cons_zero] at x0 x1 x2
     have hl6 := h6.lo_le (i := 0) rfl
     have f7 : Fr (fun _ => False) w6 (w6.alloc (.cells #[.int .i64 o.kind, .int .i64 o.n, .slice A2 o.sn c2] 80)) := Fr.none_alloc _ _
     have hs7 : (w6.alloc (.cells #[.int .i64 o.kind, .int .i64 o.n, .slice A2 o.sn c2] 80)).heap.size = w6.heap.size + 1 := by simp
     have S7 : Hid (StsK (w6.alloc (.cells #[.int .i64 o.kind, .int .i64 o.n, .slice A2 o.sn c2] 80)) w.heap.size (fun j => K j ∨ (w6.heap.size ≤ j ∧ j < (w6.alloc (.cells #[.int .i64 o.kind, .int .i64 o.n, .slice A2 o.sn c2] 80)).heap.size)) [(ga, Q6), (gb, Qk)] (cc + 8 * 1)) := h6.keep2 f7 (fun k hk => hk)
     have O7 := Lib.hid (own_fr0 O6.out f7)
     have B7 := Lib.hid (B6.out.trans (f7.below_of hl6 (fun _ h => h.elim)))
     have hl7 := S7.out.lo_le (i := 0) rfl
     have R7 := Lib.hid (show Rd (w6.alloc (.cells #[.int .i64 o.kind, .int .i64 o.n, .slice A2 o.sn c2] 80)) 3 (some ⟨w6.heap.size, 0, none⟩) 1 (olcells [(⟨o.kind, o.n, A2, o.sn, c2, o.sl⟩ : OpL)]) from Rd.newS rfl [.int .i64 o.kind, .int .i64 o.n, .slice A2 o.sn c2] _ 1 3 rfl)
     have HA7 := Lib.hid (opapply_any S7.out (i := 1) rfl [(⟨o.kind, o.n, A2, o.sn, c2, o.sl⟩ : OpL)] (some ⟨w6.heap.size, 0, none⟩) 1 1 (fun W' f => ⟨R7.out.fr f (fun j hj hn => by
       obtain ⟨_, ad, e, h3⟩ := hj
       cases e
       simp only at h3
       exact hn.2 (.inr ⟨by omega, by omega⟩)), fun x hx => by
       rw [List.mem_singleton] at hx
       rw [hx]
       have h0 := HOk.out _ B7.out
       have h1 := own_any (own_fr O7.out f (fun j hj h => h.2 (.inl (HRo.out j hj))))
       exact ⟨h0.kind, h0.n, h1.2.2.1, h0.slen, h1.1, h1.2.1, h0.swf⟩⟩) (fun x hx => by
       rw [List.mem_singleton] at hx
       rw [hx]
       exact ⟨by have := Hb1.out (by trivial); show o.sn ≤ 1000000; omega, fun j hj => .inr (.inl (HRo.out j (adF_row j hj)))⟩) (by omega) (by omega))
     have e2 := apL_one (⟨o.kind, o.n, A2, o.sn, c2, o.sl⟩ : OpL) Qk
     rw [HOp.out Qk (⟨o.kind, o.n, A2, o.sn, c2, o.sl⟩ : OpL) rfl rfl rfl] at e2
     obtain ⟨N7, hN7⟩ : ∃ v, (apL [(⟨o.kind, o.n, A2, o.sn, c2, o.sl⟩ : OpL)] Qk).1 = v := ⟨_, rfl⟩
     rw [hN7, e2, hE, hQ6] at HA7
     clear h6 b6 f6 f7 hE hQ6 hN7 e2 HA5 X5 O5
     go_wp2_with fail
     refine HA7.out.mono ?_
     rintro r w8 ⟨rfl, h8, b8, _⟩
     have S8 := Lib.hid (show Sts w8 w.heap.size [(ga, Q6), (gb, Q6)] (cc + 8 * 1 + 8 * 1) from h8.drop_)
     have B8 := Lib.hid (B7.out.trans b8)
     clear h8 b8 HA7 x0 x1 x2
     go_wp2_with fail
     go_roundw
     case rel => exact ⟨k + 1, cc + 8 * 1 + 8 * 1, Q6, by omega, by go_num, by omega, S8.out, B8.out⟩
     case measure => simp [intOf]; omega
  ·clear hs hb
   go_wp2_with fail
   refine (HAl.out wr).mono ?_
   rintro r w6 ⟨rfl, b6⟩
   have S6 := Lib.hid (Hs.out.fr0 (Fr.b0 b6))
   have B6 := Lib.hid (Hb.out.trans (b6.mono hlr))
   have HS6 := Lib.hid (ss_same S6.out (i := 0) (j := 1) rfl rfl (by omega))
   rw [sameSt_self] at HS6
   have hl6 := S6.out.lo_le (i := 0) rfl
   clear b6
   go_wp2_with fail
   refine HS6.out.mono ?_
   rintro r w7 ⟨rfl, b7⟩
   go_wp2_with fail
   go_ret
   exact ⟨by first | rfl | simp, B6.out.trans (b7.mono hl6)⟩
end Go.Proofs.YtkfdgodngbinlaaGreatDoor
