/- Walk of rec.GetSamples; rec.Get and rec.GetSamples of a length that is none. -/
import Derived.Test.YtkfdgodngbinlaaGreatDoorSame
namespace Go.Proofs.YtkfdgodngbinlaaGreatDoor
set_option linter.all false
open Go.RowKit

theorem samplesget_short (s : ByteArray) (hs : s.size ≤ 1099511627776) (h : s.size % 32 ≠ 0) (w : World) :
  Calls Tryz.prog 77 #[.string s] w fun r w' => r = .returned (.tuple #[.slice none 0 0, .int .i64 5]) ∧ w = w' := by
 have hm : (s.size : Int) % 32 ≠ 0 := by omega
 have hm2 : (s.size : Int).tmod 32 ≠ 0 := by rw [Int.tmod_eq_emod_of_nonneg (by omega)]; exact hm
 go_enter Tryz.func77, Tryz.ntmps77
 go_wp2_with fail
 go_ret2
 exact ⟨rfl, rfl⟩

set_option maxRecDepth 100000 in
set_option maxHeartbeats 4000000 in
theorem samplesget_any (l : List UInt8) (n : Nat) (hl : l.length = 32 * n) (hn : l.length ≤ 1099511627776) (w : World) :
  Calls Tryz.prog 77 #[.string (bstr l)] w fun r w' => (sampsOk l n = true → ∃ A c, r = .returned (.tuple #[.slice A n c, .int .i64 0]) ∧ w'.ownsRow w.heap.size 44 3 (.slice A n c) n (scells (sampsRd l n))) ∧ (sampsOk l n = false → r = .returned (.tuple #[.slice none 0 0, .int .i64 6])) ∧ Below w.heap.size w w' := by
 have hz := bstr_size l
 have hcl : ∀ k, k < n → (bstr l).extract (32 * k) (32 * k + 32) = bstr (chunk 32 l k) := fun k hk => by
  rw [bstr_extract, List.drop_take, show 32 * k + 32 - 32 * k = 32 by omega]; rfl
 have hcz : ∀ k, (chunk 32 l k).length ≤ 1099511627776 := fun k => by unfold chunk; rw [List.length_take]; omega
 have HCL := Lib.hid hcl
 have HCZ := Lib.hid hcz
 clear hcl hcz
 obtain ⟨S, hS⟩ : ∃ S, bstr l = S := ⟨_, rfl⟩
 rw [hS] at hz HCL ⊢
 have hsz : (S.size : Int) = 32 * (n : Int) := by omega
 have hmod : (S.size : Int) % 32 = 0 := by omega
 have hmod2 : (S.size : Int).tmod 32 = 0 := by rw [Int.tmod_eq_emod_of_nonneg (by omega)]; exact hmod
 have hn2 : n ≤ 34359738368 := by omega
 have hsz2 : S.size = 32 * n := by omega
 have Hsz := Lib.hid hsz2
 have hSb : S.size ≤ 1099511627776 := by omega
 obtain ⟨i0, hi, hz0, hz1, hz2⟩ := info_parts info_samp
 clear hS hz hl hn hsz hsz2
 go_enter Tryz.func77, Tryz.ntmps77
 go_wp2_with fail
 clear hmod hmod2
 go_loopw [4, 5] (fun o i wr => ∃ (k j : Nat) (R : Option Addr) (cs : Nat), k ≤ n ∧ i = .int .i64 j ∧ Hid (j = 32 * k) ∧ o = .slice R k cs ∧ wr.ownsRow w.heap.size 44 3 (.slice R k cs) k (scells (sampsRd l k)) ∧ Hid (sampsOk l k = true) ∧ Own w wr (rowF (.slice R k cs))) (fun _ i _ => S.size - (intOf i).toNat)
 case atStart => exact ⟨0, 0, none, 0, Nat.zero_le _, rfl, rfl, rfl, World.ownsRow_nil _ _ _ _, rfl, (Own.start w).also (fun k hk => by cases hk)⟩
 case round =>
  obtain ⟨k, j, R, cs, hk, rfl, hj, rfl, hrow, hall, ho⟩ := hrel
  have Hrow := Lib.hid hrow
  have Ho := Lib.hid ho
  have hwr := Lib.hid ho.bel.size
  clear hrow ho
  by_cases hlt : k < n
  ·have hjn : j < S.size := by have := hj.out; have := Hsz.out; omega
   have hjn2 : j + 32 ≤ S.size := by have := hj.out; have := Hsz.out; omega
   have hji : (j : Int) + 32 ≤ (S.size : Int) := by omega
   have hto : ((j : Int) + 32).toNat = j + 32 := by omega
   have HX := Lib.hid (HCL.out k hlt)
   rw [← hj.out] at HX
   obtain ⟨X, hX⟩ : ∃ X, chunk 32 l k = X := ⟨_, rfl⟩
   have hXl := HCZ.out k
   rw [hX] at HX hXl
   have HF : Hid (∀ w', Calls Tryz.prog 74 #[.string (S.extract j (j + 32))] w' fun r w'' => ∃ g, r = .returned (.pointer (some ⟨g, 0, none⟩)) ∧ Up w'' g 0 X ∧ Below w'.heap.size w' w'' ∧ w'.heap.size ≤ g) := fun w' => by
    rw [HX.out]
    exact from_any X w' hXl
   have hRd : sampRd X = sampRd X := rfl
   have hwf := sampRd_wf X
   obtain ⟨⟨e1, b1, nm⟩, hN⟩ : ∃ p, uName 0 X = p := ⟨_, rfl⟩
   obtain ⟨⟨e2, b2, ti⟩, hT⟩ : ∃ p, uTake e1 b1 8 = p := ⟨_, rfl⟩
   obtain ⟨⟨e3, b3, va⟩, hV⟩ : ∃ p, uTake e2 b2 8 = p := ⟨_, rfl⟩
   have hb1 : b1.length ≤ 1099511627776 := by have := uName_rest 0 X; rw [hN] at this; simp only at this; omega
   have hb2 : b2.length ≤ 1099511627776 := by have := uTake_rest e1 b1 8; rw [hT] at this; simp only at this; omega
   have hS2 : sampRd X = ⟨bstr nm, sgn (ofLe ti), sgn (ofLe va)⟩ := by unfold sampRd; rw [hN]; simp only; rw [hT]; simp only; rw [hV]
   have HN : Hid (∀ g w', Up w' g 0 X → Calls Tryz.prog 120 #[.pointer (some ⟨g, 0, none⟩)] w' fun r w'' => r = .returned (.string (bstr nm)) ∧ Up w'' g e1 b1 ∧ Fr (fun k => k = g) w' w'') := fun g w' h => by
    have := name_any g 0 X w' h hXl
    rw [hN] at this
    exact this
   have HI1 : Hid (∀ g w', Up w' g e1 b1 → Calls Tryz.prog 76 #[.pointer (some ⟨g, 0, none⟩)] w' fun r w'' => r = .returned (.int .i64 (sgn (ofLe ti))) ∧ Up w'' g e2 b2 ∧ Fr (fun k => k = g) w' w'') := fun g w' h => by
    have := int_any g e1 b1 w' h hb1
    rw [hT] at this
    exact this
   have HI2 : Hid (∀ g w', Up w' g e2 b2 → Calls Tryz.prog 76 #[.pointer (some ⟨g, 0, none⟩)] w' fun r w'' => r = .returned (.int .i64 (sgn (ofLe va))) ∧ Up w'' g e3 b3 ∧ Fr (fun k => k = g) w' w'') := fun g w' h => by
    have := int_any g e2 b2 w' h hb2
    rw [hV] at this
    exact this
   obtain ⟨rr, hrr⟩ : ∃ rr : SampV, sampRd X = rr := ⟨_, rfl⟩
   have HP := Lib.hid (fun w' => putsamp_any rr (hrr ▸ hwf) w')
   have hlen : Hid (sampOk rr = true → (bstr (sampB rr)).size ≤ 64) := fun h => by rw [bstr_size, sampB_len rr (validB_ofs h)]; decide
   have HE : Hid (((bstr (sampB rr)).toList != (S.extract j (j + 32)).toList) = !decide (sampB rr = X)) := by
    show _ = _
    rw [HX.out, Lib.toList_data, Lib.toList_data, bstr_list, bstr_list]
    rw [Bool.eq_iff_iff]; simp
   have HG : Hid (sgetOk (chunk 32 l k) = (sampOk rr && decide (sampB rr = X))) := by show _ = _; rw [hX]; unfold sgetOk; rw [hrr]
   have Hs : Hid (scells (sampsRd l (k + 1)) = scells (sampsRd l k) ++ rr.cells) := by
    show _ = _
    rw [sampsRd_snoc, hX, hrr]; unfold scells; rw [List.flatMap_append]; simp
   obtain ⟨NM, hNM⟩ : ∃ NM, bstr nm = NM := ⟨_, rfl⟩
   obtain ⟨TI, hTI⟩ : ∃ TI, sgn (ofLe ti) = TI := ⟨_, rfl⟩
   obtain ⟨VA, hVA⟩ : ∃ VA, sgn (ofLe va) = VA := ⟨_, rfl⟩
   rw [hNM] at HN
   rw [hTI] at HI1
   rw [hVA] at HI2
   have hrv : rr = ⟨NM, TI, VA⟩ := by rw [← hrr, hS2, hNM, hTI, hVA]
   have HRV := Lib.hid (show rr.val = .agg #[.string NM, .int .i64 TI, .int .i64 VA] by rw [hrv]; rfl)
   have HRC := Lib.hid (show rr.cells = [.string NM, .int .i64 TI, .int .i64 VA] by rw [hrv]; rfl)
   rw [HRV.out] at HP
   rw [HRC.out] at Hs
   clear hrr hN hT hV hb1 hb2 hRd hwf hNM hTI hVA hX hXl hS2 hrv HRV HRC HX
   go_wp2_with fail
   refine (HF.out _).mono ?_
   rintro r w1 ⟨g, rfl, u1, f1, hg⟩
   have O1 := Lib.hid (((Ho.out.below f1).also (G := fun i => rowF (.slice R k cs) i ∨ i = g) (fun i hi => hi.elim (Ho.out.new i) (fun h => by have := hwr.out; omega))))
   have R1 := Lib.hid (own_fr0 Hrow.out (Fr.b0 f1))
   have hgn : Hid (∀ i, rowF (.slice R k cs) i → i ≠ g) := fun i hi e => by have := own_lt Hrow.out i hi; omega
   have U1 := Lib.hid u1
   clear u1 f1 hg HF Hrow Ho
   go_wp2_with fail
   refine (HN.out g w1 U1.out).mono ?_
   rintro r w2 ⟨rfl, u2, f2⟩
   have U2 := Lib.hid u2
   have O2 := Lib.hid (O1.out.mv ⟨f2.mono (fun i hi => .inl (.inr hi)), fun i hi => .inl hi⟩)
   have R2 := Lib.hid (own_fr R1.out f2 (fun i hi => hgn.out i hi))
   clear u2 f2 U1 O1 R1
   go_wp2_with fail
   refine (HI1.out g w2 U2.out).mono ?_
   rintro r w3 ⟨rfl, u3, f3⟩
   have U3 := Lib.hid u3
   have O3 := Lib.hid (O2.out.mv ⟨f3.mono (fun i hi => .inl (.inr hi)), fun i hi => .inl hi⟩)
   have R3 := Lib.hid (own_fr R2.out f3 (fun i hi => hgn.out i hi))
   clear u3 f3 U2 O2 R2
   go_wp2_with fail
   refine (HI2.out g w3 U3.out).mono ?_
   rintro r w4 ⟨rfl, u4, f4⟩
   have O4 := Lib.hid ((O3.out.mv ⟨f4.mono (fun i hi => .inl (.inr hi)), fun i hi => .inl hi⟩).also (G := rowF (.slice R k cs)) (fun i hi => O3.out.new i (.inl hi)))
   have R4 := Lib.hid (own_fr R3.out f4 (fun i hi => hgn.out i hi))
   clear u4 f4 U3 O3 R3 HN HI1 HI2
   go_wp2_with fail
   refine (HP.out _).mono ?_
   rintro r w5 ⟨rfl, f5⟩
   have O5 := Lib.hid ((O4.out.skip (Fr.none_alloc w4 (.cells #[.string NM, .int .i64 TI, .int .i64 VA] 44))).below f5)
   have R5 := Lib.hid (own_fr0 (own_fr0 R4.out (Fr.none_alloc w4 (.cells #[.string NM, .int .i64 TI, .int .i64 VA] 44))) (Fr.b0 f5))
   have B5 := (Blk.new w4 44 #[.string NM, .int .i64 TI, .int .i64 VA]).below f5
   have c0 := B5.cell 0
   have c1 := B5.cell 1
   have c2 := B5.cell 2
   simp only [List.getElem?_toArray, List.getElem?_cons_succ, List.getElem?_cons_zero] at c0 c1 c2
   clear f5 O4 R4 HP B5
   have hw5 := Lib.hid O5.out.bel.size
   have hE := HE.out
   cases hok : sampOk rr
   ·have HF := Lib.hid (sampsOk_false hlt (show sgetOk (chunk 32 l k) = false by rw [HG.out, hok]; rfl))
    clear hok hE
    go_wp2_with fail
    go_ret2
    exact ⟨(fun h => by rw [HF.out] at h; cases h), fun _ => rfl, O5.out.bel⟩
   ·have hsz := hlen.out hok
    by_cases heq : sampB rr = X
    ·have HT : Hid (sampsOk l (k + 1) = true) := by show _ = _; rw [sampsOk_snoc, hall.out, HG.out, hok, decide_eq_true heq]; rfl
     rw [decide_eq_true heq, Bool.not_true] at hE
     obtain ⟨T, hT⟩ : ∃ T, bstr (sampB rr) = T := ⟨_, rfl⟩
     rw [hT] at hE hsz ⊢
     have hE2 : (T.toList == (S.extract j (j + 32)).toList) = true := by simpa using hE
     clear hok heq hT
     go_wp2_with (at_builtin; refine wpList_app2 rfl _ _ 22 rfl 44 i0 _ 3 32 Tryz.underlying22 hi hz0 hz1 hz2 rfl (by decide) (.slice R k cs) k _ rfl w.heap.size (by have := hw5.out; simp; omega) (own_fr0 R5.out (Fr.none_alloc _ _)) (some ⟨w5.heap.size, 0, none⟩) 1 1 [.string NM, .int .i64 TI, .int .i64 VA] rfl (Rd.newS (by simp) _ _ _ _ rfl) (by simp [Value.oneCell']) ?q1 ?q2 ?_)
     case q1 => unfold maxLen; omega
     case q2 => omega
     intro R6 c6 w6 ho6 hm6 _
     have Ho6 := Lib.hid ho6
     have Hm6 := Lib.hid hm6
     clear ho6 hm6
     go_wp2
     go_roundw
     case rel =>
      refine ⟨k + 1, j + 32, R6, c6, by omega, by go_num, by have := hj.out; show _ = _; omega, by go_num, ?_, HT.out, (O5.out.skip (Fr.none_alloc _ _)).mv Hm6.out⟩
      rw [Hs.out]
      exact Ho6.out
     case measure => simp [intOf]; omega
    ·have HF := Lib.hid (sampsOk_false hlt (show sgetOk (chunk 32 l k) = false by rw [HG.out, decide_eq_false heq, Bool.and_false]))
     rw [decide_eq_false heq, Bool.not_false] at hE
     obtain ⟨T, hT⟩ : ∃ T, bstr (sampB rr) = T := ⟨_, rfl⟩
     rw [hT] at hE hsz ⊢
     have hE2 : (T.toList == (S.extract j (j + 32)).toList) = false := by simpa using hE
     clear hok heq hT
     go_wp2_with fail
     go_ret2
     exact ⟨(fun h => by rw [HF.out] at h; cases h), fun _ => rfl, O5.out.bel⟩
  ·obtain rfl : k = n := by omega
   have hje : ¬ (j : Int) < (S.size : Int) := by have := hj.out; have := Hsz.out; omega
   go_wp2_with fail
   go_ret2
   exact ⟨fun _ => ⟨R, cs, rfl, Hrow.out⟩, fun h => (by rw [hall.out] at h; cases h), Ho.out.bel⟩
def sgetL (l : List UInt8) : List SampV := if l.length % 32 = 0 then (bif sampsOk l (l.length / 32) then sampsRd l (l.length / 32) else []) else []
def sgetE (l : List UInt8) : Int := if l.length % 32 = 0 then (bif sampsOk l (l.length / 32) then 0 else 6) else 5
theorem sgetL_len (l : List UInt8) : (sgetL l).length ≤ l.length := by
 unfold sgetL
 split
 ·cases sampsOk l (l.length / 32)
  ·simp
  ·simp [sampsRd]; omega
 ·simp
theorem gs_any (l : List UInt8) (hn : l.length ≤ 1099511627776) (w : World) :
  Calls Tryz.prog 77 #[.string (bstr l)] w fun r w' => ∃ A n c, r = .returned (.tuple #[.slice A n c, .int .i64 (sgetE l)]) ∧ w'.ownsRow w.heap.size 44 3 (.slice A n c) n (scells (sgetL l)) ∧ Below w.heap.size w w' := by
 by_cases h : l.length % 32 = 0
 ·refine (samplesget_any l (l.length / 32) (by omega) hn w).mono ?_
  rintro r w' ⟨h1, h2, h3⟩
  unfold sgetL sgetE
  rw [if_pos h, if_pos h]
  cases hok : sampsOk l (l.length / 32)
  ·exact ⟨none, 0, 0, h2 hok, World.ownsRow_nil _ _ _ _, h3⟩
  ·obtain ⟨A, c, e, ho⟩ := h1 hok
   exact ⟨A, _, c, e, ho, h3⟩
 ·refine (samplesget_short (bstr l) (by rw [bstr_size]; exact hn) (by rw [bstr_size]; exact h) w).mono ?_
  rintro r w' ⟨h1, rfl⟩
  unfold sgetL sgetE
  rw [if_neg h, if_neg h]
  exact ⟨none, 0, 0, h1, World.ownsRow_nil _ _ _ _, Below.refl _ _⟩
theorem sgetL_wf (l : List UInt8) : ∀ r ∈ sgetL l, r.wf := by
 intro r hr
 unfold sgetL at hr
 split at hr
 ·cases h : sampsOk l (l.length / 32)
  ·rw [h] at hr; cases hr
  ·rw [h] at hr
   obtain ⟨k, _, rfl⟩ := List.mem_map.1 hr
   exact sampRd_wf _
 ·cases hr
end Go.Proofs.YtkfdgodngbinlaaGreatDoor
