/- Walk of sedimentref10.GetSamples. -/
import Derived.Test.YtkickdmiilmkoaaGreatDoorRef1B
import Derived.Test.YtkickdmiilmkoaaGreatDoorGetS
namespace Go.Proofs.YtkickdmiilmkoaaGreatDoor
open Go.RowKit

theorem rsamplesget_short (s : ByteArray) (hs : s.size ≤ 1099511627776) (h : s.size % 32 ≠ 0) (w : World) :
    Calls Tryz.prog 34 #[.string s] w fun r w' => r = .returned (.tuple #[.slice none 0 0, .int .i64 5]) ∧ w = w' := by
  have hm : (s.size : Int) % 32 ≠ 0 := by omega
  have hm2 : (s.size : Int).tmod 32 ≠ 0 := by rw [Int.tmod_eq_emod_of_nonneg (by omega)]; exact hm
  go_enter Tryz.func34, Tryz.ntmps34
  go_wp2_with fail
  go_ret2
  exact ⟨rfl, rfl⟩
set_option maxRecDepth 100000 in
set_option maxHeartbeats 4000000 in
theorem rsamplesget_any (l : List UInt8) (n : Nat) (hl : l.length = 32 * n) (hn : l.length ≤ 1099511627776) (w : World) :
    Calls Tryz.prog 34 #[.string (bstr l)] w fun r w' => (sampsOk l n = true → ∃ A c, r = .returned (.tuple #[.slice A n c, .int .i64 0]) ∧ w'.ownsRow w.heap.size 82 3 (.slice A n c) n (scells (sampsRd l n))) ∧ (sampsOk l n = false → r = .returned (.tuple #[.slice none 0 0, .int .i64 6])) ∧ Below w.heap.size w w' := by
  have hz := bstr_size l
  have hcl : ∀ k, k < n → (bstr l).extract (32 * k) (32 * k + 32) = bstr (chunk 32 l k) := fun k hk => by
    rw [bstr_extract, List.drop_take, show 32 * k + 32 - 32 * k = 32 by omega]; rfl
  have HCL := Lib.hid hcl
  have HCZ : Hid (∀ k, k < n → (chunk 32 l k).length = 32) := fun k hk => chunk_len hl hk
  clear hcl
  obtain ⟨S, hS⟩ : ∃ S, bstr l = S := ⟨_, rfl⟩
  rw [hS] at hz HCL ⊢
  have hsz : (S.size : Int) = 32 * (n : Int) := by omega
  have hmod : (S.size : Int) % 32 = 0 := by omega
  have hmod2 : (S.size : Int).tmod 32 = 0 := by rw [Int.tmod_eq_emod_of_nonneg (by omega)]; exact hmod
  have hn2 : n ≤ 34359738368 := by omega
  have hsz2 : S.size = 32 * n := by omega
  have Hsz := Lib.hid hsz2
  have hSb : S.size ≤ 1099511627776 := by omega
  obtain ⟨i0, hi, hz0, hz1, hz2⟩ := info_parts info_samp
  clear hS hz hl hn hsz hsz2
  go_enter Tryz.func34, Tryz.ntmps34
  go_wp2_with fail
  clear hmod hmod2
  go_loopw [4, 5] (fun o i wr => ∃ (k j : Nat) (R : Option Addr) (cs : Nat), k ≤ n ∧ i = .int .i64 j ∧ Hid (j = 32 * k) ∧ o = .slice R k cs ∧ wr.ownsRow w.heap.size 82 3 (.slice R k cs) k (scells (sampsRd l k)) ∧ Hid (sampsOk l k = true) ∧ Own w wr (rowF (.slice R k cs))) (fun _ i _ => S.size - (intOf i).toNat)
  case atStart => exact ⟨0, 0, none, 0, Nat.zero_le _, rfl, rfl, rfl, World.ownsRow_nil _ _ _ _, rfl, (Own.start w).also (fun k hk => by cases hk)⟩
  case round =>
    obtain ⟨k, j, R, cs, hk, rfl, hj, rfl, hrow, hall, ho⟩ := hrel
    have Hrow := Lib.hid hrow
    have Ho := Lib.hid ho
    have hwr := Lib.hid ho.bel.size
    clear hrow ho
    by_cases hlt : k < n
    · have hjn : j < S.size := by have := hj.out; have := Hsz.out; omega
      have hjn2 : j + 32 ≤ S.size := by have := hj.out; have := Hsz.out; omega
      have hji : (j : Int) + 32 ≤ (S.size : Int) := by omega
      have hto : ((j : Int) + 32).toNat = j + 32 := by omega
      have HX := Lib.hid (HCL.out k hlt)
      rw [← hj.out] at HX
      obtain ⟨X, hX⟩ : ∃ X, chunk 32 l k = X := ⟨_, rfl⟩
      have hXl := HCZ.out k hlt
      rw [hX] at HX hXl
      have hwf := sampRd_wf X
      have herr := sname_err hXl
      obtain ⟨⟨e1, b1, nm⟩, hN⟩ : ∃ p, uName 0 X = p := ⟨_, rfl⟩
      rw [hN] at herr
      simp only at herr
      obtain ⟨⟨e2, b2, ti⟩, hT⟩ : ∃ p, uTake e1 b1 8 = p := ⟨_, rfl⟩
      rw [hT] at herr
      simp only at herr
      obtain ⟨⟨e3, b3, va⟩, hV⟩ : ∃ p, uTake e2 b2 8 = p := ⟨_, rfl⟩
      rw [hV] at herr
      simp only at herr
      have hb1 : b1.length ≤ 1099511627776 := by have := uName_rest 0 X; rw [hN] at this; simp only at this; omega
      have hb2 : b2.length ≤ 1099511627776 := by have := uTake_rest e1 b1 8; rw [hT] at this; simp only at this; omega
      have hS2 : sampRd X = ⟨bstr nm, sgn (ofLe ti), sgn (ofLe va)⟩ := by unfold sampRd; rw [hN]; simp only; rw [hT]; simp only; rw [hV]
      have HN : Hid (∀ g w', Uq w' g 0 X → Calls Tryz.prog 89 #[.pointer (some ⟨g, 0, none⟩)] w' fun r w'' => r = .returned (.string (bstr nm)) ∧ Uq w'' g e1 b1 ∧ Fr (fun k => k = g) w' w'') := fun g w' h => by
        have := rname_get g 0 X w' h (by omega)
        rw [hN] at this
        exact this
      have HI1 : Hid (∀ g w', Uq w' g e1 b1 → Calls Tryz.prog 90 #[.pointer (some ⟨g, 0, none⟩)] w' fun r w'' => r = .returned (.int .i64 (sgn (ofLe ti))) ∧ Uq w'' g e2 b2 ∧ Fr (fun k => k = g) w' w'') := fun g w' h => by
        have := rint_get g e1 b1 w' h hb1
        rw [hT] at this
        exact this
      have HI2 : Hid (∀ g w', Uq w' g e2 b2 → Calls Tryz.prog 90 #[.pointer (some ⟨g, 0, none⟩)] w' fun r w'' => r = .returned (.int .i64 (sgn (ofLe va))) ∧ Uq w'' g e3 b3 ∧ Fr (fun k => k = g) w' w'') := fun g w' h => by
        have := rint_get g e2 b2 w' h hb2
        rw [hV] at this
        exact this
      obtain ⟨rr, hrr⟩ : ∃ rr : SampV, sampRd X = rr := ⟨_, rfl⟩
      rw [hrr] at herr
      have HErr := Lib.hid herr
      have HP := Lib.hid (fun w' => rvalidS_any rr (hrr ▸ hwf).2.2 w')
      have HG : Hid (sgetOk (chunk 32 l k) = sampOk rr) := by show _ = _; rw [hX, sget_ok hXl, hrr]
      have Hs : Hid (scells (sampsRd l (k + 1)) = scells (sampsRd l k) ++ rr.cells) := by
        show _ = _
        rw [sampsRd_snoc, hX, hrr]; unfold scells; rw [List.flatMap_append]; simp
      obtain ⟨NM, hNM⟩ : ∃ NM, bstr nm = NM := ⟨_, rfl⟩
      obtain ⟨TI, hTI⟩ : ∃ TI, sgn (ofLe ti) = TI := ⟨_, rfl⟩
      obtain ⟨VA, hVA⟩ : ∃ VA, sgn (ofLe va) = VA := ⟨_, rfl⟩
      rw [hNM] at HN
      rw [hTI] at HI1
      rw [hVA] at HI2
      have hrv : rr = ⟨NM, TI, VA⟩ := by rw [← hrr, hS2, hNM, hTI, hVA]
      have HRV := Lib.hid (show rr.val = .agg #[.string NM, .int .i64 TI, .int .i64 VA] by rw [hrv]; rfl)
      have HRC := Lib.hid (show rr.cells = [.string NM, .int .i64 TI, .int .i64 VA] by rw [hrv]; rfl)
      rw [HRV.out] at HP
      rw [HRC.out] at Hs
      have U0 : Hid (Uq (wr.alloc (.cells #[.string (S.extract j (j + 32)), .int .i64 0] 125)) wr.heap.size 0 X) := by
        show Blk _ _ _ _
        rw [← HX.out]; exact Blk.new _ _ _
      have O0 := Lib.hid ((Ho.out.skip (Fr.none_alloc wr (.cells #[.string (S.extract j (j + 32)), .int .i64 0] 125))).also (G := fun i => rowF (.slice R k cs) i ∨ i = wr.heap.size) (fun i hi => hi.elim (Ho.out.new i) (fun h => by have := hwr.out; omega)))
      have R0 := Lib.hid (own_fr0 Hrow.out (Fr.none_alloc wr (.cells #[.string (S.extract j (j + 32)), .int .i64 0] 125)))
      have hgn : Hid (∀ i, rowF (.slice R k cs) i → i ≠ wr.heap.size) := fun i hi e => by have := own_lt Hrow.out i hi; omega
      clear hrr hN hT hV hb1 hb2 hwf hNM hTI hVA hX hXl hS2 hrv HRV HRC HX herr Hrow Ho
      go_wp2_with fail
      refine (HN.out _ _ U0.out).mono ?_
      rintro r w2 ⟨rfl, u2, f2⟩
      have U2 := Lib.hid u2
      have O2 := Lib.hid (O0.out.mv ⟨f2.mono (fun i hi => .inl (.inr hi)), fun i hi => .inl hi⟩)
      have R2 := Lib.hid (own_fr R0.out f2 (fun i hi => hgn.out i hi))
      have hw2 := Lib.hid U2.out.lt
      clear u2 f2 U0 O0 R0
      go_wp2_with fail
      obtain ⟨G, hG⟩ : ∃ G, wr.heap.size = G := ⟨_, rfl⟩
      rw [hG] at U2 hgn O2 hw2 ⊢
      have hGw : Hid (w.heap.size ≤ G) := by have := hwr.out; show _ ≤ _; omega
      clear hG
      refine (HI1.out G _ (Blk.alloc U2.out (.cells #[.string NM, .int .i64 0, .int .i64 0] 82))).mono ?_
      rintro r w3 ⟨rfl, u3, f3⟩
      have U3 := Lib.hid u3
      have O3 := Lib.hid ((O2.out.skip (Fr.none_alloc w2 (.cells #[.string NM, .int .i64 0, .int .i64 0] 82))).mv ⟨f3.mono (fun i hi => .inl (.inr hi)), fun i hi => .inl hi⟩)
      have R3 := Lib.hid (own_fr (own_fr0 R2.out (Fr.none_alloc w2 (.cells #[.string NM, .int .i64 0, .int .i64 0] 82))) f3 (fun i hi => hgn.out i hi))
      have B3 := (Blk.new w2 82 #[.string NM, .int .i64 0, .int .i64 0]).fr f3 (by have := hw2.out; omega)
      have HB3 := Lib.hid B3
      have hs2 : Hid (∀ i, rowF (.slice R k cs) i → i ≠ w2.heap.size) := fun i hi e => by have := own_lt R2.out i hi; omega
      have s0 := B3.cell 0
      have s1 := B3.cell 1
      have s2 := B3.cell 2
      have q1 := B3.frozen 1
      simp only [List.getElem?_toArray, List.getElem?_cons_succ, List.getElem?_cons_zero] at s0 s1 s2
      clear u3 f3 U2 B3
      go_wp2_with fail
      clear s0 s1 s2 q1
      have hne : Hid (G ≠ w2.heap.size) := by have := hw2.out; show _ ≠ _; omega
      have B4 := HB3.out.set_ 1 (.int .i64 TI)
      have hw20 : Hid (w.heap.size ≤ w2.heap.size) := O2.out.bel.size
      have F4 : Fr (fun i => i = w2.heap.size) w3 (w3.setCell ⟨w2.heap.size, 1, none⟩ (.int .i64 TI)) := (Fr.refl (fun i => i = w2.heap.size) w3).setCell (p := ⟨w2.heap.size, 1, none⟩) (.inl rfl) _
      have U4 := Lib.hid (Blk.fr U3.out F4 (fun e => hne.out e))
      have O4 := Lib.hid ((O3.out.also (G := fun i => (rowF (.slice R k cs) i ∨ i = G) ∨ i = w2.heap.size) (fun i hi => hi.elim (O3.out.new i) (fun h => by have := hw20.out; omega))).mv ⟨F4.mono (fun i hi => .inl (.inr hi)), fun i hi => .inl hi⟩)
      have R4 := Lib.hid (own_fr R3.out F4 (fun i hi => hs2.out i hi))
      obtain ⟨W4, hW4⟩ : ∃ W4, W4 = w3.setCell ⟨w2.heap.size, 1, none⟩ (.int .i64 TI) := ⟨_, rfl⟩
      rw [← hW4] at B4 U4 O4 R4 ⊢
      have B4' : Blk W4 w2.heap.size 82 #[.string NM, .int .i64 TI, .int .i64 0] := by simpa using B4
      have HB4 := Lib.hid B4'
      clear hW4 F4 B4 B4' HB3 U3 O3 R3
      refine (HI2.out G W4 U4.out).mono ?_
      rintro r w5 ⟨rfl, u5, f5⟩
      have U5 := Lib.hid u5
      have O5 := Lib.hid (O4.out.mv ⟨f5.mono (fun i hi => .inl (.inl (.inr hi))), fun i hi => .inl hi⟩)
      have R5 := Lib.hid (own_fr R4.out f5 (fun i hi => hgn.out i hi))
      have B5 := HB4.out.fr f5 (fun e => hne.out e.symm)
      have HB5 := Lib.hid B5
      have s0 := B5.cell 0
      have s1 := B5.cell 1
      have s2 := B5.cell 2
      have q2 := B5.frozen 2
      have hu1 := u5.cell 1
      simp only [List.getElem?_toArray, List.getElem?_cons_succ, List.getElem?_cons_zero] at s0 s1 s2 hu1
      clear u5 f5 U4 B5 O4 R4 HB4
      have hgz : ¬ G = w2.heap.size := hne.out
      have HF6 : Hid (∀ W, W = w5.setCell ⟨w2.heap.size, 2, none⟩ (.int .i64 VA) → Blk W w2.heap.size 82 #[.string NM, .int .i64 TI, .int .i64 VA] ∧ W.ownsRow w.heap.size 82 3 (.slice R k cs) k (scells (sampsRd l k)) ∧ Own w W (rowF (.slice R k cs)) ∧ w.heap.size ≤ W.heap.size) := fun W hW => by
        have F6 : Fr (fun i => i = w2.heap.size) w5 (w5.setCell ⟨w2.heap.size, 2, none⟩ (.int .i64 VA)) := (Fr.refl (fun i => i = w2.heap.size) w5).setCell (p := ⟨w2.heap.size, 2, none⟩) (.inl rfl) _
        have O6 := O5.out.mv (F' := fun i => (rowF (.slice R k cs) i ∨ i = G) ∨ i = w2.heap.size) ⟨F6.mono (fun i hi => .inl (.inr hi)), fun i hi => .inl hi⟩
        subst hW
        refine ⟨by have := HB5.out.set_ 2 (.int .i64 VA); simpa using this, own_fr R5.out F6 (fun i hi => hs2.out i hi), O6.also (fun i hi => O6.new i (.inl (.inl hi))), O6.bel.size⟩
      cases hok : sampOk rr
      · have HF := Lib.hid (sampsOk_false hlt (show sgetOk (chunk 32 l k) = false by rw [HG.out, hok]))
        rw [hok] at HP
        clear hok
        by_cases h3 : e3 = 0
        · subst h3
          go_wp2_with fail
          refine (HP.out _).mono ?_
          rintro r w7 ⟨rfl, b7⟩
          have O7 := Lib.hid ((HF6.out _ rfl).2.2.1.below b7)
          clear b7 s0 s1 s2 q2 hu1
          go_wp2_with fail
          go_ret2
          exact ⟨(fun h => by rw [HF.out] at h; cases h), fun _ => rfl, O7.out.bel⟩
        · have h3b : (e3 != 0) = true := by simpa using h3
          have h3c : (e3 == 0) = false := by simpa using h3
          go_wp2_with fail
          go_ret2
          exact ⟨(fun h => by rw [HF.out] at h; cases h), fun _ => rfl, (HF6.out _ rfl).2.2.1.bel⟩
      · have h3 := HErr.out hok
        subst h3
        have HT : Hid (sampsOk l (k + 1) = true) := by show _ = _; rw [sampsOk_snoc, hall.out, HG.out, hok]; rfl
        rw [hok] at HP
        clear hok
        go_wp2_with fail
        refine (HP.out _).mono ?_
        rintro r w7 ⟨rfl, b7⟩
        obtain ⟨B6, R6, O6, hs6⟩ := HF6.out _ rfl
        have O7 := Lib.hid (O6.below b7)
        have R7 := Lib.hid (own_fr0 R6 (Fr.b0 b7))
        have B7 := B6.below b7
        have hs7 := Lib.hid (Nat.le_trans hs6 b7.size)
        clear b7 s0 s1 s2 q2 hu1 B6 R6 O6 hs6
        have c0 := B7.cell 0
        have c1 := B7.cell 1
        have c2 := B7.cell 2
        simp only [List.getElem?_toArray, List.getElem?_cons_succ, List.getElem?_cons_zero] at c0 c1 c2
        clear B7
        go_wp2_with (at_builtin; refine wpList_app2 rfl _ _ 22 rfl 82 i0 _ 3 32 Tryz.underlying22 hi hz0 hz1 hz2 rfl (by decide) (.slice R k cs) k _ rfl w.heap.size (by have := hs7.out; simp; omega) (own_fr0 R7.out (Fr.none_alloc _ _)) (some ⟨w7.heap.size, 0, none⟩) 1 1 [.string NM, .int .i64 TI, .int .i64 VA] rfl (Rd.newS (by simp) _ _ _ _ rfl) (by simp [Value.oneCell']) ?q1 ?q2 ?_)
        case q1 => unfold maxLen; omega
        case q2 => omega
        intro R8 c8 w8 ho8 hm8 _
        have Ho8 := Lib.hid ho8
        have Hm8 := Lib.hid hm8
        clear ho8 hm8 c0 c1 c2
        go_wp2
        go_roundw
        case rel =>
          refine ⟨k + 1, j + 32, R8, c8, by omega, by go_num, by have := hj.out; show _ = _; omega, by go_num, ?_, HT.out, (O7.out.skip (Fr.none_alloc _ _)).mv Hm8.out⟩
          rw [Hs.out]
          exact Ho8.out
        case measure => simp [intOf]; omega
    · obtain rfl : k = n := by omega
      have hje : ¬ (j : Int) < (S.size : Int) := by have := hj.out; have := Hsz.out; omega
      go_wp2_with fail
      go_ret2
      exact ⟨fun _ => ⟨R, cs, rfl, Hrow.out⟩, fun h => (by rw [hall.out] at h; cases h), Ho.out.bel⟩
end Go.Proofs.YtkickdmiilmkoaaGreatDoor
