/- Walk of sedimentref10.GetRecords. -/
import Derived.Test.YtkickdmiilmkoaaGreatDoorRefRecC
import Derived.Test.YtkickdmiilmkoaaGreatDoorGetR
import Derived.Test.YtkickdmiilmkoaaGreatDoorRefGetS
namespace Go.Proofs.YtkickdmiilmkoaaGreatDoor
open Go.RowKit

theorem take24_name {X : List UInt8} (h : X.length = 64) : (X.take 24).take 16 = X.take 16 := by rw [List.take_take]; rfl
theorem take24_drop {X : List UInt8} : (X.take 24).drop 16 = (X.drop 16).take 8 := by rw [List.drop_take]
/-- What the document reads of 64 bytes, step by step: of good bytes. -/
theorem rstep_ok {X : List UInt8} (h : X.length = 64) (hok : getOk X = true) :
    uName 0 (X.take 24) = (0, (X.drop 16).take 8, ((X.take 16).drop 1).take ((X.take 16).headD 0).toNat) ∧ uTake 0 ((X.drop 16).take 8) 8 = (0, [], (X.drop 16).take 8) ∧ (aggGetV (X.drop 24)).2 = 0 ∧
    (recRd X).1 = ⟨bstr (((X.take 16).drop 1).take ((X.take 16).headD 0).toNat), sgn (ofLe ((X.drop 16).take 8)), (aggGetV (X.drop 24)).1⟩ := by
  rw [get_ok h] at hok
  by_cases hn : nameOk (X.take 16) = true
  · have e := recRd_ok h hn
    have ho := (recOk_parts hok).2.2
    rw [e] at ho
    have ha := aggGet_ok (t := X.drop 24) (by rw [List.length_drop]; omega) ho
    refine ⟨?_, ?_, by rw [ha], by rw [e]⟩
    · rw [uName_ok (by rw [List.length_take]; omega), take24_name h, if_pos hn, take24_drop]
    · have hl : ((X.drop 16).take 8).length = 8 := cut8 (by omega)
      rw [uTake_in (by omega)]
      rw [List.take_of_length_le (by omega : ((X.drop 16).take 8).length ≤ 8), List.drop_of_length_le (by omega)]
  · rw [recRd_bad h hn] at hok; cases hok
theorem rstep_bad {X : List UInt8} (h : X.length = 64) (hok : getOk X = false) :
    recOk ⟨bstr (uName 0 (X.take 24)).2.2, sgn (ofLe (uTake (uName 0 (X.take 24)).1 (uName 0 (X.take 24)).2.1 8).2.2), (aggGetV (X.drop 24)).1⟩ = false := by
  rw [get_ok h] at hok
  rw [uName_ok (by rw [List.length_take]; omega), take24_name h]
  by_cases hn : nameOk (X.take 16) = true
  · rw [if_pos hn, take24_drop]
    simp only
    have hl : ((X.drop 16).take 8).length = 8 := cut8 (by omega)
    rw [uTake_in (by omega)]
    simp only
    rw [recRd_ok h hn] at hok
    rw [List.take_of_length_le (by omega : ((X.drop 16).take 8).length ≤ 8)]
    exact hok
  · rw [if_neg hn]
    unfold recOk
    simp only
    rw [validB_nil, Bool.false_and, Bool.false_and]

theorem rrecsget_short (s : ByteArray) (hs : s.size ≤ 1099511627776) (h : s.size % 64 ≠ 0) (w : World) :
    Calls Tryz.prog 25 #[.string s] w fun r w' => r = .returned (.tuple #[.slice none 0 0, .int .i64 5]) ∧ w = w' := by
  have hm : (s.size : Int) % 64 ≠ 0 := by omega
  have hm2 : (s.size : Int).tmod 64 ≠ 0 := by rw [Int.tmod_eq_emod_of_nonneg (by omega)]; exact hm
  go_enter Tryz.func25, Tryz.ntmps25
  go_wp2_with fail
  go_ret2
  exact ⟨rfl, rfl⟩
set_option maxRecDepth 100000 in
set_option maxHeartbeats 4000000 in
theorem rrecsget_any (l : List UInt8) (n : Nat) (hl : l.length = 64 * n) (hn : l.length ≤ 1099511627776) (w : World) :
    Calls Tryz.prog 25 #[.string (bstr l)] w fun r w' => (recsOk l n = true → ∃ A c, r = .returned (.tuple #[.slice A n c, .int .i64 0]) ∧ w'.ownsRow w.heap.size 63 7 (.slice A n c) n (rcells (recsRd l n))) ∧ (recsOk l n = false → r = .returned (.tuple #[.slice none 0 0, .int .i64 6])) ∧ Below w.heap.size w w' := by
  have hz := bstr_size l
  have hcl : ∀ k, k < n → (bstr l).extract (64 * k) (64 * k + 24) = bstr ((chunk 64 l k).take 24) ∧ (bstr l).extract (64 * k + 24) (64 * k + 64) = bstr ((chunk 64 l k).drop 24) := fun k hk => by
    constructor
    · rw [bstr_extract, List.drop_take, show 64 * k + 24 - 64 * k = 24 by omega]
      unfold chunk
      rw [List.take_take]
      rfl
    · rw [bstr_extract, List.drop_take, show 64 * k + 64 - (64 * k + 24) = 40 by omega]
      unfold chunk
      rw [List.drop_take, List.drop_drop]
  have HCL := Lib.hid hcl
  have HCZ : Hid (∀ k, k < n → (chunk 64 l k).length = 64) := fun k hk => chunk_len hl hk
  clear hcl
  obtain ⟨S, hS⟩ : ∃ S, bstr l = S := ⟨_, rfl⟩
  rw [hS] at hz HCL ⊢
  have hsz : (S.size : Int) = 64 * (n : Int) := by omega
  have hmod : (S.size : Int) % 64 = 0 := by omega
  have hmod2 : (S.size : Int).tmod 64 = 0 := by rw [Int.tmod_eq_emod_of_nonneg (by omega)]; exact hmod
  have hn2 : n ≤ 17179869184 := by omega
  have hsz2 : S.size = 64 * n := by omega
  have Hsz := Lib.hid hsz2
  have hSb : S.size ≤ 1099511627776 := by omega
  obtain ⟨i0, hi, hz0, hz1, hz2⟩ := info_parts info_rec
  clear hS hz hl hn hsz hsz2
  go_enter Tryz.func25, Tryz.ntmps25
  go_wp2_with fail
  clear hmod hmod2
  go_loopw [4, 5] (fun o i wr => ∃ (k j : Nat) (R : Option Addr) (cs : Nat), k ≤ n ∧ i = .int .i64 j ∧ Hid (j = 64 * k) ∧ o = .slice R k cs ∧ wr.ownsRow w.heap.size 63 7 (.slice R k cs) k (rcells (recsRd l k)) ∧ Hid (recsOk l k = true) ∧ Own w wr (rowF (.slice R k cs))) (fun _ i _ => S.size - (intOf i).toNat)
  case atStart => exact ⟨0, 0, none, 0, Nat.zero_le _, rfl, rfl, rfl, World.ownsRow_nil _ _ _ _, rfl, (Own.start w).also (fun k hk => by cases hk)⟩
  case round =>
    obtain ⟨k, j, R, cs, hk, rfl, hj, rfl, hrow, hall, ho⟩ := hrel
    have Hrow := Lib.hid hrow
    have Ho := Lib.hid ho
    have hwr := Lib.hid ho.bel.size
    clear hrow ho
    by_cases hlt : k < n
    · have hjn : j < S.size := by have := hj.out; have := Hsz.out; omega
      have hjn2 : j + 64 ≤ S.size := by have := hj.out; have := Hsz.out; omega
      have hji : (j : Int) + 64 ≤ (S.size : Int) := by omega
      have hto : ((j : Int) + 24).toNat = j + 24 := by omega
      have hto2 : ((j : Int) + 64).toNat = j + 64 := by omega
      have HX := Lib.hid (HCL.out k hlt).1
      have HY := Lib.hid (HCL.out k hlt).2
      rw [← hj.out] at HX HY
      obtain ⟨X, hX⟩ : ∃ X, chunk 64 l k = X := ⟨_, rfl⟩
      have hXl := HCZ.out k hlt
      rw [hX] at HX HY hXl
      have HA : Hid (∀ w', Calls Tryz.prog 91 #[.string (S.extract (j + 24) (j + 64))] w' fun r w'' => r = .returned (.tuple #[(aggGetV (X.drop 24)).1.val, .int .i64 (aggGetV (X.drop 24)).2]) ∧ Below w'.heap.size w' w'') := fun w' => by
        have := raggget_any (X.drop 24) (by rw [List.length_drop]; omega) w'
        rw [← HY.out] at this
        exact this
      have hagw := aggGet_wf (X.drop 24)
      have HOK := Lib.hid (rstep_ok hXl)
      have HBAD := Lib.hid (rstep_bad hXl)
      have hnl := uName_len 0 (X.take 24)
      have hn1 := uName_rest 0 (X.take 24)
      have htl : (X.take 24).length ≤ 24 := by rw [List.length_take]; omega
      obtain ⟨⟨e1, b1, nm⟩, hN⟩ : ∃ p, uName 0 (X.take 24) = p := ⟨_, rfl⟩
      rw [hN] at HOK HBAD hnl hn1
      simp only at HOK HBAD hnl hn1
      obtain ⟨⟨e2, b2, ti⟩, hT⟩ : ∃ p, uTake e1 b1 8 = p := ⟨_, rfl⟩
      rw [hT] at HBAD
      simp only at HBAD
      obtain ⟨⟨ag, ae⟩, hA⟩ : ∃ p, aggGetV (X.drop 24) = p := ⟨_, rfl⟩
      rw [hA] at HOK HBAD HA hagw
      simp only at HOK HBAD HA hagw
      have HN : Hid (∀ g w', Uq w' g 0 (X.take 24) → Calls Tryz.prog 89 #[.pointer (some ⟨g, 0, none⟩)] w' fun r w'' => r = .returned (.string (bstr nm)) ∧ Uq w'' g e1 b1 ∧ Fr (fun k => k = g) w' w'') := fun g w' h => by
        have := rname_get g 0 (X.take 24) w' h (by omega)
        rw [hN] at this
        exact this
      have HI1 : Hid (∀ g w', Uq w' g e1 b1 → Calls Tryz.prog 90 #[.pointer (some ⟨g, 0, none⟩)] w' fun r w'' => r = .returned (.int .i64 (sgn (ofLe ti))) ∧ Uq w'' g e2 b2 ∧ Fr (fun k => k = g) w' w'') := fun g w' h => by
        have := rint_get g e1 b1 w' h (by omega)
        rw [hT] at this
        exact this
      have HT : Hid (getOk X = true → e2 = 0 ∧ ae = 0 ∧ (recRd X).1 = ⟨bstr nm, sgn (ofLe ti), ag⟩) := fun h => by
        obtain ⟨a1, a2, a3, a4⟩ := HOK.out h
        injection a1 with h1 h2
        injection h2 with h2 h3
        subst h1 h2 h3
        rw [a2] at hT
        injection hT with h4 h5
        injection h5 with h5 h6
        subst h4 h6
        exact ⟨rfl, a3, a4⟩
      have HRO : Hid (getOk X = recOk (recRd X).1) := get_ok hXl
      obtain ⟨rr, hrr⟩ : ∃ rr : RecV, rr = ⟨bstr nm, sgn (ofLe ti), ag⟩ := ⟨_, rfl⟩
      rw [← hrr] at HBAD HT
      have hwn : rr.name.size ≤ maxLen := by rw [hrr]; show (bstr nm).size ≤ maxLen; rw [bstr_size]; unfold maxLen; omega
      have HP := Lib.hid (fun w' => rvalidR_any rr hwn w')
      have Hs : Hid (getOk X = true → rcells (recsRd l (k + 1)) = rcells (recsRd l k) ++ rr.cells) := fun h => by
        rw [recsRd_snoc, hX, (HT.out h).2.2]; unfold rcells; rw [List.flatMap_append]; simp
      obtain ⟨NM, hNM⟩ : ∃ NM, bstr nm = NM := ⟨_, rfl⟩
      obtain ⟨TI, hTI⟩ : ∃ TI, sgn (ofLe ti) = TI := ⟨_, rfl⟩
      rw [hNM] at HN
      rw [hTI] at HI1
      obtain ⟨c, h, lo, m, x⟩ := ag
      have hrv : rr = ⟨NM, TI, ⟨c, h, lo, m, x⟩⟩ := by rw [hrr, hNM, hTI]
      have HRV := Lib.hid (show rr.val = .agg #[.string NM, .int .i64 TI, .int .i64 c, .int .i64 h, .int .u64 lo, .int .i64 m, .int .i64 x] by rw [hrv]; rfl)
      have HRC := Lib.hid (show rr.cells = [.string NM, .int .i64 TI, .int .i64 c, .int .i64 h, .int .u64 lo, .int .i64 m, .int .i64 x] by rw [hrv]; rfl)
      rw [HRV.out] at HP
      rw [HRC.out] at Hs
      have HE : Hid (getOk X = true → e2 = 0 ∧ ae = 0 ∧ recOk rr = true) := fun h => ⟨(HT.out h).1, (HT.out h).2.1, by rw [← (HT.out h).2.2, ← HRO.out]; exact h⟩
      have HG : Hid (getOk (chunk 64 l k) = getOk X) := by show _ = _; rw [hX]
      unfold AggV.val at HA
      have U0 : Hid (Uq (wr.alloc (.cells #[.string (S.extract j (j + 24)), .int .i64 0] 125)) wr.heap.size 0 (X.take 24)) := by
        show Blk _ _ _ _
        rw [← HX.out]; exact Blk.new _ _ _
      have O0 := Lib.hid ((Ho.out.skip (Fr.none_alloc wr (.cells #[.string (S.extract j (j + 24)), .int .i64 0] 125))).also (G := fun i => rowF (.slice R k cs) i ∨ i = wr.heap.size) (fun i hi => hi.elim (Ho.out.new i) (fun h => by have := hwr.out; omega)))
      have R0 := Lib.hid (own_fr0 Hrow.out (Fr.none_alloc wr (.cells #[.string (S.extract j (j + 24)), .int .i64 0] 125)))
      have hgn : Hid (∀ i, rowF (.slice R k cs) i → i ≠ wr.heap.size) := fun i hi e => by have := own_lt Hrow.out i hi; omega
      obtain ⟨GX, hGX⟩ : ∃ G, getOk X = G := ⟨_, rfl⟩
      rw [hGX] at HBAD HE HG Hs
      clear hrr hN hT hA hNM hTI hX hXl hrv HRV HRC HX HY Hrow Ho HOK HT HRO hGX hnl hn1 htl hwn hagw
      go_wp2_with fail
      refine (HN.out _ _ U0.out).mono ?_
      rintro r w2 ⟨rfl, u2, f2⟩
      have U2 := Lib.hid u2
      have O2 := Lib.hid (O0.out.mv ⟨f2.mono (fun i hi => .inl (.inr hi)), fun i hi => .inl hi⟩)
      have R2 := Lib.hid (own_fr R0.out f2 (fun i hi => hgn.out i hi))
      have hw2 := Lib.hid U2.out.lt
      clear u2 f2 U0 O0 R0
      go_wp2_with fail
      obtain ⟨G, hG⟩ : ∃ G, wr.heap.size = G := ⟨_, rfl⟩
      rw [hG] at U2 hgn O2 hw2 ⊢
      have hGw : Hid (w.heap.size ≤ G) := by have := hwr.out; show _ ≤ _; omega
      clear hG
      refine (HI1.out G _ (Blk.alloc U2.out (.cells #[.string NM, .int .i64 0, .int .i64 0, .int .i64 0, .int .u64 0, .int .i64 0, .int .i64 0] 63))).mono ?_
      rintro r w3 ⟨rfl, u3, f3⟩
      have U3 := Lib.hid u3
      have O3 := Lib.hid ((O2.out.skip (Fr.none_alloc w2 (.cells #[.string NM, .int .i64 0, .int .i64 0, .int .i64 0, .int .u64 0, .int .i64 0, .int .i64 0] 63))).mv ⟨f3.mono (fun i hi => .inl (.inr hi)), fun i hi => .inl hi⟩)
      have R3 := Lib.hid (own_fr (own_fr0 R2.out (Fr.none_alloc w2 (.cells #[.string NM, .int .i64 0, .int .i64 0, .int .i64 0, .int .u64 0, .int .i64 0, .int .i64 0] 63))) f3 (fun i hi => hgn.out i hi))
      have B3 := (Blk.new w2 63 #[.string NM, .int .i64 0, .int .i64 0, .int .i64 0, .int .u64 0, .int .i64 0, .int .i64 0]).fr f3 (by have := hw2.out; omega)
      have HB3 := Lib.hid B3
      have hs2 : Hid (∀ i, rowF (.slice R k cs) i → i ≠ w2.heap.size) := fun i hi e => by have := own_lt R2.out i hi; omega
      have s1 := B3.cell 1
      have q1 := B3.frozen 1
      simp only [List.getElem?_toArray, List.getElem?_cons_succ, List.getElem?_cons_zero] at s1
      clear u3 f3 U2 B3
      go_wp2_with fail
      clear s1 q1
      have hne : Hid (G ≠ w2.heap.size) := by have := hw2.out; show _ ≠ _; omega
      have B4 := HB3.out.set_ 1 (.int .i64 TI)
      have hw20 : Hid (w.heap.size ≤ w2.heap.size) := O2.out.bel.size
      have F4 : Fr (fun i => i = w2.heap.size) w3 (w3.setCell ⟨w2.heap.size, 1, none⟩ (.int .i64 TI)) := (Fr.refl (fun i => i = w2.heap.size) w3).setCell (p := ⟨w2.heap.size, 1, none⟩) (.inl rfl) _
      have U4 := Lib.hid (Blk.fr U3.out F4 (fun e => hne.out e))
      have O4 := Lib.hid ((O3.out.also (G := fun i => (rowF (.slice R k cs) i ∨ i = G) ∨ i = w2.heap.size) (fun i hi => hi.elim (O3.out.new i) (fun h => by have := hw20.out; omega))).mv ⟨F4.mono (fun i hi => .inl (.inr hi)), fun i hi => .inl hi⟩)
      have R4 := Lib.hid (own_fr R3.out F4 (fun i hi => hs2.out i hi))
      obtain ⟨W4, hW4⟩ : ∃ W4, W4 = w3.setCell ⟨w2.heap.size, 1, none⟩ (.int .i64 TI) := ⟨_, rfl⟩
      rw [← hW4] at B4 U4 O4 R4 ⊢
      have B4' : Blk W4 w2.heap.size 63 #[.string NM, .int .i64 TI, .int .i64 0, .int .i64 0, .int .u64 0, .int .i64 0, .int .i64 0] := by simpa using B4
      have HB4 := Lib.hid B4'
      clear hW4 F4 B4 B4' HB3 U3 O3 R3
      refine (HA.out W4).mono ?_
      rintro r w5 ⟨rfl, f5⟩
      have B5 := Lib.hid (HB4.out.below f5)
      have U5 := Lib.hid (Blk.below U4.out f5)
      have O5 := Lib.hid (O4.out.below f5)
      have R5 := Lib.hid (own_fr0 R4.out (Fr.b0 f5))
      have hw5 : Hid (w2.heap.size < w5.heap.size) := B5.out.lt
      clear f5 HB4 U4 O4 R4
      have q0 := fun o => (B5.out.alloc o).cell 0
      have q1 := fun o => (B5.out.alloc o).cell 1
      have q2 := fun o => (B5.out.alloc o).cell 2
      have q3 := fun o => (B5.out.alloc o).cell 3
      have q4 := fun o => (B5.out.alloc o).cell 4
      have q5 := fun o => (B5.out.alloc o).cell 5
      have q6 := fun o => (B5.out.alloc o).cell 6
      have g2 := fun o => (B5.out.alloc o).frozen 2
      have g3 := fun o => (B5.out.alloc o).frozen 3
      have g4 := fun o => (B5.out.alloc o).frozen 4
      have g5 := fun o => (B5.out.alloc o).frozen 5
      have g6 := fun o => (B5.out.alloc o).frozen 6
      have hu1 := fun o => (Blk.alloc U5.out o).cell 1
      simp only [List.getElem?_toArray, List.getElem?_cons_succ, List.getElem?_cons_zero] at q0 q1 q2 q3 q4 q5 q6 hu1
      have hgz : ¬ G = w2.heap.size := hne.out
      have HF6 : Hid (∀ W, W = (((((w5.alloc (.cells #[.int .i64 c, .int .i64 h, .int .u64 lo, .int .i64 m, .int .i64 x] 61)).setCell ⟨w2.heap.size, 2, none⟩ (.int .i64 c)).setCell ⟨w2.heap.size, 3, none⟩ (.int .i64 h)).setCell ⟨w2.heap.size, 4, none⟩ (.int .u64 lo)).setCell ⟨w2.heap.size, 5, none⟩ (.int .i64 m)).setCell ⟨w2.heap.size, 6, none⟩ (.int .i64 x) → Blk W w2.heap.size 63 #[.string NM, .int .i64 TI, .int .i64 c, .int .i64 h, .int .u64 lo, .int .i64 m, .int .i64 x] ∧ W.ownsRow w.heap.size 63 7 (.slice R k cs) k (rcells (recsRd l k)) ∧ Own w W (rowF (.slice R k cs)) ∧ w.heap.size ≤ W.heap.size) := fun W hW => by
        have F6 : Fr (fun i => i = w2.heap.size) w5 W := hW ▸ Fr.set26 (F := fun i => i = w2.heap.size) (g := w2.heap.size) ((Fr.refl _ w5).alloc _) (.inl rfl) _ _ _ _ _
        have O6 := O5.out.mv (F' := fun i => (rowF (.slice R k cs) i ∨ i = G) ∨ i = w2.heap.size) ⟨F6.mono (fun i hi => .inl (.inr hi)), fun i hi => .inl hi⟩
        exact ⟨hW ▸ (B5.out.alloc _).set26, own_fr R5.out F6 (fun i hi => hs2.out i hi), O6.also (fun i hi => O6.new i (.inl (.inl hi))), O6.bel.size⟩
      have hb5 : Hid (w.heap.size ≤ w5.heap.size) := O5.out.bel.size
      cases GX
      · have HF := Lib.hid (recsOk_false hlt HG.out)
        by_cases h3 : e2 = 0
        · by_cases h4 : ae = 0
          · subst h3
            subst h4
            have hbad := HBAD.out rfl
            rw [hbad] at HP
            clear hbad
            go_wp2_with fail
            refine (HP.out _).mono ?_
            rintro r w7 ⟨rfl, b7⟩
            have O7 := Lib.hid ((HF6.out _ rfl).2.2.1.below b7)
            clear b7 q0 q1 q2 q3 q4 q5 q6 g2 g3 g4 g5 g6 hu1
            go_wp2_with fail
            go_ret2
            exact ⟨(fun h => by rw [HF.out] at h; cases h), fun _ => rfl, O7.out.bel⟩
          · have h4b : (ae != 0) = true := by simpa using h4
            have h4c : (ae == 0) = false := by simpa using h4
            subst h3
            go_wp2_with fail
            go_ret2
            exact ⟨(fun h => by rw [HF.out] at h; cases h), fun _ => rfl, (HF6.out _ rfl).2.2.1.bel⟩
        · have h3b : (e2 != 0) = true := by simpa using h3
          have h3c : (e2 == 0) = false := by simpa using h3
          go_wp2_with fail
          go_ret2
          exact ⟨(fun h => by rw [HF.out] at h; cases h), fun _ => rfl, (HF6.out _ rfl).2.2.1.bel⟩
      · obtain ⟨h3, h4, h5⟩ := HE.out rfl
        subst h3
        subst h4
        rw [h5] at HP
        have HT : Hid (recsOk l (k + 1) = true) := by show _ = _; rw [recsOk_snoc, hall.out, HG.out]; rfl
        replace Hs := Lib.hid (Hs.out rfl)
        clear h5
        go_wp2_with fail
        refine (HP.out _).mono ?_
        rintro r w7 ⟨rfl, b7⟩
        obtain ⟨B6, R6, O6, hs6⟩ := HF6.out _ rfl
        have O7 := Lib.hid (O6.below b7)
        have R7 := Lib.hid (own_fr0 R6 (Fr.b0 b7))
        have B7 := B6.below b7
        have hs7 := Lib.hid (Nat.le_trans hs6 b7.size)
        clear b7 q0 q1 q2 q3 q4 q5 q6 g2 g3 g4 g5 g6 hu1 B6 R6 O6 hs6
        have c0 := B7.cell 0
        have c1 := B7.cell 1
        have c2 := B7.cell 2
        have c3 := B7.cell 3
        have c4 := B7.cell 4
        have c5 := B7.cell 5
        have c6 := B7.cell 6
        simp only [List.getElem?_toArray, List.getElem?_cons_succ, List.getElem?_cons_zero] at c0 c1 c2 c3 c4 c5 c6
        clear B7
        go_wp2_with (at_builtin; refine wpList_app2 rfl _ _ 49 rfl 63 i0 _ 7 64 Tryz.underlying49 hi hz0 hz1 hz2 rfl (by decide) (.slice R k cs) k _ rfl w.heap.size (by have := hs7.out; simp; omega) (own_fr0 R7.out (Fr.none_alloc _ _)) (some ⟨w7.heap.size, 0, none⟩) 1 1 [.string NM, .int .i64 TI, .int .i64 c, .int .i64 h, .int .u64 lo, .int .i64 m, .int .i64 x] rfl (Rd.newS (by simp) _ _ _ _ rfl) (by simp [Value.oneCell']) ?q1 ?q2 ?_)
        case q1 => unfold maxLen; omega
        case q2 => omega
        intro R8 c8 w8 ho8 hm8 _
        have Ho8 := Lib.hid ho8
        have Hm8 := Lib.hid hm8
        clear ho8 hm8 c0 c1 c2 c3 c4 c5 c6
        go_wp2
        go_roundw
        case rel =>
          refine ⟨k + 1, j + 64, R8, c8, by omega, by go_num, by have := hj.out; show _ = _; omega, by go_num, ?_, HT.out, (O7.out.skip (Fr.none_alloc _ _)).mv Hm8.out⟩
          rw [Hs.out]
          exact Ho8.out
        case measure => simp [intOf]; omega
    · obtain rfl : k = n := by omega
      have hje : ¬ (j : Int) < (S.size : Int) := by have := hj.out; have := Hsz.out; omega
      go_wp2_with fail
      go_ret2
      exact ⟨fun _ => ⟨R, cs, rfl, Hrow.out⟩, fun h => (by rw [hall.out] at h; cases h), Ho.out.bel⟩
end Go.Proofs.YtkickdmiilmkoaaGreatDoor
