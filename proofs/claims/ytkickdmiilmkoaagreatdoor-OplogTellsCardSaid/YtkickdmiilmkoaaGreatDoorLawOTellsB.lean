/- The statement OplogTells: the walk of its loop. -/
import Derived.Test.YtkickdmiilmkoaaGreatDoorLawOTells
namespace Go.Proofs.YtkickdmiilmkoaaGreatDoor
open Go.RowKit

set_option maxRecDepth 100000 in
set_option maxHeartbeats 40000000 in
theorem otells_walk (k n : Int) (l : List SampV) (A : Option Addr) (m c : Nat) (s : ByteArray) (w : World) (hr : Rd w 3 A m (scells l)) (hl : ∀ r ∈ l, r.wf) (h1 : m ≤ 9223372036854775807) (hs : s.size ≤ maxLen) (hn : in64 n) :
    Calls Tryz.prog 3 #[.agg #[.int .i64 k, .int .i64 n, .slice A m c], .string s] w fun r w' => r = .returned (.bool true) ∧ Below w.heap.size w w' := by
  have F1 : Hid (∀ w', Fr (fun _ => False) w w' → Calls Tryz.prog 7 #[.int .i64 20, .slice A m c] w' fun r w'' => FewR 20 m r ∧ w' = w'') := fun w' f => some_any 20 (by decide) l (fun r h => (hl r h).2.2) A m c w' (hr.fr0 f) h1
  have AL := Lib.hid (fun w' => alive20_any w')
  have hsb : s.size ≤ 9223372036854775807 := by unfold maxLen at hs; omega
  obtain ⟨V, hV⟩ : ∃ V, opOk k n l = V := ⟨_, rfl⟩
  have HV : Hid (m ≤ 20 → ∀ B d w', Rd w' 3 B m (scells l) → Calls Tryz.prog 11 #[.agg #[.int .i64 k, .int .i64 n, .slice B m d]] w' fun r w'' => r = .returned (.bool V) ∧ Below w'.heap.size w' w'') := fun q B d w' h => hV ▸ lopvalid_any k n l hl B m d w' h (by omega)
  have HO : Hid (m ≤ 20 → ∀ B d w', Rd w' 3 B m (scells l) → Calls Tryz.prog 13 #[.agg #[.int .i64 k, .int .i64 n, .slice B m d]] w' fun r w'' => r = .returned (.bool V) ∧ Below w'.heap.size w' w'') := fun q B d w' h => hV ▸ opvalid_any k n l hl B m d w' h (by omega)
  have HB : Hid (m ≤ 20 → ∀ B d w', Rd w' 3 B m (scells l) → Calls Tryz.prog 10 #[.agg #[.int .i64 k, .int .i64 n, .slice B m d]] w' fun r w'' => r = .returned (bif V then .tuple #[.string (bstr (opB k n l)), .int .i64 0] else .tuple #[.string { data := #[] }, .int .i64 1]) ∧ Below w'.heap.size w' w'') := fun q B d w' h => hV ▸ opbytes_any k n l hl B m d w' h (by omega)
  have HY : Hid (m ≤ 20 → V = true → ∀ B d w', Rd w' 3 B m (scells l) → Calls Tryz.prog 12 #[.agg #[.int .i64 k, .int .i64 n, .slice B m d]] w' fun r w'' => r = .returned (.string (bstr (opB k n l))) ∧ Below w'.heap.size w' w'') := fun q hv B d w' h => lay_any k n l hl (hV.trans hv) B m d w' h (by omega)
  have HR : Hid (m ≤ 20 → V = true → ∀ w', Calls Tryz.prog 15 #[.string (bstr (opB k n l))] w' fun r w'' => (∃ B q d, q = m ∧ r = .returned (.tuple #[.agg #[.int .i64 k, .int .i64 n, .slice B q d], .int .i64 0]) ∧ w''.ownsRow w'.heap.size 82 3 (.slice B q d) q (scells l)) ∧ Below w'.heap.size w' w'') := fun q hv w' => by
    have hok := hV.trans hv
    have h8 := (opOk_parts hok).2.1
    have hlen : (opB k n l).length = 10 + 32 * l.length := by
      obtain ⟨_, _, hall⟩ := opOk_parts hok
      unfold opB
      rw [List.length_append, List.length_append, le8_len, sampsB_len hall]
      simp
    obtain ⟨e1, e2, e3, _⟩ := opB_rd hn hl hok
    refine (opread_any (opB k n l) (by omega) (by omega) w').mono ?_
    rintro r w'' ⟨e, _, b⟩
    obtain ⟨B, q, d, er, ho⟩ := e (readOk_back hn hl hok)
    rw [e1, e2] at er
    rw [e3] at ho
    refine ⟨⟨B, q, d, ?_, er, ho⟩, b⟩
    have h1 := ho.1
    have h2 := hr.1
    omega
  have hSz : Hid (V = true → (bstr (opB k n l)).size ≤ 1000) := fun hv => by
    obtain ⟨_, h8, hall⟩ := opOk_parts (hV.trans hv)
    rw [bstr_size]
    unfold opB
    rw [List.length_append, List.length_append, le8_len, sampsB_len hall]
    simp
    omega
  have hsl := str_len s
  obtain ⟨b, hb⟩ : ∃ b, s.data.toList = b := ⟨_, rfl⟩
  have hsbs : bstr b = s := by rw [← hb]; exact bstr_toList s
  rw [hb] at hsl
  have HRs : Hid (s.size < 10 → ∀ w', Calls Tryz.prog 15 #[.string s] w' fun r w'' => r = .returned (.tuple #[.agg #[.int .i64 0, .int .i64 0, .slice none 0 0], .int .i64 5]) ∧ Below w'.heap.size w' w'') := fun h w' => opread_short s h w'
  have HRb : Hid (10 ≤ s.size → s.size ≤ 600 → readOk b = false → ∀ w', Calls Tryz.prog 15 #[.string s] w' fun r w'' => r = .returned (.tuple #[.agg #[.int .i64 0, .int .i64 0, .slice none 0 0], .int .i64 6]) ∧ Below w'.heap.size w' w'') := fun h h' hk w' => by
    rw [← hsbs]
    exact (opread_any b (by omega) (by omega) w').mono fun r w'' ⟨_, e, bl⟩ => ⟨e hk, bl⟩
  have HRg : Hid (10 ≤ s.size → s.size ≤ 600 → readOk b = true → ∀ w', Calls Tryz.prog 15 #[.string s] w' fun r w'' => (∃ B q d, q ≤ 8 ∧ r = .returned (.tuple #[.agg #[.int .i64 (rdK b), .int .i64 (rdN b), .slice B q d], .int .i64 0]) ∧ w''.ownsRow w'.heap.size 82 3 (.slice B q d) q (scells (sgetL (b.drop 10)))) ∧ Below w'.heap.size w' w'') := fun h h' hk w' => by
    rw [← hsbs]
    refine (opread_any b (by omega) (by omega) w').mono ?_
    rintro r w'' ⟨e, _, bl⟩
    obtain ⟨B, q, d, er, ho⟩ := e hk
    refine ⟨⟨B, q, d, ?_, er, ho⟩, bl⟩
    have h2 := ho.1
    rw [csS_len] at h2
    unfold readOk at hk
    simp only [Bool.and_eq_true] at hk
    have := (opOk_parts hk.1.2).2.1
    omega
  have HVz : Hid (readOk b = true → ∀ B q d w', q ≤ 8 → Rd w' 3 B q (scells (sgetL (b.drop 10))) → Calls Tryz.prog 11 #[.agg #[.int .i64 (rdK b), .int .i64 (rdN b), .slice B q d]] w' fun r w'' => r = .returned (.bool true) ∧ Below w'.heap.size w' w'') := fun hk B q d w' hq h => by
    unfold readOk at hk
    simp only [Bool.and_eq_true] at hk
    have := lopvalid_any (rdK b) (rdN b) _ (sgetL_wf (b.drop 10)) B q d w' h (by omega)
    rwa [hk.1.2] at this
  have HYz : Hid (readOk b = true → ∀ B q d w', q ≤ 8 → Rd w' 3 B q (scells (sgetL (b.drop 10))) → Calls Tryz.prog 12 #[.agg #[.int .i64 (rdK b), .int .i64 (rdN b), .slice B q d]] w' fun r w'' => r = .returned (.string s) ∧ Below w'.heap.size w' w'') := fun hk B q d w' hq h => by
    unfold readOk at hk
    simp only [Bool.and_eq_true, decide_eq_true_eq] at hk
    have := lay_any (rdK b) (rdN b) _ (sgetL_wf (b.drop 10)) hk.1.2 B q d w' h (by omega)
    rwa [hk.2, hsbs] at this
  have Ra := Lib.hid hr
  obtain ⟨S, hS⟩ : ∃ S, bstr (opB k n l) = S := ⟨_, rfl⟩
  rw [hS] at HB HY HR hSz
  obtain ⟨G, hG⟩ : ∃ G, readOk b = G := ⟨_, rfl⟩
  rw [hG] at HRb HRg HVz HYz
  obtain ⟨ZL, hZL⟩ : ∃ ZL, sgetL (b.drop 10) = ZL := ⟨_, rfl⟩
  rw [hZL] at HRg HVz HYz
  obtain ⟨ZK, hZK⟩ : ∃ ZK, rdK b = ZK := ⟨_, rfl⟩
  rw [hZK] at HRg HVz HYz
  obtain ⟨ZN, hZN⟩ : ∃ ZN, rdN b = ZN := ⟨_, rfl⟩
  rw [hZN] at HRg HVz HYz
  have B0 := Lib.hid (Blk.new w 24 #[.int .i64 k, .int .i64 n, .slice A m c])
  have O := Lib.hid ((Own.start w).skip (Fr.none_alloc w (.cells #[.int .i64 k, .int .i64 n, .slice A m c] 24)))
  clear hr hl hV hb hsbs hsl hS hG hZL hZK hZN hn hs
  go_enter Tryz.func3, Tryz.ntmps3
  go_wp2_with fail
  refine (F1.out _ (Fr.none_alloc _ _)).mono ?_
  rintro r w1 ⟨⟨bb, rfl, q1⟩, rfl⟩
  cases bb
  · clear q1
    go_wp2_with fail
    refine (AL.out _).mono ?_
    rintro r w2 ⟨rfl, b2⟩
    have O2 := Lib.hid (O.out.below b2)
    clear b2
    go_wp2_with fail
    go_ret
    exact ⟨rfl, O2.out.bel⟩
  replace q1 := q1 rfl
  by_cases h6 : 600 < s.size
  · have h6i : (600 : Int) < (s.size : Int) := by omega
    go_wp2_with fail
    refine (AL.out _).mono ?_
    rintro r w2 ⟨rfl, b2⟩
    have O2 := Lib.hid (O.out.below b2)
    clear b2
    go_wp2_with fail
    go_ret
    exact ⟨rfl, O2.out.bel⟩
  have h6i : ¬ (600 : Int) < (s.size : Int) := by omega
  have h6d : decide ((600 : Int) < (s.size : Int)) = false := decide_eq_false h6i
  replace HV := Lib.hid (HV.out (by omega))
  replace HO := Lib.hid (HO.out (by omega))
  replace HB := Lib.hid (HB.out (by omega))
  replace HY := Lib.hid (HY.out (by omega))
  replace HR := Lib.hid (HR.out (by omega))
  have h6n := Lib.hid (show s.size ≤ 600 by omega)
  have hq1 : Hid (m ≤ 20) := by show _ ≤ _; omega
  clear F1 q1
  go_wp2_with fail
  obtain ⟨W1, hW1⟩ : ∃ W1, W1 = w.alloc (.cells #[.int .i64 k, .int .i64 n, .slice A m c] 24) := ⟨_, rfl⟩
  rw [← hW1] at B0 O ⊢
  have hgE : W1.heap.size = w.heap.size + 1 := by rw [hW1]; simp
  have BK := Lib.hid (BookS.new W1)
  have O0 := Lib.hid ((Below.refl W1.heap.size W1).alloc (Nat.le_refl _) (.cells #[.slice none 0 0, .slice none 0 0, .slice none 0 0, .slice none 0 0, .slice none 0 0, .slice none 0 0, .slice none 0 0, .slice none 0 0, .slice none 0 0, .slice none 0 0, .slice none 0 0, .slice none 0 0, .slice none 0 0, .slice none 0 0, .slice none 0 0, .slice none 0 0] 37))
  have Ra1 := Lib.hid (Ra.out.fr0 (Fr.b0 O.out.bel))
  rw [hgE] at BK O0
  obtain ⟨g, hg⟩ : ∃ g, w.heap.size + 1 = g := ⟨_, rfl⟩
  obtain ⟨q, hq⟩ : ∃ q, w.heap.size = q := ⟨_, rfl⟩
  rw [hg] at BK O0 hgE ⊢
  rw [hq] at B0 ⊢
  have HG := Lib.hid hgE
  clear hg hq h6 h6i h6d hW1 hgE
  go_loopw [6] (fun i wr => ∃ kk j : Nat, kk ≤ 2 ∧ i = .int .i64 kk ∧ Hid (j ≤ 2 * kk) ∧ BookS wr g g j ∧ Below g W1 wr) (fun i _ => 2 - (intOf i).toNat)
  case atStart => exact ⟨0, 0, Nat.zero_le _, rfl, Nat.le_refl _, BK.out, O0.out⟩
  case round =>
    obtain ⟨kk, j, hkk, rfl, hj, hbk, hbel⟩ := hrel
    have HBK := Lib.hid hbk
    have HBel := Lib.hid hbel
    have HA : Hid (Rd wr 3 A m (scells l)) := Ra1.out.below (by have := HBel.out; rwa [HG.out])
    have HOb : Hid (Blk wr q 24 #[.int .i64 k, .int .i64 n, .slice A m c]) := B0.out.below (by have := HBel.out; rwa [HG.out])
    have hgw : Hid (g ≤ wr.heap.size) := by have := HBel.out.size; have := HG.out; show _ ≤ _; omega
    clear hbk hbel
    by_cases hlt : kk < 2
    · have hji : Hid (j < 10) := by have := hj.out; show _ < _; omega
      have o0 := HOb.out.cell 0
      have o1 := HOb.out.cell 1
      have o2 := HOb.out.cell 2
      have p2 := (HOb.out.alloc (.cells #[.int .i64 k, .int .i64 n, .slice A m c] 24)).cell 2
      simp only [List.getElem?_toArray, List.getElem?_cons_succ, List.getElem?_cons_zero] at o0 o1 o2 p2
      go_wp2_with fail
      refine (lentS_any l A m c _ (HA.out.alloc (.cells #[.int .i64 k, .int .i64 n, .slice A m c] 24)) (by have := hq1.out; omega)).mono ?_
      rintro r w2 ⟨M, d, rfl, hd1, hd2, rm, rn, b2⟩
      obtain ⟨p, hp⟩ : ∃ p, wr.heap.size = p := ⟨_, rfl⟩
      have X2 := (Blk.new wr 24 #[.int .i64 k, .int .i64 n, .slice A m c]).below b2
      have hpz : (wr.alloc (.cells #[.int .i64 k, .int .i64 n, .slice A m c] 24)).heap.size = p + 1 := by rw [← hp]; simp
      rw [hpz] at rn
      rw [hp] at X2 ⊢
      have RN := Lib.hid rn
      have HX2 := Lib.hid X2
      have Hp := Lib.hid hp
      have HD := Lib.hid (And.intro hd1 hd2)
      have Bel2 : Hid (Below p wr w2) := by
        have h1 := (Below.refl p wr).alloc (by rw [← hp]; exact Nat.le_refl _) (.cells #[.int .i64 k, .int .i64 n, .slice A m c] 24)
        exact h1.trans (b2.mono (by rw [hpz]; omega))
      have F3 : Fr (fun i => i = p) w2 (w2.setCell ⟨p, 2, none⟩ (.slice M m d)) := (Fr.refl (fun i => i = p) w2).setCell (p := ⟨p, 2, none⟩) (.inl rfl) _
      have RM3 := rm.fr F3 (fun i hi e => by have := rn i hi; omega)
      have x0 := X2.cell 0
      have x1 := X2.cell 1
      have x2 := X2.cell 2
      have z2 := X2.frozen 2
      simp only [List.getElem?_toArray, List.getElem?_cons_succ, List.getElem?_cons_zero] at x0 x1 x2
      clear b2 rm rn hd1 hd2 X2 hp hpz o0 o1 o2 p2
      go_wp2_with fail
      clear x0 x1 x2 z2
      obtain ⟨W3, hW3⟩ : ∃ W3, W3 = w2.setCell ⟨p, 2, none⟩ (.slice M m d) := ⟨_, rfl⟩
      rw [← hW3] at F3 RM3 ⊢
      have X3 : Hid (Blk W3 p 24 #[.int .i64 k, .int .i64 n, .slice M m d]) := by
        show Blk _ _ _ _
        rw [hW3]; simpa using HX2.out.set_ 2 (.slice M m d)
      have Bel3 : Hid (Below p wr W3) := Bel2.out.trans (F3.below_of (by rw [← Hp.out]; exact Bel2.out.size) (fun i hi => by omega))
      have HRM := Lib.hid RM3
      have HRM2 : Hid (Rd W3 3 M m (scells l)) := by
        have := RM3.take (k := m) (by omega)
        unfold lentS at this
        rwa [List.take_left' HA.out.1] at this
      clear hW3 F3 RM3 HX2 Bel2
      refine (HB.out M d W3 HRM2.out).mono ?_
      rintro r w4 ⟨rfl, b4⟩
      have Bel4 : Hid (Below p wr w4) := Bel3.out.trans (b4.mono (by rw [← Hp.out]; exact Bel3.out.size))
      have X4 := Lib.hid (X3.out.below b4)
      have RM4 := Lib.hid (HRM.out.fr0 (Fr.b0 b4))
      have RX4 := Lib.hid (HRM2.out.fr0 (Fr.b0 b4))
      have OB4 := Lib.hid (HOb.out.below (by have := Bel4.out; rwa [← Hp.out] at this))
      have A4 := Lib.hid (HA.out.below (by have := Bel4.out; rwa [← Hp.out] at this))
      have o0 := OB4.out.cell 0
      have o1 := OB4.out.cell 1
      have o2 := OB4.out.cell 2
      simp only [List.getElem?_toArray, List.getElem?_cons_succ, List.getElem?_cons_zero] at o0 o1 o2
      clear b4 X3 HRM HRM2 Bel3
      cases V
      · skip
        go_wp2_with fail
        refine (HV.out A c w4 A4.out).mono ?_
        rintro r w5 ⟨rfl, b5⟩
        clear o0 o1 o2
        have Bel5 : Hid (Below p wr w5) := Bel4.out.trans (b5.mono (by rw [← Hp.out]; exact Bel4.out.size))
        have X5 := Lib.hid (X4.out.below b5)
        have OB5 := Lib.hid (OB4.out.below b5)
        have RM5 := Lib.hid (RM4.out.fr0 (Fr.b0 b5))
        have RX5 := Lib.hid (RX4.out.fr0 (Fr.b0 b5))
        have A5 := Lib.hid (A4.out.fr0 (Fr.b0 b5))
        clear b5 X4 OB4 RM4 RX4 A4 Bel4
        have x0 := X5.out.cell 0
        have x1 := X5.out.cell 1
        have x2 := X5.out.cell 2
        simp only [List.getElem?_toArray, List.getElem?_cons_succ, List.getElem?_cons_zero] at x0 x1 x2
        go_wp2_with fail
        refine (HO.out M d w5 RX5.out).mono ?_
        rintro r w6 ⟨rfl, b6⟩
        clear x0 x1 x2
        have Bel6 : Hid (Below p wr w6) := Bel5.out.trans (b6.mono (by rw [← Hp.out]; exact Bel5.out.size))
        have X6 := Lib.hid (X5.out.below b6)
        have OB6 := Lib.hid (OB5.out.below b6)
        have RM6 := Lib.hid (RM5.out.fr0 (Fr.b0 b6))
        have RX6 := Lib.hid (RX5.out.fr0 (Fr.b0 b6))
        have A6 := Lib.hid (A5.out.fr0 (Fr.b0 b6))
        clear b6 X5 OB5 RM5 RX5 A5 Bel5
        have x0 := X6.out.cell 0
        have x1 := X6.out.cell 1
        have x2 := X6.out.cell 2
        simp only [List.getElem?_toArray, List.getElem?_cons_succ, List.getElem?_cons_zero] at x0 x1 x2
        have o0 := OB6.out.cell 0
        have o1 := OB6.out.cell 1
        have o2 := OB6.out.cell 2
        simp only [List.getElem?_toArray, List.getElem?_cons_succ, List.getElem?_cons_zero] at o0 o1 o2
        go_wp2_with fail
        refine (staysS_any l M m d A c w6 RM6.out A6.out HD.out.1 HD.out.2 (by have := hq1.out; omega)).mono ?_
        rintro r w7 ⟨rfl, b7⟩
        clear x0 x1 x2 o0 o1 o2
        have Bel7 : Hid (Below p wr w7) := Bel6.out.trans (b7.mono (by rw [← Hp.out]; exact Bel6.out.size))
        have OB7 := Lib.hid (OB6.out.below b7)
        have A7 := Lib.hid (A6.out.fr0 (Fr.b0 b7))
        clear b7 OB6 A6 Bel6
        clear X6 RM6 RX6
        have BB : Hid (Below wr.heap.size wr w7) := by rw [Hp.out]; exact Bel7.out
        have gB : Hid (Below g W1 w7) := HBel.out.trans (Bel7.out.mono (by rw [← Hp.out]; exact hgw.out))
        clear Bel7 OB7 A7
        by_cases h10 : s.size < 10
        · have h10i : (s.size : Int) < 10 := by omega
          have h10d : decide ((10 : Int) ≤ (s.size : Int)) = false := decide_eq_false (by omega)
          go_wp2_with fail
          refine (HRs.out h10 w7).mono ?_
          rintro r w8 ⟨rfl, b8⟩
          have BBn := Lib.hid ((BB.out.trans (b8.mono BB.out.size)).alloc (Nat.le_trans BB.out.size b8.size) (.cells #[.int .i64 0, .int .i64 0, .slice none 0 0] 24))
          have gBn := Lib.hid ((gB.out.trans (b8.mono (by have := gB.out.size; have := HG.out; omega))).alloc (by have := gB.out.size; have := HG.out; have := b8.size; omega) (.cells #[.int .i64 0, .int .i64 0, .slice none 0 0] 24))
          have OZ := Lib.hid (World.ownsRow_nil (w8.alloc (.cells #[.int .i64 0, .int .i64 0, .slice none 0 0] 24)) wr.heap.size 82 3)
          have ZB := Lib.hid (Blk.new w8 24 #[.int .i64 0, .int .i64 0, .slice none 0 0])
          have hzn := Lib.hid (show wr.heap.size ≤ w8.heap.size from Nat.le_trans BB.out.size b8.size)
          clear b8
          go_wp2_with fail
          refine (bookS_add wr _ g g j HBK.out BBn.out (by have := hji.out; omega) [] none 0 0 OZ.out (by omega)).mono ?_
          rintro r w9 ⟨rfl, bk9, f9⟩
          have BK9 := Lib.hid bk9
          have gB9 : Hid (Below g W1 w9) := gBn.out.trans (f9.below_of (by have := gBn.out.size; have := HG.out; omega) (fun i hi => hi.1))
          have ZB9 := Lib.hid (ZB.out.fr f9 (fun hi => by have := hzn.out; omega))
          have z0 := ZB9.out.cell 0
          have z1 := ZB9.out.cell 1
          have z2 := ZB9.out.cell 2
          simp only [List.getElem?_toArray, List.getElem?_cons_succ, List.getElem?_cons_zero] at z0 z1 z2
          clear bk9 f9 BBn gBn OZ ZB hzn BB gB
          go_wp2
          go_roundw
          case rel => exact ⟨kk + 1, j + 1, by omega, by go_num, by have := hj.out; show _ ≤ _; omega, BK9.out, gB9.out⟩
          case measure => simp [intOf]; omega
        · have h10i : ¬ (s.size : Int) < 10 := by omega
          have h10d : decide ((s.size : Int) < 10) = false := decide_eq_false h10i
          have h10e : (10 : Int) ≤ (s.size : Int) := by omega
          cases G
          · skip
            go_wp2_with fail
            refine (HRb.out (by omega) h6n.out (by simp) w7).mono ?_
            rintro r w8 ⟨rfl, b8⟩
            have BBn := Lib.hid ((BB.out.trans (b8.mono BB.out.size)).alloc (Nat.le_trans BB.out.size b8.size) (.cells #[.int .i64 0, .int .i64 0, .slice none 0 0] 24))
            have gBn := Lib.hid ((gB.out.trans (b8.mono (by have := gB.out.size; have := HG.out; omega))).alloc (by have := gB.out.size; have := HG.out; have := b8.size; omega) (.cells #[.int .i64 0, .int .i64 0, .slice none 0 0] 24))
            have OZ := Lib.hid (World.ownsRow_nil (w8.alloc (.cells #[.int .i64 0, .int .i64 0, .slice none 0 0] 24)) wr.heap.size 82 3)
            have ZB := Lib.hid (Blk.new w8 24 #[.int .i64 0, .int .i64 0, .slice none 0 0])
            have hzn := Lib.hid (show wr.heap.size ≤ w8.heap.size from Nat.le_trans BB.out.size b8.size)
            clear b8
            go_wp2_with fail
            refine (bookS_add wr _ g g j HBK.out BBn.out (by have := hji.out; omega) [] none 0 0 OZ.out (by omega)).mono ?_
            rintro r w9 ⟨rfl, bk9, f9⟩
            have BK9 := Lib.hid bk9
            have gB9 : Hid (Below g W1 w9) := gBn.out.trans (f9.below_of (by have := gBn.out.size; have := HG.out; omega) (fun i hi => hi.1))
            have ZB9 := Lib.hid (ZB.out.fr f9 (fun hi => by have := hzn.out; omega))
            have z0 := ZB9.out.cell 0
            have z1 := ZB9.out.cell 1
            have z2 := ZB9.out.cell 2
            simp only [List.getElem?_toArray, List.getElem?_cons_succ, List.getElem?_cons_zero] at z0 z1 z2
            clear bk9 f9 BBn gBn OZ ZB hzn BB gB
            go_wp2
            go_roundw
            case rel => exact ⟨kk + 1, j + 1, by omega, by go_num, by have := hj.out; show _ ≤ _; omega, BK9.out, gB9.out⟩
            case measure => simp [intOf]; omega
          · skip
            go_wp2_with fail
            refine (HRg.out (by omega) h6n.out (by simp) w7).mono ?_
            rintro r w8 ⟨⟨Z, zq, zd, hzq, rfl, oz⟩, b8⟩
            have BBn := Lib.hid ((BB.out.trans (b8.mono BB.out.size)).alloc (Nat.le_trans BB.out.size b8.size) (.cells #[.int .i64 ZK, .int .i64 ZN, .slice Z zq zd] 24))
            have gBn := Lib.hid ((gB.out.trans (b8.mono (by have := gB.out.size; have := HG.out; omega))).alloc (by have := gB.out.size; have := HG.out; have := b8.size; omega) (.cells #[.int .i64 ZK, .int .i64 ZN, .slice Z zq zd] 24))
            have OZ := Lib.hid (own_fr0 (own_le oz BB.out.size) (Fr.none_alloc w8 (.cells #[.int .i64 ZK, .int .i64 ZN, .slice Z zq zd] 24)))
            clear oz
            have ZB := Lib.hid (Blk.new w8 24 #[.int .i64 ZK, .int .i64 ZN, .slice Z zq zd])
            have hzn := Lib.hid (show wr.heap.size ≤ w8.heap.size from Nat.le_trans BB.out.size b8.size)
            clear b8
            go_wp2_with fail
            refine (bookS_add wr _ g g j HBK.out BBn.out (by have := hji.out; omega) ZL Z zq zd OZ.out (by omega)).mono ?_
            rintro r w9 ⟨rfl, bk9, f9⟩
            have BK9 := Lib.hid bk9
            have gB9 : Hid (Below g W1 w9) := gBn.out.trans (f9.below_of (by have := gBn.out.size; have := HG.out; omega) (fun i hi => hi.1))
            have ZB9 := Lib.hid (ZB.out.fr f9 (fun hi => by have := hzn.out; omega))
            have RZ9 := Lib.hid (Rd.of_own (own_fr OZ.out f9 (fun i hi hF => by have := (OZ.out.lt i hi).1; omega)))
            have z0 := ZB9.out.cell 0
            have z1 := ZB9.out.cell 1
            have z2 := ZB9.out.cell 2
            simp only [List.getElem?_toArray, List.getElem?_cons_succ, List.getElem?_cons_zero] at z0 z1 z2
            clear bk9 f9 BBn gBn OZ ZB hzn BB gB
            go_wp2_with fail
            refine (HVz.out (by simp) Z zq zd w9 hzq RZ9.out).mono ?_
            rintro r w10 ⟨rfl, b10⟩
            have BK10 := Lib.hid (BK9.out.fr b10)
            have gB10 := Lib.hid (gB9.out.trans (b10.mono (by have := gB9.out.size; have := HG.out; omega)))
            have ZB10 := Lib.hid (ZB9.out.below b10)
            have RZ10 := Lib.hid (RZ9.out.fr0 (Fr.b0 b10))
            clear b10 z0 z1 z2
            have z0 := ZB10.out.cell 0
            have z1 := ZB10.out.cell 1
            have z2 := ZB10.out.cell 2
            simp only [List.getElem?_toArray, List.getElem?_cons_succ, List.getElem?_cons_zero] at z0 z1 z2
            go_wp2_with fail
            refine (HYz.out (by simp) Z zq zd w10 hzq RZ10.out).mono ?_
            rintro r w11 ⟨rfl, b11⟩
            have BK11 := Lib.hid (BK10.out.fr b11)
            have gB11 := Lib.hid (gB10.out.trans (b11.mono (by have := gB10.out.size; have := HG.out; omega)))
            clear b11 z0 z1 z2
            go_wp2
            go_roundw
            case rel => exact ⟨kk + 1, j + 1, by omega, by go_num, by have := hj.out; show _ ≤ _; omega, BK11.out, gB11.out⟩
            case measure => simp [intOf]; omega
      · skip
        have hSS := hSz.out (by simp)
        go_wp2_with fail
        refine (HV.out A c w4 A4.out).mono ?_
        rintro r w5 ⟨rfl, b5⟩
        clear o0 o1 o2
        have Bel5 : Hid (Below p wr w5) := Bel4.out.trans (b5.mono (by rw [← Hp.out]; exact Bel4.out.size))
        have X5 := Lib.hid (X4.out.below b5)
        have OB5 := Lib.hid (OB4.out.below b5)
        have RM5 := Lib.hid (RM4.out.fr0 (Fr.b0 b5))
        have RX5 := Lib.hid (RX4.out.fr0 (Fr.b0 b5))
        have A5 := Lib.hid (A4.out.fr0 (Fr.b0 b5))
        clear b5 X4 OB4 RM4 RX4 A4 Bel4
        have o0 := OB5.out.cell 0
        have o1 := OB5.out.cell 1
        have o2 := OB5.out.cell 2
        simp only [List.getElem?_toArray, List.getElem?_cons_succ, List.getElem?_cons_zero] at o0 o1 o2
        go_wp2_with fail
        refine (HY.out (by simp) A c w5 A5.out).mono ?_
        rintro r w6 ⟨rfl, b6⟩
        clear o0 o1 o2
        have Bel6 : Hid (Below p wr w6) := Bel5.out.trans (b6.mono (by rw [← Hp.out]; exact Bel5.out.size))
        have X6 := Lib.hid (X5.out.below b6)
        have OB6 := Lib.hid (OB5.out.below b6)
        have RM6 := Lib.hid (RM5.out.fr0 (Fr.b0 b6))
        have RX6 := Lib.hid (RX5.out.fr0 (Fr.b0 b6))
        have A6 := Lib.hid (A5.out.fr0 (Fr.b0 b6))
        clear b6 X5 OB5 RM5 RX5 A5 Bel5
        have x0 := X6.out.cell 0
        have x1 := X6.out.cell 1
        have x2 := X6.out.cell 2
        simp only [List.getElem?_toArray, List.getElem?_cons_succ, List.getElem?_cons_zero] at x0 x1 x2
        go_wp2_with fail
        refine (HO.out M d w6 RX6.out).mono ?_
        rintro r w7 ⟨rfl, b7⟩
        clear x0 x1 x2
        have Bel7 : Hid (Below p wr w7) := Bel6.out.trans (b7.mono (by rw [← Hp.out]; exact Bel6.out.size))
        have X7 := Lib.hid (X6.out.below b7)
        have OB7 := Lib.hid (OB6.out.below b7)
        have RM7 := Lib.hid (RM6.out.fr0 (Fr.b0 b7))
        have RX7 := Lib.hid (RX6.out.fr0 (Fr.b0 b7))
        have A7 := Lib.hid (A6.out.fr0 (Fr.b0 b7))
        clear b7 X6 OB6 RM6 RX6 A6 Bel6
        have x0 := X7.out.cell 0
        have x1 := X7.out.cell 1
        have x2 := X7.out.cell 2
        simp only [List.getElem?_toArray, List.getElem?_cons_succ, List.getElem?_cons_zero] at x0 x1 x2
        have o0 := OB7.out.cell 0
        have o1 := OB7.out.cell 1
        have o2 := OB7.out.cell 2
        simp only [List.getElem?_toArray, List.getElem?_cons_succ, List.getElem?_cons_zero] at o0 o1 o2
        go_wp2_with fail
        refine (staysS_any l M m d A c w7 RM7.out A7.out HD.out.1 HD.out.2 (by have := hq1.out; omega)).mono ?_
        rintro r w8 ⟨rfl, b8⟩
        clear x0 x1 x2 o0 o1 o2
        have Bel8 : Hid (Below p wr w8) := Bel7.out.trans (b8.mono (by rw [← Hp.out]; exact Bel7.out.size))
        have OB8 := Lib.hid (OB7.out.below b8)
        have A8 := Lib.hid (A7.out.fr0 (Fr.b0 b8))
        clear b8 OB7 A7 Bel7
        clear X7 RM7 RX7
        go_wp2_with fail
        refine (HR.out (by simp) w8).mono ?_
        rintro r w9 ⟨⟨Y, ym, yd, hym, rfl, oy⟩, b9⟩
        have hyms := hym.symm
        clear hym
        subst hyms
        have hcur := Lib.hid (show wr.heap.size ≤ w8.heap.size from Bel8.out.size)
        have OY := Lib.hid (own_fr0 (own_le oy hcur.out) (Fr.none_alloc w9 (.cells #[.int .i64 k, .int .i64 n, .slice Y m yd] 24)))
        have YB := Lib.hid (Blk.new w9 24 #[.int .i64 k, .int .i64 n, .slice Y m yd])
        have hyn := Lib.hid (Nat.le_trans hcur.out b9.size)
        have BY : Hid (Below wr.heap.size wr (w9.alloc (.cells #[.int .i64 k, .int .i64 n, .slice Y m yd] 24))) := by
          have h1 : Below wr.heap.size wr w8 := by rw [Hp.out]; exact Bel8.out
          exact (h1.trans (b9.mono hcur.out)).alloc hyn.out _
        have OBn := Lib.hid ((OB8.out.below b9).alloc (.cells #[.int .i64 k, .int .i64 n, .slice Y m yd] 24))
        have An := Lib.hid ((A8.out.fr0 (Fr.b0 b9)).alloc (.cells #[.int .i64 k, .int .i64 n, .slice Y m yd] 24))
        have hym2 : Hid (m ≤ 20) := hq1
        clear oy b9 Bel8 OB8 A8
        go_wp2_with fail
        refine (bookS_add wr _ g g j HBK.out BY.out (by have := hji.out; omega) l Y m yd OY.out (by have := hym2.out; omega)).mono ?_
        rintro r w10 ⟨rfl, bk10, f10⟩
        have BK10 := Lib.hid bk10
        have gB10 : Hid (Below g W1 w10) := (HBel.out.trans (BY.out.mono hgw.out)).trans (f10.below_of (by have := BY.out.size; have := hgw.out; omega) (fun i hi => hi.1))
        have YB10 := Lib.hid (YB.out.fr f10 (fun hi => by have := hyn.out; omega))
        have RY10 := Lib.hid (Rd.of_own (own_fr OY.out f10 (fun i hi hF => by have := (OY.out.lt i hi).1; omega)))
        have OB10 : Hid (Blk w10 q 24 #[.int .i64 k, .int .i64 n, .slice A m c]) := B0.out.below (by have := gB10.out; rwa [HG.out])
        have A10 : Hid (Rd w10 3 A m (scells l)) := Ra1.out.below (by have := gB10.out; rwa [HG.out])
        clear bk10 f10 BY OBn An YB OY hyn hcur
        have y0 := YB10.out.cell 0
        have y1 := YB10.out.cell 1
        have y2 := YB10.out.cell 2
        simp only [List.getElem?_toArray, List.getElem?_cons_succ, List.getElem?_cons_zero] at y0 y1 y2
        have o0 := OB10.out.cell 0
        have o1 := OB10.out.cell 1
        have o2 := OB10.out.cell 2
        simp only [List.getElem?_toArray, List.getElem?_cons_succ, List.getElem?_cons_zero] at o0 o1 o2
        go_wp2_with fail
        refine (samesamps_eq l Y _ yd A c w10 RY10.out A10.out (by have := hym2.out; omega)).mono ?_
        rintro r w11 ⟨rfl, b11⟩
        have BK11 := Lib.hid (BK10.out.fr b11)
        have gB := Lib.hid (gB10.out.trans (b11.mono (by have := gB10.out.size; have := HG.out; omega)))
        have BB := Lib.hid (Below.refl w11.heap.size w11)
        clear b11 y0 y1 y2 o0 o1 o2 YB10 RY10 OB10 A10 BK10 gB10
        by_cases h10 : s.size < 10
        · have h10i : (s.size : Int) < 10 := by omega
          have h10d : decide ((10 : Int) ≤ (s.size : Int)) = false := decide_eq_false (by omega)
          go_wp2_with fail
          refine (HRs.out h10 w11).mono ?_
          rintro r w12 ⟨rfl, b12⟩
          have BBn := Lib.hid ((BB.out.trans (b12.mono BB.out.size)).alloc (Nat.le_trans BB.out.size b12.size) (.cells #[.int .i64 0, .int .i64 0, .slice none 0 0] 24))
          have gBn := Lib.hid ((gB.out.trans (b12.mono (by have := gB.out.size; have := HG.out; omega))).alloc (by have := gB.out.size; have := HG.out; have := b12.size; omega) (.cells #[.int .i64 0, .int .i64 0, .slice none 0 0] 24))
          have OZ := Lib.hid (World.ownsRow_nil (w12.alloc (.cells #[.int .i64 0, .int .i64 0, .slice none 0 0] 24)) w11.heap.size 82 3)
          have ZB := Lib.hid (Blk.new w12 24 #[.int .i64 0, .int .i64 0, .slice none 0 0])
          have hzn := Lib.hid (show w11.heap.size ≤ w12.heap.size from Nat.le_trans BB.out.size b12.size)
          clear b12
          go_wp2_with fail
          refine (bookS_add w11 _ g g (j + 1) BK11.out BBn.out (by have := hji.out; omega) [] none 0 0 OZ.out (by omega)).mono ?_
          rintro r w13 ⟨rfl, bk13, f13⟩
          have BK13 := Lib.hid bk13
          have gB13 : Hid (Below g W1 w13) := gBn.out.trans (f13.below_of (by have := gBn.out.size; have := HG.out; omega) (fun i hi => hi.1))
          have ZB13 := Lib.hid (ZB.out.fr f13 (fun hi => by have := hzn.out; omega))
          have z0 := ZB13.out.cell 0
          have z1 := ZB13.out.cell 1
          have z2 := ZB13.out.cell 2
          simp only [List.getElem?_toArray, List.getElem?_cons_succ, List.getElem?_cons_zero] at z0 z1 z2
          clear bk13 f13 BBn gBn OZ ZB hzn BB gB
          go_wp2
          go_roundw
          case rel => exact ⟨kk + 1, (j + 1) + 1, by omega, by go_num, by have := hj.out; show _ ≤ _; omega, BK13.out, gB13.out⟩
          case measure => simp [intOf]; omega
        · have h10i : ¬ (s.size : Int) < 10 := by omega
          have h10d : decide ((s.size : Int) < 10) = false := decide_eq_false h10i
          have h10e : (10 : Int) ≤ (s.size : Int) := by omega
          cases G
          · skip
            go_wp2_with fail
            refine (HRb.out (by omega) h6n.out (by simp) w11).mono ?_
            rintro r w12 ⟨rfl, b12⟩
            have BBn := Lib.hid ((BB.out.trans (b12.mono BB.out.size)).alloc (Nat.le_trans BB.out.size b12.size) (.cells #[.int .i64 0, .int .i64 0, .slice none 0 0] 24))
            have gBn := Lib.hid ((gB.out.trans (b12.mono (by have := gB.out.size; have := HG.out; omega))).alloc (by have := gB.out.size; have := HG.out; have := b12.size; omega) (.cells #[.int .i64 0, .int .i64 0, .slice none 0 0] 24))
            have OZ := Lib.hid (World.ownsRow_nil (w12.alloc (.cells #[.int .i64 0, .int .i64 0, .slice none 0 0] 24)) w11.heap.size 82 3)
            have ZB := Lib.hid (Blk.new w12 24 #[.int .i64 0, .int .i64 0, .slice none 0 0])
            have hzn := Lib.hid (show w11.heap.size ≤ w12.heap.size from Nat.le_trans BB.out.size b12.size)
            clear b12
            go_wp2_with fail
            refine (bookS_add w11 _ g g (j + 1) BK11.out BBn.out (by have := hji.out; omega) [] none 0 0 OZ.out (by omega)).mono ?_
            rintro r w13 ⟨rfl, bk13, f13⟩
            have BK13 := Lib.hid bk13
            have gB13 : Hid (Below g W1 w13) := gBn.out.trans (f13.below_of (by have := gBn.out.size; have := HG.out; omega) (fun i hi => hi.1))
            have ZB13 := Lib.hid (ZB.out.fr f13 (fun hi => by have := hzn.out; omega))
            have z0 := ZB13.out.cell 0
            have z1 := ZB13.out.cell 1
            have z2 := ZB13.out.cell 2
            simp only [List.getElem?_toArray, List.getElem?_cons_succ, List.getElem?_cons_zero] at z0 z1 z2
            clear bk13 f13 BBn gBn OZ ZB hzn BB gB
            go_wp2
            go_roundw
            case rel => exact ⟨kk + 1, (j + 1) + 1, by omega, by go_num, by have := hj.out; show _ ≤ _; omega, BK13.out, gB13.out⟩
            case measure => simp [intOf]; omega
          · skip
            go_wp2_with fail
            refine (HRg.out (by omega) h6n.out (by simp) w11).mono ?_
            rintro r w12 ⟨⟨Z, zq, zd, hzq, rfl, oz⟩, b12⟩
            have BBn := Lib.hid ((BB.out.trans (b12.mono BB.out.size)).alloc (Nat.le_trans BB.out.size b12.size) (.cells #[.int .i64 ZK, .int .i64 ZN, .slice Z zq zd] 24))
            have gBn := Lib.hid ((gB.out.trans (b12.mono (by have := gB.out.size; have := HG.out; omega))).alloc (by have := gB.out.size; have := HG.out; have := b12.size; omega) (.cells #[.int .i64 ZK, .int .i64 ZN, .slice Z zq zd] 24))
            have OZ := Lib.hid (own_fr0 (own_le oz BB.out.size) (Fr.none_alloc w12 (.cells #[.int .i64 ZK, .int .i64 ZN, .slice Z zq zd] 24)))
            clear oz
            have ZB := Lib.hid (Blk.new w12 24 #[.int .i64 ZK, .int .i64 ZN, .slice Z zq zd])
            have hzn := Lib.hid (show w11.heap.size ≤ w12.heap.size from Nat.le_trans BB.out.size b12.size)
            clear b12
            go_wp2_with fail
            refine (bookS_add w11 _ g g (j + 1) BK11.out BBn.out (by have := hji.out; omega) ZL Z zq zd OZ.out (by omega)).mono ?_
            rintro r w13 ⟨rfl, bk13, f13⟩
            have BK13 := Lib.hid bk13
            have gB13 : Hid (Below g W1 w13) := gBn.out.trans (f13.below_of (by have := gBn.out.size; have := HG.out; omega) (fun i hi => hi.1))
            have ZB13 := Lib.hid (ZB.out.fr f13 (fun hi => by have := hzn.out; omega))
            have RZ13 := Lib.hid (Rd.of_own (own_fr OZ.out f13 (fun i hi hF => by have := (OZ.out.lt i hi).1; omega)))
            have z0 := ZB13.out.cell 0
            have z1 := ZB13.out.cell 1
            have z2 := ZB13.out.cell 2
            simp only [List.getElem?_toArray, List.getElem?_cons_succ, List.getElem?_cons_zero] at z0 z1 z2
            clear bk13 f13 BBn gBn OZ ZB hzn BB gB
            go_wp2_with fail
            refine (HVz.out (by simp) Z zq zd w13 hzq RZ13.out).mono ?_
            rintro r w14 ⟨rfl, b14⟩
            have BK14 := Lib.hid (BK13.out.fr b14)
            have gB14 := Lib.hid (gB13.out.trans (b14.mono (by have := gB13.out.size; have := HG.out; omega)))
            have ZB14 := Lib.hid (ZB13.out.below b14)
            have RZ14 := Lib.hid (RZ13.out.fr0 (Fr.b0 b14))
            clear b14 z0 z1 z2
            have z0 := ZB14.out.cell 0
            have z1 := ZB14.out.cell 1
            have z2 := ZB14.out.cell 2
            simp only [List.getElem?_toArray, List.getElem?_cons_succ, List.getElem?_cons_zero] at z0 z1 z2
            go_wp2_with fail
            refine (HYz.out (by simp) Z zq zd w14 hzq RZ14.out).mono ?_
            rintro r w15 ⟨rfl, b15⟩
            have BK15 := Lib.hid (BK14.out.fr b15)
            have gB15 := Lib.hid (gB14.out.trans (b15.mono (by have := gB14.out.size; have := HG.out; omega)))
            clear b15 z0 z1 z2
            go_wp2
            go_roundw
            case rel => exact ⟨kk + 1, (j + 1) + 1, by omega, by go_num, by have := hj.out; show _ ≤ _; omega, BK15.out, gB15.out⟩
            case measure => simp [intOf]; omega
    · obtain rfl : kk = 2 := by omega
      go_wp2_with fail
      refine (AL.out _).mono ?_
      rintro r w7 ⟨rfl, b7⟩
      have B7 := Lib.hid (HBel.out.trans (b7.mono hgw.out))
      have BK7 := Lib.hid (HBK.out.fr b7)
      clear b7
      go_wp2_with fail
      refine (bookS_apart w7 g g j BK7.out (by have := hj.out; omega)).mono ?_
      rintro r w8 ⟨rfl, f8⟩
      have B8 : Hid (Below g W1 w8) := B7.out.trans (f8.below_of (by have := B7.out.size; have := HG.out; omega) (fun k hk => hk))
      clear f8
      have O8 := Lib.hid (O.out.below (by have := B8.out; rwa [HG.out]))
      go_wp2_with fail
      go_ret
      exact ⟨rfl, O8.out.bel⟩
end Go.Proofs.YtkickdmiilmkoaaGreatDoor
