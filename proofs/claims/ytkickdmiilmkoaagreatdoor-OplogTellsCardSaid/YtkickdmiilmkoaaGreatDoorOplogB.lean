/- Walks of sedimentlaw20.valid, alive. -/
import Derived.Test.YtkickdmiilmkoaaGreatDoorOplog
import Derived.Test.YtkickdmiilmkoaaGreatDoorRef1B
namespace Go.Proofs.YtkickdmiilmkoaaGreatDoor
open Go.RowKit

set_option maxRecDepth 100000 in
set_option maxHeartbeats 4000000 in
theorem lopvalid_any (k n : Int) (l : List SampV) (hl : ∀ r ∈ l, r.wf) (A : Option Addr) (m c : Nat) (w : World) (hr : Rd w 3 A m (scells l)) (hm : m ≤ 1000000) :
    Calls Tryz.prog 11 #[.agg #[.int .i64 k, .int .i64 n, .slice A m c]] w fun r w' => r = .returned (.bool (opOk k n l)) ∧ Below w.heap.size w w' := by
  have hlen := hr.samps_len
  have HLen := Lib.hid hlen
  have Hr := Lib.hid hr
  have HV : Hid (∀ r ∈ l, ∀ w', Calls Tryz.prog 44 #[r.val] w' fun e w'' => e = .returned (.bool (sampOk r)) ∧ Below w'.heap.size w' w'') := fun r h w' => rvalidS_any r (hl r h).2.2 w'
  have B0 := Lib.hid (Blk.new w 24 #[.int .i64 k, .int .i64 n, .slice A m c])
  have O := Lib.hid ((Own.start w).skip (Fr.none_alloc w (.cells #[.int .i64 k, .int .i64 n, .slice A m c] 24)))
  have HK : Hid (opOk k n l = if k = 1 then decide (n = 0) && (decide (1 ≤ m) && (decide (m ≤ 8) && l.all sampOk)) else if k = 2 then decide (0 ≤ n) && (decide (n ≤ 1099511627776) && decide (m = 0)) else false) := by
    show _ = _
    unfold opOk
    rw [hlen]
  obtain ⟨V, hV⟩ : ∃ V, opOk k n l = V := ⟨_, rfl⟩
  rw [hV] at HK ⊢
  clear hlen hr hl hV
  by_cases k2 : k = 2
  · subst k2
    have HK2 : Hid (V = (decide (0 ≤ n) && (decide (n ≤ 1099511627776) && decide (m = 0)))) := HK.out
    clear HK
    by_cases n0 : 0 ≤ n
    · by_cases n1 : n ≤ 1099511627776
      · by_cases m0 : m = 0
        · subst m0
          have hv : Hid (V = true) := by show _ = _; rw [HK2.out]; simp [n0, n1]
          go_enter Tryz.func11, Tryz.ntmps11
          go_wp2_with fail
          go_ret
          exact ⟨by rw [hv.out]; simp [*], O.out.bel⟩
        · have m0b : ((m : Int) == 0) = false := by simpa using m0
          have hv : Hid (V = false) := by show _ = _; rw [HK2.out]; simp [m0]
          go_enter Tryz.func11, Tryz.ntmps11
          go_wp2_with fail
          go_ret
          exact ⟨by rw [hv.out]; simp [*], O.out.bel⟩
      · have n1b : decide (n ≤ 1099511627776) = false := decide_eq_false n1
        have hv : Hid (V = false) := by show _ = _; rw [HK2.out]; simp [n1]
        go_enter Tryz.func11, Tryz.ntmps11
        go_wp2_with fail
        go_ret
        exact ⟨by rw [hv.out]; simp [*], O.out.bel⟩
    · have n0b : decide (0 ≤ n) = false := decide_eq_false n0
      have hv : Hid (V = false) := by show _ = _; rw [HK2.out]; simp [n0]
      go_enter Tryz.func11, Tryz.ntmps11
      go_wp2_with fail
      go_ret
      exact ⟨by rw [hv.out]; simp [*], O.out.bel⟩
  have k2b : (k == 2) = false := by simpa using k2
  have HK3 : Hid (V = (decide (k = 1) && (decide (n = 0) && (decide (1 ≤ m) && (decide (m ≤ 8) && l.all sampOk))))) := by
    show _ = _
    rw [HK.out, if_neg k2]
    by_cases k1 : k = 1 <;> simp [k1]
  clear HK
  have Hk2 := Lib.hid k2
  clear k2
  go_enter Tryz.func11, Tryz.ntmps11
  go_wp2_with fail
  clear k2b
  go_loopw [3] (fun i wr => ∃ j : Nat, j ≤ m ∧ i = .int .i64 j ∧ Hid ((l.take j).all sampOk = true) ∧ Blk wr w.heap.size 24 #[.int .i64 k, .int .i64 n, .slice A m c] ∧ Own w wr (fun _ => False)) (fun i _ => m - (intOf i).toNat)
  case atStart => exact ⟨0, Nat.zero_le _, rfl, rfl, B0.out, O.out⟩
  case round =>
    obtain ⟨j, hj, rfl, hall, hblk, ho⟩ := hrel
    have Ho := Lib.hid ho
    have HB := Lib.hid hblk
    have c0 := hblk.cell 0
    have c1 := hblk.cell 1
    have c2 := hblk.cell 2
    simp only [List.getElem?_toArray, List.getElem?_cons_succ, List.getElem?_cons_zero] at c0 c1 c2
    by_cases hlt : j < m
    · obtain ⟨ad, r, rfl, hu, d0, d1, d2⟩ := (Hr.out.fr0 (Fr.b0 ho.bel)).samp_ hlt
      have HVr := Lib.hid (HV.out r (mem_of_get hu))
      have Hu := Lib.hid hu
      clear hu ho hblk
      cases hok : sampOk r
      · have HF : Hid (V = false) := by show _ = _; rw [HK3.out, all_false Hu.out hok]; simp
        rw [hok] at HVr
        unfold SampV.val at HVr
        clear hok
        go_wp2_with fail
        refine (HVr.out _).mono ?_
        rintro e w1 ⟨rfl, b1⟩
        have O1 := Lib.hid (Ho.out.below b1)
        clear b1 c0 c1 c2 d0 d1 d2
        go_wp2_with fail
        go_ret
        exact ⟨by rw [HF.out]; rfl, O1.out.bel⟩
      · have HT : Hid ((l.take (j + 1)).all sampOk = true) := by show _ = _; rw [all_snoc Hu.out, hall.out, hok]; rfl
        rw [hok] at HVr
        unfold SampV.val at HVr
        clear hok
        go_wp2_with fail
        refine (HVr.out _).mono ?_
        rintro e w1 ⟨rfl, b1⟩
        have O1 := Lib.hid (Ho.out.below b1)
        have B1 := Lib.hid (HB.out.below b1)
        clear b1 c0 c1 c2 d0 d1 d2
        go_wp2
        go_roundw
        case rel => exact ⟨j + 1, by omega, by go_num, HT.out, B1.out, O1.out⟩
        case measure => simp [intOf]; omega
    · obtain rfl : j = m := by omega
      have HA : Hid (l.all sampOk = true) := by
        have := hall.out
        rwa [take_all (by rw [HLen.out]; exact Nat.le_refl _)] at this
      have HK4 : Hid (V = (decide (k = 1) && (decide (n = 0) && (decide (1 ≤ j) && decide (j ≤ 8))))) := by show _ = _; rw [HK3.out, HA.out, Bool.and_true]
      clear ho hblk
      by_cases k1 : k = 1
      · subst k1
        by_cases n0 : n = 0
        · subst n0
          by_cases m1 : 1 ≤ j
          · have m1i : (1 : Int) ≤ (j : Int) := by omega
            by_cases m8 : j ≤ 8
            · have m8i : (j : Int) ≤ 8 := by omega
              have hv : Hid (V = true) := by show _ = _; rw [HK4.out]; simp [m1, m8]
              go_wp2_with fail
              go_ret
              exact ⟨by rw [hv.out]; simp [*], Ho.out.bel⟩
            · have m8i : decide ((j : Int) ≤ 8) = false := decide_eq_false (by omega)
              have hv : Hid (V = false) := by show _ = _; rw [HK4.out]; simp [m8]
              go_wp2_with fail
              go_ret
              exact ⟨by rw [hv.out]; simp [*], Ho.out.bel⟩
          · have m1i : decide ((1 : Int) ≤ (j : Int)) = false := decide_eq_false (by omega)
            have hv : Hid (V = false) := by show _ = _; rw [HK4.out]; simp [m1]
            go_wp2_with fail
            go_ret
            exact ⟨by rw [hv.out]; simp [*], Ho.out.bel⟩
        · have hn0 : (n == 0) = false := by simpa using n0
          have hv : Hid (V = false) := by show _ = _; rw [HK4.out]; simp [n0]
          clear n0
          go_wp2_with fail
          go_ret
          exact ⟨by rw [hv.out]; simp [*], Ho.out.bel⟩
      · have hk0 : (k == 1) = false := by simpa using k1
        have hv : Hid (V = false) := by show _ = _; rw [HK4.out]; simp [k1]
        clear k1
        go_wp2_with fail
        go_ret
        exact ⟨by rw [hv.out]; simp [*], Ho.out.bel⟩

/-- The bytes of a tick of five, and what they tell. -/
theorem tick_ok : opOk 2 5 [] = true := rfl
theorem tick_len : (opB 2 5 []).length = 10 := by unfold opB; simp [le8_len]
theorem opB_rd {k n : Int} {l : List SampV} (hn : in64 n) (hl : ∀ r ∈ l, r.wf) (hok : opOk k n l = true) : rdK (opB k n l) = k ∧ rdN (opB k n l) = n ∧ sgetL ((opB k n l).drop 10) = l ∧ sgetE ((opB k n l).drop 10) = 0 := by
  obtain ⟨hk, h8, hall⟩ := opOk_parts hok
  have hd : (opB k n l).drop 10 = l.flatMap sampB := by
    unfold opB
    rw [List.drop_left' (by rw [List.length_append, le8_len]; rfl)]
  have hz : (l.flatMap sampB).length = 32 * l.length := sampsB_len hall
  have hq : (l.flatMap sampB).length / 32 = l.length := by omega
  refine ⟨?_, ?_, ?_, ?_⟩
  · unfold rdK opB
    rcases hk with rfl | rfl <;> rfl
  · unfold rdN opB
    rw [List.append_assoc, show ([UInt8.ofNat k.toNat, UInt8.ofNat l.length] ++ (le8 [n] ++ l.flatMap sampB)).drop 2 = le8 [n] ++ l.flatMap sampB from rfl, List.take_left' (by rw [le8_len]; rfl), le8_one, sgn_le8 hn]
  · rw [hd]
    unfold sgetL
    rw [if_pos (by omega), hq, sampsOk_back hl hall, cond_true, sampsRd_back hl hall]
  · rw [hd]
    unfold sgetE
    rw [if_pos (by omega), hq, sampsOk_back hl hall, cond_true]
theorem readOk_back {k n : Int} {l : List SampV} (hn : in64 n) (hl : ∀ r ∈ l, r.wf) (hok : opOk k n l = true) : readOk (opB k n l) = true := by
  obtain ⟨h1, h2, h3, h4⟩ := opB_rd hn hl hok
  unfold readOk
  rw [h1, h2, h3, h4, hok]
  simp
set_option maxRecDepth 100000 in
set_option maxHeartbeats 4000000 in
theorem alive20_any (w : World) : Calls Tryz.prog 8 #[] w fun r w' => r = .returned (.bool true) ∧ Below w.heap.size w w' := by
  have HB : Hid (∀ w', Calls Tryz.prog 10 #[.agg #[.int .i64 2, .int .i64 5, .slice none 0 0]] w' fun r w'' => r = .returned (.tuple #[.string (bstr (opB 2 5 [])), .int .i64 0]) ∧ Below w'.heap.size w' w'') := fun w' => by
    have := opbytes_any 2 5 [] (fun r h => by cases h) none 0 0 w' Rd.nil_ (by decide)
    rwa [tick_ok] at this
  have h5 : in64 5 := by unfold in64; decide
  obtain ⟨r1, r2, r3, _⟩ := opB_rd h5 (l := []) (fun r h => by cases h) tick_ok
  have HR : Hid (∀ w', Calls Tryz.prog 15 #[.string (bstr (opB 2 5 []))] w' fun r w'' => (∃ A c, r = .returned (.tuple #[.agg #[.int .i64 2, .int .i64 5, .slice A 0 c], .int .i64 0])) ∧ Below w'.heap.size w' w'') := fun w' => by
    refine (opread_any (opB 2 5 []) (by rw [tick_len]; decide) (by rw [tick_len]; decide) w').mono ?_
    rintro r w'' ⟨e1, _, b⟩
    obtain ⟨A, m, c, e, ho⟩ := e1 (readOk_back h5 (fun r h => by cases h) tick_ok)
    rw [r1, r2] at e
    rw [r3] at ho
    have hm : m = 0 := by have := ho.1; simp [scells] at this; omega
    subst hm
    exact ⟨⟨A, c, e⟩, b⟩
  have HV : Hid (∀ A c w', Calls Tryz.prog 13 #[.agg #[.int .i64 2, .int .i64 5, .slice A 0 c]] w' fun r w'' => r = .returned (.bool true) ∧ Below w'.heap.size w' w'') := fun A c w' => by
    have := opvalid_any 2 5 [] (fun r h => by cases h) A 0 c w' ⟨rfl, fun h => absurd h (by omega)⟩ (by decide)
    rwa [tick_ok] at this
  have hz : (bstr (opB 2 5 [])).size = 10 := by rw [bstr_size, tick_len]
  obtain ⟨S, hS⟩ : ∃ S, bstr (opB 2 5 []) = S := ⟨_, rfl⟩
  rw [hS] at HB HR hz
  have hz2 : ((S.size : Int) == 10) = true := by rw [hz]; rfl
  clear r1 r2 r3 hS hz h5
  go_enter Tryz.func8, Tryz.ntmps8
  go_wp2_with fail
  refine (HB.out _).mono ?_
  rintro r w1 ⟨rfl, b1⟩
  have B1 := Lib.hid b1
  clear b1
  go_wp2_with fail
  refine (HR.out _).mono ?_
  rintro r w2 ⟨⟨A, d, rfl⟩, b2⟩
  have B2 := Lib.hid (B1.out.trans (b2.mono B1.out.size))
  clear b2
  go_wp2_with fail
  refine (HV.out A d _).mono ?_
  rintro r w3 ⟨rfl, b3⟩
  have B3 := Lib.hid ((B2.out.alloc B2.out.size (.cells #[.int .i64 2, .int .i64 5, .slice A 0 d] 24)).trans (b3.mono (by simp; have := B2.out.size; omega)))
  clear b3
  go_wp2_with fail
  go_ret
  exact ⟨rfl, B3.out⟩
end Go.Proofs.YtkickdmiilmkoaaGreatDoor
