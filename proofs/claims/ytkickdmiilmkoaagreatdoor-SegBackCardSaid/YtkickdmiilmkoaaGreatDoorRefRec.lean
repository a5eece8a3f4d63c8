/- Walks of sedimentref1.Valid, PutAgg, sedimentref10.ValidRecord. -/
import Derived.Test.YtkickdmiilmkoaaGreatDoorRef1B
namespace Go.Proofs.YtkickdmiilmkoaaGreatDoor
open Go.RowKit

set_option maxHeartbeats 1000000 in
theorem raggvalid_any (a : AggV) (w : World) : Calls Tryz.prog 97 #[a.val] w fun r w' => r = .returned (.bool (aggOk a)) ∧ Below w.heap.size w w' := by
  have hok : Hid (aggOk a = (decide (1 ≤ a.count) && decide (a.count ≤ 4611686018427387904) && decide (a.min ≤ a.max))) := rfl
  obtain ⟨c, h, lo, m, x⟩ := a
  unfold AggV.val
  simp only at hok
  have O := Lib.hid ((Own.start w).skip (Fr.none_alloc w (.cells #[.int .i64 c, .int .i64 h, .int .u64 lo, .int .i64 m, .int .i64 x] 61)))
  by_cases h1 : 1 ≤ c
  · by_cases h2 : c ≤ 4611686018427387904
    · by_cases h3 : m ≤ x
      · have hv : Hid (aggOk ⟨c, h, lo, m, x⟩ = true) := by show _ = _; rw [hok.out]; simp [h1, h2, h3]
        go_enter Tryz.func97, Tryz.ntmps97
        go_wp2_with fail
        go_ret
        exact ⟨by rw [hv.out]; simp [*], O.out.bel⟩
      · have h3d : decide (m ≤ x) = false := decide_eq_false h3
        have hv : Hid (aggOk ⟨c, h, lo, m, x⟩ = false) := by show _ = _; rw [hok.out]; simp [h3]
        go_enter Tryz.func97, Tryz.ntmps97
        go_wp2_with fail
        go_ret
        exact ⟨by rw [hv.out]; simp [*], O.out.bel⟩
    · have h2d : decide (c ≤ 4611686018427387904) = false := decide_eq_false h2
      have hv : Hid (aggOk ⟨c, h, lo, m, x⟩ = false) := by show _ = _; rw [hok.out]; simp [h2]
      go_enter Tryz.func97, Tryz.ntmps97
      go_wp2_with fail
      go_ret
      exact ⟨by rw [hv.out]; simp [*], O.out.bel⟩
  · have h1d : decide (1 ≤ c) = false := decide_eq_false h1
    have hv : Hid (aggOk ⟨c, h, lo, m, x⟩ = false) := by show _ = _; rw [hok.out]; simp [h1]
    go_enter Tryz.func97, Tryz.ntmps97
    go_wp2_with fail
    go_ret
    exact ⟨by rw [hv.out]; simp [*], O.out.bel⟩

set_option maxHeartbeats 1000000 in
theorem rvalidR_any (r : RecV) (hn : r.name.size ≤ maxLen) (w : World) :
    Calls Tryz.prog 30 #[r.val] w fun e w' => e = .returned (.bool (recOk r)) ∧ Below w.heap.size w w' := by
  have HV := Lib.hid (fun w' => rvalid_any r.name hn w')
  have HA := Lib.hid (fun w' => raggvalid_any r.agg w')
  have hok : Hid (recOk r = (validB r.name && timeB r.start && aggOk r.agg)) := rfl
  obtain ⟨nm, st, ⟨c, h, lo, m, x⟩⟩ := r
  unfold RecV.val
  unfold AggV.val at HA
  simp only at HV HA hok
  have B0 := Blk.new w 63 #[.string nm, .int .i64 st, .int .i64 c, .int .i64 h, .int .u64 lo, .int .i64 m, .int .i64 x]
  have c0 := B0.cell 0
  have c1 := B0.cell 1
  have c2 := B0.cell 2
  have c3 := B0.cell 3
  have c4 := B0.cell 4
  have c5 := B0.cell 5
  have c6 := B0.cell 6
  simp only [List.getElem?_toArray, List.getElem?_cons_succ, List.getElem?_cons_zero] at c0 c1 c2 c3 c4 c5 c6
  have O := Lib.hid ((Own.start w).skip (Fr.none_alloc w (.cells #[.string nm, .int .i64 st, .int .i64 c, .int .i64 h, .int .u64 lo, .int .i64 m, .int .i64 x] 63)))
  clear B0 hn
  obtain ⟨V, hV⟩ : ∃ V, validB nm = V := ⟨_, rfl⟩
  obtain ⟨Q, hQ⟩ : ∃ Q, aggOk ⟨c, h, lo, m, x⟩ = Q := ⟨_, rfl⟩
  rw [hV] at HV hok
  rw [hQ] at HA hok
  clear hV hQ
  go_enter Tryz.func30, Tryz.ntmps30
  go_wp2_with fail
  refine (HV.out _).mono ?_
  rintro e w1 ⟨rfl, rfl⟩
  cases V
  · go_wp2_with fail
    go_ret
    exact ⟨by rw [hok.out]; rfl, O.out.bel⟩
  · by_cases h1 : 0 ≤ st
    · by_cases h2 : st ≤ 1099511627776
      · have hT : Hid (timeB st = true) := by show _ = _; simp [timeB, h1, h2]
        go_wp2_with fail
        refine (HA.out _).mono ?_
        rintro e w2 ⟨rfl, b2⟩
        have O2 := Lib.hid (O.out.below b2)
        clear b2 c0 c1 c2 c3 c4 c5 c6
        cases Q
        all_goals
          go_wp2_with fail
          go_ret
          exact ⟨by rw [hok.out, hT.out]; rfl, O2.out.bel⟩
      · have hT : Hid (timeB st = false) := by show _ = _; simp [timeB, h2]
        have h2d : decide (st ≤ 1099511627776) = false := decide_eq_false h2
        go_wp2_with fail
        go_ret
        exact ⟨by rw [hok.out, hT.out]; rfl, O.out.bel⟩
    · have hT : Hid (timeB st = false) := by show _ = _; simp [timeB, h1]
      have h1d : decide (0 ≤ st) = false := decide_eq_false h1
      go_wp2_with fail
      go_ret
      exact ⟨by rw [hok.out, hT.out]; rfl, O.out.bel⟩

set_option maxRecDepth 100000 in
set_option maxHeartbeats 4000000 in
theorem raggput_any (a : AggV) (ha : a.wf) (w : World) :
    Calls Tryz.prog 87 #[a.val] w fun r w' => r = .returned (bif aggOk a then .tuple #[.string (bstr (aggB a)), .int .i64 0] else .tuple #[.string { data := #[] }, .int .i64 1]) ∧ Below w.heap.size w w' := by
  have HV := Lib.hid (fun w' => raggvalid_any a w')
  have hlo := ha.2.2.1
  have HB : Hid (aggB a = (((([] ++ le8 [a.count]) ++ le8 [a.hi]) ++ le a.lo.toNat 8) ++ le8 [a.min]) ++ le8 [a.max]) := by
    show _ = _
    unfold aggB
    rw [le8_two, le8_two, le8_one, le8_one, le8_one, le8_one]
    simp only [List.nil_append, List.append_assoc]
  obtain ⟨c, h, lo, m, x⟩ := a
  unfold AggV.val at HV ⊢
  simp only at hlo HB
  have B0 := Lib.hid (Blk.new w 61 #[.int .i64 c, .int .i64 h, .int .u64 lo, .int .i64 m, .int .i64 x])
  have O := Lib.hid ((Own.start w).skip (Fr.none_alloc w (.cells #[.int .i64 c, .int .i64 h, .int .u64 lo, .int .i64 m, .int .i64 x] 61)))
  obtain ⟨hlo1, hlo2⟩ := hlo
  clear ha
  cases hok : aggOk ⟨c, h, lo, m, x⟩
  · rw [hok] at HV
    clear hok hlo1 hlo2
    go_enter Tryz.func87, Tryz.ntmps87
    go_wp2_with fail
    refine (HV.out _).mono ?_
    rintro r w1 ⟨rfl, b1⟩
    have O1 := Lib.hid (O.out.below b1)
    clear b1
    go_wp2_with fail
    go_ret2
    exact ⟨rfl, O1.out.bel⟩
  · rw [hok] at HV
    clear hok
    have HL := Lib.hid (And.intro hlo1 hlo2)
    clear hlo1 hlo2
    go_enter Tryz.func87, Tryz.ntmps87
    go_wp2_with fail
    refine (HV.out _).mono ?_
    rintro r w1 ⟨rfl, b1⟩
    have O1 := Lib.hid (O.out.below b1)
    have B1 := Lib.hid (B0.out.below b1)
    have P1 := Lib.hid (Pq.new w1)
    have Q1 := Lib.hid ((O1.out.skip (Fr.none_alloc w1 (.cells #[.slice none 0 0, .int .i64 0] 94))).also (G := fun k => k = w1.heap.size ∨ rowF (.slice none 0 0) k) (fun k hk => by rcases hk with rfl | hk; exact O1.out.bel.size; cases hk))
    have hq := Lib.hid (B1.out.lt)
    have c0 := fun o => (B1.out.alloc o).cell 0
    simp only [List.getElem?_toArray, List.getElem?_cons_succ, List.getElem?_cons_zero] at c0
    clear b1
    obtain ⟨g, hg⟩ : ∃ g, w1.heap.size = g := ⟨_, rfl⟩
    obtain ⟨q, hqq⟩ : ∃ q, w.heap.size = q := ⟨_, rfl⟩
    have hF1 : Hid (∀ i, (i = w1.heap.size ∨ rowF (.slice none 0 0) i) → i ≠ w.heap.size) := fun i hi e => by
      rcases hi with h1 | h1
      · have := hq.out; omega
      · cases h1
    have B1' := Lib.hid (B1.out.alloc (.cells #[.slice none 0 0, .int .i64 0] 94))
    have hsz : Hid (w.heap.size < (w1.alloc (.cells #[.slice none 0 0, .int .i64 0] 94)).heap.size) := B1'.out.lt
    clear hg hqq g q
    go_wp2_with fail
    refine (rint_any _ _ _ c _ P1.out (by simp [le8_len, le_length])).mono ?_
    rintro r w2 ⟨rfl, F2, p2, m2⟩
    have P2 := Lib.hid p2
    have Q2 := Lib.hid (Q1.out.mv m2)
    have B2 := Lib.hid (B1'.out.fr m2.fr (fun h => hF1.out _ h rfl))
    have hF2 : Hid (∀ i, F2 i → i ≠ w.heap.size) := fun i hi e => by
      rcases m2.sub i hi with h1 | h1
      · exact hF1.out i h1 e
      · have := B1'.out.lt; omega
    clear p2 m2 c0
    have e1 := B2.out.cell 1
    simp only [List.getElem?_toArray, List.getElem?_cons_succ, List.getElem?_cons_zero] at e1
    go_wp2_with fail
    refine (rint_any _ _ _ h _ P2.out (by simp [le8_len, le_length])).mono ?_
    rintro r w3 ⟨rfl, F3, p3, m3⟩
    have P3 := Lib.hid p3
    have Q3 := Lib.hid (Q2.out.mv m3)
    have B3 := Lib.hid (B2.out.fr m3.fr (fun h => hF2.out _ h rfl))
    have hF3 : Hid (∀ i, F3 i → i ≠ w.heap.size) := fun i hi e => by
      rcases m3.sub i hi with h1 | h1
      · exact hF2.out i h1 e
      · have := B2.out.lt; omega
    clear p3 m3 e1
    have e2 := B3.out.cell 2
    simp only [List.getElem?_toArray, List.getElem?_cons_succ, List.getElem?_cons_zero] at e2
    go_wp2_with fail
    refine (rword_8 _ _ _ lo _ P3.out HL.out.1 (by have := HL.out.2; omega) (by simp [le8_len, le_length])).mono ?_
    rintro r w4 ⟨rfl, F4, p4, m4⟩
    have P4 := Lib.hid p4
    have Q4 := Lib.hid (Q3.out.mv m4)
    have B4 := Lib.hid (B3.out.fr m4.fr (fun h => hF3.out _ h rfl))
    have hF4 : Hid (∀ i, F4 i → i ≠ w.heap.size) := fun i hi e => by
      rcases m4.sub i hi with h1 | h1
      · exact hF3.out i h1 e
      · have := B3.out.lt; omega
    clear p4 m4 e2
    have e3 := B4.out.cell 3
    simp only [List.getElem?_toArray, List.getElem?_cons_succ, List.getElem?_cons_zero] at e3
    go_wp2_with fail
    refine (rint_any _ _ _ m _ P4.out (by simp [le8_len, le_length])).mono ?_
    rintro r w5 ⟨rfl, F5, p5, m5⟩
    have P5 := Lib.hid p5
    have Q5 := Lib.hid (Q4.out.mv m5)
    have B5 := Lib.hid (B4.out.fr m5.fr (fun h => hF4.out _ h rfl))
    have hF5 : Hid (∀ i, F5 i → i ≠ w.heap.size) := fun i hi e => by
      rcases m5.sub i hi with h1 | h1
      · exact hF4.out i h1 e
      · have := B4.out.lt; omega
    clear p5 m5 e3
    have e4 := B5.out.cell 4
    simp only [List.getElem?_toArray, List.getElem?_cons_succ, List.getElem?_cons_zero] at e4
    go_wp2_with fail
    refine (rint_any _ _ _ x _ P5.out (by simp [le8_len, le_length])).mono ?_
    rintro r w6 ⟨rfl, F6, p6, m6⟩
    have P6 := Lib.hid p6
    have Q6 := Lib.hid (Q5.out.mv m6)
    have B6 := Lib.hid (B5.out.fr m6.fr (fun h => hF5.out _ h rfl))
    have hF6 : Hid (∀ i, F6 i → i ≠ w.heap.size) := fun i hi e => by
      rcases m6.sub i hi with h1 | h1
      · exact hF5.out i h1 e
      · have := B5.out.lt; omega
    clear p6 m6 e4
    have P7 := P6.out
    rw [← HB.out] at P7
    obtain ⟨M, k, d, hb, hrow, hF⟩ := P7
    have c0 := hb.cell 0
    simp only [List.getElem?_toArray, List.getElem?_cons_zero] at c0
    have hcv := run_bytes_string (P := Tryz.prog) 85 9 5 Tryz.underlying85 Tryz.underlying5 Tryz.underlying9 d (Rd.of_own hrow)
    change _ = Result.ok (Value.string (bstr _)) _ at hcv
    clear hb hrow hF
    go_wp2_with fail
    go_ret2
    exact ⟨rfl, Q6.out.bel⟩
end Go.Proofs.YtkickdmiilmkoaaGreatDoor
