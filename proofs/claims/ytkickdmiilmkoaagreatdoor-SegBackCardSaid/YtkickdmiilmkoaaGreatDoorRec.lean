/- Walks of rec: within, Valid, put. -/
import Derived.Test.YtkickdmiilmkoaaGreatDoorAggB
import Derived.Test.YtkickdmiilmkoaaGreatDoorPol
namespace Go.Proofs.YtkickdmiilmkoaaGreatDoor
open Go.RowKit

/-- An api.Record. -/
structure RecV where
  name : ByteArray
  start : Int
  agg : AggV
def RecV.cells (r : RecV) : List Value := [.string r.name, .int .i64 r.start, .int .i64 r.agg.count, .int .i64 r.agg.hi, .int .u64 r.agg.lo, .int .i64 r.agg.min, .int .i64 r.agg.max]
def RecV.val (r : RecV) : Value := .agg #[.string r.name, .int .i64 r.start, .int .i64 r.agg.count, .int .i64 r.agg.hi, .int .u64 r.agg.lo, .int .i64 r.agg.min, .int .i64 r.agg.max]
def RecV.wf (r : RecV) : Prop := in64 r.start ∧ r.agg.wf ∧ r.name.size ≤ maxLen
def timeB (t : Int) : Bool := decide (0 ≤ t) && decide (t ≤ 1099511627776)
def recOk (r : RecV) : Bool := validB r.name && timeB r.start && aggOk r.agg

theorem time_any (t : Int) (w : World) :
    Calls Tryz.prog 94 #[.int .i64 t] w fun r w' => r = .returned (.bool (timeB t)) ∧ w = w' := by
  by_cases h1 : 0 ≤ t
  · by_cases h2 : t ≤ 1099511627776
    · rw [show timeB t = true by simp [timeB, h1, h2]]
      go_enter Tryz.func94, Tryz.ntmps94
      go_wp2_with fail
      all_goals (go_ret <;> simp [*])
    · rw [show timeB t = false by simp [timeB, h2]]
      go_enter Tryz.func94, Tryz.ntmps94
      go_wp2_with fail
      all_goals (go_ret <;> simp [*])
  · rw [show timeB t = false by simp [timeB, h1]]
    go_enter Tryz.func94, Tryz.ntmps94
    go_wp2_with fail
    all_goals (go_ret <;> simp [*])

set_option maxRecDepth 100000 in
theorem recvalid_any (r : RecV) (hn : r.name.size ≤ maxLen) (w : World) :
    Calls Tryz.prog 29 #[r.val] w fun e w' => e = .returned (.bool (recOk r)) ∧ Below w.heap.size w w' := by
  have HT := Lib.hid (fun w' => time_any r.start w')
  have HV := Lib.hid (fun w' => aggvalid_any r.agg w')
  have HN : Hid (∀ (k c : Nat) (w' : World) (t : TypeId), k = w'.heap.size → Calls Tryz.prog 93 #[.slice (some ⟨k, 0, none⟩) 1 c] (w'.alloc (.cells #[.string r.name] t)) fun e w'' => e = .returned (.bool (validB r.name)) ∧ w'.alloc (.cells #[.string r.name] t) = w'') := fun k c w' t hk => valid_new r.name hn k c w' t hk
  have hok : Hid (recOk r = (validB r.name && timeB r.start && aggOk r.agg)) := rfl
  obtain ⟨nm, st, c, h, l, m, x⟩ := r
  unfold RecV.val
  unfold AggV.val at HV
  have B0 := Lib.hid (Blk.new w 63 #[.string nm, .int .i64 st, .int .i64 c, .int .i64 h, .int .u64 l, .int .i64 m, .int .i64 x])
  have O := Lib.hid ((Own.start w).skip (Fr.none_alloc w (.cells #[.string nm, .int .i64 st, .int .i64 c, .int .i64 h, .int .u64 l, .int .i64 m, .int .i64 x] 63)))
  simp only at HT HV HN hok
  clear hn
  go_enter Tryz.func29, Tryz.ntmps29
  go_wp2_with fail
  refine (HN.out _ _ _ _ (by simp)).mono ?_
  rintro e w1 ⟨rfl, rfl⟩
  have B1 := Lib.hid (B0.out.alloc (.cells #[.string nm] 9))
  have O1 := Lib.hid (O.out.skip (Fr.none_alloc _ (.cells #[.string nm] 9)))
  have b1 := B1.out.cell 1
  have b2 := B1.out.cell 2
  have b3 := B1.out.cell 3
  have b4 := B1.out.cell 4
  have b5 := B1.out.cell 5
  have b6 := B1.out.cell 6
  simp only [List.getElem?_toArray, List.getElem?_cons_succ, List.getElem?_cons_zero] at b1 b2 b3 b4 b5 b6
  cases hv : validB nm
  · have Hok : Hid (recOk ⟨nm, st, ⟨c, h, l, m, x⟩⟩ = false) := by have := hok.out; rw [hv, Bool.false_and, Bool.false_and] at this; exact this
    clear hv hok
    go_wp2_with fail
    go_ret
    exact ⟨by rw [Hok.out]; rfl, O1.out.bel⟩
  · cases ht : timeB st
    · have Hok : Hid (recOk ⟨nm, st, ⟨c, h, l, m, x⟩⟩ = false) := by have := hok.out; rw [ht, Bool.and_false, Bool.false_and] at this; exact this
      rw [ht] at HT
      clear hv hok ht
      go_wp2_with fail
      refine (HT.out _).mono ?_
      rintro e w2 ⟨rfl, rfl⟩
      go_wp2_with fail
      go_ret
      exact ⟨by rw [Hok.out]; rfl, O1.out.bel⟩
    · have Hok : Hid (recOk ⟨nm, st, ⟨c, h, l, m, x⟩⟩ = aggOk ⟨c, h, l, m, x⟩) := by have := hok.out; rw [hv, ht, Bool.true_and, Bool.true_and] at this; exact this
      rw [ht] at HT
      clear hv hok ht
      go_wp2_with fail
      refine (HT.out _).mono ?_
      rintro e w2 ⟨rfl, rfl⟩
      go_wp2_with fail
      refine (HV.out _).mono ?_
      rintro e w3 ⟨rfl, b⟩
      have O3 := Lib.hid (O1.out.below b)
      clear b b1 b2 b3 b4 b5 b6
      go_wp2_with fail
      go_ret
      exact ⟨by rw [Hok.out]; rfl, O3.out.bel⟩

/-- A record's bytes. -/
def recB (r : RecV) : List UInt8 := nameB r.name ++ le8 [r.start] ++ aggB r.agg
theorem recB_len (r : RecV) (h : r.name.size ≤ 15) : (recB r).length = 64 := by simp [recB, nameB_len _ h, le8_len, aggB_len]
theorem bstr_append (a b : List UInt8) : bstr a ++ bstr b = bstr (a ++ b) := by
  simp [bstr, ByteArray.ext_iff]
theorem validB_le {s : ByteArray} (h : validB s = true) : s.size ≤ 15 := by
  rcases Nat.lt_or_ge 15 s.size with h1 | h1
  · rw [validB_long h1] at h; cases h
  · exact h1
theorem pNames_one {l : List UInt8} {s : ByteArray} (h : s.size ≤ 15) : pNames 0 l [s] = (0, l ++ nameB s) := by
  simp only [pNames]
  simp; omega

set_option maxRecDepth 100000 in
set_option maxHeartbeats 2000000 in
theorem put_any (r : RecV) (hr : r.wf) (w : World) :
    Calls Tryz.prog 85 #[r.val] w fun e w' => e = .returned (bif recOk r then .tuple #[.string (bstr (recB r)), .int .i64 0] else .tuple #[.string { data := #[] }, .int .i64 1]) ∧ Below w.heap.size w w' := by
  have HV := Lib.hid (fun w' => recvalid_any r hr.2.2 w')
  have HP := Lib.hid (fun w' => aggput_any r.agg hr.2.1 w')
  cases hk : recOk r
  · rw [hk] at HV
    obtain ⟨nm, st, c, h, l, m, x⟩ := r
    clear hk HP hr
    unfold RecV.val at HV ⊢
    go_enter Tryz.func85, Tryz.ntmps85
    go_wp2_with fail
    refine (HV.out _).mono ?_
    rintro r w1 ⟨rfl, b1⟩
    have O1 := Lib.hid (((Own.start w).skip (Fr.none_alloc w (.cells #[.string nm, .int .i64 st, .int .i64 c, .int .i64 h, .int .u64 l, .int .i64 m, .int .i64 x] 63))).below b1)
    clear b1
    go_wp2_with fail
    go_ret2
    exact ⟨rfl, O1.out.bel⟩
  · rw [hk] at HV
    have hok : validB r.name = true ∧ timeB r.start = true ∧ aggOk r.agg = true := by unfold recOk at hk; simp only [Bool.and_eq_true] at hk; exact ⟨hk.1.1, hk.1.2, hk.2⟩
    rw [hok.2.2] at HP
    have Hnm := Lib.hid (validB_le hok.1)
    have HB : Hid (recB r = (nameB r.name ++ le8 [r.start]) ++ aggB r.agg) := rfl
    obtain ⟨nm, st, c, h, l, m, x⟩ := r
    clear hk hr hok
    unfold RecV.val at HV ⊢
    unfold AggV.val at HP
    have B0 := Lib.hid (Blk.new w 63 #[.string nm, .int .i64 st, .int .i64 c, .int .i64 h, .int .u64 l, .int .i64 m, .int .i64 x])
    simp only at HP Hnm HB
    obtain ⟨T, hT⟩ : ∃ T, bstr (aggB ⟨c, h, l, m, x⟩) = T := ⟨_, rfl⟩
    have hT2 : T.size ≤ 40 := by rw [← hT, bstr_size, aggB_len]; exact Nat.le_refl _
    simp only [cond_true] at HP
    rw [hT] at HP
    have HT := Lib.hid hT
    clear hT
    go_enter Tryz.func85, Tryz.ntmps85
    go_wp2_with fail
    refine (HV.out _).mono ?_
    rintro r w1 ⟨rfl, b1⟩
    have O1 := Lib.hid (((Own.start w).skip (Fr.none_alloc w (.cells #[.string nm, .int .i64 st, .int .i64 c, .int .i64 h, .int .u64 l, .int .i64 m, .int .i64 x] 63))).below b1)
    have B1 := Lib.hid (B0.out.below b1)
    have c2 := B1.out.cell 2
    have c3 := B1.out.cell 3
    have c4 := B1.out.cell 4
    have c5 := B1.out.cell 5
    have c6 := B1.out.cell 6
    simp only [List.getElem?_toArray, List.getElem?_cons_succ, List.getElem?_cons_zero] at c2 c3 c4 c5 c6
    clear b1
    go_wp2_with fail
    refine (HP.out _).mono ?_
    rintro r w2 ⟨rfl, b2⟩
    have O2 := Lib.hid (O1.out.below b2)
    have B2 := Lib.hid (B1.out.below b2)
    clear b2 c2 c3 c4 c5 c6
    have c0 := fun o => (B2.out.alloc o).cell 0
    simp only [List.getElem?_toArray, List.getElem?_cons_succ, List.getElem?_cons_zero] at c0
    go_wp2_with fail
    have p0 := (Pk.new w2).1
    have q0 := ((Own.start w2).skip (Fr.none_alloc w2 (.cells #[.int .i64 0, .slice none 0 0] 87))).also (Pk.new w2).2
    refine (names_any _ _ 0 [] [nm] _ 1 1 _ (p0.fr (Fr.none_alloc _ _) (fun _ _ h => h)) (Rd.new' (by simp) _ _ _ rfl) (adF_new' (by simp) p0.lt) (by simp) (by simp; have := Hnm.out; omega)).mono ?_
    rw [pNames_one Hnm.out, List.nil_append]
    rintro r w3 ⟨rfl, F1, p1, m1⟩
    have Q1 := Lib.hid ((q0.skip (Fr.none_alloc _ _)).mv m1)
    have P1 := Lib.hid p1
    clear p0 q0 m1 p1 c0
    have c1 := (B2.out.below Q1.out.bel).cell 1
    simp only [List.getElem?_toArray, List.getElem?_cons_succ, List.getElem?_cons_zero] at c1
    go_wp2_with fail
    refine (ints_any _ _ 0 _ [st] _ 1 1 _ (P1.out.fr (Fr.none_alloc _ _) (fun _ _ h => h)) (Rd.new _ _ _ _ rfl) (adF_new P1.out.lt) (by simp [nameB_len _ Hnm.out])).mono ?_
    rw [pW_zero]
    rintro r w4 ⟨rfl, F2, p2, m2⟩
    have Q2 := Lib.hid ((Q1.out.skip (Fr.none_alloc _ _)).mv m2)
    have P2 := Lib.hid p2
    clear m2 p2 c1 P1 Q1
    obtain ⟨S, hS⟩ : ∃ S, bstr (nameB nm ++ le8 [st]) = S := ⟨_, rfl⟩
    have HD := Lib.hid (done_at w2.heap.size F2 (nameB nm ++ le8 [st]) S w4 P2.out hS)
    have hS2 : Hid (S ++ T = bstr (recB ⟨nm, st, ⟨c, h, l, m, x⟩⟩)) := by
      show _ = _
      rw [← hS, ← HT.out, bstr_append, HB.out]
    have hS3 : S.size ≤ 24 := by rw [← hS, bstr_size, List.length_append, nameB_len _ Hnm.out, le8_len]; simp
    clear hS HB
    go_wp2_with fail
    refine (HD.out).mono ?_
    rintro r w5 ⟨rfl, rfl⟩
    have O5 := Lib.hid (O2.out.below Q2.out.bel)
    clear HD
    go_wp2_with fail
    go_ret2
    exact ⟨by first | (rw [← hS2.out]; rfl) | rfl, O5.out.bel⟩
end Go.Proofs.YtkickdmiilmkoaaGreatDoor
