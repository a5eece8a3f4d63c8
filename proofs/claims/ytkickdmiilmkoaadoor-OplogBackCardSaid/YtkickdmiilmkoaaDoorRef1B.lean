/- Walks of sedimentref1.Name, Valid, sedimentref10.ValidSample, PutSamples, GetSamples; and plain: they are rec's. -/
import Derived.Test.YtkickdmiilmkoaaDoorRef1
namespace Go.Proofs.YtkickdmiilmkoaaDoor
open Go.RowKit

set_option maxRecDepth 100000 in
set_option maxHeartbeats 4000000 in
theorem rvalid_any (s : ByteArray) (hs : s.size ≤ maxLen) (w : World) :
    Calls Tryd.prog 49 #[.string s] w fun r w' => r = .returned (.bool (validB s)) ∧ w = w' := by
  unfold maxLen at hs
  by_cases h1 : s.size < 1
  · have g1 : (s.size : Int) < 1 := by omega
    have E := Lib.hid (validB_short h1)
    go_enter Tryd.func49, Tryd.ntmps49
    go_wp2_with fail
    go_ret
    exact ⟨by rw [E.out]; rfl, rfl⟩
  by_cases h2 : 15 < s.size
  · have g1 : ¬ (s.size : Int) < 1 := by omega
    have g2 : (15 : Int) < (s.size : Int) := by omega
    have E := Lib.hid (validB_long h2)
    go_enter Tryd.func49, Tryd.ntmps49
    go_wp2_with fail
    go_ret
    exact ⟨by rw [E.out]; rfl, rfl⟩
  have g1 : ¬ (s.size : Int) < 1 := by omega
  have g2 : ¬ (15 : Int) < (s.size : Int) := by omega
  go_enter Tryd.func49, Tryd.ntmps49
  go_wp2_with fail
  clear g1 g2
  go_loop [3] (fun i => ∃ k : Nat, k ≤ s.size ∧ i = .int .i64 k ∧ Hid (letters (s.data.toList.take k) = true)) (fun i => s.size - (intOf i).toNat)
  case atStart => exact ⟨0, Nat.zero_le _, rfl, rfl⟩
  case round =>
    obtain ⟨k, hk, rfl, hl⟩ := hrel
    by_cases hlt : k < s.size
    · have hb1 : s[k].toNat < 256 := s[k].toNat_lt
      have HB := Lib.hid (byte_at hlt)
      have HY : Hid (letterB (s[k].toNat : Int) = true → letters (s.data.toList.take (k + 1)) = true) := fun h => by unfold letters; rw [all_take_succ HB.out hl.out]; exact h
      have HN : Hid (letterB (s[k].toNat : Int) = false → validB s = false) := fun h => by
        unfold validB
        rw [show letters s.data.toList = false from all_take_false (k := k + 1) (by rw [all_take_succ HB.out hl.out]; exact h)]; simp
      clear hl HB
      go_wp2
      all_goals
        first
        | (have hL : Hid (letterB (s[k].toNat : Int) = true) := by
             show _ = _
             unfold letterB
             simp at *
             omega
           have hY := Lib.hid (HY.out hL.out)
           clear hL HY HN
           go_round
           case rel => exact ⟨k + 1, by omega, by go_num, hY.out⟩
           case measure => simp [intOf]; omega)
        | (have hL : Hid (letterB (s[k].toNat : Int) = false) := by
             show _ = _
             unfold letterB
             simp at *
             omega
           have hN := Lib.hid (HN.out hL.out)
           go_ret
           exact ⟨by rw [hN.out]; rfl, rfl⟩)
    · obtain rfl : k = s.size := by omega
      have HE : Hid (validB s = true) := by
        show _ = _
        have := hl.out
        rw [take_all (by rw [str_len]; exact Nat.le_refl _)] at this
        unfold validB
        rw [this]; simp; omega
      go_wp2_with fail
      go_ret
      exact ⟨by rw [HE.out]; rfl, rfl⟩

set_option maxHeartbeats 1000000 in
theorem rvalidS_any (s : SampV) (hn : s.name.size ≤ maxLen) (w : World) :
    Calls Tryd.prog 28 #[s.val] w fun r w' => r = .returned (.bool (sampOk s)) ∧ Below w.heap.size w w' := by
  have HV := Lib.hid (fun w' => rvalid_any s.name hn w')
  have hok : Hid (sampOk s = (validB s.name && timeB s.time)) := rfl
  obtain ⟨nm, ti, va⟩ := s
  unfold SampV.val
  simp only at HV hok
  have B0 := Blk.new w 62 #[.string nm, .int .i64 ti, .int .i64 va]
  have c0 := B0.cell 0
  have c1 := B0.cell 1
  simp only [List.getElem?_toArray, List.getElem?_cons_succ, List.getElem?_cons_zero] at c0 c1
  have O := Lib.hid ((Own.start w).skip (Fr.none_alloc w (.cells #[.string nm, .int .i64 ti, .int .i64 va] 62)))
  clear B0 hn
  obtain ⟨V, hV⟩ : ∃ V, validB nm = V := ⟨_, rfl⟩
  rw [hV] at HV hok
  clear hV
  go_enter Tryd.func28, Tryd.ntmps28
  go_wp2_with fail
  refine (HV.out _).mono ?_
  rintro r w1 ⟨rfl, rfl⟩
  cases V
  · go_wp2_with fail
    go_ret
    exact ⟨by rw [hok.out]; rfl, O.out.bel⟩
  · by_cases h1 : 0 ≤ ti
    · by_cases h2 : ti ≤ 1099511627776
      · have hT : Hid (timeB ti = true) := by show _ = _; simp [timeB, h1, h2]
        go_wp2_with fail
        go_ret
        exact ⟨by rw [hok.out, hT.out]; rfl, O.out.bel⟩
      · have hT : Hid (timeB ti = false) := by show _ = _; simp [timeB, h2]
        have h2d : decide (ti ≤ 1099511627776) = false := decide_eq_false h2
        go_wp2_with fail
        go_ret
        exact ⟨by rw [hok.out, hT.out]; rfl, O.out.bel⟩
    · have hT : Hid (timeB ti = false) := by show _ = _; simp [timeB, h1]
      go_wp2_with fail
      go_ret
      exact ⟨by rw [hok.out, hT.out]; rfl, O.out.bel⟩

/-- Plain: sixteen bytes that are a name are that name's. -/
theorem allZ_rep' {l : List UInt8} (h : allZ l = true) : l = List.replicate l.length 0 := by
  unfold allZ at h
  rw [List.all_eq_true] at h
  exact List.eq_replicate_iff.2 ⟨rfl, fun b hb => by simpa using h b hb⟩
theorem nameB_of {t : List UInt8} (hl : t.length = 16) (hok : nameOk t = true) : nameB (bstr ((t.drop 1).take (t.headD 0).toNat)) = t := by
  cases t with
  | nil => simp at hl
  | cons c tl =>
    unfold nameOk at hok
    rw [Bool.and_eq_true] at hok
    have h1 : c.toNat ≤ 15 := of_decide_eq_true hok.1
    have h2 : allZ ((c :: tl).drop (1 + c.toNat)) = true := hok.2
    rw [Nat.add_comm, List.drop_succ_cons] at h2
    simp only [List.length_cons] at hl
    simp only [List.headD_cons, List.drop_succ_cons, List.drop_zero]
    have hz : (bstr (tl.take c.toNat)).size = c.toNat := by rw [bstr_size, List.length_take]; omega
    unfold nameB
    rw [hz, bstr_list]
    have hd := allZ_rep' h2
    rw [List.length_drop, show tl.length - c.toNat = 15 - c.toNat by omega] at hd
    rw [← hd, UInt8.ofNat_toNat, List.cons_append, List.take_append_drop]
theorem u64_sgn {n : Nat} (h : n < 18446744073709551616) : u64 (sgn n) = n := by
  unfold u64 sgn
  split <;> omega
theorem le8_back {t : List UInt8} (h : t.length = 8) : le8 [sgn (ofLe t)] = t := by
  rw [le8_one, u64_sgn (ofLe_lt64 (by omega))]
  have := le_ofLe t
  rwa [h] at this
/-- What sgetOk asks of 32 bytes, the document asks. -/
theorem uName_ok {X : List UInt8} (h : 16 ≤ X.length) : uName 0 X = if nameOk (X.take 16) = true then (0, X.drop 16, ((X.take 16).drop 1).take ((X.take 16).headD 0).toNat) else (6, X.drop 16, []) := by
  unfold uName
  rw [uTake_in h]
  rw [if_neg (by intro e; have := congrArg List.length e; rw [List.length_take, Nat.min_eq_left h] at this; exact absurd this (by decide))]
theorem validB_nil : validB (bstr []) = false := validB_short (by rw [bstr_size]; decide)
theorem sget_ok {X : List UInt8} (h : X.length = 32) : sgetOk X = sampOk (sampRd X) := by
  unfold sgetOk
  cases hs : sampOk (sampRd X)
  · rfl
  · rw [Bool.true_and]
    apply decide_eq_true
    unfold sampRd at hs ⊢
    rw [uName_ok (by omega)] at hs ⊢
    by_cases hn : nameOk (X.take 16) = true
    · rw [if_pos hn]
      simp only
      rw [uTake_in (by rw [List.length_drop]; omega)]
      simp only
      rw [uTake_in (by rw [List.length_drop, List.length_drop]; omega)]
      unfold sampB
      simp only
      rw [nameB_of (by rw [List.length_take]; omega) hn, le8_cons, ← le8_one, le8_back (by rw [List.length_take, List.length_drop]; omega), le8_back (by rw [List.length_take, List.length_drop, List.length_drop]; omega)]
      rw [List.drop_drop, show 16 + 8 = 24 from rfl]
      have e1 : X = X.take 16 ++ ((X.drop 16).take 8 ++ (X.drop 24).take 8) := by
        have h1 := (List.take_append_drop 16 X).symm
        have h2 := (List.take_append_drop 8 (X.drop 16)).symm
        rw [List.drop_drop] at h2
        have h3 : (X.drop 24).take 8 = X.drop 24 := List.take_of_length_le (by rw [List.length_drop]; omega)
        rw [h3]
        rw [← h2]
        exact h1
      exact e1.symm
    · rw [if_neg hn] at hs
      simp only at hs
      unfold sampOk at hs
      rw [show validB (SampV.name ⟨bstr [], _, _⟩) = false from validB_nil] at hs
      simp at hs
theorem sname_err {X : List UInt8} (h : X.length = 32) (hok : sampOk (sampRd X) = true) : (uTake (uTake (uName 0 X).1 (uName 0 X).2.1 8).1 (uTake (uName 0 X).1 (uName 0 X).2.1 8).2.1 8).1 = 0 := by
  unfold sampRd at hok
  rw [uName_ok (by omega)] at hok ⊢
  by_cases hn : nameOk (X.take 16) = true
  · rw [if_pos hn]
    simp only
    rw [uTake_in (by rw [List.length_drop]; omega)]
    simp only
    rw [uTake_in (by rw [List.length_drop, List.length_drop]; omega)]
  · rw [if_neg hn] at hok
    simp only at hok
    unfold sampOk at hok
    rw [show validB (SampV.name ⟨bstr [], _, _⟩) = false from validB_nil] at hok
    simp at hok
theorem chunk_len {size : Nat} {l : List UInt8} {n k : Nat} (hl : l.length = size * n) (hk : k < n) : (chunk size l k).length = size := by
  unfold chunk
  rw [List.length_take, List.length_drop, hl]
  have : size * (k + 1) ≤ size * n := Nat.mul_le_mul_left _ hk
  rw [Nat.mul_succ] at this
  omega
end Go.Proofs.YtkickdmiilmkoaaDoor
