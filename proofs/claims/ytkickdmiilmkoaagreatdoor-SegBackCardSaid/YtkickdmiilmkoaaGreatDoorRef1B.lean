/- Walks of sedimentref1.Name, Valid, sedimentref10.ValidSample, PutSamples, GetSamples; and plain: they are rec's. -/
import Derived.Test.YtkickdmiilmkoaaGreatDoorRef1
namespace Go.Proofs.YtkickdmiilmkoaaGreatDoor
open Go.RowKit

set_option maxRecDepth 100000 in
set_option maxHeartbeats 4000000 in
theorem rvalid_any (s : ByteArray) (hs : s.size ≤ maxLen) (w : World) :
    Calls Tryz.prog 96 #[.string s] w fun r w' => r = .returned (.bool (validB s)) ∧ w = w' := by
  unfold maxLen at hs
  by_cases h1 : s.size < 1
  · have g1 : (s.size : Int) < 1 := by omega
    have E := Lib.hid (validB_short h1)
    go_enter Tryz.func96, Tryz.ntmps96
    go_wp2_with fail
    go_ret
    exact ⟨by rw [E.out]; rfl, rfl⟩
  by_cases h2 : 15 < s.size
  · have g1 : ¬ (s.size : Int) < 1 := by omega
    have g2 : (15 : Int) < (s.size : Int) := by omega
    have E := Lib.hid (validB_long h2)
    go_enter Tryz.func96, Tryz.ntmps96
    go_wp2_with fail
    go_ret
    exact ⟨by rw [E.out]; rfl, rfl⟩
  have g1 : ¬ (s.size : Int) < 1 := by omega
  have g2 : ¬ (15 : Int) < (s.size : Int) := by omega
  go_enter Tryz.func96, Tryz.ntmps96
  go_wp2_with fail
  clear g1 g2
  go_loop [3] (fun i => ∃ k : Nat, k ≤ s.size ∧ i = .int .i64 k ∧ Hid (letters (s.data.toList.take k) = true)) (fun i => s.size - (intOf i).toNat)
  case atStart => exact ⟨0, Nat.zero_le _, rfl, rfl⟩
  case round =>
    obtain ⟨k, hk, rfl, hl⟩ := hrel
    by_cases hlt : k < s.size
    · have hb1 : s[k].toNat < 256 := s[k].toNat_lt
      have HB := Lib.hid (byte_at hlt)
      have HY : Hid (letterB (s[k].toNat : Int) = true → letters (s.data.toList.take (k + 1)) = true) := fun h => by unfold letters; rw [all_take_succ HB.out hl.out]; exact h
      have HN : Hid (letterB (s[k].toNat : Int) = false → validB s = false) := fun h => by
        unfold validB
        rw [show letters s.data.toList = false from all_take_false (k := k + 1) (by rw [all_take_succ HB.out hl.out]; exact h)]; simp
      clear hl HB
      go_wp2
      all_goals
        first
        | (have hL : Hid (letterB (s[k].toNat : Int) = true) := by
             show _ = _
             unfold letterB
             simp at *
             omega
           have hY := Lib.hid (HY.out hL.out)
           clear hL HY HN
           go_round
           case rel => exact ⟨k + 1, by omega, by go_num, hY.out⟩
           case measure => simp [intOf]; omega)
        | (have hL : Hid (letterB (s[k].toNat : Int) = false) := by
             show _ = _
             unfold letterB
             simp at *
             omega
           have hN := Lib.hid (HN.out hL.out)
           go_ret
           exact ⟨by rw [hN.out]; rfl, rfl⟩)
    · obtain rfl : k = s.size := by omega
      have HE : Hid (validB s = true) := by
        show _ = _
        have := hl.out
        rw [take_all (by rw [str_len]; exact Nat.le_refl _)] at this
        unfold validB
        rw [this]; simp; omega
      go_wp2_with fail
      go_ret
      exact ⟨by rw [HE.out]; rfl, rfl⟩

set_option maxHeartbeats 1000000 in
theorem rvalidS_any (s : SampV) (hn : s.name.size ≤ maxLen) (w : World) :
    Calls Tryz.prog 44 #[s.val] w fun r w' => r = .returned (.bool (sampOk s)) ∧ Below w.heap.size w w' := by
  have HV := Lib.hid (fun w' => rvalid_any s.name hn w')
  have hok : Hid (sampOk s = (validB s.name && timeB s.time)) := rfl
  obtain ⟨nm, ti, va⟩ := s
  unfold SampV.val
  simp only at HV hok
  have B0 := Blk.new w 82 #[.string nm, .int .i64 ti, .int .i64 va]
  have c0 := B0.cell 0
  have c1 := B0.cell 1
  simp only [List.getElem?_toArray, List.getElem?_cons_succ, List.getElem?_cons_zero] at c0 c1
  have O := Lib.hid ((Own.start w).skip (Fr.none_alloc w (.cells #[.string nm, .int .i64 ti, .int .i64 va] 82)))
  clear B0 hn
  obtain ⟨V, hV⟩ : ∃ V, validB nm = V := ⟨_, rfl⟩
  rw [hV] at HV hok
  clear hV
  go_enter Tryz.func44, Tryz.ntmps44
  go_wp2_with fail
  refine (HV.out _).mono ?_
  rintro r w1 ⟨rfl, rfl⟩
  cases V
  · go_wp2_with fail
    go_ret
    exact ⟨by rw [hok.out]; rfl, O.out.bel⟩
  · by_cases h1 : 0 ≤ ti
    · by_cases h2 : ti ≤ 1099511627776
      · have hT : Hid (timeB ti = true) := by show _ = _; simp [timeB, h1, h2]
        go_wp2_with fail
        go_ret
        exact ⟨by rw [hok.out, hT.out]; rfl, O.out.bel⟩
      · have hT : Hid (timeB ti = false) := by show _ = _; simp [timeB, h2]
        have h2d : decide (ti ≤ 1099511627776) = false := decide_eq_false h2
        go_wp2_with fail
        go_ret
        exact ⟨by rw [hok.out, hT.out]; rfl, O.out.bel⟩
    · have hT : Hid (timeB ti = false) := by show _ = _; simp [timeB, h1]
      go_wp2_with fail
      go_ret
      exact ⟨by rw [hok.out, hT.out]; rfl, O.out.bel⟩

set_option maxRecDepth 100000 in
set_option maxHeartbeats 4000000 in
theorem rsampsput_any (l : List SampV) (hl : ∀ r ∈ l, r.wf) (A : Option Addr) (n c : Nat) (w : World) (hr : Rd w 3 A n (scells l)) (hn : n ≤ 1073741824) :
    Calls Tryz.prog 32 #[.slice A n c] w fun e w' => e = .returned (bif l.all sampOk then .tuple #[.string (bstr (l.flatMap sampB)), .int .i64 0] else .tuple #[.string { data := #[] }, .int .i64 1]) ∧ Below w.heap.size w w' := by
  have HV : Hid (∀ r ∈ l, ∀ w', Calls Tryz.prog 44 #[r.val] w' fun e w'' => e = .returned (.bool (sampOk r)) ∧ Below w'.heap.size w' w'') := fun r h w' => rvalidS_any r (hl r h).2.2 w'
  have Hr := Lib.hid hr
  have Hl := Lib.hid hr.samps_len
  clear hr hl
  go_enter Tryz.func32, Tryz.ntmps32
  go_wp2_with fail
  go_loopw [5] (fun i wr => ∃ (k : Nat) (F : Nat → Prop), k ≤ n ∧ i = .int .i64 k ∧ Pq wr w.heap.size F ((l.take k).flatMap sampB) ∧ Hid ((l.take k).all sampOk = true) ∧ Own w wr F) (fun i _ => n - (intOf i).toNat)
  case atStart => exact ⟨0, _, Nat.zero_le _, rfl, by simpa using Pq.new w, rfl, ((Own.start w).skip (Fr.none_alloc w (.cells #[.slice none 0 0, .int .i64 0] 94))).also (fun k hk => by rcases hk with rfl | hk; exact Nat.le_refl _; cases hk)⟩
  case round =>
    obtain ⟨k, F, hk, rfl, hp, hall, ho⟩ := hrel
    have Ho := Lib.hid ho
    have HP := Lib.hid hp
    by_cases hlt : k < n
    · obtain ⟨ad, r, rfl, hu, d0, d1, d2⟩ := (Hr.out.fr0 (Fr.b0 ho.bel)).samp_ hlt
      have HVr := Lib.hid (HV.out r (mem_of_get hu))
      have Hu := Lib.hid hu
      have hlen : Hid (((l.take k).flatMap sampB).length + 100 ≤ 1099511627776) := by
        show _ ≤ _
        rw [sampsB_len hall.out, List.length_take]; omega
      clear hu ho hp
      cases hok : sampOk r
      · have HF := Lib.hid (all_false Hu.out hok)
        rw [hok] at HVr
        unfold SampV.val at HVr
        clear hok
        go_wp2_with fail
        refine (HVr.out _).mono ?_
        rintro e w1 ⟨rfl, b1⟩
        have O1 := Lib.hid (Ho.out.below b1)
        clear b1 d0 d1 d2
        go_wp2_with fail
        go_ret2
        exact ⟨by rw [HF.out]; rfl, O1.out.bel⟩
      · have HT : Hid ((l.take (k + 1)).all sampOk = true) := by
          show _ = _
          rw [all_snoc Hu.out, hall.out, hok]; rfl
        have hsz := validB_ofs hok
        have HS := Lib.hid hsz
        have HC : Hid ((l.take (k + 1)).flatMap sampB = ((l.take k).flatMap sampB ++ nameB r.name) ++ le8 [r.time] ++ le8 [r.value]) := by
          show _ = _
          rw [flat_snoc Hu.out]
          unfold sampB
          rw [le8_two, le8_one, le8_one]
          simp only [List.append_assoc]
        rw [hok] at HVr
        unfold SampV.val at HVr
        clear hok hsz
        have HD0 := Lib.hid d0
        have HD1 := Lib.hid d1
        have HD2 := Lib.hid d2
        go_wp2_with fail
        refine (HVr.out _).mono ?_
        rintro e w1 ⟨rfl, b1⟩
        have O1 := Lib.hid (Ho.out.below b1)
        have P1 := Lib.hid (HP.out.fr0 (Fr.b0 b1))
        have R1 := (Hr.out.fr0 (Fr.b0 O1.out.bel)).samp_ hlt
        obtain ⟨ad1, r1, ea, hu1, f0, f1, f2⟩ := R1
        injection ea with ea
        subst ea
        have hrr : r1 = r := by have := Hu.out; rw [hu1] at this; exact Option.some.inj this
        subst hrr
        clear b1 d0 d1 d2 hu1 f1 f2 HD0 HD1 HD2
        go_wp2_with fail
        refine (rname_any _ F _ _ w1 P1.out HS.out (by have := hlen.out; omega)).mono ?_
        rintro e w2 ⟨rfl, F2, p2, m2⟩
        have O2 := Lib.hid (O1.out.mv m2)
        have P2 := Lib.hid p2
        have R2 := (Hr.out.fr0 (Fr.b0 O2.out.bel)).samp_ hlt
        obtain ⟨ad1, r2, ea, hu1, g0, g1, g2⟩ := R2
        injection ea with ea
        subst ea
        have hrr : r2 = r1 := by have := Hu.out; rw [hu1] at this; exact Option.some.inj this
        subst hrr
        clear m2 p2 f0 g0 g2 hu1
        go_wp2_with fail
        refine (rint_any _ F2 _ _ w2 P2.out (by have := hlen.out; rw [List.length_append, nameB_len _ HS.out]; omega)).mono ?_
        rintro e w3 ⟨rfl, F3, p3, m3⟩
        have O3 := Lib.hid (O2.out.mv m3)
        have P3 := Lib.hid p3
        have R3 := (Hr.out.fr0 (Fr.b0 O3.out.bel)).samp_ hlt
        obtain ⟨ad1, r3, ea, hu1, k0, k1, k2⟩ := R3
        injection ea with ea
        subst ea
        have hrr : r3 = r2 := by have := Hu.out; rw [hu1] at this; exact Option.some.inj this
        subst hrr
        clear m3 p3 g1 k0 k1 hu1
        go_wp2_with fail
        refine (rint_any _ F3 _ _ w3 P3.out (by have := hlen.out; rw [List.length_append, List.length_append, nameB_len _ HS.out, le8_len]; simp only [List.length_cons, List.length_nil]; omega)).mono ?_
        rintro e w4 ⟨rfl, F4, p4, m4⟩
        have O4 := Lib.hid (O3.out.mv m4)
        have P4 := Lib.hid p4
        clear m4 p4 k2
        go_wp2
        go_roundw
        case rel => exact ⟨k + 1, F4, by omega, by go_num, by rw [HC.out]; exact P4.out, HT.out, O4.out⟩
        case measure => simp [intOf]; omega
    · obtain rfl : k = n := by omega
      have HT := Lib.hid (show l.take k = l from take_all (by rw [Hl.out]; exact Nat.le_refl _))
      have HF : Hid (l.all sampOk = true) := by have := hall.out; rwa [HT.out] at this
      rw [HT.out] at HP
      obtain ⟨B, m, d, hb, hrow, rfl⟩ := HP.out
      have c0 := hb.cell 0
      simp only [List.getElem?_toArray, List.getElem?_cons_zero] at c0
      have hcv := run_bytes_string (P := Tryz.prog) 85 9 5 Tryz.underlying85 Tryz.underlying5 Tryz.underlying9 d (Rd.of_own hrow)
      clear ho hp HP hb hrow
      go_wp2_with fail
      go_ret2
      exact ⟨by rw [HF.out]; rfl, Ho.out.bel⟩

/-- Plain: sixteen bytes that are a name are that name's. -/
theorem allZ_rep' {l : List UInt8} (h : allZ l = true) : l = List.replicate l.length 0 := by
  unfold allZ at h
  rw [List.all_eq_true] at h
  exact List.eq_replicate_iff.2 ⟨rfl, fun b hb => by simpa using h b hb⟩
theorem nameB_of {t : List UInt8} (hl : t.length = 16) (hok : nameOk t = true) : nameB (bstr ((t.drop 1).take (t.headD 0).toNat)) = t := by
  cases t with
  | nil => simp at hl
  | cons c tl =>
    unfold nameOk at hok
    rw [Bool.and_eq_true] at hok
    have h1 : c.toNat ≤ 15 := of_decide_eq_true hok.1
    have h2 : allZ ((c :: tl).drop (1 + c.toNat)) = true := hok.2
    rw [Nat.add_comm, List.drop_succ_cons] at h2
    simp only [List.length_cons] at hl
    simp only [List.headD_cons, List.drop_succ_cons, List.drop_zero]
    have hz : (bstr (tl.take c.toNat)).size = c.toNat := by rw [bstr_size, List.length_take]; omega
    unfold nameB
    rw [hz, bstr_list]
    have hd := allZ_rep' h2
    rw [List.length_drop, show tl.length - c.toNat = 15 - c.toNat by omega] at hd
    rw [← hd, UInt8.ofNat_toNat, List.cons_append, List.take_append_drop]
theorem u64_sgn {n : Nat} (h : n < 18446744073709551616) : u64 (sgn n) = n := by
  unfold u64 sgn
  split <;> omega
theorem le8_back {t : List UInt8} (h : t.length = 8) : le8 [sgn (ofLe t)] = t := by
  rw [le8_one, u64_sgn (ofLe_lt64 (by omega))]
  have := le_ofLe t
  rwa [h] at this
/-- What sgetOk asks of 32 bytes, the document asks. -/
theorem uName_ok {X : List UInt8} (h : 16 ≤ X.length) : uName 0 X = if nameOk (X.take 16) = true then (0, X.drop 16, ((X.take 16).drop 1).take ((X.take 16).headD 0).toNat) else (6, X.drop 16, []) := by
  unfold uName
  rw [uTake_in h]
  rw [if_neg (by intro e; have := congrArg List.length e; rw [List.length_take, Nat.min_eq_left h] at this; exact absurd this (by decide))]
theorem validB_nil : validB (bstr []) = false := validB_short (by rw [bstr_size]; decide)
theorem sget_ok {X : List UInt8} (h : X.length = 32) : sgetOk X = sampOk (sampRd X) := by
  unfold sgetOk
  cases hs : sampOk (sampRd X)
  · rfl
  · rw [Bool.true_and]
    apply decide_eq_true
    unfold sampRd at hs ⊢
    rw [uName_ok (by omega)] at hs ⊢
    by_cases hn : nameOk (X.take 16) = true
    · rw [if_pos hn]
      simp only
      rw [uTake_in (by rw [List.length_drop]; omega)]
      simp only
      rw [uTake_in (by rw [List.length_drop, List.length_drop]; omega)]
      unfold sampB
      simp only
      rw [nameB_of (by rw [List.length_take]; omega) hn, le8_cons, ← le8_one, le8_back (by rw [List.length_take, List.length_drop]; omega), le8_back (by rw [List.length_take, List.length_drop, List.length_drop]; omega)]
      rw [List.drop_drop, show 16 + 8 = 24 from rfl]
      have e1 : X = X.take 16 ++ ((X.drop 16).take 8 ++ (X.drop 24).take 8) := by
        have h1 := (List.take_append_drop 16 X).symm
        have h2 := (List.take_append_drop 8 (X.drop 16)).symm
        rw [List.drop_drop] at h2
        have h3 : (X.drop 24).take 8 = X.drop 24 := List.take_of_length_le (by rw [List.length_drop]; omega)
        rw [h3]
        rw [← h2]
        exact h1
      exact e1.symm
    · rw [if_neg hn] at hs
      simp only at hs
      unfold sampOk at hs
      rw [show validB (SampV.name ⟨bstr [], _, _⟩) = false from validB_nil] at hs
      simp at hs
theorem sname_err {X : List UInt8} (h : X.length = 32) (hok : sampOk (sampRd X) = true) : (uTake (uTake (uName 0 X).1 (uName 0 X).2.1 8).1 (uTake (uName 0 X).1 (uName 0 X).2.1 8).2.1 8).1 = 0 := by
  unfold sampRd at hok
  rw [uName_ok (by omega)] at hok ⊢
  by_cases hn : nameOk (X.take 16) = true
  · rw [if_pos hn]
    simp only
    rw [uTake_in (by rw [List.length_drop]; omega)]
    simp only
    rw [uTake_in (by rw [List.length_drop, List.length_drop]; omega)]
  · rw [if_neg hn] at hok
    simp only at hok
    unfold sampOk at hok
    rw [show validB (SampV.name ⟨bstr [], _, _⟩) = false from validB_nil] at hok
    simp at hok
theorem chunk_len {size : Nat} {l : List UInt8} {n k : Nat} (hl : l.length = size * n) (hk : k < n) : (chunk size l k).length = size := by
  unfold chunk
  rw [List.length_take, List.length_drop, hl]
  have : size * (k + 1) ≤ size * n := Nat.mul_le_mul_left _ hk
  rw [Nat.mul_succ] at this
  omega
end Go.Proofs.YtkickdmiilmkoaaGreatDoor
