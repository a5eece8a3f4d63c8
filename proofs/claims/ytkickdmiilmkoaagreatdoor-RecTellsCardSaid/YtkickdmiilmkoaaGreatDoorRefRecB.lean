/- Walk of sedimentref10.PutRecords. -/
import Derived.Test.YtkickdmiilmkoaaGreatDoorRefRec
namespace Go.Proofs.YtkickdmiilmkoaaGreatDoor
open Go.RowKit

set_option maxRecDepth 100000 in
set_option maxHeartbeats 4000000 in
theorem rrecsput_any (l : List RecV) (hl : ∀ r ∈ l, r.wf) (A : Option Addr) (n c : Nat) (w : World) (hr : Rd w 7 A n (rcells l)) (hn : n ≤ 1073741824) :
    Calls Tryz.prog 23 #[.slice A n c] w fun e w' => e = .returned (bif l.all recOk then .tuple #[.string (bstr (l.flatMap recB)), .int .i64 0] else .tuple #[.string { data := #[] }, .int .i64 1]) ∧ Below w.heap.size w w' := by
  have HV : Hid (∀ r ∈ l, ∀ w', Calls Tryz.prog 30 #[r.val] w' fun e w'' => e = .returned (.bool (recOk r)) ∧ Below w'.heap.size w' w'') := fun r h w' => rvalidR_any r (hl r h).2.2 w'
  have Hr := Lib.hid hr
  have HW := Lib.hid hl
  have Hl := Lib.hid hr.recs_len
  clear hr hl
  go_enter Tryz.func23, Tryz.ntmps23
  go_wp2_with fail
  go_loopw [5] (fun i wr => ∃ (k : Nat) (F : Nat → Prop), k ≤ n ∧ i = .int .i64 k ∧ Pq wr w.heap.size F ((l.take k).flatMap recB) ∧ Hid ((l.take k).all recOk = true) ∧ Own w wr F) (fun i _ => n - (intOf i).toNat)
  case atStart => exact ⟨0, _, Nat.zero_le _, rfl, by simpa using Pq.new w, rfl, ((Own.start w).skip (Fr.none_alloc w (.cells #[.slice none 0 0, .int .i64 0] 94))).also (fun k hk => by rcases hk with rfl | hk; exact Nat.le_refl _; cases hk)⟩
  case round =>
    obtain ⟨k, F, hk, rfl, hp, hall, ho⟩ := hrel
    have Ho := Lib.hid ho
    have HP := Lib.hid hp
    by_cases hlt : k < n
    · obtain ⟨ad, r, rfl, hu, d0, d1, d2, d3, d4, d5, d6⟩ := (Hr.out.fr0 (Fr.b0 ho.bel)).rec_ hlt
      have HVr := Lib.hid (HV.out r (mem_of_get hu))
      have Hu := Lib.hid hu
      have hlen : Hid (((l.take k).flatMap recB).length + 100 ≤ 1099511627776) := by
        show _ ≤ _
        rw [recsB_len hall.out, List.length_take]; omega
      clear hu ho hp
      cases hok : recOk r
      · have HF := Lib.hid (all_false Hu.out hok)
        rw [hok] at HVr
        unfold RecV.val at HVr
        clear hok
        go_wp2_with fail
        refine (HVr.out _).mono ?_
        rintro e w1 ⟨rfl, b1⟩
        have O1 := Lib.hid (Ho.out.below b1)
        clear b1 d0 d1 d2 d3 d4 d5 d6
        go_wp2_with fail
        go_ret2
        exact ⟨by rw [HF.out]; rfl, O1.out.bel⟩
      · have HT : Hid ((l.take (k + 1)).all recOk = true) := by
          show _ = _
          rw [all_snoc Hu.out, hall.out, hok]; rfl
        have hsz := validB_of hok
        have HS := Lib.hid hsz
        have HC : Hid ((l.take (k + 1)).flatMap recB = ((l.take k).flatMap recB ++ nameB r.name) ++ le8 [r.start] ++ aggB r.agg) := by
          show _ = _
          rw [flat_snoc Hu.out]
          unfold recB
          simp only [List.append_assoc]
        have hag : aggOk r.agg = true := (recOk_parts hok).2.2
        have HPA : Hid (∀ w', Calls Tryz.prog 87 #[r.agg.val] w' fun e w'' => e = .returned (.tuple #[.string (bstr (aggB r.agg)), .int .i64 0]) ∧ Below w'.heap.size w' w'') := fun w' => by
          have := raggput_any r.agg (HW.out r (mem_of_get Hu.out)).2.1 w'
          rwa [hag] at this
        clear hag
        rw [hok] at HVr
        unfold RecV.val at HVr
        clear hok hsz
        have HD0 := Lib.hid d0
        clear HD0
        go_wp2_with fail
        refine (HVr.out _).mono ?_
        rintro e w1 ⟨rfl, b1⟩
        have O1 := Lib.hid (Ho.out.below b1)
        have P1 := Lib.hid (HP.out.fr0 (Fr.b0 b1))
        obtain ⟨ad1, r1, ea, hu1, f0, f1, f2, f3, f4, f5, f6⟩ := (Hr.out.fr0 (Fr.b0 O1.out.bel)).rec_ hlt
        injection ea with ea
        subst ea
        have hrr : r1 = r := by have := Hu.out; rw [hu1] at this; exact Option.some.inj this
        subst hrr
        clear b1 d0 d1 d2 d3 d4 d5 d6 hu1 f1 f2 f3 f4 f5 f6
        go_wp2_with fail
        refine (rname_any _ F _ _ w1 P1.out HS.out (by have := hlen.out; omega)).mono ?_
        rintro e w2 ⟨rfl, F2, p2, m2⟩
        have O2 := Lib.hid (O1.out.mv m2)
        have P2 := Lib.hid p2
        obtain ⟨ad1, r2, ea, hu1, g0, g1, g2, g3, g4, g5, g6⟩ := (Hr.out.fr0 (Fr.b0 O2.out.bel)).rec_ hlt
        injection ea with ea
        subst ea
        have hrr : r2 = r1 := by have := Hu.out; rw [hu1] at this; exact Option.some.inj this
        subst hrr
        clear m2 p2 f0 g0 g2 g3 g4 g5 g6 hu1
        go_wp2_with fail
        refine (rint_any _ F2 _ _ w2 P2.out (by have := hlen.out; rw [List.length_append, nameB_len _ HS.out]; omega)).mono ?_
        rintro e w3 ⟨rfl, F3, p3, m3⟩
        have O3 := Lib.hid (O2.out.mv m3)
        have P3 := Lib.hid p3
        obtain ⟨ad1, r3, ea, hu1, k0, k1, k2, k3, k4, k5, k6⟩ := (Hr.out.fr0 (Fr.b0 O3.out.bel)).rec_ hlt
        injection ea with ea
        subst ea
        have hrr : r3 = r2 := by have := Hu.out; rw [hu1] at this; exact Option.some.inj this
        subst hrr
        unfold AggV.val at HPA
        clear m3 p3 g1 k0 k1 hu1
        go_wp2_with fail
        refine (HPA.out w3).mono ?_
        rintro e w4 ⟨rfl, b4⟩
        have O4 := Lib.hid (O3.out.below b4)
        obtain ⟨M, q, d, hb, hrow, rfl⟩ := P3.out.fr0 (Fr.b0 b4)
        have HBk := Lib.hid hb
        have HRw := Lib.hid hrow
        have c0 := hb.cell 0
        have z0 := hb.frozen 0
        simp only [List.getElem?_toArray, List.getElem?_cons_zero] at c0
        have hq : Hid (q ≤ 1099511627776) := by
          have h1 := hrow.1
          rw [bys_length] at h1
          have h2 := hlen.out
          rw [List.length_append, List.length_append, nameB_len _ HS.out, le8_len] at h1
          simp only [List.length_cons, List.length_nil] at h1
          show q ≤ _
          omega
        have hZl : Hid ((bstr (aggB r3.agg)).size = 40) := by show _ = _; rw [bstr_size, aggB_len]
        have hZb : Hid ((bstr (aggB r3.agg)).data.toList = aggB r3.agg) := bstr_list _
        obtain ⟨Z, hZ⟩ : ∃ Z, bstr (aggB r3.agg) = Z := ⟨_, rfl⟩
        rw [hZ] at hZl hZb ⊢
        clear b4 hb hrow k2 k3 k4 k5 k6 hZ HPA
        go_wp2_with (at_builtin; refine wpList_app_str rfl (.tmp 49) (.tmp 50) rfl _ q _ rfl HRw.out Z rfl ?q1 ?_)
        case q1 => have := hq.out; have := hZl.out; omega
        intro M2 d2 w5 ho5 hm5
        have hgr : ¬ rowF (Value.slice M q d) w.heap.size := own_blk_ne HRw.out HBk.out (by decide)
        have hb5 : Blk w5 w.heap.size 94 #[.slice M q d, .int .i64 0] := HBk.out.fr hm5.fr hgr
        have HB5 := Lib.hid hb5
        have Ho5 := Lib.hid ho5
        have Hm5 := Lib.hid hm5
        have c5 := hb5.cell 0
        have z5 := hb5.frozen 0
        simp only [List.getElem?_toArray, List.getElem?_cons_zero] at c5
        clear ho5 hm5 hgr hb5 c0 z0
        go_wp2
        go_roundw
        case rel =>
          obtain ⟨F', hp', hm'⟩ := Pq.push HB5.out Ho5.out Hm5.out
          rw [hZb.out] at hp'
          exact ⟨k + 1, F', by omega, by go_num, by rw [HC.out]; simpa only [List.append_assoc] using hp', HT.out, O4.out.mv hm'⟩
        case measure => simp [intOf]; omega
    · obtain rfl : k = n := by omega
      have HT := Lib.hid (show l.take k = l from take_all (by rw [Hl.out]; exact Nat.le_refl _))
      have HF : Hid (l.all recOk = true) := by have := hall.out; rwa [HT.out] at this
      rw [HT.out] at HP
      obtain ⟨B, m, d, hb, hrow, rfl⟩ := HP.out
      have c0 := hb.cell 0
      simp only [List.getElem?_toArray, List.getElem?_cons_zero] at c0
      have hcv := run_bytes_string (P := Tryz.prog) 85 9 5 Tryz.underlying85 Tryz.underlying5 Tryz.underlying9 d (Rd.of_own hrow)
      clear ho hp HP hb hrow
      go_wp2_with fail
      go_ret2
      exact ⟨by rw [HF.out]; rfl, Ho.out.bel⟩

end Go.Proofs.YtkickdmiilmkoaaGreatDoor
