/- Walks of rec.putSample, rec.PutSamples. -/
import Derived.Test.YtkickdmiilmkoaaGreatDoorRecB
namespace Go.Proofs.YtkickdmiilmkoaaGreatDoor
open Go.RowKit

/-- An api.Sample. -/
structure SampV where
  name : ByteArray
  time : Int
  value : Int
def SampV.cells (s : SampV) : List Value := [.string s.name, .int .i64 s.time, .int .i64 s.value]
def SampV.val (s : SampV) : Value := .agg #[.string s.name, .int .i64 s.time, .int .i64 s.value]
def SampV.wf (s : SampV) : Prop := in64 s.time ∧ in64 s.value ∧ s.name.size ≤ maxLen
def sampOk (s : SampV) : Bool := validB s.name && timeB s.time
def sampB (s : SampV) : List UInt8 := nameB s.name ++ le8 [s.time, s.value]
theorem sampB_len (s : SampV) (h : s.name.size ≤ 15) : (sampB s).length = 32 := by simp [sampB, nameB_len _ h, le8_len]
def scells (l : List SampV) : List Value := l.flatMap SampV.cells
theorem samp_len (s : SampV) : s.cells.length = 3 := rfl
theorem Rd.samp_ {w : World} {n k : Nat} {A : Option Addr} {l : List SampV} (h : Rd w 3 A n (scells l)) (hk : k < n) :
    ∃ ad s, A = some ad ∧ l[k]? = some s ∧ w.cell? (ad.add (k * 3)) = some (.string s.name) ∧ w.cell? ⟨(ad.add (k * 3)).block, (ad.add (k * 3)).off + 1, none⟩ = some (.int .i64 s.time) ∧ w.cell? ⟨(ad.add (k * 3)).block, (ad.add (k * 3)).off + 2, none⟩ = some (.int .i64 s.value) := by
  obtain ⟨ad, s, e, hr, hc⟩ := Rd.elem samp_len h hk (by decide)
  refine ⟨ad, s, e, hr, ?_, ?_, ?_⟩
  · have := hc 0 _ rfl; rwa [addr_zero] at this
  · have := hc 1 _ rfl; rwa [add_pos _ _ (by decide)] at this
  · have := hc 2 _ rfl; rwa [add_pos _ _ (by decide)] at this
theorem Rd.samps_len {w : World} {n : Nat} {A : Option Addr} {l : List SampV} (h : Rd w 3 A n (scells l)) : l.length = n := Rd.elems_len samp_len (by decide) h
theorem validB_ofs {s : SampV} (h : sampOk s = true) : s.name.size ≤ 15 := by
  unfold sampOk at h
  simp only [Bool.and_eq_true] at h
  exact validB_le h.1
theorem sampsB_len {l : List SampV} (h : l.all sampOk = true) : (l.flatMap sampB).length = 32 * l.length := by
  induction l with
  | nil => rfl
  | cons r l ih =>
    rw [List.all_cons, Bool.and_eq_true] at h
    rw [List.flatMap_cons, List.length_append, ih h.2, sampB_len r (validB_ofs h.1), List.length_cons]
    omega

set_option maxRecDepth 100000 in
set_option maxHeartbeats 2000000 in
theorem putsamp_any (s : SampV) (hs : s.wf) (w : World) :
    Calls Tryz.prog 98 #[s.val] w fun e w' => e = .returned (bif sampOk s then .tuple #[.string (bstr (sampB s)), .int .i64 0] else .tuple #[.string { data := #[] }, .int .i64 1]) ∧ Below w.heap.size w w' := by
  have HT := Lib.hid (fun w' => time_any s.time w')
  have hn := hs.2.2
  have HN : Hid (∀ (k c : Nat) (w' : World) (t : TypeId), k = w'.heap.size → Calls Tryz.prog 93 #[.slice (some ⟨k, 0, none⟩) 1 c] (w'.alloc (.cells #[.string s.name] t)) fun e w'' => e = .returned (.bool (validB s.name)) ∧ w'.alloc (.cells #[.string s.name] t) = w'') := fun k c w' t hk => valid_new s.name hn k c w' t hk
  have hok : Hid (sampOk s = (validB s.name && timeB s.time)) := rfl
  have HB : Hid (sampB s = nameB s.name ++ le8 [s.time, s.value]) := rfl
  obtain ⟨nm, ti, va⟩ := s
  unfold SampV.val
  have B0 := Lib.hid (Blk.new w 82 #[.string nm, .int .i64 ti, .int .i64 va])
  have O := Lib.hid ((Own.start w).skip (Fr.none_alloc w (.cells #[.string nm, .int .i64 ti, .int .i64 va] 82)))
  simp only at HT HN hok HB
  clear hn hs
  go_enter Tryz.func98, Tryz.ntmps98
  go_wp2_with fail
  refine (HN.out _ _ _ _ (by simp)).mono ?_
  rintro e w1 ⟨rfl, rfl⟩
  have B1 := Lib.hid (B0.out.alloc (.cells #[.string nm] 9))
  have O1 := Lib.hid (O.out.skip (Fr.none_alloc _ (.cells #[.string nm] 9)))
  have b1 := B1.out.cell 1
  simp only [List.getElem?_toArray, List.getElem?_cons_succ, List.getElem?_cons_zero] at b1
  cases hv : validB nm
  · have Hok : Hid (sampOk ⟨nm, ti, va⟩ = false) := by have := hok.out; rw [hv, Bool.false_and] at this; exact this
    clear hv hok
    go_wp2_with fail
    go_ret2
    exact ⟨by rw [Hok.out]; rfl, O1.out.bel⟩
  · cases ht : timeB ti
    · have Hok : Hid (sampOk ⟨nm, ti, va⟩ = false) := by have := hok.out; rw [ht, Bool.and_false] at this; exact this
      rw [ht] at HT
      clear hv hok ht
      go_wp2_with fail
      refine (HT.out _).mono ?_
      rintro e w2 ⟨rfl, rfl⟩
      go_wp2_with fail
      go_ret2
      exact ⟨by rw [Hok.out]; rfl, O1.out.bel⟩
    · have Hok : Hid (sampOk ⟨nm, ti, va⟩ = true) := by have := hok.out; rw [hv, ht] at this; exact this
      have Hnm := Lib.hid (validB_le hv)
      rw [ht] at HT
      clear hv hok ht
      go_wp2_with fail
      refine (HT.out _).mono ?_
      rintro e w2 ⟨rfl, rfl⟩
      obtain ⟨W2, hW2⟩ : ∃ W2, W2 = (w.alloc (.cells #[.string nm, .int .i64 ti, .int .i64 va] 82)).alloc (.cells #[.string nm] 9) := ⟨_, rfl⟩
      rw [← hW2] at O1 B1 ⊢
      clear b1 hW2
      have c0 := fun o => (B1.out.alloc o).cell 0
      simp only [List.getElem?_toArray, List.getElem?_cons_zero] at c0
      go_wp2_with fail
      have p0 := (Pk.new W2).1
      have q0 := ((Own.start W2).skip (Fr.none_alloc W2 (.cells #[.int .i64 0, .slice none 0 0] 87))).also (Pk.new W2).2
      refine (names_any _ _ 0 [] [nm] _ 1 1 _ (p0.fr (Fr.none_alloc _ _) (fun _ _ h => h)) (Rd.new' (by simp) _ _ _ rfl) (adF_new' (by simp) p0.lt) (by simp) (by simp; have := Hnm.out; omega)).mono ?_
      rw [pNames_one Hnm.out, List.nil_append]
      rintro r w3 ⟨rfl, F1, p1, m1⟩
      have Q1 := Lib.hid ((q0.skip (Fr.none_alloc _ _)).mv m1)
      have P1 := Lib.hid p1
      clear p0 q0 m1 p1 c0
      have c1 := (B1.out.below Q1.out.bel).cell 1
      have c2 := (B1.out.below Q1.out.bel).cell 2
      simp only [List.getElem?_toArray, List.getElem?_cons_succ, List.getElem?_cons_zero] at c1 c2
      go_wp2_with fail
      refine (ints_any _ _ 0 _ [ti, va] _ 2 2 _ (P1.out.fr (Fr.none_alloc _ _) (fun _ _ h => h)) (Rd.new _ _ _ _ rfl) (adF_new P1.out.lt) (by simp [nameB_len _ Hnm.out])).mono ?_
      rw [pW_zero]
      rintro r w4 ⟨rfl, F2, p2, m2⟩
      have Q2 := Lib.hid ((Q1.out.skip (Fr.none_alloc _ _)).mv m2)
      have P2 := Lib.hid p2
      clear m2 p2 c1 c2 P1 Q1
      have HD := Lib.hid (done_at W2.heap.size F2 (nameB nm ++ le8 [ti, va]) _ w4 P2.out rfl)
      rw [← HB.out] at HD
      clear HB
      go_wp2_with fail
      refine (HD.out).mono ?_
      rintro r w5 ⟨rfl, rfl⟩
      have O5 := Lib.hid (O1.out.below Q2.out.bel)
      clear HD
      go_wp2_with fail
      go_ret2
      exact ⟨by rw [Hok.out]; rfl, O5.out.bel⟩

set_option maxRecDepth 100000 in
set_option maxHeartbeats 4000000 in
theorem sampsput_any (l : List SampV) (hl : ∀ r ∈ l, r.wf) (A : Option Addr) (n c : Nat) (w : World) (hr : Rd w 3 A n (scells l)) (hn : n ≤ 1099511627776) :
    Calls Tryz.prog 31 #[.slice A n c] w fun e w' => e = .returned (bif l.all sampOk then .tuple #[.string (bstr (l.flatMap sampB)), .int .i64 0] else .tuple #[.string { data := #[] }, .int .i64 1]) ∧ Below w.heap.size w w' := by
  have HP : Hid (∀ r ∈ l, ∀ w', Calls Tryz.prog 98 #[r.val] w' fun e w'' => e = .returned (bif sampOk r then .tuple #[.string (bstr (sampB r)), .int .i64 0] else .tuple #[.string { data := #[] }, .int .i64 1]) ∧ Below w'.heap.size w' w'') := fun r h w' => putsamp_any r (hl r h) w'
  have Hr := Lib.hid hr
  have Hl := Lib.hid hr.samps_len
  clear hr hl
  go_enter Tryz.func31, Tryz.ntmps31
  go_wp2_with fail
  go_loopw [4, 11] (fun o i wr => ∃ k : Nat, k ≤ n ∧ i = .int .i64 k ∧ o = .string (bstr ((l.take k).flatMap sampB)) ∧ Hid ((l.take k).all sampOk = true) ∧ Own w wr (fun _ => False)) (fun _ i _ => n - (intOf i).toNat)
  case atStart => exact ⟨0, Nat.zero_le _, rfl, rfl, rfl, Own.start w⟩
  case round =>
    obtain ⟨k, hk, rfl, rfl, hall, ho⟩ := hrel
    have Ho := Lib.hid ho
    by_cases hlt : k < n
    · obtain ⟨ad, r, rfl, hu, d0, d1, d2⟩ := (Hr.out.fr0 (Fr.b0 ho.bel)).samp_ hlt
      have HPr := Lib.hid (HP.out r (mem_of_get hu))
      have Hu := Lib.hid hu
      have hlen : (bstr ((l.take k).flatMap sampB)).size ≤ 70368744177664 := by
        rw [bstr_size, sampsB_len hall.out, List.length_take]; omega
      obtain ⟨S, hS⟩ : ∃ S, bstr ((l.take k).flatMap sampB) = S := ⟨_, rfl⟩
      rw [hS] at hlen ⊢
      have HS := Lib.hid hS
      clear hu ho hS
      cases hok : sampOk r
      · have HF := Lib.hid (all_false Hu.out hok)
        rw [hok] at HPr
        unfold SampV.val at HPr
        clear hok
        go_wp2_with fail
        refine (HPr.out _).mono ?_
        rintro e w1 ⟨rfl, b1⟩
        have O1 := Lib.hid ((Ho.out.skip (Fr.none_alloc _ _)).below b1)
        clear b1 d0 d1 d2
        go_wp2_with fail
        go_ret2
        exact ⟨by rw [HF.out]; rfl, O1.out.bel⟩
      · have HT : Hid ((l.take (k + 1)).all sampOk = true) := by
          show _ = _
          rw [all_snoc Hu.out, hall.out, hok]; rfl
        have hrl : (bstr (sampB r)).size ≤ 64 := by rw [bstr_size, sampB_len r (validB_ofs hok)]; decide
        obtain ⟨T, hT⟩ : ∃ T, bstr (sampB r) = T := ⟨_, rfl⟩
        rw [hok, hT] at HPr
        rw [hT] at hrl
        have HC : Hid (S ++ T = bstr ((l.take (k + 1)).flatMap sampB)) := by
          show _ = _
          rw [← HS.out, ← hT, bstr_append, flat_snoc Hu.out]
        unfold SampV.val at HPr
        clear hok hT
        go_wp2_with fail
        refine (HPr.out _).mono ?_
        rintro e w1 ⟨rfl, b1⟩
        have O1 := Lib.hid ((Ho.out.skip (Fr.none_alloc _ _)).below b1)
        clear b1 d0 d1 d2
        go_wp2_with fail
        go_roundw
        case rel => exact ⟨k + 1, by omega, by go_num, by rw [HC.out], HT.out, O1.out⟩
        case measure => simp [intOf]; omega
    · obtain rfl : k = n := by omega
      have HT := Lib.hid (show l.take k = l from take_all (by rw [Hl.out]; exact Nat.le_refl _))
      have HF : Hid (l.all sampOk = true) := by have := hall.out; rwa [HT.out] at this
      rw [HT.out]
      clear ho
      go_wp2_with fail
      go_ret2
      exact ⟨by rw [HF.out]; rfl, Ho.out.bel⟩
end Go.Proofs.YtkickdmiilmkoaaGreatDoor
