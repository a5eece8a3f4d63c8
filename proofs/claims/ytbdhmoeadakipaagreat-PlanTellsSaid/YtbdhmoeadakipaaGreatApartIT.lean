/- Walk of sedimentbook's Book.Apart where Ints, Tiers alone have lists. -/
import Derived.Test.YtbdhmoeadakipaaGreatBookIntsC
import Derived.Test.YtbdhmoeadakipaaGreatBookTiersC
import Derived.Test.YtbdhmoeadakipaaGreatBookE
namespace Go.Proofs.YtbdhmoeadakipaaGreat
open Go.RowKit

set_option maxRecDepth 100000 in
set_option maxHeartbeats 16000000 in
theorem apart_any (g : Nat) (cs : Array Value) (base : Nat) (VI UI : Value) (hI uI : List (HV Int)) (VT UT : Value) (hT uT : List (HV TierV)) (w : World) (hb : Blk w g 45 cs) (hbase : base ≤ w.heap.size)
    (cTexts : cs[0]? = some (.slice none 0 0)) (cI : cs[2]? = some VI) (dI : cs[3]? = some UI) (kI : Kind icell w base 25 3 1 VI UI hI uI) (nI : hI.length ≤ 250) (lI : ∀ h ∈ hI, h.l.length ≤ 100000) (cRecords : cs[4]? = some (.slice none 0 0)) (cSamples : cs[6]? = some (.slice none 0 0)) (cT : cs[8]? = some VT) (dT : cs[9]? = some UT) (kT : Kind TierV.cells w base 22 69 4 VT UT hT uT) (nT : hT.length ≤ 250) (lT : ∀ h ∈ hT, h.l.length ≤ 100000) (cErrnos : cs[10]? = some (.slice none 0 0)) (cWords : cs[12]? = some (.slice none 0 0)) (cSteps : cs[14]? = some (.slice none 0 0)) :
    Calls Tryz.prog 23 #[.pointer (some ⟨g, 0, none⟩)] w fun r w' => r = .returned (.bool true) ∧ Fr (fun k => listsF hI k ∨ listsF hT k) w w' := by
  have HB0 := Lib.hid hb
  have F0 := Lib.hid (Fr.refl (fun k => listsF hI k ∨ listsF hT k) w)
  have HBs := Lib.hid hbase
  obtain ⟨RI, rI, rfl, _, _, _⟩ := own_slice kI.row
  have HKI0 := Lib.hid kI
  have HCI := Lib.hid cI
  have HDI := Lib.hid dI
  have HNI := Lib.hid nI
  have HLI := Lib.hid lI
  have HMI := Lib.hid (fun i n => marksI_len i 0 n)
  obtain ⟨RT, rT, rfl, _, _, _⟩ := own_slice kT.row
  have HKT0 := Lib.hid kT
  have HCT := Lib.hid cT
  have HDT := Lib.hid dT
  have HNT := Lib.hid nT
  have HLT := Lib.hid lT
  have HMT := Lib.hid (fun i n => marksT_len i 0 n)
  have HCTexts := Lib.hid cTexts
  have HCRecords := Lib.hid cRecords
  have HCSamples := Lib.hid cSamples
  have HCErrnos := Lib.hid cErrnos
  have HCWords := Lib.hid cWords
  have HCSteps := Lib.hid cSteps
  clear hb hbase cTexts cI dI kI nI lI cRecords cSamples cT dT kT nT lT cErrnos cWords cSteps
  go_enter Tryz.func23, Tryz.ntmps23
  go_wp2_with fail
  refine (stillTexts_none g cs w HB0.out HCTexts.out).mono ?_
  rintro r w' ⟨rfl, rfl⟩
  go_wp2_with fail
  refine (stillI_any g cs base _ UI hI uI w HB0.out HCI.out HDI.out HKI0.out (by have := HNI.out; omega) (fun h hh => by have := HLI.out h hh; omega)).mono ?_
  rintro r w1 ⟨rfl, b1⟩
  have HB1 := Lib.hid (HB0.out.below b1)
  have F1 := Lib.hid (F0.out.trans (Fr.b0 b1) (fun _ h => h.elim))
  have HKI1 := Lib.hid (HKI0.out.fr0 (Fr.b0 b1))
  have HKT1 := Lib.hid (HKT0.out.fr0 (Fr.b0 b1))
  clear b1 HB0 HKI0 HKT0
  go_wp2_with fail
  refine (stillRecords_none g cs w1 HB1.out HCRecords.out).mono ?_
  rintro r w' ⟨rfl, rfl⟩
  go_wp2_with fail
  refine (stillSamples_none g cs w1 HB1.out HCSamples.out).mono ?_
  rintro r w' ⟨rfl, rfl⟩
  go_wp2_with fail
  refine (stillT_any g cs base _ UT hT uT w1 HB1.out HCT.out HDT.out HKT1.out (by have := HNT.out; omega) (fun h hh => by have := HLT.out h hh; omega)).mono ?_
  rintro r w2 ⟨rfl, b2⟩
  have HB2 := Lib.hid (HB1.out.below b2)
  have F2 := Lib.hid (F1.out.trans (Fr.b0 b2) (fun _ h => h.elim))
  have HKI2 := Lib.hid (HKI1.out.fr0 (Fr.b0 b2))
  have HKT2 := Lib.hid (HKT1.out.fr0 (Fr.b0 b2))
  clear b2 HB1 HKI1 HKT1
  go_wp2_with fail
  refine (stillErrnos_none g cs w2 HB2.out HCErrnos.out).mono ?_
  rintro r w' ⟨rfl, rfl⟩
  go_wp2_with fail
  refine (stillWords_none g cs w2 HB2.out HCWords.out).mono ?_
  rintro r w' ⟨rfl, rfl⟩
  go_wp2_with fail
  refine (stillSteps_none g cs w2 HB2.out HCSteps.out).mono ?_
  rintro r w' ⟨rfl, rfl⟩
  have HSI2 := Lib.hid HKI2.out.lists
  have HRI2 := Lib.hid HKI2.out.row
  clear HKI2
  have HbI := Lib.hid (show base ≤ w2.heap.size by have := F2.out.size; have := HBs.out; omega)
  have HST2 := Lib.hid HKT2.out.lists
  have HRT2 := Lib.hid HKT2.out.row
  clear HKT2
  have HbT := Lib.hid (show base ≤ w2.heap.size by have := F2.out.size; have := HBs.out; omega)
  go_wp2_with fail
  refine (putSteps_none g cs w2 HB2.out HCSteps.out).mono ?_
  rintro r w' ⟨rfl, rfl⟩
  go_wp2_with fail
  refine (putTexts_none g cs w2 HB2.out HCTexts.out).mono ?_
  rintro r w' ⟨rfl, rfl⟩
  go_wp2_with fail
  refine (putI_any g cs base _ hI w2 HB2.out HCI.out (by have := F2.out.size; have := HBs.out; omega) HSI2.out HRI2.out (by have := HNI.out; omega) (fun h hh => by have := HLI.out h hh; omega)).mono ?_
  rintro r w3 ⟨rfl, m3, f3⟩
  have HB3 := Lib.hid ((Off.lists HSI2.out (ts := [45]) (by decide)).blkf HB2.out (by decide) f3)
  have F3 := Lib.hid (F2.out.trans f3 (fun i hi => .inl (by first | exact hi | exact .inl hi | exact .inr hi | exact .inr (.inl hi))))
  have HRI3 := Lib.hid ((Off.lists HSI2.out (ts := [25]) (by decide)).own HRI2.out (by decide) f3)
  have HSI3 := Lib.hid m3
  have HRT3 := Lib.hid ((Off.lists HSI2.out (ts := [22]) (by decide)).own HRT2.out (by decide) f3)
  have HST3 := Lib.hid (HST2.out.fr f3 (Off.lists HSI2.out (ts := [69]) (by decide)) (by decide))
  clear m3 f3 HB2 HRI2 HSI2 HRT2 HST2
  go_wp2_with fail
  refine (putRecords_none g cs w3 HB3.out HCRecords.out).mono ?_
  rintro r w' ⟨rfl, rfl⟩
  go_wp2_with fail
  refine (putSamples_none g cs w3 HB3.out HCSamples.out).mono ?_
  rintro r w' ⟨rfl, rfl⟩
  go_wp2_with fail
  refine (putT_any g cs base _ hT w3 HB3.out HCT.out (by have := F3.out.size; have := HBs.out; omega) HST3.out HRT3.out (by have := HNT.out; omega) (fun h hh => by have := HLT.out h hh; omega)).mono ?_
  rintro r w4 ⟨rfl, m4, f4⟩
  have HB4 := Lib.hid ((Off.lists HST3.out (ts := [45]) (by decide)).blkf HB3.out (by decide) f4)
  have F4 := Lib.hid (F3.out.trans f4 (fun i hi => .inl (by first | exact hi | exact .inl hi | exact .inr hi | exact .inr (.inl hi))))
  have HRI4 := Lib.hid ((Off.lists HST3.out (ts := [25]) (by decide)).own HRI3.out (by decide) f4)
  have HSI4 := Lib.hid (HSI3.out.fr f4 (Off.lists HST3.out (ts := [3]) (by decide)) (by decide))
  have HRT4 := Lib.hid ((Off.lists HST3.out (ts := [22]) (by decide)).own HRT3.out (by decide) f4)
  have HST4 := Lib.hid m4
  clear m4 f4 HB3 HRI3 HSI3 HRT3 HST3
  go_wp2_with fail
  refine (putErrnos_none g cs w4 HB4.out HCErrnos.out).mono ?_
  rintro r w' ⟨rfl, rfl⟩
  go_wp2_with fail
  refine (putWords_none g cs w4 HB4.out HCWords.out).mono ?_
  rintro r w' ⟨rfl, rfl⟩
  obtain ⟨mI, hmI⟩ : ∃ m, markedTo (fun i n => marksI i 0 n) hI.length hI = m := ⟨_, rfl⟩
  have E1I : Hid (mI.length = hI.length) := by show _ = _; rw [← hmI, markedTo_len]
  have E2I : Hid (∀ h ∈ mI, h.l.length ≤ 100000) := by rw [← hmI]; exact marked_mem (P := fun n => n ≤ 100000) HMI.out HLI.out
  have E3I : Hid (∀ (i : Nat) (h : HV Int), mI[i]? = some h → h.l = marksI i 0 h.l.length) := by rw [← hmI]; exact marked_at HMI.out
  have E4I : Hid (∀ k, listsF mI k → listsF hI k) := by rw [← hmI]; exact listsF_marked _
  have E5I : Hid (mI.map HV.v = hI.map HV.v) := by show _ = _; rw [← hmI, markedTo_vs]
  rw [hmI] at HSI4
  have HVI4 : Hid (w4.ownsRow base 25 1 (.slice RI hI.length rI) hI.length (mI.map HV.v)) := by show World.ownsRow _ _ _ _ _ _ _; rw [E5I.out]; exact HRI4.out
  clear hmI HRI4
  obtain ⟨mT, hmT⟩ : ∃ m, markedTo (fun i n => marksT i 0 n) hT.length hT = m := ⟨_, rfl⟩
  have E1T : Hid (mT.length = hT.length) := by show _ = _; rw [← hmT, markedTo_len]
  have E2T : Hid (∀ h ∈ mT, h.l.length ≤ 100000) := by rw [← hmT]; exact marked_mem (P := fun n => n ≤ 100000) HMT.out HLT.out
  have E3T : Hid (∀ (i : Nat) (h : HV TierV), mT[i]? = some h → h.l = marksT i 0 h.l.length) := by rw [← hmT]; exact marked_at HMT.out
  have E4T : Hid (∀ k, listsF mT k → listsF hT k) := by rw [← hmT]; exact listsF_marked _
  have E5T : Hid (mT.map HV.v = hT.map HV.v) := by show _ = _; rw [← hmT, markedTo_vs]
  rw [hmT] at HST4
  have HVT4 : Hid (w4.ownsRow base 22 1 (.slice RT hT.length rT) hT.length (mT.map HV.v)) := by show World.ownsRow _ _ _ _ _ _ _; rw [E5T.out]; exact HRT4.out
  clear hmT HRT4
  have SepIT := Lib.hid (Off.apart (Off.lists HST4.out (ts := [3]) (by decide)) HSI4.out.ty)
  go_wp2_with fail
  refine (growTexts_none g cs w4 HB4.out HCTexts.out).mono ?_
  rintro r w' ⟨rfl, rfl⟩
  go_wp2_with fail
  refine (growI_any g cs base _ mI w4 HB4.out HCI.out (by have := F4.out.size; have := HBs.out; omega) HSI4.out (by rw [E1I.out]; exact HVI4.out) (by have := HNI.out; have := E1I.out; omega) (fun h hh => by have := E2I.out h hh; omega) E3I.out).mono ?_
  rintro r w5 ⟨OI, oI, gI, rfl, r5, q5, x5, y5, z5, t5, v5, f5⟩
  have HB5 := Lib.hid ((Off.lists HSI4.out (ts := [45]) (by decide)).blkf HB4.out (by decide) f5)
  have F5 := Lib.hid (F4.out.trans f5 (fun i hi => .inl (by have hi := E4I.out i hi; first | exact hi | exact .inl hi | exact .inr hi | exact .inr (.inl hi))))
  have HVI5 := Lib.hid ((Off.lists HSI4.out (ts := [25]) (by decide)).own HVI4.out (by decide) f5)
  have HXI5 := Lib.hid y5
  have HGI5 := Lib.hid x5
  have HOI5 := Lib.hid r5
  have HqI := Lib.hid q5
  have HzI := Lib.hid z5
  have HtI := Lib.hid t5
  have HwI5 : Hid (∀ h ∈ gI, ∀ b, rowF h.v b → listsF mI b ∨ w4.heap.size ≤ b) := v5
  have HVT5 := Lib.hid ((Off.lists HSI4.out (ts := [22]) (by decide)).own HVT4.out (by decide) f5)
  have HST5 := Lib.hid (HST4.out.fr f5 (Off.lists HSI4.out (ts := [69]) (by decide)) (by decide))
  have HLtTI := Lib.hid HST4.out.lt
  clear r5 q5 x5 y5 z5 t5 v5 HB4 HVI4 HVT4
  clear f5
  go_wp2_with fail
  refine (growRecords_none g cs w5 HB5.out HCRecords.out).mono ?_
  rintro r w' ⟨rfl, rfl⟩
  go_wp2_with fail
  refine (growSamples_none g cs w5 HB5.out HCSamples.out).mono ?_
  rintro r w' ⟨rfl, rfl⟩
  go_wp2_with fail
  refine (growT_any g cs base _ mT w5 HB5.out HCT.out (by have := F5.out.size; have := HBs.out; omega) HST5.out (by rw [E1T.out]; exact HVT5.out) (by have := HNT.out; have := E1T.out; omega) (fun h hh => by have := E2T.out h hh; omega) E3T.out).mono ?_
  rintro r w6 ⟨OT, oT, gT, rfl, r6, q6, x6, y6, z6, t6, v6, f6⟩
  have HB6 := Lib.hid ((Off.lists HST5.out (ts := [45]) (by decide)).blkf HB5.out (by decide) f6)
  have F6 := Lib.hid (F5.out.trans f6 (fun i hi => .inl (by have hi := E4T.out i hi; first | exact hi | exact .inl hi | exact .inr hi | exact .inr (.inl hi))))
  have HVI6 := Lib.hid ((Off.lists HST5.out (ts := [25]) (by decide)).own HVI5.out (by decide) f6)
  have HOI6 := Lib.hid ((Off.lists HST5.out (ts := [25]) (by decide)).own HOI5.out (by decide) f6)
  have HXI6 := Lib.hid (fun h hh => (HXI5.out h hh).fr f6 (fun k hk => SepIT.out k ⟨h, hh, hk⟩))
  have HGI6 := Lib.hid (fun h hh => (HGI5.out h hh).fr f6 (fun k hk hF => (HwI5.out h hh k hk).elim (fun h2 => SepIT.out k h2 hF) (fun h2 => by have := HLtTI.out k hF; omega)))
  have HwI6 := HwI5
  clear HwI5 HOI5 HXI5 HGI5
  have HVT6 := Lib.hid ((Off.lists HST5.out (ts := [22]) (by decide)).own HVT5.out (by decide) f6)
  have HXT6 := Lib.hid y6
  have HGT6 := Lib.hid x6
  have HOT6 := Lib.hid r6
  have HqT := Lib.hid q6
  have HzT := Lib.hid z6
  have HtT := Lib.hid t6
  have HwT6 : Hid (∀ h ∈ gT, ∀ b, rowF h.v b → listsF mT b ∨ w5.heap.size ≤ b) := v6
  clear r6 q6 x6 y6 z6 t6 v6 HB5 HVI5 HVT5
  clear f6
  go_wp2_with fail
  refine (growErrnos_none g cs w6 HB6.out HCErrnos.out).mono ?_
  rintro r w' ⟨rfl, rfl⟩
  go_wp2_with fail
  refine (growWords_none g cs w6 HB6.out HCWords.out).mono ?_
  rintro r w' ⟨rfl, rfl⟩
  go_wp2_with fail
  refine (growSteps_none g cs w6 HB6.out HCSteps.out).mono ?_
  rintro r w' ⟨rfl, rfl⟩
  go_wp2_with fail
  refine (markedTexts_none _).mono ?_
  rintro r w' ⟨rfl, rfl⟩
  have e0 := HB6.out.cell 0
  rw [HCTexts.out] at e0
  go_wp2_with fail
  clear e0
  refine (markedTexts_none _).mono ?_
  rintro r w' ⟨rfl, rfl⟩
  go_wp2_with fail
  refine (markedI_any OI oI mI.length gI w6 (Rd.of_own HOI6.out) (by have := HNI.out; have := E1I.out; omega) HGI6.out (fun h hh => by have := HzI.out h hh; omega) HtI.out).mono ?_
  rintro r w7 ⟨rfl, b7⟩
  have HB7 := Lib.hid (HB6.out.below b7)
  have F7 := Lib.hid (F6.out.trans (Fr.b0 b7) (fun _ h => h.elim))
  have HVI7 := Lib.hid (own_fr0 HVI6.out (Fr.b0 b7))
  have HOI7 := Lib.hid (own_fr0 HOI6.out (Fr.b0 b7))
  have HXI7 := Lib.hid (fun h hh => (HXI6.out h hh).fr0 (Fr.b0 b7))
  have HGI7 := Lib.hid (fun h hh => (HGI6.out h hh).fr0 (Fr.b0 b7))
  have HVT7 := Lib.hid (own_fr0 HVT6.out (Fr.b0 b7))
  have HOT7 := Lib.hid (own_fr0 HOT6.out (Fr.b0 b7))
  have HXT7 := Lib.hid (fun h hh => (HXT6.out h hh).fr0 (Fr.b0 b7))
  have HGT7 := Lib.hid (fun h hh => (HGT6.out h hh).fr0 (Fr.b0 b7))
  clear b7 HB6 F6 HVI6 HOI6 HXI6 HGI6 HVT6 HOT6 HXT6 HGT6
  have e0 := HB7.out.cell 2
  rw [HCI.out] at e0
  go_wp2_with fail
  clear e0
  refine (markedI_any RI rI hI.length mI w7 (Rd.of_own HVI7.out) (by have := HNI.out; have := E1I.out; omega) HXI7.out (fun h hh => by have := E2I.out h hh; omega) E3I.out).mono ?_
  rintro r w8 ⟨rfl, b8⟩
  have HB8 := Lib.hid (HB7.out.below b8)
  have F8 := Lib.hid (F7.out.trans (Fr.b0 b8) (fun _ h => h.elim))
  have HVI8 := Lib.hid (own_fr0 HVI7.out (Fr.b0 b8))
  have HOI8 := Lib.hid (own_fr0 HOI7.out (Fr.b0 b8))
  have HXI8 := Lib.hid (fun h hh => (HXI7.out h hh).fr0 (Fr.b0 b8))
  have HGI8 := Lib.hid (fun h hh => (HGI7.out h hh).fr0 (Fr.b0 b8))
  have HVT8 := Lib.hid (own_fr0 HVT7.out (Fr.b0 b8))
  have HOT8 := Lib.hid (own_fr0 HOT7.out (Fr.b0 b8))
  have HXT8 := Lib.hid (fun h hh => (HXT7.out h hh).fr0 (Fr.b0 b8))
  have HGT8 := Lib.hid (fun h hh => (HGT7.out h hh).fr0 (Fr.b0 b8))
  clear b8 HB7 F7 HVI7 HOI7 HXI7 HGI7 HVT7 HOT7 HXT7 HGT7
  go_wp2_with fail
  refine (markedRecords_none _).mono ?_
  rintro r w' ⟨rfl, rfl⟩
  have e0 := HB8.out.cell 4
  rw [HCRecords.out] at e0
  go_wp2_with fail
  clear e0
  refine (markedRecords_none _).mono ?_
  rintro r w' ⟨rfl, rfl⟩
  go_wp2_with fail
  refine (markedSamples_none _).mono ?_
  rintro r w' ⟨rfl, rfl⟩
  have e0 := HB8.out.cell 6
  rw [HCSamples.out] at e0
  go_wp2_with fail
  clear e0
  refine (markedSamples_none _).mono ?_
  rintro r w' ⟨rfl, rfl⟩
  go_wp2_with fail
  refine (markedT_any OT oT mT.length gT w8 (Rd.of_own HOT8.out) (by have := HNT.out; have := E1T.out; omega) HGT8.out (fun h hh => by have := HzT.out h hh; omega) HtT.out).mono ?_
  rintro r w9 ⟨rfl, b9⟩
  have HB9 := Lib.hid (HB8.out.below b9)
  have F9 := Lib.hid (F8.out.trans (Fr.b0 b9) (fun _ h => h.elim))
  have HVI9 := Lib.hid (own_fr0 HVI8.out (Fr.b0 b9))
  have HOI9 := Lib.hid (own_fr0 HOI8.out (Fr.b0 b9))
  have HXI9 := Lib.hid (fun h hh => (HXI8.out h hh).fr0 (Fr.b0 b9))
  have HGI9 := Lib.hid (fun h hh => (HGI8.out h hh).fr0 (Fr.b0 b9))
  have HVT9 := Lib.hid (own_fr0 HVT8.out (Fr.b0 b9))
  have HOT9 := Lib.hid (own_fr0 HOT8.out (Fr.b0 b9))
  have HXT9 := Lib.hid (fun h hh => (HXT8.out h hh).fr0 (Fr.b0 b9))
  have HGT9 := Lib.hid (fun h hh => (HGT8.out h hh).fr0 (Fr.b0 b9))
  clear b9 HB8 F8 HVI8 HOI8 HXI8 HGI8 HVT8 HOT8 HXT8 HGT8
  have e0 := HB9.out.cell 8
  rw [HCT.out] at e0
  go_wp2_with fail
  clear e0
  refine (markedT_any RT rT hT.length mT w9 (Rd.of_own HVT9.out) (by have := HNT.out; have := E1T.out; omega) HXT9.out (fun h hh => by have := E2T.out h hh; omega) E3T.out).mono ?_
  rintro r w10 ⟨rfl, b10⟩
  have HB10 := Lib.hid (HB9.out.below b10)
  have F10 := Lib.hid (F9.out.trans (Fr.b0 b10) (fun _ h => h.elim))
  have HVI10 := Lib.hid (own_fr0 HVI9.out (Fr.b0 b10))
  have HOI10 := Lib.hid (own_fr0 HOI9.out (Fr.b0 b10))
  have HXI10 := Lib.hid (fun h hh => (HXI9.out h hh).fr0 (Fr.b0 b10))
  have HGI10 := Lib.hid (fun h hh => (HGI9.out h hh).fr0 (Fr.b0 b10))
  have HVT10 := Lib.hid (own_fr0 HVT9.out (Fr.b0 b10))
  have HOT10 := Lib.hid (own_fr0 HOT9.out (Fr.b0 b10))
  have HXT10 := Lib.hid (fun h hh => (HXT9.out h hh).fr0 (Fr.b0 b10))
  have HGT10 := Lib.hid (fun h hh => (HGT9.out h hh).fr0 (Fr.b0 b10))
  clear b10 HB9 F9 HVI9 HOI9 HXI9 HGI9 HVT9 HOT9 HXT9 HGT9
  go_wp2_with fail
  refine (markedErrnos_none _).mono ?_
  rintro r w' ⟨rfl, rfl⟩
  have e0 := HB10.out.cell 10
  rw [HCErrnos.out] at e0
  go_wp2_with fail
  clear e0
  refine (markedErrnos_none _).mono ?_
  rintro r w' ⟨rfl, rfl⟩
  go_wp2_with fail
  refine (markedWords_none _).mono ?_
  rintro r w' ⟨rfl, rfl⟩
  have e0 := HB10.out.cell 12
  rw [HCWords.out] at e0
  go_wp2_with fail
  clear e0
  refine (markedWords_none _).mono ?_
  rintro r w' ⟨rfl, rfl⟩
  go_wp2_with fail
  refine (markedSteps_none _).mono ?_
  rintro r w' ⟨rfl, rfl⟩
  have e0 := HB10.out.cell 14
  rw [HCSteps.out] at e0
  go_wp2_with fail
  clear e0
  refine (markedSteps_none _).mono ?_
  rintro r w' ⟨rfl, rfl⟩
  go_wp2_with fail
  go_ret
  exact ⟨rfl, F10.out⟩
end Go.Proofs.YtbdhmoeadakipaaGreat
