/- Walk of sedimentbook's Book.Apart where Records, Samples alone have lists. -/
import Derived.Test.YtkickdmiilmkoaaGreatDoorBookRecordsC
import Derived.Test.YtkickdmiilmkoaaGreatDoorBookSamplesC
import Derived.Test.YtkickdmiilmkoaaGreatDoorBookE
namespace Go.Proofs.YtkickdmiilmkoaaGreatDoor
open Go.RowKit

set_option maxRecDepth 100000 in
set_option maxHeartbeats 16000000 in
theorem apart_any (g : Nat) (cs : Array Value) (base : Nat) (VR UR : Value) (hR uR : List (HV RecV)) (VS US : Value) (hS uS : List (HV SampV)) (w : World) (hb : Blk w g 37 cs) (hbase : base ≤ w.heap.size)
    (cTexts : cs[0]? = some (.slice none 0 0)) (cInts : cs[2]? = some (.slice none 0 0)) (cR : cs[4]? = some VR) (dR : cs[5]? = some UR) (kR : Kind RecV.cells w base 49 63 7 VR UR hR uR) (nR : hR.length ≤ 250) (lR : ∀ h ∈ hR, h.l.length ≤ 100000) (cS : cs[6]? = some VS) (dS : cs[7]? = some US) (kS : Kind SampV.cells w base 22 82 3 VS US hS uS) (nS : hS.length ≤ 250) (lS : ∀ h ∈ hS, h.l.length ≤ 100000) (cTiers : cs[8]? = some (.slice none 0 0)) (cErrnos : cs[10]? = some (.slice none 0 0)) (cWords : cs[12]? = some (.slice none 0 0)) (cSteps : cs[14]? = some (.slice none 0 0)) :
    Calls Tryz.prog 18 #[.pointer (some ⟨g, 0, none⟩)] w fun r w' => r = .returned (.bool true) ∧ Fr (fun k => listsF hR k ∨ listsF hS k) w w' := by
  have HB0 := Lib.hid hb
  have F0 := Lib.hid (Fr.refl (fun k => listsF hR k ∨ listsF hS k) w)
  have HBs := Lib.hid hbase
  obtain ⟨RR, rR, rfl, _, _, _⟩ := own_slice kR.row
  have HKR0 := Lib.hid kR
  have HCR := Lib.hid cR
  have HDR := Lib.hid dR
  have HNR := Lib.hid nR
  have HLR := Lib.hid lR
  have HMR := Lib.hid (fun i n => marksR_len i 0 n)
  obtain ⟨RS, rS, rfl, _, _, _⟩ := own_slice kS.row
  have HKS0 := Lib.hid kS
  have HCS := Lib.hid cS
  have HDS := Lib.hid dS
  have HNS := Lib.hid nS
  have HLS := Lib.hid lS
  have HMS := Lib.hid (fun i n => marksS_len i 0 n)
  have HCTexts := Lib.hid cTexts
  have HCInts := Lib.hid cInts
  have HCTiers := Lib.hid cTiers
  have HCErrnos := Lib.hid cErrnos
  have HCWords := Lib.hid cWords
  have HCSteps := Lib.hid cSteps
  clear hb hbase cTexts cInts cR dR kR nR lR cS dS kS nS lS cTiers cErrnos cWords cSteps
  go_enter Tryz.func18, Tryz.ntmps18
  go_wp2_with fail
  refine (stillTexts_none g cs w HB0.out HCTexts.out).mono ?_
  rintro r w' ⟨rfl, rfl⟩
  go_wp2_with fail
  refine (stillInts_none g cs w HB0.out HCInts.out).mono ?_
  rintro r w' ⟨rfl, rfl⟩
  go_wp2_with fail
  refine (stillR_any g cs base _ UR hR uR w HB0.out HCR.out HDR.out HKR0.out (by have := HNR.out; omega) (fun h hh => by have := HLR.out h hh; omega)).mono ?_
  rintro r w1 ⟨rfl, b1⟩
  have HB1 := Lib.hid (HB0.out.below b1)
  have F1 := Lib.hid (F0.out.trans (Fr.b0 b1) (fun _ h => h.elim))
  have HKR1 := Lib.hid (HKR0.out.fr0 (Fr.b0 b1))
  have HKS1 := Lib.hid (HKS0.out.fr0 (Fr.b0 b1))
  clear b1 HB0 HKR0 HKS0
  go_wp2_with fail
  refine (stillS_any g cs base _ US hS uS w1 HB1.out HCS.out HDS.out HKS1.out (by have := HNS.out; omega) (fun h hh => by have := HLS.out h hh; omega)).mono ?_
  rintro r w2 ⟨rfl, b2⟩
  have HB2 := Lib.hid (HB1.out.below b2)
  have F2 := Lib.hid (F1.out.trans (Fr.b0 b2) (fun _ h => h.elim))
  have HKR2 := Lib.hid (HKR1.out.fr0 (Fr.b0 b2))
  have HKS2 := Lib.hid (HKS1.out.fr0 (Fr.b0 b2))
  clear b2 HB1 HKR1 HKS1
  go_wp2_with fail
  refine (stillTiers_none g cs w2 HB2.out HCTiers.out).mono ?_
  rintro r w' ⟨rfl, rfl⟩
  go_wp2_with fail
  refine (stillErrnos_none g cs w2 HB2.out HCErrnos.out).mono ?_
  rintro r w' ⟨rfl, rfl⟩
  go_wp2_with fail
  refine (stillWords_none g cs w2 HB2.out HCWords.out).mono ?_
  rintro r w' ⟨rfl, rfl⟩
  go_wp2_with fail
  refine (stillSteps_none g cs w2 HB2.out HCSteps.out).mono ?_
  rintro r w' ⟨rfl, rfl⟩
  have HSR2 := Lib.hid HKR2.out.lists
  have HRR2 := Lib.hid HKR2.out.row
  clear HKR2
  have HbR := Lib.hid (show base ≤ w2.heap.size by have := F2.out.size; have := HBs.out; omega)
  have HSS2 := Lib.hid HKS2.out.lists
  have HRS2 := Lib.hid HKS2.out.row
  clear HKS2
  have HbS := Lib.hid (show base ≤ w2.heap.size by have := F2.out.size; have := HBs.out; omega)
  go_wp2_with fail
  refine (putSteps_none g cs w2 HB2.out HCSteps.out).mono ?_
  rintro r w' ⟨rfl, rfl⟩
  go_wp2_with fail
  refine (putTexts_none g cs w2 HB2.out HCTexts.out).mono ?_
  rintro r w' ⟨rfl, rfl⟩
  go_wp2_with fail
  refine (putInts_none g cs w2 HB2.out HCInts.out).mono ?_
  rintro r w' ⟨rfl, rfl⟩
  go_wp2_with fail
  refine (putR_any g cs base _ hR w2 HB2.out HCR.out (by have := F2.out.size; have := HBs.out; omega) HSR2.out HRR2.out (by have := HNR.out; omega) (fun h hh => by have := HLR.out h hh; omega)).mono ?_
  rintro r w3 ⟨rfl, m3, f3⟩
  have HB3 := Lib.hid ((Off.lists HSR2.out (ts := [37]) (by decide)).blkf HB2.out (by decide) f3)
  have F3 := Lib.hid (F2.out.trans f3 (fun i hi => .inl (by first | exact hi | exact .inl hi | exact .inr hi | exact .inr (.inl hi))))
  have HRR3 := Lib.hid ((Off.lists HSR2.out (ts := [49]) (by decide)).own HRR2.out (by decide) f3)
  have HSR3 := Lib.hid m3
  have HRS3 := Lib.hid ((Off.lists HSR2.out (ts := [22]) (by decide)).own HRS2.out (by decide) f3)
  have HSS3 := Lib.hid (HSS2.out.fr f3 (Off.lists HSR2.out (ts := [82]) (by decide)) (by decide))
  clear m3 f3 HB2 HRR2 HSR2 HRS2 HSS2
  go_wp2_with fail
  refine (putS_any g cs base _ hS w3 HB3.out HCS.out (by have := F3.out.size; have := HBs.out; omega) HSS3.out HRS3.out (by have := HNS.out; omega) (fun h hh => by have := HLS.out h hh; omega)).mono ?_
  rintro r w4 ⟨rfl, m4, f4⟩
  have HB4 := Lib.hid ((Off.lists HSS3.out (ts := [37]) (by decide)).blkf HB3.out (by decide) f4)
  have F4 := Lib.hid (F3.out.trans f4 (fun i hi => .inl (by first | exact hi | exact .inl hi | exact .inr hi | exact .inr (.inl hi))))
  have HRR4 := Lib.hid ((Off.lists HSS3.out (ts := [49]) (by decide)).own HRR3.out (by decide) f4)
  have HSR4 := Lib.hid (HSR3.out.fr f4 (Off.lists HSS3.out (ts := [63]) (by decide)) (by decide))
  have HRS4 := Lib.hid ((Off.lists HSS3.out (ts := [22]) (by decide)).own HRS3.out (by decide) f4)
  have HSS4 := Lib.hid m4
  clear m4 f4 HB3 HRR3 HSR3 HRS3 HSS3
  go_wp2_with fail
  refine (putTiers_none g cs w4 HB4.out HCTiers.out).mono ?_
  rintro r w' ⟨rfl, rfl⟩
  go_wp2_with fail
  refine (putErrnos_none g cs w4 HB4.out HCErrnos.out).mono ?_
  rintro r w' ⟨rfl, rfl⟩
  go_wp2_with fail
  refine (putWords_none g cs w4 HB4.out HCWords.out).mono ?_
  rintro r w' ⟨rfl, rfl⟩
  obtain ⟨mR, hmR⟩ : ∃ m, markedTo (fun i n => marksR i 0 n) hR.length hR = m := ⟨_, rfl⟩
  have E1R : Hid (mR.length = hR.length) := by show _ = _; rw [← hmR, markedTo_len]
  have E2R : Hid (∀ h ∈ mR, h.l.length ≤ 100000) := by rw [← hmR]; exact marked_mem (P := fun n => n ≤ 100000) HMR.out HLR.out
  have E3R : Hid (∀ (i : Nat) (h : HV RecV), mR[i]? = some h → h.l = marksR i 0 h.l.length) := by rw [← hmR]; exact marked_at HMR.out
  have E4R : Hid (∀ k, listsF mR k → listsF hR k) := by rw [← hmR]; exact listsF_marked _
  have E5R : Hid (mR.map HV.v = hR.map HV.v) := by show _ = _; rw [← hmR, markedTo_vs]
  rw [hmR] at HSR4
  have HVR4 : Hid (w4.ownsRow base 49 1 (.slice RR hR.length rR) hR.length (mR.map HV.v)) := by show World.ownsRow _ _ _ _ _ _ _; rw [E5R.out]; exact HRR4.out
  clear hmR HRR4
  obtain ⟨mS, hmS⟩ : ∃ m, markedTo (fun i n => marksS i 0 n) hS.length hS = m := ⟨_, rfl⟩
  have E1S : Hid (mS.length = hS.length) := by show _ = _; rw [← hmS, markedTo_len]
  have E2S : Hid (∀ h ∈ mS, h.l.length ≤ 100000) := by rw [← hmS]; exact marked_mem (P := fun n => n ≤ 100000) HMS.out HLS.out
  have E3S : Hid (∀ (i : Nat) (h : HV SampV), mS[i]? = some h → h.l = marksS i 0 h.l.length) := by rw [← hmS]; exact marked_at HMS.out
  have E4S : Hid (∀ k, listsF mS k → listsF hS k) := by rw [← hmS]; exact listsF_marked _
  have E5S : Hid (mS.map HV.v = hS.map HV.v) := by show _ = _; rw [← hmS, markedTo_vs]
  rw [hmS] at HSS4
  have HVS4 : Hid (w4.ownsRow base 22 1 (.slice RS hS.length rS) hS.length (mS.map HV.v)) := by show World.ownsRow _ _ _ _ _ _ _; rw [E5S.out]; exact HRS4.out
  clear hmS HRS4
  have SepRS := Lib.hid (Off.apart (Off.lists HSS4.out (ts := [63]) (by decide)) HSR4.out.ty)
  go_wp2_with fail
  refine (growTexts_none g cs w4 HB4.out HCTexts.out).mono ?_
  rintro r w' ⟨rfl, rfl⟩
  go_wp2_with fail
  refine (growInts_none g cs w4 HB4.out HCInts.out).mono ?_
  rintro r w' ⟨rfl, rfl⟩
  go_wp2_with fail
  refine (growR_any g cs base _ mR w4 HB4.out HCR.out (by have := F4.out.size; have := HBs.out; omega) HSR4.out (by rw [E1R.out]; exact HVR4.out) (by have := HNR.out; have := E1R.out; omega) (fun h hh => by have := E2R.out h hh; omega) E3R.out).mono ?_
  rintro r w5 ⟨OR, oR, gR, rfl, r5, q5, x5, y5, z5, t5, v5, f5⟩
  have HB5 := Lib.hid ((Off.lists HSR4.out (ts := [37]) (by decide)).blkf HB4.out (by decide) f5)
  have F5 := Lib.hid (F4.out.trans f5 (fun i hi => .inl (by have hi := E4R.out i hi; first | exact hi | exact .inl hi | exact .inr hi | exact .inr (.inl hi))))
  have HVR5 := Lib.hid ((Off.lists HSR4.out (ts := [49]) (by decide)).own HVR4.out (by decide) f5)
  have HXR5 := Lib.hid y5
  have HGR5 := Lib.hid x5
  have HOR5 := Lib.hid r5
  have HqR := Lib.hid q5
  have HzR := Lib.hid z5
  have HtR := Lib.hid t5
  have HwR5 : Hid (∀ h ∈ gR, ∀ b, rowF h.v b → listsF mR b ∨ w4.heap.size ≤ b) := v5
  have HVS5 := Lib.hid ((Off.lists HSR4.out (ts := [22]) (by decide)).own HVS4.out (by decide) f5)
  have HSS5 := Lib.hid (HSS4.out.fr f5 (Off.lists HSR4.out (ts := [82]) (by decide)) (by decide))
  have HLtSR := Lib.hid HSS4.out.lt
  clear r5 q5 x5 y5 z5 t5 v5 HB4 HVR4 HVS4
  clear f5
  go_wp2_with fail
  refine (growS_any g cs base _ mS w5 HB5.out HCS.out (by have := F5.out.size; have := HBs.out; omega) HSS5.out (by rw [E1S.out]; exact HVS5.out) (by have := HNS.out; have := E1S.out; omega) (fun h hh => by have := E2S.out h hh; omega) E3S.out).mono ?_
  rintro r w6 ⟨OS, oS, gS, rfl, r6, q6, x6, y6, z6, t6, v6, f6⟩
  have HB6 := Lib.hid ((Off.lists HSS5.out (ts := [37]) (by decide)).blkf HB5.out (by decide) f6)
  have F6 := Lib.hid (F5.out.trans f6 (fun i hi => .inl (by have hi := E4S.out i hi; first | exact hi | exact .inl hi | exact .inr hi | exact .inr (.inl hi))))
  have HVR6 := Lib.hid ((Off.lists HSS5.out (ts := [49]) (by decide)).own HVR5.out (by decide) f6)
  have HOR6 := Lib.hid ((Off.lists HSS5.out (ts := [49]) (by decide)).own HOR5.out (by decide) f6)
  have HXR6 := Lib.hid (fun h hh => (HXR5.out h hh).fr f6 (fun k hk => SepRS.out k ⟨h, hh, hk⟩))
  have HGR6 := Lib.hid (fun h hh => (HGR5.out h hh).fr f6 (fun k hk hF => (HwR5.out h hh k hk).elim (fun h2 => SepRS.out k h2 hF) (fun h2 => by have := HLtSR.out k hF; omega)))
  have HwR6 := HwR5
  clear HwR5 HOR5 HXR5 HGR5
  have HVS6 := Lib.hid ((Off.lists HSS5.out (ts := [22]) (by decide)).own HVS5.out (by decide) f6)
  have HXS6 := Lib.hid y6
  have HGS6 := Lib.hid x6
  have HOS6 := Lib.hid r6
  have HqS := Lib.hid q6
  have HzS := Lib.hid z6
  have HtS := Lib.hid t6
  have HwS6 : Hid (∀ h ∈ gS, ∀ b, rowF h.v b → listsF mS b ∨ w5.heap.size ≤ b) := v6
  clear r6 q6 x6 y6 z6 t6 v6 HB5 HVR5 HVS5
  clear f6
  go_wp2_with fail
  refine (growTiers_none g cs w6 HB6.out HCTiers.out).mono ?_
  rintro r w' ⟨rfl, rfl⟩
  go_wp2_with fail
  refine (growErrnos_none g cs w6 HB6.out HCErrnos.out).mono ?_
  rintro r w' ⟨rfl, rfl⟩
  go_wp2_with fail
  refine (growWords_none g cs w6 HB6.out HCWords.out).mono ?_
  rintro r w' ⟨rfl, rfl⟩
  go_wp2_with fail
  refine (growSteps_none g cs w6 HB6.out HCSteps.out).mono ?_
  rintro r w' ⟨rfl, rfl⟩
  go_wp2_with fail
  refine (markedTexts_none _).mono ?_
  rintro r w' ⟨rfl, rfl⟩
  have e0 := HB6.out.cell 0
  rw [HCTexts.out] at e0
  go_wp2_with fail
  clear e0
  refine (markedTexts_none _).mono ?_
  rintro r w' ⟨rfl, rfl⟩
  go_wp2_with fail
  refine (markedInts_none _).mono ?_
  rintro r w' ⟨rfl, rfl⟩
  have e0 := HB6.out.cell 2
  rw [HCInts.out] at e0
  go_wp2_with fail
  clear e0
  refine (markedInts_none _).mono ?_
  rintro r w' ⟨rfl, rfl⟩
  go_wp2_with fail
  refine (markedR_any OR oR mR.length gR w6 (Rd.of_own HOR6.out) (by have := HNR.out; have := E1R.out; omega) HGR6.out (fun h hh => by have := HzR.out h hh; omega) HtR.out).mono ?_
  rintro r w7 ⟨rfl, b7⟩
  have HB7 := Lib.hid (HB6.out.below b7)
  have F7 := Lib.hid (F6.out.trans (Fr.b0 b7) (fun _ h => h.elim))
  have HVR7 := Lib.hid (own_fr0 HVR6.out (Fr.b0 b7))
  have HOR7 := Lib.hid (own_fr0 HOR6.out (Fr.b0 b7))
  have HXR7 := Lib.hid (fun h hh => (HXR6.out h hh).fr0 (Fr.b0 b7))
  have HGR7 := Lib.hid (fun h hh => (HGR6.out h hh).fr0 (Fr.b0 b7))
  have HVS7 := Lib.hid (own_fr0 HVS6.out (Fr.b0 b7))
  have HOS7 := Lib.hid (own_fr0 HOS6.out (Fr.b0 b7))
  have HXS7 := Lib.hid (fun h hh => (HXS6.out h hh).fr0 (Fr.b0 b7))
  have HGS7 := Lib.hid (fun h hh => (HGS6.out h hh).fr0 (Fr.b0 b7))
  clear b7 HB6 F6 HVR6 HOR6 HXR6 HGR6 HVS6 HOS6 HXS6 HGS6
  have e0 := HB7.out.cell 4
  rw [HCR.out] at e0
  go_wp2_with fail
  clear e0
  refine (markedR_any RR rR hR.length mR w7 (Rd.of_own HVR7.out) (by have := HNR.out; have := E1R.out; omega) HXR7.out (fun h hh => by have := E2R.out h hh; omega) E3R.out).mono ?_
  rintro r w8 ⟨rfl, b8⟩
  have HB8 := Lib.hid (HB7.out.below b8)
  have F8 := Lib.hid (F7.out.trans (Fr.b0 b8) (fun _ h => h.elim))
  have HVR8 := Lib.hid (own_fr0 HVR7.out (Fr.b0 b8))
  have HOR8 := Lib.hid (own_fr0 HOR7.out (Fr.b0 b8))
  have HXR8 := Lib.hid (fun h hh => (HXR7.out h hh).fr0 (Fr.b0 b8))
  have HGR8 := Lib.hid (fun h hh => (HGR7.out h hh).fr0 (Fr.b0 b8))
  have HVS8 := Lib.hid (own_fr0 HVS7.out (Fr.b0 b8))
  have HOS8 := Lib.hid (own_fr0 HOS7.out (Fr.b0 b8))
  have HXS8 := Lib.hid (fun h hh => (HXS7.out h hh).fr0 (Fr.b0 b8))
  have HGS8 := Lib.hid (fun h hh => (HGS7.out h hh).fr0 (Fr.b0 b8))
  clear b8 HB7 F7 HVR7 HOR7 HXR7 HGR7 HVS7 HOS7 HXS7 HGS7
  go_wp2_with fail
  refine (markedS_any OS oS mS.length gS w8 (Rd.of_own HOS8.out) (by have := HNS.out; have := E1S.out; omega) HGS8.out (fun h hh => by have := HzS.out h hh; omega) HtS.out).mono ?_
  rintro r w9 ⟨rfl, b9⟩
  have HB9 := Lib.hid (HB8.out.below b9)
  have F9 := Lib.hid (F8.out.trans (Fr.b0 b9) (fun _ h => h.elim))
  have HVR9 := Lib.hid (own_fr0 HVR8.out (Fr.b0 b9))
  have HOR9 := Lib.hid (own_fr0 HOR8.out (Fr.b0 b9))
  have HXR9 := Lib.hid (fun h hh => (HXR8.out h hh).fr0 (Fr.b0 b9))
  have HGR9 := Lib.hid (fun h hh => (HGR8.out h hh).fr0 (Fr.b0 b9))
  have HVS9 := Lib.hid (own_fr0 HVS8.out (Fr.b0 b9))
  have HOS9 := Lib.hid (own_fr0 HOS8.out (Fr.b0 b9))
  have HXS9 := Lib.hid (fun h hh => (HXS8.out h hh).fr0 (Fr.b0 b9))
  have HGS9 := Lib.hid (fun h hh => (HGS8.out h hh).fr0 (Fr.b0 b9))
  clear b9 HB8 F8 HVR8 HOR8 HXR8 HGR8 HVS8 HOS8 HXS8 HGS8
  have e0 := HB9.out.cell 6
  rw [HCS.out] at e0
  go_wp2_with fail
  clear e0
  refine (markedS_any RS rS hS.length mS w9 (Rd.of_own HVS9.out) (by have := HNS.out; have := E1S.out; omega) HXS9.out (fun h hh => by have := E2S.out h hh; omega) E3S.out).mono ?_
  rintro r w10 ⟨rfl, b10⟩
  have HB10 := Lib.hid (HB9.out.below b10)
  have F10 := Lib.hid (F9.out.trans (Fr.b0 b10) (fun _ h => h.elim))
  have HVR10 := Lib.hid (own_fr0 HVR9.out (Fr.b0 b10))
  have HOR10 := Lib.hid (own_fr0 HOR9.out (Fr.b0 b10))
  have HXR10 := Lib.hid (fun h hh => (HXR9.out h hh).fr0 (Fr.b0 b10))
  have HGR10 := Lib.hid (fun h hh => (HGR9.out h hh).fr0 (Fr.b0 b10))
  have HVS10 := Lib.hid (own_fr0 HVS9.out (Fr.b0 b10))
  have HOS10 := Lib.hid (own_fr0 HOS9.out (Fr.b0 b10))
  have HXS10 := Lib.hid (fun h hh => (HXS9.out h hh).fr0 (Fr.b0 b10))
  have HGS10 := Lib.hid (fun h hh => (HGS9.out h hh).fr0 (Fr.b0 b10))
  clear b10 HB9 F9 HVR9 HOR9 HXR9 HGR9 HVS9 HOS9 HXS9 HGS9
  go_wp2_with fail
  refine (markedTiers_none _).mono ?_
  rintro r w' ⟨rfl, rfl⟩
  have e0 := HB10.out.cell 8
  rw [HCTiers.out] at e0
  go_wp2_with fail
  clear e0
  refine (markedTiers_none _).mono ?_
  rintro r w' ⟨rfl, rfl⟩
  go_wp2_with fail
  refine (markedErrnos_none _).mono ?_
  rintro r w' ⟨rfl, rfl⟩
  have e0 := HB10.out.cell 10
  rw [HCErrnos.out] at e0
  go_wp2_with fail
  clear e0
  refine (markedErrnos_none _).mono ?_
  rintro r w' ⟨rfl, rfl⟩
  go_wp2_with fail
  refine (markedWords_none _).mono ?_
  rintro r w' ⟨rfl, rfl⟩
  have e0 := HB10.out.cell 12
  rw [HCWords.out] at e0
  go_wp2_with fail
  clear e0
  refine (markedWords_none _).mono ?_
  rintro r w' ⟨rfl, rfl⟩
  go_wp2_with fail
  refine (markedSteps_none _).mono ?_
  rintro r w' ⟨rfl, rfl⟩
  have e0 := HB10.out.cell 14
  rw [HCSteps.out] at e0
  go_wp2_with fail
  clear e0
  refine (markedSteps_none _).mono ?_
  rintro r w' ⟨rfl, rfl⟩
  go_wp2_with fail
  go_ret
  exact ⟨rfl, F10.out⟩
end Go.Proofs.YtkickdmiilmkoaaGreatDoor
