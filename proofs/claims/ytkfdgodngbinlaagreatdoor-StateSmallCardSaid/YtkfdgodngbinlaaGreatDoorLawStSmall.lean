/- StateSmall's walk. -/
import Derived.Test.YtkfdgodngbinlaaGreatDoorStSm
import Derived.Test.YtkfdgodngbinlaaGreatDoorStSh
import Derived.Test.YtkfdgodngbinlaaGreatDoorAlive15
import Derived.Test.YtkfdgodngbinlaaGreatDoorTk
namespace Go.Proofs.YtkfdgodngbinlaaGreatDoor
set_option linter.all false
open Go.RowKit

theorem reach_takes {nm : ByteArray} {l : List TierV} {fl : List Int} {W : World} {t : Nat} {now : Int} {tA tB : Option Addr} {tc td : Nat} (p : PolOk nm l) (h : ReachIn W t now nm l fl tA tc tB td) (hn : 0 ≤ now ∧ now ≤ 1099511627776) (s : SampV) (hs : s.name.size ≤ maxLen) :
  Calls Tryz.prog 16 #[.agg #[.int .i64 now, .string nm, .slice tA l.length tc, .slice tB fl.length td], .agg #[.string s.name, .int .i64 s.time, .int .i64 s.value]] W fun r w' => r = .returned (.int .i64 (takesV now l fl s)) ∧ Below W.heap.size W w' :=
 takes_any now (by unfold i64; omega) nm l tA l.length tc fl tB fl.length td s hs W h.rt h.rf p.wf (by have := p.five; omega)
set_option maxRecDepth 100000 in
set_option maxHeartbeats 8000000 in
theorem stsmall_walk (l : List SampV) (A : Option Addr) (n c : Nat) (x : Int) (name : ByteArray) (w : World) (hr : Rd w 3 A n (scells l)) (hwf : ∀ y ∈ l, y.wf) (hn : n ≤ 9223372036854775807) (hx : i64 x) (hnm : name.size ≤ maxLen) (hmx : MaxL w) :
  Calls Tryz.prog 3 #[.slice A n c, .int .i64 x, .string name] w fun e w' => e = .returned (.bool true) ∧ Below w.heap.size w w' := by
 have HAl : Hid (∀ W, Fr (fun _ => False) w W → Calls Tryz.prog 11 #[] W fun r w' => r = .returned (.bool true) ∧ Below W.heap.size W w') := fun W f => alive15_any W (hmx.fr f (fun h => h))
 have HSo := Lib.hid (some_any 8 (by omega) l (fun y hy => (hwf y hy).2.2) A n c w hr hn)
 have Hr := Lib.hid hr
 have Hln := Lib.hid hr.samps_len
 have Hwf := Lib.hid hwf
 have HMX := Lib.hid hmx
 have F0 := Lib.hid (Fr.refl (fun _ => False) w)
 have hnm2 : name.size ≤ 9223372036854775807 := by unfold maxLen at hnm; omega
 clear hr hwf hmx
 by_cases h0 : x < 0
 ·have hd0 : decide (x < 0) = true := decide_eq_true h0
  go_enter Tryz.func3, Tryz.ntmps3
  go_wp2_with fail
  refine HSo.out.mono ?_
  rintro r w1 ⟨⟨b, rfl, hb⟩, rfl⟩
  clear hb
  cases b
  all_goals
   go_wp2_with fail
   refine (HAl.out _ F0.out).mono ?_
   rintro r wz ⟨rfl, bz⟩
   go_wp2_with fail
   go_ret
   exact ⟨rfl, bz⟩
 have hd0 : decide (x < 0) = false := decide_eq_false h0
 by_cases h1 : 1000 < x
 ·have hd1 : decide (1000 < x) = true := decide_eq_true h1
  go_enter Tryz.func3, Tryz.ntmps3
  go_wp2_with fail
  refine HSo.out.mono ?_
  rintro r w1 ⟨⟨b, rfl, hb⟩, rfl⟩
  clear hb
  cases b
  all_goals
   go_wp2_with fail
   refine (HAl.out _ F0.out).mono ?_
   rintro r wz ⟨rfl, bz⟩
   go_wp2_with fail
   go_ret
   exact ⟨rfl, bz⟩
 have hd1 : decide (1000 < x) = false := decide_eq_false h1
 by_cases h6 : 60 < name.size
 ·have hd6 : decide ((60 : Int) < (name.size : Int)) = true := decide_eq_true (by omega)
  have hd7 : (60 : Int) < (name.size : Int) := by omega
  go_enter Tryz.func3, Tryz.ntmps3
  go_wp2_with fail
  refine HSo.out.mono ?_
  rintro r w1 ⟨⟨b, rfl, hb⟩, rfl⟩
  clear hb
  cases b
  all_goals
   go_wp2_with fail
   refine (HAl.out _ F0.out).mono ?_
   rintro r wz ⟨rfl, bz⟩
   go_wp2_with fail
   go_ret
   exact ⟨rfl, bz⟩
 have hd6 : decide ((60 : Int) < (name.size : Int)) = false := decide_eq_false (by omega)
 have hd7 : ¬ (60 : Int) < (name.size : Int) := by omega
 have HNw0 := Lib.hid (sp_new 0 web8 (by decide) w HMX.out w.heap.size (Nat.le_refl _))
 have HE0 := Lib.hid (rm_new (room := 0) ⟨by omega, by omega⟩)
 have HR := Lib.hid web8_sm
 have HChw : Hid (∀ W g Q d, StGood Q d → d ≤ 1000000 → StP W g w.heap.size Q d → MaxL W → Calls Tryz.prog 17 #[.pointer (some ⟨g, 0, none⟩), .string { data := #[112, 111, 108, 105, 99, 121, 32, 119, 101, 98, 10, 116, 105, 101, 114, 32, 114, 97, 119, 32, 101, 118, 101, 114, 121, 32, 49, 32, 107, 101, 101, 112, 32, 49, 48, 48, 32, 115, 104, 97, 114, 100, 115, 32, 50, 10, 116, 105, 101, 114, 32, 116, 101, 110, 115, 32, 101, 118, 101, 114, 121, 32, 49, 48, 32, 107, 101, 101, 112, 32, 49, 48, 48, 48, 32, 115, 104, 97, 114, 100, 115, 32, 49, 10] }] W fun r w' => ChangeR (stChangeE Q (readV web8)) Q.ch.isSome r ∧ StP w' g w.heap.size (stChange Q (readV web8)) d ∧ Below w.heap.size W w') := fun W g Q d hg hd h hm => sp_change hg hd h web8 (by decide) hm
 obtain ⟨R, hRw⟩ : ∃ v, readV web8 = v := ⟨_, rfl⟩
 rw [hRw] at HNw0 HE0 HR HChw
 clear hRw
 have HNw : Hid (Calls Tryz.prog 12 #[.int .i64 0, .string { data := #[112, 111, 108, 105, 99, 121, 32, 119, 101, 98, 10, 116, 105, 101, 114, 32, 114, 97, 119, 32, 101, 118, 101, 114, 121, 32, 49, 32, 107, 101, 101, 112, 32, 49, 48, 48, 32, 115, 104, 97, 114, 100, 115, 32, 50, 10, 116, 105, 101, 114, 32, 116, 101, 110, 115, 32, 101, 118, 101, 114, 121, 32, 49, 48, 32, 107, 101, 101, 112, 32, 49, 48, 48, 48, 32, 115, 104, 97, 114, 100, 115, 32, 49, 10] }] w fun r w' => (∃ g, r = .returned (.tuple #[.pointer (some ⟨g, 0, none⟩), .int .i64 0]) ∧ StP w' g w.heap.size (stNewQ 0 R) 0) ∧ Below w.heap.size w w') := by
  refine HNw0.out.mono ?_
  rintro r w' ⟨⟨h1, _⟩, hb⟩
  exact ⟨h1 HE0.out, hb⟩
 have HTk : Hid (∀ W g, StP W g w.heap.size (stNewQ 0 R) 0 → Calls Tryz.prog 13 #[.pointer (some ⟨g, 0, none⟩), .int .i64 x] W fun r w' => r = .returned (.int .i64 0) ∧ StP w' g w.heap.size (smQ R x) 0 ∧ Below w.heap.size W w') := fun W g h => by
  have := sp_tick HR.out.good (by decide) h x hx
  rw [sm_tickE ⟨by omega, by omega⟩] at this
  exact this
 have HTi : Hid (∀ W g, StP W g w.heap.size (smQ R x) 0 → Calls Tryz.prog 14 #[.pointer (some ⟨g, 0, none⟩)] W fun r w' => (∃ t, r = .returned (.pointer (some ⟨t, 0, none⟩)) ∧ StTi w' g w.heap.size (smQ R x) 0 t (smQ R x).X 0) ∧ Below W.heap.size W w') := fun W g h => sp_tiers2 (sm_good HR.out x) h
 have HPt : Hid (∀ W g t, l.length ≤ 8 → StTi W g w.heap.size (smQ R x) 0 t (smQ R x).X 0 → Below w.heap.size w W → Calls Tryz.prog 15 #[.pointer (some ⟨g, 0, none⟩), .slice A n c] W fun r w' => r = .returned (.int .i64 (smW R x l)) ∧ StTi w' g w.heap.size (smQ R x) 8 t (smQ R x).X 0 ∧ Below w.heap.size W w') := fun W g t h8 h hb => by
  have := h.put (sm_good HR.out x) (by decide) l A n c (Hr.out.below hb) Hwf.out (Hr.out.adlt (by decide))
  rw [(sm_put HR.out x h8).1, (sm_put HR.out x h8).2] at this
  exact this
 have HCh : Hid (∀ W g, StP W g w.heap.size (smQ R x) 8 → Below w.heap.size w W → Calls Tryz.prog 17 #[.pointer (some ⟨g, 0, none⟩), .string { data := #[112, 111, 108, 105, 99, 121, 32, 119, 101, 98, 10, 116, 105, 101, 114, 32, 114, 97, 119, 32, 101, 118, 101, 114, 121, 32, 49, 32, 107, 101, 101, 112, 32, 49, 48, 48, 32, 115, 104, 97, 114, 100, 115, 32, 50, 10, 116, 105, 101, 114, 32, 116, 101, 110, 115, 32, 101, 118, 101, 114, 121, 32, 49, 48, 32, 107, 101, 101, 112, 32, 49, 48, 48, 48, 32, 115, 104, 97, 114, 100, 115, 32, 49, 10] }] W fun r w' => (∃ k, r = .returned (.tuple #[.int .i64 20, .int .i64 k])) ∧ StP w' g w.heap.size (smQ R x) 8 ∧ Below w.heap.size W w') := fun W g h hb => by
  refine (HChw.out W g (smQ R x) 8 ((sm_good HR.out x).more (by decide)) (by decide) h (HMX.out.below hb)).mono ?_
  rintro r w' ⟨⟨k, hr, _⟩, h1, h2⟩
  rw [(sm_change HR.out x).1] at hr
  rw [(sm_change HR.out x).2] at h1
  exact ⟨⟨k, hr⟩, h1, h2⟩
 have HTm : Hid (∀ W g t s, s.wf → StTi W g w.heap.size (smQ R x) 8 t (smQ R x).X 0 → ∃ tA n tc tB m td, (W.cell? ⟨t, 0, none⟩ = some (.int .i64 (smQ R x).X.now) ∧ W.cell? ⟨t, 1, none⟩ = some (.string (smQ R x).X.name) ∧ W.cell? ⟨t, 2, none⟩ = some (.slice tA n tc) ∧ W.cell? ⟨t, 3, none⟩ = some (.slice tB m td)) ∧ ∀ W', Fr (fun _ => False) W W' → Calls Tryz.prog 16 #[.agg #[.int .i64 (smQ R x).X.now, .string (smQ R x).X.name, .slice tA n tc, .slice tB m td], .agg #[.string s.name, .int .i64 s.time, .int .i64 s.value]] W' fun r w' => r = .returned (.int .i64 (takesV (smQ R x).X.now (smQ R x).X.tiers (smQ R x).X.floors s)) ∧ Below W'.heap.size W' w') := fun W g t s hs h => by
  obtain ⟨tA, tc, tB, td, hR⟩ := h.reach
  exact ⟨tA, _, tc, tB, _, td, ⟨hR.c0, hR.c1, hR.c2, hR.c3⟩, fun W' f => reach_takes (sm_good HR.out x).pol (hR.fr0 f) (sm_good HR.out x).good.now s hs.2.2⟩
 have HEm : Hid (∀ W g, StP W g w.heap.size (smQ R x) 8 → Calls Tryz.prog 14 #[.pointer (some ⟨g, 0, none⟩)] W fun r w' => (∃ t, r = .returned (.pointer (some ⟨t, 0, none⟩)) ∧ StTi w' g w.heap.size (smQ R x) 8 t (smQ R x).X 8) ∧ Below W.heap.size W w') := fun W g h => sp_tiers2 ((sm_good HR.out x).more (by decide)) h
 have HEt : Hid (∀ W g t, StTi W g w.heap.size (smQ R x) 8 t (smQ R x).X 8 → Calls Tryz.prog 18 #[.pointer (some ⟨t, 0, none⟩)] W fun r w' => r = .returned (.bool true) ∧ W = w') := fun W g t h => by
  obtain ⟨F, ht⟩ := h.ti
  obtain ⟨base, _, ho⟩ := ht.on
  have := tempty_any t base (smQ R x).X W ho.at_ (ht.five (sm_good HR.out x).pol) (fun m hm => by rw [sm_tabs x m hm]; exact Nat.zero_le _)
  rw [sm_len] at this
  exact this
 have HNd : Hid (∀ W g, StP W g w.heap.size (smQ R x) 8 → Calls Tryz.prog 19 #[.pointer (some ⟨g, 0, none⟩)] W fun r w' => r = .returned (.int .i64 0) ∧ Below W.heap.size W w') := fun W g h => by
  have := sp_need ((sm_good HR.out x).more (show 0 ≤ 8 by decide)) (by decide) h
  rw [sm_ch, sm_need HR.out] at this
  exact this
 have HRo : Hid (∀ W g, StP W g w.heap.size (smQ R x) 8 → Calls Tryz.prog 20 #[.pointer (some ⟨g, 0, none⟩)] W fun r w' => r = .returned (.int .i64 0) ∧ W = w') := fun W g h => by
  have := sp_room h
  rw [sm_room] at this
  exact this
 have HPe : Hid (∀ W g, StP W g w.heap.size (smQ R x) 8 → Calls Tryz.prog 21 #[.pointer (some ⟨g, 0, none⟩)] W fun r w' => r = .returned (.bool false) ∧ W = w') := fun W g h => by
  have := sp_pend h
  rw [sm_ch] at this
  exact this
 have HF : Hid (∀ k z, k < n → l[k]? = some z → (∀ j, j < k → ∀ y, l[j]? = some y → takesV (smQ R x).X.now (smQ R x).X.tiers (smQ R x).X.floors y = 0) → takesV (smQ R x).X.now (smQ R x).X.tiers (smQ R x).X.floors z ≠ 0 → smW R x l = takesV (smQ R x).X.now (smQ R x).X.tiers (smQ R x).X.floors z) := fun k z hk hz hb hne => by
  have hf := firstE_at (X := (smQ R x).X) hz hne hb
  have h0 : ¬ l.length = 0 := by have := Hln.out; omega
  unfold smW
  rw [if_neg h0, hf, if_neg hne]
 have HF0 : Hid ((∀ j, j < n → ∀ y, l[j]? = some y → takesV (smQ R x).X.now (smQ R x).X.tiers (smQ R x).X.floors y = 0) → smW R x l = if n = 0 then 1 else 20) := fun hb => by
  have hf : firstE (smQ R x).X l = 0 := firstE_zero (fun s hs => by
   obtain ⟨j, hj⟩ := List.getElem?_of_mem hs
   have := (List.getElem?_eq_some_iff.1 hj).1
   exact hb j (by have := Hln.out; omega) s hj)
  unfold smW
  rw [hf, Hln.out]
  simp
 obtain ⟨M, hM⟩ : ∃ v, smW R x l = v := ⟨_, rfl⟩
 rw [hM] at HPt HF HF0
 obtain ⟨x0, hx0⟩ : ∃ v, (smQ R x).X.now = v := ⟨_, rfl⟩
 obtain ⟨xn, hxn⟩ : ∃ v, (smQ R x).X.name = v := ⟨_, rfl⟩
 obtain ⟨xt, hxt⟩ : ∃ v, (smQ R x).X.tiers = v := ⟨_, rfl⟩
 obtain ⟨xf, hxf⟩ : ∃ v, (smQ R x).X.floors = v := ⟨_, rfl⟩
 rw [hx0, hxt, hxf] at HF HF0
 rw [hx0, hxn, hxt, hxf] at HTm
 clear hM hx0 hxn hxt hxf
 go_enter Tryz.func3, Tryz.ntmps3
 go_wp2_with fail
 refine HSo.out.mono ?_
 rintro r w1 ⟨⟨b, rfl, hb⟩, rfl⟩
 have Hlb := Lib.hid hb
 clear hb HSo
 cases b with
 | false =>
  go_wp2_with fail
  refine (HAl.out _ F0.out).mono ?_
  rintro r wz ⟨rfl, bz⟩
  go_wp2_with fail
  go_ret
  exact ⟨rfl, bz⟩
 | true =>
 have h8 : l.length ≤ 8 := by have := Hlb.out rfl; have := Hln.out; omega
 have hn8 : n ≤ 8 := Hlb.out rfl
 clear Hlb
 go_wp2_with fail
 refine HNw.out.mono ?_
 rintro r w1 ⟨⟨g, rfl, h1⟩, b1⟩
 have HT1 := Lib.hid (HTk.out w1 g h1)
 have B1 := Lib.hid b1
 clear h1 b1 HNw HTk
 go_wp2_with fail
 refine HT1.out.mono ?_
 rintro r w2 ⟨rfl, h2, b2⟩
 have B2 := Lib.hid (B1.out.trans b2)
 have HT2 := Lib.hid (HTi.out w2 g h2)
 have hl2 : w.heap.size ≤ w2.heap.size := by have := h2.lt; omega
 clear h2 b2 HT1 B1 HTi
 go_wp2_with fail
 refine HT2.out.mono ?_
 rintro r w3 ⟨⟨t, rfl, h3⟩, b3⟩
 have B3 := Lib.hid (B2.out.trans (b3.mono hl2))
 have HP3 := Lib.hid (HPt.out w3 g t h8 h3 B3.out)
 clear h3 b3 HT2 B2 HPt
 go_wp2_with fail
 refine HP3.out.mono ?_
 rintro r w4 ⟨rfl, h4, b4⟩
 have B4 := Lib.hid (B3.out.trans b4)
 have H4 := Lib.hid h4
 have hl4 := h4.lo_le
 clear h4 b4 HP3 B3
 have H5 := H4
 have B5 := B4
 by_cases hn0 : n = 0
 ·subst hn0
  have hMV := HF0.out (fun j hj => absurd hj (Nat.not_lt_zero _))
  rw [if_pos rfl] at hMV
  subst hMV
  obtain ⟨W5, hW5⟩ : ∃ v, w4 = v := ⟨_, rfl⟩
  subst hW5
  go_wp2_with fail
  go_loopw [11, 12] (fun s11 s12 wr => s11 = .int .i64 1 ∧ s12 = .int .i64 0 ∧ wr = w4) (fun _ _ _ => 0)
  case atStart => exact ⟨rfl, rfl, rfl⟩
  case round =>
   obtain ⟨rfl, rfl, rfl⟩ := hrel
   have HC5 := Lib.hid (HCh.out wr g H5.out.p B5.out)
   clear H5
   go_wp2_with fail
   refine HC5.out.mono ?_
   rintro r w6 ⟨⟨kk, rfl⟩, h6, b6⟩
   have H6 := Lib.hid h6
   have B6 := Lib.hid (B5.out.trans b6)
   have hl6 : w.heap.size ≤ w6.heap.size := by have := h6.lt; omega
   clear h6 b6 HC5
   go_wp2_with fail
   refine (HAl.out w6 (Fr.b0 B6.out)).mono ?_
   rintro r w7 ⟨rfl, b7⟩
   have H7 := Lib.hid (H6.out.fr0 (Fr.b0 b7))
   have B7 := Lib.hid (B6.out.trans (b7.mono hl6))
   have HE7 := Lib.hid (HEm.out w7 g H7.out)
   have hl7 : w.heap.size ≤ w7.heap.size := by have := H7.out.lt; omega
   clear b7 H6 B6
   go_wp2_with fail
   refine HE7.out.mono ?_
   rintro r w8 ⟨⟨t8, rfl, h8⟩, b8⟩
   have H8 := Lib.hid h8
   have B8 := Lib.hid (B7.out.trans (b8.mono hl7))
   have HE8 := Lib.hid (HEt.out w8 g t8 h8)
   have HN8 := Lib.hid (HNd.out w8 g h8.p)
   have hl8 := h8.lo_le
   clear h8 b8 HE7 H7 B7
   go_wp2_with fail
   refine HE8.out.mono ?_
   rintro r w9 ⟨rfl, rfl⟩
   go_wp2_with fail
   refine HN8.out.mono ?_
   rintro r w10 ⟨rfl, b10⟩
   have H10 := Lib.hid (H8.out.fr0 (Fr.b0 b10))
   have B10 := Lib.hid (B8.out.trans (b10.mono hl8))
   have HR10 := Lib.hid (HRo.out w10 g H10.out.p)
   have HP10 := Lib.hid (HPe.out w10 g H10.out.p)
   clear b10 HE8 HN8 H8 B8
   go_wp2_with fail
   refine HR10.out.mono ?_
   rintro r w11 ⟨rfl, rfl⟩
   go_wp2_with fail
   refine HP10.out.mono ?_
   rintro r w12 ⟨rfl, rfl⟩
   go_wp2_with fail
   go_ret
   exact ⟨by first | rfl | simp, B10.out⟩
 ·have hm0 : ((n : Int) == 0) = false := by
   rw [beq_eq_false_iff_ne]
   omega
  have hm1 : ¬ (n : Int) = 0 := by omega
  rw [if_neg hn0] at HF0
  go_wp2_with fail
  go_loopw [11, 12] (fun s11 s12 wr => ∃ k : Nat, k ≤ n ∧ s11 = .int .i64 20 ∧ s12 = .int .i64 k ∧ Hid (∀ j, j < k → ∀ y, l[j]? = some y → takesV x0 xt xf y = 0) ∧ Fr (fun _ => False) w4 wr) (fun _ i _ => n - (intOf i).toNat)
  case atStart => exact ⟨0, Nat.zero_le _, rfl, rfl, (fun j hj => absurd hj (Nat.not_lt_zero _)), Fr.refl _ _⟩
  case round =>
   obtain ⟨k, hk, rfl, rfl, hall, hf⟩ := hrel
   have Hf := Lib.hid hf
   have hB := B4.out.trans (hf.below_of hl4 (fun _ h => h.elim))
   clear hf
   by_cases hlt : k < n
   ·obtain ⟨ad, z, rfl, hz, y0, y1, y2⟩ := (Hr.out.below hB).samp_ hlt
    obtain ⟨tA, tn, tc, tB, tm, td, ⟨z0, z1, z2, z3⟩, hT⟩ := HTm.out w4 g t z (Hwf.out z (mem_of_get hz)) H4.out
    have HC : Hid (∀ W, Fr (fun _ => False) wr W → (W.cell? ⟨t, 0, none⟩ = some (.int .i64 x0) ∧ W.cell? ⟨t, 1, none⟩ = some (.string xn) ∧ W.cell? ⟨t, 2, none⟩ = some (.slice tA tn tc) ∧ W.cell? ⟨t, 3, none⟩ = some (.slice tB tm td)) ∧ W.cell? (ad.add (k * 3)) = some (.string z.name) ∧ W.cell? ⟨(ad.add (k * 3)).block, (ad.add (k * 3)).off + 1, none⟩ = some (.int .i64 z.time) ∧ W.cell? ⟨(ad.add (k * 3)).block, (ad.add (k * 3)).off + 2, none⟩ = some (.int .i64 z.value)) := fun W f => ⟨⟨f.cell (Hf.out.cell z0 (fun h => h)) (fun h => h), f.cell (Hf.out.cell z1 (fun h => h)) (fun h => h), f.cell (Hf.out.cell z2 (fun h => h)) (fun h => h), f.cell (Hf.out.cell z3 (fun h => h)) (fun h => h)⟩, f.cell y0 (fun h => h), f.cell y1 (fun h => h), f.cell y2 (fun h => h)⟩
    have HTz : Hid (∀ W, Fr (fun _ => False) wr W → Calls Tryz.prog 16 #[.agg #[.int .i64 x0, .string xn, .slice tA tn tc, .slice tB tm td], .agg #[.string z.name, .int .i64 z.time, .int .i64 z.value]] W fun r w' => r = .returned (.int .i64 (takesV x0 xt xf z)) ∧ Below W.heap.size W w') := fun W f => hT W (Hf.out.trans f (fun _ h => h.elim))
    have HFz := Lib.hid (HF.out k z hlt hz hall.out)
    have HFn : Hid (takesV x0 xt xf z = 0 → ∀ j, j < k + 1 → ∀ y, l[j]? = some y → takesV x0 xt xf y = 0) := fun e j hj y hy => by
     by_cases ej : j = k
     ·subst ej
      rw [hz] at hy
      cases hy
      exact e
     ·exact hall.out j (by omega) y hy
    have HB := Lib.hid hB
    have hkw : IntKind.i64.wrap ((k : Int) + 1) = (k : Int) + 1 := by simp [IntKind.wrap, IntKind.signed, IntKind.bits]; omega
    obtain ⟨E, hE⟩ : ∃ v, takesV x0 xt xf z = v := ⟨_, rfl⟩
    rw [hE] at HTz HFz HFn
    clear hE hz hT hB z0 z1 z2 z3 y0 y1 y2
    by_cases he : E = 0
    ·subst he
     go_wp2_with fail
     refine wp_region_held_drew (S := fun W => Fr (fun _ => False) wr W) (by kernel_rfl) (((Fr.refl _ wr).drew)) (fun hHeld => ?_)
     refine tq 8 [0,1,2,3,4,5,6,7] ?_
     iterate 7 refine sf HC.out ?_
     refine sf HC.out ?_
     try simp only [Act.put, sA, sB, sC]
     refine sz ?_
     try simp only [Act.put, sA, sB, sC]
     refine rl 8 rfl (fun K hK => ?_)
     go_simp
     go_wp2_with (first | (go_at_call 16; refine (HTz.out _ hHeld).mono ?_; rintro r w5 ⟨rfl, b5⟩))
     refine hK.out _ _ (hHeld.trans (Fr.b0 b5) (fun _ h => h.elim)) (fun hHeld => ?_)
     clear hK K
     refine tl 9 ?v9 rfl ?q9 ?r9
     case q9 => intro W hSw; (try obtain ⟨⟨z0, z1, z2, z3⟩, y0, y1, y2⟩ := HC.out W hSw); go_simp; try rfl
     try simp only [Act.put, sA, sB, sC]
     refine wpAnyH_done (by kernel_rfl) ?_ _
     have F9 := Lib.hid hHeld
     clear hHeld b5
     go_wp2_with fail
     go_roundw
     case rel => exact ⟨k + 1, by omega, rfl, by go_num, HFn.out (by trivial), Hf.out.trans F9.out (fun _ h => h.elim)⟩
     case measure => simp [intOf]; omega
    ·have he1 : (E != 0) = true := by simpa using he
     have he2 : decide (E = 0) = false := decide_eq_false he
     go_wp2_with fail
     refine wp_region_held_drew (S := fun W => Fr (fun _ => False) wr W) (by kernel_rfl) (((Fr.refl _ wr).drew)) (fun hHeld => ?_)
     refine tq 8 [0,1,2,3,4,5,6,7] ?_
     iterate 7 refine sf HC.out ?_
     refine sf HC.out ?_
     try simp only [Act.put, sA, sB, sC]
     refine sz ?_
     try simp only [Act.put, sA, sB, sC]
     refine rl 8 rfl (fun K hK => ?_)
     go_simp
     go_wp2_with (first | (go_at_call 16; refine (HTz.out _ hHeld).mono ?_; rintro r w5 ⟨rfl, b5⟩))
     refine hK.out _ _ (hHeld.trans (Fr.b0 b5) (fun _ h => h.elim)) (fun hHeld => ?_)
     clear hK K
     refine tl 9 ?v18 rfl ?q18 ?r18
     case q18 => intro W hSw; (try obtain ⟨⟨z0, z1, z2, z3⟩, y0, y1, y2⟩ := HC.out W hSw); go_simp; try rfl
     try simp only [Act.put, sA, sB, sC]
     refine wpAnyH_done (by kernel_rfl) ?_ _
     have F9 := Lib.hid hHeld
     clear hHeld b5
     go_wp2_with fail
     refine wp_region_held_drew (S := fun W => Fr (fun _ => False) wr W) (by kernel_rfl) ((F9.out.drew)) (fun hHeld => ?_)
     refine tq 8 [0,1,2,3,4,5,6,7] ?_
     iterate 7 refine sf HC.out ?_
     refine sf HC.out ?_
     try simp only [Act.put, sA, sB, sC]
     refine sz ?_
     try simp only [Act.put, sA, sB, sC]
     refine rl 8 rfl (fun K hK => ?_)
     go_simp
     go_wp2_with (first | (go_at_call 16; refine (HTz.out _ hHeld).mono ?_; rintro r w5 ⟨rfl, b5⟩))
     refine hK.out _ _ (hHeld.trans (Fr.b0 b5) (fun _ h => h.elim)) (fun hHeld => ?_)
     clear hK K
     refine tl 9 ?v27 rfl ?q27 ?r27
     case q27 => intro W hSw; (try obtain ⟨⟨z0, z1, z2, z3⟩, y0, y1, y2⟩ := HC.out W hSw); go_simp; try rfl
     try simp only [Act.put, sA, sB, sC]
     refine wpAnyH_done (by kernel_rfl) ?_ _
     have hMV := HFz.out he
     subst hMV
     have F10 := Lib.hid (Hf.out.trans hHeld (fun _ h => h.elim))
     have H5 := Lib.hid (H4.out.fr0 F10.out)
     have B5 := Lib.hid (B4.out.trans (F10.out.below_of hl4 (fun _ h => h.elim)))
     clear he1 he2 he hHeld b5 hall
     have HC5 := Lib.hid (HCh.out _ g H5.out.p B5.out)
     clear H5
     go_wp2_with fail
     refine HC5.out.mono ?_
     rintro r w6 ⟨⟨kk, rfl⟩, h6, b6⟩
     have H6 := Lib.hid h6
     have B6 := Lib.hid (B5.out.trans b6)
     have hl6 : w.heap.size ≤ w6.heap.size := by have := h6.lt; omega
     clear h6 b6 HC5
     go_wp2_with fail
     refine (HAl.out w6 (Fr.b0 B6.out)).mono ?_
     rintro r w7 ⟨rfl, b7⟩
     have H7 := Lib.hid (H6.out.fr0 (Fr.b0 b7))
     have B7 := Lib.hid (B6.out.trans (b7.mono hl6))
     have HE7 := Lib.hid (HEm.out w7 g H7.out)
     have hl7 : w.heap.size ≤ w7.heap.size := by have := H7.out.lt; omega
     clear b7 H6 B6
     go_wp2_with fail
     refine HE7.out.mono ?_
     rintro r w8 ⟨⟨t8, rfl, h8⟩, b8⟩
     have H8 := Lib.hid h8
     have B8 := Lib.hid (B7.out.trans (b8.mono hl7))
     have HE8 := Lib.hid (HEt.out w8 g t8 h8)
     have HN8 := Lib.hid (HNd.out w8 g h8.p)
     have hl8 := h8.lo_le
     clear h8 b8 HE7 H7 B7
     go_wp2_with fail
     refine HE8.out.mono ?_
     rintro r w9 ⟨rfl, rfl⟩
     go_wp2_with fail
     refine HN8.out.mono ?_
     rintro r w10 ⟨rfl, b10⟩
     have H10 := Lib.hid (H8.out.fr0 (Fr.b0 b10))
     have B10 := Lib.hid (B8.out.trans (b10.mono hl8))
     have HR10 := Lib.hid (HRo.out w10 g H10.out.p)
     have HP10 := Lib.hid (HPe.out w10 g H10.out.p)
     clear b10 HE8 HN8 H8 B8
     go_wp2_with fail
     refine HR10.out.mono ?_
     rintro r w11 ⟨rfl, rfl⟩
     go_wp2_with fail
     refine HP10.out.mono ?_
     rintro r w12 ⟨rfl, rfl⟩
     go_wp2_with fail
     go_ret
     exact ⟨by first | rfl | simp, B10.out⟩
   ·obtain rfl : k = n := by omega
    have hMV := HF0.out hall.out
    subst hMV
    have H5 := Lib.hid (H4.out.fr0 Hf.out)
    have B5 := Lib.hid hB
    clear hall hB
    have HC5 := Lib.hid (HCh.out wr g H5.out.p B5.out)
    clear H5
    go_wp2_with fail
    refine HC5.out.mono ?_
    rintro r w6 ⟨⟨kk, rfl⟩, h6, b6⟩
    have H6 := Lib.hid h6
    have B6 := Lib.hid (B5.out.trans b6)
    have hl6 : w.heap.size ≤ w6.heap.size := by have := h6.lt; omega
    clear h6 b6 HC5
    go_wp2_with fail
    refine (HAl.out w6 (Fr.b0 B6.out)).mono ?_
    rintro r w7 ⟨rfl, b7⟩
    have H7 := Lib.hid (H6.out.fr0 (Fr.b0 b7))
    have B7 := Lib.hid (B6.out.trans (b7.mono hl6))
    have HE7 := Lib.hid (HEm.out w7 g H7.out)
    have hl7 : w.heap.size ≤ w7.heap.size := by have := H7.out.lt; omega
    clear b7 H6 B6
    go_wp2_with fail
    refine HE7.out.mono ?_
    rintro r w8 ⟨⟨t8, rfl, h8⟩, b8⟩
    have H8 := Lib.hid h8
    have B8 := Lib.hid (B7.out.trans (b8.mono hl7))
    have HE8 := Lib.hid (HEt.out w8 g t8 h8)
    have HN8 := Lib.hid (HNd.out w8 g h8.p)
    have hl8 := h8.lo_le
    clear h8 b8 HE7 H7 B7
    go_wp2_with fail
    refine HE8.out.mono ?_
    rintro r w9 ⟨rfl, rfl⟩
    go_wp2_with fail
    refine HN8.out.mono ?_
    rintro r w10 ⟨rfl, b10⟩
    have H10 := Lib.hid (H8.out.fr0 (Fr.b0 b10))
    have B10 := Lib.hid (B8.out.trans (b10.mono hl8))
    have HR10 := Lib.hid (HRo.out w10 g H10.out.p)
    have HP10 := Lib.hid (HPe.out w10 g H10.out.p)
    clear b10 HE8 HN8 H8 B8
    go_wp2_with fail
    refine HR10.out.mono ?_
    rintro r w11 ⟨rfl, rfl⟩
    go_wp2_with fail
    refine HP10.out.mono ?_
    rintro r w12 ⟨rfl, rfl⟩
    go_wp2_with fail
    go_ret
    exact ⟨by first | rfl | simp, B10.out⟩

end Go.Proofs.YtkfdgodngbinlaaGreatDoor
