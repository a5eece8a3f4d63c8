/- StateNone's walk: of a nil and of a zero state. -/
import Derived.Test.YtaakghjbbkgbdaaGreatDoorStN
import Derived.Test.YtaakghjbbkgbdaaGreatDoorAlive15
namespace Go.Proofs.YtaakghjbbkgbdaaGreatDoor
set_option linter.all false
open Go.RowKit

set_option maxRecDepth 100000 in
set_option maxHeartbeats 8000000 in
theorem stnone_walk (s : SampV) (n : Int) (text : ByteArray) (w : World) (hs : s.name.size ≤ maxLen) (hmx : MaxL w) :
  Calls Tryz.prog 9 #[.agg #[.string s.name, .int .i64 s.time, .int .i64 s.value], .int .i64 n, .string text] w fun e w' => e = .returned (.bool true) ∧ Below w.heap.size w w' := by
 have HAl : Hid (∀ W, Fr (fun _ => False) w W → Calls Tryz.prog 30 #[] W fun r w' => r = .returned (.bool true) ∧ Below W.heap.size W w') := fun W f => alive15_any W (hmx.fr f (fun h => h))
 have F0 : Hid (Fr (fun _ => False) w (w.alloc (.cells #[.string s.name, .int .i64 s.time, .int .i64 s.value] 100))) := Fr.none_alloc _ _
 have hb0 := Blk.new w 100 #[.string s.name, .int .i64 s.time, .int .i64 s.value]
 have B0 := Lib.hid hb0
 have BAD : ∀ W, Fr (fun _ => False) w W → True := fun _ _ => trivial
 clear hmx BAD
 have c0 := hb0.cell 0
 simp only [List.getElem?_toArray, List.getElem?_cons_zero] at c0
 clear hb0
 by_cases h60 : 60 < s.name.size
 ·have hd : decide ((60 : Int) < (s.name.size : Int)) = true := decide_eq_true (by omega)
  have hd2 : (60 : Int) < (s.name.size : Int) := by omega
  go_enter Tryz.func9, Tryz.ntmps9
  go_wp2_with fail
  refine (HAl.out _ F0.out).mono ?_
  rintro r w1 ⟨rfl, b1⟩
  have F1 := Lib.hid (F0.out.trans (Fr.b0 b1) (fun _ h => h.elim))
  go_wp2_with fail
  go_ret
  exact ⟨rfl, F1.out.below (fun _ h => h.elim)⟩
 have hd : decide ((60 : Int) < (s.name.size : Int)) = false := decide_eq_false (by omega)
 have hd2 : ¬ (60 : Int) < (s.name.size : Int) := by omega
 by_cases h300 : 300 < text.size
 ·have he : decide ((300 : Int) < (text.size : Int)) = true := decide_eq_true (by omega)
  have he2 : (300 : Int) < (text.size : Int) := by omega
  go_enter Tryz.func9, Tryz.ntmps9
  go_wp2_with fail
  refine (HAl.out _ F0.out).mono ?_
  rintro r w1 ⟨rfl, b1⟩
  have F1 := Lib.hid (F0.out.trans (Fr.b0 b1) (fun _ h => h.elim))
  go_wp2_with fail
  go_ret
  exact ⟨rfl, F1.out.below (fun _ h => h.elim)⟩
 have he : decide ((300 : Int) < (text.size : Int)) = false := decide_eq_false (by omega)
 have he2 : ¬ (300 : Int) < (text.size : Int) := by omega
 obtain ⟨W0, hW0⟩ : ∃ W0, W0 = (w.alloc (.cells #[.string s.name, .int .i64 s.time, .int .i64 s.value] 100)).alloc (.cells #[.int .i64 0, .pointer none, .pointer none] 112) := ⟨_, rfl⟩
 have HW0 := Lib.hid hW0
 have FW : Hid (Fr (fun _ => False) w W0) := by show Fr _ _ _; rw [hW0]; exact F0.out.trans (Fr.none_alloc _ _) (fun _ h => h.elim)
 have ZB : Hid (Blk W0 (w.heap.size + 1) 112 #[.int .i64 0, .pointer none, .pointer none]) := by show Blk _ _ _ _; rw [hW0]; exact Blk.new' (by simp) _ _
 have SB : Hid (Blk W0 w.heap.size 100 #[.string s.name, .int .i64 s.time, .int .i64 s.value]) := by show Blk _ _ _ _; rw [hW0]; exact B0.out.alloc _
 have HZ : Hid (∀ W, Fr (fun _ => False) W0 W → W.cell? ⟨w.heap.size + 1, 0, none⟩ = some (.int .i64 0) ∧ W.cell? ⟨w.heap.size + 1, 1, none⟩ = some (.pointer none)) := fun W f => ⟨(ZB.out.fr f (fun h => h)).cell 0, (ZB.out.fr f (fun h => h)).cell 1⟩
 have HS : Hid (∀ W, Fr (fun _ => False) W0 W → W.cell? ⟨w.heap.size, 0, none⟩ = some (.string s.name) ∧ W.cell? ⟨w.heap.size, 1, none⟩ = some (.int .i64 s.time) ∧ W.cell? ⟨w.heap.size, 2, none⟩ = some (.int .i64 s.value)) := fun W f => ⟨(SB.out.fr f (fun h => h)).cell 0, (SB.out.fr f (fun h => h)).cell 1, (SB.out.fr f (fun h => h)).cell 2⟩
 have HAkZ : Hid (∀ W, Fr (fun _ => False) W0 W → Calls Tryz.prog 55 #[.pointer (some ⟨w.heap.size + 1, 0, none⟩), .string { data := #[97] }, .int .i64 0, .int .i64 1] W fun r w' => r = .returned (.tuple #[.agg #[.int .i64 0, .slice none 0 0], .int .i64 1]) ∧ Below W.heap.size W w') := fun W f => stask_zero _ 0 1 _ W (HZ.out W f).2
 have HChZ : Hid (∀ W, Fr (fun _ => False) W0 W → Calls Tryz.prog 35 #[.pointer (some ⟨w.heap.size + 1, 0, none⟩), .string text] W fun r w' => r = .returned (.tuple #[.int .i64 1, .int .i64 0]) ∧ W = w') := fun W f => stchange_zero _ _ W (HZ.out W f).2
 have HStZ : Hid (∀ W, Fr (fun _ => False) W0 W → Calls Tryz.prog 36 #[.pointer (some ⟨w.heap.size + 1, 0, none⟩)] W fun r w' => r = .returned (.tuple #[.agg #[.int .i64 0, .int .i64 0, .int .i64 0], .int .i64 1]) ∧ Below W.heap.size W w') := fun W f => ststep_zero _ W (HZ.out W f).2
 have HPtZ : Hid (∀ W v, Fr (fun _ => False) W0 W → Calls Tryz.prog 33 #[.pointer (some ⟨w.heap.size + 1, 0, none⟩), v] W fun r w' => r = .returned (.int .i64 1) ∧ W = w') := fun W v f => stput_zero v _ W (HZ.out W f).2
 have HTkZ : Hid (∀ W v, Fr (fun _ => False) W0 W → Calls Tryz.prog 34 #[.pointer (some ⟨w.heap.size + 1, 0, none⟩), v] W fun r w' => r = .returned (.int .i64 1) ∧ W = w') := fun W v f => sttick_zero v _ W (HZ.out W f).2
 have HAbZ : Hid (∀ W, Fr (fun _ => False) W0 W → Calls Tryz.prog 37 #[.pointer (some ⟨w.heap.size + 1, 0, none⟩)] W fun r w' => r = .returned (.int .i64 1) ∧ W = w') := fun W f => stabort_zero _ W (HZ.out W f).2
 have HTiZ : Hid (∀ W, Fr (fun _ => False) W0 W → Calls Tryz.prog 38 #[.pointer (some ⟨w.heap.size + 1, 0, none⟩)] W fun r w' => r = .returned (.pointer none) ∧ W = w') := fun W f => sttiers_zero _ W (HZ.out W f).2
 have HRoZ : Hid (∀ W, Fr (fun _ => False) W0 W → Calls Tryz.prog 41 #[.pointer (some ⟨w.heap.size + 1, 0, none⟩)] W fun r w' => r = .returned (.int .i64 0) ∧ W = w') := fun W f => stroom_zero _ W (HZ.out W f).1
 have HNeZ : Hid (∀ W, Fr (fun _ => False) W0 W → Calls Tryz.prog 40 #[.pointer (some ⟨w.heap.size + 1, 0, none⟩)] W fun r w' => r = .returned (.int .i64 0) ∧ W = w') := fun W f => stneed_zero _ W (HZ.out W f).2
 have HAkN := Lib.hid stask_nil
 have HStN := Lib.hid ststep_nil
 have FA := Lib.hid (Fr.refl (fun _ => False) W0)
 clear hW0
 go_enter Tryz.func9, Tryz.ntmps9
 go_wp2_with fail
 clear hd hd2 he he2 c0
 rw [← HW0.out]
 refine (HAkN.out _ _ _ _).mono ?_
 rintro r w1 ⟨rfl, b1⟩
 have F1 := Lib.hid (Fr.b0 b1)
 have F2 : Hid (Fr (fun _ => False) W0 (w1.alloc (.cells #[.int .i64 0, .slice none 0 0] 114))) := F1.out.trans (Fr.none_alloc _ _) (fun _ h => h.elim)
 clear b1
 go_wp2_with fail
 refine (HAkZ.out _ F2.out).mono ?_
 rintro r w2 ⟨rfl, b2⟩
 have F3 := Lib.hid (F2.out.trans (Fr.b0 b2) (fun _ h => h.elim))
 have F4 : Hid (Fr (fun _ => False) W0 (w2.alloc (.cells #[.int .i64 0, .slice none 0 0] 114))) := F3.out.trans (Fr.none_alloc _ _) (fun _ h => h.elim)
 clear b2
 go_wp2_with fail
 refine (stchange_nil _ _).mono ?_
 rintro r w3 ⟨rfl, rfl⟩
 go_wp2_with fail
 refine (HChZ.out _ F4.out).mono ?_
 rintro r w3 ⟨rfl, rfl⟩
 go_wp2_with fail
 refine (HStN.out _).mono ?_
 rintro r w3 ⟨rfl, b3⟩
 have F5 := Lib.hid (F4.out.trans (Fr.b0 b3) (fun _ h => h.elim))
 have F6 : Hid (Fr (fun _ => False) W0 (w3.alloc (.cells #[.int .i64 0, .int .i64 0, .int .i64 0] 76))) := F5.out.trans (Fr.none_alloc _ _) (fun _ h => h.elim)
 clear b3
 go_wp2_with fail
 refine (HStZ.out _ F6.out).mono ?_
 rintro r w4 ⟨rfl, b4⟩
 have F7 := Lib.hid (F6.out.trans (Fr.b0 b4) (fun _ h => h.elim))
 have F8 : Hid (Fr (fun _ => False) W0 (w4.alloc (.cells #[.int .i64 0, .int .i64 0, .int .i64 0] 76))) := F7.out.trans (Fr.none_alloc _ _) (fun _ h => h.elim)
 clear b4
 go_wp2_with fail
 refine (stmake_nil _ _).mono ?_
 rintro r w5 ⟨rfl, rfl⟩
 go_wp2_with fail
 refine (HAl.out _ (FW.out.trans F8.out (fun _ h => h.elim))).mono ?_
 rintro r w5 ⟨rfl, b5⟩
 have F9 := Lib.hid (F8.out.trans (Fr.b0 b5) (fun _ h => h.elim))
 obtain ⟨s0, s1, s2⟩ := HS.out w5 F9.out
 have F10 : Hid (Fr (fun _ => False) W0 (w5.alloc (.cells #[.string s.name, .int .i64 s.time, .int .i64 s.value] 100))) := F9.out.trans (Fr.none_alloc _ _) (fun _ h => h.elim)
 clear b5
 go_wp2_with fail
 refine (stput_nil _ _).mono ?_
 rintro r w6 ⟨rfl, rfl⟩
 clear s0 s1 s2
 obtain ⟨s0, s1, s2⟩ := HS.out _ F10.out
 have F11 : Hid (Fr (fun _ => False) W0 ((w5.alloc (.cells #[.string s.name, .int .i64 s.time, .int .i64 s.value] 100)).alloc (.cells #[.string s.name, .int .i64 s.time, .int .i64 s.value] 100))) := F10.out.trans (Fr.none_alloc _ _) (fun _ h => h.elim)
 go_wp2_with fail
 refine (HPtZ.out _ _ F11.out).mono ?_
 rintro r w6 ⟨rfl, rfl⟩
 clear s0 s1 s2
 obtain ⟨w7, hw7⟩ : ∃ w7, w7 = (w5.alloc (.cells #[.string s.name, .int .i64 s.time, .int .i64 s.value] 100)).alloc (.cells #[.string s.name, .int .i64 s.time, .int .i64 s.value] 100) := ⟨_, rfl⟩
 rw [← hw7] at F11 ⊢
 clear hw7 F10
 go_wp2_with fail
 refine (sttick_nil _ _).mono ?_
 rintro r w8 ⟨rfl, rfl⟩
 go_wp2_with fail
 refine (HTkZ.out _ _ F11.out).mono ?_
 rintro r w8 ⟨rfl, rfl⟩
 go_wp2_with fail
 refine (stabort_nil _).mono ?_
 rintro r w8 ⟨rfl, rfl⟩
 go_wp2_with fail
 refine (HAbZ.out _ F11.out).mono ?_
 rintro r w8 ⟨rfl, rfl⟩
 go_wp2_with fail
 refine (stpend_nil _).mono ?_
 rintro r w8 ⟨rfl, rfl⟩
 go_wp2_with fail
 refine (sttiers_nil _).mono ?_
 rintro r w8 ⟨rfl, rfl⟩
 go_wp2_with fail
 refine (stshadow_nil _).mono ?_
 rintro r w8 ⟨rfl, rfl⟩
 go_wp2_with fail
 refine (HTiZ.out _ F11.out).mono ?_
 rintro r w8 ⟨rfl, rfl⟩
 go_wp2_with fail
 refine (stroom_nil _).mono ?_
 rintro r w8 ⟨rfl, rfl⟩
 go_wp2_with fail
 refine (stneed_nil _).mono ?_
 rintro r w8 ⟨rfl, rfl⟩
 go_wp2_with fail
 refine (HRoZ.out _ F11.out).mono ?_
 rintro r w8 ⟨rfl, rfl⟩
 go_wp2_with fail
 refine (HNeZ.out _ F11.out).mono ?_
 rintro r w8 ⟨rfl, rfl⟩
 go_wp2_with fail
 refine (stcopy_nil _).mono ?_
 rintro r w8 ⟨rfl, rfl⟩
 go_wp2_with fail
 go_ret
 exact ⟨rfl, (FW.out.trans F11.out (fun _ h => h.elim)).below (fun _ h => h.elim)⟩
end Go.Proofs.YtaakghjbbkgbdaaGreatDoor
