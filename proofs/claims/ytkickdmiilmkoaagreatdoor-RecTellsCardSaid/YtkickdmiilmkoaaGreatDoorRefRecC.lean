/- Walk of sedimentref1.GetAgg. -/
import Derived.Test.YtkickdmiilmkoaaGreatDoorRefRecB
import Derived.Test.YtkickdmiilmkoaaGreatDoorRefRecLaw
namespace Go.Proofs.YtkickdmiilmkoaaGreatDoor
open Go.RowKit

set_option maxRecDepth 100000 in
set_option maxHeartbeats 8000000 in
theorem raggget_any (t : List UInt8) (ht : t.length = 40) (w : World) :
    Calls Tryz.prog 91 #[.string (bstr t)] w fun r w' => r = .returned (.tuple #[(aggGetV t).1.val, .int .i64 (aggGetV t).2]) ∧ Below w.heap.size w w' := by
  have hres : Hid (aggGetV t = bif aggOk (aggOf t) then (aggOf t, 0) else (agg0, 6)) := by show _ = _; unfold aggGetV; rw [if_pos ht]
  have HI0 : Hid (∀ g w', Uq w' g 0 (t.drop 0) → Calls Tryz.prog 90 #[.pointer (some ⟨g, 0, none⟩)] w' fun r w'' => r = .returned (.int .i64 (sgn (ofLe ((t.drop 0).take 8)))) ∧ Uq w'' g 0 (t.drop 8) ∧ Fr (fun k => k = g) w' w'') := fun g w' h => by
    have := rint_get g 0 (t.drop 0) w' h (by rw [List.length_drop]; omega)
    rwa [uTake_in (by rw [List.length_drop]; omega), List.drop_drop] at this
  have HI1 : Hid (∀ g w', Uq w' g 0 (t.drop 8) → Calls Tryz.prog 90 #[.pointer (some ⟨g, 0, none⟩)] w' fun r w'' => r = .returned (.int .i64 (sgn (ofLe ((t.drop 8).take 8)))) ∧ Uq w'' g 0 (t.drop 16) ∧ Fr (fun k => k = g) w' w'') := fun g w' h => by
    have := rint_get g 0 (t.drop 8) w' h (by rw [List.length_drop]; omega)
    rwa [uTake_in (by rw [List.length_drop]; omega), List.drop_drop] at this
  have HI2 : Hid (∀ g w', Uq w' g 0 (t.drop 16) → Calls Tryz.prog 135 #[.pointer (some ⟨g, 0, none⟩)] w' fun r w'' => r = .returned (.int .u64 (ofLe ((t.drop 16).take 8) : Nat)) ∧ Uq w'' g 0 (t.drop 24) ∧ Fr (fun k => k = g) w' w'') := fun g w' h => by
    have := rword_get g 0 (t.drop 16) w' h (by rw [List.length_drop]; omega)
    rwa [uTake_in (by rw [List.length_drop]; omega), List.drop_drop] at this
  have HI3 : Hid (∀ g w', Uq w' g 0 (t.drop 24) → Calls Tryz.prog 90 #[.pointer (some ⟨g, 0, none⟩)] w' fun r w'' => r = .returned (.int .i64 (sgn (ofLe ((t.drop 24).take 8)))) ∧ Uq w'' g 0 (t.drop 32) ∧ Fr (fun k => k = g) w' w'') := fun g w' h => by
    have := rint_get g 0 (t.drop 24) w' h (by rw [List.length_drop]; omega)
    rwa [uTake_in (by rw [List.length_drop]; omega), List.drop_drop] at this
  have HI4 : Hid (∀ g w', Uq w' g 0 (t.drop 32) → Calls Tryz.prog 90 #[.pointer (some ⟨g, 0, none⟩)] w' fun r w'' => r = .returned (.int .i64 (sgn (ofLe ((t.drop 32).take 8)))) ∧ Uq w'' g 0 (t.drop 40) ∧ Fr (fun k => k = g) w' w'') := fun g w' h => by
    have := rint_get g 0 (t.drop 32) w' h (by rw [List.length_drop]; omega)
    rwa [uTake_in (by rw [List.length_drop]; omega), List.drop_drop] at this
  have hag : Hid (aggOf t = ⟨sgn (ofLe ((t.drop 0).take 8)), sgn (ofLe ((t.drop 8).take 8)), (ofLe ((t.drop 16).take 8) : Nat), sgn (ofLe ((t.drop 24).take 8)), sgn (ofLe ((t.drop 32).take 8))⟩) := rfl
  have hz := bstr_size t
  obtain ⟨c, hc⟩ : ∃ c, sgn (ofLe ((t.drop 0).take 8)) = c := ⟨_, rfl⟩
  rw [hc] at HI0 hag
  obtain ⟨h, hh⟩ : ∃ h, sgn (ofLe ((t.drop 8).take 8)) = h := ⟨_, rfl⟩
  rw [hh] at HI1 hag
  obtain ⟨lo, hlo⟩ : ∃ lo, ((ofLe ((t.drop 16).take 8) : Nat) : Int) = lo := ⟨_, rfl⟩
  rw [hlo] at HI2 hag
  obtain ⟨m, hm⟩ : ∃ m, sgn (ofLe ((t.drop 24).take 8)) = m := ⟨_, rfl⟩
  rw [hm] at HI3 hag
  obtain ⟨x, hx⟩ : ∃ x, sgn (ofLe ((t.drop 32).take 8)) = x := ⟨_, rfl⟩
  rw [hx] at HI4 hag
  have HV : Hid (∀ w', Calls Tryz.prog 97 #[.agg #[.int .i64 c, .int .i64 h, .int .u64 lo, .int .i64 m, .int .i64 x]] w' fun r w'' => r = .returned (.bool (aggOk (aggOf t))) ∧ Below w'.heap.size w' w'') := fun w' => by
    rw [hag.out]; exact raggvalid_any ⟨c, h, lo, m, x⟩ w'
  obtain ⟨S, hS⟩ : ∃ S, bstr t = S := ⟨_, rfl⟩
  rw [hS] at hz ⊢
  have hsz : ((S.size : Int) != 40) = false := by rw [hz, ht]; rfl
  have U0 : Hid (Uq (((w.alloc (.cells #[.int .i64 0, .int .i64 0, .int .u64 0, .int .i64 0, .int .i64 0] 61)).alloc (.cells #[.string S, .int .i64 0] 125)).alloc (.cells #[.int .i64 0, .int .i64 0, .int .u64 0, .int .i64 0, .int .i64 0] 61)) (w.heap.size + 1) 0 (t.drop 0)) := by
    show Blk _ _ _ _
    rw [List.drop_zero, hS]
    exact (Blk.new' (by simp) _ _).alloc _
  obtain ⟨W0, hW0⟩ : ∃ W0, W0 = (((w.alloc (.cells #[.int .i64 0, .int .i64 0, .int .u64 0, .int .i64 0, .int .i64 0] 61)).alloc (.cells #[.string S, .int .i64 0] 125)).alloc (.cells #[.int .i64 0, .int .i64 0, .int .u64 0, .int .i64 0, .int .i64 0] 61)) := ⟨_, rfl⟩
  have R0 : Hid (Blk W0 w.heap.size 61 #[.int .i64 0, .int .i64 0, .int .u64 0, .int .i64 0, .int .i64 0]) := by
    show Blk _ _ _ _
    rw [hW0]; exact ((Blk.new _ _ _).alloc _).alloc _
  have P0 : Hid (Blk W0 (w.heap.size + 1 + 1) 61 #[.int .i64 0, .int .i64 0, .int .u64 0, .int .i64 0, .int .i64 0]) := by
    show Blk _ _ _ _
    rw [hW0]; exact Blk.new' (by simp) _ _
  have O0 : Hid (Own w W0 (fun k => k = w.heap.size + 1 ∨ k = w.heap.size + 1 + 1)) := by
    show Own _ _ _
    rw [hW0]; exact (((Own.start w).skip (Fr.none_alloc _ _)).skip (Fr.none_alloc _ _)).skip (Fr.none_alloc _ _) |>.also (fun k hk => by omega)
  rw [← hW0] at U0
  clear hc hh hlo hm hx hS hz ht
  go_enter Tryz.func91, Tryz.ntmps91
  go_wp2_with fail
  rw [← hW0]
  clear hW0
  refine (HI0.out _ _ U0.out).mono ?_
  rintro r v1 ⟨rfl, u1, f1⟩
  have V1 := Lib.hid u1
  have Q1 := P0.out.fr f1 (by omega)
  have HQ1 := Lib.hid Q1
  have S1 := Lib.hid (R0.out.fr f1 (by omega))
  have N1 := Lib.hid (O0.out.fr (f1.mono (fun i hi => .inl (.inl hi))))
  have s := Q1.cell 0
  have z := Q1.frozen 0
  simp only [List.getElem?_toArray, List.getElem?_cons_succ, List.getElem?_cons_zero] at s
  clear u1 f1 Q1 U0 P0 R0 O0
  go_wp2_with fail
  clear s z
  obtain ⟨W1, hW1⟩ : ∃ W1, W1 = v1.setCell ⟨w.heap.size + 1 + 1, 0, none⟩ (.int .i64 c) := ⟨_, rfl⟩
  first | rw [← hW1] | skip
  have F1 : Fr (fun i => i = w.heap.size + 1 + 1) v1 W1 := by rw [hW1]; exact (Fr.refl (fun i => i = w.heap.size + 1 + 1) v1).setCell (p := ⟨w.heap.size + 1 + 1, 0, none⟩) (.inl rfl) _
  have P1 : Hid (Blk W1 (w.heap.size + 1 + 1) 61 #[.int .i64 c, .int .i64 0, .int .u64 0, .int .i64 0, .int .i64 0]) := by
    show Blk _ _ _ _
    rw [hW1]; simpa using HQ1.out.set_ 0 (.int .i64 c)
  have U1 := Lib.hid (Blk.fr V1.out F1 (by omega))
  have R1 := Lib.hid (S1.out.fr F1 (by omega))
  have O1 := Lib.hid (N1.out.fr (F1.mono (fun i hi => .inl (.inr hi))))
  clear hW1 F1 V1 HQ1 S1 N1
  refine (HI1.out _ _ U1.out).mono ?_
  rintro r v2 ⟨rfl, u2, f2⟩
  have V2 := Lib.hid u2
  have Q2 := P1.out.fr f2 (by omega)
  have HQ2 := Lib.hid Q2
  have S2 := Lib.hid (R1.out.fr f2 (by omega))
  have N2 := Lib.hid (O1.out.fr (f2.mono (fun i hi => .inl (.inl hi))))
  have s := Q2.cell 1
  have z := Q2.frozen 1
  simp only [List.getElem?_toArray, List.getElem?_cons_succ, List.getElem?_cons_zero] at s
  clear u2 f2 Q2 U1 P1 R1 O1
  go_wp2_with fail
  clear s z
  obtain ⟨W2, hW2⟩ : ∃ W2, W2 = v2.setCell ⟨w.heap.size + 1 + 1, 1, none⟩ (.int .i64 h) := ⟨_, rfl⟩
  first | rw [← hW2] | skip
  have F2 : Fr (fun i => i = w.heap.size + 1 + 1) v2 W2 := by rw [hW2]; exact (Fr.refl (fun i => i = w.heap.size + 1 + 1) v2).setCell (p := ⟨w.heap.size + 1 + 1, 1, none⟩) (.inl rfl) _
  have P2 : Hid (Blk W2 (w.heap.size + 1 + 1) 61 #[.int .i64 c, .int .i64 h, .int .u64 0, .int .i64 0, .int .i64 0]) := by
    show Blk _ _ _ _
    rw [hW2]; simpa using HQ2.out.set_ 1 (.int .i64 h)
  have U2 := Lib.hid (Blk.fr V2.out F2 (by omega))
  have R2 := Lib.hid (S2.out.fr F2 (by omega))
  have O2 := Lib.hid (N2.out.fr (F2.mono (fun i hi => .inl (.inr hi))))
  clear hW2 F2 V2 HQ2 S2 N2
  refine (HI2.out _ _ U2.out).mono ?_
  rintro r v3 ⟨rfl, u3, f3⟩
  have V3 := Lib.hid u3
  have Q3 := P2.out.fr f3 (by omega)
  have HQ3 := Lib.hid Q3
  have S3 := Lib.hid (R2.out.fr f3 (by omega))
  have N3 := Lib.hid (O2.out.fr (f3.mono (fun i hi => .inl (.inl hi))))
  have s := Q3.cell 2
  have z := Q3.frozen 2
  simp only [List.getElem?_toArray, List.getElem?_cons_succ, List.getElem?_cons_zero] at s
  clear u3 f3 Q3 U2 P2 R2 O2
  go_wp2_with fail
  clear s z
  obtain ⟨W3, hW3⟩ : ∃ W3, W3 = v3.setCell ⟨w.heap.size + 1 + 1, 2, none⟩ (.int .u64 lo) := ⟨_, rfl⟩
  first | rw [← hW3] | skip
  have F3 : Fr (fun i => i = w.heap.size + 1 + 1) v3 W3 := by rw [hW3]; exact (Fr.refl (fun i => i = w.heap.size + 1 + 1) v3).setCell (p := ⟨w.heap.size + 1 + 1, 2, none⟩) (.inl rfl) _
  have P3 : Hid (Blk W3 (w.heap.size + 1 + 1) 61 #[.int .i64 c, .int .i64 h, .int .u64 lo, .int .i64 0, .int .i64 0]) := by
    show Blk _ _ _ _
    rw [hW3]; simpa using HQ3.out.set_ 2 (.int .u64 lo)
  have U3 := Lib.hid (Blk.fr V3.out F3 (by omega))
  have R3 := Lib.hid (S3.out.fr F3 (by omega))
  have O3 := Lib.hid (N3.out.fr (F3.mono (fun i hi => .inl (.inr hi))))
  clear hW3 F3 V3 HQ3 S3 N3
  refine (HI3.out _ _ U3.out).mono ?_
  rintro r v4 ⟨rfl, u4, f4⟩
  have V4 := Lib.hid u4
  have Q4 := P3.out.fr f4 (by omega)
  have HQ4 := Lib.hid Q4
  have S4 := Lib.hid (R3.out.fr f4 (by omega))
  have N4 := Lib.hid (O3.out.fr (f4.mono (fun i hi => .inl (.inl hi))))
  have s := Q4.cell 3
  have z := Q4.frozen 3
  simp only [List.getElem?_toArray, List.getElem?_cons_succ, List.getElem?_cons_zero] at s
  clear u4 f4 Q4 U3 P3 R3 O3
  go_wp2_with fail
  clear s z
  obtain ⟨W4, hW4⟩ : ∃ W4, W4 = v4.setCell ⟨w.heap.size + 1 + 1, 3, none⟩ (.int .i64 m) := ⟨_, rfl⟩
  first | rw [← hW4] | skip
  have F4 : Fr (fun i => i = w.heap.size + 1 + 1) v4 W4 := by rw [hW4]; exact (Fr.refl (fun i => i = w.heap.size + 1 + 1) v4).setCell (p := ⟨w.heap.size + 1 + 1, 3, none⟩) (.inl rfl) _
  have P4 : Hid (Blk W4 (w.heap.size + 1 + 1) 61 #[.int .i64 c, .int .i64 h, .int .u64 lo, .int .i64 m, .int .i64 0]) := by
    show Blk _ _ _ _
    rw [hW4]; simpa using HQ4.out.set_ 3 (.int .i64 m)
  have U4 := Lib.hid (Blk.fr V4.out F4 (by omega))
  have R4 := Lib.hid (S4.out.fr F4 (by omega))
  have O4 := Lib.hid (N4.out.fr (F4.mono (fun i hi => .inl (.inr hi))))
  clear hW4 F4 V4 HQ4 S4 N4
  refine (HI4.out _ _ U4.out).mono ?_
  rintro r v5 ⟨rfl, u5, f5⟩
  have V5 := Lib.hid u5
  have Q5 := P4.out.fr f5 (by omega)
  have HQ5 := Lib.hid Q5
  have S5 := Lib.hid (R4.out.fr f5 (by omega))
  have N5 := Lib.hid (O4.out.fr (f5.mono (fun i hi => .inl (.inl hi))))
  have s := Q5.cell 4
  have z := Q5.frozen 4
  have s0 := Q5.cell 0
  have s1 := Q5.cell 1
  have s2 := Q5.cell 2
  have s3 := Q5.cell 3
  simp only [List.getElem?_toArray, List.getElem?_cons_succ, List.getElem?_cons_zero] at s s0 s1 s2 s3
  clear u5 f5 Q5 U4 P4 R4 O4
  go_wp2_with fail
  clear s z s0 s1 s2 s3
  obtain ⟨W5, hW5⟩ : ∃ W5, W5 = v5.setCell ⟨w.heap.size + 1 + 1, 4, none⟩ (.int .i64 x) := ⟨_, rfl⟩
  first | rw [← hW5] | skip
  have F5 : Fr (fun i => i = w.heap.size + 1 + 1) v5 W5 := by rw [hW5]; exact (Fr.refl (fun i => i = w.heap.size + 1 + 1) v5).setCell (p := ⟨w.heap.size + 1 + 1, 4, none⟩) (.inl rfl) _
  have P5 : Hid (Blk W5 (w.heap.size + 1 + 1) 61 #[.int .i64 c, .int .i64 h, .int .u64 lo, .int .i64 m, .int .i64 x]) := by
    show Blk _ _ _ _
    rw [hW5]; simpa using HQ5.out.set_ 4 (.int .i64 x)
  have U5 := Lib.hid (Blk.fr V5.out F5 (by omega))
  have R5 := Lib.hid (S5.out.fr F5 (by omega))
  have O5 := Lib.hid (N5.out.fr (F5.mono (fun i hi => .inl (.inr hi))))
  clear hW5 F5 V5 HQ5 S5 N5
  refine (HV.out _).mono ?_
  rintro r w6 ⟨rfl, b6⟩
  have R6 := R5.out.below b6
  have P6 := P5.out.below b6
  have O6 := Lib.hid ((O5.out.below b6).also (G := fun i => i = w.heap.size) (fun i hi => by omega))
  have HR6 := Lib.hid R6
  have a0 := R6.cell 0
  have a1 := R6.cell 1
  have a2 := R6.cell 2
  have a3 := R6.cell 3
  have a4 := R6.cell 4
  have y0 := R6.frozen 0
  have y1 := R6.frozen 1
  have y2 := R6.frozen 2
  have y3 := R6.frozen 3
  have y4 := R6.frozen 4
  have s0 := P6.cell 0
  have s1 := P6.cell 1
  have s2 := P6.cell 2
  have s3 := P6.cell 3
  have s4 := P6.cell 4
  simp only [List.getElem?_toArray, List.getElem?_cons_succ, List.getElem?_cons_zero] at a0 a1 a2 a3 a4 s0 s1 s2 s3 s4
  clear b6 R6 P6 U5 R5 P5 O5 HI0 HI1 HI2 HI3 HI4 HV
  cases hok : aggOk (aggOf t)
  · have Hok := Lib.hid hok
    clear hok
    go_wp2_with fail
    clear a0 a1 a2 a3 a4 y0 y1 y2 y3 y4 s0 s1 s2 s3 s4
    obtain ⟨W, hW⟩ : ∃ W, W = (((((w6.setCell ⟨w.heap.size, 0, none⟩ (.int .i64 0)).setCell ⟨w.heap.size, 1, none⟩ (.int .i64 0)).setCell ⟨w.heap.size, 2, none⟩ (.int .u64 0)).setCell ⟨w.heap.size, 3, none⟩ (.int .i64 0)).setCell ⟨w.heap.size, 4, none⟩ (.int .i64 0)) := ⟨_, rfl⟩
    rw [← hW]
    have B := HR6.out.set5 (a := (.int .i64 0)) (b := (.int .i64 0)) (c := (.int .u64 0)) (d := (.int .i64 0)) (e := (.int .i64 0))
    have F := O6.out.fr (Fr.set5 (F := fun i => i = w.heap.size) (g := w.heap.size) (Fr.refl _ w6) (.inl rfl) (.int .i64 0) (.int .i64 0) (.int .u64 0) (.int .i64 0) (.int .i64 0))
    rw [← hW] at B F
    have b0 := B.cell 0
    have b1 := B.cell 1
    have b2 := B.cell 2
    have b3 := B.cell 3
    have b4 := B.cell 4
    simp only [List.getElem?_toArray, List.getElem?_cons_succ, List.getElem?_cons_zero] at b0 b1 b2 b3 b4
    refine bodyPost_ret (v := .tuple #[.agg #[.int .i64 0, .int .i64 0, .int .u64 0, .int .i64 0, .int .i64 0], .int .i64 6]) ?_ rfl ⟨by rw [hres.out, Hok.out]; first | rfl | (simp only [cond_true]; rw [hag.out]; rfl), F.bel⟩
    simp [results, Tryz.results91, go_sem, b0, b1, b2, b3, b4]
  · have Hok := Lib.hid hok
    clear hok
    go_wp2_with fail
    clear a0 a1 a2 a3 a4 y0 y1 y2 y3 y4 s0 s1 s2 s3 s4
    obtain ⟨W, hW⟩ : ∃ W, W = (((((w6.setCell ⟨w.heap.size, 0, none⟩ (.int .i64 c)).setCell ⟨w.heap.size, 1, none⟩ (.int .i64 h)).setCell ⟨w.heap.size, 2, none⟩ (.int .u64 lo)).setCell ⟨w.heap.size, 3, none⟩ (.int .i64 m)).setCell ⟨w.heap.size, 4, none⟩ (.int .i64 x)) := ⟨_, rfl⟩
    rw [← hW]
    have B := HR6.out.set5 (a := (.int .i64 c)) (b := (.int .i64 h)) (c := (.int .u64 lo)) (d := (.int .i64 m)) (e := (.int .i64 x))
    have F := O6.out.fr (Fr.set5 (F := fun i => i = w.heap.size) (g := w.heap.size) (Fr.refl _ w6) (.inl rfl) (.int .i64 c) (.int .i64 h) (.int .u64 lo) (.int .i64 m) (.int .i64 x))
    rw [← hW] at B F
    have b0 := B.cell 0
    have b1 := B.cell 1
    have b2 := B.cell 2
    have b3 := B.cell 3
    have b4 := B.cell 4
    simp only [List.getElem?_toArray, List.getElem?_cons_succ, List.getElem?_cons_zero] at b0 b1 b2 b3 b4
    refine bodyPost_ret (v := .tuple #[.agg #[.int .i64 c, .int .i64 h, .int .u64 lo, .int .i64 m, .int .i64 x], .int .i64 0]) ?_ rfl ⟨by rw [hres.out, Hok.out]; first | rfl | (simp only [cond_true]; rw [hag.out]; rfl), F.bel⟩
    simp [results, Tryz.results91, go_sem, b0, b1, b2, b3, b4]
end Go.Proofs.YtkickdmiilmkoaaGreatDoor
