/- ShadowNone's walk: of a nil shadow. -/
import Derived.Test.YtfhhepfkjndkgaaGreatAlive14
namespace Go.Proofs.YtfhhepfkjndkgaaGreat
set_option linter.all false
open Go.RowKit

theorem begin_nil (v : Value) (w : World) (A : Option Addr) (n c : Nat) (nm : ByteArray) (hv : v = .agg #[.string nm, .slice A n c]) : Calls Tryz.prog 12 #[.pointer none, v] w fun r w' => r = .returned (.tuple #[.pointer none, .int .i64 1]) ∧ Below w.heap.size w w' := by
  subst hv
  have F := Lib.hid (Fr.none_alloc w (.cells #[.string nm, .slice A n c] 24))
  go_enter Tryz.func12, Tryz.ntmps12
  go_wp2_with fail
  go_ret2
  exact ⟨rfl, F.out.below (fun _ h => h.elim)⟩
theorem resume_none (n : Int) (w : World) : Calls Tryz.prog 24 #[.agg #[.string ByteArray.empty, .slice none 0 0, .slice none 0 0], .int .i64 n, .int .i64 0] w fun r w' => r = .returned (.tuple #[.pointer none, .int .i64 1]) ∧ Below w.heap.size w w' := by
  refine (resume_any ByteArray.empty [] none 0 0 [] none 0 0 n 0 w Rd.nil_ (by omega) (fun _ h => by cases h) (fun _ h => by cases h) Rd.nil_ (by omega)).mono ?_
  rintro r w' ⟨⟨_, h⟩, hb⟩
  exact ⟨h (fun h => h.1 (by simp [stepsV])), hb⟩
set_option maxRecDepth 100000 in
set_option maxHeartbeats 8000000 in
theorem shadownone_walk (s : SampV) (n : Int) (w : World) (hs : s.name.size ≤ maxLen) :
    Calls Tryz.prog 4 #[.agg #[.string s.name, .int .i64 s.time, .int .i64 s.value], .int .i64 n] w fun e w' => e = .returned (.bool true) ∧ Below w.heap.size w w' := by
  obtain ⟨sn, st, sv⟩ := s
  simp only at hs ⊢
  have HAl := Lib.hid alive14_any
  have HW := Lib.hid web_any
  have HN : Hid (∀ A c W, 2 ≤ c → Rd W 4 A 2 (tcells webT) → Calls Tryz.prog 22 #[.agg #[.string webN, .slice A 2 c], .int .i64 50, .slice none 0 0] W fun r w' => (∃ t, r = .returned (.tuple #[.pointer (some ⟨t, 0, none⟩), .int .i64 0])) ∧ Below W.heap.size W w') := fun A c W hc hr => by
    refine (tio_new (by decide) wf_web A 2 c 50 (by omega) W.heap.size W (Nat.le_refl _) hr hc (by omega)).mono ?_
    rintro r w' ⟨⟨h, _⟩, hb⟩
    obtain ⟨_, t, F, h1, h2, h3⟩ := h a14_new
    exact ⟨⟨t, h1⟩, hb⟩
  have HB : Hid (∀ A c W, Calls Tryz.prog 12 #[.pointer none, .agg #[.string webN, .slice A 2 c]] W fun r w' => r = .returned (.tuple #[.pointer none, .int .i64 1]) ∧ Below W.heap.size W w') := fun A c W => begin_nil _ W A 2 c webN rfl
  have HRs := Lib.hid (resume_none n)
  have HNo := Lib.hid snote_nil
  have HSt := Lib.hid sstep_nil
  have HNx := Lib.hid snext_nil
  have HBd := Lib.hid sbound_nil
  have HDo := Lib.hid sdone_nil
  have HTr := Lib.hid strim_nil
  have HLo := Lib.hid sload_nil
  have HNe := Lib.hid sneed_nil
  have HRc := Lib.hid srecords_nil
  have HFi := Lib.hid sfits_nil
  have HCo := Lib.hid scopy_nil
  have F0 := Lib.hid (Fr.none_alloc w (.cells #[.string sn, .int .i64 st, .int .i64 sv] 67))
  have B0 := Lib.hid (Blk.new w 67 #[.string sn, .int .i64 st, .int .i64 sv])
  unfold polV at HW
  unfold stepVal at HSt HNx
  by_cases h60 : 60 < sn.size
  · have hd : decide ((60 : Int) < (sn.size : Int)) = true := decide_eq_true (by omega)
    have hd2 : (60 : Int) < (sn.size : Int) := by omega
    go_enter Tryz.func4, Tryz.ntmps4
    go_wp2_with fail
    refine (HAl.out _).mono ?_
    rintro r w1 ⟨rfl, b1⟩
    have F1 := Lib.hid (F0.out.trans (Fr.b0 b1) (fun _ h => h.elim))
    clear b1
    go_wp2_with fail
    go_ret
    exact ⟨rfl, F1.out.below (fun _ h => h.elim)⟩
  · have hd : decide ((60 : Int) < (sn.size : Int)) = false := decide_eq_false (by omega)
    have hd2 : ¬ (60 : Int) < (sn.size : Int) := by omega
    go_enter Tryz.func4, Tryz.ntmps4
    go_wp2_with fail
    refine (HW.out _).mono ?_
    rintro r w1 ⟨⟨A1, c1, rfl, hc1, r1⟩, b1⟩
    have F1 := Lib.hid (F0.out.trans (Fr.b0 b1) (fun _ h => h.elim))
    have B1 := Lib.hid (B0.out.below b1)
    have HN1 := Lib.hid (HN.out A1 c1 w1 hc1 r1)
    clear b1 r1
    go_wp2_with fail
    refine HN1.out.mono ?_
    rintro r w2 ⟨⟨t, rfl⟩, b2⟩
    have F2 := Lib.hid (F1.out.trans (Fr.b0 b2) (fun _ h => h.elim))
    have B2 := Lib.hid (B1.out.below b2)
    clear b2 HN1
    go_wp2_with fail
    refine (HW.out _).mono ?_
    rintro r w3 ⟨⟨A3, c3, rfl, _, _⟩, b3⟩
    have F3 := Lib.hid (F2.out.trans (Fr.b0 b3) (fun _ h => h.elim))
    have B3 := Lib.hid (B2.out.below b3)
    clear b3
    go_wp2_with fail
    refine (HB.out _ _ _).mono ?_
    rintro r w4 ⟨rfl, b4⟩
    have F4 := Lib.hid (F3.out.trans (Fr.b0 b4) (fun _ h => h.elim))
    have B4 := Lib.hid (B3.out.below b4)
    clear b4
    go_wp2_with fail
    refine (HRs.out _).mono ?_
    rintro r w5 ⟨rfl, b5⟩
    have F5 := Lib.hid (F4.out.trans (Fr.b0 b5) (fun _ h => h.elim))
    have B5 := Lib.hid (B4.out.below b5)
    have s0 := B5.out.cell 0
    have s1 := B5.out.cell 1
    have s2 := B5.out.cell 2
    simp only [List.getElem?_toArray, List.getElem?_cons_succ, List.getElem?_cons_zero] at s0 s1 s2
    clear b5
    go_wp2_with fail
    obtain ⟨W6, hW6⟩ : ∃ v, v = w5.alloc (.cells #[.string sn, .int .i64 st, .int .i64 sv] 67) := ⟨_, rfl⟩
    rw [← hW6]
    have F6 : Hid (Fr (fun _ => False) w W6) := by show Fr _ _ _; rw [hW6]; exact F5.out.trans (Fr.none_alloc _ _) (fun _ h => h.elim)
    clear hW6 s0 s1 s2 B5
    refine (HNo.out _ _ _).mono ?_
    rintro r w' ⟨rfl, rfl⟩
    go_wp2_with fail
    refine (HSt.out _ _).mono ?_
    rintro r w7 ⟨rfl, b7⟩
    have F7 := Lib.hid (F6.out.trans (Fr.b0 b7) (fun _ h => h.elim))
    clear b7
    go_wp2_with fail
    obtain ⟨W8, hW8⟩ : ∃ v, v = w7.alloc (.cells #[.int .i64 0, .int .i64 0, .int .i64 0] 50) := ⟨_, rfl⟩
    rw [← hW8]
    have F8 : Hid (Fr (fun _ => False) w W8) := by show Fr _ _ _; rw [hW8]; exact F7.out.trans (Fr.none_alloc _ _) (fun _ h => h.elim)
    have V8 : Hid (Blk W8 w7.heap.size 50 #[.int .i64 0, .int .i64 0, .int .i64 0]) := by show Blk _ _ _ _; rw [hW8]; exact Blk.new _ _ _
    clear hW8
    refine (HNx.out _).mono ?_
    rintro r w9 ⟨rfl, b9⟩
    have F9 := Lib.hid (F8.out.trans (Fr.b0 b9) (fun _ h => h.elim))
    have V9 := Lib.hid (V8.out.below b9)
    clear b9
    go_wp2_with fail
    obtain ⟨Wa, hWa⟩ : ∃ v, v = w9.alloc (.cells #[.int .i64 0, .int .i64 0, .int .i64 0] 50) := ⟨_, rfl⟩
    rw [← hWa]
    have Fa : Hid (Fr (fun _ => False) w Wa) := by show Fr _ _ _; rw [hWa]; exact F9.out.trans (Fr.none_alloc _ _) (fun _ h => h.elim)
    have Va : Hid (Blk Wa w7.heap.size 50 #[.int .i64 0, .int .i64 0, .int .i64 0]) := by show Blk _ _ _ _; rw [hWa]; exact V9.out.alloc _
    clear hWa
    refine (HAl.out _).mono ?_
    rintro r wb ⟨rfl, bb⟩
    have Fb := Lib.hid (Fa.out.trans (Fr.b0 bb) (fun _ h => h.elim))
    have Vb := Va.out.below bb
    have x0 := Vb.cell 0
    have x1 := Vb.cell 1
    have x2 := Vb.cell 2
    simp only [List.getElem?_toArray, List.getElem?_cons_succ, List.getElem?_cons_zero] at x0 x1 x2
    clear bb Vb
    go_wp2_with (first
      | (go_at_call 27; refine (HBd.out _).mono ?_; rintro r w' ⟨rfl, rfl⟩)
      | (go_at_call 21; refine (HDo.out _).mono ?_; rintro r w' ⟨rfl, rfl⟩)
      | (go_at_call 28; refine (HTr.out _ _).mono ?_; rintro r w' ⟨rfl, rfl⟩)
      | (go_at_call 19; refine (HLo.out _ _ _).mono ?_; rintro r w' ⟨rfl, rfl⟩)
      | (go_at_call 29; refine (HNe.out _).mono ?_; rintro r w' ⟨rfl, rfl⟩)
      | (go_at_call 17; refine (HRc.out _ _).mono ?_; rintro r w' ⟨rfl, rfl⟩)
      | (go_at_call 30; refine (HFi.out _ _).mono ?_; rintro r w' ⟨rfl, rfl⟩)
      | (go_at_call 18; refine (HCo.out _).mono ?_; rintro r w' ⟨rfl, rfl⟩))
    go_ret
    exact ⟨rfl, Fb.out.below (fun _ h => h.elim)⟩
end Go.Proofs.YtfhhepfkjndkgaaGreat
