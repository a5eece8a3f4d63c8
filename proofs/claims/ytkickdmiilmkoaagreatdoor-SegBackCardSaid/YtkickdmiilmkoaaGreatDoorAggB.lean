/- Walk of agg.Get. -/
import Derived.Test.YtkickdmiilmkoaaGreatDoorAgg
namespace Go.Proofs.YtkickdmiilmkoaaGreatDoor
open Go.RowKit

/-- What five words of bytes tell. -/
def aggOf (l : List UInt8) : AggV := ⟨sgn (ofLe (l.take 8)), sgn (ofLe ((l.drop 8).take 8)), ofLe ((l.drop 16).take 8), sgn (ofLe ((l.drop 24).take 8)), sgn (ofLe ((l.drop 32).take 8))⟩
def aggGetV (l : List UInt8) : AggV × Int := if l.length = 40 then (bif aggOk (aggOf l) then (aggOf l, 0) else (agg0, 6)) else (agg0, 5)
theorem uTake_in {b : List UInt8} {n : Nat} (h : n ≤ b.length) : uTake 0 b n = (0, b.drop n, b.take n) := by
  unfold uTake
  rw [if_pos rfl, if_neg (by omega)]

set_option maxRecDepth 100000 in
set_option maxHeartbeats 2000000 in
theorem aggget_any (l : List UInt8) (hl : l.length ≤ 1099511627776) (w : World) :
    Calls Tryz.prog 132 #[.string (bstr l)] w fun r w' => r = .returned (.tuple #[(aggGetV l).1.val, .int .i64 (aggGetV l).2]) ∧ Below w.heap.size w w' := by
  have hz := bstr_size l
  by_cases h40 : l.length = 40
  · unfold aggGetV
    rw [if_pos h40]
    have hz2 : ((bstr l).size : Int) = 40 := by omega
    have HV : Hid (∀ w', Calls Tryz.prog 95 #[(aggOf l).val] w' fun r w'' => r = .returned (.bool (aggOk (aggOf l))) ∧ Below w'.heap.size w' w'') := fun w' => aggvalid_any (aggOf l) w'
    have HF : Hid (∀ w', Calls Tryz.prog 47 #[.string (bstr l)] w' fun r w'' => ∃ g, r = .returned (.pointer (some ⟨g, 0, none⟩)) ∧ Up w'' g 0 l ∧ Below w'.heap.size w' w'' ∧ w'.heap.size ≤ g) := fun w' => from_any l w' hl
    have HI : Hid (∀ (g k : Nat) w', k + 8 ≤ 40 → Up w' g 0 (l.drop k) → Calls Tryz.prog 49 #[.pointer (some ⟨g, 0, none⟩)] w' fun r w'' => r = .returned (.int .i64 (sgn (ofLe ((l.drop k).take 8)))) ∧ Up w'' g 0 (l.drop (k + 8)) ∧ Fr (fun j => j = g) w' w'') := fun g k w' hk h => by
      have := int_any g 0 (l.drop k) w' h (by rw [List.length_drop]; omega)
      rw [uTake_in (by rw [List.length_drop]; omega), List.drop_drop] at this
      exact this
    have HW : Hid (∀ (g k : Nat) w', k + 8 ≤ 40 → Up w' g 0 (l.drop k) → Calls Tryz.prog 111 #[.pointer (some ⟨g, 0, none⟩)] w' fun r w'' => r = .returned (.int .u64 (ofLe ((l.drop k).take 8))) ∧ Up w'' g 0 (l.drop (k + 8)) ∧ Fr (fun j => j = g) w' w'') := fun g k w' hk h => by
      have := word_any g 0 (l.drop k) w' h (by rw [List.length_drop]; omega)
      rw [uTake_in (by rw [List.length_drop]; omega), List.drop_drop] at this
      exact this
    obtain ⟨S, hS⟩ : ∃ S, bstr l = S := ⟨_, rfl⟩
    rw [hS] at hz2 HF ⊢
    have H1 := Lib.hid (fun g w' h => HI.out g 0 w' (by decide) h)
    have H2 := Lib.hid (fun g w' h => HI.out g 8 w' (by decide) h)
    have H3 := Lib.hid (fun g w' h => HW.out g 16 w' (by decide) h)
    have H4 := Lib.hid (fun g w' h => HI.out g 24 w' (by decide) h)
    have H5 := Lib.hid (fun g w' h => HI.out g 32 w' (by decide) h)
    have hof : aggOf l = ⟨sgn (ofLe ((l.drop 0).take 8)), sgn (ofLe ((l.drop 8).take 8)), ofLe ((l.drop 16).take 8), sgn (ofLe ((l.drop 24).take 8)), sgn (ofLe ((l.drop 32).take 8))⟩ := rfl
    obtain ⟨v1, e1⟩ : ∃ v, sgn (ofLe ((l.drop 0).take 8)) = v := ⟨_, rfl⟩
    obtain ⟨v2, e2⟩ : ∃ v, sgn (ofLe ((l.drop 8).take 8)) = v := ⟨_, rfl⟩
    obtain ⟨v3, e3⟩ : ∃ v : Int, (ofLe ((l.drop 16).take 8) : Int) = v := ⟨_, rfl⟩
    obtain ⟨v4, e4⟩ : ∃ v, sgn (ofLe ((l.drop 24).take 8)) = v := ⟨_, rfl⟩
    obtain ⟨v5, e5⟩ : ∃ v, sgn (ofLe ((l.drop 32).take 8)) = v := ⟨_, rfl⟩
    rw [e1] at H1
    rw [e2] at H2
    rw [e3] at H3
    rw [e4] at H4
    rw [e5] at H5
    rw [e1, e2, e3, e4, e5] at hof
    rw [hof] at HV ⊢
    clear HI HW e1 e2 e3 e4 e5 hof
    unfold AggV.val at HV ⊢
    clear hz h40 hS hl
    go_enter Tryz.func132, Tryz.ntmps132
    go_wp2_with fail
    refine (HF.out _).mono ?_
    rintro r w1 ⟨g, rfl, u1, b1, hg⟩
    have B1 := Lib.hid ((Blk.new w 61 #[.int .i64 0, .int .i64 0, .int .u64 0, .int .i64 0, .int .i64 0]).below b1)
    have hgn : Hid (w.heap.size < g) := by have h := hg; simp at h; exact h
    have O1 := Lib.hid ((((Own.start w).skip (Fr.none_alloc w (.cells #[.int .i64 0, .int .i64 0, .int .u64 0, .int .i64 0, .int .i64 0] 61))).below b1).also (G := fun j => j = g) (fun j hj => by have := hgn.out; omega))
    have U1 := Lib.hid (show Up w1 g 0 (l.drop 0) from u1)
    clear u1 b1 hg HF
    go_wp2_with fail
    refine (H1.out g w1 U1.out).mono ?_
    rintro r w2 ⟨rfl, u2, f2⟩
    have U2 := Lib.hid u2
    have B2 := Lib.hid (B1.out.fr f2 (by have := hgn.out; omega))
    have O2 := Lib.hid (O1.out.fr f2)
    clear u2 f2 U1 B1 O1
    go_wp2_with fail
    refine (H2.out g w2 U2.out).mono ?_
    rintro r w3 ⟨rfl, u3, f3⟩
    have U3 := Lib.hid u3
    have B3 := Lib.hid (B2.out.fr f3 (by have := hgn.out; omega))
    have O3 := Lib.hid (O2.out.fr f3)
    clear u3 f3 U2 B2 O2
    go_wp2_with fail
    refine (H3.out g w3 U3.out).mono ?_
    rintro r w4 ⟨rfl, u4, f4⟩
    have U4 := Lib.hid u4
    have B4 := Lib.hid (B3.out.fr f4 (by have := hgn.out; omega))
    have O4 := Lib.hid (O3.out.fr f4)
    clear u4 f4 U3 B3 O3
    go_wp2_with fail
    refine (H4.out g w4 U4.out).mono ?_
    rintro r w5 ⟨rfl, u5, f5⟩
    have U5 := Lib.hid u5
    have B5 := Lib.hid (B4.out.fr f5 (by have := hgn.out; omega))
    have O5 := Lib.hid (O4.out.fr f5)
    clear u5 f5 U4 B4 O4
    go_wp2_with fail
    refine (H5.out g w5 U5.out).mono ?_
    rintro r w6 ⟨rfl, u6, f6⟩
    have U6 := Lib.hid u6
    have B6 := Lib.hid (B5.out.fr f6 (by have := hgn.out; omega))
    have O6 := Lib.hid (O5.out.fr f6)
    clear u6 f6 U5 B5 O5
    go_wp2_with fail
    refine (HV.out _).mono ?_
    rintro r w7 ⟨rfl, b7⟩
    clear HV H1 H2 H3 H4 H5
    have C7 := Lib.hid ((Blk.new w6 61 #[.int .i64 v1, .int .i64 v2, .int .u64 v3, .int .i64 v4, .int .i64 v5]).below b7)
    have B7 := Lib.hid ((B6.out.alloc (.cells #[.int .i64 v1, .int .i64 v2, .int .u64 v3, .int .i64 v4, .int .i64 v5] 61)).below b7)
    have O7 := Lib.hid ((O6.out.skip (Fr.none_alloc w6 (.cells #[.int .i64 v1, .int .i64 v2, .int .u64 v3, .int .i64 v4, .int .i64 v5] 61))).below b7)
    have a0 := C7.out.cell 0
    have a1 := C7.out.cell 1
    have a2 := C7.out.cell 2
    have a3 := C7.out.cell 3
    have a4 := C7.out.cell 4
    have b0 := B7.out.cell 0
    have b1 := B7.out.cell 1
    have b2 := B7.out.cell 2
    have b3 := B7.out.cell 3
    have b4 := B7.out.cell 4
    have g0 := B7.out.frozen 0
    have g1 := B7.out.frozen 1
    have g2 := B7.out.frozen 2
    have g3 := B7.out.frozen 3
    have g4 := B7.out.frozen 4
    simp only [List.getElem?_toArray, List.getElem?_cons_succ, List.getElem?_cons_zero] at a0 a1 a2 a3 a4 b0 b1 b2 b3 b4
    clear b7 U6 O6 B6
    cases hk : aggOk ⟨v1, v2, v3, v4, v5⟩
    all_goals have Hk := Lib.hid hk
    all_goals clear hk
    · have o3 := (O7.out.also (G := fun k => k = w.heap.size) (fun k hk => by omega)).fr (Fr.set5 (F := fun k => k = w.heap.size) (g := w.heap.size) (Fr.refl _ w7) (.inl rfl) (.int .i64 0) (.int .i64 0) (.int .u64 0) (.int .i64 0) (.int .i64 0))
      have O8 := Lib.hid o3
      clear o3
      go_wp2_with fail
      refine bodyPost_ret (v := .tuple #[.agg #[.int .i64 0, .int .i64 0, .int .u64 0, .int .i64 0, .int .i64 0], .int .i64 6]) ?_ rfl ⟨by rw [Hk.out]; rfl, O8.out.bel⟩
      simp [results, Tryz.results132, go_sem, *]
    · have o3 := (O7.out.also (G := fun k => k = w.heap.size) (fun k hk => by omega)).fr (Fr.set5 (F := fun k => k = w.heap.size) (g := w.heap.size) (Fr.refl _ w7) (.inl rfl) (.int .i64 v1) (.int .i64 v2) (.int .u64 v3) (.int .i64 v4) (.int .i64 v5))
      have O8 := Lib.hid o3
      clear o3
      go_wp2_with fail
      refine bodyPost_ret (v := .tuple #[.agg #[.int .i64 v1, .int .i64 v2, .int .u64 v3, .int .i64 v4, .int .i64 v5], .int .i64 0]) ?_ rfl ⟨by rw [Hk.out]; rfl, O8.out.bel⟩
      simp [results, Tryz.results132, go_sem, *]
  · unfold aggGetV AggV.val agg0
    rw [if_neg h40]
    have hz2 : (((bstr l).size : Int) != 40) = true := by simp; omega
    obtain ⟨S, hS⟩ : ∃ S, bstr l = S := ⟨_, rfl⟩
    rw [hS] at hz2 ⊢
    clear hz h40 hS hl
    have O1 := Lib.hid ((((Own.start w).skip (Fr.none_alloc w (.cells #[.int .i64 0, .int .i64 0, .int .u64 0, .int .i64 0, .int .i64 0] 61)))).bel)
    go_enter Tryz.func132, Tryz.ntmps132
    go_wp2_with fail
    refine bodyPost_ret (v := .tuple #[.agg #[.int .i64 0, .int .i64 0, .int .u64 0, .int .i64 0, .int .i64 0], .int .i64 5]) ?_ rfl ⟨rfl, O1.out⟩
    simp [results, Tryz.results132, go_sem]
end Go.Proofs.YtkickdmiilmkoaaGreatDoor
