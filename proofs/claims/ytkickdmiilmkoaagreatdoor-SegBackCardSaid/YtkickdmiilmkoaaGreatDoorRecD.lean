/- Walk of rec.get. -/
import Derived.Test.YtkickdmiilmkoaaGreatDoorRecC
namespace Go.Proofs.YtkickdmiilmkoaaGreatDoor
open Go.RowKit

theorem Blk.set26 {w : World} {g : Nat} {t : TypeId} {x0 x1 a0 b0 c0 d0 e0 a b c d e : Value} (h : Blk w g t #[x0, x1, a0, b0, c0, d0, e0]) : Blk (((((w.setCell ⟨g, 2, none⟩ a).setCell ⟨g, 3, none⟩ b).setCell ⟨g, 4, none⟩ c).setCell ⟨g, 5, none⟩ d).setCell ⟨g, 6, none⟩ e) g t #[x0, x1, a, b, c, d, e] := by
  have := ((((h.set_ 2 a).set_ 3 b).set_ 4 c).set_ 5 d).set_ 6 e
  simpa using this
theorem Fr.set26 {w1 w : World} {F : Nat → Prop} (h : Fr F w1 w) {g : Nat} (hg : F g ∨ w1.heap.size ≤ g) (a b c d e : Value) : Fr F w1 (((((w.setCell ⟨g, 2, none⟩ a).setCell ⟨g, 3, none⟩ b).setCell ⟨g, 4, none⟩ c).setCell ⟨g, 5, none⟩ d).setCell ⟨g, 6, none⟩ e) :=
  ((((h.setCell (p := ⟨g, 2, none⟩) hg a).setCell (p := ⟨g, 3, none⟩) hg b).setCell (p := ⟨g, 4, none⟩) hg c).setCell (p := ⟨g, 5, none⟩) hg d).setCell (p := ⟨g, 6, none⟩) hg e
theorem Fr.set7 {w1 w : World} {F : Nat → Prop} (h : Fr F w1 w) {g : Nat} (hg : F g ∨ w1.heap.size ≤ g) (x y a b c d e : Value) : Fr F w1 (((((((w.setCell ⟨g, 0, none⟩ x).setCell ⟨g, 1, none⟩ y).setCell ⟨g, 2, none⟩ a).setCell ⟨g, 3, none⟩ b).setCell ⟨g, 4, none⟩ c).setCell ⟨g, 5, none⟩ d).setCell ⟨g, 6, none⟩ e) :=
  ((h.setCell (p := ⟨g, 0, none⟩) hg x).setCell (p := ⟨g, 1, none⟩) hg y).set26 hg a b c d e
theorem Blk.set7 {w : World} {g : Nat} {t : TypeId} {x0 y0 a0 b0 c0 d0 e0 x y a b c d e : Value} (h : Blk w g t #[x0, y0, a0, b0, c0, d0, e0]) : Blk (((((((w.setCell ⟨g, 0, none⟩ x).setCell ⟨g, 1, none⟩ y).setCell ⟨g, 2, none⟩ a).setCell ⟨g, 3, none⟩ b).setCell ⟨g, 4, none⟩ c).setCell ⟨g, 5, none⟩ d).setCell ⟨g, 6, none⟩ e) g t #[x, y, a, b, c, d, e] := by
  have := ((((((h.set_ 0 x).set_ 1 y).set_ 2 a).set_ 3 b).set_ 4 c).set_ 5 d).set_ 6 e
  simpa using this

/-- What rec.get reads: the record, and agg.Get's error. -/
def recRd (l : List UInt8) : RecV × Int :=
  let n := uName 0 l
  let t := uTake n.1 n.2.1 8
  let r := uTake t.1 t.2.1 t.2.1.length
  let a := aggGetV r.2.2
  (⟨bstr n.2.2, sgn (ofLe t.2.2), a.1⟩, a.2)
def rec0 : RecV := ⟨{ data := #[] }, 0, agg0⟩
def getOk (l : List UInt8) : Bool := decide ((recRd l).2 = 0) && recOk (recRd l).1 && decide (recB (recRd l).1 = l)
theorem ofLe_lt64 {l : List UInt8} (h : l.length ≤ 8) : ofLe l < 18446744073709551616 := by
  have h1 := ofLe_lt l
  have h2 : 256 ^ l.length ≤ 256 ^ 8 := Nat.pow_le_pow_right (by decide) h
  have h3 : (256 : Nat) ^ 8 = 18446744073709551616 := by decide
  omega
theorem sgn_in {n : Nat} (h : n < 18446744073709551616) : in64 (sgn n) := by
  unfold sgn in64
  split <;> omega
theorem sgn8_in {l : List UInt8} (h : l.length ≤ 8) : in64 (sgn (ofLe l)) := sgn_in (ofLe_lt64 h)
theorem take8_len (l : List UInt8) : (l.take 8).length ≤ 8 := by rw [List.length_take]; omega
theorem aggGet_wf (l : List UInt8) : (aggGetV l).1.wf := by
  have h0 : agg0.wf := by unfold agg0 AggV.wf in64; decide
  unfold aggGetV
  split
  · cases aggOk (aggOf l)
    · exact h0
    · exact ⟨sgn8_in (take8_len _), sgn8_in (take8_len _), ⟨by show (0 : Int) ≤ ((ofLe _ : Nat) : Int); omega, by have := ofLe_lt64 (take8_len (l.drop 16)); show ((ofLe ((l.drop 16).take 8) : Nat) : Int) ≤ _; omega⟩, sgn8_in (take8_len _), sgn8_in (take8_len _)⟩
  · exact h0
theorem uName_len (e : Int) (l : List UInt8) : (uName e l).2.2.length ≤ 16 := by
  have h := uTake_len e l 16
  unfold uName
  split
  · simp
  · split
    · rw [List.length_take, List.length_drop]; omega
    · simp
theorem recRd_wf (l : List UInt8) : (recRd l).1.wf := by
  refine ⟨sgn8_in (uTake_len _ _ 8), aggGet_wf _, ?_⟩
  show (bstr (uName 0 l).2.2).size ≤ maxLen
  rw [bstr_size]
  have := uName_len 0 l
  unfold maxLen; omega
theorem uTake_rest (e : Int) (b : List UInt8) (n : Nat) : (uTake e b n).2.1.length ≤ b.length := by
  unfold uTake
  split
  · split
    · exact Nat.le_refl _
    · show (b.drop n).length ≤ _; rw [List.length_drop]; omega
  · exact Nat.le_refl _
theorem uName_rest (e : Int) (b : List UInt8) : (uName e b).2.1.length ≤ b.length := by
  have h := uTake_rest e b 16
  unfold uName
  split
  · exact h
  · split <;> exact h

set_option maxRecDepth 100000 in
set_option maxHeartbeats 4000000 in
theorem get_any (l : List UInt8) (hl : l.length ≤ 1099511627776) (w : World) :
    Calls Tryz.prog 88 #[.string (bstr l)] w fun r w' => r = .returned (bif getOk l then .tuple #[(recRd l).1.val, .int .i64 0] else .tuple #[rec0.val, .int .i64 6]) ∧ Below w.heap.size w w' := by
  have HF : Hid (∀ w', Calls Tryz.prog 47 #[.string (bstr l)] w' fun r w'' => ∃ g, r = .returned (.pointer (some ⟨g, 0, none⟩)) ∧ Up w'' g 0 l ∧ Below w'.heap.size w' w'' ∧ w'.heap.size ≤ g) := fun w' => from_any l w' hl
  obtain ⟨⟨e1, b1, nm⟩, hN⟩ : ∃ p, uName 0 l = p := ⟨_, rfl⟩
  obtain ⟨⟨e2, b2, ti⟩, hT⟩ : ∃ p, uTake e1 b1 8 = p := ⟨_, rfl⟩
  obtain ⟨⟨e3, b3, rs⟩, hR⟩ : ∃ p, uTake e2 b2 b2.length = p := ⟨_, rfl⟩
  obtain ⟨⟨ag, ae⟩, hA⟩ : ∃ p, aggGetV rs = p := ⟨_, rfl⟩
  have hb1 : b1.length ≤ 1099511627776 := by have := uName_rest 0 l; rw [hN] at this; simp only at this; omega
  have hb2 : b2.length ≤ 1099511627776 := by have := uTake_rest e1 b1 8; rw [hT] at this; simp only at this; omega
  have hrs : rs.length ≤ 1099511627776 := by have := uTake_len e2 b2 b2.length; rw [hR] at this; simp only at this; omega
  have hRd : recRd l = (⟨bstr nm, sgn (ofLe ti), ag⟩, ae) := by simp only [recRd, hN, hT, hR, hA]
  have hwf := recRd_wf l
  unfold getOk
  rw [hRd] at hwf ⊢
  simp only at hwf ⊢
  have HN : Hid (∀ g w', Up w' g 0 l → Calls Tryz.prog 99 #[.pointer (some ⟨g, 0, none⟩)] w' fun r w'' => r = .returned (.string (bstr nm)) ∧ Up w'' g e1 b1 ∧ Fr (fun k => k = g) w' w'') := fun g w' h => by
    have := name_any g 0 l w' h hl
    rw [hN] at this
    exact this
  have HI : Hid (∀ g w', Up w' g e1 b1 → Calls Tryz.prog 49 #[.pointer (some ⟨g, 0, none⟩)] w' fun r w'' => r = .returned (.int .i64 (sgn (ofLe ti))) ∧ Up w'' g e2 b2 ∧ Fr (fun k => k = g) w' w'') := fun g w' h => by
    have := int_any g e1 b1 w' h hb1
    rw [hT] at this
    exact this
  have HR : Hid (∀ g w', Up w' g e2 b2 → Calls Tryz.prog 50 #[.pointer (some ⟨g, 0, none⟩)] w' fun r w'' => r = .returned (.string (bstr rs)) ∧ Up w'' g e3 b3 ∧ Fr (fun k => k = g) w' w'') := fun g w' h => by
    have := rest_any g e2 b2 w' h hb2
    rw [hR] at this
    exact this
  have HA : Hid (∀ w', Calls Tryz.prog 132 #[.string (bstr rs)] w' fun r w'' => r = .returned (.tuple #[ag.val, .int .i64 ae]) ∧ Below w'.heap.size w' w'') := fun w' => by
    have := aggget_any rs hrs w'
    rw [hA] at this
    exact this
  have HP := Lib.hid (fun w' => put_any _ hwf w')
  obtain ⟨rr, hrr⟩ : ∃ rr : RecV, rr = ⟨bstr nm, sgn (ofLe ti), ag⟩ := ⟨_, rfl⟩
  obtain ⟨G, hG0⟩ : ∃ G, (decide (ae = 0) && recOk ⟨bstr nm, sgn (ofLe ti), ag⟩ && decide (recB ⟨bstr nm, sgn (ofLe ti), ag⟩ = l)) = G := ⟨_, rfl⟩
  rw [hG0]
  have hG : Hid (G = (decide (ae = 0) && recOk rr && decide (recB rr = l))) := by rw [hrr]; exact hG0.symm
  clear hG0
  rw [← hrr] at HP
  have Hrr := Lib.hid hrr
  have hlen : Hid (∀ r : RecV, recOk r = true → (bstr (recB r)).size ≤ 64) := fun r h => by rw [bstr_size, recB_len r (validB_of h)]; exact Nat.le_refl _
  have HE : Hid (recOk rr = true → ((bstr (recB rr)).toList != (bstr l).toList) = !decide (recB rr = l)) := fun _ => by
    rw [Lib.toList_data, Lib.toList_data, bstr_list, bstr_list]
    rw [Bool.eq_iff_iff]; simp
  obtain ⟨c, h, lo, m, x⟩ := ag
  obtain ⟨NM, hNM⟩ : ∃ NM, bstr nm = NM := ⟨_, rfl⟩
  obtain ⟨ST, hST⟩ : ∃ ST, sgn (ofLe ti) = ST := ⟨_, rfl⟩
  obtain ⟨RS, hRS⟩ : ∃ RS, bstr rs = RS := ⟨_, rfl⟩
  obtain ⟨S, hS⟩ : ∃ S, bstr l = S := ⟨_, rfl⟩
  rw [hNM, hST] at Hrr
  rw [hNM] at HN
  rw [hST] at HI
  rw [hRS] at HR HA
  rw [hS] at HF HE ⊢
  rw [hNM, hST]
  have HV : Hid (rr.val = .agg #[.string NM, .int .i64 ST, .int .i64 c, .int .i64 h, .int .u64 lo, .int .i64 m, .int .i64 x]) := by show _ = _; rw [Hrr.out]; rfl
  rw [HV.out] at HP
  clear hrr hN hT hR hA hb1 hb2 hrs hRd hwf hNM hST hRS hS hl HV
  unfold AggV.val at HA
  unfold RecV.val rec0 agg0
  go_enter Tryz.func88, Tryz.ntmps88
  go_wp2_with fail
  refine (HF.out _).mono ?_
  rintro r w1 ⟨g, rfl, u1, f1, hg⟩
  have B1 := Lib.hid ((Blk.new w 63 #[.string { data := #[] }, .int .i64 0, .int .i64 0, .int .i64 0, .int .u64 0, .int .i64 0, .int .i64 0]).below f1)
  have hgn : Hid (w.heap.size < g) := by have h := hg; simp at h; exact h
  have O1 := Lib.hid ((((Own.start w).skip (Fr.none_alloc w (.cells #[.string { data := #[] }, .int .i64 0, .int .i64 0, .int .i64 0, .int .u64 0, .int .i64 0, .int .i64 0] 63))).below f1).also (G := fun j => j = g) (fun j hj => by have := hgn.out; omega))
  have U1 := Lib.hid u1
  have G1 := Lib.hid u1.lt
  clear u1 f1 hg HF
  go_wp2_with fail
  refine (HN.out g w1 U1.out).mono ?_
  rintro r w2 ⟨rfl, u2, f2⟩
  have U2 := Lib.hid u2
  have B2 := Lib.hid (B1.out.fr f2 (by have := hgn.out; omega))
  have O2 := Lib.hid (O1.out.fr f2)
  clear u2 f2 U1 B1 O1
  go_wp2_with fail
  refine (HI.out g w2 U2.out).mono ?_
  rintro r w3 ⟨rfl, u3, f3⟩
  have U3 := Lib.hid u3
  have B3 := Lib.hid (B2.out.fr f3 (by have := hgn.out; omega))
  have O3 := Lib.hid (O2.out.fr f3)
  clear u3 f3 U2 B2 O2
  go_wp2_with fail
  refine (HR.out g _ (U3.out.alloc (.cells #[.string NM, .int .i64 ST, .int .i64 0, .int .i64 0, .int .u64 0, .int .i64 0, .int .i64 0] 63))).mono ?_
  rintro r w4 ⟨rfl, u4, f4⟩
  have hg3 : Hid (g < w3.heap.size) := U3.out.lt
  have R4 := Lib.hid ((Blk.new w3 63 #[.string NM, .int .i64 ST, .int .i64 0, .int .i64 0, .int .u64 0, .int .i64 0, .int .i64 0]).fr f4 (by have := hg3.out; omega))
  have B4 := Lib.hid ((B3.out.alloc (.cells #[.string NM, .int .i64 ST, .int .i64 0, .int .i64 0, .int .u64 0, .int .i64 0, .int .i64 0] 63)).fr f4 (by have := hgn.out; omega))
  have O4 := Lib.hid ((O3.out.skip (Fr.none_alloc w3 (.cells #[.string NM, .int .i64 ST, .int .i64 0, .int .i64 0, .int .u64 0, .int .i64 0, .int .i64 0] 63))).fr f4)
  have hw3 : Hid (w.heap.size < w3.heap.size) := B3.out.lt
  clear u4 f4 U3 B3 O3
  go_wp2_with fail
  refine (HA.out w4).mono ?_
  rintro r w5 ⟨rfl, f5⟩
  have R5 := Lib.hid (R4.out.below f5)
  have B5 := Lib.hid (B4.out.below f5)
  have O5 := Lib.hid (O4.out.below f5)
  have hw5 : Hid (w3.heap.size < w5.heap.size) := R5.out.lt
  clear f5 R4 B4 O4 HN HI HR HA
  have e0 := fun o => (R5.out.alloc o).cell 0
  have e1 := fun o => (R5.out.alloc o).cell 1
  have e2 := fun o => (R5.out.alloc o).cell 2
  have e3 := fun o => (R5.out.alloc o).cell 3
  have e4 := fun o => (R5.out.alloc o).cell 4
  have e5 := fun o => (R5.out.alloc o).cell 5
  have e6 := fun o => (R5.out.alloc o).cell 6
  have g2 := fun o => (R5.out.alloc o).frozen 2
  have g3 := fun o => (R5.out.alloc o).frozen 3
  have g4 := fun o => (R5.out.alloc o).frozen 4
  have g5 := fun o => (R5.out.alloc o).frozen 5
  have g6 := fun o => (R5.out.alloc o).frozen 6
  simp only [List.getElem?_toArray, List.getElem?_cons_succ, List.getElem?_cons_zero] at e0 e1 e2 e3 e4 e5 e6
  go_wp2_with fail
  obtain ⟨W6, hW6⟩ : ∃ W6, W6 = (((((w5.alloc (.cells #[.int .i64 c, .int .i64 h, .int .u64 lo, .int .i64 m, .int .i64 x] 61)).setCell ⟨w3.heap.size, 2, none⟩ (.int .i64 c)).setCell ⟨w3.heap.size, 3, none⟩ (.int .i64 h)).setCell ⟨w3.heap.size, 4, none⟩ (.int .u64 lo)).setCell ⟨w3.heap.size, 5, none⟩ (.int .i64 m)).setCell ⟨w3.heap.size, 6, none⟩ (.int .i64 x) := ⟨_, rfl⟩
  rw [← hW6]
  have R6 := Lib.hid (hW6 ▸ (R5.out.alloc _).set26 : Blk W6 w3.heap.size 63 #[.string NM, .int .i64 ST, .int .i64 c, .int .i64 h, .int .u64 lo, .int .i64 m, .int .i64 x])
  have F6 : Fr (fun k => k = w3.heap.size) w5 W6 := hW6 ▸ Fr.set26 (F := fun k => k = w3.heap.size) (g := w3.heap.size) ((Fr.refl _ w5).alloc _) (.inl rfl) _ _ _ _ _
  have B6 := Lib.hid (B5.out.fr F6 (by have := hw3.out; omega))
  have O6 := Lib.hid ((O5.out.also (G := fun k => k = w3.heap.size) (fun k hk => by have := hw3.out; omega)).fr F6)
  clear hW6 F6 e0 e1 e2 e3 e4 e5 e6 g2 g3 g4 g5 g6 R5 B5 O5
  refine (HP.out W6).mono ?_
  rintro r w8 ⟨rfl, f8⟩
  have R8 := R6.out.below f8
  have B8 := B6.out.below f8
  have O8 := Lib.hid (O6.out.below f8)
  have a0 := R8.cell 0
  have a1 := R8.cell 1
  have a2 := R8.cell 2
  have a3 := R8.cell 3
  have a4 := R8.cell 4
  have a5 := R8.cell 5
  have a6 := R8.cell 6
  have b0 := B8.cell 0
  have b1 := B8.cell 1
  have b2 := B8.cell 2
  have b3 := B8.cell 3
  have b4 := B8.cell 4
  have b5 := B8.cell 5
  have b6 := B8.cell 6
  have g0 := B8.frozen 0
  have g1 := B8.frozen 1
  have g2 := B8.frozen 2
  have g3 := B8.frozen 3
  have g4 := B8.frozen 4
  have g5 := B8.frozen 5
  have g6 := B8.frozen 6
  simp only [List.getElem?_toArray, List.getElem?_cons_succ, List.getElem?_cons_zero] at a0 a1 a2 a3 a4 a5 a6 b0 b1 b2 b3 b4 b5 b6
  have B8' := Lib.hid B8
  clear f8 R8 B8 R6 B6 O6 HP
  cases hok : recOk rr
  · have HG := Lib.hid (show G = false by rw [hG.out, hok, Bool.and_false, Bool.false_and])
    clear hok
    by_cases hae : (ae != 0) = true
    all_goals
      go_wp2_with fail
      clear a0 a1 a2 a3 a4 a5 a6 b0 b1 b2 b3 b4 b5 b6 g0 g1 g2 g3 g4 g5 g6
      obtain ⟨W9, hW9⟩ : ∃ W9, W9 = ((((((w8.setCell ⟨w.heap.size, 0, none⟩ (.string { data := #[] })).setCell ⟨w.heap.size, 1, none⟩ (.int .i64 0)).setCell ⟨w.heap.size, 2, none⟩ (.int .i64 0)).setCell ⟨w.heap.size, 3, none⟩ (.int .i64 0)).setCell ⟨w.heap.size, 4, none⟩ (.int .u64 0)).setCell ⟨w.heap.size, 5, none⟩ (.int .i64 0)).setCell ⟨w.heap.size, 6, none⟩ (.int .i64 0) := ⟨_, rfl⟩
      rw [← hW9]
      have B9 := B8'.out.set7 (x := (.string { data := #[] })) (y := (.int .i64 0)) (a := (.int .i64 0)) (b := (.int .i64 0)) (c := (.int .u64 0)) (d := (.int .i64 0)) (e := (.int .i64 0))
      have O9 := (O8.out.also (G := fun k => k = w.heap.size) (fun k hk => by omega)).fr (Fr.set7 (F := fun k => k = w.heap.size) (g := w.heap.size) (Fr.refl _ w8) (.inl rfl) (.string { data := #[] }) (.int .i64 0) (.int .i64 0) (.int .i64 0) (.int .u64 0) (.int .i64 0) (.int .i64 0))
      rw [← hW9] at B9 O9
      have b0 := B9.cell 0
      have b1 := B9.cell 1
      have b2 := B9.cell 2
      have b3 := B9.cell 3
      have b4 := B9.cell 4
      have b5 := B9.cell 5
      have b6 := B9.cell 6
      simp only [List.getElem?_toArray, List.getElem?_cons_succ, List.getElem?_cons_zero] at b0 b1 b2 b3 b4 b5 b6
      refine bodyPost_ret (v := .tuple #[.agg #[.string { data := #[] }, .int .i64 0, .int .i64 0, .int .i64 0, .int .u64 0, .int .i64 0, .int .i64 0], .int .i64 6]) ?_ rfl ⟨by rw [HG.out]; rfl, O9.bel⟩
      simp [results, Tryz.results88, go_sem, b0, b1, b2, b3, b4, b5, b6]
  · have Hok := Lib.hid hok
    have hE := HE.out hok
    have hsz := hlen.out rr hok
    obtain ⟨T, hT⟩ : ∃ T, bstr (recB rr) = T := ⟨_, rfl⟩
    rw [hT] at hE hsz ⊢
    by_cases hae : ae = 0
    · subst hae
      by_cases heq : recB rr = l
      · have HG := Lib.hid (show G = true by rw [hG.out, hok, decide_eq_true heq]; rfl)
        rw [decide_eq_true heq, Bool.not_true] at hE
        have hE2 : (T.toList == S.toList) = true := by simpa using hE
        clear hok hT heq
        go_wp2_with fail
        clear a0 a1 a2 a3 a4 a5 a6 b0 b1 b2 b3 b4 b5 b6 g0 g1 g2 g3 g4 g5 g6
        obtain ⟨W9, hW9⟩ : ∃ W9, W9 = ((((((w8.setCell ⟨w.heap.size, 0, none⟩ (.string NM)).setCell ⟨w.heap.size, 1, none⟩ (.int .i64 ST)).setCell ⟨w.heap.size, 2, none⟩ (.int .i64 c)).setCell ⟨w.heap.size, 3, none⟩ (.int .i64 h)).setCell ⟨w.heap.size, 4, none⟩ (.int .u64 lo)).setCell ⟨w.heap.size, 5, none⟩ (.int .i64 m)).setCell ⟨w.heap.size, 6, none⟩ (.int .i64 x) := ⟨_, rfl⟩
        rw [← hW9]
        have B9 := B8'.out.set7 (x := (.string NM)) (y := (.int .i64 ST)) (a := (.int .i64 c)) (b := (.int .i64 h)) (c := (.int .u64 lo)) (d := (.int .i64 m)) (e := (.int .i64 x))
        have O9 := (O8.out.also (G := fun k => k = w.heap.size) (fun k hk => by omega)).fr (Fr.set7 (F := fun k => k = w.heap.size) (g := w.heap.size) (Fr.refl _ w8) (.inl rfl) (.string NM) (.int .i64 ST) (.int .i64 c) (.int .i64 h) (.int .u64 lo) (.int .i64 m) (.int .i64 x))
        rw [← hW9] at B9 O9
        have b0 := B9.cell 0
        have b1 := B9.cell 1
        have b2 := B9.cell 2
        have b3 := B9.cell 3
        have b4 := B9.cell 4
        have b5 := B9.cell 5
        have b6 := B9.cell 6
        simp only [List.getElem?_toArray, List.getElem?_cons_succ, List.getElem?_cons_zero] at b0 b1 b2 b3 b4 b5 b6
        refine bodyPost_ret (v := .tuple #[.agg #[.string NM, .int .i64 ST, .int .i64 c, .int .i64 h, .int .u64 lo, .int .i64 m, .int .i64 x], .int .i64 0]) ?_ rfl ⟨by rw [HG.out]; rfl, O9.bel⟩
        simp [results, Tryz.results88, go_sem, b0, b1, b2, b3, b4, b5, b6]
      · have HG := Lib.hid (show G = false by rw [hG.out, decide_eq_false heq, Bool.and_false])
        rw [decide_eq_false heq, Bool.not_false] at hE
        have hE2 : (T.toList == S.toList) = false := by simpa using hE
        clear hok hT heq
        go_wp2_with fail
        clear a0 a1 a2 a3 a4 a5 a6 b0 b1 b2 b3 b4 b5 b6 g0 g1 g2 g3 g4 g5 g6
        obtain ⟨W9, hW9⟩ : ∃ W9, W9 = ((((((w8.setCell ⟨w.heap.size, 0, none⟩ (.string { data := #[] })).setCell ⟨w.heap.size, 1, none⟩ (.int .i64 0)).setCell ⟨w.heap.size, 2, none⟩ (.int .i64 0)).setCell ⟨w.heap.size, 3, none⟩ (.int .i64 0)).setCell ⟨w.heap.size, 4, none⟩ (.int .u64 0)).setCell ⟨w.heap.size, 5, none⟩ (.int .i64 0)).setCell ⟨w.heap.size, 6, none⟩ (.int .i64 0) := ⟨_, rfl⟩
        rw [← hW9]
        have B9 := B8'.out.set7 (x := (.string { data := #[] })) (y := (.int .i64 0)) (a := (.int .i64 0)) (b := (.int .i64 0)) (c := (.int .u64 0)) (d := (.int .i64 0)) (e := (.int .i64 0))
        have O9 := (O8.out.also (G := fun k => k = w.heap.size) (fun k hk => by omega)).fr (Fr.set7 (F := fun k => k = w.heap.size) (g := w.heap.size) (Fr.refl _ w8) (.inl rfl) (.string { data := #[] }) (.int .i64 0) (.int .i64 0) (.int .i64 0) (.int .u64 0) (.int .i64 0) (.int .i64 0))
        rw [← hW9] at B9 O9
        have b0 := B9.cell 0
        have b1 := B9.cell 1
        have b2 := B9.cell 2
        have b3 := B9.cell 3
        have b4 := B9.cell 4
        have b5 := B9.cell 5
        have b6 := B9.cell 6
        simp only [List.getElem?_toArray, List.getElem?_cons_succ, List.getElem?_cons_zero] at b0 b1 b2 b3 b4 b5 b6
        refine bodyPost_ret (v := .tuple #[.agg #[.string { data := #[] }, .int .i64 0, .int .i64 0, .int .i64 0, .int .u64 0, .int .i64 0, .int .i64 0], .int .i64 6]) ?_ rfl ⟨by rw [HG.out]; rfl, O9.bel⟩
        simp [results, Tryz.results88, go_sem, b0, b1, b2, b3, b4, b5, b6]
    · have HG := Lib.hid (show G = false by rw [hG.out, decide_eq_false hae, Bool.false_and, Bool.false_and])
      have hae2 : (ae != 0) = true := by simpa using hae
      clear hok hT hae
      go_wp2_with fail
      clear a0 a1 a2 a3 a4 a5 a6 b0 b1 b2 b3 b4 b5 b6 g0 g1 g2 g3 g4 g5 g6
      obtain ⟨W9, hW9⟩ : ∃ W9, W9 = ((((((w8.setCell ⟨w.heap.size, 0, none⟩ (.string { data := #[] })).setCell ⟨w.heap.size, 1, none⟩ (.int .i64 0)).setCell ⟨w.heap.size, 2, none⟩ (.int .i64 0)).setCell ⟨w.heap.size, 3, none⟩ (.int .i64 0)).setCell ⟨w.heap.size, 4, none⟩ (.int .u64 0)).setCell ⟨w.heap.size, 5, none⟩ (.int .i64 0)).setCell ⟨w.heap.size, 6, none⟩ (.int .i64 0) := ⟨_, rfl⟩
      rw [← hW9]
      have B9 := B8'.out.set7 (x := (.string { data := #[] })) (y := (.int .i64 0)) (a := (.int .i64 0)) (b := (.int .i64 0)) (c := (.int .u64 0)) (d := (.int .i64 0)) (e := (.int .i64 0))
      have O9 := (O8.out.also (G := fun k => k = w.heap.size) (fun k hk => by omega)).fr (Fr.set7 (F := fun k => k = w.heap.size) (g := w.heap.size) (Fr.refl _ w8) (.inl rfl) (.string { data := #[] }) (.int .i64 0) (.int .i64 0) (.int .i64 0) (.int .u64 0) (.int .i64 0) (.int .i64 0))
      rw [← hW9] at B9 O9
      have b0 := B9.cell 0
      have b1 := B9.cell 1
      have b2 := B9.cell 2
      have b3 := B9.cell 3
      have b4 := B9.cell 4
      have b5 := B9.cell 5
      have b6 := B9.cell 6
      simp only [List.getElem?_toArray, List.getElem?_cons_succ, List.getElem?_cons_zero] at b0 b1 b2 b3 b4 b5 b6
      refine bodyPost_ret (v := .tuple #[.agg #[.string { data := #[] }, .int .i64 0, .int .i64 0, .int .i64 0, .int .u64 0, .int .i64 0, .int .i64 0], .int .i64 6]) ?_ rfl ⟨by rw [HG.out]; rfl, O9.bel⟩
      simp [results, Tryz.results88, go_sem, b0, b1, b2, b3, b4, b5, b6]
end Go.Proofs.YtkickdmiilmkoaaGreatDoor
