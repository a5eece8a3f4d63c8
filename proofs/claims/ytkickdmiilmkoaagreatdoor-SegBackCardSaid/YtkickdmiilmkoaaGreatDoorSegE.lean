/- Walks of seg.read, seg.GetHead. -/
import Derived.Test.YtkickdmiilmkoaaGreatDoorSegD
namespace Go.Proofs.YtkickdmiilmkoaaGreatDoor
open Go.RowKit

theorem Blk.set6 {w : World} {g : Nat} {t : TypeId} {a0 b0 c0 d0 e0 f0 a b c d e f : Value} (h : Blk w g t #[a0, b0, c0, d0, e0, f0]) : Blk ((((((w.setCell ⟨g, 0, none⟩ (a)).setCell ⟨g, 1, none⟩ (b)).setCell ⟨g, 2, none⟩ (c)).setCell ⟨g, 3, none⟩ (d)).setCell ⟨g, 4, none⟩ (e)).setCell ⟨g, 5, none⟩ (f)) g t #[a, b, c, d, e, f] := by
  have := (((((h.set_ 0 a).set_ 1 b).set_ 2 c).set_ 3 d).set_ 4 e).set_ 5 f
  simpa using this
theorem Fr.set6 {w1 w : World} {F : Nat → Prop} (h : Fr F w1 w) {g : Nat} (hg : F g ∨ w1.heap.size ≤ g) (a b c d e f : Value) : Fr F w1 ((((((w.setCell ⟨g, 0, none⟩ (a)).setCell ⟨g, 1, none⟩ (b)).setCell ⟨g, 2, none⟩ (c)).setCell ⟨g, 3, none⟩ (d)).setCell ⟨g, 4, none⟩ (e)).setCell ⟨g, 5, none⟩ (f)) :=
  (h.set5 hg a b c d e).setCell (p := ⟨g, 5, none⟩) hg f

def hdRd (b : List UInt8) : HeadV := ⟨ofLe ((b.drop 4).take 8), ofLe ((b.drop 12).take 1), ofLe ((b.drop 13).take 1), ofLe ((b.drop 14).take 2), ofLe ((b.drop 16).take 2), ofLe ((b.drop 18).take 2)⟩
def goodB (h : HeadV) : Bool := rightB h.id h.tier h.shard && (decide (h.place < h.of) && (decide (h.of ≤ 4096) && (decide (1 ≤ h.recs) && decide (h.recs ≤ 3))))
def head0 : HeadV := ⟨0, 0, 0, 0, 0, 0⟩
/-- The error of a block's head. -/
def hdE (b : List UInt8) : Int := if b.length = 256 then (bif goodB (hdRd b) && decide (headB (hdRd b) = b.take 48) then 0 else 6) else 5
def hdV (b : List UInt8) : HeadV := if hdE b = 0 then hdRd b else head0
theorem ofLe_lt1 {l : List UInt8} (h : l.length ≤ 1) : ofLe l < 256 := by
  have h1 := ofLe_lt l
  have h2 : 256 ^ l.length ≤ 256 ^ 1 := Nat.pow_le_pow_right (by decide) h
  omega
theorem ofLe_lt2 {l : List UInt8} (h : l.length ≤ 2) : ofLe l < 65536 := by
  have h1 := ofLe_lt l
  have h2 : 256 ^ l.length ≤ 256 ^ 2 := Nat.pow_le_pow_right (by decide) h
  omega
theorem taken_le {α : Type} (l : List α) (n : Nat) : (l.take n).length ≤ n := by rw [List.length_take]; omega
theorem hdRd_fit (b : List UInt8) : (hdRd b).fit := by
  have h0 := ofLe_lt64 (taken_le (b.drop 4) 8)
  have h1 := ofLe_lt1 (taken_le (b.drop 12) 1)
  have h2 := ofLe_lt1 (taken_le (b.drop 13) 1)
  have h3 := ofLe_lt2 (taken_le (b.drop 14) 2)
  have h4 := ofLe_lt2 (taken_le (b.drop 16) 2)
  have h5 := ofLe_lt2 (taken_le (b.drop 18) 2)
  unfold HeadV.fit hdRd
  simp only
  omega
theorem uSmall_1 {b : List UInt8} (h : 1 ≤ b.length) : uSmall 1 0 b = (0, b.drop 1, ofLe (b.take 1)) := by
  unfold uSmall
  rw [if_pos rfl, if_pos (show fitsB 1 0 = true from rfl), show Int.toNat 1 = 1 from rfl, uTake_in h]
theorem uSmall_2 {b : List UInt8} (h : 2 ≤ b.length) : uSmall 2 0 b = (0, b.drop 2, ofLe (b.take 2)) := by
  unfold uSmall
  rw [if_pos rfl, if_pos (show fitsB 2 0 = true from rfl), show Int.toNat 2 = 2 from rfl, uTake_in h]
theorem sub_take {b : List UInt8} {k n : Nat} (h : k + n ≤ 44) : (((b.take 48).drop 4).drop k).take n = (b.drop (4 + k)).take n := by
  rw [List.drop_drop, List.drop_take, List.take_take, Nat.min_eq_left (by omega)]

theorem read_short (s : ByteArray) (hs : s.size ≤ 1099511627776) (h : s.size ≠ 256) (w : World) :
    Calls Tryz.prog 103 #[.string s] w fun r w' => r = .returned (.tuple #[head0.val, .int .i64 5]) ∧ Below w.heap.size w w' := by
  have hz : ¬ (s.size : Int) = 256 := by omega
  have hz2 : ((s.size : Int) != 256) = true := by simpa using hz
  have B := Lib.hid (Blk.new w 136 #[.int .u64 0, .int .i64 0, .int .i64 0, .int .i64 0, .int .i64 0, .int .i64 0])
  have O := Lib.hid (((Own.start w).skip (Fr.none_alloc w (.cells #[.int .u64 0, .int .i64 0, .int .i64 0, .int .i64 0, .int .i64 0, .int .i64 0] 136))).also (G := fun k => k = w.heap.size) (fun k hk => by omega))
  have a0 := B.out.cell 0
  have g0 := B.out.frozen 0
  have a1 := B.out.cell 1
  have g1 := B.out.frozen 1
  have a2 := B.out.cell 2
  have g2 := B.out.frozen 2
  have a3 := B.out.cell 3
  have g3 := B.out.frozen 3
  have a4 := B.out.cell 4
  have g4 := B.out.frozen 4
  have a5 := B.out.cell 5
  have g5 := B.out.frozen 5
  simp only [List.getElem?_toArray, List.getElem?_cons_succ, List.getElem?_cons_zero] at a0 a1 a2 a3 a4 a5
  unfold head0 HeadV.val
  clear hz
  go_enter Tryz.func103, Tryz.ntmps103
  go_wp2_with fail
  clear a0 a1 a2 a3 a4 a5 g0 g1 g2 g3 g4 g5
  refine bodyPost_ret (v := .tuple #[.agg #[.int .u64 0, .int .i64 0, .int .i64 0, .int .i64 0, .int .i64 0, .int .i64 0], .int .i64 5]) ?_ rfl ⟨rfl, O.out.bel⟩
  have a0 := B.out.cell 0
  have a1 := B.out.cell 1
  have a2 := B.out.cell 2
  have a3 := B.out.cell 3
  have a4 := B.out.cell 4
  have a5 := B.out.cell 5
  simp only [List.getElem?_toArray, List.getElem?_cons_succ, List.getElem?_cons_zero] at a0 a1 a2 a3 a4 a5
  simp [results, Tryz.results103, go_sem, a0, a1, a2, a3, a4, a5]

set_option maxRecDepth 100000 in
set_option maxHeartbeats 8000000 in
theorem read_any (l : List UInt8) (hl : l.length = 256) (w : World) :
    Calls Tryz.prog 103 #[.string (bstr l)] w fun r w' => r = .returned (bif goodB (hdRd l) && decide (headB (hdRd l) = l.take 48) then .tuple #[(hdRd l).val, .int .i64 0] else .tuple #[head0.val, .int .i64 6]) ∧ Below w.heap.size w w' := by
  have hz : (bstr l).size = 256 := by rw [bstr_size, hl]
  have hul : ((l.take 48).drop 4).length = 44 := by rw [List.length_drop, List.length_take]; omega
  have HF : Hid (∀ w', Calls Tryz.prog 47 #[.string ((bstr l).extract 4 48)] w' fun r w'' => ∃ g, r = .returned (.pointer (some ⟨g, 0, none⟩)) ∧ Up w'' g 0 ((l.take 48).drop 4) ∧ Below w'.heap.size w' w'' ∧ w'.heap.size ≤ g) := fun w' => by
    rw [bstr_extract]; exact from_any _ w' (by omega)
  have H0 : Hid (∀ g w', Up w' g 0 ((l.take 48).drop 4) → Calls Tryz.prog 111 #[.pointer (some ⟨g, 0, none⟩)] w' fun r w'' => r = .returned (.int .u64 (ofLe ((l.drop 4).take 8) : Nat)) ∧ Up w'' g 0 (((l.take 48).drop 4).drop 8) ∧ Fr (fun k => k = g) w' w'') := fun g w' h => by
    have := word_any g 0 _ w' h (by omega)
    rw [uTake_in (by omega)] at this
    simp only at this
    have e := sub_take (b := l) (k := 0) (n := 8) (by omega)
    rw [List.drop_zero] at e
    rwa [e] at this
  have H1 : Hid (∀ g w', Up w' g 0 (((l.take 48).drop 4).drop 8) → Calls Tryz.prog 48 #[.pointer (some ⟨g, 0, none⟩), .int .i64 1] w' fun r w'' => r = .returned (.int .i64 (ofLe ((l.drop 12).take 1) : Nat)) ∧ Up w'' g 0 (((l.take 48).drop 4).drop 9) ∧ Fr (fun k => k = g) w' w'') := fun g w' h => by
    have := usmall_any g 0 1 _ w' h (by rw [List.length_drop]; omega)
    rw [uSmall_1 (by rw [List.length_drop]; omega)] at this
    simp only at this
    rw [sub_take (b := l) (k := 8) (n := 1) (by omega), List.drop_drop] at this
    exact this
  have H2 : Hid (∀ g w', Up w' g 0 (((l.take 48).drop 4).drop 9) → Calls Tryz.prog 48 #[.pointer (some ⟨g, 0, none⟩), .int .i64 1] w' fun r w'' => r = .returned (.int .i64 (ofLe ((l.drop 13).take 1) : Nat)) ∧ Up w'' g 0 (((l.take 48).drop 4).drop 10) ∧ Fr (fun k => k = g) w' w'') := fun g w' h => by
    have := usmall_any g 0 1 _ w' h (by rw [List.length_drop]; omega)
    rw [uSmall_1 (by rw [List.length_drop]; omega)] at this
    simp only at this
    rw [sub_take (b := l) (k := 9) (n := 1) (by omega), List.drop_drop] at this
    exact this
  have H3 : Hid (∀ g w', Up w' g 0 (((l.take 48).drop 4).drop 10) → Calls Tryz.prog 48 #[.pointer (some ⟨g, 0, none⟩), .int .i64 2] w' fun r w'' => r = .returned (.int .i64 (ofLe ((l.drop 14).take 2) : Nat)) ∧ Up w'' g 0 (((l.take 48).drop 4).drop 12) ∧ Fr (fun k => k = g) w' w'') := fun g w' h => by
    have := usmall_any g 0 2 _ w' h (by rw [List.length_drop]; omega)
    rw [uSmall_2 (by rw [List.length_drop]; omega)] at this
    simp only at this
    rw [sub_take (b := l) (k := 10) (n := 2) (by omega), List.drop_drop] at this
    exact this
  have H4 : Hid (∀ g w', Up w' g 0 (((l.take 48).drop 4).drop 12) → Calls Tryz.prog 48 #[.pointer (some ⟨g, 0, none⟩), .int .i64 2] w' fun r w'' => r = .returned (.int .i64 (ofLe ((l.drop 16).take 2) : Nat)) ∧ Up w'' g 0 (((l.take 48).drop 4).drop 14) ∧ Fr (fun k => k = g) w' w'') := fun g w' h => by
    have := usmall_any g 0 2 _ w' h (by rw [List.length_drop]; omega)
    rw [uSmall_2 (by rw [List.length_drop]; omega)] at this
    simp only at this
    rw [sub_take (b := l) (k := 12) (n := 2) (by omega), List.drop_drop] at this
    exact this
  have H5 : Hid (∀ g w', Up w' g 0 (((l.take 48).drop 4).drop 14) → Calls Tryz.prog 48 #[.pointer (some ⟨g, 0, none⟩), .int .i64 2] w' fun r w'' => r = .returned (.int .i64 (ofLe ((l.drop 18).take 2) : Nat)) ∧ Up w'' g 0 (((l.take 48).drop 4).drop 16) ∧ Fr (fun k => k = g) w' w'') := fun g w' h => by
    have := usmall_any g 0 2 _ w' h (by rw [List.length_drop]; omega)
    rw [uSmall_2 (by rw [List.length_drop]; omega)] at this
    simp only at this
    rw [sub_take (b := l) (k := 14) (n := 2) (by omega), List.drop_drop] at this
    exact this
  have hfit := hdRd_fit l
  have hRd : Hid (hdRd l = ⟨ofLe ((l.drop 4).take 8), ofLe ((l.drop 12).take 1), ofLe ((l.drop 13).take 1), ofLe ((l.drop 14).take 2), ofLe ((l.drop 16).take 2), ofLe ((l.drop 18).take 2)⟩) := rfl
  obtain ⟨id, q0⟩ : ∃ x : Int, ((ofLe ((l.drop 4).take 8) : Nat) : Int) = x := ⟨_, rfl⟩
  rw [q0] at H0 hRd
  obtain ⟨ti, q1⟩ : ∃ x : Int, ((ofLe ((l.drop 12).take 1) : Nat) : Int) = x := ⟨_, rfl⟩
  rw [q1] at H1 hRd
  obtain ⟨sh, q2⟩ : ∃ x : Int, ((ofLe ((l.drop 13).take 1) : Nat) : Int) = x := ⟨_, rfl⟩
  rw [q2] at H2 hRd
  obtain ⟨pl, q3⟩ : ∃ x : Int, ((ofLe ((l.drop 14).take 2) : Nat) : Int) = x := ⟨_, rfl⟩
  rw [q3] at H3 hRd
  obtain ⟨of_, q4⟩ : ∃ x : Int, ((ofLe ((l.drop 16).take 2) : Nat) : Int) = x := ⟨_, rfl⟩
  rw [q4] at H4 hRd
  obtain ⟨rc, q5⟩ : ∃ x : Int, ((ofLe ((l.drop 18).take 2) : Nat) : Int) = x := ⟨_, rfl⟩
  rw [q5] at H5 hRd
  rw [hRd.out] at hfit ⊢
  have HH := Lib.hid (fun w' => head_any ⟨id, ti, sh, pl, of_, rc⟩ hfit w')
  obtain ⟨f0, f1, f2, f3, f4, f5⟩ := hfit
  have HR := Lib.hid (fun w' => right_any id ti sh w')
  have HBl := Lib.hid (fun w' => show Calls Tryz.prog 38 #[.int .i64 12288] w' fun r w'' => r = .returned (.int .i64 4096) ∧ w' = w'' from blocks_any 12288 (by decide) w')
  have hg : Hid (goodB ⟨id, ti, sh, pl, of_, rc⟩ = (rightB id ti sh && (decide (pl < of_) && (decide (of_ ≤ 4096) && (decide (1 ≤ rc) && decide (rc ≤ 3)))))) := rfl
  have hcut : (bstr l).extract 0 48 = bstr (l.take 48) := by rw [bstr_extract]; rfl
  have HE : Hid (((bstr (headB ⟨id, ti, sh, pl, of_, rc⟩)).toList != (bstr (l.take 48)).toList) = !decide (headB ⟨id, ti, sh, pl, of_, rc⟩ = l.take 48)) := by
    show _ = _
    rw [Lib.toList_data, Lib.toList_data, bstr_list, bstr_list]
    rw [Bool.eq_iff_iff]; simp
  rw [← hcut] at HE
  obtain ⟨E, hE⟩ : ∃ E, decide (headB ⟨id, ti, sh, pl, of_, rc⟩ = l.take 48) = E := ⟨_, rfl⟩
  obtain ⟨GB, hGB⟩ : ∃ GB, goodB ⟨id, ti, sh, pl, of_, rc⟩ = GB := ⟨_, rfl⟩
  have hHz : (bstr (headB ⟨id, ti, sh, pl, of_, rc⟩)).size = 48 := by rw [bstr_size, headB_len]
  obtain ⟨T, hT⟩ : ∃ T, bstr (headB ⟨id, ti, sh, pl, of_, rc⟩) = T := ⟨_, rfl⟩
  obtain ⟨S, hS⟩ : ∃ S, bstr l = S := ⟨_, rfl⟩
  obtain ⟨U, hU⟩ : ∃ U, (l.take 48).drop 4 = U := ⟨_, rfl⟩
  rw [hT] at HH HE hHz
  rw [hE] at HE ⊢
  rw [hS] at HF HE hz ⊢
  rw [hU] at HF H0 H1 H2 H3 H4 H5
  rw [hGB] at hg ⊢
  have HG := Lib.hid hg.out
  unfold head0 HeadV.val
  unfold HeadV.val at HH
  have hTb : T.size ≤ 48 := by omega
  clear hRd q0 q1 q2 q3 q4 q5 hcut hE hGB hT hS hU hl hul hg hHz
  go_enter Tryz.func103, Tryz.ntmps103
  go_wp2_with fail
  refine (HF.out _).mono ?_
  rintro r w1 ⟨g, rfl, u1, b1, hg1⟩
  have B1 := Lib.hid ((Blk.new w 136 #[.int .u64 0, .int .i64 0, .int .i64 0, .int .i64 0, .int .i64 0, .int .i64 0]).below b1)
  have hgn : Hid (w.heap.size < g) := by have h := hg1; simp at h; exact h
  have O1 := Lib.hid ((((Own.start w).skip (Fr.none_alloc w (.cells #[.int .u64 0, .int .i64 0, .int .i64 0, .int .i64 0, .int .i64 0, .int .i64 0] 136))).below b1).also (G := fun j => j = g) (fun j hj => by have := hgn.out; omega))
  have U1 := Lib.hid u1
  clear u1 b1 hg1 HF
  go_wp2_with fail
  refine (H0.out g _ U1.out).mono ?_
  rintro r w2 ⟨rfl, u, f⟩
  have U2 := Lib.hid u
  have B2 := Lib.hid (B1.out.fr f (by have := hgn.out; omega))
  have O2 := Lib.hid (O1.out.fr f)
  clear u f U1 B1 O1
  go_wp2_with fail
  refine (H1.out g _ U2.out).mono ?_
  rintro r w3 ⟨rfl, u, f⟩
  have U3 := Lib.hid u
  have B3 := Lib.hid (B2.out.fr f (by have := hgn.out; omega))
  have O3 := Lib.hid (O2.out.fr f)
  clear u f U2 B2 O2
  go_wp2_with fail
  refine (H2.out g _ U3.out).mono ?_
  rintro r w4 ⟨rfl, u, f⟩
  have U4 := Lib.hid u
  have B4 := Lib.hid (B3.out.fr f (by have := hgn.out; omega))
  have O4 := Lib.hid (O3.out.fr f)
  clear u f U3 B3 O3
  go_wp2_with fail
  refine (H3.out g _ U4.out).mono ?_
  rintro r w5 ⟨rfl, u, f⟩
  have U5 := Lib.hid u
  have B5 := Lib.hid (B4.out.fr f (by have := hgn.out; omega))
  have O5 := Lib.hid (O4.out.fr f)
  clear u f U4 B4 O4
  go_wp2_with fail
  refine (H4.out g _ U5.out).mono ?_
  rintro r w6 ⟨rfl, u, f⟩
  have U6 := Lib.hid u
  have B6 := Lib.hid (B5.out.fr f (by have := hgn.out; omega))
  have O6 := Lib.hid (O5.out.fr f)
  clear u f U5 B5 O5
  go_wp2_with fail
  refine (H5.out g _ U6.out).mono ?_
  rintro r w7 ⟨rfl, u, f⟩
  have U7 := Lib.hid u
  have B7 := Lib.hid (B6.out.fr f (by have := hgn.out; omega))
  have O7 := Lib.hid (O6.out.fr f)
  clear u f U6 B6 O6
  have hsz : Hid (w.heap.size < w7.heap.size) := B7.out.lt
  go_wp2_with fail
  have R7 := Lib.hid (Blk.new w7 136 #[.int .u64 id, .int .i64 ti, .int .i64 sh, .int .i64 pl, .int .i64 of_, .int .i64 rc])
  have B8 := Lib.hid (B7.out.alloc (.cells #[.int .u64 id, .int .i64 ti, .int .i64 sh, .int .i64 pl, .int .i64 of_, .int .i64 rc] 136))
  have O8 := Lib.hid ((O7.out.skip (Fr.none_alloc w7 (.cells #[.int .u64 id, .int .i64 ti, .int .i64 sh, .int .i64 pl, .int .i64 of_, .int .i64 rc] 136))).also (G := fun k => k = w.heap.size) (fun k hk => by omega))
  obtain ⟨W8, hW8⟩ : ∃ W8, W8 = w7.alloc (.cells #[.int .u64 id, .int .i64 ti, .int .i64 sh, .int .i64 pl, .int .i64 of_, .int .i64 rc] 136) := ⟨_, rfl⟩
  rw [← hW8] at R7 B8 O8 ⊢
  have a0 := R7.out.cell 0
  have a1 := R7.out.cell 1
  have a2 := R7.out.cell 2
  have a3 := R7.out.cell 3
  have a4 := R7.out.cell 4
  have a5 := R7.out.cell 5
  simp only [List.getElem?_toArray, List.getElem?_cons_succ, List.getElem?_cons_zero] at a0 a1 a2 a3 a4 a5
  have b0 := B8.out.cell 0
  have g0 := B8.out.frozen 0
  have b1 := B8.out.cell 1
  have g1 := B8.out.frozen 1
  have b2 := B8.out.cell 2
  have g2 := B8.out.frozen 2
  have b3 := B8.out.cell 3
  have g3 := B8.out.frozen 3
  have b4 := B8.out.cell 4
  have g4 := B8.out.frozen 4
  have b5 := B8.out.cell 5
  have g5 := B8.out.frozen 5
  simp only [List.getElem?_toArray, List.getElem?_cons_succ, List.getElem?_cons_zero] at b0 b1 b2 b3 b4 b5
  clear U7 B7 O7 H0 H1 H2 H3 H4 H5
  cases hR : rightB id ti sh
  · rw [hR] at HR
    have HG0 : Hid (GB = false) := by show _ = _; rw [HG.out]; simp [*]
    go_quiet ((first | (go_at_call 100; exact quiet_left (HR.out _)) | (go_at_call 38; exact quiet_left (HBl.out _))))
    clear a0 a1 a2 a3 a4 a5 b0 b1 b2 b3 b4 b5 g0 g1 g2 g3 g4 g5
    obtain ⟨W10, hW10⟩ : ∃ W10, W10 = W8.drewN nq := ⟨_, rfl⟩
    rw [← hW10]
    have B10 : Blk W10 w.heap.size 136 #[.int .u64 0, .int .i64 0, .int .i64 0, .int .i64 0, .int .i64 0, .int .i64 0] := hW10 ▸ B8.out.drewN nq
    have O10 : Own w W10 (fun k => k = w.heap.size) := hW10 ▸ (O8.out.skip (Fr.none_drewN _ nq))
    clear hW10 B8 O8
    go_wp2
    go_quiet (fail)
    obtain ⟨W11, hW11⟩ : ∃ W11, W11 = W10.drewN nq := ⟨_, rfl⟩
    rw [← hW11]
    have B11 := Lib.hid (show Blk W11 w.heap.size 136 #[.int .u64 0, .int .i64 0, .int .i64 0, .int .i64 0, .int .i64 0, .int .i64 0] from hW11 ▸ B10.drewN nq)
    have O11 := Lib.hid (show Own w W11 (fun k => k = w.heap.size) from hW11 ▸ (O10.skip (Fr.none_drewN _ nq)))
    have b0 := B11.out.cell 0
    have g0 := B11.out.frozen 0
    have b1 := B11.out.cell 1
    have g1 := B11.out.frozen 1
    have b2 := B11.out.cell 2
    have g2 := B11.out.frozen 2
    have b3 := B11.out.cell 3
    have g3 := B11.out.frozen 3
    have b4 := B11.out.cell 4
    have g4 := B11.out.frozen 4
    have b5 := B11.out.cell 5
    have g5 := B11.out.frozen 5
    simp only [List.getElem?_toArray, List.getElem?_cons_succ, List.getElem?_cons_zero] at b0 b1 b2 b3 b4 b5
    clear hW11 B10 O10
    go_wp2_with fail
    clear b0 b1 b2 b3 b4 b5 g0 g1 g2 g3 g4 g5
    obtain ⟨W9, hW9⟩ : ∃ W9, W9 = ((((((W11.setCell ⟨w.heap.size, 0, none⟩ (.int .u64 0)).setCell ⟨w.heap.size, 1, none⟩ (.int .i64 0)).setCell ⟨w.heap.size, 2, none⟩ (.int .i64 0)).setCell ⟨w.heap.size, 3, none⟩ (.int .i64 0)).setCell ⟨w.heap.size, 4, none⟩ (.int .i64 0)).setCell ⟨w.heap.size, 5, none⟩ (.int .i64 0)) := ⟨_, rfl⟩
    rw [← hW9]
    have B9 := B11.out.set6 (a := (.int .u64 0)) (b := (.int .i64 0)) (c := (.int .i64 0)) (d := (.int .i64 0)) (e := (.int .i64 0)) (f := (.int .i64 0))
    have O9 := O11.out.fr (Fr.set6 (F := fun k => k = w.heap.size) (g := w.heap.size) (Fr.refl _ _) (.inl rfl) (.int .u64 0) (.int .i64 0) (.int .i64 0) (.int .i64 0) (.int .i64 0) (.int .i64 0))
    rw [← hW9] at B9 O9
    have b0 := B9.cell 0
    have b1 := B9.cell 1
    have b2 := B9.cell 2
    have b3 := B9.cell 3
    have b4 := B9.cell 4
    have b5 := B9.cell 5
    simp only [List.getElem?_toArray, List.getElem?_cons_succ, List.getElem?_cons_zero] at b0 b1 b2 b3 b4 b5
    refine bodyPost_ret (v := .tuple #[.agg #[.int .u64 0, .int .i64 0, .int .i64 0, .int .i64 0, .int .i64 0, .int .i64 0], .int .i64 6]) ?_ rfl ⟨by rw [HG0.out]; rfl, O9.bel⟩
    simp [results, Tryz.results103, go_sem, b0, b1, b2, b3, b4, b5]
  rw [hR] at HR
  by_cases h1 : pl < of_
  rotate_left
  · have h1d : decide (pl < of_) = false := decide_eq_false h1
    have HG0 : Hid (GB = false) := by show _ = _; rw [HG.out]; simp [*]
    go_quiet ((first | (go_at_call 100; exact quiet_left (HR.out _)) | (go_at_call 38; exact quiet_left (HBl.out _))))
    clear a0 a1 a2 a3 a4 a5 b0 b1 b2 b3 b4 b5 g0 g1 g2 g3 g4 g5
    obtain ⟨W10, hW10⟩ : ∃ W10, W10 = W8.drewN nq := ⟨_, rfl⟩
    rw [← hW10]
    have B10 : Blk W10 w.heap.size 136 #[.int .u64 0, .int .i64 0, .int .i64 0, .int .i64 0, .int .i64 0, .int .i64 0] := hW10 ▸ B8.out.drewN nq
    have O10 : Own w W10 (fun k => k = w.heap.size) := hW10 ▸ (O8.out.skip (Fr.none_drewN _ nq))
    clear hW10 B8 O8
    go_wp2
    go_quiet (fail)
    obtain ⟨W11, hW11⟩ : ∃ W11, W11 = W10.drewN nq := ⟨_, rfl⟩
    rw [← hW11]
    have B11 := Lib.hid (show Blk W11 w.heap.size 136 #[.int .u64 0, .int .i64 0, .int .i64 0, .int .i64 0, .int .i64 0, .int .i64 0] from hW11 ▸ B10.drewN nq)
    have O11 := Lib.hid (show Own w W11 (fun k => k = w.heap.size) from hW11 ▸ (O10.skip (Fr.none_drewN _ nq)))
    have b0 := B11.out.cell 0
    have g0 := B11.out.frozen 0
    have b1 := B11.out.cell 1
    have g1 := B11.out.frozen 1
    have b2 := B11.out.cell 2
    have g2 := B11.out.frozen 2
    have b3 := B11.out.cell 3
    have g3 := B11.out.frozen 3
    have b4 := B11.out.cell 4
    have g4 := B11.out.frozen 4
    have b5 := B11.out.cell 5
    have g5 := B11.out.frozen 5
    simp only [List.getElem?_toArray, List.getElem?_cons_succ, List.getElem?_cons_zero] at b0 b1 b2 b3 b4 b5
    clear hW11 B10 O10
    go_wp2_with fail
    clear b0 b1 b2 b3 b4 b5 g0 g1 g2 g3 g4 g5
    obtain ⟨W9, hW9⟩ : ∃ W9, W9 = ((((((W11.setCell ⟨w.heap.size, 0, none⟩ (.int .u64 0)).setCell ⟨w.heap.size, 1, none⟩ (.int .i64 0)).setCell ⟨w.heap.size, 2, none⟩ (.int .i64 0)).setCell ⟨w.heap.size, 3, none⟩ (.int .i64 0)).setCell ⟨w.heap.size, 4, none⟩ (.int .i64 0)).setCell ⟨w.heap.size, 5, none⟩ (.int .i64 0)) := ⟨_, rfl⟩
    rw [← hW9]
    have B9 := B11.out.set6 (a := (.int .u64 0)) (b := (.int .i64 0)) (c := (.int .i64 0)) (d := (.int .i64 0)) (e := (.int .i64 0)) (f := (.int .i64 0))
    have O9 := O11.out.fr (Fr.set6 (F := fun k => k = w.heap.size) (g := w.heap.size) (Fr.refl _ _) (.inl rfl) (.int .u64 0) (.int .i64 0) (.int .i64 0) (.int .i64 0) (.int .i64 0) (.int .i64 0))
    rw [← hW9] at B9 O9
    have b0 := B9.cell 0
    have b1 := B9.cell 1
    have b2 := B9.cell 2
    have b3 := B9.cell 3
    have b4 := B9.cell 4
    have b5 := B9.cell 5
    simp only [List.getElem?_toArray, List.getElem?_cons_succ, List.getElem?_cons_zero] at b0 b1 b2 b3 b4 b5
    refine bodyPost_ret (v := .tuple #[.agg #[.int .u64 0, .int .i64 0, .int .i64 0, .int .i64 0, .int .i64 0, .int .i64 0], .int .i64 6]) ?_ rfl ⟨by rw [HG0.out]; rfl, O9.bel⟩
    simp [results, Tryz.results103, go_sem, b0, b1, b2, b3, b4, b5]
  have h1d : decide (pl < of_) = true := decide_eq_true h1
  by_cases h2 : of_ ≤ 4096
  rotate_left
  · have h2d : decide (of_ ≤ 4096) = false := decide_eq_false h2
    have HG0 : Hid (GB = false) := by show _ = _; rw [HG.out]; simp [*]
    go_quiet ((first | (go_at_call 100; exact quiet_left (HR.out _)) | (go_at_call 38; exact quiet_left (HBl.out _))))
    clear a0 a1 a2 a3 a4 a5 b0 b1 b2 b3 b4 b5 g0 g1 g2 g3 g4 g5
    obtain ⟨W10, hW10⟩ : ∃ W10, W10 = W8.drewN nq := ⟨_, rfl⟩
    rw [← hW10]
    have B10 : Blk W10 w.heap.size 136 #[.int .u64 0, .int .i64 0, .int .i64 0, .int .i64 0, .int .i64 0, .int .i64 0] := hW10 ▸ B8.out.drewN nq
    have O10 : Own w W10 (fun k => k = w.heap.size) := hW10 ▸ (O8.out.skip (Fr.none_drewN _ nq))
    clear hW10 B8 O8
    go_wp2
    go_quiet (fail)
    obtain ⟨W11, hW11⟩ : ∃ W11, W11 = W10.drewN nq := ⟨_, rfl⟩
    rw [← hW11]
    have B11 := Lib.hid (show Blk W11 w.heap.size 136 #[.int .u64 0, .int .i64 0, .int .i64 0, .int .i64 0, .int .i64 0, .int .i64 0] from hW11 ▸ B10.drewN nq)
    have O11 := Lib.hid (show Own w W11 (fun k => k = w.heap.size) from hW11 ▸ (O10.skip (Fr.none_drewN _ nq)))
    have b0 := B11.out.cell 0
    have g0 := B11.out.frozen 0
    have b1 := B11.out.cell 1
    have g1 := B11.out.frozen 1
    have b2 := B11.out.cell 2
    have g2 := B11.out.frozen 2
    have b3 := B11.out.cell 3
    have g3 := B11.out.frozen 3
    have b4 := B11.out.cell 4
    have g4 := B11.out.frozen 4
    have b5 := B11.out.cell 5
    have g5 := B11.out.frozen 5
    simp only [List.getElem?_toArray, List.getElem?_cons_succ, List.getElem?_cons_zero] at b0 b1 b2 b3 b4 b5
    clear hW11 B10 O10
    go_wp2_with fail
    clear b0 b1 b2 b3 b4 b5 g0 g1 g2 g3 g4 g5
    obtain ⟨W9, hW9⟩ : ∃ W9, W9 = ((((((W11.setCell ⟨w.heap.size, 0, none⟩ (.int .u64 0)).setCell ⟨w.heap.size, 1, none⟩ (.int .i64 0)).setCell ⟨w.heap.size, 2, none⟩ (.int .i64 0)).setCell ⟨w.heap.size, 3, none⟩ (.int .i64 0)).setCell ⟨w.heap.size, 4, none⟩ (.int .i64 0)).setCell ⟨w.heap.size, 5, none⟩ (.int .i64 0)) := ⟨_, rfl⟩
    rw [← hW9]
    have B9 := B11.out.set6 (a := (.int .u64 0)) (b := (.int .i64 0)) (c := (.int .i64 0)) (d := (.int .i64 0)) (e := (.int .i64 0)) (f := (.int .i64 0))
    have O9 := O11.out.fr (Fr.set6 (F := fun k => k = w.heap.size) (g := w.heap.size) (Fr.refl _ _) (.inl rfl) (.int .u64 0) (.int .i64 0) (.int .i64 0) (.int .i64 0) (.int .i64 0) (.int .i64 0))
    rw [← hW9] at B9 O9
    have b0 := B9.cell 0
    have b1 := B9.cell 1
    have b2 := B9.cell 2
    have b3 := B9.cell 3
    have b4 := B9.cell 4
    have b5 := B9.cell 5
    simp only [List.getElem?_toArray, List.getElem?_cons_succ, List.getElem?_cons_zero] at b0 b1 b2 b3 b4 b5
    refine bodyPost_ret (v := .tuple #[.agg #[.int .u64 0, .int .i64 0, .int .i64 0, .int .i64 0, .int .i64 0, .int .i64 0], .int .i64 6]) ?_ rfl ⟨by rw [HG0.out]; rfl, O9.bel⟩
    simp [results, Tryz.results103, go_sem, b0, b1, b2, b3, b4, b5]
  have h2d : decide (of_ ≤ 4096) = true := decide_eq_true h2
  by_cases h3 : 1 ≤ rc
  rotate_left
  · have h3d : decide (1 ≤ rc) = false := decide_eq_false h3
    have HG0 : Hid (GB = false) := by show _ = _; rw [HG.out]; simp [*]
    go_quiet ((first | (go_at_call 100; exact quiet_left (HR.out _)) | (go_at_call 38; exact quiet_left (HBl.out _))))
    clear a0 a1 a2 a3 a4 a5 b0 b1 b2 b3 b4 b5 g0 g1 g2 g3 g4 g5
    obtain ⟨W10, hW10⟩ : ∃ W10, W10 = W8.drewN nq := ⟨_, rfl⟩
    rw [← hW10]
    have B10 : Blk W10 w.heap.size 136 #[.int .u64 0, .int .i64 0, .int .i64 0, .int .i64 0, .int .i64 0, .int .i64 0] := hW10 ▸ B8.out.drewN nq
    have O10 : Own w W10 (fun k => k = w.heap.size) := hW10 ▸ (O8.out.skip (Fr.none_drewN _ nq))
    clear hW10 B8 O8
    go_wp2
    go_quiet (fail)
    obtain ⟨W11, hW11⟩ : ∃ W11, W11 = W10.drewN nq := ⟨_, rfl⟩
    rw [← hW11]
    have B11 := Lib.hid (show Blk W11 w.heap.size 136 #[.int .u64 0, .int .i64 0, .int .i64 0, .int .i64 0, .int .i64 0, .int .i64 0] from hW11 ▸ B10.drewN nq)
    have O11 := Lib.hid (show Own w W11 (fun k => k = w.heap.size) from hW11 ▸ (O10.skip (Fr.none_drewN _ nq)))
    have b0 := B11.out.cell 0
    have g0 := B11.out.frozen 0
    have b1 := B11.out.cell 1
    have g1 := B11.out.frozen 1
    have b2 := B11.out.cell 2
    have g2 := B11.out.frozen 2
    have b3 := B11.out.cell 3
    have g3 := B11.out.frozen 3
    have b4 := B11.out.cell 4
    have g4 := B11.out.frozen 4
    have b5 := B11.out.cell 5
    have g5 := B11.out.frozen 5
    simp only [List.getElem?_toArray, List.getElem?_cons_succ, List.getElem?_cons_zero] at b0 b1 b2 b3 b4 b5
    clear hW11 B10 O10
    go_wp2_with fail
    clear b0 b1 b2 b3 b4 b5 g0 g1 g2 g3 g4 g5
    obtain ⟨W9, hW9⟩ : ∃ W9, W9 = ((((((W11.setCell ⟨w.heap.size, 0, none⟩ (.int .u64 0)).setCell ⟨w.heap.size, 1, none⟩ (.int .i64 0)).setCell ⟨w.heap.size, 2, none⟩ (.int .i64 0)).setCell ⟨w.heap.size, 3, none⟩ (.int .i64 0)).setCell ⟨w.heap.size, 4, none⟩ (.int .i64 0)).setCell ⟨w.heap.size, 5, none⟩ (.int .i64 0)) := ⟨_, rfl⟩
    rw [← hW9]
    have B9 := B11.out.set6 (a := (.int .u64 0)) (b := (.int .i64 0)) (c := (.int .i64 0)) (d := (.int .i64 0)) (e := (.int .i64 0)) (f := (.int .i64 0))
    have O9 := O11.out.fr (Fr.set6 (F := fun k => k = w.heap.size) (g := w.heap.size) (Fr.refl _ _) (.inl rfl) (.int .u64 0) (.int .i64 0) (.int .i64 0) (.int .i64 0) (.int .i64 0) (.int .i64 0))
    rw [← hW9] at B9 O9
    have b0 := B9.cell 0
    have b1 := B9.cell 1
    have b2 := B9.cell 2
    have b3 := B9.cell 3
    have b4 := B9.cell 4
    have b5 := B9.cell 5
    simp only [List.getElem?_toArray, List.getElem?_cons_succ, List.getElem?_cons_zero] at b0 b1 b2 b3 b4 b5
    refine bodyPost_ret (v := .tuple #[.agg #[.int .u64 0, .int .i64 0, .int .i64 0, .int .i64 0, .int .i64 0, .int .i64 0], .int .i64 6]) ?_ rfl ⟨by rw [HG0.out]; rfl, O9.bel⟩
    simp [results, Tryz.results103, go_sem, b0, b1, b2, b3, b4, b5]
  have h3d : decide (1 ≤ rc) = true := decide_eq_true h3
  by_cases h4 : rc ≤ 3
  rotate_left
  · have h4d : decide (rc ≤ 3) = false := decide_eq_false h4
    have HG0 : Hid (GB = false) := by show _ = _; rw [HG.out]; simp [*]
    go_quiet ((first | (go_at_call 100; exact quiet_left (HR.out _)) | (go_at_call 38; exact quiet_left (HBl.out _))))
    clear a0 a1 a2 a3 a4 a5 b0 b1 b2 b3 b4 b5 g0 g1 g2 g3 g4 g5
    obtain ⟨W10, hW10⟩ : ∃ W10, W10 = W8.drewN nq := ⟨_, rfl⟩
    rw [← hW10]
    have B10 : Blk W10 w.heap.size 136 #[.int .u64 0, .int .i64 0, .int .i64 0, .int .i64 0, .int .i64 0, .int .i64 0] := hW10 ▸ B8.out.drewN nq
    have O10 : Own w W10 (fun k => k = w.heap.size) := hW10 ▸ (O8.out.skip (Fr.none_drewN _ nq))
    clear hW10 B8 O8
    go_wp2
    go_quiet (fail)
    obtain ⟨W11, hW11⟩ : ∃ W11, W11 = W10.drewN nq := ⟨_, rfl⟩
    rw [← hW11]
    have B11 := Lib.hid (show Blk W11 w.heap.size 136 #[.int .u64 0, .int .i64 0, .int .i64 0, .int .i64 0, .int .i64 0, .int .i64 0] from hW11 ▸ B10.drewN nq)
    have O11 := Lib.hid (show Own w W11 (fun k => k = w.heap.size) from hW11 ▸ (O10.skip (Fr.none_drewN _ nq)))
    have b0 := B11.out.cell 0
    have g0 := B11.out.frozen 0
    have b1 := B11.out.cell 1
    have g1 := B11.out.frozen 1
    have b2 := B11.out.cell 2
    have g2 := B11.out.frozen 2
    have b3 := B11.out.cell 3
    have g3 := B11.out.frozen 3
    have b4 := B11.out.cell 4
    have g4 := B11.out.frozen 4
    have b5 := B11.out.cell 5
    have g5 := B11.out.frozen 5
    simp only [List.getElem?_toArray, List.getElem?_cons_succ, List.getElem?_cons_zero] at b0 b1 b2 b3 b4 b5
    clear hW11 B10 O10
    go_wp2_with fail
    clear b0 b1 b2 b3 b4 b5 g0 g1 g2 g3 g4 g5
    obtain ⟨W9, hW9⟩ : ∃ W9, W9 = ((((((W11.setCell ⟨w.heap.size, 0, none⟩ (.int .u64 0)).setCell ⟨w.heap.size, 1, none⟩ (.int .i64 0)).setCell ⟨w.heap.size, 2, none⟩ (.int .i64 0)).setCell ⟨w.heap.size, 3, none⟩ (.int .i64 0)).setCell ⟨w.heap.size, 4, none⟩ (.int .i64 0)).setCell ⟨w.heap.size, 5, none⟩ (.int .i64 0)) := ⟨_, rfl⟩
    rw [← hW9]
    have B9 := B11.out.set6 (a := (.int .u64 0)) (b := (.int .i64 0)) (c := (.int .i64 0)) (d := (.int .i64 0)) (e := (.int .i64 0)) (f := (.int .i64 0))
    have O9 := O11.out.fr (Fr.set6 (F := fun k => k = w.heap.size) (g := w.heap.size) (Fr.refl _ _) (.inl rfl) (.int .u64 0) (.int .i64 0) (.int .i64 0) (.int .i64 0) (.int .i64 0) (.int .i64 0))
    rw [← hW9] at B9 O9
    have b0 := B9.cell 0
    have b1 := B9.cell 1
    have b2 := B9.cell 2
    have b3 := B9.cell 3
    have b4 := B9.cell 4
    have b5 := B9.cell 5
    simp only [List.getElem?_toArray, List.getElem?_cons_succ, List.getElem?_cons_zero] at b0 b1 b2 b3 b4 b5
    refine bodyPost_ret (v := .tuple #[.agg #[.int .u64 0, .int .i64 0, .int .i64 0, .int .i64 0, .int .i64 0, .int .i64 0], .int .i64 6]) ?_ rfl ⟨by rw [HG0.out]; rfl, O9.bel⟩
    simp [results, Tryz.results103, go_sem, b0, b1, b2, b3, b4, b5]
  have h4d : decide (rc ≤ 3) = true := decide_eq_true h4
  have HG0 : Hid (GB = true) := by show _ = _; rw [HG.out]; simp [*]
  go_quiet ((first | (go_at_call 100; exact quiet_left (HR.out _)) | (go_at_call 38; exact quiet_left (HBl.out _))))
  clear a0 a1 a2 a3 a4 a5 b0 b1 b2 b3 b4 b5 g0 g1 g2 g3 g4 g5
  obtain ⟨W10, hW10⟩ : ∃ W10, W10 = W8.drewN nq := ⟨_, rfl⟩
  rw [← hW10]
  have B10 := Lib.hid (show Blk W10 w.heap.size 136 #[.int .u64 0, .int .i64 0, .int .i64 0, .int .i64 0, .int .i64 0, .int .i64 0] from hW10 ▸ B8.out.drewN nq)
  have R10 := Lib.hid (show Blk W10 w7.heap.size 136 #[.int .u64 id, .int .i64 ti, .int .i64 sh, .int .i64 pl, .int .i64 of_, .int .i64 rc] from hW10 ▸ R7.out.drewN nq)
  have O10 := Lib.hid (show Own w W10 (fun k => k = w.heap.size) from hW10 ▸ (O8.out.skip (Fr.none_drewN _ nq)))
  clear hW10 B8 O8 R7
  go_wp2
  have a0 := R10.out.drew.cell 0
  have a1 := R10.out.drew.cell 1
  have a2 := R10.out.drew.cell 2
  have a3 := R10.out.drew.cell 3
  have a4 := R10.out.drew.cell 4
  have a5 := R10.out.drew.cell 5
  simp only [List.getElem?_toArray, List.getElem?_cons_succ, List.getElem?_cons_zero] at a0 a1 a2 a3 a4 a5
  have hSi : (48 : Int) ≤ (S.size : Int) := by omega
  cases E
  · have hcmp : (T.toList != (S.extract 0 48).toList) = true := by rw [HE.out]; rfl
    have hcmp2 : (T.toList == (S.extract 0 48).toList) = false := by simpa using hcmp
    have hcmp3 : ¬ (T.toList = (S.extract 0 48).toList) := by simpa using hcmp
    go_region_with (first | (go_at_call 140; refine (HH.out _).mono ?_; rintro r w12 ⟨rfl, b12⟩))
    have B12 := Lib.hid (B10.out.drew.below b12)
    have R12 := R10.out.drew.below b12
    have O12 := Lib.hid ((O10.out.fr (Fr.refl _ W10).drew).below b12)
    clear a0 a1 a2 a3 a4 a5 b12
    have b0 := B12.out.cell 0
    have g0 := B12.out.frozen 0
    have a0 := R12.cell 0
    have b1 := B12.out.cell 1
    have g1 := B12.out.frozen 1
    have a1 := R12.cell 1
    have b2 := B12.out.cell 2
    have g2 := B12.out.frozen 2
    have a2 := R12.cell 2
    have b3 := B12.out.cell 3
    have g3 := B12.out.frozen 3
    have a3 := R12.cell 3
    have b4 := B12.out.cell 4
    have g4 := B12.out.frozen 4
    have a4 := R12.cell 4
    have b5 := B12.out.cell 5
    have g5 := B12.out.frozen 5
    have a5 := R12.cell 5
    simp only [List.getElem?_toArray, List.getElem?_cons_succ, List.getElem?_cons_zero] at a0 a1 a2 a3 a4 a5 b0 b1 b2 b3 b4 b5
    clear R12 B10 R10 O10
    go_wp2_with fail
    clear a0 a1 a2 a3 a4 a5 b0 b1 b2 b3 b4 b5 g0 g1 g2 g3 g4 g5
    obtain ⟨W9, hW9⟩ : ∃ W9, W9 = ((((((w12.setCell ⟨w.heap.size, 0, none⟩ (.int .u64 0)).setCell ⟨w.heap.size, 1, none⟩ (.int .i64 0)).setCell ⟨w.heap.size, 2, none⟩ (.int .i64 0)).setCell ⟨w.heap.size, 3, none⟩ (.int .i64 0)).setCell ⟨w.heap.size, 4, none⟩ (.int .i64 0)).setCell ⟨w.heap.size, 5, none⟩ (.int .i64 0)) := ⟨_, rfl⟩
    rw [← hW9]
    have B9 := B12.out.set6 (a := (.int .u64 0)) (b := (.int .i64 0)) (c := (.int .i64 0)) (d := (.int .i64 0)) (e := (.int .i64 0)) (f := (.int .i64 0))
    have O9 := O12.out.fr (Fr.set6 (F := fun k => k = w.heap.size) (g := w.heap.size) (Fr.refl _ _) (.inl rfl) (.int .u64 0) (.int .i64 0) (.int .i64 0) (.int .i64 0) (.int .i64 0) (.int .i64 0))
    rw [← hW9] at B9 O9
    have b0 := B9.cell 0
    have b1 := B9.cell 1
    have b2 := B9.cell 2
    have b3 := B9.cell 3
    have b4 := B9.cell 4
    have b5 := B9.cell 5
    simp only [List.getElem?_toArray, List.getElem?_cons_succ, List.getElem?_cons_zero] at b0 b1 b2 b3 b4 b5
    refine bodyPost_ret (v := .tuple #[.agg #[.int .u64 0, .int .i64 0, .int .i64 0, .int .i64 0, .int .i64 0, .int .i64 0], .int .i64 6]) ?_ rfl ⟨by rw [HG0.out]; rfl, O9.bel⟩
    simp [results, Tryz.results103, go_sem, b0, b1, b2, b3, b4, b5]
  · have hcmp : (T.toList != (S.extract 0 48).toList) = false := by rw [HE.out]; rfl
    have hcmp2 : (T.toList == (S.extract 0 48).toList) = true := by simpa using hcmp
    have hcmp3 : (T.toList = (S.extract 0 48).toList) := by simpa using hcmp
    go_region_with (first | (go_at_call 140; refine (HH.out _).mono ?_; rintro r w12 ⟨rfl, b12⟩))
    have B12 := Lib.hid (B10.out.drew.below b12)
    have R12 := R10.out.drew.below b12
    have O12 := Lib.hid ((O10.out.fr (Fr.refl _ W10).drew).below b12)
    clear a0 a1 a2 a3 a4 a5 b12
    have b0 := B12.out.cell 0
    have g0 := B12.out.frozen 0
    have a0 := R12.cell 0
    have b1 := B12.out.cell 1
    have g1 := B12.out.frozen 1
    have a1 := R12.cell 1
    have b2 := B12.out.cell 2
    have g2 := B12.out.frozen 2
    have a2 := R12.cell 2
    have b3 := B12.out.cell 3
    have g3 := B12.out.frozen 3
    have a3 := R12.cell 3
    have b4 := B12.out.cell 4
    have g4 := B12.out.frozen 4
    have a4 := R12.cell 4
    have b5 := B12.out.cell 5
    have g5 := B12.out.frozen 5
    have a5 := R12.cell 5
    simp only [List.getElem?_toArray, List.getElem?_cons_succ, List.getElem?_cons_zero] at a0 a1 a2 a3 a4 a5 b0 b1 b2 b3 b4 b5
    clear R12 B10 R10 O10
    go_wp2_with fail
    clear a0 a1 a2 a3 a4 a5 b0 b1 b2 b3 b4 b5 g0 g1 g2 g3 g4 g5
    obtain ⟨W9, hW9⟩ : ∃ W9, W9 = ((((((w12.setCell ⟨w.heap.size, 0, none⟩ (.int .u64 id)).setCell ⟨w.heap.size, 1, none⟩ (.int .i64 ti)).setCell ⟨w.heap.size, 2, none⟩ (.int .i64 sh)).setCell ⟨w.heap.size, 3, none⟩ (.int .i64 pl)).setCell ⟨w.heap.size, 4, none⟩ (.int .i64 of_)).setCell ⟨w.heap.size, 5, none⟩ (.int .i64 rc)) := ⟨_, rfl⟩
    rw [← hW9]
    have B9 := B12.out.set6 (a := (.int .u64 id)) (b := (.int .i64 ti)) (c := (.int .i64 sh)) (d := (.int .i64 pl)) (e := (.int .i64 of_)) (f := (.int .i64 rc))
    have O9 := O12.out.fr (Fr.set6 (F := fun k => k = w.heap.size) (g := w.heap.size) (Fr.refl _ _) (.inl rfl) (.int .u64 id) (.int .i64 ti) (.int .i64 sh) (.int .i64 pl) (.int .i64 of_) (.int .i64 rc))
    rw [← hW9] at B9 O9
    have b0 := B9.cell 0
    have b1 := B9.cell 1
    have b2 := B9.cell 2
    have b3 := B9.cell 3
    have b4 := B9.cell 4
    have b5 := B9.cell 5
    simp only [List.getElem?_toArray, List.getElem?_cons_succ, List.getElem?_cons_zero] at b0 b1 b2 b3 b4 b5
    refine bodyPost_ret (v := .tuple #[.agg #[.int .u64 id, .int .i64 ti, .int .i64 sh, .int .i64 pl, .int .i64 of_, .int .i64 rc], .int .i64 0]) ?_ rfl ⟨by rw [HG0.out]; rfl, O9.bel⟩
    simp [results, Tryz.results103, go_sem, b0, b1, b2, b3, b4, b5]

/-- seg.read of whatever. -/
theorem rd_any (l : List UInt8) (hl : l.length ≤ 1099511627776) (w : World) :
    Calls Tryz.prog 103 #[.string (bstr l)] w fun r w' => r = .returned (.tuple #[(hdV l).val, .int .i64 (hdE l)]) ∧ Below w.heap.size w w' := by
  by_cases h : l.length = 256
  · refine (read_any l h w).mono ?_
    rintro r w' ⟨rfl, b⟩
    refine ⟨?_, b⟩
    unfold hdV hdE
    rw [if_pos h]
    cases goodB (hdRd l) && decide (headB (hdRd l) = l.take 48) <;> rfl
  · refine (read_short (bstr l) (by rw [bstr_size]; exact hl) (by rw [bstr_size]; exact h) w).mono ?_
    rintro r w' ⟨rfl, b⟩
    refine ⟨?_, b⟩
    unfold hdV hdE
    rw [if_neg h]
    rfl
end Go.Proofs.YtkickdmiilmkoaaGreatDoor
