/- Walks of agg: Valid, one, both (of none), Of (of one value), Put, Get. -/
import Derived.Test.YtkickdmiilmkoaaGreatDoorPkDone
import Derived.Deep.RegionWith
import Derived.Deep.DeepCutAuto
namespace Go.Proofs.YtkickdmiilmkoaaGreatDoor
open Go.RowKit

/-- An api.Agg. -/
structure AggV where
  count : Int
  hi : Int
  lo : Int
  min : Int
  max : Int
def AggV.cells (a : AggV) : List Value := [.int .i64 a.count, .int .i64 a.hi, .int .u64 a.lo, .int .i64 a.min, .int .i64 a.max]
def AggV.val (a : AggV) : Value := .agg #[.int .i64 a.count, .int .i64 a.hi, .int .u64 a.lo, .int .i64 a.min, .int .i64 a.max]
def in64 (x : Int) : Prop := -9223372036854775808 ≤ x ∧ x ≤ 9223372036854775807
def AggV.wf (a : AggV) : Prop := in64 a.count ∧ in64 a.hi ∧ (0 ≤ a.lo ∧ a.lo ≤ 18446744073709551615) ∧ in64 a.min ∧ in64 a.max
def aggOk (a : AggV) : Bool := decide (1 ≤ a.count) && decide (a.count ≤ 4611686018427387904) && decide (a.min ≤ a.max)
def agg0 : AggV := ⟨0, 0, 0, 0, 0⟩

theorem aggvalid_any (a : AggV) (w : World) : Calls Tryz.prog 95 #[a.val] w fun r w' => r = .returned (.bool (aggOk a)) ∧ Below w.heap.size w w' := by
  obtain ⟨c, h, l, m, x⟩ := a
  unfold AggV.val aggOk
  have hb : Hid (Below w.heap.size w (w.alloc (.cells #[.int .i64 c, .int .i64 h, .int .u64 l, .int .i64 m, .int .i64 x] 61))) := ((Own.start w).skip (Fr.none_alloc w _)).bel
  by_cases h1 : 1 ≤ c
  · by_cases h2 : c ≤ 4611686018427387904
    · go_enter Tryz.func95, Tryz.ntmps95
      go_wp2_with fail
      all_goals (try go_quiet (fail))
      all_goals go_wp2_with fail
      all_goals (go_ret <;> exact ⟨by simp [*], by first | exact hb.out | exact ((Own.start w).skip ((Fr.none_alloc w _).drewN _)).bel⟩)
    · have h2' : decide (c ≤ 4611686018427387904) = false := decide_eq_false h2
      go_enter Tryz.func95, Tryz.ntmps95
      go_wp2_with fail
      all_goals (try go_quiet (fail))
      all_goals go_wp2_with fail
      all_goals (go_ret <;> exact ⟨by simp [*], by first | exact hb.out | exact ((Own.start w).skip ((Fr.none_alloc w _).drewN _)).bel⟩)
  · have h1' : decide (1 ≤ c) = false := decide_eq_false h1
    go_enter Tryz.func95, Tryz.ntmps95
    go_wp2_with fail
    all_goals (try go_quiet (fail))
    all_goals go_wp2_with fail
    all_goals (go_ret <;> exact ⟨by simp [*], by first | exact hb.out | exact ((Own.start w).skip ((Fr.none_alloc w _).drewN _)).bel⟩)

/-- The Agg of one value. -/
def aggOne (v : Int) : AggV := ⟨1, v / 9223372036854775808, v % 18446744073709551616, v, v⟩
theorem one_any (v : Int) (hv : in64 v) (w : World) : Calls Tryz.prog 128 #[.int .i64 v] w fun r w' => r = .returned (aggOne v).val ∧ Below w.heap.size w w' := by
  obtain ⟨h0, h1⟩ := hv
  have hu : IntKind.u64.wrap v = v % 18446744073709551616 := by simp [IntKind.wrap, IntKind.signed, IntKind.bits]
  unfold AggV.val aggOne
  go_enter Tryz.func128, Tryz.ntmps128
  go_wp2_with fail
  refine bodyPost_ret (v := .agg #[.int .i64 1, .int .i64 (v / 9223372036854775808), .int .u64 (v % 18446744073709551616), .int .i64 v, .int .i64 v]) ?_ rfl ⟨rfl, ((Own.start w).skip (Fr.none_alloc w _)).bel⟩
  simp [results, Tryz.results128, go_sem]
theorem both_zero (a b : AggV) (ha : a.count = 0) (w : World) : Calls Tryz.prog 127 #[a.val, b.val] w fun r w' => r = .returned b.val ∧ Below w.heap.size w w' := by
  obtain ⟨c, h, l, m, x⟩ := a
  obtain ⟨c', h', l', m', x'⟩ := b
  simp only at ha
  subst ha
  unfold AggV.val
  go_enter Tryz.func127, Tryz.ntmps127
  go_wp2_with fail
  refine bodyPost_ret (v := .agg #[.int .i64 c', .int .i64 h', .int .u64 l', .int .i64 m', .int .i64 x']) ?_ rfl ⟨rfl, ((((Own.start w).skip (Fr.none_alloc w _)).skip (Fr.none_alloc _ _)).skip (Fr.none_alloc _ _)).bel⟩
  simp [results, Tryz.results127, go_sem]

set_option maxRecDepth 100000 in
set_option maxHeartbeats 2000000 in
/-- agg.Of of one value. -/
theorem ofone_any (v : Int) (hv : in64 v) (A : Option Addr) (c : Nat) (w : World) (hr : Rd w 1 A 1 [.int .i64 v]) :
    Calls Tryz.prog 84 #[.slice A 1 c] w fun r w' => r = .returned (aggOne v).val ∧ Below w.heap.size w w' := by
  have H1 : Hid (∀ w', Calls Tryz.prog 128 #[.int .i64 v] w' fun r w'' => r = .returned (aggOne v).val ∧ Below w'.heap.size w' w'') := fun w' => one_any v hv w'
  have H2 : Hid (∀ w', Calls Tryz.prog 127 #[agg0.val, (aggOne v).val] w' fun r w'' => r = .returned (aggOne v).val ∧ Below w'.heap.size w' w'') := fun w' => both_zero agg0 (aggOne v) rfl w'
  obtain ⟨ad, rfl, hc⟩ := hr.2 (by decide)
  have c0 := hc 0 _ rfl
  have c0' : w.cell? ad = some (.int .i64 v) := by have := c0; simp only [Addr.add, if_true] at this; exact this
  have c2 := fun o1 o2 => (Fr.none_alloc (w.alloc o1) o2).cell ((Fr.none_alloc w o1).cell c0' (fun h => h)) (fun h => h)
  clear hr hc c0 hv c0'
  unfold AggV.val aggOne agg0 at H2
  unfold AggV.val aggOne at H1
  unfold AggV.val aggOne
  obtain ⟨h, hh⟩ : ∃ h, v / 9223372036854775808 = h := ⟨_, rfl⟩
  obtain ⟨l, hl⟩ : ∃ l, v % 18446744073709551616 = l := ⟨_, rfl⟩
  rw [hh, hl] at H1 H2
  rw [hh, hl]
  clear hh hl
  simp only at H1 H2
  go_enter Tryz.func84, Tryz.ntmps84
  go_wp2_with fail
  refine wp_loop_rounds 2 ?_
  rw [rounds_succ]
  go_wp2_with fail
  obtain ⟨W1, hW1⟩ : ∃ W1, W1 = (w.alloc (.cells #[.int .i64 0, .int .i64 0, .int .u64 0, .int .i64 0, .int .i64 0] 61)).alloc (.cells #[.int .i64 0, .int .i64 0, .int .u64 0, .int .i64 0, .int .i64 0] 61) := ⟨_, rfl⟩
  rw [← hW1]
  have b0 : Blk W1 w.heap.size 61 #[.int .i64 0, .int .i64 0, .int .u64 0, .int .i64 0, .int .i64 0] := hW1 ▸ (Blk.new _ _ _).alloc _
  have b1 : Blk W1 (w.heap.size + 1) 61 #[.int .i64 0, .int .i64 0, .int .u64 0, .int .i64 0, .int .i64 0] := hW1 ▸ Blk.new' (by simp) _ _
  have o1 : Own w W1 (fun _ => False) := hW1 ▸ ((Own.start w).skip (Fr.none_alloc _ _)).skip (Fr.none_alloc _ _)
  have B0 := Lib.hid b0
  have B1 := Lib.hid b1
  have O1 := Lib.hid o1
  clear b0 b1 o1 hW1 c2
  have HS : Hid (∀ w', Fr (fun _ => False) W1 w' → (w'.cell? ⟨w.heap.size + 1, 0, none⟩ = some (.int .i64 0) ∧ w'.cell? ⟨w.heap.size + 1, 1, none⟩ = some (.int .i64 0) ∧ w'.cell? ⟨w.heap.size + 1, 2, none⟩ = some (.int .u64 0) ∧ w'.cell? ⟨w.heap.size + 1, 3, none⟩ = some (.int .i64 0) ∧ w'.cell? ⟨w.heap.size + 1, 4, none⟩ = some (.int .i64 0)) ∧ (w'.frozen? ⟨w.heap.size + 1, 0, none⟩ = false ∧ w'.frozen? ⟨w.heap.size + 1, 1, none⟩ = false ∧ w'.frozen? ⟨w.heap.size + 1, 2, none⟩ = false ∧ w'.frozen? ⟨w.heap.size + 1, 3, none⟩ = false ∧ w'.frozen? ⟨w.heap.size + 1, 4, none⟩ = false)) :=
    fun w' h => by
      have b := B1.out.fr h (fun h => h)
      exact ⟨⟨b.cell 0, b.cell 1, b.cell 2, b.cell 3, b.cell 4⟩, b.frozen 0, b.frozen 1, b.frozen 2, b.frozen 3, b.frozen 4⟩
  obtain ⟨⟨a0, a1, a2, a3, a4⟩, _⟩ := HS.out W1.drew ((Fr.refl _ _).drew)
  have F0 : Fr (fun _ => False) W1 W1.drew := (Fr.refl _ _).drew
  go_region_with (first | (go_at_call 128; refine (H1.out _).mono ?_; rintro r w5 ⟨rfl, b5⟩; have f5 := F0.trans (Fr.b0 b5) (fun _ h => h.elim); clear b5; clear a0 a1 a2 a3 a4; obtain ⟨⟨a0, a1, a2, a3, a4⟩, _⟩ := HS.out w5 f5) | (go_at_call 127; refine (H2.out _).mono ?_; rintro r w6 ⟨rfl, b6⟩; have f6 := f5.trans (Fr.b0 b6) (fun _ h => h.elim); clear b6; clear a0 a1 a2 a3 a4; obtain ⟨⟨a0, a1, a2, a3, a4⟩, g0, g1, g2, g3, g4⟩ := HS.out w6 f6))
  all_goals
    obtain ⟨W2, hW2⟩ : ∃ W2, W2 = ((((w6.setCell ⟨w.heap.size + 1, 0, none⟩ (.int .i64 1)).setCell ⟨w.heap.size + 1, 1, none⟩ (.int .i64 h)).setCell ⟨w.heap.size + 1, 2, none⟩ (.int .u64 l)).setCell ⟨w.heap.size + 1, 3, none⟩ (.int .i64 v)).setCell ⟨w.heap.size + 1, 4, none⟩ (.int .i64 v) := ⟨_, rfl⟩
    rw [← hW2]
    have B2 : Blk W2 (w.heap.size + 1) 61 #[.int .i64 1, .int .i64 h, .int .u64 l, .int .i64 v, .int .i64 v] := hW2 ▸ (B1.out.fr f6 (fun h => h)).set5
    have F2 : Fr (fun k => k = w.heap.size + 1) W1 W2 := hW2 ▸ Fr.set5 (F := fun k => k = w.heap.size + 1) (g := w.heap.size + 1) (f6.mono (fun _ h => h.elim)) (.inl rfl) _ _ _ _ _
    have R2 := B0.out.fr F2 (by omega)
    have O2 := Lib.hid ((O1.out.also (G := fun k => k = w.heap.size + 1) (fun k hk => by omega)).fr F2)
    clear a0 a1 a2 a3 a4 g0 g1 g2 g3 g4 hW2 F0 f5 f6 F2
    have a0 := B2.cell 0
    have a1 := B2.cell 1
    have a2 := B2.cell 2
    have a3 := B2.cell 3
    have a4 := B2.cell 4
    have b0 := R2.cell 0
    have b1 := R2.cell 1
    have b2 := R2.cell 2
    have b3 := R2.cell 3
    have b4 := R2.cell 4
    have g0 := R2.frozen 0
    have g1 := R2.frozen 1
    have g2 := R2.frozen 2
    have g3 := R2.frozen 3
    have g4 := R2.frozen 4
    simp only [List.getElem?_toArray, List.getElem?_cons_succ, List.getElem?_cons_zero] at a0 a1 a2 a3 a4 b0 b1 b2 b3 b4
    clear B2 R2
    go_wp2_with fail
    try rw [rounds_succ]
    go_wp2_with fail
    have o3 := (O2.out.also (G := fun k => k = w.heap.size) (fun k hk => by omega)).fr (Fr.set5 (F := fun k => k = w.heap.size) (g := w.heap.size) (Fr.refl _ W2) (.inl rfl) (.int .i64 1) (.int .i64 h) (.int .u64 l) (.int .i64 v) (.int .i64 v))
    refine bodyPost_ret (v := .agg #[.int .i64 1, .int .i64 h, .int .u64 l, .int .i64 v, .int .i64 v]) ?_ rfl ⟨rfl, o3.bel⟩
    simp [results, Tryz.results84, go_sem, *]

/-- An Agg's bytes. -/
def aggB (a : AggV) : List UInt8 := le8 [a.count, a.hi] ++ le a.lo.toNat 8 ++ le8 [a.min, a.max]
theorem aggB_len (a : AggV) : (aggB a).length = 40 := by simp [aggB, le8_len, le_length]

set_option maxRecDepth 100000 in
set_option maxHeartbeats 2000000 in
theorem aggput_any (a : AggV) (ha : a.wf) (w : World) :
    Calls Tryz.prog 129 #[a.val] w fun r w' => r = .returned (bif aggOk a then .tuple #[.string (bstr (aggB a)), .int .i64 0] else .tuple #[.string { data := #[] }, .int .i64 1]) ∧ Below w.heap.size w w' := by
  have HV : Hid (∀ w', Calls Tryz.prog 95 #[a.val] w' fun r w'' => r = .returned (.bool (aggOk a)) ∧ Below w'.heap.size w' w'') := fun w' => aggvalid_any a w'
  obtain ⟨c, h, l, m, x⟩ := a
  have Ha := Lib.hid ha
  clear ha
  cases hk : aggOk ⟨c, h, l, m, x⟩
  · rw [hk] at HV
    clear hk
    unfold AggV.val at HV ⊢
    go_enter Tryz.func129, Tryz.ntmps129
    go_wp2_with fail
    refine (HV.out _).mono ?_
    rintro r w1 ⟨rfl, b1⟩
    have O1 := Lib.hid (((Own.start w).skip (Fr.none_alloc w (.cells #[.int .i64 c, .int .i64 h, .int .u64 l, .int .i64 m, .int .i64 x] 61))).below b1)
    clear b1
    go_wp2_with fail
    go_ret2
    exact ⟨rfl, O1.out.bel⟩
  · rw [hk] at HV
    clear hk
    unfold AggV.val at HV ⊢
    have B0 := Lib.hid (Blk.new w 61 #[.int .i64 c, .int .i64 h, .int .u64 l, .int .i64 m, .int .i64 x])
    go_enter Tryz.func129, Tryz.ntmps129
    go_wp2_with fail
    refine (HV.out _).mono ?_
    rintro r w1 ⟨rfl, b1⟩
    have O1 := Lib.hid (((Own.start w).skip (Fr.none_alloc w (.cells #[.int .i64 c, .int .i64 h, .int .u64 l, .int .i64 m, .int .i64 x] 61))).below b1)
    have B1 := Lib.hid (B0.out.below b1)
    have c0 := fun o => (B1.out.alloc o).cell 0
    have c1 := fun o => (B1.out.alloc o).cell 1
    simp only [List.getElem?_toArray, List.getElem?_cons_succ, List.getElem?_cons_zero] at c0 c1
    clear b1
    go_wp2_with fail
    have p0 := (Pk.new w1).1
    have q0 := ((Own.start w1).skip (Fr.none_alloc w1 (.cells #[.int .i64 0, .slice none 0 0] 87))).also (Pk.new w1).2
    refine (ints_any _ _ 0 [] [c, h] _ 2 2 _ (p0.fr (Fr.none_alloc _ _) (fun _ _ h => h)) (Rd.new' (by simp) _ _ _ rfl) (adF_new' (by simp) p0.lt) (by simp)).mono ?_
    rw [show pW 0 [] (le8 [c, h]) = le8 [c, h] from rfl]
    rintro r w2 ⟨rfl, F1, p1, m1⟩
    have Q1 := Lib.hid ((q0.skip (Fr.none_alloc _ _)).mv m1)
    have P1 := Lib.hid p1
    clear p0 q0 m1 p1 c0 c1
    have c2 := (B1.out.below Q1.out.bel).cell 2
    simp only [List.getElem?_toArray, List.getElem?_cons_succ, List.getElem?_cons_zero] at c2
    go_wp2_with fail
    refine (words_any _ _ 0 _ [l] _ 1 1 _ (P1.out.fr (Fr.none_alloc _ _) (fun _ _ h => h)) (Rd.new _ _ _ _ rfl) (adF_new P1.out.lt) (by have := Ha.out.2.2.1.1; simpa using this) (by simp [le8_len])).mono ?_
    rw [pW_zero]
    rintro r w3 ⟨rfl, F2, p2, m2⟩
    have Q2 := Lib.hid ((Q1.out.skip (Fr.none_alloc _ _)).mv m2)
    have P2 := Lib.hid p2
    clear m2 p2 c2 P1 Q1
    have c3 := (B1.out.below Q2.out.bel).cell 3
    have c4 := (B1.out.below Q2.out.bel).cell 4
    simp only [List.getElem?_toArray, List.getElem?_cons_succ, List.getElem?_cons_zero] at c3 c4
    go_wp2_with fail
    refine (ints_any _ _ 0 _ [m, x] _ 2 2 _ (P2.out.fr (Fr.none_alloc _ _) (fun _ _ h => h)) (Rd.new _ _ _ _ rfl) (adF_new P2.out.lt) (by simp [le8_len, le_length])).mono ?_
    rw [pW_zero]
    rintro r w4 ⟨rfl, F3, p3, m3⟩
    have Q3 := Lib.hid ((Q2.out.skip (Fr.none_alloc _ _)).mv m3)
    have P3 := Lib.hid p3
    clear m3 p3 c3 c4 P2 Q2
    have HD := Lib.hid (done_at w1.heap.size F3 (aggB ⟨c, h, l, m, x⟩) _ w4 (by have := P3.out; simpa [aggB] using this) rfl)
    go_wp2_with fail
    refine (HD.out).mono ?_
    rintro r w5 ⟨rfl, rfl⟩
    have O5 := Lib.hid (O1.out.below Q3.out.bel)
    clear HD
    go_wp2_with fail
    go_ret2
    exact ⟨rfl, O5.out.bel⟩
end Go.Proofs.YtkickdmiilmkoaaGreatDoor
