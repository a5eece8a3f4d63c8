/- The statement SegApart: the walk. -/
import Derived.Test.YtkickdmiilmkoaaDoorAlive17
import Derived.Test.YtkickdmiilmkoaaDoorSameT
import Derived.Test.YtkickdmiilmkoaaDoorSame
namespace Go.Proofs.YtkickdmiilmkoaaDoor
open Go.RowKit

theorem strs_map (bs : List (List UInt8)) : strs bs = (bs.map bstr).map Value.string := by simp [strs]
theorem bstr_inj {a b : List UInt8} (h : bstr a = bstr b) : a = b := by rw [← bstr_list a, ← bstr_list b, h]
theorem bstrs_inj {a b : List (List UInt8)} (h : a.map bstr = b.map bstr) : a = b := List.map_inj_right (fun _ _ e => bstr_inj e) |>.1 h
/-- Two segments of the same number have the same blocks just if they have the same records. -/
theorem apart_same {id : Int} {la lb : List RecV} (hid : id < 18446744073709551616) (hr : rightB id 0 0 = true) (ha : la.length ≤ 12288) (hb : lb.length ≤ 12288) (wa : ∀ r ∈ la, r.wf) (wb : ∀ r ∈ lb, r.wf) (sa : segOk la = true) (sb : segOk lb = true) :
    decide ((blocksL id 0 0 la).map bstr = (blocksL id 0 0 lb).map bstr) = decide (la = lb) := by
  by_cases h : la = lb
  · subst h; simp
  · rw [decide_eq_false h]
    refine decide_eq_false fun e => h ?_
    have := bstrs_inj e
    rw [← outL_blocks (id := id) hid hr ha wa (segOk_recs sa), this, outL_blocks hid hr hb wb (segOk_recs sb)]
theorem apart_first {a b : Int} {la lb : List RecV} (ha : a < 18446744073709551616) (hb : b < 18446744073709551616) (ra : rightB a 0 0 = true) (rb : rightB b 0 0 = true) (na : la.length ≤ 12288) (nb : lb.length ≤ 12288) (h : a ≠ b) {x y : List UInt8} (hx : (blocksL a 0 0 la)[0]? = some x) (hy : (blocksL b 0 0 lb)[0]? = some y) : x ≠ y := by
  intro e
  subst e
  have h1 : 0 < blocksV la.length := by have := (List.getElem?_eq_some_iff.1 hx).1; rwa [blocksL_len] at this
  have h2 : 0 < blocksV lb.length := by have := (List.getElem?_eq_some_iff.1 hy).1; rwa [blocksL_len] at this
  rw [blocksL_at h1] at hx
  rw [blocksL_at h2] at hy
  have e1 := hdRd_block (l := partL la 0) (headK_good (l := la) (k := 0) ha ra na h1)
  have e2 := hdRd_block (l := partL lb 0) (headK_good (l := lb) (k := 0) hb rb nb h2)
  rw [Option.some.inj hx] at e1
  rw [Option.some.inj hy] at e2
  rw [e1] at e2
  exact h (congrArg HeadV.id e2)

set_option maxRecDepth 100000 in
set_option maxHeartbeats 8000000 in
theorem sapart_walk (a b : Int) (la lb : List RecV) (A B : Option Addr) (na ca nb cb : Nat) (w : World) (ha : 0 ≤ a ∧ a < 18446744073709551616) (hb : 0 ≤ b ∧ b < 18446744073709551616) (ra : Rd w 7 A na (rcells la)) (rb : Rd w 7 B nb (rcells lb)) (wa : ∀ r ∈ la, r.wf) (wb : ∀ r ∈ lb, r.wf) (ca1 : na ≤ ca) (cb1 : nb ≤ cb) (h1 : na ≤ 9223372036854775807) (h2 : nb ≤ 9223372036854775807) :
    Calls Tryd.prog 7 #[.int .u64 a, .int .u64 b, .slice A na ca, .slice B nb cb] w fun r w' => r = .returned (.bool true) ∧ Below w.heap.size w w' := by
  have F1 := Lib.hid (few_any 30 (by decide) la (fun r h => (wa r h).2.2) A na ca w ra h1)
  have F2 := Lib.hid (few_any 30 (by decide) lb (fun r h => (wb r h).2.2) B nb cb w rb h2)
  have AL := Lib.hid (fun w' => alive17_any w')
  have HL0 := Lib.hid ra
  have HM0 := Lib.hid rb
  have Hla := Lib.hid ra.recs_len
  have Hlb := Lib.hid rb.recs_len
  have Ha := Lib.hid ha
  have Hb := Lib.hid hb
  have Wa := Lib.hid wa
  have Wb := Lib.hid wb
  clear ra rb wa wb ha hb
  go_enter Tryd.func7, Tryd.ntmps7
  go_wp2_with fail
  refine (F1.out).mono ?_
  rintro r w1 ⟨⟨b1, rfl, q1⟩, rfl⟩
  cases b1
  · clear q1
    go_wp2_with fail
    refine (AL.out _).mono ?_
    rintro r w2 ⟨rfl, b2⟩
    have B2 := Lib.hid b2
    clear b2
    go_wp2_with fail
    go_ret
    exact ⟨rfl, B2.out⟩
  replace q1 := q1 rfl
  go_wp2_with fail
  refine (F2.out).mono ?_
  rintro r w1 ⟨⟨b1, rfl, q2⟩, rfl⟩
  cases b1
  · clear q2
    go_wp2_with fail
    refine (AL.out _).mono ?_
    rintro r w2 ⟨rfl, b2⟩
    have B2 := Lib.hid b2
    clear b2
    go_wp2_with fail
    go_ret
    exact ⟨rfl, B2.out⟩
  replace q2 := q2 rfl
  have HNA := Lib.hid q1
  have HNB := Lib.hid q2
  clear F1 F2
  go_wp2_with fail
  refine (segput_any a 0 0 Ha.out la Wa.out A na ca w HL0.out (by omega) ca1).mono ?_
  rintro r w2 ⟨p1, p2, b2⟩
  have O2 := Lib.hid ((Own.start w).below b2)
  have HL2 := Lib.hid (HL0.out.below b2)
  have HM2 := Lib.hid (HM0.out.below b2)
  cases hPA : (rightB a 0 0 && segOk la)
  · obtain rfl := p2 hPA
    clear p1 p2 b2 hPA
    go_wp2_with fail
    refine (segput_any b 0 0 Hb.out lb Wb.out B nb cb w2 HM2.out (by omega) cb1).mono ?_
    rintro r w3 ⟨p1, p2, b3⟩
    have O3 := Lib.hid (O2.out.below b3)
    clear b3
    cases hPB : (rightB b 0 0 && segOk lb)
    · obtain rfl := p2 hPB
      clear p1 p2 hPB
      go_wp2_with fail
      refine (AL.out _).mono ?_
      rintro r w4 ⟨rfl, b4⟩
      have O4 := Lib.hid (O3.out.below b4)
      clear b4
      go_wp2_with fail
      go_ret
      exact ⟨rfl, O4.out.bel⟩
    · obtain ⟨RB, rcb, rfl, _⟩ := p1 hPB
      clear p1 p2 hPB
      go_wp2_with fail
      refine (AL.out _).mono ?_
      rintro r w4 ⟨rfl, b4⟩
      have O4 := Lib.hid (O3.out.below b4)
      clear b4
      go_wp2_with fail
      go_ret
      exact ⟨rfl, O4.out.bel⟩
  obtain ⟨RA, rca, rfl, oa⟩ := p1 hPA
  have OA := Lib.hid (Rd.of_own oa)
  have HPA := Lib.hid hPA
  clear p1 p2 b2 oa hPA
  go_wp2_with fail
  refine (segput_any b 0 0 Hb.out lb Wb.out B nb cb w2 HM2.out (by omega) cb1).mono ?_
  rintro r w3 ⟨p1, p2, b3⟩
  have O3 := Lib.hid (O2.out.below b3)
  have HL3 := Lib.hid (HL2.out.below b3)
  have HM3 := Lib.hid (HM2.out.below b3)
  have HX3 := Lib.hid (OA.out.below b3)
  cases hPB : (rightB b 0 0 && segOk lb)
  · obtain rfl := p2 hPB
    clear p1 p2 b3 hPB
    go_wp2_with fail
    refine (AL.out _).mono ?_
    rintro r w4 ⟨rfl, b4⟩
    have O4 := Lib.hid (O3.out.below b4)
    clear b4
    go_wp2_with fail
    go_ret
    exact ⟨rfl, O4.out.bel⟩
  obtain ⟨RB, rcb, rfl, ob⟩ := p1 hPB
  have HY3 := Lib.hid (Rd.of_own ob)
  have HPB := Lib.hid hPB
  clear p1 p2 b3 ob hPB OA
  have hva : blocksV na ≤ 30 := by unfold blocksV; omega
  have hvb : blocksV nb ≤ 30 := by unfold blocksV; omega
  obtain ⟨va, hvae⟩ : ∃ v, blocksV na = v := ⟨_, rfl⟩
  obtain ⟨vb, hvbe⟩ : ∃ v, blocksV nb = v := ⟨_, rfl⟩
  rw [hvae] at HX3 hva ⊢
  rw [hvbe] at HY3 hvb ⊢
  clear hvae hvbe
  rcases Nat.eq_zero_or_pos va with rfl | hpa
  · go_wp2_with fail
    refine (AL.out _).mono ?_
    rintro r w4 ⟨rfl, b4⟩
    have O4 := Lib.hid (O3.out.below b4)
    clear b4
    go_wp2_with fail
    go_ret
    exact ⟨rfl, O4.out.bel⟩
  have hza : ((va : Int) == 0) = false := by simp; omega
  have hza2 : ¬ (va : Int) = 0 := by omega
  rcases Nat.eq_zero_or_pos vb with rfl | hpb
  · go_wp2_with fail
    refine (AL.out _).mono ?_
    rintro r w4 ⟨rfl, b4⟩
    have O4 := Lib.hid (O3.out.below b4)
    clear b4
    go_wp2_with fail
    go_ret
    exact ⟨rfl, O4.out.bel⟩
  have hzb : ((vb : Int) == 0) = false := by simp; omega
  have hzb2 : ¬ (vb : Int) = 0 := by omega
  go_wp2_with fail
  refine (sametexts_any ((blocksL a 0 0 la).map bstr) ((blocksL b 0 0 lb).map bstr) RA va rca RB vb rcb w3 (by rw [← strs_map]; exact HX3.out) (by rw [← strs_map]; exact HY3.out) (by omega) (by omega)).mono ?_
  rintro r w4 ⟨rfl, b4⟩
  have O4 := Lib.hid (O3.out.below b4)
  have HL4 := Lib.hid (HL3.out.below b4)
  have HM4 := Lib.hid (HM3.out.below b4)
  have HX4 := Lib.hid (HX3.out.below b4)
  have HY4 := Lib.hid (HY3.out.below b4)
  clear b4 HX3 HY3 HL3 HM3 HL2 HM2 O3 hza hza2 hzb hzb2
  have ra : Hid (rightB a 0 0 = true ∧ segOk la = true) := by show _ ∧ _; have := HPA.out; simpa using this
  have rb : Hid (rightB b 0 0 = true ∧ segOk lb = true) := by show _ ∧ _; have := HPB.out; simpa using this
  replace O4 := Lib.hid (O4.out.skip (Fr.refl (fun _ => False) w4).drew)
  replace HL4 := Lib.hid HL4.out.drew
  replace HM4 := Lib.hid HM4.out.drew
  replace HX4 := Lib.hid HX4.out.drew
  replace HY4 := Lib.hid HY4.out.drew
  by_cases hab : a = b
  · subst hab
    have hs := apart_same (id := a) (la := la) (lb := lb) Ha.out.2 ra.out.1 (by rw [Hla.out]; omega) (by rw [Hlb.out]; omega) Wa.out Wb.out ra.out.2 rb.out.2
    rw [hs]
    clear hs
    obtain ⟨V, hV⟩ : ∃ V, decide (la = lb) = V := ⟨_, rfl⟩
    rw [hV]
    have HV := Lib.hid hV
    have haa : (a == a) = true := beq_self_eq_true a
    have hvv : (V == V) = true := beq_self_eq_true V
    clear hV
    go_wp2_with fail
    refine wp_region_any (by kernel_rfl) ?_
    change wpAny _ _ _ _ _ _ _ (World.drew _)
    refine wpAny_ready (rs := [0]) (by kernel_rfl) (by simp) ?_
    refine AllReady.cons (o := { dst := some 55, op := Op.call { callee := Callee.value (Operand.func 23), args := #[], argTypes := #[] }, type := 4, pos := "more.go:22", after := #[], guard := none }) rfl (fun K hK => ?_) AllReady.nil
    go_simp
    go_wp2_with (first | (go_at_call 23; refine (AL.out _).mono ?_; rintro r w5 ⟨rfl, b5⟩; have O5 := Lib.hid (O4.out.below b5); have L5 := Lib.hid (HL4.out.below b5); have M5 := Lib.hid (HM4.out.below b5); have X5 := Lib.hid (HX4.out.below b5); have Y5 := Lib.hid (HY4.out.below b5); clear b5))
    refine wpAny_take (i := 1) (oi := { dst := some 56, op := Op.move (Operand.tmp 55), type := 4, pos := "more.go:22", after := #[{ on := 0, ground := Ground.data }, { on := 0, ground := Ground.chain }], guard := none }) (v := ?vq1) rfl (by kernel_rfl) (by kernel_rfl) (by kernel_rfl) (fun _ _ _ h => h) (Or.inl ⟨by rfl, ?hq1⟩) ?rq1
    case hq1 => intro W; go_simp; (try with_reducible rfl)
    try simp only [Act.put, List.setIfInBounds_toArray, List.set_cons_zero, List.set_cons_succ]
    refine wpAny_take (i := 2) (oi := { dst := some 57, op := Op.move (Operand.tmp 13), type := 4, pos := "more.go:22", after := #[{ on := 1, ground := Ground.guard }], guard := some (1, true) }) (v := ?vq2) rfl (by kernel_rfl) (by kernel_rfl) (by kernel_rfl) (fun _ _ _ h => h) (Or.inl ⟨by rfl, ?hq2⟩) ?rq2
    case hq2 => intro W; go_simp; (try with_reducible rfl)
    try simp only [Act.put, List.setIfInBounds_toArray, List.set_cons_zero, List.set_cons_succ]
    refine wpAny_take (i := 3) (oi := { dst := some 58, op := Op.move (Operand.tmp 0), type := 46, pos := "more.go:22", after := #[{ on := 1, ground := Ground.guard }], guard := some (1, true) }) (v := ?vq3) rfl (by kernel_rfl) (by kernel_rfl) (by kernel_rfl) (fun _ _ _ h => h) (Or.inl ⟨by rfl, ?hq3⟩) ?rq3
    case hq3 => intro W; go_simp; (try with_reducible rfl)
    try simp only [Act.put, List.setIfInBounds_toArray, List.set_cons_zero, List.set_cons_succ]
    refine wpAny_take (i := 4) (oi := { dst := some 59, op := Op.move (Operand.tmp 1), type := 46, pos := "more.go:22", after := #[{ on := 1, ground := Ground.guard }], guard := some (1, true) }) (v := ?vq4) rfl (by kernel_rfl) (by kernel_rfl) (by kernel_rfl) (fun _ _ _ h => h) (Or.inl ⟨by rfl, ?hq4⟩) ?rq4
    case hq4 => intro W; go_simp; (try with_reducible rfl)
    try simp only [Act.put, List.setIfInBounds_toArray, List.set_cons_zero, List.set_cons_succ]
    refine wpAny_take (i := 5) (oi := { dst := some 60, op := Op.binOp BinOp.eql 46 (Operand.tmp 58) (Operand.tmp 59) 46, type := 4, pos := "more.go:22", after := #[{ on := 3, ground := Ground.data }, { on := 4, ground := Ground.data }, { on := 1, ground := Ground.guard }], guard := some (1, true) }) (v := ?vq5) rfl (by kernel_rfl) (by kernel_rfl) (by kernel_rfl) (fun _ _ _ h => h) (Or.inl ⟨by rfl, ?hq5⟩) ?rq5
    case hq5 => intro W; go_simp; (try with_reducible rfl)
    try simp only [Act.put, List.setIfInBounds_toArray, List.set_cons_zero, List.set_cons_succ]
    refine wpAny_take (i := 6) (oi := { dst := some 61, op := Op.move (Operand.tmp 60), type := 4, pos := "more.go:22", after := #[{ on := 5, ground := Ground.data }, { on := 1, ground := Ground.chain }, { on := 1, ground := Ground.guard }], guard := some (1, true) }) (v := ?vq6) rfl (by kernel_rfl) (by kernel_rfl) (by kernel_rfl) (fun _ _ _ h => h) (Or.inl ⟨by rfl, ?hq6⟩) ?rq6
    case hq6 => intro W; go_simp; (try with_reducible rfl)
    try simp only [Act.put, List.setIfInBounds_toArray, List.set_cons_zero, List.set_cons_succ]
    refine wpAny_take (i := 7) (oi := { dst := some 62, op := Op.move (Operand.tmp 2), type := 34, pos := "more.go:22", after := #[{ on := 6, ground := Ground.guard }], guard := some (6, true) }) (v := ?vq7) rfl (by kernel_rfl) (by kernel_rfl) (by kernel_rfl) (fun _ _ _ h => h) (Or.inl ⟨by rfl, ?hq7⟩) ?rq7
    case hq7 => intro W; go_simp; (try with_reducible rfl)
    try simp only [Act.put, List.setIfInBounds_toArray, List.set_cons_zero, List.set_cons_succ]
    refine wpAny_take (i := 8) (oi := { dst := some 63, op := Op.move (Operand.tmp 3), type := 34, pos := "more.go:22", after := #[{ on := 6, ground := Ground.guard }], guard := some (6, true) }) (v := ?vq8) rfl (by kernel_rfl) (by kernel_rfl) (by kernel_rfl) (fun _ _ _ h => h) (Or.inl ⟨by rfl, ?hq8⟩) ?rq8
    case hq8 => intro W; go_simp; (try with_reducible rfl)
    try simp only [Act.put, List.setIfInBounds_toArray, List.set_cons_zero, List.set_cons_succ]
    refine wpAny_ready (rs := [9]) (by kernel_rfl) (by simp) ?_
    refine AllReady.cons (o := { dst := some 64, op := Op.call { callee := Callee.value (Operand.func 19), args := #[Operand.tmp 62, Operand.tmp 63], argTypes := #[34, 34] }, type := 4, pos := "more.go:22", after := #[{ on := 7, ground := Ground.data }, { on := 8, ground := Ground.data }, { on := 6, ground := Ground.chain }, { on := 6, ground := Ground.guard }], guard := some (6, true) }) rfl (fun K hK => ?_) AllReady.nil
    go_simp
    go_wp2_with (first | (go_at_call 19; refine (samerecs_any la lb A na ca B nb cb _ L5.out M5.out (by have := HNA.out; omega) (by have := HNB.out; omega)).mono ?_; rintro r w6 ⟨rfl, b6⟩; have O6 := Lib.hid (O5.out.below b6); clear b6); rw [HV.out])
    refine wpAny_take (i := 10) (oi := { dst := some 65, op := Op.pick (Operand.tmp 61) (Operand.tmp 64) (Operand.const (Value.bool false)), type := 4, pos := "more.go:22", after := #[{ on := 6, ground := Ground.data }, { on := 9, ground := Ground.data }, { on := 1, ground := Ground.guard }], guard := some (1, true) }) (v := ?vq9) rfl (by kernel_rfl) (by kernel_rfl) (by kernel_rfl) (fun _ _ _ h => h) (Or.inl ⟨by rfl, ?hq9⟩) ?rq9
    case hq9 => intro W; go_simp; (try with_reducible rfl)
    try simp only [Act.put, List.setIfInBounds_toArray, List.set_cons_zero, List.set_cons_succ]
    refine wpAny_take (i := 11) (oi := { dst := some 66, op := Op.binOp BinOp.eql 4 (Operand.tmp 57) (Operand.tmp 65) 4, type := 4, pos := "more.go:22", after := #[{ on := 2, ground := Ground.data }, { on := 10, ground := Ground.data }, { on := 1, ground := Ground.guard }], guard := some (1, true) }) (v := ?vq10) rfl (by kernel_rfl) (by kernel_rfl) (by kernel_rfl) (fun _ _ _ h => h) (Or.inl ⟨by rfl, ?hq10⟩) ?rq10
    case hq10 => intro W; go_simp; (try with_reducible rfl)
    try simp only [Act.put, List.setIfInBounds_toArray, List.set_cons_zero, List.set_cons_succ]
    refine wpAny_take (i := 12) (oi := { dst := some 67, op := Op.pick (Operand.tmp 56) (Operand.tmp 66) (Operand.const (Value.bool false)), type := 4, pos := "more.go:22", after := #[{ on := 1, ground := Ground.data }, { on := 11, ground := Ground.data }], guard := none }) (v := ?vq11) rfl (by kernel_rfl) (by kernel_rfl) (by kernel_rfl) (fun _ _ _ h => h) (Or.inl ⟨by rfl, ?hq11⟩) ?rq11
    case hq11 => intro W; go_simp; (try with_reducible rfl)
    try simp only [Act.put, List.setIfInBounds_toArray, List.set_cons_zero, List.set_cons_succ]
    refine wpAny_take (i := 13) (oi := { dst := some 68, op := Op.move (Operand.tmp 67), type := 4, pos := "more.go:22", after := #[{ on := 12, ground := Ground.data }, { on := 9, ground := Ground.chain }], guard := none }) (v := ?vq12) rfl (by kernel_rfl) (by kernel_rfl) (by kernel_rfl) (fun _ _ _ h => h) (Or.inl ⟨by rfl, ?hq12⟩) ?rq12
    case hq12 => intro W; go_simp; (try with_reducible rfl)
    try simp only [Act.put, List.setIfInBounds_toArray, List.set_cons_zero, List.set_cons_succ]
    refine wpAny_take (i := 14) (oi := { dst := some 69, op := Op.move (Operand.tmp 0), type := 46, pos := "more.go:22", after := #[{ on := 13, ground := Ground.guard }], guard := some (13, true) }) (v := ?vq13) rfl (by kernel_rfl) (by kernel_rfl) (by kernel_rfl) (fun _ _ _ h => h) (Or.inl ⟨by rfl, ?hq13⟩) ?rq13
    case hq13 => intro W; go_simp; (try with_reducible rfl)
    try simp only [Act.put, List.setIfInBounds_toArray, List.set_cons_zero, List.set_cons_succ]
    refine wpAny_take (i := 15) (oi := { dst := some 70, op := Op.move (Operand.tmp 1), type := 46, pos := "more.go:22", after := #[{ on := 13, ground := Ground.guard }], guard := some (13, true) }) (v := ?vq14) rfl (by kernel_rfl) (by kernel_rfl) (by kernel_rfl) (fun _ _ _ h => h) (Or.inl ⟨by rfl, ?hq14⟩) ?rq14
    case hq14 => intro W; go_simp; (try with_reducible rfl)
    try simp only [Act.put, List.setIfInBounds_toArray, List.set_cons_zero, List.set_cons_succ]
    refine wpAny_take (i := 16) (oi := { dst := some 71, op := Op.binOp BinOp.eql 46 (Operand.tmp 69) (Operand.tmp 70) 46, type := 4, pos := "more.go:22", after := #[{ on := 14, ground := Ground.data }, { on := 15, ground := Ground.data }, { on := 13, ground := Ground.guard }], guard := some (13, true) }) (v := ?vq15) rfl (by kernel_rfl) (by kernel_rfl) (by kernel_rfl) (fun _ _ _ h => h) (Or.inl ⟨by rfl, ?hq15⟩) ?rq15
    case hq15 => intro W; go_simp; (try with_reducible rfl)
    try simp only [Act.put, List.setIfInBounds_toArray, List.set_cons_zero, List.set_cons_succ]
    refine wpAny_take (i := 17) (oi := { dst := some 72, op := Op.move (Operand.tmp 71), type := 4, pos := "more.go:22", after := #[{ on := 16, ground := Ground.data }, { on := 13, ground := Ground.chain }, { on := 13, ground := Ground.guard }], guard := some (13, true) }) (v := ?vq16) rfl (by kernel_rfl) (by kernel_rfl) (by kernel_rfl) (fun _ _ _ h => h) (Or.inl ⟨by rfl, ?hq16⟩) ?rq16
    case hq16 => intro W; go_simp; (try with_reducible rfl)
    try simp only [Act.put, List.setIfInBounds_toArray, List.set_cons_zero, List.set_cons_succ]
    refine wpAny_take (i := 18) (oi := { dst := some 73, op := Op.move (Operand.tmp 9), type := 47, pos := "more.go:22", after := #[{ on := 17, ground := Ground.guard }], guard := some (17, false) }) (v := undef) rfl (by kernel_rfl) (by kernel_rfl) (by kernel_rfl) (fun _ _ _ h => h) (Or.inr ⟨by rfl, rfl⟩) ?_
    try simp only [Act.put, List.setIfInBounds_toArray, List.set_cons_zero, List.set_cons_succ]
    refine wpAny_take (i := 19) (oi := { dst := some 74, op := Op.indexAddr 47 (Operand.tmp 73) (Operand.const (Value.int IntKind.i64 0)), type := 0, pos := "more.go:22", after := #[{ on := 18, ground := Ground.data }, { on := 17, ground := Ground.guard }], guard := some (17, false) }) (v := undef) rfl (by kernel_rfl) (by kernel_rfl) (by kernel_rfl) (fun _ _ _ h => h) (Or.inr ⟨by rfl, rfl⟩) ?_
    try simp only [Act.put, List.setIfInBounds_toArray, List.set_cons_zero, List.set_cons_succ]
    refine wpAny_take (i := 20) (oi := { dst := some 75, op := Op.load 9 (Operand.tmp 74), type := 9, pos := "more.go:22", after := #[{ on := 19, ground := Ground.data }, { on := 17, ground := Ground.guard }], guard := some (17, false) }) (v := undef) rfl (by kernel_rfl) (by kernel_rfl) (by kernel_rfl) (fun _ _ _ h => h) (Or.inr ⟨by rfl, rfl⟩) ?_
    try simp only [Act.put, List.setIfInBounds_toArray, List.set_cons_zero, List.set_cons_succ]
    refine wpAny_take (i := 21) (oi := { dst := some 76, op := Op.move (Operand.tmp 11), type := 47, pos := "more.go:22", after := #[{ on := 17, ground := Ground.guard }], guard := some (17, false) }) (v := undef) rfl (by kernel_rfl) (by kernel_rfl) (by kernel_rfl) (fun _ _ _ h => h) (Or.inr ⟨by rfl, rfl⟩) ?_
    try simp only [Act.put, List.setIfInBounds_toArray, List.set_cons_zero, List.set_cons_succ]
    refine wpAny_take (i := 22) (oi := { dst := some 77, op := Op.indexAddr 47 (Operand.tmp 76) (Operand.const (Value.int IntKind.i64 0)), type := 0, pos := "more.go:22", after := #[{ on := 21, ground := Ground.data }, { on := 17, ground := Ground.guard }], guard := some (17, false) }) (v := undef) rfl (by kernel_rfl) (by kernel_rfl) (by kernel_rfl) (fun _ _ _ h => h) (Or.inr ⟨by rfl, rfl⟩) ?_
    try simp only [Act.put, List.setIfInBounds_toArray, List.set_cons_zero, List.set_cons_succ]
    refine wpAny_take (i := 23) (oi := { dst := some 78, op := Op.load 9 (Operand.tmp 77), type := 9, pos := "more.go:22", after := #[{ on := 22, ground := Ground.data }, { on := 17, ground := Ground.guard }], guard := some (17, false) }) (v := undef) rfl (by kernel_rfl) (by kernel_rfl) (by kernel_rfl) (fun _ _ _ h => h) (Or.inr ⟨by rfl, rfl⟩) ?_
    try simp only [Act.put, List.setIfInBounds_toArray, List.set_cons_zero, List.set_cons_succ]
    refine wpAny_take (i := 24) (oi := { dst := some 79, op := Op.binOp BinOp.neq 9 (Operand.tmp 75) (Operand.tmp 78) 9, type := 4, pos := "more.go:22", after := #[{ on := 20, ground := Ground.data }, { on := 23, ground := Ground.data }, { on := 17, ground := Ground.guard }], guard := some (17, false) }) (v := undef) rfl (by kernel_rfl) (by kernel_rfl) (by kernel_rfl) (fun _ _ _ h => h) (Or.inr ⟨by rfl, rfl⟩) ?_
    try simp only [Act.put, List.setIfInBounds_toArray, List.set_cons_zero, List.set_cons_succ]
    refine wpAny_take (i := 25) (oi := { dst := some 80, op := Op.pick (Operand.tmp 72) (Operand.const (Value.bool true)) (Operand.tmp 79), type := 4, pos := "more.go:22", after := #[{ on := 17, ground := Ground.data }, { on := 24, ground := Ground.data }, { on := 13, ground := Ground.guard }], guard := some (13, true) }) (v := ?vq17) rfl (by kernel_rfl) (by kernel_rfl) (by kernel_rfl) (fun _ _ _ h => h) (Or.inl ⟨by rfl, ?hq17⟩) ?rq17
    case hq17 => intro W; go_simp; (try with_reducible rfl)
    try simp only [Act.put, List.setIfInBounds_toArray, List.set_cons_zero, List.set_cons_succ]
    refine wpAny_take (i := 26) (oi := { dst := some 81, op := Op.pick (Operand.tmp 68) (Operand.tmp 80) (Operand.const (Value.bool false)), type := 4, pos := "more.go:22", after := #[{ on := 13, ground := Ground.data }, { on := 25, ground := Ground.data }], guard := none }) (v := ?vq18) rfl (by kernel_rfl) (by kernel_rfl) (by kernel_rfl) (fun _ _ _ h => h) (Or.inl ⟨by rfl, ?hq18⟩) ?rq18
    case hq18 => intro W; go_simp; (try with_reducible rfl)
    try simp only [Act.put, List.setIfInBounds_toArray, List.set_cons_zero, List.set_cons_succ]
    refine wpAny_ready (rs := [27]) (by kernel_rfl) (by simp) ?_
    refine AllReady.cons (o := { dst := some 8, op := Op.assign (Operand.tmp 81), type := 4, pos := "more.go:22", after := #[{ on := 26, ground := Ground.data }, { on := 17, ground := Ground.chain }, { on := 0, ground := Ground.phase }, { on := 1, ground := Ground.phase }, { on := 2, ground := Ground.phase }, { on := 3, ground := Ground.phase }, { on := 4, ground := Ground.phase }, { on := 5, ground := Ground.phase }, { on := 6, ground := Ground.phase }, { on := 7, ground := Ground.phase }, { on := 8, ground := Ground.phase }, { on := 9, ground := Ground.phase }, { on := 10, ground := Ground.phase }, { on := 11, ground := Ground.phase }, { on := 12, ground := Ground.phase }, { on := 13, ground := Ground.phase }, { on := 14, ground := Ground.phase }, { on := 15, ground := Ground.phase }, { on := 16, ground := Ground.phase }, { on := 17, ground := Ground.phase }, { on := 18, ground := Ground.phase }, { on := 19, ground := Ground.phase }, { on := 20, ground := Ground.phase }, { on := 21, ground := Ground.phase }, { on := 22, ground := Ground.phase }, { on := 23, ground := Ground.phase }, { on := 24, ground := Ground.phase }, { on := 25, ground := Ground.phase }, { on := 26, ground := Ground.phase }], guard := none }) rfl (fun K hK => ?_) AllReady.nil
    go_simp
    refine hK _ _ ?_
    clear hK K
    try simp only [Act.put, List.setIfInBounds_toArray, List.set_cons_zero, List.set_cons_succ]
    refine wpAny_done (by kernel_rfl) ?_ _
    go_wp2_with fail
    go_ret
    exact ⟨rfl, O6.out.bel⟩
  · have hs : decide ((blocksL a 0 0 la).map bstr = (blocksL b 0 0 lb).map bstr) = false := by
      refine decide_eq_false fun e => ?_
      have e2 := bstrs_inj e
      have hxe : ∃ x, (blocksL a 0 0 la)[0]? = some x := ⟨_, List.getElem?_eq_getElem (by have := HX4.out.1; rw [strs_len] at this; omega)⟩
      obtain ⟨x, hx⟩ := hxe
      exact apart_first Ha.out.2 Hb.out.2 ra.out.1 rb.out.1 (by rw [Hla.out]; omega) (by rw [Hlb.out]; omega) hab hx (by rw [← e2]; exact hx) rfl
    rw [hs]
    obtain ⟨ad, x, rfl, hx, c1⟩ := HX4.out.at_map hpa
    obtain ⟨bd, y, rfl, hy, c2⟩ := HY4.out.at_map hpb
    have hxy := apart_first Ha.out.2 Hb.out.2 ra.out.1 rb.out.1 (by rw [Hla.out]; omega) (by rw [Hlb.out]; omega) hab hx hy
    have hcmp1 : ¬ (bstr x).toList = (bstr y).toList := by
      rw [Lib.toList_data, Lib.toList_data, bstr_list, bstr_list]; exact hxy
    have hcmp2 : ((bstr x).toList != (bstr y).toList) = true := by simpa using hcmp1
    have hcmp3 : ((bstr x).toList == (bstr y).toList) = false := by simpa using hcmp1
    rw [addr_zero] at c1 c2
    have hab2 : (a == b) = false := by simpa using hab
    have hab3 : decide (a = b) = false := decide_eq_false hab
    obtain ⟨X, hX⟩ : ∃ X, bstr x = X := ⟨_, rfl⟩
    obtain ⟨Y, hY⟩ : ∃ Y, bstr y = Y := ⟨_, rfl⟩
    rw [hX] at c1 hcmp1 hcmp2 hcmp3
    rw [hY] at c2 hcmp1 hcmp2 hcmp3
    have Hc1 := Lib.hid c1
    have Hc2 := Lib.hid c2
    clear hs hx hy hxy hX hY
    go_wp2_with fail
    refine wp_region_any (by kernel_rfl) ?_
    change wpAny _ _ _ _ _ _ _ (World.drew _)
    refine wpAny_ready (rs := [0]) (by kernel_rfl) (by simp) ?_
    refine AllReady.cons (o := { dst := some 55, op := Op.call { callee := Callee.value (Operand.func 23), args := #[], argTypes := #[] }, type := 4, pos := "more.go:22", after := #[], guard := none }) rfl (fun K hK => ?_) AllReady.nil
    go_simp
    go_wp2_with (first | (go_at_call 23; refine (AL.out _).mono ?_; rintro r w5 ⟨rfl, b5⟩; have O5 := Lib.hid (O4.out.below b5); have k1 := (Fr.b0 b5).cell Hc1.out (fun h => h); have k2 := (Fr.b0 b5).cell Hc2.out (fun h => h); clear b5))
    refine wpAny_take (i := 1) (oi := { dst := some 56, op := Op.move (Operand.tmp 55), type := 4, pos := "more.go:22", after := #[{ on := 0, ground := Ground.data }, { on := 0, ground := Ground.chain }], guard := none }) (v := ?vq19) rfl (by kernel_rfl) (by kernel_rfl) (by kernel_rfl) (fun _ _ _ h => h) (Or.inl ⟨by rfl, ?hq19⟩) ?rq19
    case hq19 => intro W; go_simp; (try with_reducible rfl)
    try simp only [Act.put, List.setIfInBounds_toArray, List.set_cons_zero, List.set_cons_succ]
    refine wpAny_take (i := 2) (oi := { dst := some 57, op := Op.move (Operand.tmp 13), type := 4, pos := "more.go:22", after := #[{ on := 1, ground := Ground.guard }], guard := some (1, true) }) (v := ?vq20) rfl (by kernel_rfl) (by kernel_rfl) (by kernel_rfl) (fun _ _ _ h => h) (Or.inl ⟨by rfl, ?hq20⟩) ?rq20
    case hq20 => intro W; go_simp; (try with_reducible rfl)
    try simp only [Act.put, List.setIfInBounds_toArray, List.set_cons_zero, List.set_cons_succ]
    refine wpAny_take (i := 3) (oi := { dst := some 58, op := Op.move (Operand.tmp 0), type := 46, pos := "more.go:22", after := #[{ on := 1, ground := Ground.guard }], guard := some (1, true) }) (v := ?vq21) rfl (by kernel_rfl) (by kernel_rfl) (by kernel_rfl) (fun _ _ _ h => h) (Or.inl ⟨by rfl, ?hq21⟩) ?rq21
    case hq21 => intro W; go_simp; (try with_reducible rfl)
    try simp only [Act.put, List.setIfInBounds_toArray, List.set_cons_zero, List.set_cons_succ]
    refine wpAny_take (i := 4) (oi := { dst := some 59, op := Op.move (Operand.tmp 1), type := 46, pos := "more.go:22", after := #[{ on := 1, ground := Ground.guard }], guard := some (1, true) }) (v := ?vq22) rfl (by kernel_rfl) (by kernel_rfl) (by kernel_rfl) (fun _ _ _ h => h) (Or.inl ⟨by rfl, ?hq22⟩) ?rq22
    case hq22 => intro W; go_simp; (try with_reducible rfl)
    try simp only [Act.put, List.setIfInBounds_toArray, List.set_cons_zero, List.set_cons_succ]
    refine wpAny_take (i := 5) (oi := { dst := some 60, op := Op.binOp BinOp.eql 46 (Operand.tmp 58) (Operand.tmp 59) 46, type := 4, pos := "more.go:22", after := #[{ on := 3, ground := Ground.data }, { on := 4, ground := Ground.data }, { on := 1, ground := Ground.guard }], guard := some (1, true) }) (v := ?vq23) rfl (by kernel_rfl) (by kernel_rfl) (by kernel_rfl) (fun _ _ _ h => h) (Or.inl ⟨by rfl, ?hq23⟩) ?rq23
    case hq23 => intro W; go_simp; (try with_reducible rfl)
    try simp only [Act.put, List.setIfInBounds_toArray, List.set_cons_zero, List.set_cons_succ]
    refine wpAny_take (i := 6) (oi := { dst := some 61, op := Op.move (Operand.tmp 60), type := 4, pos := "more.go:22", after := #[{ on := 5, ground := Ground.data }, { on := 1, ground := Ground.chain }, { on := 1, ground := Ground.guard }], guard := some (1, true) }) (v := ?vq24) rfl (by kernel_rfl) (by kernel_rfl) (by kernel_rfl) (fun _ _ _ h => h) (Or.inl ⟨by rfl, ?hq24⟩) ?rq24
    case hq24 => intro W; go_simp; (try with_reducible rfl)
    try simp only [Act.put, List.setIfInBounds_toArray, List.set_cons_zero, List.set_cons_succ]
    refine wpAny_take (i := 7) (oi := { dst := some 62, op := Op.move (Operand.tmp 2), type := 34, pos := "more.go:22", after := #[{ on := 6, ground := Ground.guard }], guard := some (6, true) }) (v := undef) rfl (by kernel_rfl) (by kernel_rfl) (by kernel_rfl) (fun _ _ _ h => h) (Or.inr ⟨by rfl, rfl⟩) ?_
    try simp only [Act.put, List.setIfInBounds_toArray, List.set_cons_zero, List.set_cons_succ]
    refine wpAny_take (i := 8) (oi := { dst := some 63, op := Op.move (Operand.tmp 3), type := 34, pos := "more.go:22", after := #[{ on := 6, ground := Ground.guard }], guard := some (6, true) }) (v := undef) rfl (by kernel_rfl) (by kernel_rfl) (by kernel_rfl) (fun _ _ _ h => h) (Or.inr ⟨by rfl, rfl⟩) ?_
    try simp only [Act.put, List.setIfInBounds_toArray, List.set_cons_zero, List.set_cons_succ]
    refine wpAny_take (i := 9) (oi := { dst := some 64, op := Op.call { callee := Callee.value (Operand.func 19), args := #[Operand.tmp 62, Operand.tmp 63], argTypes := #[34, 34] }, type := 4, pos := "more.go:22", after := #[{ on := 7, ground := Ground.data }, { on := 8, ground := Ground.data }, { on := 6, ground := Ground.chain }, { on := 6, ground := Ground.guard }], guard := some (6, true) }) (v := undef) rfl (by kernel_rfl) (by kernel_rfl) (by kernel_rfl) (fun _ _ _ h => h) (Or.inr ⟨by rfl, rfl⟩) ?_
    try simp only [Act.put, List.setIfInBounds_toArray, List.set_cons_zero, List.set_cons_succ]
    refine wpAny_take (i := 10) (oi := { dst := some 65, op := Op.pick (Operand.tmp 61) (Operand.tmp 64) (Operand.const (Value.bool false)), type := 4, pos := "more.go:22", after := #[{ on := 6, ground := Ground.data }, { on := 9, ground := Ground.data }, { on := 1, ground := Ground.guard }], guard := some (1, true) }) (v := ?vq25) rfl (by kernel_rfl) (by kernel_rfl) (by kernel_rfl) (fun _ _ _ h => h) (Or.inl ⟨by rfl, ?hq25⟩) ?rq25
    case hq25 => intro W; go_simp; (try with_reducible rfl)
    try simp only [Act.put, List.setIfInBounds_toArray, List.set_cons_zero, List.set_cons_succ]
    refine wpAny_take (i := 11) (oi := { dst := some 66, op := Op.binOp BinOp.eql 4 (Operand.tmp 57) (Operand.tmp 65) 4, type := 4, pos := "more.go:22", after := #[{ on := 2, ground := Ground.data }, { on := 10, ground := Ground.data }, { on := 1, ground := Ground.guard }], guard := some (1, true) }) (v := ?vq26) rfl (by kernel_rfl) (by kernel_rfl) (by kernel_rfl) (fun _ _ _ h => h) (Or.inl ⟨by rfl, ?hq26⟩) ?rq26
    case hq26 => intro W; go_simp; (try with_reducible rfl)
    try simp only [Act.put, List.setIfInBounds_toArray, List.set_cons_zero, List.set_cons_succ]
    refine wpAny_take (i := 12) (oi := { dst := some 67, op := Op.pick (Operand.tmp 56) (Operand.tmp 66) (Operand.const (Value.bool false)), type := 4, pos := "more.go:22", after := #[{ on := 1, ground := Ground.data }, { on := 11, ground := Ground.data }], guard := none }) (v := ?vq27) rfl (by kernel_rfl) (by kernel_rfl) (by kernel_rfl) (fun _ _ _ h => h) (Or.inl ⟨by rfl, ?hq27⟩) ?rq27
    case hq27 => intro W; go_simp; (try with_reducible rfl)
    try simp only [Act.put, List.setIfInBounds_toArray, List.set_cons_zero, List.set_cons_succ]
    refine wpAny_take (i := 13) (oi := { dst := some 68, op := Op.move (Operand.tmp 67), type := 4, pos := "more.go:22", after := #[{ on := 12, ground := Ground.data }, { on := 9, ground := Ground.chain }], guard := none }) (v := ?vq28) rfl (by kernel_rfl) (by kernel_rfl) (by kernel_rfl) (fun _ _ _ h => h) (Or.inl ⟨by rfl, ?hq28⟩) ?rq28
    case hq28 => intro W; go_simp; (try with_reducible rfl)
    try simp only [Act.put, List.setIfInBounds_toArray, List.set_cons_zero, List.set_cons_succ]
    refine wpAny_take (i := 14) (oi := { dst := some 69, op := Op.move (Operand.tmp 0), type := 46, pos := "more.go:22", after := #[{ on := 13, ground := Ground.guard }], guard := some (13, true) }) (v := ?vq29) rfl (by kernel_rfl) (by kernel_rfl) (by kernel_rfl) (fun _ _ _ h => h) (Or.inl ⟨by rfl, ?hq29⟩) ?rq29
    case hq29 => intro W; go_simp; (try with_reducible rfl)
    try simp only [Act.put, List.setIfInBounds_toArray, List.set_cons_zero, List.set_cons_succ]
    refine wpAny_take (i := 15) (oi := { dst := some 70, op := Op.move (Operand.tmp 1), type := 46, pos := "more.go:22", after := #[{ on := 13, ground := Ground.guard }], guard := some (13, true) }) (v := ?vq30) rfl (by kernel_rfl) (by kernel_rfl) (by kernel_rfl) (fun _ _ _ h => h) (Or.inl ⟨by rfl, ?hq30⟩) ?rq30
    case hq30 => intro W; go_simp; (try with_reducible rfl)
    try simp only [Act.put, List.setIfInBounds_toArray, List.set_cons_zero, List.set_cons_succ]
    refine wpAny_take (i := 16) (oi := { dst := some 71, op := Op.binOp BinOp.eql 46 (Operand.tmp 69) (Operand.tmp 70) 46, type := 4, pos := "more.go:22", after := #[{ on := 14, ground := Ground.data }, { on := 15, ground := Ground.data }, { on := 13, ground := Ground.guard }], guard := some (13, true) }) (v := ?vq31) rfl (by kernel_rfl) (by kernel_rfl) (by kernel_rfl) (fun _ _ _ h => h) (Or.inl ⟨by rfl, ?hq31⟩) ?rq31
    case hq31 => intro W; go_simp; (try with_reducible rfl)
    try simp only [Act.put, List.setIfInBounds_toArray, List.set_cons_zero, List.set_cons_succ]
    refine wpAny_take (i := 17) (oi := { dst := some 72, op := Op.move (Operand.tmp 71), type := 4, pos := "more.go:22", after := #[{ on := 16, ground := Ground.data }, { on := 13, ground := Ground.chain }, { on := 13, ground := Ground.guard }], guard := some (13, true) }) (v := ?vq32) rfl (by kernel_rfl) (by kernel_rfl) (by kernel_rfl) (fun _ _ _ h => h) (Or.inl ⟨by rfl, ?hq32⟩) ?rq32
    case hq32 => intro W; go_simp; (try with_reducible rfl)
    try simp only [Act.put, List.setIfInBounds_toArray, List.set_cons_zero, List.set_cons_succ]
    refine wpAny_take (i := 18) (oi := { dst := some 73, op := Op.move (Operand.tmp 9), type := 47, pos := "more.go:22", after := #[{ on := 17, ground := Ground.guard }], guard := some (17, false) }) (v := ?vq33) rfl (by kernel_rfl) (by kernel_rfl) (by kernel_rfl) (fun _ _ _ h => h) (Or.inl ⟨by rfl, ?hq33⟩) ?rq33
    case hq33 => intro W; go_simp; (try with_reducible rfl)
    try simp only [Act.put, List.setIfInBounds_toArray, List.set_cons_zero, List.set_cons_succ]
    refine wpAny_take (i := 19) (oi := { dst := some 74, op := Op.indexAddr 47 (Operand.tmp 73) (Operand.const (Value.int IntKind.i64 0)), type := 0, pos := "more.go:22", after := #[{ on := 18, ground := Ground.data }, { on := 17, ground := Ground.guard }], guard := some (17, false) }) (v := ?vq34) rfl (by kernel_rfl) (by kernel_rfl) (by kernel_rfl) (fun _ _ _ h => h) (Or.inl ⟨by rfl, ?hq34⟩) ?rq34
    case hq34 => intro W; go_simp; (try with_reducible rfl)
    try simp only [Act.put, List.setIfInBounds_toArray, List.set_cons_zero, List.set_cons_succ]
    refine wpAny_take (i := 21) (oi := { dst := some 76, op := Op.move (Operand.tmp 11), type := 47, pos := "more.go:22", after := #[{ on := 17, ground := Ground.guard }], guard := some (17, false) }) (v := ?vq35) rfl (by kernel_rfl) (by kernel_rfl) (by kernel_rfl) (fun _ _ _ h => h) (Or.inl ⟨by rfl, ?hq35⟩) ?rq35
    case hq35 => intro W; go_simp; (try with_reducible rfl)
    try simp only [Act.put, List.setIfInBounds_toArray, List.set_cons_zero, List.set_cons_succ]
    refine wpAny_take (i := 22) (oi := { dst := some 77, op := Op.indexAddr 47 (Operand.tmp 76) (Operand.const (Value.int IntKind.i64 0)), type := 0, pos := "more.go:22", after := #[{ on := 21, ground := Ground.data }, { on := 17, ground := Ground.guard }], guard := some (17, false) }) (v := ?vq36) rfl (by kernel_rfl) (by kernel_rfl) (by kernel_rfl) (fun _ _ _ h => h) (Or.inl ⟨by rfl, ?hq36⟩) ?rq36
    case hq36 => intro W; go_simp; (try with_reducible rfl)
    try simp only [Act.put, List.setIfInBounds_toArray, List.set_cons_zero, List.set_cons_succ]
    refine wpAny_ready (rs := [20, 23]) (by kernel_rfl) (by simp) ?_
    refine AllReady.cons (o := { dst := some 75, op := Op.load 9 (Operand.tmp 74), type := 9, pos := "more.go:22", after := #[{ on := 19, ground := Ground.data }, { on := 17, ground := Ground.guard }], guard := some (17, false) }) rfl (fun K hK => ?_) ?_
    · go_simp
      refine hK _ _ ?_
      clear hK K
      try simp only [Act.put, List.setIfInBounds_toArray, List.set_cons_zero, List.set_cons_succ]
      refine wpAny_ready (rs := [23]) (by kernel_rfl) (by simp) ?_
      refine AllReady.cons (o := { dst := some 78, op := Op.load 9 (Operand.tmp 77), type := 9, pos := "more.go:22", after := #[{ on := 22, ground := Ground.data }, { on := 17, ground := Ground.guard }], guard := some (17, false) }) rfl (fun K hK => ?_) AllReady.nil
      go_simp
      refine hK _ _ ?_
      clear hK K
      try simp only [Act.put, List.setIfInBounds_toArray, List.set_cons_zero, List.set_cons_succ]
      refine wpAny_take (i := 24) (oi := { dst := some 79, op := Op.binOp BinOp.neq 9 (Operand.tmp 75) (Operand.tmp 78) 9, type := 4, pos := "more.go:22", after := #[{ on := 20, ground := Ground.data }, { on := 23, ground := Ground.data }, { on := 17, ground := Ground.guard }], guard := some (17, false) }) (v := ?vq37) rfl (by kernel_rfl) (by kernel_rfl) (by kernel_rfl) (fun _ _ _ h => h) (Or.inl ⟨by rfl, ?hq37⟩) ?rq37
      case hq37 => intro W; go_simp; (try with_reducible rfl)
      try simp only [Act.put, List.setIfInBounds_toArray, List.set_cons_zero, List.set_cons_succ]
      refine wpAny_take (i := 25) (oi := { dst := some 80, op := Op.pick (Operand.tmp 72) (Operand.const (Value.bool true)) (Operand.tmp 79), type := 4, pos := "more.go:22", after := #[{ on := 17, ground := Ground.data }, { on := 24, ground := Ground.data }, { on := 13, ground := Ground.guard }], guard := some (13, true) }) (v := ?vq38) rfl (by kernel_rfl) (by kernel_rfl) (by kernel_rfl) (fun _ _ _ h => h) (Or.inl ⟨by rfl, ?hq38⟩) ?rq38
      case hq38 => intro W; go_simp; (try with_reducible rfl)
      try simp only [Act.put, List.setIfInBounds_toArray, List.set_cons_zero, List.set_cons_succ]
      refine wpAny_take (i := 26) (oi := { dst := some 81, op := Op.pick (Operand.tmp 68) (Operand.tmp 80) (Operand.const (Value.bool false)), type := 4, pos := "more.go:22", after := #[{ on := 13, ground := Ground.data }, { on := 25, ground := Ground.data }], guard := none }) (v := ?vq39) rfl (by kernel_rfl) (by kernel_rfl) (by kernel_rfl) (fun _ _ _ h => h) (Or.inl ⟨by rfl, ?hq39⟩) ?rq39
      case hq39 => intro W; go_simp; (try with_reducible rfl)
      try simp only [Act.put, List.setIfInBounds_toArray, List.set_cons_zero, List.set_cons_succ]
      refine wpAny_ready (rs := [27]) (by kernel_rfl) (by simp) ?_
      refine AllReady.cons (o := { dst := some 8, op := Op.assign (Operand.tmp 81), type := 4, pos := "more.go:22", after := #[{ on := 26, ground := Ground.data }, { on := 17, ground := Ground.chain }, { on := 0, ground := Ground.phase }, { on := 1, ground := Ground.phase }, { on := 2, ground := Ground.phase }, { on := 3, ground := Ground.phase }, { on := 4, ground := Ground.phase }, { on := 5, ground := Ground.phase }, { on := 6, ground := Ground.phase }, { on := 7, ground := Ground.phase }, { on := 8, ground := Ground.phase }, { on := 9, ground := Ground.phase }, { on := 10, ground := Ground.phase }, { on := 11, ground := Ground.phase }, { on := 12, ground := Ground.phase }, { on := 13, ground := Ground.phase }, { on := 14, ground := Ground.phase }, { on := 15, ground := Ground.phase }, { on := 16, ground := Ground.phase }, { on := 17, ground := Ground.phase }, { on := 18, ground := Ground.phase }, { on := 19, ground := Ground.phase }, { on := 20, ground := Ground.phase }, { on := 21, ground := Ground.phase }, { on := 22, ground := Ground.phase }, { on := 23, ground := Ground.phase }, { on := 24, ground := Ground.phase }, { on := 25, ground := Ground.phase }, { on := 26, ground := Ground.phase }], guard := none }) rfl (fun K hK => ?_) AllReady.nil
      go_simp
      refine hK _ _ ?_
      clear hK K
      try simp only [Act.put, List.setIfInBounds_toArray, List.set_cons_zero, List.set_cons_succ]
      refine wpAny_done (by kernel_rfl) ?_ _
      go_wp2_with fail
      go_ret
      exact ⟨rfl, O5.out.bel⟩
    refine AllReady.cons (o := { dst := some 78, op := Op.load 9 (Operand.tmp 77), type := 9, pos := "more.go:22", after := #[{ on := 22, ground := Ground.data }, { on := 17, ground := Ground.guard }], guard := some (17, false) }) rfl (fun K hK => ?_) ?_
    · go_simp
      refine hK _ _ ?_
      clear hK K
      try simp only [Act.put, List.setIfInBounds_toArray, List.set_cons_zero, List.set_cons_succ]
      refine wpAny_ready (rs := [20]) (by kernel_rfl) (by simp) ?_
      refine AllReady.cons (o := { dst := some 75, op := Op.load 9 (Operand.tmp 74), type := 9, pos := "more.go:22", after := #[{ on := 19, ground := Ground.data }, { on := 17, ground := Ground.guard }], guard := some (17, false) }) rfl (fun K hK => ?_) AllReady.nil
      go_simp
      refine hK _ _ ?_
      clear hK K
      try simp only [Act.put, List.setIfInBounds_toArray, List.set_cons_zero, List.set_cons_succ]
      refine wpAny_take (i := 24) (oi := { dst := some 79, op := Op.binOp BinOp.neq 9 (Operand.tmp 75) (Operand.tmp 78) 9, type := 4, pos := "more.go:22", after := #[{ on := 20, ground := Ground.data }, { on := 23, ground := Ground.data }, { on := 17, ground := Ground.guard }], guard := some (17, false) }) (v := ?vq40) rfl (by kernel_rfl) (by kernel_rfl) (by kernel_rfl) (fun _ _ _ h => h) (Or.inl ⟨by rfl, ?hq40⟩) ?rq40
      case hq40 => intro W; go_simp; (try with_reducible rfl)
      try simp only [Act.put, List.setIfInBounds_toArray, List.set_cons_zero, List.set_cons_succ]
      refine wpAny_take (i := 25) (oi := { dst := some 80, op := Op.pick (Operand.tmp 72) (Operand.const (Value.bool true)) (Operand.tmp 79), type := 4, pos := "more.go:22", after := #[{ on := 17, ground := Ground.data }, { on := 24, ground := Ground.data }, { on := 13, ground := Ground.guard }], guard := some (13, true) }) (v := ?vq41) rfl (by kernel_rfl) (by kernel_rfl) (by kernel_rfl) (fun _ _ _ h => h) (Or.inl ⟨by rfl, ?hq41⟩) ?rq41
      case hq41 => intro W; go_simp; (try with_reducible rfl)
      try simp only [Act.put, List.setIfInBounds_toArray, List.set_cons_zero, List.set_cons_succ]
      refine wpAny_take (i := 26) (oi := { dst := some 81, op := Op.pick (Operand.tmp 68) (Operand.tmp 80) (Operand.const (Value.bool false)), type := 4, pos := "more.go:22", after := #[{ on := 13, ground := Ground.data }, { on := 25, ground := Ground.data }], guard := none }) (v := ?vq42) rfl (by kernel_rfl) (by kernel_rfl) (by kernel_rfl) (fun _ _ _ h => h) (Or.inl ⟨by rfl, ?hq42⟩) ?rq42
      case hq42 => intro W; go_simp; (try with_reducible rfl)
      try simp only [Act.put, List.setIfInBounds_toArray, List.set_cons_zero, List.set_cons_succ]
      refine wpAny_ready (rs := [27]) (by kernel_rfl) (by simp) ?_
      refine AllReady.cons (o := { dst := some 8, op := Op.assign (Operand.tmp 81), type := 4, pos := "more.go:22", after := #[{ on := 26, ground := Ground.data }, { on := 17, ground := Ground.chain }, { on := 0, ground := Ground.phase }, { on := 1, ground := Ground.phase }, { on := 2, ground := Ground.phase }, { on := 3, ground := Ground.phase }, { on := 4, ground := Ground.phase }, { on := 5, ground := Ground.phase }, { on := 6, ground := Ground.phase }, { on := 7, ground := Ground.phase }, { on := 8, ground := Ground.phase }, { on := 9, ground := Ground.phase }, { on := 10, ground := Ground.phase }, { on := 11, ground := Ground.phase }, { on := 12, ground := Ground.phase }, { on := 13, ground := Ground.phase }, { on := 14, ground := Ground.phase }, { on := 15, ground := Ground.phase }, { on := 16, ground := Ground.phase }, { on := 17, ground := Ground.phase }, { on := 18, ground := Ground.phase }, { on := 19, ground := Ground.phase }, { on := 20, ground := Ground.phase }, { on := 21, ground := Ground.phase }, { on := 22, ground := Ground.phase }, { on := 23, ground := Ground.phase }, { on := 24, ground := Ground.phase }, { on := 25, ground := Ground.phase }, { on := 26, ground := Ground.phase }], guard := none }) rfl (fun K hK => ?_) AllReady.nil
      go_simp
      refine hK _ _ ?_
      clear hK K
      try simp only [Act.put, List.setIfInBounds_toArray, List.set_cons_zero, List.set_cons_succ]
      refine wpAny_done (by kernel_rfl) ?_ _
      go_wp2_with fail
      go_ret
      exact ⟨rfl, O5.out.bel⟩
    exact AllReady.nil
end Go.Proofs.YtkickdmiilmkoaaDoor
