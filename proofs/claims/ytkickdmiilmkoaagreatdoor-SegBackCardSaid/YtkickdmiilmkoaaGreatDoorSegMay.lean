/- Walk of sedimentlaw17.may. -/
import Derived.Test.YtkickdmiilmkoaaGreatDoorSegF
import Derived.Test.YtkickdmiilmkoaaGreatDoorRefRec
namespace Go.Proofs.YtkickdmiilmkoaaGreatDoor
open Go.RowKit

theorem rightB_parts2 {id t s : Int} (h : rightB id t s = true) : 0 < id ∧ ¬ t < 0 ∧ ¬ 9 < t ∧ ¬ s < 0 ∧ ¬ 7 < s := by unfold rightB at h; simp only [Bool.and_eq_true, decide_eq_true_eq] at h; omega
theorem rightB_bad {id t s : Int} (h0 : 0 ≤ id) (h : rightB id t s = false) : id = 0 ∨ (0 < id ∧ t < 0) ∨ (0 < id ∧ ¬ t < 0 ∧ 9 < t) ∨ (0 < id ∧ ¬ t < 0 ∧ ¬ 9 < t ∧ s < 0) ∨ (0 < id ∧ ¬ t < 0 ∧ ¬ 9 < t ∧ ¬ s < 0 ∧ 7 < s) := by
  have : ¬ (0 < id ∧ 0 ≤ t ∧ t < 10 ∧ 0 ≤ s ∧ s < 8) := fun hh => by
    have : rightB id t s = true := by unfold rightB; simp only [Bool.and_eq_true, decide_eq_true_eq]; omega
    rw [h] at this; cases this
  omega

set_option maxRecDepth 100000 in
set_option maxHeartbeats 8000000 in
theorem may_any (id ti sh : Int) (hid : 0 ≤ id ∧ id < 18446744073709551616) (l : List RecV) (hl : ∀ r ∈ l, r.wf) (A : Option Addr) (n c : Nat) (w : World) (hr : Rd w 7 A n (rcells l)) (hn : n ≤ 1000) :
    Calls Tryz.prog 37 #[.int .u64 id, .int .i64 ti, .int .i64 sh, .slice A n c] w fun r w' => r = .returned (.bool (rightB id ti sh && segOk l)) ∧ Below w.heap.size w w' := by
  have Hlen := Lib.hid hr.recs_len
  have Hr := Lib.hid hr
  have Hl := Lib.hid hl
  clear hr hl
  by_cases hR : rightB id ti sh = true
  · have hp := rightB_parts2 hR
    obtain ⟨p1, p2, p3, p4, p5⟩ := hp
    have h0 : (id == 0) = false := by simp; omega
    have h0b : ¬ id = 0 := by omega
    have HR := Lib.hid hR
    clear hR hid
    go_enter Tryz.func37, Tryz.ntmps37
    go_wp2_with fail
    clear h0 h0b p1 p2 p3 p4 p5
    go_loopw [9] (fun i wr => ∃ k : Nat, k ≤ n ∧ i = .int .i64 k ∧ Hid (∀ j, j < k → stepB l j = true) ∧ Below w.heap.size w wr) (fun i _ => n - (intOf i).toNat)
    case atStart => exact ⟨0, Nat.zero_le _, rfl, fun j hj => absurd hj (by omega), Below.refl _ _⟩
    case round =>
      obtain ⟨k, hk, rfl, hall, hb⟩ := hrel
      have Hb := Lib.hid hb
      have HA := Lib.hid (Hr.out.fr0 (Fr.b0 hb))
      clear hb
      by_cases hlt : k < n
      · obtain ⟨ad, ⟨xnm, xst, ⟨xc, xh, xlo, xm, xx⟩⟩, rfl, hx, d0, d1, d2, d3, d4, d5, d6⟩ := HA.out.rec_ hlt
        simp only at d0 d1 d2 d3 d4 d5 d6
        have hwx := Hl.out _ (mem_of_get hx)
        have hxn := hwx.2.2
        simp only at hxn
        have HV := Lib.hid (fun w' => rvalidR_any ⟨xnm, xst, ⟨xc, xh, xlo, xm, xx⟩⟩ hxn w')
        have HX := Lib.hid hx
        have hk7 : ((k : Int) * 7).toNat = k * 7 := by omega
        have HBe : Hid (∀ W, Fr (fun _ => False) wr W → Below w.heap.size w W) := fun W f => Hb.out.trans (f.below_of Hb.out.size (fun _ h => h.elim))
        have HC1 : Hid (∀ W, Fr (fun _ => False) wr W → (W.cell? (ad.add (k * 7)) = some (.string xnm) ∧ W.cell? ⟨(ad.add (k * 7)).block, (ad.add (k * 7)).off + 1, none⟩ = some (.int .i64 xst) ∧ W.cell? ⟨(ad.add (k * 7)).block, (ad.add (k * 7)).off + 2, none⟩ = some (.int .i64 xc) ∧ W.cell? ⟨(ad.add (k * 7)).block, (ad.add (k * 7)).off + 3, none⟩ = some (.int .i64 xh) ∧ W.cell? ⟨(ad.add (k * 7)).block, (ad.add (k * 7)).off + 4, none⟩ = some (.int .u64 xlo) ∧ W.cell? ⟨(ad.add (k * 7)).block, (ad.add (k * 7)).off + 5, none⟩ = some (.int .i64 xm) ∧ W.cell? ⟨(ad.add (k * 7)).block, (ad.add (k * 7)).off + 6, none⟩ = some (.int .i64 xx))) := fun W f => ⟨f.cell d0 (fun h => h), f.cell d1 (fun h => h), f.cell d2 (fun h => h), f.cell d3 (fun h => h), f.cell d4 (fun h => h), f.cell d5 (fun h => h), f.cell d6 (fun h => h)⟩
        clear hx hwx hxn
        have F2 : Fr (fun _ => False) wr wr.drew := (Fr.refl _ wr).drew
        have hkw : IntKind.i64.wrap (k : Int) = (k : Int) := IntWalk.i64_in _ (by omega)
        have hkr : (0 : Int) ≤ (k : Int) ∧ (k : Int) < (n : Int) := ⟨by omega, by omega⟩
        go_wp2_with fail
        clear d0 d1 d2 d3 d4 d5 d6
        obtain ⟨d0, d1, d2, d3, d4, d5, d6⟩ := HC1.out wr.drew F2
        cases hok : recOk ⟨xnm, xst, ⟨xc, xh, xlo, xm, xx⟩⟩
        · have HF : Hid ((rightB id ti sh && segOk l) = false) := by show _ = _; rw [segOk_false (by rw [Hlen.out]; exact hlt) (stepB_bad HX.out hok), Bool.and_false]
          have H1 : Hid (∀ W, Fr (fun _ => False) wr W → Calls Tryz.prog 30 #[.agg #[.string xnm, .int .i64 xst, .int .i64 xc, .int .i64 xh, .int .u64 xlo, .int .i64 xm, .int .i64 xx]] W fun r w'' => r = .returned (.bool false) ∧ Fr (fun _ => False) wr w'') := fun W hf => by
            refine (HV.out W).mono ?_
            rintro r w'' ⟨e, b⟩
            rw [← hok]
            exact ⟨e, hf.trans (Fr.b0 b) (fun _ h => h.elim)⟩
          clear hok
          refine wp_region_any (by kernel_rfl) ?_
          change wpAny _ _ _ _ _ _ _ (World.drew _)
          refine wpAny_take (i := 0) (oi := { dst := some 34, op := Op.move (Operand.tmp 3), type := 49, pos := "law.go:30", after := #[], guard := none }) (v := ?vq1) rfl (by kernel_rfl) (by kernel_rfl) (by kernel_rfl) (fun _ _ _ h => h) (Or.inl ⟨by rfl, ?hq1⟩) ?rq1
          case hq1 => intro W; go_simp; (try with_reducible rfl)
          try simp only [Act.put, List.setIfInBounds_toArray, List.set_cons_zero, List.set_cons_succ]
          refine wpAny_take (i := 1) (oi := { dst := some 35, op := Op.move (Operand.tmp 9), type := 3, pos := "law.go:30", after := #[], guard := none }) (v := ?vq2) rfl (by kernel_rfl) (by kernel_rfl) (by kernel_rfl) (fun _ _ _ h => h) (Or.inl ⟨by rfl, ?hq2⟩) ?rq2
          case hq2 => intro W; go_simp; (try with_reducible rfl)
          try simp only [Act.put, List.setIfInBounds_toArray, List.set_cons_zero, List.set_cons_succ]
          refine wpAny_take (i := 2) (oi := { dst := some 36, op := Op.indexAddr 49 (Operand.tmp 34) (Operand.tmp 35), type := 0, pos := "law.go:30", after := #[{ on := 0, ground := Ground.data }, { on := 1, ground := Ground.data }], guard := none }) (v := ?vq3) rfl (by kernel_rfl) (by kernel_rfl) (by kernel_rfl) (fun _ _ _ h => h) (Or.inl ⟨by rfl, ?hq3⟩) ?rq3
          case hq3 => intro W; go_simp; (try with_reducible rfl)
          try simp only [Act.put, List.setIfInBounds_toArray, List.set_cons_zero, List.set_cons_succ]
          refine wpAny_ready (rs := [3]) (by kernel_rfl) (by simp) ?_
          refine AllReady.cons (o := { dst := some 37, op := Op.load 63 (Operand.tmp 36), type := 63, pos := "law.go:30", after := #[{ on := 2, ground := Ground.data }], guard := none }) rfl (fun K hK => ?_) AllReady.nil
          go_simp
          refine hK _ _ ?_
          clear hK K
          try simp only [Act.put, List.setIfInBounds_toArray, List.set_cons_zero, List.set_cons_succ]
          refine wpAny_ready (rs := [4]) (by kernel_rfl) (by simp) ?_
          refine AllReady.cons (o := { dst := some 38, op := Op.call { callee := Callee.value (Operand.func 30), args := #[Operand.tmp 37], argTypes := #[63] }, type := 4, pos := "law.go:30", after := #[{ on := 3, ground := Ground.data }], guard := none }) rfl (fun K hK => ?_) AllReady.nil
          go_simp
          go_wp2_with (first | (go_at_call 30; refine (H1.out _ (by assumption)).mono ?_; rintro r w5 ⟨rfl, f5⟩))
          refine wpAny_take (i := 5) (oi := { dst := some 39, op := Op.unOp UnOp.not 4 (Operand.tmp 38), type := 4, pos := "law.go:30", after := #[{ on := 4, ground := Ground.data }], guard := none }) (v := ?vq4) rfl (by kernel_rfl) (by kernel_rfl) (by kernel_rfl) (fun _ _ _ h => h) (Or.inl ⟨by rfl, ?hq4⟩) ?rq4
          case hq4 => intro W; go_simp; (try with_reducible rfl)
          try simp only [Act.put, List.setIfInBounds_toArray, List.set_cons_zero, List.set_cons_succ]
          refine wpAny_take (i := 6) (oi := { dst := some 40, op := Op.move (Operand.tmp 39), type := 4, pos := "law.go:30", after := #[{ on := 5, ground := Ground.data }, { on := 4, ground := Ground.chain }], guard := none }) (v := ?vq5) rfl (by kernel_rfl) (by kernel_rfl) (by kernel_rfl) (fun _ _ _ h => h) (Or.inl ⟨by rfl, ?hq5⟩) ?rq5
          case hq5 => intro W; go_simp; (try with_reducible rfl)
          try simp only [Act.put, List.setIfInBounds_toArray, List.set_cons_zero, List.set_cons_succ]
          refine wpAny_take (i := 7) (oi := { dst := some 41, op := Op.move (Operand.tmp 9), type := 3, pos := "law.go:30", after := #[{ on := 6, ground := Ground.guard }], guard := some (6, false) }) (v := undef) rfl (by kernel_rfl) (by kernel_rfl) (by kernel_rfl) (fun _ _ _ h => h) (Or.inr ⟨by rfl, rfl⟩) ?_
          try simp only [Act.put, List.setIfInBounds_toArray, List.set_cons_zero, List.set_cons_succ]
          refine wpAny_take (i := 8) (oi := { dst := some 42, op := Op.binOp BinOp.gtr 3 (Operand.tmp 41) (Operand.const (Value.int IntKind.i64 0)) 3, type := 4, pos := "law.go:30", after := #[{ on := 7, ground := Ground.data }, { on := 6, ground := Ground.guard }], guard := some (6, false) }) (v := undef) rfl (by kernel_rfl) (by kernel_rfl) (by kernel_rfl) (fun _ _ _ h => h) (Or.inr ⟨by rfl, rfl⟩) ?_
          try simp only [Act.put, List.setIfInBounds_toArray, List.set_cons_zero, List.set_cons_succ]
          refine wpAny_take (i := 9) (oi := { dst := some 43, op := Op.move (Operand.tmp 42), type := 4, pos := "law.go:30", after := #[{ on := 8, ground := Ground.data }, { on := 6, ground := Ground.chain }, { on := 6, ground := Ground.guard }], guard := some (6, false) }) (v := undef) rfl (by kernel_rfl) (by kernel_rfl) (by kernel_rfl) (fun _ _ _ h => h) (Or.inr ⟨by rfl, rfl⟩) ?_
          try simp only [Act.put, List.setIfInBounds_toArray, List.set_cons_zero, List.set_cons_succ]
          refine wpAny_take (i := 10) (oi := { dst := some 44, op := Op.move (Operand.tmp 3), type := 49, pos := "law.go:30", after := #[{ on := 9, ground := Ground.guard }], guard := some (9, true) }) (v := undef) rfl (by kernel_rfl) (by kernel_rfl) (by kernel_rfl) (fun _ _ _ h => h) (Or.inr ⟨by rfl, rfl⟩) ?_
          try simp only [Act.put, List.setIfInBounds_toArray, List.set_cons_zero, List.set_cons_succ]
          refine wpAny_take (i := 11) (oi := { dst := some 45, op := Op.move (Operand.tmp 9), type := 3, pos := "law.go:30", after := #[{ on := 9, ground := Ground.guard }], guard := some (9, true) }) (v := undef) rfl (by kernel_rfl) (by kernel_rfl) (by kernel_rfl) (fun _ _ _ h => h) (Or.inr ⟨by rfl, rfl⟩) ?_
          try simp only [Act.put, List.setIfInBounds_toArray, List.set_cons_zero, List.set_cons_succ]
          refine wpAny_take (i := 12) (oi := { dst := some 46, op := Op.binOp BinOp.sub 3 (Operand.tmp 45) (Operand.const (Value.int IntKind.i64 1)) 3, type := 3, pos := "law.go:30", after := #[{ on := 11, ground := Ground.data }, { on := 9, ground := Ground.guard }], guard := some (9, true) }) (v := undef) rfl (by kernel_rfl) (by kernel_rfl) (by kernel_rfl) (fun _ _ _ h => h) (Or.inr ⟨by rfl, rfl⟩) ?_
          try simp only [Act.put, List.setIfInBounds_toArray, List.set_cons_zero, List.set_cons_succ]
          refine wpAny_take (i := 13) (oi := { dst := some 47, op := Op.indexAddr 49 (Operand.tmp 44) (Operand.tmp 46), type := 0, pos := "law.go:30", after := #[{ on := 10, ground := Ground.data }, { on := 12, ground := Ground.data }, { on := 9, ground := Ground.guard }], guard := some (9, true) }) (v := undef) rfl (by kernel_rfl) (by kernel_rfl) (by kernel_rfl) (fun _ _ _ h => h) (Or.inr ⟨by rfl, rfl⟩) ?_
          try simp only [Act.put, List.setIfInBounds_toArray, List.set_cons_zero, List.set_cons_succ]
          refine wpAny_take (i := 14) (oi := { dst := some 48, op := Op.load 63 (Operand.tmp 47), type := 63, pos := "law.go:30", after := #[{ on := 13, ground := Ground.data }, { on := 9, ground := Ground.guard }], guard := some (9, true) }) (v := undef) rfl (by kernel_rfl) (by kernel_rfl) (by kernel_rfl) (fun _ _ _ h => h) (Or.inr ⟨by rfl, rfl⟩) ?_
          try simp only [Act.put, List.setIfInBounds_toArray, List.set_cons_zero, List.set_cons_succ]
          refine wpAny_take (i := 15) (oi := { dst := some 49, op := Op.move (Operand.tmp 3), type := 49, pos := "law.go:30", after := #[{ on := 9, ground := Ground.guard }], guard := some (9, true) }) (v := undef) rfl (by kernel_rfl) (by kernel_rfl) (by kernel_rfl) (fun _ _ _ h => h) (Or.inr ⟨by rfl, rfl⟩) ?_
          try simp only [Act.put, List.setIfInBounds_toArray, List.set_cons_zero, List.set_cons_succ]
          refine wpAny_take (i := 16) (oi := { dst := some 50, op := Op.move (Operand.tmp 9), type := 3, pos := "law.go:30", after := #[{ on := 9, ground := Ground.guard }], guard := some (9, true) }) (v := undef) rfl (by kernel_rfl) (by kernel_rfl) (by kernel_rfl) (fun _ _ _ h => h) (Or.inr ⟨by rfl, rfl⟩) ?_
          try simp only [Act.put, List.setIfInBounds_toArray, List.set_cons_zero, List.set_cons_succ]
          refine wpAny_take (i := 17) (oi := { dst := some 51, op := Op.indexAddr 49 (Operand.tmp 49) (Operand.tmp 50), type := 0, pos := "law.go:30", after := #[{ on := 15, ground := Ground.data }, { on := 16, ground := Ground.data }, { on := 9, ground := Ground.guard }], guard := some (9, true) }) (v := undef) rfl (by kernel_rfl) (by kernel_rfl) (by kernel_rfl) (fun _ _ _ h => h) (Or.inr ⟨by rfl, rfl⟩) ?_
          try simp only [Act.put, List.setIfInBounds_toArray, List.set_cons_zero, List.set_cons_succ]
          refine wpAny_take (i := 18) (oi := { dst := some 52, op := Op.load 63 (Operand.tmp 51), type := 63, pos := "law.go:30", after := #[{ on := 17, ground := Ground.data }, { on := 9, ground := Ground.guard }], guard := some (9, true) }) (v := undef) rfl (by kernel_rfl) (by kernel_rfl) (by kernel_rfl) (fun _ _ _ h => h) (Or.inr ⟨by rfl, rfl⟩) ?_
          try simp only [Act.put, List.setIfInBounds_toArray, List.set_cons_zero, List.set_cons_succ]
          refine wpAny_take (i := 19) (oi := { dst := some 53, op := Op.call { callee := Callee.value (Operand.func 101), args := #[Operand.tmp 48, Operand.tmp 52], argTypes := #[63, 63] }, type := 4, pos := "law.go:30", after := #[{ on := 14, ground := Ground.data }, { on := 18, ground := Ground.data }, { on := 9, ground := Ground.chain }, { on := 9, ground := Ground.guard }], guard := some (9, true) }) (v := undef) rfl (by kernel_rfl) (by kernel_rfl) (by kernel_rfl) (fun _ _ _ h => h) (Or.inr ⟨by rfl, rfl⟩) ?_
          try simp only [Act.put, List.setIfInBounds_toArray, List.set_cons_zero, List.set_cons_succ]
          refine wpAny_take (i := 20) (oi := { dst := some 54, op := Op.unOp UnOp.not 4 (Operand.tmp 53), type := 4, pos := "law.go:30", after := #[{ on := 19, ground := Ground.data }, { on := 9, ground := Ground.guard }], guard := some (9, true) }) (v := undef) rfl (by kernel_rfl) (by kernel_rfl) (by kernel_rfl) (fun _ _ _ h => h) (Or.inr ⟨by rfl, rfl⟩) ?_
          try simp only [Act.put, List.setIfInBounds_toArray, List.set_cons_zero, List.set_cons_succ]
          refine wpAny_take (i := 21) (oi := { dst := some 55, op := Op.pick (Operand.tmp 43) (Operand.tmp 54) (Operand.const (Value.bool false)), type := 4, pos := "law.go:30", after := #[{ on := 9, ground := Ground.data }, { on := 20, ground := Ground.data }, { on := 6, ground := Ground.guard }], guard := some (6, false) }) (v := undef) rfl (by kernel_rfl) (by kernel_rfl) (by kernel_rfl) (fun _ _ _ h => h) (Or.inr ⟨by rfl, rfl⟩) ?_
          try simp only [Act.put, List.setIfInBounds_toArray, List.set_cons_zero, List.set_cons_succ]
          refine wpAny_take (i := 22) (oi := { dst := some 56, op := Op.pick (Operand.tmp 40) (Operand.const (Value.bool true)) (Operand.tmp 55), type := 4, pos := "law.go:30", after := #[{ on := 6, ground := Ground.data }, { on := 21, ground := Ground.data }], guard := none }) (v := ?vq6) rfl (by kernel_rfl) (by kernel_rfl) (by kernel_rfl) (fun _ _ _ h => h) (Or.inl ⟨by rfl, ?hq6⟩) ?rq6
          case hq6 => intro W; go_simp; (try with_reducible rfl)
          try simp only [Act.put, List.setIfInBounds_toArray, List.set_cons_zero, List.set_cons_succ]
          refine wpAny_done (by kernel_rfl) ?_ _
          have HW5 := Lib.hid (HBe.out w5 f5)
          clear d0 d1 d2 d3 d4 d5 d6
          go_wp2_with fail
          go_ret
          exact ⟨by rw [HF.out]; rfl, HW5.out⟩
        have H1 : Hid (∀ W, Fr (fun _ => False) wr W → Calls Tryz.prog 30 #[.agg #[.string xnm, .int .i64 xst, .int .i64 xc, .int .i64 xh, .int .u64 xlo, .int .i64 xm, .int .i64 xx]] W fun r w'' => r = .returned (.bool true) ∧ Fr (fun _ => False) wr w'') := fun W hf => by
          refine (HV.out W).mono ?_
          rintro r w'' ⟨e, b⟩
          rw [← hok]
          exact ⟨e, hf.trans (Fr.b0 b) (fun _ h => h.elim)⟩
        have HOK := Lib.hid hok
        clear hok
        rcases Nat.eq_zero_or_pos k with hk0 | hpos
        · have hall1 : Hid (∀ j, j < k + 1 → stepB l j = true) := fun j hj => by
            obtain rfl : j = 0 := by omega
            have := HX.out
            rw [hk0] at this
            exact stepB_zero this HOK.out
          have hkg : ¬ (0 : Int) < (k : Int) := by omega
          have hkd : decide ((0 : Int) < (k : Int)) = false := decide_eq_false hkg
          have hkn : ¬ 0 < k := by omega
          have hkm : decide (0 < k) = false := decide_eq_false hkn
          clear hk0
          refine wp_region_any (by kernel_rfl) ?_
          change wpAny _ _ _ _ _ _ _ (World.drew _)
          refine wpAny_take (i := 0) (oi := { dst := some 34, op := Op.move (Operand.tmp 3), type := 49, pos := "law.go:30", after := #[], guard := none }) (v := ?vq7) rfl (by kernel_rfl) (by kernel_rfl) (by kernel_rfl) (fun _ _ _ h => h) (Or.inl ⟨by rfl, ?hq7⟩) ?rq7
          case hq7 => intro W; go_simp; (try with_reducible rfl)
          try simp only [Act.put, List.setIfInBounds_toArray, List.set_cons_zero, List.set_cons_succ]
          refine wpAny_take (i := 1) (oi := { dst := some 35, op := Op.move (Operand.tmp 9), type := 3, pos := "law.go:30", after := #[], guard := none }) (v := ?vq8) rfl (by kernel_rfl) (by kernel_rfl) (by kernel_rfl) (fun _ _ _ h => h) (Or.inl ⟨by rfl, ?hq8⟩) ?rq8
          case hq8 => intro W; go_simp; (try with_reducible rfl)
          try simp only [Act.put, List.setIfInBounds_toArray, List.set_cons_zero, List.set_cons_succ]
          refine wpAny_take (i := 2) (oi := { dst := some 36, op := Op.indexAddr 49 (Operand.tmp 34) (Operand.tmp 35), type := 0, pos := "law.go:30", after := #[{ on := 0, ground := Ground.data }, { on := 1, ground := Ground.data }], guard := none }) (v := ?vq9) rfl (by kernel_rfl) (by kernel_rfl) (by kernel_rfl) (fun _ _ _ h => h) (Or.inl ⟨by rfl, ?hq9⟩) ?rq9
          case hq9 => intro W; go_simp; (try with_reducible rfl)
          try simp only [Act.put, List.setIfInBounds_toArray, List.set_cons_zero, List.set_cons_succ]
          refine wpAny_ready (rs := [3]) (by kernel_rfl) (by simp) ?_
          refine AllReady.cons (o := { dst := some 37, op := Op.load 63 (Operand.tmp 36), type := 63, pos := "law.go:30", after := #[{ on := 2, ground := Ground.data }], guard := none }) rfl (fun K hK => ?_) AllReady.nil
          go_simp
          refine hK _ _ ?_
          clear hK K
          try simp only [Act.put, List.setIfInBounds_toArray, List.set_cons_zero, List.set_cons_succ]
          refine wpAny_ready (rs := [4]) (by kernel_rfl) (by simp) ?_
          refine AllReady.cons (o := { dst := some 38, op := Op.call { callee := Callee.value (Operand.func 30), args := #[Operand.tmp 37], argTypes := #[63] }, type := 4, pos := "law.go:30", after := #[{ on := 3, ground := Ground.data }], guard := none }) rfl (fun K hK => ?_) AllReady.nil
          go_simp
          go_wp2_with (first | (go_at_call 30; refine (H1.out _ (by assumption)).mono ?_; rintro r w5 ⟨rfl, f5⟩))
          refine wpAny_take (i := 5) (oi := { dst := some 39, op := Op.unOp UnOp.not 4 (Operand.tmp 38), type := 4, pos := "law.go:30", after := #[{ on := 4, ground := Ground.data }], guard := none }) (v := ?vq10) rfl (by kernel_rfl) (by kernel_rfl) (by kernel_rfl) (fun _ _ _ h => h) (Or.inl ⟨by rfl, ?hq10⟩) ?rq10
          case hq10 => intro W; go_simp; (try with_reducible rfl)
          try simp only [Act.put, List.setIfInBounds_toArray, List.set_cons_zero, List.set_cons_succ]
          refine wpAny_take (i := 6) (oi := { dst := some 40, op := Op.move (Operand.tmp 39), type := 4, pos := "law.go:30", after := #[{ on := 5, ground := Ground.data }, { on := 4, ground := Ground.chain }], guard := none }) (v := ?vq11) rfl (by kernel_rfl) (by kernel_rfl) (by kernel_rfl) (fun _ _ _ h => h) (Or.inl ⟨by rfl, ?hq11⟩) ?rq11
          case hq11 => intro W; go_simp; (try with_reducible rfl)
          try simp only [Act.put, List.setIfInBounds_toArray, List.set_cons_zero, List.set_cons_succ]
          refine wpAny_take (i := 7) (oi := { dst := some 41, op := Op.move (Operand.tmp 9), type := 3, pos := "law.go:30", after := #[{ on := 6, ground := Ground.guard }], guard := some (6, false) }) (v := ?vq12) rfl (by kernel_rfl) (by kernel_rfl) (by kernel_rfl) (fun _ _ _ h => h) (Or.inl ⟨by rfl, ?hq12⟩) ?rq12
          case hq12 => intro W; go_simp; (try with_reducible rfl)
          try simp only [Act.put, List.setIfInBounds_toArray, List.set_cons_zero, List.set_cons_succ]
          refine wpAny_take (i := 8) (oi := { dst := some 42, op := Op.binOp BinOp.gtr 3 (Operand.tmp 41) (Operand.const (Value.int IntKind.i64 0)) 3, type := 4, pos := "law.go:30", after := #[{ on := 7, ground := Ground.data }, { on := 6, ground := Ground.guard }], guard := some (6, false) }) (v := ?vq13) rfl (by kernel_rfl) (by kernel_rfl) (by kernel_rfl) (fun _ _ _ h => h) (Or.inl ⟨by rfl, ?hq13⟩) ?rq13
          case hq13 => intro W; go_simp; (try with_reducible rfl)
          try simp only [Act.put, List.setIfInBounds_toArray, List.set_cons_zero, List.set_cons_succ]
          refine wpAny_take (i := 9) (oi := { dst := some 43, op := Op.move (Operand.tmp 42), type := 4, pos := "law.go:30", after := #[{ on := 8, ground := Ground.data }, { on := 6, ground := Ground.chain }, { on := 6, ground := Ground.guard }], guard := some (6, false) }) (v := ?vq14) rfl (by kernel_rfl) (by kernel_rfl) (by kernel_rfl) (fun _ _ _ h => h) (Or.inl ⟨by rfl, ?hq14⟩) ?rq14
          case hq14 => intro W; go_simp; (try with_reducible rfl)
          try simp only [Act.put, List.setIfInBounds_toArray, List.set_cons_zero, List.set_cons_succ]
          refine wpAny_take (i := 10) (oi := { dst := some 44, op := Op.move (Operand.tmp 3), type := 49, pos := "law.go:30", after := #[{ on := 9, ground := Ground.guard }], guard := some (9, true) }) (v := undef) rfl (by kernel_rfl) (by kernel_rfl) (by kernel_rfl) (fun _ _ _ h => h) (Or.inr ⟨by rfl, rfl⟩) ?_
          try simp only [Act.put, List.setIfInBounds_toArray, List.set_cons_zero, List.set_cons_succ]
          refine wpAny_take (i := 11) (oi := { dst := some 45, op := Op.move (Operand.tmp 9), type := 3, pos := "law.go:30", after := #[{ on := 9, ground := Ground.guard }], guard := some (9, true) }) (v := undef) rfl (by kernel_rfl) (by kernel_rfl) (by kernel_rfl) (fun _ _ _ h => h) (Or.inr ⟨by rfl, rfl⟩) ?_
          try simp only [Act.put, List.setIfInBounds_toArray, List.set_cons_zero, List.set_cons_succ]
          refine wpAny_take (i := 12) (oi := { dst := some 46, op := Op.binOp BinOp.sub 3 (Operand.tmp 45) (Operand.const (Value.int IntKind.i64 1)) 3, type := 3, pos := "law.go:30", after := #[{ on := 11, ground := Ground.data }, { on := 9, ground := Ground.guard }], guard := some (9, true) }) (v := undef) rfl (by kernel_rfl) (by kernel_rfl) (by kernel_rfl) (fun _ _ _ h => h) (Or.inr ⟨by rfl, rfl⟩) ?_
          try simp only [Act.put, List.setIfInBounds_toArray, List.set_cons_zero, List.set_cons_succ]
          refine wpAny_take (i := 13) (oi := { dst := some 47, op := Op.indexAddr 49 (Operand.tmp 44) (Operand.tmp 46), type := 0, pos := "law.go:30", after := #[{ on := 10, ground := Ground.data }, { on := 12, ground := Ground.data }, { on := 9, ground := Ground.guard }], guard := some (9, true) }) (v := undef) rfl (by kernel_rfl) (by kernel_rfl) (by kernel_rfl) (fun _ _ _ h => h) (Or.inr ⟨by rfl, rfl⟩) ?_
          try simp only [Act.put, List.setIfInBounds_toArray, List.set_cons_zero, List.set_cons_succ]
          refine wpAny_take (i := 14) (oi := { dst := some 48, op := Op.load 63 (Operand.tmp 47), type := 63, pos := "law.go:30", after := #[{ on := 13, ground := Ground.data }, { on := 9, ground := Ground.guard }], guard := some (9, true) }) (v := undef) rfl (by kernel_rfl) (by kernel_rfl) (by kernel_rfl) (fun _ _ _ h => h) (Or.inr ⟨by rfl, rfl⟩) ?_
          try simp only [Act.put, List.setIfInBounds_toArray, List.set_cons_zero, List.set_cons_succ]
          refine wpAny_take (i := 15) (oi := { dst := some 49, op := Op.move (Operand.tmp 3), type := 49, pos := "law.go:30", after := #[{ on := 9, ground := Ground.guard }], guard := some (9, true) }) (v := undef) rfl (by kernel_rfl) (by kernel_rfl) (by kernel_rfl) (fun _ _ _ h => h) (Or.inr ⟨by rfl, rfl⟩) ?_
          try simp only [Act.put, List.setIfInBounds_toArray, List.set_cons_zero, List.set_cons_succ]
          refine wpAny_take (i := 16) (oi := { dst := some 50, op := Op.move (Operand.tmp 9), type := 3, pos := "law.go:30", after := #[{ on := 9, ground := Ground.guard }], guard := some (9, true) }) (v := undef) rfl (by kernel_rfl) (by kernel_rfl) (by kernel_rfl) (fun _ _ _ h => h) (Or.inr ⟨by rfl, rfl⟩) ?_
          try simp only [Act.put, List.setIfInBounds_toArray, List.set_cons_zero, List.set_cons_succ]
          refine wpAny_take (i := 17) (oi := { dst := some 51, op := Op.indexAddr 49 (Operand.tmp 49) (Operand.tmp 50), type := 0, pos := "law.go:30", after := #[{ on := 15, ground := Ground.data }, { on := 16, ground := Ground.data }, { on := 9, ground := Ground.guard }], guard := some (9, true) }) (v := undef) rfl (by kernel_rfl) (by kernel_rfl) (by kernel_rfl) (fun _ _ _ h => h) (Or.inr ⟨by rfl, rfl⟩) ?_
          try simp only [Act.put, List.setIfInBounds_toArray, List.set_cons_zero, List.set_cons_succ]
          refine wpAny_take (i := 18) (oi := { dst := some 52, op := Op.load 63 (Operand.tmp 51), type := 63, pos := "law.go:30", after := #[{ on := 17, ground := Ground.data }, { on := 9, ground := Ground.guard }], guard := some (9, true) }) (v := undef) rfl (by kernel_rfl) (by kernel_rfl) (by kernel_rfl) (fun _ _ _ h => h) (Or.inr ⟨by rfl, rfl⟩) ?_
          try simp only [Act.put, List.setIfInBounds_toArray, List.set_cons_zero, List.set_cons_succ]
          refine wpAny_take (i := 19) (oi := { dst := some 53, op := Op.call { callee := Callee.value (Operand.func 101), args := #[Operand.tmp 48, Operand.tmp 52], argTypes := #[63, 63] }, type := 4, pos := "law.go:30", after := #[{ on := 14, ground := Ground.data }, { on := 18, ground := Ground.data }, { on := 9, ground := Ground.chain }, { on := 9, ground := Ground.guard }], guard := some (9, true) }) (v := undef) rfl (by kernel_rfl) (by kernel_rfl) (by kernel_rfl) (fun _ _ _ h => h) (Or.inr ⟨by rfl, rfl⟩) ?_
          try simp only [Act.put, List.setIfInBounds_toArray, List.set_cons_zero, List.set_cons_succ]
          refine wpAny_take (i := 20) (oi := { dst := some 54, op := Op.unOp UnOp.not 4 (Operand.tmp 53), type := 4, pos := "law.go:30", after := #[{ on := 19, ground := Ground.data }, { on := 9, ground := Ground.guard }], guard := some (9, true) }) (v := undef) rfl (by kernel_rfl) (by kernel_rfl) (by kernel_rfl) (fun _ _ _ h => h) (Or.inr ⟨by rfl, rfl⟩) ?_
          try simp only [Act.put, List.setIfInBounds_toArray, List.set_cons_zero, List.set_cons_succ]
          refine wpAny_take (i := 21) (oi := { dst := some 55, op := Op.pick (Operand.tmp 43) (Operand.tmp 54) (Operand.const (Value.bool false)), type := 4, pos := "law.go:30", after := #[{ on := 9, ground := Ground.data }, { on := 20, ground := Ground.data }, { on := 6, ground := Ground.guard }], guard := some (6, false) }) (v := ?vq15) rfl (by kernel_rfl) (by kernel_rfl) (by kernel_rfl) (fun _ _ _ h => h) (Or.inl ⟨by rfl, ?hq15⟩) ?rq15
          case hq15 => intro W; go_simp; (try with_reducible rfl)
          try simp only [Act.put, List.setIfInBounds_toArray, List.set_cons_zero, List.set_cons_succ]
          refine wpAny_take (i := 22) (oi := { dst := some 56, op := Op.pick (Operand.tmp 40) (Operand.const (Value.bool true)) (Operand.tmp 55), type := 4, pos := "law.go:30", after := #[{ on := 6, ground := Ground.data }, { on := 21, ground := Ground.data }], guard := none }) (v := ?vq16) rfl (by kernel_rfl) (by kernel_rfl) (by kernel_rfl) (fun _ _ _ h => h) (Or.inl ⟨by rfl, ?hq16⟩) ?rq16
          case hq16 => intro W; go_simp; (try with_reducible rfl)
          try simp only [Act.put, List.setIfInBounds_toArray, List.set_cons_zero, List.set_cons_succ]
          refine wpAny_done (by kernel_rfl) ?_ _
          clear d0 d1 d2 d3 d4 d5 d6
          have HW5 := Lib.hid (HBe.out w5 f5)
          go_wp2
          go_roundw
          case rel => exact ⟨k + 1, by omega, by go_num, hall1.out, HW5.out⟩
          case measure => simp [intOf]; omega
        · obtain ⟨j, rfl⟩ : ∃ j, k = j + 1 := ⟨k - 1, by omega⟩
          obtain ⟨ad2, ⟨ynm, yst, ⟨yc, yh, ylo, ym, yx⟩⟩, hae, hy, e0, e1, e2, e3, e4, e5, e6⟩ := HA.out.rec_ (k := j) (by omega)
          injection hae with hae
          subst hae
          simp only at e0 e1 e2 e3 e4 e5 e6
          have HL := Lib.hid (fun w' => less_any ⟨ynm, yst, ⟨yc, yh, ylo, ym, yx⟩⟩ ⟨xnm, xst, ⟨xc, xh, xlo, xm, xx⟩⟩ w')
          unfold RecV.val at HL
          simp only at HL
          have hst := stepB_succ HX.out hy HOK.out
          obtain ⟨V, hV⟩ : ∃ V, lessB ⟨ynm, yst, ⟨yc, yh, ylo, ym, yx⟩⟩ ⟨xnm, xst, ⟨xc, xh, xlo, xm, xx⟩⟩ = V := ⟨_, rfl⟩
          rw [hV] at HL hst
          have HST := Lib.hid hst
          have HC2 : Hid (∀ W, Fr (fun _ => False) wr W → (W.cell? (ad.add (j * 7)) = some (.string ynm) ∧ W.cell? ⟨(ad.add (j * 7)).block, (ad.add (j * 7)).off + 1, none⟩ = some (.int .i64 yst) ∧ W.cell? ⟨(ad.add (j * 7)).block, (ad.add (j * 7)).off + 2, none⟩ = some (.int .i64 yc) ∧ W.cell? ⟨(ad.add (j * 7)).block, (ad.add (j * 7)).off + 3, none⟩ = some (.int .i64 yh) ∧ W.cell? ⟨(ad.add (j * 7)).block, (ad.add (j * 7)).off + 4, none⟩ = some (.int .u64 ylo) ∧ W.cell? ⟨(ad.add (j * 7)).block, (ad.add (j * 7)).off + 5, none⟩ = some (.int .i64 ym) ∧ W.cell? ⟨(ad.add (j * 7)).block, (ad.add (j * 7)).off + 6, none⟩ = some (.int .i64 yx))) := fun W f => ⟨f.cell e0 (fun h => h), f.cell e1 (fun h => h), f.cell e2 (fun h => h), f.cell e3 (fun h => h), f.cell e4 (fun h => h), f.cell e5 (fun h => h), f.cell e6 (fun h => h)⟩
          have H2 : Hid (∀ W, Fr (fun _ => False) wr W → Calls Tryz.prog 101 #[.agg #[.string ynm, .int .i64 yst, .int .i64 yc, .int .i64 yh, .int .u64 ylo, .int .i64 ym, .int .i64 yx], .agg #[.string xnm, .int .i64 xst, .int .i64 xc, .int .i64 xh, .int .u64 xlo, .int .i64 xm, .int .i64 xx]] W fun r w'' => r = .returned (.bool V) ∧ Fr (fun _ => False) wr w'') := fun W hf => by
            refine (HL.out W).mono ?_
            rintro r w'' ⟨e, b⟩
            exact ⟨e, hf.trans (Fr.b0 b) (fun _ h => h.elim)⟩
          clear e0 e1 e2 e3 e4 e5 e6 hst hV hy
          have hj1 : ((((j + 1 : Nat) : Int)) - 1) = (j : Int) := by omega
          have hj1b : ((j : Int) + 1 - 1) = (j : Int) := by omega
          have hj7 : ((j : Int) * 7).toNat = j * 7 := by omega
          have hjp : (0 : Int) < (j : Int) + 1 := by omega
          have hjw : IntKind.i64.wrap (j : Int) = (j : Int) := IntWalk.i64_in _ (by omega)
          have hjr : (0 : Int) ≤ (j : Int) ∧ (j : Int) < (n : Int) := ⟨by omega, by omega⟩
          have hkt : ((j : Int) + 1).toNat = j + 1 := by omega
          have hkt2 : (((j : Int) + 1) * 7).toNat = (j + 1) * 7 := by omega
          have hkr2 : (0 : Int) ≤ (j : Int) + 1 ∧ (j : Int) + 1 < (n : Int) := ⟨by omega, by omega⟩
          obtain ⟨e0, e1, e2, e3, e4, e5, e6⟩ := HC2.out wr.drew F2
          cases V
          · have HF : Hid ((rightB id ti sh && segOk l) = false) := by show _ = _; rw [segOk_false (by rw [Hlen.out]; exact hlt) HST.out, Bool.and_false]
            refine wp_region_any (by kernel_rfl) ?_
            change wpAny _ _ _ _ _ _ _ (World.drew _)
            refine wpAny_take (i := 0) (oi := { dst := some 34, op := Op.move (Operand.tmp 3), type := 49, pos := "law.go:30", after := #[], guard := none }) (v := ?vq17) rfl (by kernel_rfl) (by kernel_rfl) (by kernel_rfl) (fun _ _ _ h => h) (Or.inl ⟨by rfl, ?hq17⟩) ?rq17
            case hq17 => intro W; go_simp; (try with_reducible rfl)
            try simp only [Act.put, List.setIfInBounds_toArray, List.set_cons_zero, List.set_cons_succ]
            refine wpAny_take (i := 1) (oi := { dst := some 35, op := Op.move (Operand.tmp 9), type := 3, pos := "law.go:30", after := #[], guard := none }) (v := ?vq18) rfl (by kernel_rfl) (by kernel_rfl) (by kernel_rfl) (fun _ _ _ h => h) (Or.inl ⟨by rfl, ?hq18⟩) ?rq18
            case hq18 => intro W; go_simp; (try with_reducible rfl)
            try simp only [Act.put, List.setIfInBounds_toArray, List.set_cons_zero, List.set_cons_succ]
            refine wpAny_take (i := 2) (oi := { dst := some 36, op := Op.indexAddr 49 (Operand.tmp 34) (Operand.tmp 35), type := 0, pos := "law.go:30", after := #[{ on := 0, ground := Ground.data }, { on := 1, ground := Ground.data }], guard := none }) (v := ?vq19) rfl (by kernel_rfl) (by kernel_rfl) (by kernel_rfl) (fun _ _ _ h => h) (Or.inl ⟨by rfl, ?hq19⟩) ?rq19
            case hq19 => intro W; go_simp; (try with_reducible rfl)
            try simp only [Act.put, List.setIfInBounds_toArray, List.set_cons_zero, List.set_cons_succ]
            refine wpAny_ready (rs := [3]) (by kernel_rfl) (by simp) ?_
            refine AllReady.cons (o := { dst := some 37, op := Op.load 63 (Operand.tmp 36), type := 63, pos := "law.go:30", after := #[{ on := 2, ground := Ground.data }], guard := none }) rfl (fun K hK => ?_) AllReady.nil
            go_simp
            refine hK _ _ ?_
            clear hK K
            try simp only [Act.put, List.setIfInBounds_toArray, List.set_cons_zero, List.set_cons_succ]
            refine wpAny_ready (rs := [4]) (by kernel_rfl) (by simp) ?_
            refine AllReady.cons (o := { dst := some 38, op := Op.call { callee := Callee.value (Operand.func 30), args := #[Operand.tmp 37], argTypes := #[63] }, type := 4, pos := "law.go:30", after := #[{ on := 3, ground := Ground.data }], guard := none }) rfl (fun K hK => ?_) AllReady.nil
            go_simp
            go_wp2_with (first | (go_at_call 30; refine (H1.out _ (by assumption)).mono ?_; rintro r w5 ⟨rfl, f5⟩; obtain ⟨u0, u1, u2, u3, u4, u5, u6⟩ := HC1.out w5 f5; obtain ⟨v0, v1, v2, v3, v4, v5, v6⟩ := HC2.out w5 f5))
            refine wpAny_take (i := 5) (oi := { dst := some 39, op := Op.unOp UnOp.not 4 (Operand.tmp 38), type := 4, pos := "law.go:30", after := #[{ on := 4, ground := Ground.data }], guard := none }) (v := ?vq20) rfl (by kernel_rfl) (by kernel_rfl) (by kernel_rfl) (fun _ _ _ h => h) (Or.inl ⟨by rfl, ?hq20⟩) ?rq20
            case hq20 => intro W; go_simp; (try with_reducible rfl)
            try simp only [Act.put, List.setIfInBounds_toArray, List.set_cons_zero, List.set_cons_succ]
            refine wpAny_take (i := 6) (oi := { dst := some 40, op := Op.move (Operand.tmp 39), type := 4, pos := "law.go:30", after := #[{ on := 5, ground := Ground.data }, { on := 4, ground := Ground.chain }], guard := none }) (v := ?vq21) rfl (by kernel_rfl) (by kernel_rfl) (by kernel_rfl) (fun _ _ _ h => h) (Or.inl ⟨by rfl, ?hq21⟩) ?rq21
            case hq21 => intro W; go_simp; (try with_reducible rfl)
            try simp only [Act.put, List.setIfInBounds_toArray, List.set_cons_zero, List.set_cons_succ]
            refine wpAny_take (i := 7) (oi := { dst := some 41, op := Op.move (Operand.tmp 9), type := 3, pos := "law.go:30", after := #[{ on := 6, ground := Ground.guard }], guard := some (6, false) }) (v := ?vq22) rfl (by kernel_rfl) (by kernel_rfl) (by kernel_rfl) (fun _ _ _ h => h) (Or.inl ⟨by rfl, ?hq22⟩) ?rq22
            case hq22 => intro W; go_simp; (try with_reducible rfl)
            try simp only [Act.put, List.setIfInBounds_toArray, List.set_cons_zero, List.set_cons_succ]
            refine wpAny_take (i := 8) (oi := { dst := some 42, op := Op.binOp BinOp.gtr 3 (Operand.tmp 41) (Operand.const (Value.int IntKind.i64 0)) 3, type := 4, pos := "law.go:30", after := #[{ on := 7, ground := Ground.data }, { on := 6, ground := Ground.guard }], guard := some (6, false) }) (v := ?vq23) rfl (by kernel_rfl) (by kernel_rfl) (by kernel_rfl) (fun _ _ _ h => h) (Or.inl ⟨by rfl, ?hq23⟩) ?rq23
            case hq23 => intro W; go_simp; (try with_reducible rfl)
            try simp only [Act.put, List.setIfInBounds_toArray, List.set_cons_zero, List.set_cons_succ]
            refine wpAny_take (i := 9) (oi := { dst := some 43, op := Op.move (Operand.tmp 42), type := 4, pos := "law.go:30", after := #[{ on := 8, ground := Ground.data }, { on := 6, ground := Ground.chain }, { on := 6, ground := Ground.guard }], guard := some (6, false) }) (v := ?vq24) rfl (by kernel_rfl) (by kernel_rfl) (by kernel_rfl) (fun _ _ _ h => h) (Or.inl ⟨by rfl, ?hq24⟩) ?rq24
            case hq24 => intro W; go_simp; (try with_reducible rfl)
            try simp only [Act.put, List.setIfInBounds_toArray, List.set_cons_zero, List.set_cons_succ]
            refine wpAny_take (i := 10) (oi := { dst := some 44, op := Op.move (Operand.tmp 3), type := 49, pos := "law.go:30", after := #[{ on := 9, ground := Ground.guard }], guard := some (9, true) }) (v := ?vq25) rfl (by kernel_rfl) (by kernel_rfl) (by kernel_rfl) (fun _ _ _ h => h) (Or.inl ⟨by rfl, ?hq25⟩) ?rq25
            case hq25 => intro W; go_simp; (try with_reducible rfl)
            try simp only [Act.put, List.setIfInBounds_toArray, List.set_cons_zero, List.set_cons_succ]
            refine wpAny_take (i := 11) (oi := { dst := some 45, op := Op.move (Operand.tmp 9), type := 3, pos := "law.go:30", after := #[{ on := 9, ground := Ground.guard }], guard := some (9, true) }) (v := ?vq26) rfl (by kernel_rfl) (by kernel_rfl) (by kernel_rfl) (fun _ _ _ h => h) (Or.inl ⟨by rfl, ?hq26⟩) ?rq26
            case hq26 => intro W; go_simp; (try with_reducible rfl)
            try simp only [Act.put, List.setIfInBounds_toArray, List.set_cons_zero, List.set_cons_succ]
            refine wpAny_take (i := 12) (oi := { dst := some 46, op := Op.binOp BinOp.sub 3 (Operand.tmp 45) (Operand.const (Value.int IntKind.i64 1)) 3, type := 3, pos := "law.go:30", after := #[{ on := 11, ground := Ground.data }, { on := 9, ground := Ground.guard }], guard := some (9, true) }) (v := ?vq27) rfl (by kernel_rfl) (by kernel_rfl) (by kernel_rfl) (fun _ _ _ h => h) (Or.inl ⟨by rfl, ?hq27⟩) ?rq27
            case hq27 => intro W; go_simp; (try with_reducible rfl)
            try simp only [Act.put, List.setIfInBounds_toArray, List.set_cons_zero, List.set_cons_succ]
            refine wpAny_take (i := 13) (oi := { dst := some 47, op := Op.indexAddr 49 (Operand.tmp 44) (Operand.tmp 46), type := 0, pos := "law.go:30", after := #[{ on := 10, ground := Ground.data }, { on := 12, ground := Ground.data }, { on := 9, ground := Ground.guard }], guard := some (9, true) }) (v := ?vq28) rfl (by kernel_rfl) (by kernel_rfl) (by kernel_rfl) (fun _ _ _ h => h) (Or.inl ⟨by rfl, ?hq28⟩) ?rq28
            case hq28 => intro W; go_simp; (try with_reducible rfl)
            try simp only [Act.put, List.setIfInBounds_toArray, List.set_cons_zero, List.set_cons_succ]
            refine wpAny_take (i := 15) (oi := { dst := some 49, op := Op.move (Operand.tmp 3), type := 49, pos := "law.go:30", after := #[{ on := 9, ground := Ground.guard }], guard := some (9, true) }) (v := ?vq29) rfl (by kernel_rfl) (by kernel_rfl) (by kernel_rfl) (fun _ _ _ h => h) (Or.inl ⟨by rfl, ?hq29⟩) ?rq29
            case hq29 => intro W; go_simp; (try with_reducible rfl)
            try simp only [Act.put, List.setIfInBounds_toArray, List.set_cons_zero, List.set_cons_succ]
            refine wpAny_take (i := 16) (oi := { dst := some 50, op := Op.move (Operand.tmp 9), type := 3, pos := "law.go:30", after := #[{ on := 9, ground := Ground.guard }], guard := some (9, true) }) (v := ?vq30) rfl (by kernel_rfl) (by kernel_rfl) (by kernel_rfl) (fun _ _ _ h => h) (Or.inl ⟨by rfl, ?hq30⟩) ?rq30
            case hq30 => intro W; go_simp; (try with_reducible rfl)
            try simp only [Act.put, List.setIfInBounds_toArray, List.set_cons_zero, List.set_cons_succ]
            refine wpAny_take (i := 17) (oi := { dst := some 51, op := Op.indexAddr 49 (Operand.tmp 49) (Operand.tmp 50), type := 0, pos := "law.go:30", after := #[{ on := 15, ground := Ground.data }, { on := 16, ground := Ground.data }, { on := 9, ground := Ground.guard }], guard := some (9, true) }) (v := ?vq31) rfl (by kernel_rfl) (by kernel_rfl) (by kernel_rfl) (fun _ _ _ h => h) (Or.inl ⟨by rfl, ?hq31⟩) ?rq31
            case hq31 => intro W; go_simp; (try with_reducible rfl)
            try simp only [Act.put, List.setIfInBounds_toArray, List.set_cons_zero, List.set_cons_succ]
            refine wpAny_ready (rs := [14, 18]) (by kernel_rfl) (by simp) ?_
            refine AllReady.cons (o := { dst := some 48, op := Op.load 63 (Operand.tmp 47), type := 63, pos := "law.go:30", after := #[{ on := 13, ground := Ground.data }, { on := 9, ground := Ground.guard }], guard := some (9, true) }) rfl (fun K hK => ?_) ?_
            · go_simp
              refine hK _ _ ?_
              clear hK K
              try simp only [Act.put, List.setIfInBounds_toArray, List.set_cons_zero, List.set_cons_succ]
              refine wpAny_ready (rs := [18]) (by kernel_rfl) (by simp) ?_
              refine AllReady.cons (o := { dst := some 52, op := Op.load 63 (Operand.tmp 51), type := 63, pos := "law.go:30", after := #[{ on := 17, ground := Ground.data }, { on := 9, ground := Ground.guard }], guard := some (9, true) }) rfl (fun K hK => ?_) AllReady.nil
              go_simp
              refine hK _ _ ?_
              clear hK K
              try simp only [Act.put, List.setIfInBounds_toArray, List.set_cons_zero, List.set_cons_succ]
              refine wpAny_ready (rs := [19]) (by kernel_rfl) (by simp) ?_
              refine AllReady.cons (o := { dst := some 53, op := Op.call { callee := Callee.value (Operand.func 101), args := #[Operand.tmp 48, Operand.tmp 52], argTypes := #[63, 63] }, type := 4, pos := "law.go:30", after := #[{ on := 14, ground := Ground.data }, { on := 18, ground := Ground.data }, { on := 9, ground := Ground.chain }, { on := 9, ground := Ground.guard }], guard := some (9, true) }) rfl (fun K hK => ?_) AllReady.nil
              go_simp
              go_wp2_with (first | (go_at_call 101; refine (H2.out _ (by assumption)).mono ?_; rintro r w6 ⟨rfl, f6⟩))
              refine wpAny_take (i := 20) (oi := { dst := some 54, op := Op.unOp UnOp.not 4 (Operand.tmp 53), type := 4, pos := "law.go:30", after := #[{ on := 19, ground := Ground.data }, { on := 9, ground := Ground.guard }], guard := some (9, true) }) (v := ?vq32) rfl (by kernel_rfl) (by kernel_rfl) (by kernel_rfl) (fun _ _ _ h => h) (Or.inl ⟨by rfl, ?hq32⟩) ?rq32
              case hq32 => intro W; go_simp; (try with_reducible rfl)
              try simp only [Act.put, List.setIfInBounds_toArray, List.set_cons_zero, List.set_cons_succ]
              refine wpAny_take (i := 21) (oi := { dst := some 55, op := Op.pick (Operand.tmp 43) (Operand.tmp 54) (Operand.const (Value.bool false)), type := 4, pos := "law.go:30", after := #[{ on := 9, ground := Ground.data }, { on := 20, ground := Ground.data }, { on := 6, ground := Ground.guard }], guard := some (6, false) }) (v := ?vq33) rfl (by kernel_rfl) (by kernel_rfl) (by kernel_rfl) (fun _ _ _ h => h) (Or.inl ⟨by rfl, ?hq33⟩) ?rq33
              case hq33 => intro W; go_simp; (try with_reducible rfl)
              try simp only [Act.put, List.setIfInBounds_toArray, List.set_cons_zero, List.set_cons_succ]
              refine wpAny_take (i := 22) (oi := { dst := some 56, op := Op.pick (Operand.tmp 40) (Operand.const (Value.bool true)) (Operand.tmp 55), type := 4, pos := "law.go:30", after := #[{ on := 6, ground := Ground.data }, { on := 21, ground := Ground.data }], guard := none }) (v := ?vq34) rfl (by kernel_rfl) (by kernel_rfl) (by kernel_rfl) (fun _ _ _ h => h) (Or.inl ⟨by rfl, ?hq34⟩) ?rq34
              case hq34 => intro W; go_simp; (try with_reducible rfl)
              try simp only [Act.put, List.setIfInBounds_toArray, List.set_cons_zero, List.set_cons_succ]
              refine wpAny_done (by kernel_rfl) ?_ _
              clear d0 d1 d2 d3 d4 d5 d6 e0 e1 e2 e3 e4 e5 e6
              have HW5 := Lib.hid (HBe.out w6 f6)
              go_wp2_with fail
              go_ret
              exact ⟨by rw [HF.out]; rfl, HW5.out⟩
            refine AllReady.cons (o := { dst := some 52, op := Op.load 63 (Operand.tmp 51), type := 63, pos := "law.go:30", after := #[{ on := 17, ground := Ground.data }, { on := 9, ground := Ground.guard }], guard := some (9, true) }) rfl (fun K hK => ?_) ?_
            · go_simp
              refine hK _ _ ?_
              clear hK K
              try simp only [Act.put, List.setIfInBounds_toArray, List.set_cons_zero, List.set_cons_succ]
              refine wpAny_ready (rs := [14]) (by kernel_rfl) (by simp) ?_
              refine AllReady.cons (o := { dst := some 48, op := Op.load 63 (Operand.tmp 47), type := 63, pos := "law.go:30", after := #[{ on := 13, ground := Ground.data }, { on := 9, ground := Ground.guard }], guard := some (9, true) }) rfl (fun K hK => ?_) AllReady.nil
              go_simp
              refine hK _ _ ?_
              clear hK K
              try simp only [Act.put, List.setIfInBounds_toArray, List.set_cons_zero, List.set_cons_succ]
              refine wpAny_ready (rs := [19]) (by kernel_rfl) (by simp) ?_
              refine AllReady.cons (o := { dst := some 53, op := Op.call { callee := Callee.value (Operand.func 101), args := #[Operand.tmp 48, Operand.tmp 52], argTypes := #[63, 63] }, type := 4, pos := "law.go:30", after := #[{ on := 14, ground := Ground.data }, { on := 18, ground := Ground.data }, { on := 9, ground := Ground.chain }, { on := 9, ground := Ground.guard }], guard := some (9, true) }) rfl (fun K hK => ?_) AllReady.nil
              go_simp
              go_wp2_with (first | (go_at_call 101; refine (H2.out _ (by assumption)).mono ?_; rintro r w6 ⟨rfl, f6⟩))
              refine wpAny_take (i := 20) (oi := { dst := some 54, op := Op.unOp UnOp.not 4 (Operand.tmp 53), type := 4, pos := "law.go:30", after := #[{ on := 19, ground := Ground.data }, { on := 9, ground := Ground.guard }], guard := some (9, true) }) (v := ?vq35) rfl (by kernel_rfl) (by kernel_rfl) (by kernel_rfl) (fun _ _ _ h => h) (Or.inl ⟨by rfl, ?hq35⟩) ?rq35
              case hq35 => intro W; go_simp; (try with_reducible rfl)
              try simp only [Act.put, List.setIfInBounds_toArray, List.set_cons_zero, List.set_cons_succ]
              refine wpAny_take (i := 21) (oi := { dst := some 55, op := Op.pick (Operand.tmp 43) (Operand.tmp 54) (Operand.const (Value.bool false)), type := 4, pos := "law.go:30", after := #[{ on := 9, ground := Ground.data }, { on := 20, ground := Ground.data }, { on := 6, ground := Ground.guard }], guard := some (6, false) }) (v := ?vq36) rfl (by kernel_rfl) (by kernel_rfl) (by kernel_rfl) (fun _ _ _ h => h) (Or.inl ⟨by rfl, ?hq36⟩) ?rq36
              case hq36 => intro W; go_simp; (try with_reducible rfl)
              try simp only [Act.put, List.setIfInBounds_toArray, List.set_cons_zero, List.set_cons_succ]
              refine wpAny_take (i := 22) (oi := { dst := some 56, op := Op.pick (Operand.tmp 40) (Operand.const (Value.bool true)) (Operand.tmp 55), type := 4, pos := "law.go:30", after := #[{ on := 6, ground := Ground.data }, { on := 21, ground := Ground.data }], guard := none }) (v := ?vq37) rfl (by kernel_rfl) (by kernel_rfl) (by kernel_rfl) (fun _ _ _ h => h) (Or.inl ⟨by rfl, ?hq37⟩) ?rq37
              case hq37 => intro W; go_simp; (try with_reducible rfl)
              try simp only [Act.put, List.setIfInBounds_toArray, List.set_cons_zero, List.set_cons_succ]
              refine wpAny_done (by kernel_rfl) ?_ _
              clear d0 d1 d2 d3 d4 d5 d6 e0 e1 e2 e3 e4 e5 e6
              have HW5 := Lib.hid (HBe.out w6 f6)
              go_wp2_with fail
              go_ret
              exact ⟨by rw [HF.out]; rfl, HW5.out⟩
            exact AllReady.nil
          · have hall1 : Hid (∀ i, i < j + 1 + 1 → stepB l i = true) := fun i hi => by
              rcases Nat.lt_or_ge i (j + 1) with h1 | h1
              · exact hall.out i h1
              · obtain rfl : i = j + 1 := by omega
                exact HST.out
            refine wp_region_any (by kernel_rfl) ?_
            change wpAny _ _ _ _ _ _ _ (World.drew _)
            refine wpAny_take (i := 0) (oi := { dst := some 34, op := Op.move (Operand.tmp 3), type := 49, pos := "law.go:30", after := #[], guard := none }) (v := ?vq38) rfl (by kernel_rfl) (by kernel_rfl) (by kernel_rfl) (fun _ _ _ h => h) (Or.inl ⟨by rfl, ?hq38⟩) ?rq38
            case hq38 => intro W; go_simp; (try with_reducible rfl)
            try simp only [Act.put, List.setIfInBounds_toArray, List.set_cons_zero, List.set_cons_succ]
            refine wpAny_take (i := 1) (oi := { dst := some 35, op := Op.move (Operand.tmp 9), type := 3, pos := "law.go:30", after := #[], guard := none }) (v := ?vq39) rfl (by kernel_rfl) (by kernel_rfl) (by kernel_rfl) (fun _ _ _ h => h) (Or.inl ⟨by rfl, ?hq39⟩) ?rq39
            case hq39 => intro W; go_simp; (try with_reducible rfl)
            try simp only [Act.put, List.setIfInBounds_toArray, List.set_cons_zero, List.set_cons_succ]
            refine wpAny_take (i := 2) (oi := { dst := some 36, op := Op.indexAddr 49 (Operand.tmp 34) (Operand.tmp 35), type := 0, pos := "law.go:30", after := #[{ on := 0, ground := Ground.data }, { on := 1, ground := Ground.data }], guard := none }) (v := ?vq40) rfl (by kernel_rfl) (by kernel_rfl) (by kernel_rfl) (fun _ _ _ h => h) (Or.inl ⟨by rfl, ?hq40⟩) ?rq40
            case hq40 => intro W; go_simp; (try with_reducible rfl)
            try simp only [Act.put, List.setIfInBounds_toArray, List.set_cons_zero, List.set_cons_succ]
            refine wpAny_ready (rs := [3]) (by kernel_rfl) (by simp) ?_
            refine AllReady.cons (o := { dst := some 37, op := Op.load 63 (Operand.tmp 36), type := 63, pos := "law.go:30", after := #[{ on := 2, ground := Ground.data }], guard := none }) rfl (fun K hK => ?_) AllReady.nil
            go_simp
            refine hK _ _ ?_
            clear hK K
            try simp only [Act.put, List.setIfInBounds_toArray, List.set_cons_zero, List.set_cons_succ]
            refine wpAny_ready (rs := [4]) (by kernel_rfl) (by simp) ?_
            refine AllReady.cons (o := { dst := some 38, op := Op.call { callee := Callee.value (Operand.func 30), args := #[Operand.tmp 37], argTypes := #[63] }, type := 4, pos := "law.go:30", after := #[{ on := 3, ground := Ground.data }], guard := none }) rfl (fun K hK => ?_) AllReady.nil
            go_simp
            go_wp2_with (first | (go_at_call 30; refine (H1.out _ (by assumption)).mono ?_; rintro r w5 ⟨rfl, f5⟩; obtain ⟨u0, u1, u2, u3, u4, u5, u6⟩ := HC1.out w5 f5; obtain ⟨v0, v1, v2, v3, v4, v5, v6⟩ := HC2.out w5 f5))
            refine wpAny_take (i := 5) (oi := { dst := some 39, op := Op.unOp UnOp.not 4 (Operand.tmp 38), type := 4, pos := "law.go:30", after := #[{ on := 4, ground := Ground.data }], guard := none }) (v := ?vq41) rfl (by kernel_rfl) (by kernel_rfl) (by kernel_rfl) (fun _ _ _ h => h) (Or.inl ⟨by rfl, ?hq41⟩) ?rq41
            case hq41 => intro W; go_simp; (try with_reducible rfl)
            try simp only [Act.put, List.setIfInBounds_toArray, List.set_cons_zero, List.set_cons_succ]
            refine wpAny_take (i := 6) (oi := { dst := some 40, op := Op.move (Operand.tmp 39), type := 4, pos := "law.go:30", after := #[{ on := 5, ground := Ground.data }, { on := 4, ground := Ground.chain }], guard := none }) (v := ?vq42) rfl (by kernel_rfl) (by kernel_rfl) (by kernel_rfl) (fun _ _ _ h => h) (Or.inl ⟨by rfl, ?hq42⟩) ?rq42
            case hq42 => intro W; go_simp; (try with_reducible rfl)
            try simp only [Act.put, List.setIfInBounds_toArray, List.set_cons_zero, List.set_cons_succ]
            refine wpAny_take (i := 7) (oi := { dst := some 41, op := Op.move (Operand.tmp 9), type := 3, pos := "law.go:30", after := #[{ on := 6, ground := Ground.guard }], guard := some (6, false) }) (v := ?vq43) rfl (by kernel_rfl) (by kernel_rfl) (by kernel_rfl) (fun _ _ _ h => h) (Or.inl ⟨by rfl, ?hq43⟩) ?rq43
            case hq43 => intro W; go_simp; (try with_reducible rfl)
            try simp only [Act.put, List.setIfInBounds_toArray, List.set_cons_zero, List.set_cons_succ]
            refine wpAny_take (i := 8) (oi := { dst := some 42, op := Op.binOp BinOp.gtr 3 (Operand.tmp 41) (Operand.const (Value.int IntKind.i64 0)) 3, type := 4, pos := "law.go:30", after := #[{ on := 7, ground := Ground.data }, { on := 6, ground := Ground.guard }], guard := some (6, false) }) (v := ?vq44) rfl (by kernel_rfl) (by kernel_rfl) (by kernel_rfl) (fun _ _ _ h => h) (Or.inl ⟨by rfl, ?hq44⟩) ?rq44
            case hq44 => intro W; go_simp; (try with_reducible rfl)
            try simp only [Act.put, List.setIfInBounds_toArray, List.set_cons_zero, List.set_cons_succ]
            refine wpAny_take (i := 9) (oi := { dst := some 43, op := Op.move (Operand.tmp 42), type := 4, pos := "law.go:30", after := #[{ on := 8, ground := Ground.data }, { on := 6, ground := Ground.chain }, { on := 6, ground := Ground.guard }], guard := some (6, false) }) (v := ?vq45) rfl (by kernel_rfl) (by kernel_rfl) (by kernel_rfl) (fun _ _ _ h => h) (Or.inl ⟨by rfl, ?hq45⟩) ?rq45
            case hq45 => intro W; go_simp; (try with_reducible rfl)
            try simp only [Act.put, List.setIfInBounds_toArray, List.set_cons_zero, List.set_cons_succ]
            refine wpAny_take (i := 10) (oi := { dst := some 44, op := Op.move (Operand.tmp 3), type := 49, pos := "law.go:30", after := #[{ on := 9, ground := Ground.guard }], guard := some (9, true) }) (v := ?vq46) rfl (by kernel_rfl) (by kernel_rfl) (by kernel_rfl) (fun _ _ _ h => h) (Or.inl ⟨by rfl, ?hq46⟩) ?rq46
            case hq46 => intro W; go_simp; (try with_reducible rfl)
            try simp only [Act.put, List.setIfInBounds_toArray, List.set_cons_zero, List.set_cons_succ]
            refine wpAny_take (i := 11) (oi := { dst := some 45, op := Op.move (Operand.tmp 9), type := 3, pos := "law.go:30", after := #[{ on := 9, ground := Ground.guard }], guard := some (9, true) }) (v := ?vq47) rfl (by kernel_rfl) (by kernel_rfl) (by kernel_rfl) (fun _ _ _ h => h) (Or.inl ⟨by rfl, ?hq47⟩) ?rq47
            case hq47 => intro W; go_simp; (try with_reducible rfl)
            try simp only [Act.put, List.setIfInBounds_toArray, List.set_cons_zero, List.set_cons_succ]
            refine wpAny_take (i := 12) (oi := { dst := some 46, op := Op.binOp BinOp.sub 3 (Operand.tmp 45) (Operand.const (Value.int IntKind.i64 1)) 3, type := 3, pos := "law.go:30", after := #[{ on := 11, ground := Ground.data }, { on := 9, ground := Ground.guard }], guard := some (9, true) }) (v := ?vq48) rfl (by kernel_rfl) (by kernel_rfl) (by kernel_rfl) (fun _ _ _ h => h) (Or.inl ⟨by rfl, ?hq48⟩) ?rq48
            case hq48 => intro W; go_simp; (try with_reducible rfl)
            try simp only [Act.put, List.setIfInBounds_toArray, List.set_cons_zero, List.set_cons_succ]
            refine wpAny_take (i := 13) (oi := { dst := some 47, op := Op.indexAddr 49 (Operand.tmp 44) (Operand.tmp 46), type := 0, pos := "law.go:30", after := #[{ on := 10, ground := Ground.data }, { on := 12, ground := Ground.data }, { on := 9, ground := Ground.guard }], guard := some (9, true) }) (v := ?vq49) rfl (by kernel_rfl) (by kernel_rfl) (by kernel_rfl) (fun _ _ _ h => h) (Or.inl ⟨by rfl, ?hq49⟩) ?rq49
            case hq49 => intro W; go_simp; (try with_reducible rfl)
            try simp only [Act.put, List.setIfInBounds_toArray, List.set_cons_zero, List.set_cons_succ]
            refine wpAny_take (i := 15) (oi := { dst := some 49, op := Op.move (Operand.tmp 3), type := 49, pos := "law.go:30", after := #[{ on := 9, ground := Ground.guard }], guard := some (9, true) }) (v := ?vq50) rfl (by kernel_rfl) (by kernel_rfl) (by kernel_rfl) (fun _ _ _ h => h) (Or.inl ⟨by rfl, ?hq50⟩) ?rq50
            case hq50 => intro W; go_simp; (try with_reducible rfl)
            try simp only [Act.put, List.setIfInBounds_toArray, List.set_cons_zero, List.set_cons_succ]
            refine wpAny_take (i := 16) (oi := { dst := some 50, op := Op.move (Operand.tmp 9), type := 3, pos := "law.go:30", after := #[{ on := 9, ground := Ground.guard }], guard := some (9, true) }) (v := ?vq51) rfl (by kernel_rfl) (by kernel_rfl) (by kernel_rfl) (fun _ _ _ h => h) (Or.inl ⟨by rfl, ?hq51⟩) ?rq51
            case hq51 => intro W; go_simp; (try with_reducible rfl)
            try simp only [Act.put, List.setIfInBounds_toArray, List.set_cons_zero, List.set_cons_succ]
            refine wpAny_take (i := 17) (oi := { dst := some 51, op := Op.indexAddr 49 (Operand.tmp 49) (Operand.tmp 50), type := 0, pos := "law.go:30", after := #[{ on := 15, ground := Ground.data }, { on := 16, ground := Ground.data }, { on := 9, ground := Ground.guard }], guard := some (9, true) }) (v := ?vq52) rfl (by kernel_rfl) (by kernel_rfl) (by kernel_rfl) (fun _ _ _ h => h) (Or.inl ⟨by rfl, ?hq52⟩) ?rq52
            case hq52 => intro W; go_simp; (try with_reducible rfl)
            try simp only [Act.put, List.setIfInBounds_toArray, List.set_cons_zero, List.set_cons_succ]
            refine wpAny_ready (rs := [14, 18]) (by kernel_rfl) (by simp) ?_
            refine AllReady.cons (o := { dst := some 48, op := Op.load 63 (Operand.tmp 47), type := 63, pos := "law.go:30", after := #[{ on := 13, ground := Ground.data }, { on := 9, ground := Ground.guard }], guard := some (9, true) }) rfl (fun K hK => ?_) ?_
            · go_simp
              refine hK _ _ ?_
              clear hK K
              try simp only [Act.put, List.setIfInBounds_toArray, List.set_cons_zero, List.set_cons_succ]
              refine wpAny_ready (rs := [18]) (by kernel_rfl) (by simp) ?_
              refine AllReady.cons (o := { dst := some 52, op := Op.load 63 (Operand.tmp 51), type := 63, pos := "law.go:30", after := #[{ on := 17, ground := Ground.data }, { on := 9, ground := Ground.guard }], guard := some (9, true) }) rfl (fun K hK => ?_) AllReady.nil
              go_simp
              refine hK _ _ ?_
              clear hK K
              try simp only [Act.put, List.setIfInBounds_toArray, List.set_cons_zero, List.set_cons_succ]
              refine wpAny_ready (rs := [19]) (by kernel_rfl) (by simp) ?_
              refine AllReady.cons (o := { dst := some 53, op := Op.call { callee := Callee.value (Operand.func 101), args := #[Operand.tmp 48, Operand.tmp 52], argTypes := #[63, 63] }, type := 4, pos := "law.go:30", after := #[{ on := 14, ground := Ground.data }, { on := 18, ground := Ground.data }, { on := 9, ground := Ground.chain }, { on := 9, ground := Ground.guard }], guard := some (9, true) }) rfl (fun K hK => ?_) AllReady.nil
              go_simp
              go_wp2_with (first | (go_at_call 101; refine (H2.out _ (by assumption)).mono ?_; rintro r w6 ⟨rfl, f6⟩))
              refine wpAny_take (i := 20) (oi := { dst := some 54, op := Op.unOp UnOp.not 4 (Operand.tmp 53), type := 4, pos := "law.go:30", after := #[{ on := 19, ground := Ground.data }, { on := 9, ground := Ground.guard }], guard := some (9, true) }) (v := ?vq53) rfl (by kernel_rfl) (by kernel_rfl) (by kernel_rfl) (fun _ _ _ h => h) (Or.inl ⟨by rfl, ?hq53⟩) ?rq53
              case hq53 => intro W; go_simp; (try with_reducible rfl)
              try simp only [Act.put, List.setIfInBounds_toArray, List.set_cons_zero, List.set_cons_succ]
              refine wpAny_take (i := 21) (oi := { dst := some 55, op := Op.pick (Operand.tmp 43) (Operand.tmp 54) (Operand.const (Value.bool false)), type := 4, pos := "law.go:30", after := #[{ on := 9, ground := Ground.data }, { on := 20, ground := Ground.data }, { on := 6, ground := Ground.guard }], guard := some (6, false) }) (v := ?vq54) rfl (by kernel_rfl) (by kernel_rfl) (by kernel_rfl) (fun _ _ _ h => h) (Or.inl ⟨by rfl, ?hq54⟩) ?rq54
              case hq54 => intro W; go_simp; (try with_reducible rfl)
              try simp only [Act.put, List.setIfInBounds_toArray, List.set_cons_zero, List.set_cons_succ]
              refine wpAny_take (i := 22) (oi := { dst := some 56, op := Op.pick (Operand.tmp 40) (Operand.const (Value.bool true)) (Operand.tmp 55), type := 4, pos := "law.go:30", after := #[{ on := 6, ground := Ground.data }, { on := 21, ground := Ground.data }], guard := none }) (v := ?vq55) rfl (by kernel_rfl) (by kernel_rfl) (by kernel_rfl) (fun _ _ _ h => h) (Or.inl ⟨by rfl, ?hq55⟩) ?rq55
              case hq55 => intro W; go_simp; (try with_reducible rfl)
              try simp only [Act.put, List.setIfInBounds_toArray, List.set_cons_zero, List.set_cons_succ]
              refine wpAny_done (by kernel_rfl) ?_ _
              clear d0 d1 d2 d3 d4 d5 d6 e0 e1 e2 e3 e4 e5 e6
              have HW5 := Lib.hid (HBe.out w6 f6)
              go_wp2
              go_roundw
              case rel => exact ⟨j + 1 + 1, by omega, by go_num, hall1.out, HW5.out⟩
              case measure => simp [intOf]; omega
            refine AllReady.cons (o := { dst := some 52, op := Op.load 63 (Operand.tmp 51), type := 63, pos := "law.go:30", after := #[{ on := 17, ground := Ground.data }, { on := 9, ground := Ground.guard }], guard := some (9, true) }) rfl (fun K hK => ?_) ?_
            · go_simp
              refine hK _ _ ?_
              clear hK K
              try simp only [Act.put, List.setIfInBounds_toArray, List.set_cons_zero, List.set_cons_succ]
              refine wpAny_ready (rs := [14]) (by kernel_rfl) (by simp) ?_
              refine AllReady.cons (o := { dst := some 48, op := Op.load 63 (Operand.tmp 47), type := 63, pos := "law.go:30", after := #[{ on := 13, ground := Ground.data }, { on := 9, ground := Ground.guard }], guard := some (9, true) }) rfl (fun K hK => ?_) AllReady.nil
              go_simp
              refine hK _ _ ?_
              clear hK K
              try simp only [Act.put, List.setIfInBounds_toArray, List.set_cons_zero, List.set_cons_succ]
              refine wpAny_ready (rs := [19]) (by kernel_rfl) (by simp) ?_
              refine AllReady.cons (o := { dst := some 53, op := Op.call { callee := Callee.value (Operand.func 101), args := #[Operand.tmp 48, Operand.tmp 52], argTypes := #[63, 63] }, type := 4, pos := "law.go:30", after := #[{ on := 14, ground := Ground.data }, { on := 18, ground := Ground.data }, { on := 9, ground := Ground.chain }, { on := 9, ground := Ground.guard }], guard := some (9, true) }) rfl (fun K hK => ?_) AllReady.nil
              go_simp
              go_wp2_with (first | (go_at_call 101; refine (H2.out _ (by assumption)).mono ?_; rintro r w6 ⟨rfl, f6⟩))
              refine wpAny_take (i := 20) (oi := { dst := some 54, op := Op.unOp UnOp.not 4 (Operand.tmp 53), type := 4, pos := "law.go:30", after := #[{ on := 19, ground := Ground.data }, { on := 9, ground := Ground.guard }], guard := some (9, true) }) (v := ?vq56) rfl (by kernel_rfl) (by kernel_rfl) (by kernel_rfl) (fun _ _ _ h => h) (Or.inl ⟨by rfl, ?hq56⟩) ?rq56
              case hq56 => intro W; go_simp; (try with_reducible rfl)
              try simp only [Act.put, List.setIfInBounds_toArray, List.set_cons_zero, List.set_cons_succ]
              refine wpAny_take (i := 21) (oi := { dst := some 55, op := Op.pick (Operand.tmp 43) (Operand.tmp 54) (Operand.const (Value.bool false)), type := 4, pos := "law.go:30", after := #[{ on := 9, ground := Ground.data }, { on := 20, ground := Ground.data }, { on := 6, ground := Ground.guard }], guard := some (6, false) }) (v := ?vq57) rfl (by kernel_rfl) (by kernel_rfl) (by kernel_rfl) (fun _ _ _ h => h) (Or.inl ⟨by rfl, ?hq57⟩) ?rq57
              case hq57 => intro W; go_simp; (try with_reducible rfl)
              try simp only [Act.put, List.setIfInBounds_toArray, List.set_cons_zero, List.set_cons_succ]
              refine wpAny_take (i := 22) (oi := { dst := some 56, op := Op.pick (Operand.tmp 40) (Operand.const (Value.bool true)) (Operand.tmp 55), type := 4, pos := "law.go:30", after := #[{ on := 6, ground := Ground.data }, { on := 21, ground := Ground.data }], guard := none }) (v := ?vq58) rfl (by kernel_rfl) (by kernel_rfl) (by kernel_rfl) (fun _ _ _ h => h) (Or.inl ⟨by rfl, ?hq58⟩) ?rq58
              case hq58 => intro W; go_simp; (try with_reducible rfl)
              try simp only [Act.put, List.setIfInBounds_toArray, List.set_cons_zero, List.set_cons_succ]
              refine wpAny_done (by kernel_rfl) ?_ _
              clear d0 d1 d2 d3 d4 d5 d6 e0 e1 e2 e3 e4 e5 e6
              have HW5 := Lib.hid (HBe.out w6 f6)
              go_wp2
              go_roundw
              case rel => exact ⟨j + 1 + 1, by omega, by go_num, hall1.out, HW5.out⟩
              case measure => simp [intOf]; omega
            exact AllReady.nil
      · obtain rfl : k = n := by omega
        have HS : Hid ((rightB id ti sh && segOk l) = true) := by show _ = _; rw [HR.out, segOk_all (fun j hj => hall.out j (by rw [← Hlen.out]; exact hj))]; rfl
        go_wp2_with fail
        go_ret
        exact ⟨by rw [HS.out]; rfl, Hb.out⟩
  · have hF : Hid ((rightB id ti sh && segOk l) = false) := by show _ = _; cases h : rightB id ti sh; rfl; exact absurd h hR
    have hcase := rightB_bad hid.1 (by simpa using hR)
    clear hR
    rcases hcase with rfl | ⟨g1, h1⟩ | ⟨g1, g2, h1⟩ | ⟨g1, g2, g3, h1⟩ | ⟨g1, g2, g3, g4, h1⟩
    · go_enter Tryz.func37, Tryz.ntmps37
      go_wp2_with fail
      go_ret
      exact ⟨by rw [hF.out]; rfl, Below.refl _ _⟩
    all_goals
      have h0 : (id == 0) = false := by simp; omega
      have h0b : ¬ id = 0 := by omega
      go_enter Tryz.func37, Tryz.ntmps37
      go_wp2_with fail
      go_ret
      exact ⟨by rw [hF.out]; rfl, Below.refl _ _⟩
end Go.Proofs.YtkickdmiilmkoaaGreatDoor
