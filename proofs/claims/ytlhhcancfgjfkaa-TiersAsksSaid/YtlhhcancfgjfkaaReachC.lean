/- Walk of package reach: Takes. -/
import Derived.Test.YtlhhcancfgjfkaaReachB
import Derived.Test.YtlhhcancfgjfkaaSame
namespace Go.Proofs.Ytlhhcancfgjfkaa
set_option linter.all false
open Go.RowKit

/-- (reach.Reach).Takes. -/
def takesV (now : Int) (l : List TierV) (fl : List Int) (s : SampV) : Int :=
  if validB s.name = true ∧ 0 ≤ s.time then
    if now < s.time then 25 else if 0 < l.length ∧ fromI now l fl 0 ≤ s.time then 0 else 24
  else 1
set_option maxRecDepth 100000 in
set_option maxHeartbeats 4000000 in
theorem takes_any (now : Int) (hnow : i64 now) (nm : ByteArray) (l : List TierV) (A : Option Addr) (n c : Nat) (fl : List Int) (B : Option Addr) (m d : Nat) (s : SampV) (hs : s.name.size ≤ maxLen) (w : World) (hr : Rd w 4 A n (tcells l)) (hf : Rd w 1 B m (ints fl)) (hwf : ∀ t ∈ l, t.wf) (hn : n ≤ 1099511627776) :
    Calls Try.prog 26 #[reachV now nm A n c B m d, s.val] w fun r w' => r = .returned (.int .i64 (takesV now l fl s)) ∧ Below w.heap.size w w' := by
  have HF0 : Hid (∀ W, Fr (fun _ => False) w W → Calls Try.prog 30 #[.agg #[.int .i64 now, .string nm, .slice A n c, .slice B m d], .int .i64 0] W fun r w'' => r = .returned (.int .i64 (fromI now l fl 0)) ∧ Below W.heap.size W w'') := fun W h => fromI_any now hnow nm l A n c fl B m d 0 W (hr.fr0 h) (hf.fr0 h) hwf hn
  have HI0 : Hid (∀ W, Calls Try.prog 54 #[.agg #[.int .i64 now, .string nm, .slice A n c, .slice B m d], .int .i64 0] W fun r w'' => r = .returned (.bool (decide (0 ≤ (0 : Int)) && decide ((0 : Int) < n))) ∧ Below W.heap.size W w'') := fun W => is_any now nm A n c B m d 0 W
  have Hlen := Lib.hid hr.tiers_len
  have HVd := Lib.hid (fun b c w hc => valid_one s.name hs b c w hc)
  obtain ⟨W1, hW1⟩ : ∃ W1, W1 = (w.alloc (.cells #[.int .i64 now, .string nm, .slice A n c, .slice B m d] 58)).alloc (.cells #[.string s.name, .int .i64 s.time, .int .i64 s.value] 37) := ⟨_, rfl⟩
  have HW1 := Lib.hid hW1
  have B1 : Blk W1 w.heap.size 58 #[.int .i64 now, .string nm, .slice A n c, .slice B m d] := by rw [hW1]; exact (Blk.new _ _ _).alloc _
  have B2 : Blk W1 (w.heap.size + 1) 37 #[.string s.name, .int .i64 s.time, .int .i64 s.value] := by rw [hW1]; exact Blk.new' (by simp) _ _
  have FW : Hid (Fr (fun _ => False) w W1) := by show Fr _ _ _; rw [hW1]; exact (Fr.none_alloc _ _).trans (Fr.none_alloc _ _) (fun _ h => h.elim)
  have HC : Hid (∀ W, Fr (fun _ => False) W1 W → W.cell? ⟨w.heap.size, 0, none⟩ = some (.int .i64 now) ∧ W.cell? ⟨w.heap.size, 1, none⟩ = some (.string nm) ∧ W.cell? ⟨w.heap.size, 2, none⟩ = some (.slice A n c) ∧ W.cell? ⟨w.heap.size, 3, none⟩ = some (.slice B m d) ∧ W.cell? ⟨w.heap.size + 1, 0, none⟩ = some (.string s.name) ∧ W.cell? ⟨w.heap.size + 1, 1, none⟩ = some (.int .i64 s.time)) := fun W f => ⟨(B1.fr f (fun h => h)).cell 0, (B1.fr f (fun h => h)).cell 1, (B1.fr f (fun h => h)).cell 2, (B1.fr f (fun h => h)).cell 3, (B2.fr f (fun h => h)).cell 0, (B2.fr f (fun h => h)).cell 1⟩
  have HSz : Hid (w.heap.size + 1 + 1 = W1.heap.size) := by show _ = _; rw [hW1]; simp
  unfold reachV SampV.val takesV
  rw [Hlen.out]
  clear hr hf hwf hW1 B1 B2
  cases hv : validB s.name
  · rw [hv] at HVd
    rw [if_neg (by simp)]
    clear hv
    obtain ⟨a0, a1, a2, a3, t0, t1⟩ := HC.out W1 (Fr.refl _ _)
    go_enter Try.func26, Try.ntmps26
    go_wp2_with fail
    rw [← HW1.out]
    refine (HVd.out _ _ _ ((Blk.new' HSz.out _ _).cell 0)).mono ?_
    rintro r w2 ⟨rfl, rfl⟩
    clear a0 a1 a2 a3 t0 t1
    obtain ⟨a0, a1, a2, a3, t0, t1⟩ := HC.out _ (Fr.none_alloc W1 (.cells #[.string s.name] 9))
    have F2 : Hid (Fr (fun _ => False) W1 (W1.alloc (.cells #[.string s.name] 9))) := Fr.none_alloc _ _
    have F02 : Hid (Below w.heap.size w (W1.alloc (.cells #[.string s.name] 9))) := (FW.out.trans F2.out (fun _ h => h.elim)).below (fun _ h => h.elim)
    obtain ⟨W2, hW2⟩ : ∃ W2, W2 = W1.alloc (.cells #[.string s.name] 9) := ⟨_, rfl⟩
    rw [← hW2] at F2 F02 a0 a1 a2 a3 t0 t1 ⊢
    clear hW2
    go_wp2_with fail
    go_ret
    exact ⟨rfl, F02.out⟩
  · rw [hv] at HVd
    by_cases h0 : 0 ≤ s.time
    · rw [if_pos ⟨rfl, h0⟩]
      have h0d : decide (s.time < 0) = false := decide_eq_false (by omega)
      by_cases hnw : now < s.time
      · rw [if_pos hnw]
        have hnd : decide (now < s.time) = true := decide_eq_true hnw
        clear hv
        obtain ⟨a0, a1, a2, a3, t0, t1⟩ := HC.out W1 (Fr.refl _ _)
        go_enter Try.func26, Try.ntmps26
        go_wp2_with fail
        rw [← HW1.out]
        refine (HVd.out _ _ _ ((Blk.new' HSz.out _ _).cell 0)).mono ?_
        rintro r w2 ⟨rfl, rfl⟩
        clear a0 a1 a2 a3 t0 t1
        obtain ⟨a0, a1, a2, a3, t0, t1⟩ := HC.out _ (Fr.none_alloc W1 (.cells #[.string s.name] 9))
        have F2 : Hid (Fr (fun _ => False) W1 (W1.alloc (.cells #[.string s.name] 9))) := Fr.none_alloc _ _
        have F02 : Hid (Below w.heap.size w (W1.alloc (.cells #[.string s.name] 9))) := (FW.out.trans F2.out (fun _ h => h.elim)).below (fun _ h => h.elim)
        obtain ⟨W2, hW2⟩ : ∃ W2, W2 = W1.alloc (.cells #[.string s.name] 9) := ⟨_, rfl⟩
        rw [← hW2] at F2 F02 a0 a1 a2 a3 t0 t1 ⊢
        clear hW2
        go_wp2_with fail
        go_ret
        exact ⟨rfl, F02.out⟩
      · rw [if_neg hnw]
        have hnd : decide (now < s.time) = false := decide_eq_false hnw
        clear hv
        by_cases hn0 : 0 < n
        · have hib : (decide (0 ≤ (0 : Int)) && decide ((0 : Int) < n)) = true := by simp; omega
          rw [hib] at HI0
          obtain ⟨fv, hfv⟩ : ∃ fv, fromI now l fl 0 = fv := ⟨_, rfl⟩
          rw [hfv] at HF0 ⊢
          by_cases hle : fv ≤ s.time
          · rw [if_pos ⟨hn0, hle⟩]
            have hld : decide (s.time < fv) = false := decide_eq_false (by omega)
            clear hib hfv
            obtain ⟨a0, a1, a2, a3, t0, t1⟩ := HC.out W1 (Fr.refl _ _)
            go_enter Try.func26, Try.ntmps26
            go_wp2_with fail
            rw [← HW1.out]
            refine (HVd.out _ _ _ ((Blk.new' HSz.out _ _).cell 0)).mono ?_
            rintro r w2 ⟨rfl, rfl⟩
            clear a0 a1 a2 a3 t0 t1
            obtain ⟨a0, a1, a2, a3, t0, t1⟩ := HC.out _ (Fr.none_alloc W1 (.cells #[.string s.name] 9))
            have F2 : Hid (Fr (fun _ => False) W1 (W1.alloc (.cells #[.string s.name] 9))) := Fr.none_alloc _ _
            have F02 : Hid (Below w.heap.size w (W1.alloc (.cells #[.string s.name] 9))) := (FW.out.trans F2.out (fun _ h => h.elim)).below (fun _ h => h.elim)
            obtain ⟨W2, hW2⟩ : ∃ W2, W2 = W1.alloc (.cells #[.string s.name] 9) := ⟨_, rfl⟩
            rw [← hW2] at F2 F02 a0 a1 a2 a3 t0 t1 ⊢
            clear hW2
            go_wp2_with fail
            have HT := Lib.hid (FW.out.trans F2.out (fun _ h => h.elim))
            refine wp_region_held_drew (S := fun W => Fr (fun _ => False) W2 W) (by kernel_rfl) ((Fr.refl _ W2).drew) (fun hHeld => ?_)
            refine wpAnyH_take (i := 0) (oi := { dst := some 23, op := Op.load 58 (Operand.tmp 2), type := 58, pos := "reach.go:57", after := #[], guard := none }) (v := ?vq1) rfl (by kernel_rfl) (by kernel_rfl) (by kernel_rfl) (fun _ _ _ h => h) (Or.inl ⟨by rfl, ?hq1⟩) (by assumption) ?rq1
            case hq1 => intro W hSw; (try obtain ⟨a0, a1, a2, a3, t0, t1⟩ := HC.out W (F2.out.trans hSw (fun _ h => h.elim))); go_simp; (try with_reducible rfl)
            try simp only [Act.put, List.setIfInBounds_toArray, List.set_cons_zero, List.set_cons_succ]
            refine wpAnyH_ready (rs := [1]) (by kernel_rfl) (by simp) ?_
            refine AllReadyH.cons (o := { dst := some 24, op := Op.call { callee := Callee.value (Operand.func 54), args := #[Operand.tmp 23, Operand.const (Value.int IntKind.i64 0)], argTypes := #[58, 3] }, type := 4, pos := "reach.go:57", after := #[{ on := 0, ground := Ground.data }], guard := none }) rfl (fun K hK => ?_) AllReadyH.nil
            go_simp
            go_wp2_with (first | (go_at_call 54; refine (HI0.out _).mono ?_; rintro r w5 ⟨rfl, b5⟩))
            refine hK.out _ _ (hHeld.trans (Fr.b0 b5) (fun _ h => h.elim)) (fun hHeld => ?_)
            clear hK K
            try simp only [Act.put, List.setIfInBounds_toArray, List.set_cons_zero, List.set_cons_succ]
            refine wpAnyH_take (i := 2) (oi := { dst := some 25, op := Op.unOp UnOp.not 4 (Operand.tmp 24), type := 4, pos := "reach.go:57", after := #[{ on := 1, ground := Ground.data }], guard := none }) (v := ?vq2) rfl (by kernel_rfl) (by kernel_rfl) (by kernel_rfl) (fun _ _ _ h => h) (Or.inl ⟨by rfl, ?hq2⟩) (by assumption) ?rq2
            case hq2 => intro W hSw; (try obtain ⟨a0, a1, a2, a3, t0, t1⟩ := HC.out W (F2.out.trans hSw (fun _ h => h.elim))); go_simp; (try with_reducible rfl)
            try simp only [Act.put, List.setIfInBounds_toArray, List.set_cons_zero, List.set_cons_succ]
            refine wpAnyH_take (i := 3) (oi := { dst := some 26, op := Op.move (Operand.tmp 25), type := 4, pos := "reach.go:57", after := #[{ on := 2, ground := Ground.data }, { on := 1, ground := Ground.chain }], guard := none }) (v := ?vq3) rfl (by kernel_rfl) (by kernel_rfl) (by kernel_rfl) (fun _ _ _ h => h) (Or.inl ⟨by rfl, ?hq3⟩) (by assumption) ?rq3
            case hq3 => intro W hSw; (try obtain ⟨a0, a1, a2, a3, t0, t1⟩ := HC.out W (F2.out.trans hSw (fun _ h => h.elim))); go_simp; (try with_reducible rfl)
            try simp only [Act.put, List.setIfInBounds_toArray, List.set_cons_zero, List.set_cons_succ]
            refine wpAnyH_take (i := 4) (oi := { dst := some 27, op := Op.fieldAddr 37 (Operand.tmp 3) 1, type := 0, pos := "reach.go:57", after := #[{ on := 3, ground := Ground.guard }], guard := some (3, false) }) (v := ?vq4) rfl (by kernel_rfl) (by kernel_rfl) (by kernel_rfl) (fun _ _ _ h => h) (Or.inl ⟨by rfl, ?hq4⟩) (by assumption) ?rq4
            case hq4 => intro W hSw; (try obtain ⟨a0, a1, a2, a3, t0, t1⟩ := HC.out W (F2.out.trans hSw (fun _ h => h.elim))); go_simp; (try with_reducible rfl)
            try simp only [Act.put, List.setIfInBounds_toArray, List.set_cons_zero, List.set_cons_succ]
            refine wpAnyH_take (i := 5) (oi := { dst := some 28, op := Op.load 3 (Operand.tmp 27), type := 3, pos := "reach.go:57", after := #[{ on := 4, ground := Ground.data }, { on := 3, ground := Ground.guard }], guard := some (3, false) }) (v := ?vq5) rfl (by kernel_rfl) (by kernel_rfl) (by kernel_rfl) (fun _ _ _ h => h) (Or.inl ⟨by rfl, ?hq5⟩) (by assumption) ?rq5
            case hq5 => intro W hSw; (try obtain ⟨a0, a1, a2, a3, t0, t1⟩ := HC.out W (F2.out.trans hSw (fun _ h => h.elim))); go_simp; (try with_reducible rfl)
            try simp only [Act.put, List.setIfInBounds_toArray, List.set_cons_zero, List.set_cons_succ]
            refine wpAnyH_take (i := 6) (oi := { dst := some 29, op := Op.load 58 (Operand.tmp 2), type := 58, pos := "reach.go:57", after := #[{ on := 3, ground := Ground.guard }], guard := some (3, false) }) (v := ?vq6) rfl (by kernel_rfl) (by kernel_rfl) (by kernel_rfl) (fun _ _ _ h => h) (Or.inl ⟨by rfl, ?hq6⟩) (by assumption) ?rq6
            case hq6 => intro W hSw; (try obtain ⟨a0, a1, a2, a3, t0, t1⟩ := HC.out W (F2.out.trans hSw (fun _ h => h.elim))); go_simp; (try with_reducible rfl)
            try simp only [Act.put, List.setIfInBounds_toArray, List.set_cons_zero, List.set_cons_succ]
            refine wpAnyH_ready (rs := [7]) (by kernel_rfl) (by simp) ?_
            refine AllReadyH.cons (o := { dst := some 30, op := Op.call { callee := Callee.value (Operand.func 30), args := #[Operand.tmp 29, Operand.const (Value.int IntKind.i64 0)], argTypes := #[58, 3] }, type := 3, pos := "reach.go:57", after := #[{ on := 6, ground := Ground.data }, { on := 3, ground := Ground.chain }, { on := 3, ground := Ground.guard }], guard := some (3, false) }) rfl (fun K hK => ?_) AllReadyH.nil
            go_simp
            go_wp2_with (first | (go_at_call 30; refine (HF0.out _ (HT.out.trans hHeld (fun _ h => h.elim))).mono ?_; rintro r w6 ⟨rfl, b6⟩))
            refine hK.out _ _ (hHeld.trans (Fr.b0 b6) (fun _ h => h.elim)) (fun hHeld => ?_)
            clear hK K
            try simp only [Act.put, List.setIfInBounds_toArray, List.set_cons_zero, List.set_cons_succ]
            refine wpAnyH_take (i := 8) (oi := { dst := some 31, op := Op.binOp BinOp.lss 3 (Operand.tmp 28) (Operand.tmp 30) 3, type := 4, pos := "reach.go:57", after := #[{ on := 5, ground := Ground.data }, { on := 7, ground := Ground.data }, { on := 3, ground := Ground.guard }], guard := some (3, false) }) (v := ?vq7) rfl (by kernel_rfl) (by kernel_rfl) (by kernel_rfl) (fun _ _ _ h => h) (Or.inl ⟨by rfl, ?hq7⟩) (by assumption) ?rq7
            case hq7 => intro W hSw; (try obtain ⟨a0, a1, a2, a3, t0, t1⟩ := HC.out W (F2.out.trans hSw (fun _ h => h.elim))); go_simp; (try with_reducible rfl)
            try simp only [Act.put, List.setIfInBounds_toArray, List.set_cons_zero, List.set_cons_succ]
            refine wpAnyH_take (i := 9) (oi := { dst := some 32, op := Op.pick (Operand.tmp 26) (Operand.const (Value.bool true)) (Operand.tmp 31), type := 4, pos := "reach.go:57", after := #[{ on := 3, ground := Ground.data }, { on := 8, ground := Ground.data }], guard := none }) (v := ?vq8) rfl (by kernel_rfl) (by kernel_rfl) (by kernel_rfl) (fun _ _ _ h => h) (Or.inl ⟨by rfl, ?hq8⟩) (by assumption) ?rq8
            case hq8 => intro W hSw; (try obtain ⟨a0, a1, a2, a3, t0, t1⟩ := HC.out W (F2.out.trans hSw (fun _ h => h.elim))); go_simp; (try with_reducible rfl)
            try simp only [Act.put, List.setIfInBounds_toArray, List.set_cons_zero, List.set_cons_succ]
            refine wpAnyH_take (i := 10) (oi := { dst := some 22, op := Op.assign (Operand.tmp 32), type := 4, pos := "reach.go:57", after := #[{ on := 9, ground := Ground.data }, { on := 7, ground := Ground.chain }], guard := none }) (v := ?vq9) rfl (by kernel_rfl) (by kernel_rfl) (by kernel_rfl) (fun _ _ _ h => h) (Or.inl ⟨by rfl, ?hq9⟩) (by assumption) ?rq9
            case hq9 => intro W hSw; (try obtain ⟨a0, a1, a2, a3, t0, t1⟩ := HC.out W (F2.out.trans hSw (fun _ h => h.elim))); go_simp; (try with_reducible rfl)
            try simp only [Act.put, List.setIfInBounds_toArray, List.set_cons_zero, List.set_cons_succ]
            refine wpAnyH_done (by kernel_rfl) ?_ _
            go_wp2_with fail
            go_ret
            exact ⟨rfl, F02.out.trans ((hHeld.below (fun _ h => h.elim)).mono F02.out.size)⟩
          · rw [if_neg (by omega)]
            have hld : decide (s.time < fv) = true := decide_eq_true (by omega)
            clear hib hfv
            obtain ⟨a0, a1, a2, a3, t0, t1⟩ := HC.out W1 (Fr.refl _ _)
            go_enter Try.func26, Try.ntmps26
            go_wp2_with fail
            rw [← HW1.out]
            refine (HVd.out _ _ _ ((Blk.new' HSz.out _ _).cell 0)).mono ?_
            rintro r w2 ⟨rfl, rfl⟩
            clear a0 a1 a2 a3 t0 t1
            obtain ⟨a0, a1, a2, a3, t0, t1⟩ := HC.out _ (Fr.none_alloc W1 (.cells #[.string s.name] 9))
            have F2 : Hid (Fr (fun _ => False) W1 (W1.alloc (.cells #[.string s.name] 9))) := Fr.none_alloc _ _
            have F02 : Hid (Below w.heap.size w (W1.alloc (.cells #[.string s.name] 9))) := (FW.out.trans F2.out (fun _ h => h.elim)).below (fun _ h => h.elim)
            obtain ⟨W2, hW2⟩ : ∃ W2, W2 = W1.alloc (.cells #[.string s.name] 9) := ⟨_, rfl⟩
            rw [← hW2] at F2 F02 a0 a1 a2 a3 t0 t1 ⊢
            clear hW2
            go_wp2_with fail
            have HT := Lib.hid (FW.out.trans F2.out (fun _ h => h.elim))
            refine wp_region_held_drew (S := fun W => Fr (fun _ => False) W2 W) (by kernel_rfl) ((Fr.refl _ W2).drew) (fun hHeld => ?_)
            refine wpAnyH_take (i := 0) (oi := { dst := some 23, op := Op.load 58 (Operand.tmp 2), type := 58, pos := "reach.go:57", after := #[], guard := none }) (v := ?vq10) rfl (by kernel_rfl) (by kernel_rfl) (by kernel_rfl) (fun _ _ _ h => h) (Or.inl ⟨by rfl, ?hq10⟩) (by assumption) ?rq10
            case hq10 => intro W hSw; (try obtain ⟨a0, a1, a2, a3, t0, t1⟩ := HC.out W (F2.out.trans hSw (fun _ h => h.elim))); go_simp; (try with_reducible rfl)
            try simp only [Act.put, List.setIfInBounds_toArray, List.set_cons_zero, List.set_cons_succ]
            refine wpAnyH_ready (rs := [1]) (by kernel_rfl) (by simp) ?_
            refine AllReadyH.cons (o := { dst := some 24, op := Op.call { callee := Callee.value (Operand.func 54), args := #[Operand.tmp 23, Operand.const (Value.int IntKind.i64 0)], argTypes := #[58, 3] }, type := 4, pos := "reach.go:57", after := #[{ on := 0, ground := Ground.data }], guard := none }) rfl (fun K hK => ?_) AllReadyH.nil
            go_simp
            go_wp2_with (first | (go_at_call 54; refine (HI0.out _).mono ?_; rintro r w5 ⟨rfl, b5⟩))
            refine hK.out _ _ (hHeld.trans (Fr.b0 b5) (fun _ h => h.elim)) (fun hHeld => ?_)
            clear hK K
            try simp only [Act.put, List.setIfInBounds_toArray, List.set_cons_zero, List.set_cons_succ]
            refine wpAnyH_take (i := 2) (oi := { dst := some 25, op := Op.unOp UnOp.not 4 (Operand.tmp 24), type := 4, pos := "reach.go:57", after := #[{ on := 1, ground := Ground.data }], guard := none }) (v := ?vq11) rfl (by kernel_rfl) (by kernel_rfl) (by kernel_rfl) (fun _ _ _ h => h) (Or.inl ⟨by rfl, ?hq11⟩) (by assumption) ?rq11
            case hq11 => intro W hSw; (try obtain ⟨a0, a1, a2, a3, t0, t1⟩ := HC.out W (F2.out.trans hSw (fun _ h => h.elim))); go_simp; (try with_reducible rfl)
            try simp only [Act.put, List.setIfInBounds_toArray, List.set_cons_zero, List.set_cons_succ]
            refine wpAnyH_take (i := 3) (oi := { dst := some 26, op := Op.move (Operand.tmp 25), type := 4, pos := "reach.go:57", after := #[{ on := 2, ground := Ground.data }, { on := 1, ground := Ground.chain }], guard := none }) (v := ?vq12) rfl (by kernel_rfl) (by kernel_rfl) (by kernel_rfl) (fun _ _ _ h => h) (Or.inl ⟨by rfl, ?hq12⟩) (by assumption) ?rq12
            case hq12 => intro W hSw; (try obtain ⟨a0, a1, a2, a3, t0, t1⟩ := HC.out W (F2.out.trans hSw (fun _ h => h.elim))); go_simp; (try with_reducible rfl)
            try simp only [Act.put, List.setIfInBounds_toArray, List.set_cons_zero, List.set_cons_succ]
            refine wpAnyH_take (i := 4) (oi := { dst := some 27, op := Op.fieldAddr 37 (Operand.tmp 3) 1, type := 0, pos := "reach.go:57", after := #[{ on := 3, ground := Ground.guard }], guard := some (3, false) }) (v := ?vq13) rfl (by kernel_rfl) (by kernel_rfl) (by kernel_rfl) (fun _ _ _ h => h) (Or.inl ⟨by rfl, ?hq13⟩) (by assumption) ?rq13
            case hq13 => intro W hSw; (try obtain ⟨a0, a1, a2, a3, t0, t1⟩ := HC.out W (F2.out.trans hSw (fun _ h => h.elim))); go_simp; (try with_reducible rfl)
            try simp only [Act.put, List.setIfInBounds_toArray, List.set_cons_zero, List.set_cons_succ]
            refine wpAnyH_take (i := 5) (oi := { dst := some 28, op := Op.load 3 (Operand.tmp 27), type := 3, pos := "reach.go:57", after := #[{ on := 4, ground := Ground.data }, { on := 3, ground := Ground.guard }], guard := some (3, false) }) (v := ?vq14) rfl (by kernel_rfl) (by kernel_rfl) (by kernel_rfl) (fun _ _ _ h => h) (Or.inl ⟨by rfl, ?hq14⟩) (by assumption) ?rq14
            case hq14 => intro W hSw; (try obtain ⟨a0, a1, a2, a3, t0, t1⟩ := HC.out W (F2.out.trans hSw (fun _ h => h.elim))); go_simp; (try with_reducible rfl)
            try simp only [Act.put, List.setIfInBounds_toArray, List.set_cons_zero, List.set_cons_succ]
            refine wpAnyH_take (i := 6) (oi := { dst := some 29, op := Op.load 58 (Operand.tmp 2), type := 58, pos := "reach.go:57", after := #[{ on := 3, ground := Ground.guard }], guard := some (3, false) }) (v := ?vq15) rfl (by kernel_rfl) (by kernel_rfl) (by kernel_rfl) (fun _ _ _ h => h) (Or.inl ⟨by rfl, ?hq15⟩) (by assumption) ?rq15
            case hq15 => intro W hSw; (try obtain ⟨a0, a1, a2, a3, t0, t1⟩ := HC.out W (F2.out.trans hSw (fun _ h => h.elim))); go_simp; (try with_reducible rfl)
            try simp only [Act.put, List.setIfInBounds_toArray, List.set_cons_zero, List.set_cons_succ]
            refine wpAnyH_ready (rs := [7]) (by kernel_rfl) (by simp) ?_
            refine AllReadyH.cons (o := { dst := some 30, op := Op.call { callee := Callee.value (Operand.func 30), args := #[Operand.tmp 29, Operand.const (Value.int IntKind.i64 0)], argTypes := #[58, 3] }, type := 3, pos := "reach.go:57", after := #[{ on := 6, ground := Ground.data }, { on := 3, ground := Ground.chain }, { on := 3, ground := Ground.guard }], guard := some (3, false) }) rfl (fun K hK => ?_) AllReadyH.nil
            go_simp
            go_wp2_with (first | (go_at_call 30; refine (HF0.out _ (HT.out.trans hHeld (fun _ h => h.elim))).mono ?_; rintro r w6 ⟨rfl, b6⟩))
            refine hK.out _ _ (hHeld.trans (Fr.b0 b6) (fun _ h => h.elim)) (fun hHeld => ?_)
            clear hK K
            try simp only [Act.put, List.setIfInBounds_toArray, List.set_cons_zero, List.set_cons_succ]
            refine wpAnyH_take (i := 8) (oi := { dst := some 31, op := Op.binOp BinOp.lss 3 (Operand.tmp 28) (Operand.tmp 30) 3, type := 4, pos := "reach.go:57", after := #[{ on := 5, ground := Ground.data }, { on := 7, ground := Ground.data }, { on := 3, ground := Ground.guard }], guard := some (3, false) }) (v := ?vq16) rfl (by kernel_rfl) (by kernel_rfl) (by kernel_rfl) (fun _ _ _ h => h) (Or.inl ⟨by rfl, ?hq16⟩) (by assumption) ?rq16
            case hq16 => intro W hSw; (try obtain ⟨a0, a1, a2, a3, t0, t1⟩ := HC.out W (F2.out.trans hSw (fun _ h => h.elim))); go_simp; (try with_reducible rfl)
            try simp only [Act.put, List.setIfInBounds_toArray, List.set_cons_zero, List.set_cons_succ]
            refine wpAnyH_take (i := 9) (oi := { dst := some 32, op := Op.pick (Operand.tmp 26) (Operand.const (Value.bool true)) (Operand.tmp 31), type := 4, pos := "reach.go:57", after := #[{ on := 3, ground := Ground.data }, { on := 8, ground := Ground.data }], guard := none }) (v := ?vq17) rfl (by kernel_rfl) (by kernel_rfl) (by kernel_rfl) (fun _ _ _ h => h) (Or.inl ⟨by rfl, ?hq17⟩) (by assumption) ?rq17
            case hq17 => intro W hSw; (try obtain ⟨a0, a1, a2, a3, t0, t1⟩ := HC.out W (F2.out.trans hSw (fun _ h => h.elim))); go_simp; (try with_reducible rfl)
            try simp only [Act.put, List.setIfInBounds_toArray, List.set_cons_zero, List.set_cons_succ]
            refine wpAnyH_take (i := 10) (oi := { dst := some 22, op := Op.assign (Operand.tmp 32), type := 4, pos := "reach.go:57", after := #[{ on := 9, ground := Ground.data }, { on := 7, ground := Ground.chain }], guard := none }) (v := ?vq18) rfl (by kernel_rfl) (by kernel_rfl) (by kernel_rfl) (fun _ _ _ h => h) (Or.inl ⟨by rfl, ?hq18⟩) (by assumption) ?rq18
            case hq18 => intro W hSw; (try obtain ⟨a0, a1, a2, a3, t0, t1⟩ := HC.out W (F2.out.trans hSw (fun _ h => h.elim))); go_simp; (try with_reducible rfl)
            try simp only [Act.put, List.setIfInBounds_toArray, List.set_cons_zero, List.set_cons_succ]
            refine wpAnyH_done (by kernel_rfl) ?_ _
            go_wp2_with fail
            go_ret
            exact ⟨rfl, F02.out.trans ((hHeld.below (fun _ h => h.elim)).mono F02.out.size)⟩
        · have hib : (decide (0 ≤ (0 : Int)) && decide ((0 : Int) < n)) = false := by simp; omega
          rw [hib] at HI0
          rw [if_neg (by omega)]
          clear hib
          obtain ⟨a0, a1, a2, a3, t0, t1⟩ := HC.out W1 (Fr.refl _ _)
          go_enter Try.func26, Try.ntmps26
          go_wp2_with fail
          rw [← HW1.out]
          refine (HVd.out _ _ _ ((Blk.new' HSz.out _ _).cell 0)).mono ?_
          rintro r w2 ⟨rfl, rfl⟩
          clear a0 a1 a2 a3 t0 t1
          obtain ⟨a0, a1, a2, a3, t0, t1⟩ := HC.out _ (Fr.none_alloc W1 (.cells #[.string s.name] 9))
          have F2 : Hid (Fr (fun _ => False) W1 (W1.alloc (.cells #[.string s.name] 9))) := Fr.none_alloc _ _
          have F02 : Hid (Below w.heap.size w (W1.alloc (.cells #[.string s.name] 9))) := (FW.out.trans F2.out (fun _ h => h.elim)).below (fun _ h => h.elim)
          obtain ⟨W2, hW2⟩ : ∃ W2, W2 = W1.alloc (.cells #[.string s.name] 9) := ⟨_, rfl⟩
          rw [← hW2] at F2 F02 a0 a1 a2 a3 t0 t1 ⊢
          clear hW2
          go_wp2_with fail
          have HT := Lib.hid (FW.out.trans F2.out (fun _ h => h.elim))
          refine wp_region_held_drew (S := fun W => Fr (fun _ => False) W2 W) (by kernel_rfl) ((Fr.refl _ W2).drew) (fun hHeld => ?_)
          refine wpAnyH_take (i := 0) (oi := { dst := some 23, op := Op.load 58 (Operand.tmp 2), type := 58, pos := "reach.go:57", after := #[], guard := none }) (v := ?vq19) rfl (by kernel_rfl) (by kernel_rfl) (by kernel_rfl) (fun _ _ _ h => h) (Or.inl ⟨by rfl, ?hq19⟩) (by assumption) ?rq19
          case hq19 => intro W hSw; (try obtain ⟨a0, a1, a2, a3, t0, t1⟩ := HC.out W (F2.out.trans hSw (fun _ h => h.elim))); go_simp; (try with_reducible rfl)
          try simp only [Act.put, List.setIfInBounds_toArray, List.set_cons_zero, List.set_cons_succ]
          refine wpAnyH_ready (rs := [1]) (by kernel_rfl) (by simp) ?_
          refine AllReadyH.cons (o := { dst := some 24, op := Op.call { callee := Callee.value (Operand.func 54), args := #[Operand.tmp 23, Operand.const (Value.int IntKind.i64 0)], argTypes := #[58, 3] }, type := 4, pos := "reach.go:57", after := #[{ on := 0, ground := Ground.data }], guard := none }) rfl (fun K hK => ?_) AllReadyH.nil
          go_simp
          go_wp2_with (first | (go_at_call 54; refine (HI0.out _).mono ?_; rintro r w5 ⟨rfl, b5⟩))
          refine hK.out _ _ (hHeld.trans (Fr.b0 b5) (fun _ h => h.elim)) (fun hHeld => ?_)
          clear hK K
          try simp only [Act.put, List.setIfInBounds_toArray, List.set_cons_zero, List.set_cons_succ]
          refine wpAnyH_take (i := 2) (oi := { dst := some 25, op := Op.unOp UnOp.not 4 (Operand.tmp 24), type := 4, pos := "reach.go:57", after := #[{ on := 1, ground := Ground.data }], guard := none }) (v := ?vq20) rfl (by kernel_rfl) (by kernel_rfl) (by kernel_rfl) (fun _ _ _ h => h) (Or.inl ⟨by rfl, ?hq20⟩) (by assumption) ?rq20
          case hq20 => intro W hSw; (try obtain ⟨a0, a1, a2, a3, t0, t1⟩ := HC.out W (F2.out.trans hSw (fun _ h => h.elim))); go_simp; (try with_reducible rfl)
          try simp only [Act.put, List.setIfInBounds_toArray, List.set_cons_zero, List.set_cons_succ]
          refine wpAnyH_take (i := 3) (oi := { dst := some 26, op := Op.move (Operand.tmp 25), type := 4, pos := "reach.go:57", after := #[{ on := 2, ground := Ground.data }, { on := 1, ground := Ground.chain }], guard := none }) (v := ?vq21) rfl (by kernel_rfl) (by kernel_rfl) (by kernel_rfl) (fun _ _ _ h => h) (Or.inl ⟨by rfl, ?hq21⟩) (by assumption) ?rq21
          case hq21 => intro W hSw; (try obtain ⟨a0, a1, a2, a3, t0, t1⟩ := HC.out W (F2.out.trans hSw (fun _ h => h.elim))); go_simp; (try with_reducible rfl)
          try simp only [Act.put, List.setIfInBounds_toArray, List.set_cons_zero, List.set_cons_succ]
          refine wpAnyH_take (i := 4) (oi := { dst := some 27, op := Op.fieldAddr 37 (Operand.tmp 3) 1, type := 0, pos := "reach.go:57", after := #[{ on := 3, ground := Ground.guard }], guard := some (3, false) }) (v := undef) rfl (by kernel_rfl) (by kernel_rfl) (by kernel_rfl) (fun _ _ _ h => h) (Or.inr ⟨by rfl, rfl⟩) (by assumption) ?_
          try simp only [Act.put, List.setIfInBounds_toArray, List.set_cons_zero, List.set_cons_succ]
          refine wpAnyH_take (i := 5) (oi := { dst := some 28, op := Op.load 3 (Operand.tmp 27), type := 3, pos := "reach.go:57", after := #[{ on := 4, ground := Ground.data }, { on := 3, ground := Ground.guard }], guard := some (3, false) }) (v := undef) rfl (by kernel_rfl) (by kernel_rfl) (by kernel_rfl) (fun _ _ _ h => h) (Or.inr ⟨by rfl, rfl⟩) (by assumption) ?_
          try simp only [Act.put, List.setIfInBounds_toArray, List.set_cons_zero, List.set_cons_succ]
          refine wpAnyH_take (i := 6) (oi := { dst := some 29, op := Op.load 58 (Operand.tmp 2), type := 58, pos := "reach.go:57", after := #[{ on := 3, ground := Ground.guard }], guard := some (3, false) }) (v := undef) rfl (by kernel_rfl) (by kernel_rfl) (by kernel_rfl) (fun _ _ _ h => h) (Or.inr ⟨by rfl, rfl⟩) (by assumption) ?_
          try simp only [Act.put, List.setIfInBounds_toArray, List.set_cons_zero, List.set_cons_succ]
          refine wpAnyH_take (i := 7) (oi := { dst := some 30, op := Op.call { callee := Callee.value (Operand.func 30), args := #[Operand.tmp 29, Operand.const (Value.int IntKind.i64 0)], argTypes := #[58, 3] }, type := 3, pos := "reach.go:57", after := #[{ on := 6, ground := Ground.data }, { on := 3, ground := Ground.chain }, { on := 3, ground := Ground.guard }], guard := some (3, false) }) (v := undef) rfl (by kernel_rfl) (by kernel_rfl) (by kernel_rfl) (fun _ _ _ h => h) (Or.inr ⟨by rfl, rfl⟩) (by assumption) ?_
          try simp only [Act.put, List.setIfInBounds_toArray, List.set_cons_zero, List.set_cons_succ]
          refine wpAnyH_take (i := 8) (oi := { dst := some 31, op := Op.binOp BinOp.lss 3 (Operand.tmp 28) (Operand.tmp 30) 3, type := 4, pos := "reach.go:57", after := #[{ on := 5, ground := Ground.data }, { on := 7, ground := Ground.data }, { on := 3, ground := Ground.guard }], guard := some (3, false) }) (v := undef) rfl (by kernel_rfl) (by kernel_rfl) (by kernel_rfl) (fun _ _ _ h => h) (Or.inr ⟨by rfl, rfl⟩) (by assumption) ?_
          try simp only [Act.put, List.setIfInBounds_toArray, List.set_cons_zero, List.set_cons_succ]
          refine wpAnyH_take (i := 9) (oi := { dst := some 32, op := Op.pick (Operand.tmp 26) (Operand.const (Value.bool true)) (Operand.tmp 31), type := 4, pos := "reach.go:57", after := #[{ on := 3, ground := Ground.data }, { on := 8, ground := Ground.data }], guard := none }) (v := ?vq22) rfl (by kernel_rfl) (by kernel_rfl) (by kernel_rfl) (fun _ _ _ h => h) (Or.inl ⟨by rfl, ?hq22⟩) (by assumption) ?rq22
          case hq22 => intro W hSw; (try obtain ⟨a0, a1, a2, a3, t0, t1⟩ := HC.out W (F2.out.trans hSw (fun _ h => h.elim))); go_simp; (try with_reducible rfl)
          try simp only [Act.put, List.setIfInBounds_toArray, List.set_cons_zero, List.set_cons_succ]
          refine wpAnyH_take (i := 10) (oi := { dst := some 22, op := Op.assign (Operand.tmp 32), type := 4, pos := "reach.go:57", after := #[{ on := 9, ground := Ground.data }, { on := 7, ground := Ground.chain }], guard := none }) (v := ?vq23) rfl (by kernel_rfl) (by kernel_rfl) (by kernel_rfl) (fun _ _ _ h => h) (Or.inl ⟨by rfl, ?hq23⟩) (by assumption) ?rq23
          case hq23 => intro W hSw; (try obtain ⟨a0, a1, a2, a3, t0, t1⟩ := HC.out W (F2.out.trans hSw (fun _ h => h.elim))); go_simp; (try with_reducible rfl)
          try simp only [Act.put, List.setIfInBounds_toArray, List.set_cons_zero, List.set_cons_succ]
          refine wpAnyH_done (by kernel_rfl) ?_ _
          go_wp2_with fail
          go_ret
          exact ⟨rfl, F02.out.trans ((hHeld.below (fun _ h => h.elim)).mono F02.out.size)⟩
    · rw [if_neg (by omega)]
      have h0d : decide (s.time < 0) = true := decide_eq_true (by omega)
      clear hv
      obtain ⟨a0, a1, a2, a3, t0, t1⟩ := HC.out W1 (Fr.refl _ _)
      go_enter Try.func26, Try.ntmps26
      go_wp2_with fail
      rw [← HW1.out]
      refine (HVd.out _ _ _ ((Blk.new' HSz.out _ _).cell 0)).mono ?_
      rintro r w2 ⟨rfl, rfl⟩
      clear a0 a1 a2 a3 t0 t1
      obtain ⟨a0, a1, a2, a3, t0, t1⟩ := HC.out _ (Fr.none_alloc W1 (.cells #[.string s.name] 9))
      have F2 : Hid (Fr (fun _ => False) W1 (W1.alloc (.cells #[.string s.name] 9))) := Fr.none_alloc _ _
      have F02 : Hid (Below w.heap.size w (W1.alloc (.cells #[.string s.name] 9))) := (FW.out.trans F2.out (fun _ h => h.elim)).below (fun _ h => h.elim)
      obtain ⟨W2, hW2⟩ : ∃ W2, W2 = W1.alloc (.cells #[.string s.name] 9) := ⟨_, rfl⟩
      rw [← hW2] at F2 F02 a0 a1 a2 a3 t0 t1 ⊢
      clear hW2
      go_wp2_with fail
      go_ret
      exact ⟨rfl, F02.out⟩
end Go.Proofs.Ytlhhcancfgjfkaa
