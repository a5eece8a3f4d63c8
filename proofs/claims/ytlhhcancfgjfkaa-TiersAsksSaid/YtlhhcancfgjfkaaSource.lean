/- Walk of plan.source. -/
import Derived.Test.YtlhhcancfgjfkaaFrom
namespace Go.Proofs.Ytlhhcancfgjfkaa
set_option linter.all false
open Go.RowKit

/-- plan.source, of the first k tiers. -/
def srcGo (now : Int) (l : List TierV) (fl : List Int) (every : Int) : Nat → Int
  | 0 => -1
  | k + 1 => match l[k]? with
    | some t => if dividesB t.every every && (decide (srcGo now l fl every k < 0) || decide (fromV now l fl k ≤ fromV now l fl (srcGo now l fl every k).toNat)) then (k : Int) else srcGo now l fl every k
    | none => srcGo now l fl every k
theorem srcGo_in (now : Int) (l : List TierV) (fl : List Int) (every : Int) (k : Nat) : -1 ≤ srcGo now l fl every k ∧ srcGo now l fl every k < k := by
  induction k with
  | zero => simp [srcGo]
  | succ k ih =>
    simp only [srcGo]
    split
    · split <;> omega
    · omega


set_option maxRecDepth 100000 in
set_option maxHeartbeats 1000000 in
theorem source_any (now : Int) (hnow : i64 now) (nm : ByteArray) (l : List TierV) (A : Option Addr) (n c : Nat) (fl : List Int) (B : Option Addr) (m d : Nat) (A2 : Option Addr) (c2 : Nat) (every : Int) (w : World)
    (hr : Rd w 4 A n (tcells l)) (hf : Rd w 1 B m (ints fl)) (hr2 : Rd w 4 A2 n (tcells l)) (hwf : ∀ t ∈ l, t.wf) (hn : n ≤ 1099511627776) :
    Calls Try.prog 61 #[reachV now nm A n c B m d, .slice A2 n c2, .int .i64 every] w fun r w' => r = .returned (.int .i64 (srcGo now l fl every n)) ∧ Below w.heap.size w w' := by
  have Hfrom : Hid (∀ (k : Nat) (w' : World), Fr (fun _ => False) w w' → k < n → Calls Try.prog 30 #[reachV now nm A n c B m d, .int .i64 k] w' fun r w'' => r = .returned (.int .i64 (fromV now l fl k)) ∧ Below w'.heap.size w' w'') :=
    fun k w' h hk => rfrom_any now hnow nm l A n c fl B m d k w' (hr.fr0 h) (hf.fr0 h) hwf hk hn
  have O := Lib.hid ((Own.start w).skip (Fr.none_alloc w (.cells #[.int .i64 now, .string nm, .slice A n c, .slice B m d] 58)))
  have B0 := Lib.hid (Blk.new w 58 #[.int .i64 now, .string nm, .slice A n c, .slice B m d])
  have Hr2 := Lib.hid hr2
  have Hlen := Lib.hid hr.tiers_len
  clear hr hf hr2 hwf hnow
  unfold reachV at Hfrom ⊢
  go_enter Try.func61, Try.ntmps61
  go_wp2_with fail
  go_loopw [7, 12] (fun o i wr => ∃ (k : Nat) (out : Int), k ≤ n ∧ i = .int .i64 k ∧ o = .int .i64 out ∧ Hid (out = srcGo now l fl every k) ∧ Blk wr w.heap.size 58 #[.int .i64 now, .string nm, .slice A n c, .slice B m d] ∧ Own w wr (fun _ => False)) (fun _ i _ => n - (intOf i).toNat)
  case atStart => exact ⟨0, -1, Nat.zero_le _, rfl, rfl, rfl, B0.out, O.out⟩
  case round =>
    obtain ⟨k, out, hk, rfl, rfl, hout, hb, ho⟩ := hrel
    by_cases hlt : k < n
    · obtain ⟨ad, x, rfl, hu, d0, d1, d2, d3⟩ := (Hr2.out.below ho.bel).tier hlt
      have Hu := Lib.hid hu
      have Ho := Lib.hid ho
      have Hb := Lib.hid hb
      clear hu ho hb
      go_wp2
      obtain ⟨W1, hW1⟩ : ∃ W1, W1 = wr.alloc (.cells #[.string x.name, .int .i64 x.every, .int .i64 x.keep, .int .i64 x.shards] 30) := ⟨_, rfl⟩
      rw [← hW1]
      have hbx : Blk W1 wr.heap.size 30 #[.string x.name, .int .i64 x.every, .int .i64 x.keep, .int .i64 x.shards] := hW1 ▸ Blk.new _ _ _
      have hb1 : Blk W1 w.heap.size 58 #[.int .i64 now, .string nm, .slice A n c, .slice B m d] := hW1 ▸ Hb.out.alloc _
      have ho1 : Own w W1 (fun _ => False) := hW1 ▸ Ho.out.skip (Fr.none_alloc _ _)
      have e1 := hbx.cell 1
      have c0 := hb1.cell 0
      have c1 := hb1.cell 1
      have c2 := hb1.cell 2
      have c3 := hb1.cell 3
      simp only [List.getElem?_toArray, List.getElem?_cons_succ, List.getElem?_cons_zero] at c0 c1 c2 c3 e1
      have HS : Hid (∀ w', Fr (fun _ => False) W1 w' → w'.cell? ⟨wr.heap.size, 1, none⟩ = some (.int .i64 x.every) ∧ w'.cell? ⟨w.heap.size, 0, none⟩ = some (.int .i64 now) ∧ w'.cell? ⟨w.heap.size, 1, none⟩ = some (.string nm) ∧ w'.cell? ⟨w.heap.size, 2, none⟩ = some (.slice A n c) ∧ w'.cell? ⟨w.heap.size, 3, none⟩ = some (.slice B m d) ∧ Fr (fun _ => False) W1 w') :=
        fun w' h => ⟨h.cell e1 (fun h => h), h.cell c0 (fun h => h), h.cell c1 (fun h => h), h.cell c2 (fun h => h), h.cell c3 (fun h => h), h⟩
      have HF : Hid (∀ (j : Nat) (w' : World), j < n → (w'.cell? ⟨wr.heap.size, 1, none⟩ = some (.int .i64 x.every) ∧ w'.cell? ⟨w.heap.size, 0, none⟩ = some (.int .i64 now) ∧ w'.cell? ⟨w.heap.size, 1, none⟩ = some (.string nm) ∧ w'.cell? ⟨w.heap.size, 2, none⟩ = some (.slice A n c) ∧ w'.cell? ⟨w.heap.size, 3, none⟩ = some (.slice B m d) ∧ Fr (fun _ => False) W1 w') →
          Calls Try.prog 30 #[.agg #[.int .i64 now, .string nm, .slice A n c, .slice B m d], .int .i64 j] w' fun r w'' => r = .returned (.int .i64 (fromV now l fl j)) ∧ (w''.cell? ⟨wr.heap.size, 1, none⟩ = some (.int .i64 x.every) ∧ w''.cell? ⟨w.heap.size, 0, none⟩ = some (.int .i64 now) ∧ w''.cell? ⟨w.heap.size, 1, none⟩ = some (.string nm) ∧ w''.cell? ⟨w.heap.size, 2, none⟩ = some (.slice A n c) ∧ w''.cell? ⟨w.heap.size, 3, none⟩ = some (.slice B m d) ∧ Fr (fun _ => False) W1 w'')) :=
        fun j w' hj h => (Hfrom.out j w' ((Fr.b0 ho1.bel).trans h.2.2.2.2.2 (fun _ h => h.elim)) hj).mono fun r w'' ⟨h1, h2⟩ => ⟨h1, HS.out w'' (h.2.2.2.2.2.trans (Fr.b0 h2) (fun _ h => h.elim))⟩
      have S0 := Lib.hid (HS.out W1.drew ((Fr.refl _ W1).drew))
      have Ho1 := Lib.hid ho1
      have Hb1 := Lib.hid hb1
      have hin := srcGo_in now l fl every k
      rw [← hout.out] at hin
      obtain ⟨i1, i2⟩ := hin
      clear hW1 hbx hb1 ho1 d0 d1 d2 d3
      cases hd : dividesB x.every every
      · have HE := Lib.hid (show srcGo now l fl every (k + 1) = out by simp only [srcGo, Hu.out, hd, Bool.false_and, Bool.false_eq_true, if_false]; exact hout.out.symm)
        have HD : Hid (∀ w', Calls Try.prog 88 #[.int .i64 x.every, .int .i64 every] w' fun r w'' => r = .returned (.bool false) ∧ w' = w'') := fun w' => by have h := divides_any x.every every w'; rw [hd] at h; exact h
        clear hd S0 HF HS
        go_quiet ((first | (go_at_call 88; exact quiet_left (HD.out _))))
        have hO := Lib.hid (Ho1.out.skip (Fr.none_drewN W1 nq))
        have hB := Lib.hid (Hb1.out.drewN nq)
        clear c0 c1 c2 c3 e1
        go_wp2
        go_roundw
        case rel => exact ⟨k + 1, out, by omega, by go_num, rfl, HE.out.symm, hB.out, hO.out⟩
        case measure => simp [intOf]; omega
      · have HD : Hid (∀ w', Calls Try.prog 88 #[.int .i64 x.every, .int .i64 every] w' fun r w'' => r = .returned (.bool true) ∧ w' = w'') := fun w' => by have h := divides_any x.every every w'; rw [hd] at h; exact h
        have Hd := Lib.hid hd
        clear hd
        by_cases hneg : out < 0
        · clear S0 HF HS
          go_quiet ((first | (go_at_call 88; exact quiet_left (HD.out _))))
          have hO := Lib.hid (Ho1.out.skip (Fr.none_drewN W1 nq))
          have hB := Lib.hid (Hb1.out.drewN nq)
          have HE := Lib.hid (show srcGo now l fl every (k + 1) = (k : Int) by simp only [srcGo, Hu.out, Hd.out, ← hout.out, decide_eq_true hneg, Bool.true_or, Bool.true_and, if_true])
          clear c0 c1 c2 c3 e1
          go_wp2
          go_roundw
          case rel => exact ⟨k + 1, k, by omega, by go_num, rfl, HE.out.symm, hB.out, hO.out⟩
          case measure => simp [intOf]; omega
        · obtain ⟨o, rfl⟩ := Int.eq_ofNat_of_zero_le (show 0 ≤ out by omega)
          have hon : o < n := by omega
          clear c0 c1 c2 c3 e1
          go_region_held3 (fun w' => w'.cell? ⟨wr.heap.size, 1, none⟩ = some (.int .i64 x.every) ∧ w'.cell? ⟨w.heap.size, 0, none⟩ = some (.int .i64 now) ∧ w'.cell? ⟨w.heap.size, 1, none⟩ = some (.string nm) ∧ w'.cell? ⟨w.heap.size, 2, none⟩ = some (.slice A n c) ∧ w'.cell? ⟨w.heap.size, 3, none⟩ = some (.slice B m d) ∧ Fr (fun _ => False) W1 w') (first | exact S0.out | assumption) (first | (go_at_call 88; refine (HD.out _).mono ?_; rintro r w5 ⟨rfl, rfl⟩) | (go_at_call_of 30 (Value.int IntKind.i64 (k : Int)); refine (HF.out k _ hlt (by first | exact S0.out | assumption)).mono ?_; rintro r w5 ⟨rfl, hS5⟩) | (go_at_call 30; refine (HF.out o _ hon (by first | exact S0.out | assumption)).mono ?_; rintro r w5 ⟨rfl, hS5⟩))
          have hO := Lib.hid (Ho1.out.skip hS5.2.2.2.2.2)
          have hB := Lib.hid (Hb1.out.fr hS5.2.2.2.2.2 (fun h => h))
          have hng : decide ((o : Int) < 0) = false := decide_eq_false (by omega)
          have HE := Lib.hid (show srcGo now l fl every (k + 1) = if fromV now l fl k ≤ fromV now l fl o then (k : Int) else (o : Int) by
            simp only [srcGo, Hu.out, Hd.out, ← hout.out, hng, Bool.false_or, Bool.true_and, Int.toNat_natCast, decide_eq_true_eq])
          by_cases hle : fromV now l fl k ≤ fromV now l fl o
          · rw [if_pos hle] at HE
            go_wp2
            go_roundw
            case rel => exact ⟨k + 1, k, by omega, by go_num, rfl, HE.out.symm, hB.out, hO.out⟩
            case measure => simp [intOf]; omega
          · rw [if_neg hle] at HE
            go_wp2
            go_roundw
            case rel => exact ⟨k + 1, o, by omega, by go_num, rfl, HE.out.symm, hB.out, hO.out⟩
            case measure => simp [intOf]; omega
    · obtain rfl : k = n := by omega
      have Ho := Lib.hid ho
      clear hb ho
      go_wp2
      go_ret
      exact ⟨by rw [← hout.out]; rfl, Ho.out.bel⟩
end Go.Proofs.Ytlhhcancfgjfkaa
