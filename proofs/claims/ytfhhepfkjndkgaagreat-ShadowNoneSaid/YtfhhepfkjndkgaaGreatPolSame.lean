/- slices.Equal at records, tiers, ints: walks. -/
import Derived.Test.YtfhhepfkjndkgaaGreatSameTI
import Derived.Test.YtfhhepfkjndkgaaGreatTiersAsk
import Derived.Test.YtfhhepfkjndkgaaGreatTk
namespace Go.Proofs.YtfhhepfkjndkgaaGreat
set_option linter.all false
open Go.RowKit

theorem eqtier_inS (d : Nat) (x y : TierV) (w : World) : (Op.equalIn (d + 2) 123 x.val y.val).run Tryz.prog w = .ok (tierEq x y) w := by
  have hu : Tryz.prog.underlying 123 = some (.struct (Tryz.prog.fieldsOf 123)) := by kernel_rfl
  have hp : Tryz.prog.stoodInHeld 123 = false := by kernel_rfl
  have hf : (Tryz.prog.fieldsOf 123).toList = [⟨"Name", 9, 0, false, "", "", 0⟩, ⟨"Every", 3, 1, false, "", "", 16⟩, ⟨"Keep", 3, 2, false, "", "", 24⟩, ⟨"Shards", 3, 3, false, "", "", 32⟩] := by kernel_rfl
  unfold TierV.val tierEq
  rw [run_equalIn_struct (P := Tryz.prog) w (d + 1) _ _ _ hu hp, hf]
  simp [Op.eqFields, part, eqs_string d, eqs_int d]
  by_cases h1 : x.name.toList = y.name.toList <;> by_cases h2 : x.every = y.every <;> by_cases h3 : x.keep = y.keep <;> by_cases h4 : x.shards = y.shards <;> simp [h1, h2, h3, h4]
theorem tierNeS_true {x y : TierV} (h : x = y) (w : World) : (binOp .neq 123 x.val y.val).run Tryz.prog w = .ok (.bool false) w := by
  have h2 := eqtier_inS 9998 x y w
  unfold TierV.val at h2 ⊢
  rw [run_neq_struct, h2, (tierEq_iff x y).2 h]
  rfl
theorem tierNeS_false {x y : TierV} (h : x ≠ y) (w : World) : (binOp .neq 123 x.val y.val).run Tryz.prog w = .ok (.bool true) w := by
  have h2 := eqtier_inS 9998 x y w
  unfold TierV.val at h2 ⊢
  rw [run_neq_struct, h2]
  cases hb : tierEq x y
  · rfl
  · exact absurd ((tierEq_iff x y).1 hb) h
theorem eqrec_inS (x y : RecV) (w : World) : (Op.equalIn 10000 30 x.val y.val).run Tryz.prog w = .ok (recEq x y) w := by
  have hu : Tryz.prog.underlying 30 = some (.struct (Tryz.prog.fieldsOf 30)) := by kernel_rfl
  have hp : Tryz.prog.stoodInHeld 30 = false := by kernel_rfl
  have hf : (Tryz.prog.fieldsOf 30).toList = [⟨"Name", 9, 0, false, "", "", 0⟩, ⟨"Start", 3, 1, false, "", "", 16⟩, ⟨"Agg", 28, 2, false, "", "", 24⟩] := by kernel_rfl
  have hA := run_eqagg 9997 x.agg y.agg
  unfold AggV.val at hA
  unfold RecV.val recEq
  rw [run_equalIn_struct (P := Tryz.prog) w 9999 _ _ _ hu hp, hf]
  simp [Op.eqFields, hA, eqs_string 9998, eqs_int 9998, part]
  by_cases h1 : x.name.toList = y.name.toList <;> by_cases h2 : x.start = y.start <;> cases aggEq x.agg y.agg <;> simp [h1, h2]
theorem recNeS_true {x y : RecV} (h : x = y) (w : World) : (binOp .neq 30 x.val y.val).run Tryz.prog w = .ok (.bool false) w := by
  have h2 := eqrec_inS x y w
  unfold RecV.val at h2 ⊢
  rw [run_neq_struct, h2, (recEq_iff x y).2 h]
  rfl
theorem recNeS_false {x y : RecV} (h : x ≠ y) (w : World) : (binOp .neq 30 x.val y.val).run Tryz.prog w = .ok (.bool true) w := by
  have h2 := eqrec_inS x y w
  unfold RecV.val at h2 ⊢
  rw [run_neq_struct, h2]
  cases hb : recEq x y
  · rfl
  · exact absurd ((recEq_iff x y).1 hb) h
set_option maxRecDepth 100000 in
set_option maxHeartbeats 4000000 in
theorem eqrecs_any (la lb : List RecV) (A : Option Addr) (n c : Nat) (B : Option Addr) (m d : Nat) (w : World) (ha : Rd w 7 A n (rcells la)) (hb : Rd w 7 B m (rcells lb)) (hn : n ≤ 1099511627776) (hm : m ≤ 1099511627776) :
    Calls Tryz.prog 90 #[.slice A n c, .slice B m d] w fun r w' => r = .returned (.bool (decide (la = lb))) ∧ Below w.heap.size w w' := by
  have Ha := Lib.hid ha
  have Hb := Lib.hid hb
  have hla := Lib.hid ha.recs_len
  have hlb := Lib.hid hb.recs_len
  clear ha hb
  by_cases hnm : n = m
  · subst hnm
    go_enter Tryz.func90, Tryz.ntmps90
    go_wp2_with fail
    go_loopw [13] (fun i wr => ∃ k : Nat, k ≤ n ∧ i = .int .i64 k ∧ Hid (la.take k = lb.take k) ∧ Fr (fun _ => False) w wr) (fun i _ => n - (intOf i).toNat)
    case atStart => exact ⟨0, Nat.zero_le _, rfl, rfl, Fr.refl _ _⟩
    case round =>
      obtain ⟨k, hk, rfl, htk, ho⟩ := hrel
      have Ho := Lib.hid ho
      clear ho
      by_cases hlt : k < n
      · obtain ⟨ad, x, rfl, hx, a0, a1, a2, a3, a4, a5, a6⟩ := (Ha.out.fr0 Ho.out).rec_ hlt
        obtain ⟨bd, y, rfl, hy, b0, b1, b2, b3, b4, b5, b6⟩ := (Hb.out.fr0 Ho.out).rec_ hlt
        have kn : 0 ≤ (k : Int) ∧ (k : Int) < (n : Int) := by omega
        have Hx := Lib.hid hx
        have Hy := Lib.hid hy
        have HC : Hid (∀ W, Fr (fun _ => False) wr W → W.cell? (ad.add (k * 7)) = some (.string x.name) ∧ W.cell? (⟨(ad.add (k * 7)).block, (ad.add (k * 7)).off + 1, none⟩) = some (.int .i64 x.start) ∧ W.cell? (⟨(ad.add (k * 7)).block, (ad.add (k * 7)).off + 2, none⟩) = some (.int .i64 x.agg.count) ∧ W.cell? (⟨(ad.add (k * 7)).block, (ad.add (k * 7)).off + 3, none⟩) = some (.int .i64 x.agg.hi) ∧ W.cell? (⟨(ad.add (k * 7)).block, (ad.add (k * 7)).off + 4, none⟩) = some (.int .u64 x.agg.lo) ∧ W.cell? (⟨(ad.add (k * 7)).block, (ad.add (k * 7)).off + 5, none⟩) = some (.int .i64 x.agg.min) ∧ W.cell? (⟨(ad.add (k * 7)).block, (ad.add (k * 7)).off + 6, none⟩) = some (.int .i64 x.agg.max) ∧ W.cell? (bd.add (k * 7)) = some (.string y.name) ∧ W.cell? (⟨(bd.add (k * 7)).block, (bd.add (k * 7)).off + 1, none⟩) = some (.int .i64 y.start) ∧ W.cell? (⟨(bd.add (k * 7)).block, (bd.add (k * 7)).off + 2, none⟩) = some (.int .i64 y.agg.count) ∧ W.cell? (⟨(bd.add (k * 7)).block, (bd.add (k * 7)).off + 3, none⟩) = some (.int .i64 y.agg.hi) ∧ W.cell? (⟨(bd.add (k * 7)).block, (bd.add (k * 7)).off + 4, none⟩) = some (.int .u64 y.agg.lo) ∧ W.cell? (⟨(bd.add (k * 7)).block, (bd.add (k * 7)).off + 5, none⟩) = some (.int .i64 y.agg.min) ∧ W.cell? (⟨(bd.add (k * 7)).block, (bd.add (k * 7)).off + 6, none⟩) = some (.int .i64 y.agg.max)) := fun W f => ⟨f.cell a0 (fun h => h), f.cell a1 (fun h => h), f.cell a2 (fun h => h), f.cell a3 (fun h => h), f.cell a4 (fun h => h), f.cell a5 (fun h => h), f.cell a6 (fun h => h), f.cell b0 (fun h => h), f.cell b1 (fun h => h), f.cell b2 (fun h => h), f.cell b3 (fun h => h), f.cell b4 (fun h => h), f.cell b5 (fun h => h), f.cell b6 (fun h => h)⟩
        by_cases heq : x = y
        · have htk2 : Hid (la.take (k + 1) = lb.take (k + 1)) := by show _ = _; rw [take_snoc Hx.out, take_snoc Hy.out, htk.out, heq]
          have q := recNeS_true heq
          unfold RecV.val at q
          clear hx hy a0 a1 a2 a3 a4 a5 a6 b0 b1 b2 b3 b4 b5 b6
          go_wp2_with fail
          refine wp_region_held_drew (S := fun W => Fr (fun _ => False) wr W) (by kernel_rfl) ((Fr.refl _ wr).drew) (fun hHeld => ?_)
          refine tk 0 ⟨some 16, .move (.tmp 0), 60, _, _, none⟩ ?vq1 rfl (by kernel_rfl) (.inl ⟨by rfl, ?hq1⟩) ?rq1
          case hq1 => intro W hSw; go_simp; (try with_reducible rfl)
          try simp only [Act.put, List.setIfInBounds_toArray, List.set_cons_zero, List.set_cons_succ]
          refine tk 1 ⟨some 17, .move (.tmp 5), 3, _, _, none⟩ ?vq2 rfl (by kernel_rfl) (.inl ⟨by rfl, ?hq2⟩) ?rq2
          case hq2 => intro W hSw; go_simp; (try with_reducible rfl)
          try simp only [Act.put, List.setIfInBounds_toArray, List.set_cons_zero, List.set_cons_succ]
          refine tk 2 ⟨some 18, .indexAddr 60 (.tmp 16) (.tmp 17), 0, _, _, none⟩ ?vq3 rfl (by kernel_rfl) (.inl ⟨by rfl, ?hq3⟩) ?rq3
          case hq3 => intro W hSw; (try obtain ⟨a0, a1, a2, a3, a4, a5, a6, b0, b1, b2, b3, b4, b5, b6⟩ := HC.out W hSw); go_simp; (try with_reducible rfl)
          try simp only [Act.put, List.setIfInBounds_toArray, List.set_cons_zero, List.set_cons_succ]
          refine tk 3 ⟨some 19, .load 30 (.tmp 18), 30, _, _, none⟩ ?vq4 rfl (by kernel_rfl) (.inl ⟨by rfl, ?hq4⟩) ?rq4
          case hq4 => intro W hSw; (try obtain ⟨a0, a1, a2, a3, a4, a5, a6, b0, b1, b2, b3, b4, b5, b6⟩ := HC.out W hSw); go_simp; (try with_reducible rfl)
          try simp only [Act.put, List.setIfInBounds_toArray, List.set_cons_zero, List.set_cons_succ]
          refine tk 4 ⟨some 20, .move (.tmp 1), 60, _, _, none⟩ ?vq5 rfl (by kernel_rfl) (.inl ⟨by rfl, ?hq5⟩) ?rq5
          case hq5 => intro W hSw; go_simp; (try with_reducible rfl)
          try simp only [Act.put, List.setIfInBounds_toArray, List.set_cons_zero, List.set_cons_succ]
          refine tk 5 ⟨some 21, .move (.tmp 5), 3, _, _, none⟩ ?vq6 rfl (by kernel_rfl) (.inl ⟨by rfl, ?hq6⟩) ?rq6
          case hq6 => intro W hSw; go_simp; (try with_reducible rfl)
          try simp only [Act.put, List.setIfInBounds_toArray, List.set_cons_zero, List.set_cons_succ]
          refine tk 6 ⟨some 22, .indexAddr 60 (.tmp 20) (.tmp 21), 0, _, _, none⟩ ?vq7 rfl (by kernel_rfl) (.inl ⟨by rfl, ?hq7⟩) ?rq7
          case hq7 => intro W hSw; (try obtain ⟨a0, a1, a2, a3, a4, a5, a6, b0, b1, b2, b3, b4, b5, b6⟩ := HC.out W hSw); go_simp; (try with_reducible rfl)
          try simp only [Act.put, List.setIfInBounds_toArray, List.set_cons_zero, List.set_cons_succ]
          refine tk 7 ⟨some 23, .load 30 (.tmp 22), 30, _, _, none⟩ ?vq8 rfl (by kernel_rfl) (.inl ⟨by rfl, ?hq8⟩) ?rq8
          case hq8 => intro W hSw; (try obtain ⟨a0, a1, a2, a3, a4, a5, a6, b0, b1, b2, b3, b4, b5, b6⟩ := HC.out W hSw); go_simp; (try with_reducible rfl)
          try simp only [Act.put, List.setIfInBounds_toArray, List.set_cons_zero, List.set_cons_succ]
          refine tk 8 ⟨some 24, .binOp .neq 30 (.tmp 19) (.tmp 23) 30, 4, _, _, none⟩ ?vq9 rfl (by kernel_rfl) (.inl ⟨by rfl, ?hq9⟩) ?rq9
          case hq9 => intro W hSw; (try obtain ⟨a0, a1, a2, a3, a4, a5, a6, b0, b1, b2, b3, b4, b5, b6⟩ := HC.out W hSw); go_simp; (try with_reducible rfl)
          try simp only [Act.put, List.setIfInBounds_toArray, List.set_cons_zero, List.set_cons_succ]
          refine wpAnyH_done (by kernel_rfl) ?_ _
          go_wp2_with fail
          go_roundw
          case rel => exact ⟨k + 1, by omega, by go_num, htk2.out, Ho.out.trans hHeld (fun _ h => h.elim)⟩
          case measure => simp [intOf]; omega
        · have hne : Hid (decide (la = lb) = false) := by
            refine decide_eq_false fun h => ?_
            have h1 := Hx.out
            have h2 := Hy.out
            rw [h] at h1
            rw [h1] at h2
            exact heq (Option.some.inj h2)
          have q := recNeS_false heq
          unfold RecV.val at q
          clear hx hy a0 a1 a2 a3 a4 a5 a6 b0 b1 b2 b3 b4 b5 b6
          go_wp2_with fail
          refine wp_region_held_drew (S := fun W => Fr (fun _ => False) wr W) (by kernel_rfl) ((Fr.refl _ wr).drew) (fun hHeld => ?_)
          refine tk 0 ⟨some 16, .move (.tmp 0), 60, _, _, none⟩ ?vq10 rfl (by kernel_rfl) (.inl ⟨by rfl, ?hq10⟩) ?rq10
          case hq10 => intro W hSw; go_simp; (try with_reducible rfl)
          try simp only [Act.put, List.setIfInBounds_toArray, List.set_cons_zero, List.set_cons_succ]
          refine tk 1 ⟨some 17, .move (.tmp 5), 3, _, _, none⟩ ?vq11 rfl (by kernel_rfl) (.inl ⟨by rfl, ?hq11⟩) ?rq11
          case hq11 => intro W hSw; go_simp; (try with_reducible rfl)
          try simp only [Act.put, List.setIfInBounds_toArray, List.set_cons_zero, List.set_cons_succ]
          refine tk 2 ⟨some 18, .indexAddr 60 (.tmp 16) (.tmp 17), 0, _, _, none⟩ ?vq12 rfl (by kernel_rfl) (.inl ⟨by rfl, ?hq12⟩) ?rq12
          case hq12 => intro W hSw; (try obtain ⟨a0, a1, a2, a3, a4, a5, a6, b0, b1, b2, b3, b4, b5, b6⟩ := HC.out W hSw); go_simp; (try with_reducible rfl)
          try simp only [Act.put, List.setIfInBounds_toArray, List.set_cons_zero, List.set_cons_succ]
          refine tk 3 ⟨some 19, .load 30 (.tmp 18), 30, _, _, none⟩ ?vq13 rfl (by kernel_rfl) (.inl ⟨by rfl, ?hq13⟩) ?rq13
          case hq13 => intro W hSw; (try obtain ⟨a0, a1, a2, a3, a4, a5, a6, b0, b1, b2, b3, b4, b5, b6⟩ := HC.out W hSw); go_simp; (try with_reducible rfl)
          try simp only [Act.put, List.setIfInBounds_toArray, List.set_cons_zero, List.set_cons_succ]
          refine tk 4 ⟨some 20, .move (.tmp 1), 60, _, _, none⟩ ?vq14 rfl (by kernel_rfl) (.inl ⟨by rfl, ?hq14⟩) ?rq14
          case hq14 => intro W hSw; go_simp; (try with_reducible rfl)
          try simp only [Act.put, List.setIfInBounds_toArray, List.set_cons_zero, List.set_cons_succ]
          refine tk 5 ⟨some 21, .move (.tmp 5), 3, _, _, none⟩ ?vq15 rfl (by kernel_rfl) (.inl ⟨by rfl, ?hq15⟩) ?rq15
          case hq15 => intro W hSw; go_simp; (try with_reducible rfl)
          try simp only [Act.put, List.setIfInBounds_toArray, List.set_cons_zero, List.set_cons_succ]
          refine tk 6 ⟨some 22, .indexAddr 60 (.tmp 20) (.tmp 21), 0, _, _, none⟩ ?vq16 rfl (by kernel_rfl) (.inl ⟨by rfl, ?hq16⟩) ?rq16
          case hq16 => intro W hSw; (try obtain ⟨a0, a1, a2, a3, a4, a5, a6, b0, b1, b2, b3, b4, b5, b6⟩ := HC.out W hSw); go_simp; (try with_reducible rfl)
          try simp only [Act.put, List.setIfInBounds_toArray, List.set_cons_zero, List.set_cons_succ]
          refine tk 7 ⟨some 23, .load 30 (.tmp 22), 30, _, _, none⟩ ?vq17 rfl (by kernel_rfl) (.inl ⟨by rfl, ?hq17⟩) ?rq17
          case hq17 => intro W hSw; (try obtain ⟨a0, a1, a2, a3, a4, a5, a6, b0, b1, b2, b3, b4, b5, b6⟩ := HC.out W hSw); go_simp; (try with_reducible rfl)
          try simp only [Act.put, List.setIfInBounds_toArray, List.set_cons_zero, List.set_cons_succ]
          refine tk 8 ⟨some 24, .binOp .neq 30 (.tmp 19) (.tmp 23) 30, 4, _, _, none⟩ ?vq18 rfl (by kernel_rfl) (.inl ⟨by rfl, ?hq18⟩) ?rq18
          case hq18 => intro W hSw; (try obtain ⟨a0, a1, a2, a3, a4, a5, a6, b0, b1, b2, b3, b4, b5, b6⟩ := HC.out W hSw); go_simp; (try with_reducible rfl)
          try simp only [Act.put, List.setIfInBounds_toArray, List.set_cons_zero, List.set_cons_succ]
          refine wpAnyH_done (by kernel_rfl) ?_ _
          go_wp2_with fail
          go_ret
          exact ⟨by rw [hne.out]; rfl, (Ho.out.trans hHeld (fun _ h => h.elim)).below (fun _ h => h.elim)⟩
      · obtain rfl : k = n := by omega
        have hE : Hid (decide (la = lb) = true) := by
          refine decide_eq_true ?_
          have h := htk.out
          rwa [take_all (by rw [hla.out]; exact Nat.le_refl _), take_all (by rw [hlb.out]; exact Nat.le_refl _)] at h
        go_wp2_with fail
        go_ret
        exact ⟨by rw [hE.out]; rfl, Ho.out.below (fun _ h => h.elim)⟩
  · have hne : Hid (decide (la = lb) = false) := by
      refine decide_eq_false fun h => hnm ?_
      have h1 := hla.out
      have h2 := hlb.out
      rw [h] at h1
      omega
    have hnm2 : ((n : Int) != (m : Int)) = true := by simpa using (show (n : Int) ≠ (m : Int) by omega)
    have hnm3 : ((n : Int) == (m : Int)) = false := by simpa using (show (n : Int) ≠ (m : Int) by omega)
    go_enter Tryz.func90, Tryz.ntmps90
    go_wp2_with fail
    go_ret
    exact ⟨by rw [hne.out]; rfl, Below.refl _ _⟩
set_option maxRecDepth 100000 in
set_option maxHeartbeats 4000000 in
theorem eqtiers_any (la lb : List TierV) (A : Option Addr) (n c : Nat) (B : Option Addr) (m d : Nat) (w : World) (ha : Rd w 4 A n (tcells la)) (hb : Rd w 4 B m (tcells lb)) (hn : n ≤ 1099511627776) (hm : m ≤ 1099511627776) :
    Calls Tryz.prog 178 #[.slice A n c, .slice B m d] w fun r w' => r = .returned (.bool (decide (la = lb))) ∧ Below w.heap.size w w' := by
  have Ha := Lib.hid ha
  have Hb := Lib.hid hb
  have hla := Lib.hid ha.tiers_len
  have hlb := Lib.hid hb.tiers_len
  clear ha hb
  by_cases hnm : n = m
  · subst hnm
    go_enter Tryz.func178, Tryz.ntmps178
    go_wp2_with fail
    go_loopw [13] (fun i wr => ∃ k : Nat, k ≤ n ∧ i = .int .i64 k ∧ Hid (la.take k = lb.take k) ∧ Fr (fun _ => False) w wr) (fun i _ => n - (intOf i).toNat)
    case atStart => exact ⟨0, Nat.zero_le _, rfl, rfl, Fr.refl _ _⟩
    case round =>
      obtain ⟨k, hk, rfl, htk, ho⟩ := hrel
      have Ho := Lib.hid ho
      clear ho
      by_cases hlt : k < n
      · obtain ⟨ad, x, rfl, hx, a0, a1, a2, a3⟩ := (Ha.out.fr0 Ho.out).tier hlt
        obtain ⟨bd, y, rfl, hy, b0, b1, b2, b3⟩ := (Hb.out.fr0 Ho.out).tier hlt
        have kn : 0 ≤ (k : Int) ∧ (k : Int) < (n : Int) := by omega
        have Hx := Lib.hid hx
        have Hy := Lib.hid hy
        have HC : Hid (∀ W, Fr (fun _ => False) wr W → W.cell? (ad.add (k * 4)) = some (.string x.name) ∧ W.cell? (⟨(ad.add (k * 4)).block, (ad.add (k * 4)).off + 1, none⟩) = some (.int .i64 x.every) ∧ W.cell? (⟨(ad.add (k * 4)).block, (ad.add (k * 4)).off + 2, none⟩) = some (.int .i64 x.keep) ∧ W.cell? (⟨(ad.add (k * 4)).block, (ad.add (k * 4)).off + 3, none⟩) = some (.int .i64 x.shards) ∧ W.cell? (bd.add (k * 4)) = some (.string y.name) ∧ W.cell? (⟨(bd.add (k * 4)).block, (bd.add (k * 4)).off + 1, none⟩) = some (.int .i64 y.every) ∧ W.cell? (⟨(bd.add (k * 4)).block, (bd.add (k * 4)).off + 2, none⟩) = some (.int .i64 y.keep) ∧ W.cell? (⟨(bd.add (k * 4)).block, (bd.add (k * 4)).off + 3, none⟩) = some (.int .i64 y.shards)) := fun W f => ⟨f.cell a0 (fun h => h), f.cell a1 (fun h => h), f.cell a2 (fun h => h), f.cell a3 (fun h => h), f.cell b0 (fun h => h), f.cell b1 (fun h => h), f.cell b2 (fun h => h), f.cell b3 (fun h => h)⟩
        by_cases heq : x = y
        · have htk2 : Hid (la.take (k + 1) = lb.take (k + 1)) := by show _ = _; rw [take_snoc Hx.out, take_snoc Hy.out, htk.out, heq]
          have q := tierNeS_true heq
          unfold TierV.val at q
          clear hx hy a0 a1 a2 a3 b0 b1 b2 b3
          go_wp2_with fail
          refine wp_region_held_drew (S := fun W => Fr (fun _ => False) wr W) (by kernel_rfl) ((Fr.refl _ wr).drew) (fun hHeld => ?_)
          refine tk 0 ⟨some 16, .move (.tmp 0), 22, _, _, none⟩ ?vq19 rfl (by kernel_rfl) (.inl ⟨by rfl, ?hq19⟩) ?rq19
          case hq19 => intro W hSw; go_simp; (try with_reducible rfl)
          try simp only [Act.put, List.setIfInBounds_toArray, List.set_cons_zero, List.set_cons_succ]
          refine tk 1 ⟨some 17, .move (.tmp 5), 3, _, _, none⟩ ?vq20 rfl (by kernel_rfl) (.inl ⟨by rfl, ?hq20⟩) ?rq20
          case hq20 => intro W hSw; go_simp; (try with_reducible rfl)
          try simp only [Act.put, List.setIfInBounds_toArray, List.set_cons_zero, List.set_cons_succ]
          refine tk 2 ⟨some 18, .indexAddr 22 (.tmp 16) (.tmp 17), 0, _, _, none⟩ ?vq21 rfl (by kernel_rfl) (.inl ⟨by rfl, ?hq21⟩) ?rq21
          case hq21 => intro W hSw; (try obtain ⟨a0, a1, a2, a3, b0, b1, b2, b3⟩ := HC.out W hSw); go_simp; (try with_reducible rfl)
          try simp only [Act.put, List.setIfInBounds_toArray, List.set_cons_zero, List.set_cons_succ]
          refine tk 3 ⟨some 19, .load 123 (.tmp 18), 123, _, _, none⟩ ?vq22 rfl (by kernel_rfl) (.inl ⟨by rfl, ?hq22⟩) ?rq22
          case hq22 => intro W hSw; (try obtain ⟨a0, a1, a2, a3, b0, b1, b2, b3⟩ := HC.out W hSw); go_simp; (try with_reducible rfl)
          try simp only [Act.put, List.setIfInBounds_toArray, List.set_cons_zero, List.set_cons_succ]
          refine tk 4 ⟨some 20, .move (.tmp 1), 22, _, _, none⟩ ?vq23 rfl (by kernel_rfl) (.inl ⟨by rfl, ?hq23⟩) ?rq23
          case hq23 => intro W hSw; go_simp; (try with_reducible rfl)
          try simp only [Act.put, List.setIfInBounds_toArray, List.set_cons_zero, List.set_cons_succ]
          refine tk 5 ⟨some 21, .move (.tmp 5), 3, _, _, none⟩ ?vq24 rfl (by kernel_rfl) (.inl ⟨by rfl, ?hq24⟩) ?rq24
          case hq24 => intro W hSw; go_simp; (try with_reducible rfl)
          try simp only [Act.put, List.setIfInBounds_toArray, List.set_cons_zero, List.set_cons_succ]
          refine tk 6 ⟨some 22, .indexAddr 22 (.tmp 20) (.tmp 21), 0, _, _, none⟩ ?vq25 rfl (by kernel_rfl) (.inl ⟨by rfl, ?hq25⟩) ?rq25
          case hq25 => intro W hSw; (try obtain ⟨a0, a1, a2, a3, b0, b1, b2, b3⟩ := HC.out W hSw); go_simp; (try with_reducible rfl)
          try simp only [Act.put, List.setIfInBounds_toArray, List.set_cons_zero, List.set_cons_succ]
          refine tk 7 ⟨some 23, .load 123 (.tmp 22), 123, _, _, none⟩ ?vq26 rfl (by kernel_rfl) (.inl ⟨by rfl, ?hq26⟩) ?rq26
          case hq26 => intro W hSw; (try obtain ⟨a0, a1, a2, a3, b0, b1, b2, b3⟩ := HC.out W hSw); go_simp; (try with_reducible rfl)
          try simp only [Act.put, List.setIfInBounds_toArray, List.set_cons_zero, List.set_cons_succ]
          refine tk 8 ⟨some 24, .binOp .neq 123 (.tmp 19) (.tmp 23) 123, 4, _, _, none⟩ ?vq27 rfl (by kernel_rfl) (.inl ⟨by rfl, ?hq27⟩) ?rq27
          case hq27 => intro W hSw; (try obtain ⟨a0, a1, a2, a3, b0, b1, b2, b3⟩ := HC.out W hSw); go_simp; (try with_reducible rfl)
          try simp only [Act.put, List.setIfInBounds_toArray, List.set_cons_zero, List.set_cons_succ]
          refine wpAnyH_done (by kernel_rfl) ?_ _
          go_wp2_with fail
          go_roundw
          case rel => exact ⟨k + 1, by omega, by go_num, htk2.out, Ho.out.trans hHeld (fun _ h => h.elim)⟩
          case measure => simp [intOf]; omega
        · have hne : Hid (decide (la = lb) = false) := by
            refine decide_eq_false fun h => ?_
            have h1 := Hx.out
            have h2 := Hy.out
            rw [h] at h1
            rw [h1] at h2
            exact heq (Option.some.inj h2)
          have q := tierNeS_false heq
          unfold TierV.val at q
          clear hx hy a0 a1 a2 a3 b0 b1 b2 b3
          go_wp2_with fail
          refine wp_region_held_drew (S := fun W => Fr (fun _ => False) wr W) (by kernel_rfl) ((Fr.refl _ wr).drew) (fun hHeld => ?_)
          refine tk 0 ⟨some 16, .move (.tmp 0), 22, _, _, none⟩ ?vq28 rfl (by kernel_rfl) (.inl ⟨by rfl, ?hq28⟩) ?rq28
          case hq28 => intro W hSw; go_simp; (try with_reducible rfl)
          try simp only [Act.put, List.setIfInBounds_toArray, List.set_cons_zero, List.set_cons_succ]
          refine tk 1 ⟨some 17, .move (.tmp 5), 3, _, _, none⟩ ?vq29 rfl (by kernel_rfl) (.inl ⟨by rfl, ?hq29⟩) ?rq29
          case hq29 => intro W hSw; go_simp; (try with_reducible rfl)
          try simp only [Act.put, List.setIfInBounds_toArray, List.set_cons_zero, List.set_cons_succ]
          refine tk 2 ⟨some 18, .indexAddr 22 (.tmp 16) (.tmp 17), 0, _, _, none⟩ ?vq30 rfl (by kernel_rfl) (.inl ⟨by rfl, ?hq30⟩) ?rq30
          case hq30 => intro W hSw; (try obtain ⟨a0, a1, a2, a3, b0, b1, b2, b3⟩ := HC.out W hSw); go_simp; (try with_reducible rfl)
          try simp only [Act.put, List.setIfInBounds_toArray, List.set_cons_zero, List.set_cons_succ]
          refine tk 3 ⟨some 19, .load 123 (.tmp 18), 123, _, _, none⟩ ?vq31 rfl (by kernel_rfl) (.inl ⟨by rfl, ?hq31⟩) ?rq31
          case hq31 => intro W hSw; (try obtain ⟨a0, a1, a2, a3, b0, b1, b2, b3⟩ := HC.out W hSw); go_simp; (try with_reducible rfl)
          try simp only [Act.put, List.setIfInBounds_toArray, List.set_cons_zero, List.set_cons_succ]
          refine tk 4 ⟨some 20, .move (.tmp 1), 22, _, _, none⟩ ?vq32 rfl (by kernel_rfl) (.inl ⟨by rfl, ?hq32⟩) ?rq32
          case hq32 => intro W hSw; go_simp; (try with_reducible rfl)
          try simp only [Act.put, List.setIfInBounds_toArray, List.set_cons_zero, List.set_cons_succ]
          refine tk 5 ⟨some 21, .move (.tmp 5), 3, _, _, none⟩ ?vq33 rfl (by kernel_rfl) (.inl ⟨by rfl, ?hq33⟩) ?rq33
          case hq33 => intro W hSw; go_simp; (try with_reducible rfl)
          try simp only [Act.put, List.setIfInBounds_toArray, List.set_cons_zero, List.set_cons_succ]
          refine tk 6 ⟨some 22, .indexAddr 22 (.tmp 20) (.tmp 21), 0, _, _, none⟩ ?vq34 rfl (by kernel_rfl) (.inl ⟨by rfl, ?hq34⟩) ?rq34
          case hq34 => intro W hSw; (try obtain ⟨a0, a1, a2, a3, b0, b1, b2, b3⟩ := HC.out W hSw); go_simp; (try with_reducible rfl)
          try simp only [Act.put, List.setIfInBounds_toArray, List.set_cons_zero, List.set_cons_succ]
          refine tk 7 ⟨some 23, .load 123 (.tmp 22), 123, _, _, none⟩ ?vq35 rfl (by kernel_rfl) (.inl ⟨by rfl, ?hq35⟩) ?rq35
          case hq35 => intro W hSw; (try obtain ⟨a0, a1, a2, a3, b0, b1, b2, b3⟩ := HC.out W hSw); go_simp; (try with_reducible rfl)
          try simp only [Act.put, List.setIfInBounds_toArray, List.set_cons_zero, List.set_cons_succ]
          refine tk 8 ⟨some 24, .binOp .neq 123 (.tmp 19) (.tmp 23) 123, 4, _, _, none⟩ ?vq36 rfl (by kernel_rfl) (.inl ⟨by rfl, ?hq36⟩) ?rq36
          case hq36 => intro W hSw; (try obtain ⟨a0, a1, a2, a3, b0, b1, b2, b3⟩ := HC.out W hSw); go_simp; (try with_reducible rfl)
          try simp only [Act.put, List.setIfInBounds_toArray, List.set_cons_zero, List.set_cons_succ]
          refine wpAnyH_done (by kernel_rfl) ?_ _
          go_wp2_with fail
          go_ret
          exact ⟨by rw [hne.out]; rfl, (Ho.out.trans hHeld (fun _ h => h.elim)).below (fun _ h => h.elim)⟩
      · obtain rfl : k = n := by omega
        have hE : Hid (decide (la = lb) = true) := by
          refine decide_eq_true ?_
          have h := htk.out
          rwa [take_all (by rw [hla.out]; exact Nat.le_refl _), take_all (by rw [hlb.out]; exact Nat.le_refl _)] at h
        go_wp2_with fail
        go_ret
        exact ⟨by rw [hE.out]; rfl, Ho.out.below (fun _ h => h.elim)⟩
  · have hne : Hid (decide (la = lb) = false) := by
      refine decide_eq_false fun h => hnm ?_
      have h1 := hla.out
      have h2 := hlb.out
      rw [h] at h1
      omega
    have hnm2 : ((n : Int) != (m : Int)) = true := by simpa using (show (n : Int) ≠ (m : Int) by omega)
    have hnm3 : ((n : Int) == (m : Int)) = false := by simpa using (show (n : Int) ≠ (m : Int) by omega)
    go_enter Tryz.func178, Tryz.ntmps178
    go_wp2_with fail
    go_ret
    exact ⟨by rw [hne.out]; rfl, Below.refl _ _⟩
set_option maxRecDepth 100000 in
set_option maxHeartbeats 4000000 in
theorem eqints_any (la lb : List Int) (A : Option Addr) (n c : Nat) (B : Option Addr) (m d : Nat) (w : World) (ha : Rd w 1 A n (icells la)) (hb : Rd w 1 B m (icells lb)) (hn : n ≤ 1099511627776) (hm : m ≤ 1099511627776) :
    Calls Tryz.prog 88 #[.slice A n c, .slice B m d] w fun r w' => r = .returned (.bool (decide (la = lb))) ∧ Below w.heap.size w w' := by
  have Ha := Lib.hid ha
  have Hb := Lib.hid hb
  have hla := Lib.hid ha.icells_len
  have hlb := Lib.hid hb.icells_len
  clear ha hb
  by_cases hnm : n = m
  · subst hnm
    go_enter Tryz.func88, Tryz.ntmps88
    go_wp2_with fail
    go_loopw [13] (fun i wr => ∃ k : Nat, k ≤ n ∧ i = .int .i64 k ∧ Hid (la.take k = lb.take k) ∧ Fr (fun _ => False) w wr) (fun i _ => n - (intOf i).toNat)
    case atStart => exact ⟨0, Nat.zero_le _, rfl, rfl, Fr.refl _ _⟩
    case round =>
      obtain ⟨k, hk, rfl, htk, ho⟩ := hrel
      have Ho := Lib.hid ho
      clear ho
      by_cases hlt : k < n
      · obtain ⟨ad, x, rfl, hx, a0⟩ := (Ha.out.fr0 Ho.out).icell_ hlt
        obtain ⟨bd, y, rfl, hy, b0⟩ := (Hb.out.fr0 Ho.out).icell_ hlt
        have kn : 0 ≤ (k : Int) ∧ (k : Int) < (n : Int) := by omega
        have Hx := Lib.hid hx
        have Hy := Lib.hid hy
        have HC : Hid (∀ W, Fr (fun _ => False) wr W → W.cell? (ad.add k) = some (.int .i64 x) ∧ W.cell? (bd.add k) = some (.int .i64 y)) := fun W f => ⟨f.cell a0 (fun h => h), f.cell b0 (fun h => h)⟩
        by_cases heq : x = y
        · have htk2 : Hid (la.take (k + 1) = lb.take (k + 1)) := by show _ = _; rw [take_snoc Hx.out, take_snoc Hy.out, htk.out, heq]
          have q : (x == y) = true := by simpa using heq
          have q2 : decide (x = y) = true := decide_eq_true heq
          clear hx hy a0 b0
          go_wp2_with fail
          refine wp_region_held_drew (S := fun W => Fr (fun _ => False) wr W) (by kernel_rfl) ((Fr.refl _ wr).drew) (fun hHeld => ?_)
          refine tk 0 ⟨some 16, .move (.tmp 0), 43, _, _, none⟩ ?vq37 rfl (by kernel_rfl) (.inl ⟨by rfl, ?hq37⟩) ?rq37
          case hq37 => intro W hSw; go_simp; (try with_reducible rfl)
          try simp only [Act.put, List.setIfInBounds_toArray, List.set_cons_zero, List.set_cons_succ]
          refine tk 1 ⟨some 17, .move (.tmp 5), 3, _, _, none⟩ ?vq38 rfl (by kernel_rfl) (.inl ⟨by rfl, ?hq38⟩) ?rq38
          case hq38 => intro W hSw; go_simp; (try with_reducible rfl)
          try simp only [Act.put, List.setIfInBounds_toArray, List.set_cons_zero, List.set_cons_succ]
          refine tk 2 ⟨some 18, .indexAddr 43 (.tmp 16) (.tmp 17), 0, _, _, none⟩ ?vq39 rfl (by kernel_rfl) (.inl ⟨by rfl, ?hq39⟩) ?rq39
          case hq39 => intro W hSw; (try obtain ⟨a0, b0⟩ := HC.out W hSw); go_simp; (try with_reducible rfl)
          try simp only [Act.put, List.setIfInBounds_toArray, List.set_cons_zero, List.set_cons_succ]
          refine tk 3 ⟨some 19, .load 3 (.tmp 18), 3, _, _, none⟩ ?vq40 rfl (by kernel_rfl) (.inl ⟨by rfl, ?hq40⟩) ?rq40
          case hq40 => intro W hSw; (try obtain ⟨a0, b0⟩ := HC.out W hSw); go_simp; (try with_reducible rfl)
          try simp only [Act.put, List.setIfInBounds_toArray, List.set_cons_zero, List.set_cons_succ]
          refine tk 4 ⟨some 20, .move (.tmp 1), 43, _, _, none⟩ ?vq41 rfl (by kernel_rfl) (.inl ⟨by rfl, ?hq41⟩) ?rq41
          case hq41 => intro W hSw; go_simp; (try with_reducible rfl)
          try simp only [Act.put, List.setIfInBounds_toArray, List.set_cons_zero, List.set_cons_succ]
          refine tk 5 ⟨some 21, .move (.tmp 5), 3, _, _, none⟩ ?vq42 rfl (by kernel_rfl) (.inl ⟨by rfl, ?hq42⟩) ?rq42
          case hq42 => intro W hSw; go_simp; (try with_reducible rfl)
          try simp only [Act.put, List.setIfInBounds_toArray, List.set_cons_zero, List.set_cons_succ]
          refine tk 6 ⟨some 22, .indexAddr 43 (.tmp 20) (.tmp 21), 0, _, _, none⟩ ?vq43 rfl (by kernel_rfl) (.inl ⟨by rfl, ?hq43⟩) ?rq43
          case hq43 => intro W hSw; (try obtain ⟨a0, b0⟩ := HC.out W hSw); go_simp; (try with_reducible rfl)
          try simp only [Act.put, List.setIfInBounds_toArray, List.set_cons_zero, List.set_cons_succ]
          refine tk 7 ⟨some 23, .load 3 (.tmp 22), 3, _, _, none⟩ ?vq44 rfl (by kernel_rfl) (.inl ⟨by rfl, ?hq44⟩) ?rq44
          case hq44 => intro W hSw; (try obtain ⟨a0, b0⟩ := HC.out W hSw); go_simp; (try with_reducible rfl)
          try simp only [Act.put, List.setIfInBounds_toArray, List.set_cons_zero, List.set_cons_succ]
          refine tk 8 ⟨some 24, .binOp .neq 3 (.tmp 19) (.tmp 23) 3, 4, _, _, none⟩ ?vq45 rfl (by kernel_rfl) (.inl ⟨by rfl, ?hq45⟩) ?rq45
          case hq45 => intro W hSw; (try obtain ⟨a0, b0⟩ := HC.out W hSw); go_simp; (try with_reducible rfl)
          try simp only [Act.put, List.setIfInBounds_toArray, List.set_cons_zero, List.set_cons_succ]
          refine wpAnyH_done (by kernel_rfl) ?_ _
          go_wp2_with fail
          go_roundw
          case rel => exact ⟨k + 1, by omega, by go_num, htk2.out, Ho.out.trans hHeld (fun _ h => h.elim)⟩
          case measure => simp [intOf]; omega
        · have hne : Hid (decide (la = lb) = false) := by
            refine decide_eq_false fun h => ?_
            have h1 := Hx.out
            have h2 := Hy.out
            rw [h] at h1
            rw [h1] at h2
            exact heq (Option.some.inj h2)
          have q : (x == y) = false := by simpa using heq
          have q2 : decide (x = y) = false := decide_eq_false heq
          have q3 : ¬ x = y := heq
          clear hx hy a0 b0
          go_wp2_with fail
          refine wp_region_held_drew (S := fun W => Fr (fun _ => False) wr W) (by kernel_rfl) ((Fr.refl _ wr).drew) (fun hHeld => ?_)
          refine tk 0 ⟨some 16, .move (.tmp 0), 43, _, _, none⟩ ?vq46 rfl (by kernel_rfl) (.inl ⟨by rfl, ?hq46⟩) ?rq46
          case hq46 => intro W hSw; go_simp; (try with_reducible rfl)
          try simp only [Act.put, List.setIfInBounds_toArray, List.set_cons_zero, List.set_cons_succ]
          refine tk 1 ⟨some 17, .move (.tmp 5), 3, _, _, none⟩ ?vq47 rfl (by kernel_rfl) (.inl ⟨by rfl, ?hq47⟩) ?rq47
          case hq47 => intro W hSw; go_simp; (try with_reducible rfl)
          try simp only [Act.put, List.setIfInBounds_toArray, List.set_cons_zero, List.set_cons_succ]
          refine tk 2 ⟨some 18, .indexAddr 43 (.tmp 16) (.tmp 17), 0, _, _, none⟩ ?vq48 rfl (by kernel_rfl) (.inl ⟨by rfl, ?hq48⟩) ?rq48
          case hq48 => intro W hSw; (try obtain ⟨a0, b0⟩ := HC.out W hSw); go_simp; (try with_reducible rfl)
          try simp only [Act.put, List.setIfInBounds_toArray, List.set_cons_zero, List.set_cons_succ]
          refine tk 3 ⟨some 19, .load 3 (.tmp 18), 3, _, _, none⟩ ?vq49 rfl (by kernel_rfl) (.inl ⟨by rfl, ?hq49⟩) ?rq49
          case hq49 => intro W hSw; (try obtain ⟨a0, b0⟩ := HC.out W hSw); go_simp; (try with_reducible rfl)
          try simp only [Act.put, List.setIfInBounds_toArray, List.set_cons_zero, List.set_cons_succ]
          refine tk 4 ⟨some 20, .move (.tmp 1), 43, _, _, none⟩ ?vq50 rfl (by kernel_rfl) (.inl ⟨by rfl, ?hq50⟩) ?rq50
          case hq50 => intro W hSw; go_simp; (try with_reducible rfl)
          try simp only [Act.put, List.setIfInBounds_toArray, List.set_cons_zero, List.set_cons_succ]
          refine tk 5 ⟨some 21, .move (.tmp 5), 3, _, _, none⟩ ?vq51 rfl (by kernel_rfl) (.inl ⟨by rfl, ?hq51⟩) ?rq51
          case hq51 => intro W hSw; go_simp; (try with_reducible rfl)
          try simp only [Act.put, List.setIfInBounds_toArray, List.set_cons_zero, List.set_cons_succ]
          refine tk 6 ⟨some 22, .indexAddr 43 (.tmp 20) (.tmp 21), 0, _, _, none⟩ ?vq52 rfl (by kernel_rfl) (.inl ⟨by rfl, ?hq52⟩) ?rq52
          case hq52 => intro W hSw; (try obtain ⟨a0, b0⟩ := HC.out W hSw); go_simp; (try with_reducible rfl)
          try simp only [Act.put, List.setIfInBounds_toArray, List.set_cons_zero, List.set_cons_succ]
          refine tk 7 ⟨some 23, .load 3 (.tmp 22), 3, _, _, none⟩ ?vq53 rfl (by kernel_rfl) (.inl ⟨by rfl, ?hq53⟩) ?rq53
          case hq53 => intro W hSw; (try obtain ⟨a0, b0⟩ := HC.out W hSw); go_simp; (try with_reducible rfl)
          try simp only [Act.put, List.setIfInBounds_toArray, List.set_cons_zero, List.set_cons_succ]
          refine tk 8 ⟨some 24, .binOp .neq 3 (.tmp 19) (.tmp 23) 3, 4, _, _, none⟩ ?vq54 rfl (by kernel_rfl) (.inl ⟨by rfl, ?hq54⟩) ?rq54
          case hq54 => intro W hSw; (try obtain ⟨a0, b0⟩ := HC.out W hSw); go_simp; (try with_reducible rfl)
          try simp only [Act.put, List.setIfInBounds_toArray, List.set_cons_zero, List.set_cons_succ]
          refine wpAnyH_done (by kernel_rfl) ?_ _
          go_wp2_with fail
          go_ret
          exact ⟨by rw [hne.out]; rfl, (Ho.out.trans hHeld (fun _ h => h.elim)).below (fun _ h => h.elim)⟩
      · obtain rfl : k = n := by omega
        have hE : Hid (decide (la = lb) = true) := by
          refine decide_eq_true ?_
          have h := htk.out
          rwa [take_all (by rw [hla.out]; exact Nat.le_refl _), take_all (by rw [hlb.out]; exact Nat.le_refl _)] at h
        go_wp2_with fail
        go_ret
        exact ⟨by rw [hE.out]; rfl, Ho.out.below (fun _ h => h.elim)⟩
  · have hne : Hid (decide (la = lb) = false) := by
      refine decide_eq_false fun h => hnm ?_
      have h1 := hla.out
      have h2 := hlb.out
      rw [h] at h1
      omega
    have hnm2 : ((n : Int) != (m : Int)) = true := by simpa using (show (n : Int) ≠ (m : Int) by omega)
    have hnm3 : ((n : Int) == (m : Int)) = false := by simpa using (show (n : Int) ≠ (m : Int) by omega)
    go_enter Tryz.func88, Tryz.ntmps88
    go_wp2_with fail
    go_ret
    exact ⟨by rw [hne.out]; rfl, Below.refl _ _⟩
end Go.Proofs.YtfhhepfkjndkgaaGreat
namespace Go.Proofs.YtfhhepfkjndkgaaGreat
set_option linter.all false
open Go.RowKit

set_option maxRecDepth 100000 in
set_option maxHeartbeats 4000000 in
theorem polsame_any (na nb : ByteArray) (la lb : List TierV) (A : Option Addr) (n c : Nat) (B : Option Addr) (m d : Nat) (w : World) (ha : Rd w 4 A n (tcells la)) (hb : Rd w 4 B m (tcells lb)) (hn : n ≤ 1099511627776) (hm : m ≤ 1099511627776) :
    Calls Tryz.prog 87 #[polV na A n c, polV nb B m d] w fun r w' => r = .returned (.bool (decide (na = nb) && decide (la = lb))) ∧ Below w.heap.size w w' := by
  unfold polV
  have F0 : Hid (Fr (fun _ => False) w ((w.alloc (.cells #[.string na, .slice A n c] 24)).alloc (.cells #[.string nb, .slice B m d] 24))) := (Fr.none_alloc _ _).trans (Fr.none_alloc _ _) (fun _ h => h.elim)
  have B1 : Hid (Blk ((w.alloc (.cells #[.string na, .slice A n c] 24)).alloc (.cells #[.string nb, .slice B m d] 24)) w.heap.size 24 #[.string na, .slice A n c]) := (Blk.new w 24 #[.string na, .slice A n c]).fr (Fr.none_alloc _ _) (fun h => h)
  have B2 : Hid (Blk ((w.alloc (.cells #[.string na, .slice A n c] 24)).alloc (.cells #[.string nb, .slice B m d] 24)) (w.heap.size + 1) 24 #[.string nb, .slice B m d]) := by
    have := Blk.new (w.alloc (.cells #[.string na, .slice A n c] 24)) 24 #[.string nb, .slice B m d]
    show Blk _ _ _ _
    simpa using this
  have Ha := Lib.hid ha
  have Hb := Lib.hid hb
  clear ha hb
  have HQ0 : Hid (∀ W, Fr (fun _ => False) ((w.alloc (.cells #[.string na, .slice A n c] 24)).alloc (.cells #[.string nb, .slice B m d] 24)) W → Calls Tryz.prog 178 #[.slice A n c, .slice B m d] W fun r w' => r = .returned (.bool (decide (la = lb))) ∧ Below W.heap.size W w') := fun W f => eqtiers_any la lb A n c B m d W ((Ha.out.fr0 F0.out).fr0 f) ((Hb.out.fr0 F0.out).fr0 f) hn hm
  obtain ⟨E, hE⟩ : ∃ E, decide (la = lb) = E := ⟨_, rfl⟩
  rw [hE] at HQ0 ⊢
  by_cases hab : na = nb
  · subst hab
    have hd : Hid (decide (na = na) = true) := decide_eq_true rfl
    go_enter Tryz.func87, Tryz.ntmps87
    go_wp2_with fail
    refine (HQ0.out _ (Fr.refl _ _)).mono ?_
    rintro r w5 ⟨rfl, b5⟩
    go_wp2_with fail
    go_ret
    exact ⟨by rw [hd.out]; rfl, (F0.out.trans (Fr.b0 b5) (fun _ h => h.elim)).below (fun _ h => h.elim)⟩
  · have hd : Hid (decide (na = nb) = false) := decide_eq_false hab
    have hab3 : ¬ na.toList = nb.toList := fun e => hab (toList_inj e)
    have hab4 : decide (na = nb) = false := decide_eq_false hab
    go_enter Tryz.func87, Tryz.ntmps87
    go_wp2_with fail
    go_ret
    exact ⟨by rw [hd.out]; rfl, F0.out.below (fun _ h => h.elim)⟩
end Go.Proofs.YtfhhepfkjndkgaaGreat
