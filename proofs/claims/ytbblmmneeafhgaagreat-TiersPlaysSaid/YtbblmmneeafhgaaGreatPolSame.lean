/- Tiers and ints compared: walks of sedimentbook.SameTiers, SameInts. -/
import Derived.Test.YtbblmmneeafhgaaGreatSame
import Derived.Test.YtbblmmneeafhgaaGreatFrom
import Derived.Test.YtbblmmneeafhgaaGreatTiersAsk
import Derived.Test.YtbblmmneeafhgaaGreatTk
namespace Go.Proofs.YtbblmmneeafhgaaGreat
set_option linter.all false
open Go.RowKit

def tierEq (x y : TierV) : Bool := (x.name.toList == y.name.toList) && ((x.every == y.every) && ((x.keep == y.keep) && (x.shards == y.shards)))
theorem tierEq_iff (x y : TierV) : tierEq x y = true ↔ x = y := by
 obtain ⟨a, b, c, d⟩ := x
 obtain ⟨a', b', c', d'⟩ := y
 unfold tierEq
 simp only [Bool.and_eq_true, beq_iff_eq, TierV.mk.injEq]
 exact ⟨fun h => ⟨toList_inj h.1, h.2⟩, fun h => ⟨by rw [h.1], h.2⟩⟩
instance tierDec : DecidableEq TierV := fun x y => if h : tierEq x y = true then isTrue ((tierEq_iff x y).1 h) else isFalse fun e => h ((tierEq_iff x y).2 e)
def icell (x : Int) : List Value := [.int .i64 x]
def icells (l : List Int) : List Value := l.flatMap icell
theorem icells_is (l : List Int) : icells l = l.map (Value.int .i64) := by
 induction l with
 | nil => rfl
 | cons a l ih => unfold icells at ih ⊢; rw [List.flatMap_cons, ih]; rfl
theorem Rd.icell_ {w : World} {n k : Nat} {A : Option Addr} {l : List Int} (h : Rd w 1 A n (icells l)) (hk : k < n) : ∃ ad x, A = some ad ∧ l[k]? = some x ∧ w.cell? (ad.add k) = some (.int .i64 x) := by
 rw [icells_is] at h
 exact h.at_map hk
theorem Rd.icells_len {w : World} {n : Nat} {A : Option Addr} {l : List Int} (h : Rd w 1 A n (icells l)) : l.length = n := by
 rw [icells_is] at h
 exact h.len_map
set_option maxHeartbeats 1000000 in
theorem sameints_any (la lb : List Int) (A : Option Addr) (n c : Nat) (B : Option Addr) (m d : Nat) (w : World) (ha : Rd w 1 A n (icells la)) (hb : Rd w 1 B m (icells lb)) (hn : n ≤ 1099511627776) (hm : m ≤ 1099511627776) :
  Calls Tryz.prog 48 #[.slice A n c, .slice B m d] w fun r w' => r = .returned (.bool (decide (la = lb))) ∧ Below w.heap.size w w' := by
 have Ha := Lib.hid ha
 have Hb := Lib.hid hb
 have hla := Lib.hid ha.icells_len
 have hlb := Lib.hid hb.icells_len
 clear ha hb
 by_cases hnm : n = m
 ·subst hnm
  go_enter Tryz.func48, Tryz.ntmps48
  go_wp2_with fail
  go_loopw [5] (fun i wr => ∃ k : Nat, k ≤ n ∧ i = .int .i64 k ∧ Hid (la.take k = lb.take k) ∧ Own w wr (fun _ => False)) (fun i _ => n - (intOf i).toNat)
  case atStart => exact ⟨0, Nat.zero_le _, rfl, rfl, Own.start w⟩
  case round =>
   obtain ⟨k, hk, rfl, htk, ho⟩ := hrel
   have Ho := Lib.hid ho
   by_cases hlt : k < n
   ·obtain ⟨ad, x, rfl, hx, a0⟩ := (Ha.out.fr0 (Fr.b0 ho.bel)).icell_ hlt
    obtain ⟨bd, y, rfl, hy, b0⟩ := (Hb.out.fr0 (Fr.b0 ho.bel)).icell_ hlt
    have Hx := Lib.hid hx
    have Hy := Lib.hid hy
    by_cases heq : x = y
    ·have htk2 : Hid (la.take (k + 1) = lb.take (k + 1)) := by show _ = _; rw [take_snoc Hx.out, take_snoc Hy.out, htk.out, heq]
     have q : (x == y) = true := by simpa using heq
     have q2 : x = y := heq
     clear hx hy ho
     go_wp2
     go_quiet (fail)
     go_wp2
     go_roundw
     case rel => exact ⟨k + 1, by omega, by go_num, htk2.out, Ho.out.skip (Fr.none_drewN _ _)⟩
     case measure => simp [intOf]; omega
    ·have hne : Hid (decide (la = lb) = false) := by
      refine decide_eq_false fun h => ?_
      have h1 := Hx.out
      have h2 := Hy.out
      rw [h] at h1
      rw [h1] at h2
      exact heq (Option.some.inj h2)
     have q : (x == y) = false := by simpa using heq
     have q2 : decide (x = y) = false := decide_eq_false heq
     have q3 : ¬ x = y := heq
     clear hx hy ho heq
     go_wp2
     go_quiet (fail)
     go_wp2
     go_ret
     exact ⟨by rw [hne.out]; rfl, (Ho.out.skip (Fr.none_drewN _ _)).bel⟩
   ·obtain rfl : k = n := by omega
    have hE : Hid (decide (la = lb) = true) := by
     refine decide_eq_true ?_
     have h := htk.out
     rwa [take_all (by rw [hla.out]; exact Nat.le_refl _), take_all (by rw [hlb.out]; exact Nat.le_refl _)] at h
    clear ho
    go_wp2_with fail
    go_ret
    exact ⟨by rw [hE.out]; rfl, Ho.out.bel⟩
 ·have hne : Hid (decide (la = lb) = false) := by
   refine decide_eq_false fun h => hnm ?_
   have h1 := hla.out
   have h2 := hlb.out
   rw [h] at h1
   omega
  have hnm2 : ((n : Int) != (m : Int)) = true := by simpa using (show (n : Int) ≠ (m : Int) by omega)
  go_enter Tryz.func48, Tryz.ntmps48
  go_wp2_with fail
  go_ret
  exact ⟨by rw [hne.out]; rfl, Below.refl _ _⟩

theorem sameints_eq (l : List Int) (A : Option Addr) (n c : Nat) (B : Option Addr) (d : Nat) (w : World) (ha : Rd w 1 A n (icells l)) (hb : Rd w 1 B n (icells l)) (hn : n ≤ 1000000000) :
  Calls Tryz.prog 48 #[.slice A n c, .slice B n d] w fun r w' => r = .returned (.bool true) ∧ Below w.heap.size w w' :=
 (sameints_any l l A n c B n d w ha hb (by omega) (by omega)).mono fun r w' ⟨e, b⟩ => ⟨by rw [e, decide_eq_true rfl], b⟩
end Go.Proofs.YtbblmmneeafhgaaGreat
namespace Go.Proofs.YtbblmmneeafhgaaGreat
set_option linter.all false
open Go.RowKit

theorem eqtier_inS (d : Nat) (x y : TierV) (w : World) : (Op.equalIn (d + 2) 90 x.val y.val).run Tryz.prog w = .ok (tierEq x y) w := by
 have hu : Tryz.prog.underlying 90 = some (.struct (Tryz.prog.fieldsOf 90)) := by kernel_rfl
 have hp : Tryz.prog.stoodInHeld 90 = false := by kernel_rfl
 have hf : (Tryz.prog.fieldsOf 90).toList = [⟨"Name", 9, 0, false, "", "", 0⟩, ⟨"Every", 3, 1, false, "", "", 16⟩, ⟨"Keep", 3, 2, false, "", "", 24⟩, ⟨"Shards", 3, 3, false, "", "", 32⟩] := by kernel_rfl
 unfold TierV.val tierEq
 rw [run_equalIn_struct (P := Tryz.prog) w (d + 1) _ _ _ hu hp, hf]
 simp [Op.eqFields, part, eqs_string d, eqs_int d]
 by_cases h1 : x.name.toList = y.name.toList <;> by_cases h2 : x.every = y.every <;> by_cases h3 : x.keep = y.keep <;> by_cases h4 : x.shards = y.shards <;> simp [h1, h2, h3, h4]
theorem tierNeS_true {x y : TierV} (h : x = y) (w : World) : (binOp .neq 90 x.val y.val).run Tryz.prog w = .ok (.bool false) w := by
 have h2 := eqtier_inS 9998 x y w
 unfold TierV.val at h2 ⊢
 rw [run_neq_struct, h2, (tierEq_iff x y).2 h]
 rfl
theorem tierNeS_false {x y : TierV} (h : x ≠ y) (w : World) : (binOp .neq 90 x.val y.val).run Tryz.prog w = .ok (.bool true) w := by
 have h2 := eqtier_inS 9998 x y w
 unfold TierV.val at h2 ⊢
 rw [run_neq_struct, h2]
 cases hb : tierEq x y
 ·rfl
 ·exact absurd ((tierEq_iff x y).1 hb) h
theorem eqrec_inS (x y : RecV) (w : World) : (Op.equalIn 10000 100 x.val y.val).run Tryz.prog w = .ok (recEq x y) w := by
 have hu : Tryz.prog.underlying 100 = some (.struct (Tryz.prog.fieldsOf 100)) := by kernel_rfl
 have hp : Tryz.prog.stoodInHeld 100 = false := by kernel_rfl
 have hf : (Tryz.prog.fieldsOf 100).toList = [⟨"Name", 9, 0, false, "", "", 0⟩, ⟨"Start", 3, 1, false, "", "", 16⟩, ⟨"Agg", 98, 2, false, "", "", 24⟩] := by kernel_rfl
 have hA := run_eqagg 9997 x.agg y.agg
 unfold AggV.val at hA
 unfold RecV.val recEq
 rw [run_equalIn_struct (P := Tryz.prog) w 9999 _ _ _ hu hp, hf]
 simp [Op.eqFields, hA, eqs_string 9998, eqs_int 9998, part]
 by_cases h1 : x.name.toList = y.name.toList <;> by_cases h2 : x.start = y.start <;> cases aggEq x.agg y.agg <;> simp [h1, h2]
theorem recNeS_true {x y : RecV} (h : x = y) (w : World) : (binOp .neq 100 x.val y.val).run Tryz.prog w = .ok (.bool false) w := by
 have h2 := eqrec_inS x y w
 unfold RecV.val at h2 ⊢
 rw [run_neq_struct, h2, (recEq_iff x y).2 h]
 rfl
theorem recNeS_false {x y : RecV} (h : x ≠ y) (w : World) : (binOp .neq 100 x.val y.val).run Tryz.prog w = .ok (.bool true) w := by
 have h2 := eqrec_inS x y w
 unfold RecV.val at h2 ⊢
 rw [run_neq_struct, h2]
 cases hb : recEq x y
 ·rfl
 ·exact absurd ((recEq_iff x y).1 hb) h
set_option maxRecDepth 100000 in
set_option maxHeartbeats 4000000 in
theorem eqrecs_any (la lb : List RecV) (A : Option Addr) (n c : Nat) (B : Option Addr) (m d : Nat) (w : World) (ha : Rd w 7 A n (rcells la)) (hb : Rd w 7 B m (rcells lb)) (hn : n ≤ 1099511627776) (hm : m ≤ 1099511627776) :
  Calls Tryz.prog 53 #[.slice A n c, .slice B m d] w fun r w' => r = .returned (.bool (decide (la = lb))) ∧ Below w.heap.size w w' := by
 have Ha := Lib.hid ha
 have Hb := Lib.hid hb
 have hla := Lib.hid ha.recs_len
 have hlb := Lib.hid hb.recs_len
 clear ha hb
 by_cases hnm : n = m
 ·subst hnm
  go_enter Tryz.func53, Tryz.ntmps53
  go_wp2_with fail
  go_loopw [13] (fun i wr => ∃ k : Nat, k ≤ n ∧ i = .int .i64 k ∧ Hid (la.take k = lb.take k) ∧ Fr (fun _ => False) w wr) (fun i _ => n - (intOf i).toNat)
  case atStart => exact ⟨0, Nat.zero_le _, rfl, rfl, Fr.refl _ _⟩
  case round =>
   obtain ⟨k, hk, rfl, htk, ho⟩ := hrel
   have Ho := Lib.hid ho
   clear ho
   by_cases hlt : k < n
   ·obtain ⟨ad, x, rfl, hx, a0, a1, a2, a3, a4, a5, a6⟩ := (Ha.out.fr0 Ho.out).rec_ hlt
    obtain ⟨bd, y, rfl, hy, b0, b1, b2, b3, b4, b5, b6⟩ := (Hb.out.fr0 Ho.out).rec_ hlt
    have kn : 0 ≤ (k : Int) ∧ (k : Int) < (n : Int) := by omega
    have Hx := Lib.hid hx
    have Hy := Lib.hid hy
    have HC : Hid (∀ W, Fr (fun _ => False) wr W → W.cell? (ad.add (k * 7)) = some (.string x.name) ∧ W.cell? (⟨(ad.add (k * 7)).block, (ad.add (k * 7)).off + 1, none⟩) = some (.int .i64 x.start) ∧ W.cell? (⟨(ad.add (k * 7)).block, (ad.add (k * 7)).off + 2, none⟩) = some (.int .i64 x.agg.count) ∧ W.cell? (⟨(ad.add (k * 7)).block, (ad.add (k * 7)).off + 3, none⟩) = some (.int .i64 x.agg.hi) ∧ W.cell? (⟨(ad.add (k * 7)).block, (ad.add (k * 7)).off + 4, none⟩) = some (.int .u64 x.agg.lo) ∧ W.cell? (⟨(ad.add (k * 7)).block, (ad.add (k * 7)).off + 5, none⟩) = some (.int .i64 x.agg.min) ∧ W.cell? (⟨(ad.add (k * 7)).block, (ad.add (k * 7)).off + 6, none⟩) = some (.int .i64 x.agg.max) ∧ W.cell? (bd.add (k * 7)) = some (.string y.name) ∧ W.cell? (⟨(bd.add (k * 7)).block, (bd.add (k * 7)).off + 1, none⟩) = some (.int .i64 y.start) ∧ W.cell? (⟨(bd.add (k * 7)).block, (bd.add (k * 7)).off + 2, none⟩) = some (.int .i64 y.agg.count) ∧ W.cell? (⟨(bd.add (k * 7)).block, (bd.add (k * 7)).off + 3, none⟩) = some (.int .i64 y.agg.hi) ∧ W.cell? (⟨(bd.add (k * 7)).block, (bd.add (k * 7)).off + 4, none⟩) = some (.int .u64 y.agg.lo) ∧ W.cell? (⟨(bd.add (k * 7)).block, (bd.add (k * 7)).off + 5, none⟩) = some (.int .i64 y.agg.min) ∧ W.cell? (⟨(bd.add (k * 7)).block, (bd.add (k * 7)).off + 6, none⟩) = some (.int .i64 y.agg.max)) := fun W f => ⟨f.cell a0 (fun h => h), f.cell a1 (fun h => h), f.cell a2 (fun h => h), f.cell a3 (fun h => h), f.cell a4 (fun h => h), f.cell a5 (fun h => h), f.cell a6 (fun h => h), f.cell b0 (fun h => h), f.cell b1 (fun h => h), f.cell b2 (fun h => h), f.cell b3 (fun h => h), f.cell b4 (fun h => h), f.cell b5 (fun h => h), f.cell b6 (fun h => h)⟩
    by_cases heq : x = y
    ·have htk2 : Hid (la.take (k + 1) = lb.take (k + 1)) := by show _ = _; rw [take_snoc Hx.out, take_snoc Hy.out, htk.out, heq]
     have q := recNeS_true heq
     unfold RecV.val at q
     clear hx hy a0 a1 a2 a3 a4 a5 a6 b0 b1 b2 b3 b4 b5 b6
     go_wp2_with fail
     refine wp_region_held_drew (S := fun W => Fr (fun _ => False) wr W) (by kernel_rfl) ((Fr.refl _ wr).drew) (fun hHeld => ?_)
     refine tl 0 ?v1 rfl ?q1 ?r1
     case q1 => intro W hSw; go_simp; try rfl
     refine tl 1 ?v2 rfl ?q2 ?r2
     case q2 => intro W hSw; go_simp; try rfl
     refine tl 2 ?v3 rfl ?q3 ?r3
     case q3 => intro W hSw; (try obtain ⟨a0, a1, a2, a3, a4, a5, a6, b0, b1, b2, b3, b4, b5, b6⟩ := HC.out W hSw); go_simp; try rfl
     refine tl 3 ?v4 rfl ?q4 ?r4
     case q4 => intro W hSw; (try obtain ⟨a0, a1, a2, a3, a4, a5, a6, b0, b1, b2, b3, b4, b5, b6⟩ := HC.out W hSw); go_simp; try rfl
     refine tl 4 ?v5 rfl ?q5 ?r5
     case q5 => intro W hSw; go_simp; try rfl
     refine tl 5 ?v6 rfl ?q6 ?r6
     case q6 => intro W hSw; go_simp; try rfl
     refine tl 6 ?v7 rfl ?q7 ?r7
     case q7 => intro W hSw; (try obtain ⟨a0, a1, a2, a3, a4, a5, a6, b0, b1, b2, b3, b4, b5, b6⟩ := HC.out W hSw); go_simp; try rfl
     refine tl 7 ?v8 rfl ?q8 ?r8
     case q8 => intro W hSw; (try obtain ⟨a0, a1, a2, a3, a4, a5, a6, b0, b1, b2, b3, b4, b5, b6⟩ := HC.out W hSw); go_simp; try rfl
     refine tl 8 ?v9 rfl ?q9 ?r9
     case q9 => intro W hSw; (try obtain ⟨a0, a1, a2, a3, a4, a5, a6, b0, b1, b2, b3, b4, b5, b6⟩ := HC.out W hSw); go_simp; try rfl
     try simp only [Act.put, sA, sB, sC]
     refine wpAnyH_done (by kernel_rfl) ?_ _
     go_wp2_with fail
     go_roundw
     case rel => exact ⟨k + 1, by omega, by go_num, htk2.out, Ho.out.trans hHeld (fun _ h => h.elim)⟩
     case measure => simp [intOf]; omega
    ·have hne : Hid (decide (la = lb) = false) := by
      refine decide_eq_false fun h => ?_
      have h1 := Hx.out
      have h2 := Hy.out
      rw [h] at h1
      rw [h1] at h2
      exact heq (Option.some.inj h2)
     have q := recNeS_false heq
     unfold RecV.val at q
     clear hx hy a0 a1 a2 a3 a4 a5 a6 b0 b1 b2 b3 b4 b5 b6
     go_wp2_with fail
     refine wp_region_held_drew (S := fun W => Fr (fun _ => False) wr W) (by kernel_rfl) ((Fr.refl _ wr).drew) (fun hHeld => ?_)
     refine tl 0 ?v10 rfl ?q10 ?r10
     case q10 => intro W hSw; go_simp; try rfl
     refine tl 1 ?v11 rfl ?q11 ?r11
     case q11 => intro W hSw; go_simp; try rfl
     refine tl 2 ?v12 rfl ?q12 ?r12
     case q12 => intro W hSw; (try obtain ⟨a0, a1, a2, a3, a4, a5, a6, b0, b1, b2, b3, b4, b5, b6⟩ := HC.out W hSw); go_simp; try rfl
     refine tl 3 ?v13 rfl ?q13 ?r13
     case q13 => intro W hSw; (try obtain ⟨a0, a1, a2, a3, a4, a5, a6, b0, b1, b2, b3, b4, b5, b6⟩ := HC.out W hSw); go_simp; try rfl
     refine tl 4 ?v14 rfl ?q14 ?r14
     case q14 => intro W hSw; go_simp; try rfl
     refine tl 5 ?v15 rfl ?q15 ?r15
     case q15 => intro W hSw; go_simp; try rfl
     refine tl 6 ?v16 rfl ?q16 ?r16
     case q16 => intro W hSw; (try obtain ⟨a0, a1, a2, a3, a4, a5, a6, b0, b1, b2, b3, b4, b5, b6⟩ := HC.out W hSw); go_simp; try rfl
     refine tl 7 ?v17 rfl ?q17 ?r17
     case q17 => intro W hSw; (try obtain ⟨a0, a1, a2, a3, a4, a5, a6, b0, b1, b2, b3, b4, b5, b6⟩ := HC.out W hSw); go_simp; try rfl
     refine tl 8 ?v18 rfl ?q18 ?r18
     case q18 => intro W hSw; (try obtain ⟨a0, a1, a2, a3, a4, a5, a6, b0, b1, b2, b3, b4, b5, b6⟩ := HC.out W hSw); go_simp; try rfl
     try simp only [Act.put, sA, sB, sC]
     refine wpAnyH_done (by kernel_rfl) ?_ _
     go_wp2_with fail
     go_ret
     exact ⟨by rw [hne.out]; rfl, (Ho.out.trans hHeld (fun _ h => h.elim)).below (fun _ h => h.elim)⟩
   ·obtain rfl : k = n := by omega
    have hE : Hid (decide (la = lb) = true) := by
     refine decide_eq_true ?_
     have h := htk.out
     rwa [take_all (by rw [hla.out]; exact Nat.le_refl _), take_all (by rw [hlb.out]; exact Nat.le_refl _)] at h
    go_wp2_with fail
    go_ret
    exact ⟨by rw [hE.out]; rfl, Ho.out.below (fun _ h => h.elim)⟩
 ·have hne : Hid (decide (la = lb) = false) := by
   refine decide_eq_false fun h => hnm ?_
   have h1 := hla.out
   have h2 := hlb.out
   rw [h] at h1
   omega
  have hnm2 : ((n : Int) != (m : Int)) = true := by simpa using (show (n : Int) ≠ (m : Int) by omega)
  have hnm3 : ((n : Int) == (m : Int)) = false := by simpa using (show (n : Int) ≠ (m : Int) by omega)
  go_enter Tryz.func53, Tryz.ntmps53
  go_wp2_with fail
  go_ret
  exact ⟨by rw [hne.out]; rfl, Below.refl _ _⟩
set_option maxRecDepth 100000 in
set_option maxHeartbeats 4000000 in
theorem eqtiers_any (la lb : List TierV) (A : Option Addr) (n c : Nat) (B : Option Addr) (m d : Nat) (w : World) (ha : Rd w 4 A n (tcells la)) (hb : Rd w 4 B m (tcells lb)) (hn : n ≤ 1099511627776) (hm : m ≤ 1099511627776) :
  Calls Tryz.prog 132 #[.slice A n c, .slice B m d] w fun r w' => r = .returned (.bool (decide (la = lb))) ∧ Below w.heap.size w w' := by
 have Ha := Lib.hid ha
 have Hb := Lib.hid hb
 have hla := Lib.hid ha.tiers_len
 have hlb := Lib.hid hb.tiers_len
 clear ha hb
 by_cases hnm : n = m
 ·subst hnm
  go_enter Tryz.func132, Tryz.ntmps132
  go_wp2_with fail
  go_loopw [13] (fun i wr => ∃ k : Nat, k ≤ n ∧ i = .int .i64 k ∧ Hid (la.take k = lb.take k) ∧ Fr (fun _ => False) w wr) (fun i _ => n - (intOf i).toNat)
  case atStart => exact ⟨0, Nat.zero_le _, rfl, rfl, Fr.refl _ _⟩
  case round =>
   obtain ⟨k, hk, rfl, htk, ho⟩ := hrel
   have Ho := Lib.hid ho
   clear ho
   by_cases hlt : k < n
   ·obtain ⟨ad, x, rfl, hx, a0, a1, a2, a3⟩ := (Ha.out.fr0 Ho.out).tier hlt
    obtain ⟨bd, y, rfl, hy, b0, b1, b2, b3⟩ := (Hb.out.fr0 Ho.out).tier hlt
    have kn : 0 ≤ (k : Int) ∧ (k : Int) < (n : Int) := by omega
    have Hx := Lib.hid hx
    have Hy := Lib.hid hy
    have HC : Hid (∀ W, Fr (fun _ => False) wr W → W.cell? (ad.add (k * 4)) = some (.string x.name) ∧ W.cell? (⟨(ad.add (k * 4)).block, (ad.add (k * 4)).off + 1, none⟩) = some (.int .i64 x.every) ∧ W.cell? (⟨(ad.add (k * 4)).block, (ad.add (k * 4)).off + 2, none⟩) = some (.int .i64 x.keep) ∧ W.cell? (⟨(ad.add (k * 4)).block, (ad.add (k * 4)).off + 3, none⟩) = some (.int .i64 x.shards) ∧ W.cell? (bd.add (k * 4)) = some (.string y.name) ∧ W.cell? (⟨(bd.add (k * 4)).block, (bd.add (k * 4)).off + 1, none⟩) = some (.int .i64 y.every) ∧ W.cell? (⟨(bd.add (k * 4)).block, (bd.add (k * 4)).off + 2, none⟩) = some (.int .i64 y.keep) ∧ W.cell? (⟨(bd.add (k * 4)).block, (bd.add (k * 4)).off + 3, none⟩) = some (.int .i64 y.shards)) := fun W f => ⟨f.cell a0 (fun h => h), f.cell a1 (fun h => h), f.cell a2 (fun h => h), f.cell a3 (fun h => h), f.cell b0 (fun h => h), f.cell b1 (fun h => h), f.cell b2 (fun h => h), f.cell b3 (fun h => h)⟩
    by_cases heq : x = y
    ·have htk2 : Hid (la.take (k + 1) = lb.take (k + 1)) := by show _ = _; rw [take_snoc Hx.out, take_snoc Hy.out, htk.out, heq]
     have q := tierNeS_true heq
     unfold TierV.val at q
     clear hx hy a0 a1 a2 a3 b0 b1 b2 b3
     go_wp2_with fail
     refine wp_region_held_drew (S := fun W => Fr (fun _ => False) wr W) (by kernel_rfl) ((Fr.refl _ wr).drew) (fun hHeld => ?_)
     refine tl 0 ?v19 rfl ?q19 ?r19
     case q19 => intro W hSw; go_simp; try rfl
     refine tl 1 ?v20 rfl ?q20 ?r20
     case q20 => intro W hSw; go_simp; try rfl
     refine tl 2 ?v21 rfl ?q21 ?r21
     case q21 => intro W hSw; (try obtain ⟨a0, a1, a2, a3, b0, b1, b2, b3⟩ := HC.out W hSw); go_simp; try rfl
     refine tl 3 ?v22 rfl ?q22 ?r22
     case q22 => intro W hSw; (try obtain ⟨a0, a1, a2, a3, b0, b1, b2, b3⟩ := HC.out W hSw); go_simp; try rfl
     refine tl 4 ?v23 rfl ?q23 ?r23
     case q23 => intro W hSw; go_simp; try rfl
     refine tl 5 ?v24 rfl ?q24 ?r24
     case q24 => intro W hSw; go_simp; try rfl
     refine tl 6 ?v25 rfl ?q25 ?r25
     case q25 => intro W hSw; (try obtain ⟨a0, a1, a2, a3, b0, b1, b2, b3⟩ := HC.out W hSw); go_simp; try rfl
     refine tl 7 ?v26 rfl ?q26 ?r26
     case q26 => intro W hSw; (try obtain ⟨a0, a1, a2, a3, b0, b1, b2, b3⟩ := HC.out W hSw); go_simp; try rfl
     refine tl 8 ?v27 rfl ?q27 ?r27
     case q27 => intro W hSw; (try obtain ⟨a0, a1, a2, a3, b0, b1, b2, b3⟩ := HC.out W hSw); go_simp; try rfl
     try simp only [Act.put, sA, sB, sC]
     refine wpAnyH_done (by kernel_rfl) ?_ _
     go_wp2_with fail
     go_roundw
     case rel => exact ⟨k + 1, by omega, by go_num, htk2.out, Ho.out.trans hHeld (fun _ h => h.elim)⟩
     case measure => simp [intOf]; omega
    ·have hne : Hid (decide (la = lb) = false) := by
      refine decide_eq_false fun h => ?_
      have h1 := Hx.out
      have h2 := Hy.out
      rw [h] at h1
      rw [h1] at h2
      exact heq (Option.some.inj h2)
     have q := tierNeS_false heq
     unfold TierV.val at q
     clear hx hy a0 a1 a2 a3 b0 b1 b2 b3
     go_wp2_with fail
     refine wp_region_held_drew (S := fun W => Fr (fun _ => False) wr W) (by kernel_rfl) ((Fr.refl _ wr).drew) (fun hHeld => ?_)
     refine tl 0 ?v28 rfl ?q28 ?r28
     case q28 => intro W hSw; go_simp; try rfl
     refine tl 1 ?v29 rfl ?q29 ?r29
     case q29 => intro W hSw; go_simp; try rfl
     refine tl 2 ?v30 rfl ?q30 ?r30
     case q30 => intro W hSw; (try obtain ⟨a0, a1, a2, a3, b0, b1, b2, b3⟩ := HC.out W hSw); go_simp; try rfl
     refine tl 3 ?v31 rfl ?q31 ?r31
     case q31 => intro W hSw; (try obtain ⟨a0, a1, a2, a3, b0, b1, b2, b3⟩ := HC.out W hSw); go_simp; try rfl
     refine tl 4 ?v32 rfl ?q32 ?r32
     case q32 => intro W hSw; go_simp; try rfl
     refine tl 5 ?v33 rfl ?q33 ?r33
     case q33 => intro W hSw; go_simp; try rfl
     refine tl 6 ?v34 rfl ?q34 ?r34
     case q34 => intro W hSw; (try obtain ⟨a0, a1, a2, a3, b0, b1, b2, b3⟩ := HC.out W hSw); go_simp; try rfl
     refine tl 7 ?v35 rfl ?q35 ?r35
     case q35 => intro W hSw; (try obtain ⟨a0, a1, a2, a3, b0, b1, b2, b3⟩ := HC.out W hSw); go_simp; try rfl
     refine tl 8 ?v36 rfl ?q36 ?r36
     case q36 => intro W hSw; (try obtain ⟨a0, a1, a2, a3, b0, b1, b2, b3⟩ := HC.out W hSw); go_simp; try rfl
     try simp only [Act.put, sA, sB, sC]
     refine wpAnyH_done (by kernel_rfl) ?_ _
     go_wp2_with fail
     go_ret
     exact ⟨by rw [hne.out]; rfl, (Ho.out.trans hHeld (fun _ h => h.elim)).below (fun _ h => h.elim)⟩
   ·obtain rfl : k = n := by omega
    have hE : Hid (decide (la = lb) = true) := by
     refine decide_eq_true ?_
     have h := htk.out
     rwa [take_all (by rw [hla.out]; exact Nat.le_refl _), take_all (by rw [hlb.out]; exact Nat.le_refl _)] at h
    go_wp2_with fail
    go_ret
    exact ⟨by rw [hE.out]; rfl, Ho.out.below (fun _ h => h.elim)⟩
 ·have hne : Hid (decide (la = lb) = false) := by
   refine decide_eq_false fun h => hnm ?_
   have h1 := hla.out
   have h2 := hlb.out
   rw [h] at h1
   omega
  have hnm2 : ((n : Int) != (m : Int)) = true := by simpa using (show (n : Int) ≠ (m : Int) by omega)
  have hnm3 : ((n : Int) == (m : Int)) = false := by simpa using (show (n : Int) ≠ (m : Int) by omega)
  go_enter Tryz.func132, Tryz.ntmps132
  go_wp2_with fail
  go_ret
  exact ⟨by rw [hne.out]; rfl, Below.refl _ _⟩
set_option maxRecDepth 100000 in
set_option maxHeartbeats 4000000 in
theorem eqints_any (la lb : List Int) (A : Option Addr) (n c : Nat) (B : Option Addr) (m d : Nat) (w : World) (ha : Rd w 1 A n (icells la)) (hb : Rd w 1 B m (icells lb)) (hn : n ≤ 1099511627776) (hm : m ≤ 1099511627776) :
  Calls Tryz.prog 51 #[.slice A n c, .slice B m d] w fun r w' => r = .returned (.bool (decide (la = lb))) ∧ Below w.heap.size w w' := by
 have Ha := Lib.hid ha
 have Hb := Lib.hid hb
 have hla := Lib.hid ha.icells_len
 have hlb := Lib.hid hb.icells_len
 clear ha hb
 by_cases hnm : n = m
 ·subst hnm
  go_enter Tryz.func51, Tryz.ntmps51
  go_wp2_with fail
  go_loopw [13] (fun i wr => ∃ k : Nat, k ≤ n ∧ i = .int .i64 k ∧ Hid (la.take k = lb.take k) ∧ Fr (fun _ => False) w wr) (fun i _ => n - (intOf i).toNat)
  case atStart => exact ⟨0, Nat.zero_le _, rfl, rfl, Fr.refl _ _⟩
  case round =>
   obtain ⟨k, hk, rfl, htk, ho⟩ := hrel
   have Ho := Lib.hid ho
   clear ho
   by_cases hlt : k < n
   ·obtain ⟨ad, x, rfl, hx, a0⟩ := (Ha.out.fr0 Ho.out).icell_ hlt
    obtain ⟨bd, y, rfl, hy, b0⟩ := (Hb.out.fr0 Ho.out).icell_ hlt
    have kn : 0 ≤ (k : Int) ∧ (k : Int) < (n : Int) := by omega
    have Hx := Lib.hid hx
    have Hy := Lib.hid hy
    have HC : Hid (∀ W, Fr (fun _ => False) wr W → W.cell? (ad.add k) = some (.int .i64 x) ∧ W.cell? (bd.add k) = some (.int .i64 y)) := fun W f => ⟨f.cell a0 (fun h => h), f.cell b0 (fun h => h)⟩
    by_cases heq : x = y
    ·have htk2 : Hid (la.take (k + 1) = lb.take (k + 1)) := by show _ = _; rw [take_snoc Hx.out, take_snoc Hy.out, htk.out, heq]
     have q : (x == y) = true := by simpa using heq
     have q2 : decide (x = y) = true := decide_eq_true heq
     clear hx hy a0 b0
     go_wp2_with fail
     refine wp_region_held_drew (S := fun W => Fr (fun _ => False) wr W) (by kernel_rfl) ((Fr.refl _ wr).drew) (fun hHeld => ?_)
     refine tl 0 ?v37 rfl ?q37 ?r37
     case q37 => intro W hSw; go_simp; try rfl
     refine tl 1 ?v38 rfl ?q38 ?r38
     case q38 => intro W hSw; go_simp; try rfl
     refine tl 2 ?v39 rfl ?q39 ?r39
     case q39 => intro W hSw; (try obtain ⟨a0, b0⟩ := HC.out W hSw); go_simp; try rfl
     refine tl 3 ?v40 rfl ?q40 ?r40
     case q40 => intro W hSw; (try obtain ⟨a0, b0⟩ := HC.out W hSw); go_simp; try rfl
     refine tl 4 ?v41 rfl ?q41 ?r41
     case q41 => intro W hSw; go_simp; try rfl
     refine tl 5 ?v42 rfl ?q42 ?r42
     case q42 => intro W hSw; go_simp; try rfl
     refine tl 6 ?v43 rfl ?q43 ?r43
     case q43 => intro W hSw; (try obtain ⟨a0, b0⟩ := HC.out W hSw); go_simp; try rfl
     refine tl 7 ?v44 rfl ?q44 ?r44
     case q44 => intro W hSw; (try obtain ⟨a0, b0⟩ := HC.out W hSw); go_simp; try rfl
     refine tl 8 ?v45 rfl ?q45 ?r45
     case q45 => intro W hSw; (try obtain ⟨a0, b0⟩ := HC.out W hSw); go_simp; try rfl
     try simp only [Act.put, sA, sB, sC]
     refine wpAnyH_done (by kernel_rfl) ?_ _
     go_wp2_with fail
     go_roundw
     case rel => exact ⟨k + 1, by omega, by go_num, htk2.out, Ho.out.trans hHeld (fun _ h => h.elim)⟩
     case measure => simp [intOf]; omega
    ·have hne : Hid (decide (la = lb) = false) := by
      refine decide_eq_false fun h => ?_
      have h1 := Hx.out
      have h2 := Hy.out
      rw [h] at h1
      rw [h1] at h2
      exact heq (Option.some.inj h2)
     have q : (x == y) = false := by simpa using heq
     have q2 : decide (x = y) = false := decide_eq_false heq
     have q3 : ¬ x = y := heq
     clear hx hy a0 b0
     go_wp2_with fail
     refine wp_region_held_drew (S := fun W => Fr (fun _ => False) wr W) (by kernel_rfl) ((Fr.refl _ wr).drew) (fun hHeld => ?_)
     refine tl 0 ?v46 rfl ?q46 ?r46
     case q46 => intro W hSw; go_simp; try rfl
     refine tl 1 ?v47 rfl ?q47 ?r47
     case q47 => intro W hSw; go_simp; try rfl
     refine tl 2 ?v48 rfl ?q48 ?r48
     case q48 => intro W hSw; (try obtain ⟨a0, b0⟩ := HC.out W hSw); go_simp; try rfl
     refine tl 3 ?v49 rfl ?q49 ?r49
     case q49 => intro W hSw; (try obtain ⟨a0, b0⟩ := HC.out W hSw); go_simp; try rfl
     refine tl 4 ?v50 rfl ?q50 ?r50
     case q50 => intro W hSw; go_simp; try rfl
     refine tl 5 ?v51 rfl ?q51 ?r51
     case q51 => intro W hSw; go_simp; try rfl
     refine tl 6 ?v52 rfl ?q52 ?r52
     case q52 => intro W hSw; (try obtain ⟨a0, b0⟩ := HC.out W hSw); go_simp; try rfl
     refine tl 7 ?v53 rfl ?q53 ?r53
     case q53 => intro W hSw; (try obtain ⟨a0, b0⟩ := HC.out W hSw); go_simp; try rfl
     refine tl 8 ?v54 rfl ?q54 ?r54
     case q54 => intro W hSw; (try obtain ⟨a0, b0⟩ := HC.out W hSw); go_simp; try rfl
     try simp only [Act.put, sA, sB, sC]
     refine wpAnyH_done (by kernel_rfl) ?_ _
     go_wp2_with fail
     go_ret
     exact ⟨by rw [hne.out]; rfl, (Ho.out.trans hHeld (fun _ h => h.elim)).below (fun _ h => h.elim)⟩
   ·obtain rfl : k = n := by omega
    have hE : Hid (decide (la = lb) = true) := by
     refine decide_eq_true ?_
     have h := htk.out
     rwa [take_all (by rw [hla.out]; exact Nat.le_refl _), take_all (by rw [hlb.out]; exact Nat.le_refl _)] at h
    go_wp2_with fail
    go_ret
    exact ⟨by rw [hE.out]; rfl, Ho.out.below (fun _ h => h.elim)⟩
 ·have hne : Hid (decide (la = lb) = false) := by
   refine decide_eq_false fun h => hnm ?_
   have h1 := hla.out
   have h2 := hlb.out
   rw [h] at h1
   omega
  have hnm2 : ((n : Int) != (m : Int)) = true := by simpa using (show (n : Int) ≠ (m : Int) by omega)
  have hnm3 : ((n : Int) == (m : Int)) = false := by simpa using (show (n : Int) ≠ (m : Int) by omega)
  go_enter Tryz.func51, Tryz.ntmps51
  go_wp2_with fail
  go_ret
  exact ⟨by rw [hne.out]; rfl, Below.refl _ _⟩
end Go.Proofs.YtbblmmneeafhgaaGreat
namespace Go.Proofs.YtbblmmneeafhgaaGreat
set_option linter.all false
open Go.RowKit

set_option maxRecDepth 100000 in
set_option maxHeartbeats 4000000 in
theorem polsame_any (na nb : ByteArray) (la lb : List TierV) (A : Option Addr) (n c : Nat) (B : Option Addr) (m d : Nat) (w : World) (ha : Rd w 4 A n (tcells la)) (hb : Rd w 4 B m (tcells lb)) (hn : n ≤ 1099511627776) (hm : m ≤ 1099511627776) :
  Calls Tryz.prog 50 #[polV na A n c, polV nb B m d] w fun r w' => r = .returned (.bool (decide (na = nb) && decide (la = lb))) ∧ Below w.heap.size w w' := by
 unfold polV
 have F0 : Hid (Fr (fun _ => False) w ((w.alloc (.cells #[.string na, .slice A n c] 24)).alloc (.cells #[.string nb, .slice B m d] 24))) := (Fr.none_alloc _ _).trans (Fr.none_alloc _ _) (fun _ h => h.elim)
 have B1 : Hid (Blk ((w.alloc (.cells #[.string na, .slice A n c] 24)).alloc (.cells #[.string nb, .slice B m d] 24)) w.heap.size 24 #[.string na, .slice A n c]) := (Blk.new w 24 #[.string na, .slice A n c]).fr (Fr.none_alloc _ _) (fun h => h)
 have B2 : Hid (Blk ((w.alloc (.cells #[.string na, .slice A n c] 24)).alloc (.cells #[.string nb, .slice B m d] 24)) (w.heap.size + 1) 24 #[.string nb, .slice B m d]) := by
  have := Blk.new (w.alloc (.cells #[.string na, .slice A n c] 24)) 24 #[.string nb, .slice B m d]
  show Blk _ _ _ _
  simpa using this
 have Ha := Lib.hid ha
 have Hb := Lib.hid hb
 clear ha hb
 have HQ0 : Hid (∀ W, Fr (fun _ => False) ((w.alloc (.cells #[.string na, .slice A n c] 24)).alloc (.cells #[.string nb, .slice B m d] 24)) W → Calls Tryz.prog 132 #[.slice A n c, .slice B m d] W fun r w' => r = .returned (.bool (decide (la = lb))) ∧ Below W.heap.size W w') := fun W f => eqtiers_any la lb A n c B m d W ((Ha.out.fr0 F0.out).fr0 f) ((Hb.out.fr0 F0.out).fr0 f) hn hm
 obtain ⟨E, hE⟩ : ∃ E, decide (la = lb) = E := ⟨_, rfl⟩
 rw [hE] at HQ0 ⊢
 by_cases hab : na = nb
 ·subst hab
  have hd : Hid (decide (na = na) = true) := decide_eq_true rfl
  go_enter Tryz.func50, Tryz.ntmps50
  go_wp2_with fail
  refine (HQ0.out _ (Fr.refl _ _)).mono ?_
  rintro r w5 ⟨rfl, b5⟩
  go_wp2_with fail
  go_ret
  exact ⟨by rw [hd.out]; rfl, (F0.out.trans (Fr.b0 b5) (fun _ h => h.elim)).below (fun _ h => h.elim)⟩
 ·have hd : Hid (decide (na = nb) = false) := decide_eq_false hab
  have hab3 : ¬ na.toList = nb.toList := fun e => hab (toList_inj e)
  have hab4 : decide (na = nb) = false := decide_eq_false hab
  go_enter Tryz.func50, Tryz.ntmps50
  go_wp2_with fail
  go_ret
  exact ⟨by rw [hd.out]; rfl, F0.out.below (fun _ h => h.elim)⟩
end Go.Proofs.YtbblmmneeafhgaaGreat
