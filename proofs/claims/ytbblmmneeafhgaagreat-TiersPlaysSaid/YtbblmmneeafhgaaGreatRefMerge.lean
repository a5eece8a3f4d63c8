/- Walks of sedimentref1: Packer (Word, Int, Name), Unpacker (take, Word, Int, Name), Name, Valid. -/
import Derived.Test.YtbblmmneeafhgaaGreatSame
import Derived.Test.YtbblmmneeafhgaaGreatRefGrid
import Derived.Test.YtbblmmneeafhgaaGreatTabAddL
import Derived.Test.YtbblmmneeafhgaaGreatGoodX
namespace Go.Proofs.YtbblmmneeafhgaaGreat
set_option linter.all false
open Go.RowKit

end Go.Proofs.YtbblmmneeafhgaaGreat
namespace Go.Proofs.YtbblmmneeafhgaaGreat
set_option linter.all false
open Go.RowKit

end Go.Proofs.YtbblmmneeafhgaaGreat
namespace Go.Proofs.YtbblmmneeafhgaaGreat
set_option linter.all false
open Go.RowKit

set_option maxHeartbeats 1000000 in
theorem raggvalid_any (a : AggV) (w : World) : Calls Tryz.prog 145 #[a.val] w fun r w' => r = .returned (.bool (aggOk a)) ∧ Below w.heap.size w w' := by
 have hok : Hid (aggOk a = (decide (1 ≤ a.count) && decide (a.count ≤ 4611686018427387904) && decide (a.min ≤ a.max))) := rfl
 obtain ⟨c, h, lo, m, x⟩ := a
 unfold AggV.val
 simp only at hok
 have O := Lib.hid ((Own.start w).skip (Fr.none_alloc w (.cells #[.int .i64 c, .int .i64 h, .int .u64 lo, .int .i64 m, .int .i64 x] 98)))
 by_cases h1 : 1 ≤ c
 ·by_cases h2 : c ≤ 4611686018427387904
  ·by_cases h3 : m ≤ x
   ·have hv : Hid (aggOk ⟨c, h, lo, m, x⟩ = true) := by show _ = _; rw [hok.out]; simp [h1, h2, h3]
    go_enter Tryz.func145, Tryz.ntmps145
    go_wp2_with fail
    go_ret
    exact ⟨by rw [hv.out]; simp [*], O.out.bel⟩
   ·have h3d : decide (m ≤ x) = false := decide_eq_false h3
    have hv : Hid (aggOk ⟨c, h, lo, m, x⟩ = false) := by show _ = _; rw [hok.out]; simp [h3]
    go_enter Tryz.func145, Tryz.ntmps145
    go_wp2_with fail
    go_ret
    exact ⟨by rw [hv.out]; simp [*], O.out.bel⟩
  ·have h2d : decide (c ≤ 4611686018427387904) = false := decide_eq_false h2
   have hv : Hid (aggOk ⟨c, h, lo, m, x⟩ = false) := by show _ = _; rw [hok.out]; simp [h2]
   go_enter Tryz.func145, Tryz.ntmps145
   go_wp2_with fail
   go_ret
   exact ⟨by rw [hv.out]; simp [*], O.out.bel⟩
 ·have h1d : decide (1 ≤ c) = false := decide_eq_false h1
  have hv : Hid (aggOk ⟨c, h, lo, m, x⟩ = false) := by show _ = _; rw [hok.out]; simp [h1]
  go_enter Tryz.func145, Tryz.ntmps145
  go_wp2_with fail
  go_ret
  exact ⟨by rw [hv.out]; simp [*], O.out.bel⟩

end Go.Proofs.YtbblmmneeafhgaaGreat
namespace Go.Proofs.YtbblmmneeafhgaaGreat
set_option linter.all false
open Go.RowKit

set_option maxRecDepth 100000 in
set_option maxHeartbeats 1000000 in
theorem rone_any (v : Int) (hv : in64 v) (w : World) : Calls Tryz.prog 140 #[.int .i64 v] w fun r w' => r = .returned (aggOne v).val ∧ Below w.heap.size w w' := by
 obtain ⟨h0, h1⟩ := hv
 have hu : IntKind.u64.wrap v = v % 18446744073709551616 := by simp [IntKind.wrap, IntKind.signed, IntKind.bits]
 unfold AggV.val aggOne
 have B := Lib.hid (Blk.new w 98 #[.int .i64 0, .int .i64 0, .int .u64 0, .int .i64 0, .int .i64 0])
 have O := Lib.hid ((Fr.none_alloc w (.cells #[.int .i64 0, .int .i64 0, .int .u64 0, .int .i64 0, .int .i64 0] 98)).below (fun _ h => h.elim))
 by_cases hn : v < 0
 ·have hq : v / 9223372036854775808 = -1 := by omega
  rw [hq]
  have hd : decide (v < 0) = true := decide_eq_true hn
  obtain ⟨lo, hlo⟩ : ∃ lo, v % 18446744073709551616 = lo := ⟨_, rfl⟩
  rw [hlo] at hu ⊢
  clear hq hlo
  go_enter Tryz.func140, Tryz.ntmps140
  go_wp2_with fail
  refine bodyPost_ret (v := .agg #[.int .i64 1, .int .i64 (-1), .int .u64 lo, .int .i64 v, .int .i64 v]) ?_ rfl ⟨rfl, (Fr.none_alloc _ _).below (fun _ h => h.elim)⟩
  simp [results, Tryz.results140, go_sem, *]
 ·have hq : v / 9223372036854775808 = 0 := by omega
  rw [hq]
  have hd : decide (v < 0) = false := decide_eq_false hn
  obtain ⟨lo, hlo⟩ : ∃ lo, v % 18446744073709551616 = lo := ⟨_, rfl⟩
  rw [hlo] at hu ⊢
  clear hq hlo
  go_enter Tryz.func140, Tryz.ntmps140
  go_wp2_with fail
  refine bodyPost_ret (v := .agg #[.int .i64 1, .int .i64 0, .int .u64 lo, .int .i64 v, .int .i64 v]) ?_ rfl ⟨rfl, (Fr.none_alloc _ _).below (fun _ h => h.elim)⟩
  simp [results, Tryz.results140, go_sem, *]

set_option maxRecDepth 100000 in
set_option maxHeartbeats 2000000 in
theorem rless_any (a b : RecV) (w : World) : Calls Tryz.prog 146 #[a.val, b.val] w fun r w' => r = .returned (.bool (decide (klt a b))) ∧ Below w.heap.size w w' := by
 obtain ⟨an, as_, ⟨a1, a2, a3, a4, a5⟩⟩ := a
 obtain ⟨bn, bs, ⟨b1, b2, b3, b4, b5⟩⟩ := b
 unfold RecV.val
 simp only
 have hk : decide (klt (⟨an, as_, ⟨a1, a2, a3, a4, a5⟩⟩ : RecV) ⟨bn, bs, ⟨b1, b2, b3, b4, b5⟩⟩) = (decide (an.toList < bn.toList) || (decide (an = bn) && decide (as_ < bs))) := by
  unfold klt
  by_cases h1 : an.toList < bn.toList <;> by_cases h2 : an = bn <;> by_cases h3 : as_ < bs <;> simp [h1, h2, h3]
 rw [hk]
 have O := Lib.hid (((Own.start w).skip (Fr.none_alloc w (.cells #[.string an, .int .i64 as_, .int .i64 a1, .int .i64 a2, .int .u64 a3, .int .i64 a4, .int .i64 a5] 100))).skip (Fr.none_alloc _ (.cells #[.string bn, .int .i64 bs, .int .i64 b1, .int .i64 b2, .int .u64 b3, .int .i64 b4, .int .i64 b5] 100)))
 by_cases h1 : an.toList < bn.toList
 ·have e1 : Op.bytesLess an.toList bn.toList = true := by rw [bl_eq]; exact decide_eq_true h1
  rw [decide_eq_true h1, Bool.true_or]
  clear hk h1
  go_enter Tryz.func146, Tryz.ntmps146
  go_wp2_with fail
  go_ret
  exact ⟨rfl, O.out.bel⟩
 ·have e1 : Op.bytesLess an.toList bn.toList = false := by rw [bl_eq]; exact decide_eq_false h1
  rw [decide_eq_false h1, Bool.false_or]
  by_cases h2 : an = bn
  ·subst h2
   rw [decide_eq_true rfl, Bool.true_and]
   clear hk h1
   go_enter Tryz.func146, Tryz.ntmps146
   go_wp2_with fail
   go_ret
   exact ⟨rfl, O.out.bel⟩
  ·have e2 : (an.toList = bn.toList) = False := by simpa using fun h => h2 (toList_inj h)
   have e3 : (an.toList == bn.toList) = false := by simpa using fun h => h2 (toList_inj h)
   have e4 : decide (an.toList = bn.toList) = false := decide_eq_false (fun h => h2 (toList_inj h))
   rw [decide_eq_false h2, Bool.false_and]
   clear hk h1 h2
   go_enter Tryz.func146, Tryz.ntmps146
   go_wp2_with fail
   go_ret
   exact ⟨rfl, O.out.bel⟩
end Go.Proofs.YtbblmmneeafhgaaGreat
namespace Go.Proofs.YtbblmmneeafhgaaGreat
set_option linter.all false
open Go.RowKit

theorem rmerge_carry (x y z : Int) (h : z = 1) : wrap64 (x + y + z) = wrap64 (wrap64 (x + y) + 1) := by
 subst h
 unfold wrap64
 omega
set_option maxRecDepth 100000 in
set_option maxHeartbeats 4000000 in
theorem rmerge_any (a b : AggV) (ha : a.wf) (hb : b.wf) (w : World) : Calls Tryz.prog 147 #[a.val, b.val] w fun r w' => r = .returned (mergeL [a, b]).val ∧ Below w.heap.size w w' := by
 have HVa := Lib.hid (fun W => raggvalid_any a W)
 have HVb := Lib.hid (fun W => raggvalid_any b W)
 have hm : mergeL [a, b] = if aggOk a then (if aggOk b then bothV a b else a) else (if aggOk b then b else agg0) := by
  unfold mergeL
  simp only [List.foldl_cons, List.foldl_nil]
  cases aggOk a <;> cases aggOk b <;> simp [bothV_0]
 rw [hm]
 cases hoa : aggOk a with
 | false =>
  rw [hoa] at HVa
  cases hob : aggOk b with
  | false =>
   rw [hob] at HVb
   obtain ⟨a1, a2, a3, a4, a5⟩ := a
   obtain ⟨b1, b2, b3, b4, b5⟩ := b
   unfold AggV.val at *
   simp only [Bool.false_eq_true, if_false, agg0] at *
   clear hm ha hb hoa hob
   obtain ⟨W3, hW3⟩ : ∃ W3, W3 = ((w.alloc (.cells #[.int .i64 a1, .int .i64 a2, .int .u64 a3, .int .i64 a4, .int .i64 a5] 98)).alloc (.cells #[.int .i64 b1, .int .i64 b2, .int .u64 b3, .int .i64 b4, .int .i64 b5] 98)).alloc (.cells #[.int .i64 0, .int .i64 0, .int .u64 0, .int .i64 0, .int .i64 0] 98) := ⟨_, rfl⟩
   have Ba3 : Hid (Blk W3 w.heap.size 98 #[.int .i64 a1, .int .i64 a2, .int .u64 a3, .int .i64 a4, .int .i64 a5]) := by show Blk _ _ _ _; rw [hW3]; exact ((Blk.new w _ _).alloc _).alloc _
   have Bb3 : Hid (Blk W3 (w.heap.size + 1) 98 #[.int .i64 b1, .int .i64 b2, .int .u64 b3, .int .i64 b4, .int .i64 b5]) := by show Blk _ _ _ _; rw [hW3]; exact (Blk.new' (by simp) _ _).alloc _
   have Bz3 : Hid (Blk W3 (w.heap.size + 2) 98 #[.int .i64 0, .int .i64 0, .int .u64 0, .int .i64 0, .int .i64 0]) := by show Blk _ _ _ _; rw [hW3]; exact Blk.new' (by simp) _ _
   have O3 : Hid (Own w W3 (fun _ => False)) := by show Own _ _ _; rw [hW3]; exact (((Own.start w).skip (Fr.none_alloc _ _)).skip (Fr.none_alloc _ _)).skip (Fr.none_alloc _ _)
   go_enter Tryz.func147, Tryz.ntmps147
   go_wp2_with fail
   rw [← hW3]
   clear hW3
   have pa0 := Ba3.out.cell 0
   have pa1 := Ba3.out.cell 1
   have pa2 := Ba3.out.cell 2
   have pa3 := Ba3.out.cell 3
   have pa4 := Ba3.out.cell 4
   simp only [List.getElem?_toArray, List.getElem?_cons_succ, List.getElem?_cons_zero] at pa0 pa1 pa2 pa3 pa4
   have pb0 := Bb3.out.cell 0
   have pb1 := Bb3.out.cell 1
   have pb2 := Bb3.out.cell 2
   have pb3 := Bb3.out.cell 3
   have pb4 := Bb3.out.cell 4
   simp only [List.getElem?_toArray, List.getElem?_cons_succ, List.getElem?_cons_zero] at pb0 pb1 pb2 pb3 pb4
   have pz0 := Bz3.out.cell 0
   have pz1 := Bz3.out.cell 1
   have pz2 := Bz3.out.cell 2
   have pz3 := Bz3.out.cell 3
   have pz4 := Bz3.out.cell 4
   simp only [List.getElem?_toArray, List.getElem?_cons_succ, List.getElem?_cons_zero] at pz0 pz1 pz2 pz3 pz4
   have g0 := Bz3.out.frozen 0
   have g1 := Bz3.out.frozen 1
   have g2 := Bz3.out.frozen 2
   have g3 := Bz3.out.frozen 3
   have g4 := Bz3.out.frozen 4
   refine (HVa.out _).mono ?_
   rintro r w4 ⟨rfl, b4⟩
   have Ba4 := Lib.hid (Ba3.out.below b4)
   have Bb4 := Lib.hid (Bb3.out.below b4)
   have Bz4 := Lib.hid (Bz3.out.below b4)
   have O4 := Lib.hid (O3.out.skip (Fr.b0 b4))
   clear pa0 pa1 pa2 pa3 pa4 pb0 pb1 pb2 pb3 pb4 pz0 pz1 pz2 pz3 pz4 g0 g1 g2 g3 g4
   clear b4
   have pa0 := Ba4.out.cell 0
   have pa1 := Ba4.out.cell 1
   have pa2 := Ba4.out.cell 2
   have pa3 := Ba4.out.cell 3
   have pa4 := Ba4.out.cell 4
   simp only [List.getElem?_toArray, List.getElem?_cons_succ, List.getElem?_cons_zero] at pa0 pa1 pa2 pa3 pa4
   have pb0 := Bb4.out.cell 0
   have pb1 := Bb4.out.cell 1
   have pb2 := Bb4.out.cell 2
   have pb3 := Bb4.out.cell 3
   have pb4 := Bb4.out.cell 4
   simp only [List.getElem?_toArray, List.getElem?_cons_succ, List.getElem?_cons_zero] at pb0 pb1 pb2 pb3 pb4
   have pz0 := Bz4.out.cell 0
   have pz1 := Bz4.out.cell 1
   have pz2 := Bz4.out.cell 2
   have pz3 := Bz4.out.cell 3
   have pz4 := Bz4.out.cell 4
   simp only [List.getElem?_toArray, List.getElem?_cons_succ, List.getElem?_cons_zero] at pz0 pz1 pz2 pz3 pz4
   have g0 := Bz4.out.frozen 0
   have g1 := Bz4.out.frozen 1
   have g2 := Bz4.out.frozen 2
   have g3 := Bz4.out.frozen 3
   have g4 := Bz4.out.frozen 4
   go_wp2_with fail
   refine (HVb.out _).mono ?_
   rintro r w5 ⟨rfl, b5⟩
   have Ba5 := Lib.hid (Ba4.out.below b5)
   have Bb5 := Lib.hid (Bb4.out.below b5)
   have Bz5 := Lib.hid (Bz4.out.below b5)
   have O5 := Lib.hid (O4.out.skip (Fr.b0 b5))
   clear pa0 pa1 pa2 pa3 pa4 pb0 pb1 pb2 pb3 pb4 pz0 pz1 pz2 pz3 pz4 g0 g1 g2 g3 g4
   clear b5
   have pa0 := Ba5.out.cell 0
   have pa1 := Ba5.out.cell 1
   have pa2 := Ba5.out.cell 2
   have pa3 := Ba5.out.cell 3
   have pa4 := Ba5.out.cell 4
   simp only [List.getElem?_toArray, List.getElem?_cons_succ, List.getElem?_cons_zero] at pa0 pa1 pa2 pa3 pa4
   have pb0 := Bb5.out.cell 0
   have pb1 := Bb5.out.cell 1
   have pb2 := Bb5.out.cell 2
   have pb3 := Bb5.out.cell 3
   have pb4 := Bb5.out.cell 4
   simp only [List.getElem?_toArray, List.getElem?_cons_succ, List.getElem?_cons_zero] at pb0 pb1 pb2 pb3 pb4
   have pz0 := Bz5.out.cell 0
   have pz1 := Bz5.out.cell 1
   have pz2 := Bz5.out.cell 2
   have pz3 := Bz5.out.cell 3
   have pz4 := Bz5.out.cell 4
   simp only [List.getElem?_toArray, List.getElem?_cons_succ, List.getElem?_cons_zero] at pz0 pz1 pz2 pz3 pz4
   have g0 := Bz5.out.frozen 0
   have g1 := Bz5.out.frozen 1
   have g2 := Bz5.out.frozen 2
   have g3 := Bz5.out.frozen 3
   have g4 := Bz5.out.frozen 4
   have oF := ((Own.also O5.out (G := fun j => j = w.heap.size + 2) (fun j hj => by omega)).fr (Fr.set5 (F := fun j => j = w.heap.size + 2) (g := w.heap.size + 2) (Fr.refl _ w5) (.inl rfl) (.int .i64 0) (.int .i64 0) (.int .u64 0) (.int .i64 0) (.int .i64 0))).bel
   go_wp2_with fail
   refine bodyPost_ret (v := .agg #[.int .i64 0, .int .i64 0, .int .u64 0, .int .i64 0, .int .i64 0]) ?_ rfl ⟨rfl, oF⟩
   simp [results, Tryz.results147, go_sem, *]
  | true =>
   rw [hob] at HVb
   obtain ⟨a1, a2, a3, a4, a5⟩ := a
   obtain ⟨b1, b2, b3, b4, b5⟩ := b
   unfold AggV.val at *
   simp only [Bool.false_eq_true, if_false, if_true] at *
   clear hm ha hb hoa hob
   obtain ⟨W3, hW3⟩ : ∃ W3, W3 = ((w.alloc (.cells #[.int .i64 a1, .int .i64 a2, .int .u64 a3, .int .i64 a4, .int .i64 a5] 98)).alloc (.cells #[.int .i64 b1, .int .i64 b2, .int .u64 b3, .int .i64 b4, .int .i64 b5] 98)).alloc (.cells #[.int .i64 0, .int .i64 0, .int .u64 0, .int .i64 0, .int .i64 0] 98) := ⟨_, rfl⟩
   have Ba3 : Hid (Blk W3 w.heap.size 98 #[.int .i64 a1, .int .i64 a2, .int .u64 a3, .int .i64 a4, .int .i64 a5]) := by show Blk _ _ _ _; rw [hW3]; exact ((Blk.new w _ _).alloc _).alloc _
   have Bb3 : Hid (Blk W3 (w.heap.size + 1) 98 #[.int .i64 b1, .int .i64 b2, .int .u64 b3, .int .i64 b4, .int .i64 b5]) := by show Blk _ _ _ _; rw [hW3]; exact (Blk.new' (by simp) _ _).alloc _
   have Bz3 : Hid (Blk W3 (w.heap.size + 2) 98 #[.int .i64 0, .int .i64 0, .int .u64 0, .int .i64 0, .int .i64 0]) := by show Blk _ _ _ _; rw [hW3]; exact Blk.new' (by simp) _ _
   have O3 : Hid (Own w W3 (fun _ => False)) := by show Own _ _ _; rw [hW3]; exact (((Own.start w).skip (Fr.none_alloc _ _)).skip (Fr.none_alloc _ _)).skip (Fr.none_alloc _ _)
   go_enter Tryz.func147, Tryz.ntmps147
   go_wp2_with fail
   rw [← hW3]
   clear hW3
   have pa0 := Ba3.out.cell 0
   have pa1 := Ba3.out.cell 1
   have pa2 := Ba3.out.cell 2
   have pa3 := Ba3.out.cell 3
   have pa4 := Ba3.out.cell 4
   simp only [List.getElem?_toArray, List.getElem?_cons_succ, List.getElem?_cons_zero] at pa0 pa1 pa2 pa3 pa4
   have pb0 := Bb3.out.cell 0
   have pb1 := Bb3.out.cell 1
   have pb2 := Bb3.out.cell 2
   have pb3 := Bb3.out.cell 3
   have pb4 := Bb3.out.cell 4
   simp only [List.getElem?_toArray, List.getElem?_cons_succ, List.getElem?_cons_zero] at pb0 pb1 pb2 pb3 pb4
   have pz0 := Bz3.out.cell 0
   have pz1 := Bz3.out.cell 1
   have pz2 := Bz3.out.cell 2
   have pz3 := Bz3.out.cell 3
   have pz4 := Bz3.out.cell 4
   simp only [List.getElem?_toArray, List.getElem?_cons_succ, List.getElem?_cons_zero] at pz0 pz1 pz2 pz3 pz4
   have g0 := Bz3.out.frozen 0
   have g1 := Bz3.out.frozen 1
   have g2 := Bz3.out.frozen 2
   have g3 := Bz3.out.frozen 3
   have g4 := Bz3.out.frozen 4
   refine (HVa.out _).mono ?_
   rintro r w4 ⟨rfl, b4⟩
   have Ba4 := Lib.hid (Ba3.out.below b4)
   have Bb4 := Lib.hid (Bb3.out.below b4)
   have Bz4 := Lib.hid (Bz3.out.below b4)
   have O4 := Lib.hid (O3.out.skip (Fr.b0 b4))
   clear pa0 pa1 pa2 pa3 pa4 pb0 pb1 pb2 pb3 pb4 pz0 pz1 pz2 pz3 pz4 g0 g1 g2 g3 g4
   clear b4
   have pa0 := Ba4.out.cell 0
   have pa1 := Ba4.out.cell 1
   have pa2 := Ba4.out.cell 2
   have pa3 := Ba4.out.cell 3
   have pa4 := Ba4.out.cell 4
   simp only [List.getElem?_toArray, List.getElem?_cons_succ, List.getElem?_cons_zero] at pa0 pa1 pa2 pa3 pa4
   have pb0 := Bb4.out.cell 0
   have pb1 := Bb4.out.cell 1
   have pb2 := Bb4.out.cell 2
   have pb3 := Bb4.out.cell 3
   have pb4 := Bb4.out.cell 4
   simp only [List.getElem?_toArray, List.getElem?_cons_succ, List.getElem?_cons_zero] at pb0 pb1 pb2 pb3 pb4
   have pz0 := Bz4.out.cell 0
   have pz1 := Bz4.out.cell 1
   have pz2 := Bz4.out.cell 2
   have pz3 := Bz4.out.cell 3
   have pz4 := Bz4.out.cell 4
   simp only [List.getElem?_toArray, List.getElem?_cons_succ, List.getElem?_cons_zero] at pz0 pz1 pz2 pz3 pz4
   have g0 := Bz4.out.frozen 0
   have g1 := Bz4.out.frozen 1
   have g2 := Bz4.out.frozen 2
   have g3 := Bz4.out.frozen 3
   have g4 := Bz4.out.frozen 4
   go_wp2_with fail
   refine (HVb.out _).mono ?_
   rintro r w5 ⟨rfl, b5⟩
   have Ba5 := Lib.hid (Ba4.out.below b5)
   have Bb5 := Lib.hid (Bb4.out.below b5)
   have Bz5 := Lib.hid (Bz4.out.below b5)
   have O5 := Lib.hid (O4.out.skip (Fr.b0 b5))
   clear pa0 pa1 pa2 pa3 pa4 pb0 pb1 pb2 pb3 pb4 pz0 pz1 pz2 pz3 pz4 g0 g1 g2 g3 g4
   clear b5
   have pa0 := Ba5.out.cell 0
   have pa1 := Ba5.out.cell 1
   have pa2 := Ba5.out.cell 2
   have pa3 := Ba5.out.cell 3
   have pa4 := Ba5.out.cell 4
   simp only [List.getElem?_toArray, List.getElem?_cons_succ, List.getElem?_cons_zero] at pa0 pa1 pa2 pa3 pa4
   have pb0 := Bb5.out.cell 0
   have pb1 := Bb5.out.cell 1
   have pb2 := Bb5.out.cell 2
   have pb3 := Bb5.out.cell 3
   have pb4 := Bb5.out.cell 4
   simp only [List.getElem?_toArray, List.getElem?_cons_succ, List.getElem?_cons_zero] at pb0 pb1 pb2 pb3 pb4
   have pz0 := Bz5.out.cell 0
   have pz1 := Bz5.out.cell 1
   have pz2 := Bz5.out.cell 2
   have pz3 := Bz5.out.cell 3
   have pz4 := Bz5.out.cell 4
   simp only [List.getElem?_toArray, List.getElem?_cons_succ, List.getElem?_cons_zero] at pz0 pz1 pz2 pz3 pz4
   have g0 := Bz5.out.frozen 0
   have g1 := Bz5.out.frozen 1
   have g2 := Bz5.out.frozen 2
   have g3 := Bz5.out.frozen 3
   have g4 := Bz5.out.frozen 4
   go_wp2_with fail
   refine (HVa.out _).mono ?_
   rintro r w6 ⟨rfl, b6⟩
   have Ba6 := Lib.hid (Ba5.out.below b6)
   have Bb6 := Lib.hid (Bb5.out.below b6)
   have Bz6 := Lib.hid (Bz5.out.below b6)
   have O6 := Lib.hid (O5.out.skip (Fr.b0 b6))
   clear pa0 pa1 pa2 pa3 pa4 pb0 pb1 pb2 pb3 pb4 pz0 pz1 pz2 pz3 pz4 g0 g1 g2 g3 g4
   clear b6
   have pa0 := Ba6.out.cell 0
   have pa1 := Ba6.out.cell 1
   have pa2 := Ba6.out.cell 2
   have pa3 := Ba6.out.cell 3
   have pa4 := Ba6.out.cell 4
   simp only [List.getElem?_toArray, List.getElem?_cons_succ, List.getElem?_cons_zero] at pa0 pa1 pa2 pa3 pa4
   have pb0 := Bb6.out.cell 0
   have pb1 := Bb6.out.cell 1
   have pb2 := Bb6.out.cell 2
   have pb3 := Bb6.out.cell 3
   have pb4 := Bb6.out.cell 4
   simp only [List.getElem?_toArray, List.getElem?_cons_succ, List.getElem?_cons_zero] at pb0 pb1 pb2 pb3 pb4
   have pz0 := Bz6.out.cell 0
   have pz1 := Bz6.out.cell 1
   have pz2 := Bz6.out.cell 2
   have pz3 := Bz6.out.cell 3
   have pz4 := Bz6.out.cell 4
   simp only [List.getElem?_toArray, List.getElem?_cons_succ, List.getElem?_cons_zero] at pz0 pz1 pz2 pz3 pz4
   have g0 := Bz6.out.frozen 0
   have g1 := Bz6.out.frozen 1
   have g2 := Bz6.out.frozen 2
   have g3 := Bz6.out.frozen 3
   have g4 := Bz6.out.frozen 4
   have oF := ((Own.also O6.out (G := fun j => j = w.heap.size + 2) (fun j hj => by omega)).fr (Fr.set5 (F := fun j => j = w.heap.size + 2) (g := w.heap.size + 2) (Fr.refl _ w6) (.inl rfl) (.int .i64 b1) (.int .i64 b2) (.int .u64 b3) (.int .i64 b4) (.int .i64 b5))).bel
   go_wp2_with fail
   refine bodyPost_ret (v := .agg #[.int .i64 b1, .int .i64 b2, .int .u64 b3, .int .i64 b4, .int .i64 b5]) ?_ rfl ⟨rfl, oF⟩
   simp [results, Tryz.results147, go_sem, *]
 | true =>
  rw [hoa] at HVa
  cases hob : aggOk b with
  | false =>
   rw [hob] at HVb
   obtain ⟨a1, a2, a3, a4, a5⟩ := a
   obtain ⟨b1, b2, b3, b4, b5⟩ := b
   unfold AggV.val at *
   simp only [Bool.false_eq_true, if_false, if_true] at *
   clear hm ha hb hoa hob
   obtain ⟨W3, hW3⟩ : ∃ W3, W3 = ((w.alloc (.cells #[.int .i64 a1, .int .i64 a2, .int .u64 a3, .int .i64 a4, .int .i64 a5] 98)).alloc (.cells #[.int .i64 b1, .int .i64 b2, .int .u64 b3, .int .i64 b4, .int .i64 b5] 98)).alloc (.cells #[.int .i64 0, .int .i64 0, .int .u64 0, .int .i64 0, .int .i64 0] 98) := ⟨_, rfl⟩
   have Ba3 : Hid (Blk W3 w.heap.size 98 #[.int .i64 a1, .int .i64 a2, .int .u64 a3, .int .i64 a4, .int .i64 a5]) := by show Blk _ _ _ _; rw [hW3]; exact ((Blk.new w _ _).alloc _).alloc _
   have Bb3 : Hid (Blk W3 (w.heap.size + 1) 98 #[.int .i64 b1, .int .i64 b2, .int .u64 b3, .int .i64 b4, .int .i64 b5]) := by show Blk _ _ _ _; rw [hW3]; exact (Blk.new' (by simp) _ _).alloc _
   have Bz3 : Hid (Blk W3 (w.heap.size + 2) 98 #[.int .i64 0, .int .i64 0, .int .u64 0, .int .i64 0, .int .i64 0]) := by show Blk _ _ _ _; rw [hW3]; exact Blk.new' (by simp) _ _
   have O3 : Hid (Own w W3 (fun _ => False)) := by show Own _ _ _; rw [hW3]; exact (((Own.start w).skip (Fr.none_alloc _ _)).skip (Fr.none_alloc _ _)).skip (Fr.none_alloc _ _)
   go_enter Tryz.func147, Tryz.ntmps147
   go_wp2_with fail
   rw [← hW3]
   clear hW3
   have pa0 := Ba3.out.cell 0
   have pa1 := Ba3.out.cell 1
   have pa2 := Ba3.out.cell 2
   have pa3 := Ba3.out.cell 3
   have pa4 := Ba3.out.cell 4
   simp only [List.getElem?_toArray, List.getElem?_cons_succ, List.getElem?_cons_zero] at pa0 pa1 pa2 pa3 pa4
   have pb0 := Bb3.out.cell 0
   have pb1 := Bb3.out.cell 1
   have pb2 := Bb3.out.cell 2
   have pb3 := Bb3.out.cell 3
   have pb4 := Bb3.out.cell 4
   simp only [List.getElem?_toArray, List.getElem?_cons_succ, List.getElem?_cons_zero] at pb0 pb1 pb2 pb3 pb4
   have pz0 := Bz3.out.cell 0
   have pz1 := Bz3.out.cell 1
   have pz2 := Bz3.out.cell 2
   have pz3 := Bz3.out.cell 3
   have pz4 := Bz3.out.cell 4
   simp only [List.getElem?_toArray, List.getElem?_cons_succ, List.getElem?_cons_zero] at pz0 pz1 pz2 pz3 pz4
   have g0 := Bz3.out.frozen 0
   have g1 := Bz3.out.frozen 1
   have g2 := Bz3.out.frozen 2
   have g3 := Bz3.out.frozen 3
   have g4 := Bz3.out.frozen 4
   refine (HVa.out _).mono ?_
   rintro r w4 ⟨rfl, b4⟩
   have Ba4 := Lib.hid (Ba3.out.below b4)
   have Bb4 := Lib.hid (Bb3.out.below b4)
   have Bz4 := Lib.hid (Bz3.out.below b4)
   have O4 := Lib.hid (O3.out.skip (Fr.b0 b4))
   clear pa0 pa1 pa2 pa3 pa4 pb0 pb1 pb2 pb3 pb4 pz0 pz1 pz2 pz3 pz4 g0 g1 g2 g3 g4
   clear b4
   have pa0 := Ba4.out.cell 0
   have pa1 := Ba4.out.cell 1
   have pa2 := Ba4.out.cell 2
   have pa3 := Ba4.out.cell 3
   have pa4 := Ba4.out.cell 4
   simp only [List.getElem?_toArray, List.getElem?_cons_succ, List.getElem?_cons_zero] at pa0 pa1 pa2 pa3 pa4
   have pb0 := Bb4.out.cell 0
   have pb1 := Bb4.out.cell 1
   have pb2 := Bb4.out.cell 2
   have pb3 := Bb4.out.cell 3
   have pb4 := Bb4.out.cell 4
   simp only [List.getElem?_toArray, List.getElem?_cons_succ, List.getElem?_cons_zero] at pb0 pb1 pb2 pb3 pb4
   have pz0 := Bz4.out.cell 0
   have pz1 := Bz4.out.cell 1
   have pz2 := Bz4.out.cell 2
   have pz3 := Bz4.out.cell 3
   have pz4 := Bz4.out.cell 4
   simp only [List.getElem?_toArray, List.getElem?_cons_succ, List.getElem?_cons_zero] at pz0 pz1 pz2 pz3 pz4
   have g0 := Bz4.out.frozen 0
   have g1 := Bz4.out.frozen 1
   have g2 := Bz4.out.frozen 2
   have g3 := Bz4.out.frozen 3
   have g4 := Bz4.out.frozen 4
   go_wp2_with fail
   refine (HVa.out _).mono ?_
   rintro r w5 ⟨rfl, b5⟩
   have Ba5 := Lib.hid (Ba4.out.below b5)
   have Bb5 := Lib.hid (Bb4.out.below b5)
   have Bz5 := Lib.hid (Bz4.out.below b5)
   have O5 := Lib.hid (O4.out.skip (Fr.b0 b5))
   clear pa0 pa1 pa2 pa3 pa4 pb0 pb1 pb2 pb3 pb4 pz0 pz1 pz2 pz3 pz4 g0 g1 g2 g3 g4
   clear b5
   have pa0 := Ba5.out.cell 0
   have pa1 := Ba5.out.cell 1
   have pa2 := Ba5.out.cell 2
   have pa3 := Ba5.out.cell 3
   have pa4 := Ba5.out.cell 4
   simp only [List.getElem?_toArray, List.getElem?_cons_succ, List.getElem?_cons_zero] at pa0 pa1 pa2 pa3 pa4
   have pb0 := Bb5.out.cell 0
   have pb1 := Bb5.out.cell 1
   have pb2 := Bb5.out.cell 2
   have pb3 := Bb5.out.cell 3
   have pb4 := Bb5.out.cell 4
   simp only [List.getElem?_toArray, List.getElem?_cons_succ, List.getElem?_cons_zero] at pb0 pb1 pb2 pb3 pb4
   have pz0 := Bz5.out.cell 0
   have pz1 := Bz5.out.cell 1
   have pz2 := Bz5.out.cell 2
   have pz3 := Bz5.out.cell 3
   have pz4 := Bz5.out.cell 4
   simp only [List.getElem?_toArray, List.getElem?_cons_succ, List.getElem?_cons_zero] at pz0 pz1 pz2 pz3 pz4
   have g0 := Bz5.out.frozen 0
   have g1 := Bz5.out.frozen 1
   have g2 := Bz5.out.frozen 2
   have g3 := Bz5.out.frozen 3
   have g4 := Bz5.out.frozen 4
   go_wp2_with fail
   refine (HVb.out _).mono ?_
   rintro r w6 ⟨rfl, b6⟩
   have Ba6 := Lib.hid (Ba5.out.below b6)
   have Bb6 := Lib.hid (Bb5.out.below b6)
   have Bz6 := Lib.hid (Bz5.out.below b6)
   have O6 := Lib.hid (O5.out.skip (Fr.b0 b6))
   clear pa0 pa1 pa2 pa3 pa4 pb0 pb1 pb2 pb3 pb4 pz0 pz1 pz2 pz3 pz4 g0 g1 g2 g3 g4
   clear b6
   have pa0 := Ba6.out.cell 0
   have pa1 := Ba6.out.cell 1
   have pa2 := Ba6.out.cell 2
   have pa3 := Ba6.out.cell 3
   have pa4 := Ba6.out.cell 4
   simp only [List.getElem?_toArray, List.getElem?_cons_succ, List.getElem?_cons_zero] at pa0 pa1 pa2 pa3 pa4
   have pb0 := Bb6.out.cell 0
   have pb1 := Bb6.out.cell 1
   have pb2 := Bb6.out.cell 2
   have pb3 := Bb6.out.cell 3
   have pb4 := Bb6.out.cell 4
   simp only [List.getElem?_toArray, List.getElem?_cons_succ, List.getElem?_cons_zero] at pb0 pb1 pb2 pb3 pb4
   have pz0 := Bz6.out.cell 0
   have pz1 := Bz6.out.cell 1
   have pz2 := Bz6.out.cell 2
   have pz3 := Bz6.out.cell 3
   have pz4 := Bz6.out.cell 4
   simp only [List.getElem?_toArray, List.getElem?_cons_succ, List.getElem?_cons_zero] at pz0 pz1 pz2 pz3 pz4
   have g0 := Bz6.out.frozen 0
   have g1 := Bz6.out.frozen 1
   have g2 := Bz6.out.frozen 2
   have g3 := Bz6.out.frozen 3
   have g4 := Bz6.out.frozen 4
   have oF := ((Own.also O6.out (G := fun j => j = w.heap.size + 2) (fun j hj => by omega)).fr (Fr.set5 (F := fun j => j = w.heap.size + 2) (g := w.heap.size + 2) (Fr.refl _ w6) (.inl rfl) (.int .i64 a1) (.int .i64 a2) (.int .u64 a3) (.int .i64 a4) (.int .i64 a5))).bel
   go_wp2_with fail
   refine bodyPost_ret (v := .agg #[.int .i64 a1, .int .i64 a2, .int .u64 a3, .int .i64 a4, .int .i64 a5]) ?_ rfl ⟨rfl, oF⟩
   simp [results, Tryz.results147, go_sem, *]
  | true =>
   rw [hob] at HVb
   obtain ⟨q1, q2, q3⟩ := aggOk_pos hoa
   obtain ⟨k1, k2, k3⟩ := aggOk_pos hob
   obtain ⟨a1, a2, a3, a4, a5⟩ := a
   obtain ⟨b1, b2, b3, b4, b5⟩ := b
   obtain ⟨_, ⟨ha1, ha2⟩, ⟨ha3, ha4⟩, _, _⟩ := ha
   obtain ⟨_, ⟨hb1, hb2⟩, ⟨hb3, hb4⟩, _, _⟩ := hb
   unfold AggV.val at *
   simp only [if_true] at *
   obtain ⟨cy, hcy⟩ : ∃ cy, (a3 + b3) / 18446744073709551616 = cy := ⟨_, rfl⟩
   obtain ⟨lo, hlo⟩ : ∃ lo, (a3 + b3) % 18446744073709551616 = lo := ⟨_, rfl⟩
   obtain ⟨mn, hmn⟩ : ∃ mn, min a4 b4 = mn := ⟨_, rfl⟩
   obtain ⟨mx, hmx⟩ : ∃ mx, max a5 b5 = mx := ⟨_, rfl⟩
   have Hlo := Lib.hid hlo
   have Hcy := Lib.hid hcy
   have hlc : (lo < a3 → cy = 1) ∧ (¬ lo < a3 → cy = 0) := by omega
   have HR : Hid (∀ cnt hi : Int, (if a1 < 4611686018427387904 - b1 then a1 + b1 else 4611686018427387904) = cnt → wrap64 (a2 + b2 + (a3 + b3) / 18446744073709551616) = hi → bothV ⟨a1, a2, a3, a4, a5⟩ ⟨b1, b2, b3, b4, b5⟩ = ⟨cnt, hi, lo, mn, mx⟩) := fun cnt hi h1 h2 => by
    unfold bothV
    simp only
    rw [if_neg (show ¬ a1 = 0 by omega), h1, h2, hlo, hmn, hmx]
   clear hm hoa hob hcy hlo
   obtain ⟨W3, hW3⟩ : ∃ W3, W3 = ((w.alloc (.cells #[.int .i64 a1, .int .i64 a2, .int .u64 a3, .int .i64 a4, .int .i64 a5] 98)).alloc (.cells #[.int .i64 b1, .int .i64 b2, .int .u64 b3, .int .i64 b4, .int .i64 b5] 98)).alloc (.cells #[.int .i64 0, .int .i64 0, .int .u64 0, .int .i64 0, .int .i64 0] 98) := ⟨_, rfl⟩
   have Ba3 : Hid (Blk W3 w.heap.size 98 #[.int .i64 a1, .int .i64 a2, .int .u64 a3, .int .i64 a4, .int .i64 a5]) := by show Blk _ _ _ _; rw [hW3]; exact ((Blk.new w _ _).alloc _).alloc _
   have Bb3 : Hid (Blk W3 (w.heap.size + 1) 98 #[.int .i64 b1, .int .i64 b2, .int .u64 b3, .int .i64 b4, .int .i64 b5]) := by show Blk _ _ _ _; rw [hW3]; exact (Blk.new' (by simp) _ _).alloc _
   have Bz3 : Hid (Blk W3 (w.heap.size + 2) 98 #[.int .i64 0, .int .i64 0, .int .u64 0, .int .i64 0, .int .i64 0]) := by show Blk _ _ _ _; rw [hW3]; exact Blk.new' (by simp) _ _
   have O3 : Hid (Own w W3 (fun _ => False)) := by show Own _ _ _; rw [hW3]; exact (((Own.start w).skip (Fr.none_alloc _ _)).skip (Fr.none_alloc _ _)).skip (Fr.none_alloc _ _)
   go_enter Tryz.func147, Tryz.ntmps147
   go_wp2_with fail
   rw [← hW3]
   clear hW3
   have pa0 := Ba3.out.cell 0
   have pa1 := Ba3.out.cell 1
   have pa2 := Ba3.out.cell 2
   have pa3 := Ba3.out.cell 3
   have pa4 := Ba3.out.cell 4
   simp only [List.getElem?_toArray, List.getElem?_cons_succ, List.getElem?_cons_zero] at pa0 pa1 pa2 pa3 pa4
   have pb0 := Bb3.out.cell 0
   have pb1 := Bb3.out.cell 1
   have pb2 := Bb3.out.cell 2
   have pb3 := Bb3.out.cell 3
   have pb4 := Bb3.out.cell 4
   simp only [List.getElem?_toArray, List.getElem?_cons_succ, List.getElem?_cons_zero] at pb0 pb1 pb2 pb3 pb4
   have pz0 := Bz3.out.cell 0
   have pz1 := Bz3.out.cell 1
   have pz2 := Bz3.out.cell 2
   have pz3 := Bz3.out.cell 3
   have pz4 := Bz3.out.cell 4
   simp only [List.getElem?_toArray, List.getElem?_cons_succ, List.getElem?_cons_zero] at pz0 pz1 pz2 pz3 pz4
   have g0 := Bz3.out.frozen 0
   have g1 := Bz3.out.frozen 1
   have g2 := Bz3.out.frozen 2
   have g3 := Bz3.out.frozen 3
   have g4 := Bz3.out.frozen 4
   refine (HVa.out _).mono ?_
   rintro r w4 ⟨rfl, b4⟩
   have Ba4 := Lib.hid (Ba3.out.below b4)
   have Bb4 := Lib.hid (Bb3.out.below b4)
   have Bz4 := Lib.hid (Bz3.out.below b4)
   have O4 := Lib.hid (O3.out.skip (Fr.b0 b4))
   clear pa0 pa1 pa2 pa3 pa4 pb0 pb1 pb2 pb3 pb4 pz0 pz1 pz2 pz3 pz4 g0 g1 g2 g3 g4
   clear b4
   have pa0 := Ba4.out.cell 0
   have pa1 := Ba4.out.cell 1
   have pa2 := Ba4.out.cell 2
   have pa3 := Ba4.out.cell 3
   have pa4 := Ba4.out.cell 4
   simp only [List.getElem?_toArray, List.getElem?_cons_succ, List.getElem?_cons_zero] at pa0 pa1 pa2 pa3 pa4
   have pb0 := Bb4.out.cell 0
   have pb1 := Bb4.out.cell 1
   have pb2 := Bb4.out.cell 2
   have pb3 := Bb4.out.cell 3
   have pb4 := Bb4.out.cell 4
   simp only [List.getElem?_toArray, List.getElem?_cons_succ, List.getElem?_cons_zero] at pb0 pb1 pb2 pb3 pb4
   have pz0 := Bz4.out.cell 0
   have pz1 := Bz4.out.cell 1
   have pz2 := Bz4.out.cell 2
   have pz3 := Bz4.out.cell 3
   have pz4 := Bz4.out.cell 4
   simp only [List.getElem?_toArray, List.getElem?_cons_succ, List.getElem?_cons_zero] at pz0 pz1 pz2 pz3 pz4
   have g0 := Bz4.out.frozen 0
   have g1 := Bz4.out.frozen 1
   have g2 := Bz4.out.frozen 2
   have g3 := Bz4.out.frozen 3
   have g4 := Bz4.out.frozen 4
   go_wp2_with fail
   refine (HVa.out _).mono ?_
   rintro r w5 ⟨rfl, b5⟩
   have Ba5 := Lib.hid (Ba4.out.below b5)
   have Bb5 := Lib.hid (Bb4.out.below b5)
   have Bz5 := Lib.hid (Bz4.out.below b5)
   have O5 := Lib.hid (O4.out.skip (Fr.b0 b5))
   clear pa0 pa1 pa2 pa3 pa4 pb0 pb1 pb2 pb3 pb4 pz0 pz1 pz2 pz3 pz4 g0 g1 g2 g3 g4
   clear b5
   have pa0 := Ba5.out.cell 0
   have pa1 := Ba5.out.cell 1
   have pa2 := Ba5.out.cell 2
   have pa3 := Ba5.out.cell 3
   have pa4 := Ba5.out.cell 4
   simp only [List.getElem?_toArray, List.getElem?_cons_succ, List.getElem?_cons_zero] at pa0 pa1 pa2 pa3 pa4
   have pb0 := Bb5.out.cell 0
   have pb1 := Bb5.out.cell 1
   have pb2 := Bb5.out.cell 2
   have pb3 := Bb5.out.cell 3
   have pb4 := Bb5.out.cell 4
   simp only [List.getElem?_toArray, List.getElem?_cons_succ, List.getElem?_cons_zero] at pb0 pb1 pb2 pb3 pb4
   have pz0 := Bz5.out.cell 0
   have pz1 := Bz5.out.cell 1
   have pz2 := Bz5.out.cell 2
   have pz3 := Bz5.out.cell 3
   have pz4 := Bz5.out.cell 4
   simp only [List.getElem?_toArray, List.getElem?_cons_succ, List.getElem?_cons_zero] at pz0 pz1 pz2 pz3 pz4
   have g0 := Bz5.out.frozen 0
   have g1 := Bz5.out.frozen 1
   have g2 := Bz5.out.frozen 2
   have g3 := Bz5.out.frozen 3
   have g4 := Bz5.out.frozen 4
   go_wp2_with fail
   refine (HVb.out _).mono ?_
   rintro r w6 ⟨rfl, b6⟩
   have Ba6 := Lib.hid (Ba5.out.below b6)
   have Bb6 := Lib.hid (Bb5.out.below b6)
   have Bz6 := Lib.hid (Bz5.out.below b6)
   have O6 := Lib.hid (O5.out.skip (Fr.b0 b6))
   clear pa0 pa1 pa2 pa3 pa4 pb0 pb1 pb2 pb3 pb4 pz0 pz1 pz2 pz3 pz4 g0 g1 g2 g3 g4
   clear b6
   have pa0 := Ba6.out.cell 0
   have pa1 := Ba6.out.cell 1
   have pa2 := Ba6.out.cell 2
   have pa3 := Ba6.out.cell 3
   have pa4 := Ba6.out.cell 4
   simp only [List.getElem?_toArray, List.getElem?_cons_succ, List.getElem?_cons_zero] at pa0 pa1 pa2 pa3 pa4
   have pb0 := Bb6.out.cell 0
   have pb1 := Bb6.out.cell 1
   have pb2 := Bb6.out.cell 2
   have pb3 := Bb6.out.cell 3
   have pb4 := Bb6.out.cell 4
   simp only [List.getElem?_toArray, List.getElem?_cons_succ, List.getElem?_cons_zero] at pb0 pb1 pb2 pb3 pb4
   have pz0 := Bz6.out.cell 0
   have pz1 := Bz6.out.cell 1
   have pz2 := Bz6.out.cell 2
   have pz3 := Bz6.out.cell 3
   have pz4 := Bz6.out.cell 4
   simp only [List.getElem?_toArray, List.getElem?_cons_succ, List.getElem?_cons_zero] at pz0 pz1 pz2 pz3 pz4
   have g0 := Bz6.out.frozen 0
   have g1 := Bz6.out.frozen 1
   have g2 := Bz6.out.frozen 2
   have g3 := Bz6.out.frozen 3
   have g4 := Bz6.out.frozen 4
   have pa0w := fun o => (Fr.none_alloc w6 o).cell pa0 (fun h => h)
   have pa1w := fun o => (Fr.none_alloc w6 o).cell pa1 (fun h => h)
   have pa2w := fun o => (Fr.none_alloc w6 o).cell pa2 (fun h => h)
   have pa3w := fun o => (Fr.none_alloc w6 o).cell pa3 (fun h => h)
   have pa4w := fun o => (Fr.none_alloc w6 o).cell pa4 (fun h => h)
   have pb0w := fun o => (Fr.none_alloc w6 o).cell pb0 (fun h => h)
   have pb1w := fun o => (Fr.none_alloc w6 o).cell pb1 (fun h => h)
   have pb2w := fun o => (Fr.none_alloc w6 o).cell pb2 (fun h => h)
   have pb3w := fun o => (Fr.none_alloc w6 o).cell pb3 (fun h => h)
   have pb4w := fun o => (Fr.none_alloc w6 o).cell pb4 (fun h => h)
   have pz0w := fun o => (Fr.none_alloc w6 o).cell pz0 (fun h => h)
   have pz1w := fun o => (Fr.none_alloc w6 o).cell pz1 (fun h => h)
   have pz2w := fun o => (Fr.none_alloc w6 o).cell pz2 (fun h => h)
   have pz3w := fun o => (Fr.none_alloc w6 o).cell pz3 (fun h => h)
   have pz4w := fun o => (Fr.none_alloc w6 o).cell pz4 (fun h => h)
   have g0w := fun o => (Bz6.out.alloc o).frozen 0
   have g1w := fun o => (Bz6.out.alloc o).frozen 1
   have g2w := fun o => (Bz6.out.alloc o).frozen 2
   have g3w := fun o => (Bz6.out.alloc o).frozen 3
   have g4w := fun o => (Bz6.out.alloc o).frozen 4
   have hs : IntKind.i64.wrap (4611686018427387904 - b1) = 4611686018427387904 - b1 := by simp [IntKind.wrap, IntKind.signed, IntKind.bits]; omega
   have hl : IntKind.u64.wrap (a3 + b3) = lo := by rw [← Hlo.out]; simp [IntKind.wrap, IntKind.signed, IntKind.bits]
   by_cases hc : a1 ≤ 4611686018427387904 - b1
   ·have d1 : decide (a1 ≤ 4611686018427387904 - b1) = true := decide_eq_true hc
    have hsum : IntKind.i64.wrap (a1 + b1) = a1 + b1 := by simp [IntKind.wrap, IntKind.signed, IntKind.bits]; omega
    by_cases hd : lo < a3
    ·have d2 : decide (lo < a3) = true := decide_eq_true hd
     have Hv := Lib.hid (HR.out (a1 + b1) (wrap64 (wrap64 (a2 + b2) + 1)) (by split <;> omega) (by rw [Hcy.out]; exact rmerge_carry a2 b2 _ (hlc.1 (by omega))))
     have oF := ((Own.also (O6.out.skip (Fr.none_alloc w6 (.cells #[.int .i64 (a1 + b1), .int .i64 (wrap64 (wrap64 (a2 + b2) + 1)), .int .u64 lo, .int .i64 mn, .int .i64 mx] 98))) (G := fun j => j = w.heap.size + 2) (fun j hj => by omega)).fr (Fr.set5 (F := fun j => j = w.heap.size + 2) (g := w.heap.size + 2) (Fr.refl _ _) (.inl rfl) (.int .i64 (a1 + b1)) (.int .i64 (wrap64 (wrap64 (a2 + b2) + 1))) (.int .u64 lo) (.int .i64 mn) (.int .i64 mx))).bel
     go_wp2_with fail
     refine bodyPost_ret (v := .agg #[.int .i64 (a1 + b1), .int .i64 (wrap64 (wrap64 (a2 + b2) + 1)), .int .u64 lo, .int .i64 mn, .int .i64 mx]) ?_ rfl ⟨by rw [Hv.out], oF⟩
     simp [results, Tryz.results147, go_sem, *]
    ·have d2 : decide (lo < a3) = false := decide_eq_false hd
     have Hv := Lib.hid (HR.out (a1 + b1) (wrap64 (a2 + b2)) (by split <;> omega) (by rw [Hcy.out, hlc.2 (by omega), Int.add_zero]))
     have oF := ((Own.also (O6.out.skip (Fr.none_alloc w6 (.cells #[.int .i64 (a1 + b1), .int .i64 (wrap64 (a2 + b2)), .int .u64 lo, .int .i64 mn, .int .i64 mx] 98))) (G := fun j => j = w.heap.size + 2) (fun j hj => by omega)).fr (Fr.set5 (F := fun j => j = w.heap.size + 2) (g := w.heap.size + 2) (Fr.refl _ _) (.inl rfl) (.int .i64 (a1 + b1)) (.int .i64 (wrap64 (a2 + b2))) (.int .u64 lo) (.int .i64 mn) (.int .i64 mx))).bel
     go_wp2_with fail
     refine bodyPost_ret (v := .agg #[.int .i64 (a1 + b1), .int .i64 (wrap64 (a2 + b2)), .int .u64 lo, .int .i64 mn, .int .i64 mx]) ?_ rfl ⟨by rw [Hv.out], oF⟩
     simp [results, Tryz.results147, go_sem, *]
   ·have d1 : decide (a1 ≤ 4611686018427387904 - b1) = false := decide_eq_false hc
    by_cases hd : lo < a3
    ·have d2 : decide (lo < a3) = true := decide_eq_true hd
     have Hv := Lib.hid (HR.out 4611686018427387904 (wrap64 (wrap64 (a2 + b2) + 1)) (by split <;> omega) (by rw [Hcy.out]; exact rmerge_carry a2 b2 _ (hlc.1 (by omega))))
     have oF := ((Own.also (O6.out.skip (Fr.none_alloc w6 (.cells #[.int .i64 4611686018427387904, .int .i64 (wrap64 (wrap64 (a2 + b2) + 1)), .int .u64 lo, .int .i64 mn, .int .i64 mx] 98))) (G := fun j => j = w.heap.size + 2) (fun j hj => by omega)).fr (Fr.set5 (F := fun j => j = w.heap.size + 2) (g := w.heap.size + 2) (Fr.refl _ _) (.inl rfl) (.int .i64 4611686018427387904) (.int .i64 (wrap64 (wrap64 (a2 + b2) + 1))) (.int .u64 lo) (.int .i64 mn) (.int .i64 mx))).bel
     go_wp2_with fail
     refine bodyPost_ret (v := .agg #[.int .i64 4611686018427387904, .int .i64 (wrap64 (wrap64 (a2 + b2) + 1)), .int .u64 lo, .int .i64 mn, .int .i64 mx]) ?_ rfl ⟨by rw [Hv.out], oF⟩
     simp [results, Tryz.results147, go_sem, *]
    ·have d2 : decide (lo < a3) = false := decide_eq_false hd
     have Hv := Lib.hid (HR.out 4611686018427387904 (wrap64 (a2 + b2)) (by split <;> omega) (by rw [Hcy.out, hlc.2 (by omega), Int.add_zero]))
     have oF := ((Own.also (O6.out.skip (Fr.none_alloc w6 (.cells #[.int .i64 4611686018427387904, .int .i64 (wrap64 (a2 + b2)), .int .u64 lo, .int .i64 mn, .int .i64 mx] 98))) (G := fun j => j = w.heap.size + 2) (fun j hj => by omega)).fr (Fr.set5 (F := fun j => j = w.heap.size + 2) (g := w.heap.size + 2) (Fr.refl _ _) (.inl rfl) (.int .i64 4611686018427387904) (.int .i64 (wrap64 (a2 + b2))) (.int .u64 lo) (.int .i64 mn) (.int .i64 mx))).bel
     go_wp2_with fail
     refine bodyPost_ret (v := .agg #[.int .i64 4611686018427387904, .int .i64 (wrap64 (a2 + b2)), .int .u64 lo, .int .i64 mn, .int .i64 mx]) ?_ rfl ⟨by rw [Hv.out], oF⟩
     simp [results, Tryz.results147, go_sem, *]
end Go.Proofs.YtbblmmneeafhgaaGreat
