/- Walks of the document: One, Less, Merge. -/
import Derived.Test.YtlhhcancfgjfkaaGreatTabAddL
import Derived.Test.YtlhhcancfgjfkaaGreatRefRec
import Derived.Test.YtlhhcancfgjfkaaGreatGoodX
namespace Go.Proofs.YtlhhcancfgjfkaaGreat
set_option linter.all false
open Go.RowKit

set_option maxRecDepth 100000 in
set_option maxHeartbeats 1000000 in
theorem rone_any (v : Int) (hv : in64 v) (w : World) : Calls Tryz.prog 63 #[.int .i64 v] w fun r w' => r = .returned (aggOne v).val ∧ Below w.heap.size w w' := by
  obtain ⟨h0, h1⟩ := hv
  have hu : IntKind.u64.wrap v = v % 18446744073709551616 := by simp [IntKind.wrap, IntKind.signed, IntKind.bits]
  unfold AggV.val aggOne
  have B := Lib.hid (Blk.new w 106 #[.int .i64 0, .int .i64 0, .int .u64 0, .int .i64 0, .int .i64 0])
  have O := Lib.hid ((Fr.none_alloc w (.cells #[.int .i64 0, .int .i64 0, .int .u64 0, .int .i64 0, .int .i64 0] 106)).below (fun _ h => h.elim))
  by_cases hn : v < 0
  · have hq : v / 9223372036854775808 = -1 := by omega
    rw [hq]
    have hd : decide (v < 0) = true := decide_eq_true hn
    obtain ⟨lo, hlo⟩ : ∃ lo, v % 18446744073709551616 = lo := ⟨_, rfl⟩
    rw [hlo] at hu ⊢
    clear hq hlo
    go_enter Tryz.func63, Tryz.ntmps63
    go_wp2_with fail
    refine bodyPost_ret (v := .agg #[.int .i64 1, .int .i64 (-1), .int .u64 lo, .int .i64 v, .int .i64 v]) ?_ rfl ⟨rfl, (Fr.none_alloc _ _).below (fun _ h => h.elim)⟩
    simp [results, Tryz.results63, go_sem, *]
  · have hq : v / 9223372036854775808 = 0 := by omega
    rw [hq]
    have hd : decide (v < 0) = false := decide_eq_false hn
    obtain ⟨lo, hlo⟩ : ∃ lo, v % 18446744073709551616 = lo := ⟨_, rfl⟩
    rw [hlo] at hu ⊢
    clear hq hlo
    go_enter Tryz.func63, Tryz.ntmps63
    go_wp2_with fail
    refine bodyPost_ret (v := .agg #[.int .i64 1, .int .i64 0, .int .u64 lo, .int .i64 v, .int .i64 v]) ?_ rfl ⟨rfl, (Fr.none_alloc _ _).below (fun _ h => h.elim)⟩
    simp [results, Tryz.results63, go_sem, *]

set_option maxRecDepth 100000 in
set_option maxHeartbeats 2000000 in
theorem rless_any (a b : RecV) (w : World) : Calls Tryz.prog 150 #[a.val, b.val] w fun r w' => r = .returned (.bool (decide (klt a b))) ∧ Below w.heap.size w w' := by
  obtain ⟨an, as_, ⟨a1, a2, a3, a4, a5⟩⟩ := a
  obtain ⟨bn, bs, ⟨b1, b2, b3, b4, b5⟩⟩ := b
  unfold RecV.val
  simp only
  have hk : decide (klt (⟨an, as_, ⟨a1, a2, a3, a4, a5⟩⟩ : RecV) ⟨bn, bs, ⟨b1, b2, b3, b4, b5⟩⟩) = (decide (an.toList < bn.toList) || (decide (an = bn) && decide (as_ < bs))) := by
    unfold klt
    by_cases h1 : an.toList < bn.toList <;> by_cases h2 : an = bn <;> by_cases h3 : as_ < bs <;> simp [h1, h2, h3]
  rw [hk]
  have O := Lib.hid (((Own.start w).skip (Fr.none_alloc w (.cells #[.string an, .int .i64 as_, .int .i64 a1, .int .i64 a2, .int .u64 a3, .int .i64 a4, .int .i64 a5] 108))).skip (Fr.none_alloc _ (.cells #[.string bn, .int .i64 bs, .int .i64 b1, .int .i64 b2, .int .u64 b3, .int .i64 b4, .int .i64 b5] 108)))
  by_cases h1 : an.toList < bn.toList
  · have e1 : Op.bytesLess an.toList bn.toList = true := by rw [bl_eq]; exact decide_eq_true h1
    rw [decide_eq_true h1, Bool.true_or]
    clear hk h1
    go_enter Tryz.func150, Tryz.ntmps150
    go_wp2_with fail
    go_ret
    exact ⟨rfl, O.out.bel⟩
  · have e1 : Op.bytesLess an.toList bn.toList = false := by rw [bl_eq]; exact decide_eq_false h1
    rw [decide_eq_false h1, Bool.false_or]
    by_cases h2 : an = bn
    · subst h2
      rw [decide_eq_true rfl, Bool.true_and]
      clear hk h1
      go_enter Tryz.func150, Tryz.ntmps150
      go_wp2_with fail
      go_ret
      exact ⟨rfl, O.out.bel⟩
    · have e2 : (an.toList = bn.toList) = False := by simpa using fun h => h2 (toList_inj h)
      have e3 : (an.toList == bn.toList) = false := by simpa using fun h => h2 (toList_inj h)
      have e4 : decide (an.toList = bn.toList) = false := decide_eq_false (fun h => h2 (toList_inj h))
      rw [decide_eq_false h2, Bool.false_and]
      clear hk h1 h2
      go_enter Tryz.func150, Tryz.ntmps150
      go_wp2_with fail
      go_ret
      exact ⟨rfl, O.out.bel⟩
end Go.Proofs.YtlhhcancfgjfkaaGreat
