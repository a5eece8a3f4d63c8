/- Structs compared: samples, records, tiers. -/
import Derived.Test.YtbdhmoeadakipaaGreatRecE
namespace Go.Proofs.YtbdhmoeadakipaaGreat
open Go.RowKit

theorem eqs_string (d : Nat) (a b : ByteArray) (w : World) : (Op.equalIn (d + 1) 9 (.string a) (.string b)).run Tryz.prog w = .ok (a.toList == b.toList) w := run_equalIn_string w d _ a b (by kernel_rfl)
theorem eqs_int (d : Nat) (a b : Int) (w : World) : (Op.equalIn (d + 1) 3 (.int .i64 a) (.int .i64 b)).run Tryz.prog w = .ok (a == b) w := run_equalIn_int w d _ .i64 .i64 a b (by kernel_rfl)
theorem eqs_u64 (d : Nat) (a b : Int) (w : World) : (Op.equalIn (d + 1) 122 (.int .u64 a) (.int .u64 b)).run Tryz.prog w = .ok (a == b) w := run_equalIn_int w d _ .u64 .u64 a b (by kernel_rfl)
theorem toList_inj {a b : ByteArray} (h : a.toList = b.toList) : a = b := by
  rw [Lib.toList_data, Lib.toList_data] at h
  cases a; cases b
  simp only at h
  congr
  exact Array.toList_inj.1 h

def sampEq (x y : SampV) : Bool := (x.name.toList == y.name.toList) && ((x.time == y.time) && (x.value == y.value))
theorem sampEq_iff (x y : SampV) : sampEq x y = true ↔ x = y := by
  obtain ⟨a, b, c⟩ := x
  obtain ⟨a', b', c'⟩ := y
  unfold sampEq
  simp only [Bool.and_eq_true, beq_iff_eq, SampV.mk.injEq]
  exact ⟨fun h => ⟨toList_inj h.1, h.2⟩, fun h => ⟨by rw [h.1], h.2⟩⟩
instance sampDec : DecidableEq SampV := fun x y => if h : sampEq x y = true then isTrue ((sampEq_iff x y).1 h) else isFalse fun e => h ((sampEq_iff x y).2 e)
theorem run_eqsamp (x y : SampV) (w : World) : (binOp .eql 129 x.val y.val).run Tryz.prog w = .ok (.bool (sampEq x y)) w := by
  have hu : Tryz.prog.underlying 129 = some (.struct (Tryz.prog.fieldsOf 129)) := by kernel_rfl
  have hp : Tryz.prog.stoodInHeld 129 = false := by kernel_rfl
  have hf : (Tryz.prog.fieldsOf 129).toList = [⟨"Name", 9, 0, false, "", "", 0⟩, ⟨"Time", 3, 1, false, "", "", 16⟩, ⟨"Value", 3, 2, false, "", "", 24⟩] := by kernel_rfl
  unfold SampV.val sampEq
  rw [run_eql_struct, run_equalIn_struct (P := Tryz.prog) w 9999 _ _ _ hu hp, hf]
  simp [Op.eqFields, part, eqs_string 9998, eqs_int 9998]
  by_cases h1 : x.name.toList = y.name.toList <;> by_cases h2 : x.time = y.time <;> by_cases h3 : x.value = y.value <;> simp [h1, h2, h3]

def aggEq (x y : AggV) : Bool := (x.count == y.count) && ((x.hi == y.hi) && ((x.lo == y.lo) && ((x.min == y.min) && (x.max == y.max))))
def recEq (x y : RecV) : Bool := (x.name.toList == y.name.toList) && ((x.start == y.start) && aggEq x.agg y.agg)
theorem aggEq_iff (x y : AggV) : aggEq x y = true ↔ x = y := by
  obtain ⟨a, b, c, d, e⟩ := x
  obtain ⟨a', b', c', d', e'⟩ := y
  unfold aggEq
  simp only [Bool.and_eq_true, beq_iff_eq, AggV.mk.injEq]
theorem recEq_iff (x y : RecV) : recEq x y = true ↔ x = y := by
  obtain ⟨a, b, c⟩ := x
  obtain ⟨a', b', c'⟩ := y
  unfold recEq
  simp only [Bool.and_eq_true, beq_iff_eq, RecV.mk.injEq, aggEq_iff]
  exact ⟨fun h => ⟨toList_inj h.1, h.2⟩, fun h => ⟨by rw [h.1], h.2⟩⟩
instance recDec : DecidableEq RecV := fun x y => if h : recEq x y = true then isTrue ((recEq_iff x y).1 h) else isFalse fun e => h ((recEq_iff x y).2 e)
theorem run_eqagg (d : Nat) (x y : AggV) (w : World) : (Op.equalIn (d + 2) 124 x.val y.val).run Tryz.prog w = .ok (aggEq x y) w := by
  have hu : Tryz.prog.underlying 124 = some (.struct (Tryz.prog.fieldsOf 124)) := by kernel_rfl
  have hp : Tryz.prog.stoodInHeld 124 = false := by kernel_rfl
  have hf : (Tryz.prog.fieldsOf 124).toList = [⟨"Count", 3, 0, false, "", "", 0⟩, ⟨"Hi", 3, 1, false, "", "", 8⟩, ⟨"Lo", 122, 2, false, "", "", 16⟩, ⟨"Min", 3, 3, false, "", "", 24⟩, ⟨"Max", 3, 4, false, "", "", 32⟩] := by kernel_rfl
  unfold AggV.val aggEq
  rw [run_equalIn_struct (P := Tryz.prog) w (d + 1) _ _ _ hu hp, hf]
  simp [Op.eqFields, part, eqs_int d, eqs_u64 d]
  by_cases h1 : x.count = y.count <;> by_cases h2 : x.hi = y.hi <;> by_cases h3 : x.lo = y.lo <;> by_cases h4 : x.min = y.min <;> by_cases h5 : x.max = y.max <;> simp [h1, h2, h3, h4, h5]
theorem run_eqrec (x y : RecV) (w : World) : (binOp .eql 126 x.val y.val).run Tryz.prog w = .ok (.bool (recEq x y)) w := by
  have hu : Tryz.prog.underlying 126 = some (.struct (Tryz.prog.fieldsOf 126)) := by kernel_rfl
  have hp : Tryz.prog.stoodInHeld 126 = false := by kernel_rfl
  have hf : (Tryz.prog.fieldsOf 126).toList = [⟨"Name", 9, 0, false, "", "", 0⟩, ⟨"Start", 3, 1, false, "", "", 16⟩, ⟨"Agg", 124, 2, false, "", "", 24⟩] := by kernel_rfl
  have hA := run_eqagg 9997 x.agg y.agg
  unfold AggV.val at hA
  unfold RecV.val recEq
  rw [run_eql_struct, run_equalIn_struct (P := Tryz.prog) w 9999 _ _ _ hu hp, hf]
  simp [Op.eqFields, hA, eqs_string 9998, eqs_int 9998, part]
  by_cases h1 : x.name.toList = y.name.toList <;> by_cases h2 : x.start = y.start <;> cases aggEq x.agg y.agg <;> simp [h1, h2]
end Go.Proofs.YtbdhmoeadakipaaGreat
