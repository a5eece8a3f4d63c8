/- Walks of agg: Valid, one, both (of none), Of (of one value), Put, Get. -/
import Derived.Test.YteajonicnkpbbaaGreatDoorPkBack
import Derived.Deep.RegionWith
import Derived.Deep.DeepCutAuto
import Derived.Test.YteajonicnkpbbaaGreatDoorPolB
import Derived.Test.YteajonicnkpbbaaGreatDoorBase
namespace Go.Proofs.YteajonicnkpbbaaGreatDoor
set_option linter.all false
open Go.RowKit

structure AggV where
 count : Int
 hi : Int
 lo : Int
 min : Int
 max : Int
def AggV.cells (a : AggV) : List Value := [.int .i64 a.count, .int .i64 a.hi, .int .u64 a.lo, .int .i64 a.min, .int .i64 a.max]
def AggV.val (a : AggV) : Value := .agg #[.int .i64 a.count, .int .i64 a.hi, .int .u64 a.lo, .int .i64 a.min, .int .i64 a.max]
def in64 (x : Int) : Prop := -9223372036854775808 ≤ x ∧ x ≤ 9223372036854775807
def AggV.wf (a : AggV) : Prop := in64 a.count ∧ in64 a.hi ∧ (0 ≤ a.lo ∧ a.lo ≤ 18446744073709551615) ∧ in64 a.min ∧ in64 a.max
def aggOk (a : AggV) : Bool := decide (1 ≤ a.count) && decide (a.count ≤ 4611686018427387904) && decide (a.min ≤ a.max)
def agg0 : AggV := ⟨0, 0, 0, 0, 0⟩

def aggOne (v : Int) : AggV := ⟨1, v / 9223372036854775808, v % 18446744073709551616, v, v⟩
end Go.Proofs.YteajonicnkpbbaaGreatDoor
namespace Go.Proofs.YteajonicnkpbbaaGreatDoor
set_option linter.all false
open Go.RowKit

end Go.Proofs.YteajonicnkpbbaaGreatDoor
namespace Go.Proofs.YteajonicnkpbbaaGreatDoor
set_option linter.all false
open Go.RowKit

structure RecV where
 name : ByteArray
 start : Int
 agg : AggV
def RecV.cells (r : RecV) : List Value := [.string r.name, .int .i64 r.start, .int .i64 r.agg.count, .int .i64 r.agg.hi, .int .u64 r.agg.lo, .int .i64 r.agg.min, .int .i64 r.agg.max]
def RecV.val (r : RecV) : Value := .agg #[.string r.name, .int .i64 r.start, .int .i64 r.agg.count, .int .i64 r.agg.hi, .int .u64 r.agg.lo, .int .i64 r.agg.min, .int .i64 r.agg.max]
def RecV.wf (r : RecV) : Prop := in64 r.start ∧ r.agg.wf ∧ r.name.size ≤ maxLen
theorem validB_le {s : ByteArray} (h : validB s = true) : s.size ≤ 15 := by
 rcases Nat.lt_or_ge 15 s.size with h1 | h1
 ·rw [validB_long h1] at h; cases h
 ·exact h1
end Go.Proofs.YteajonicnkpbbaaGreatDoor
namespace Go.Proofs.YteajonicnkpbbaaGreatDoor
set_option linter.all false
open Go.RowKit

def rcells (l : List RecV) : List Value := l.flatMap RecV.cells
end Go.Proofs.YteajonicnkpbbaaGreatDoor
namespace Go.Proofs.YteajonicnkpbbaaGreatDoor
set_option linter.all false
open Go.RowKit

structure SampV where
 name : ByteArray
 time : Int
 value : Int
def SampV.cells (s : SampV) : List Value := [.string s.name, .int .i64 s.time, .int .i64 s.value]
def SampV.val (s : SampV) : Value := .agg #[.string s.name, .int .i64 s.time, .int .i64 s.value]
def SampV.wf (s : SampV) : Prop := in64 s.time ∧ in64 s.value ∧ s.name.size ≤ maxLen
def scells (l : List SampV) : List Value := l.flatMap SampV.cells
end Go.Proofs.YteajonicnkpbbaaGreatDoor
namespace Go.Proofs.YteajonicnkpbbaaGreatDoor
set_option linter.all false
open Go.RowKit

theorem uTake_rest (e : Int) (b : List UInt8) (n : Nat) : (uTake e b n).2.1.length ≤ b.length := by
 unfold uTake
 split
 ·split
  ·exact Nat.le_refl _
  ·show (b.drop n).length ≤ _; rw [List.length_drop]; omega
 ·exact Nat.le_refl _
end Go.Proofs.YteajonicnkpbbaaGreatDoor
namespace Go.Proofs.YteajonicnkpbbaaGreatDoor
set_option linter.all false
open Go.RowKit

end Go.Proofs.YteajonicnkpbbaaGreatDoor
namespace Go.Proofs.YteajonicnkpbbaaGreatDoor
set_option linter.all false
open Go.RowKit

end Go.Proofs.YteajonicnkpbbaaGreatDoor
namespace Go.Proofs.YteajonicnkpbbaaGreatDoor
set_option linter.all false
open Go.RowKit

theorem toList_inj {a b : ByteArray} (h : a.toList = b.toList) : a = b := by
 rw [Lib.toList_data, Lib.toList_data] at h
 cases a; cases b
 simp only at h
 congr
 exact Array.toList_inj.1 h

def sampEq (x y : SampV) : Bool := (x.name.toList == y.name.toList) && ((x.time == y.time) && (x.value == y.value))
theorem sampEq_iff (x y : SampV) : sampEq x y = true ↔ x = y := by
 obtain ⟨a, b, c⟩ := x
 obtain ⟨a', b', c'⟩ := y
 unfold sampEq
 simp only [Bool.and_eq_true, beq_iff_eq, SampV.mk.injEq]
 exact ⟨fun h => ⟨toList_inj h.1, h.2⟩, fun h => ⟨by rw [h.1], h.2⟩⟩
instance sampDec : DecidableEq SampV := fun x y => if h : sampEq x y = true then isTrue ((sampEq_iff x y).1 h) else isFalse fun e => h ((sampEq_iff x y).2 e)
def aggEq (x y : AggV) : Bool := (x.count == y.count) && ((x.hi == y.hi) && ((x.lo == y.lo) && ((x.min == y.min) && (x.max == y.max))))
def recEq (x y : RecV) : Bool := (x.name.toList == y.name.toList) && ((x.start == y.start) && aggEq x.agg y.agg)
theorem aggEq_iff (x y : AggV) : aggEq x y = true ↔ x = y := by
 obtain ⟨a, b, c, d, e⟩ := x
 obtain ⟨a', b', c', d', e'⟩ := y
 unfold aggEq
 simp only [Bool.and_eq_true, beq_iff_eq, AggV.mk.injEq]
theorem recEq_iff (x y : RecV) : recEq x y = true ↔ x = y := by
 obtain ⟨a, b, c⟩ := x
 obtain ⟨a', b', c'⟩ := y
 unfold recEq
 simp only [Bool.and_eq_true, beq_iff_eq, RecV.mk.injEq, aggEq_iff]
 exact ⟨fun h => ⟨toList_inj h.1, h.2⟩, fun h => ⟨by rw [h.1], h.2⟩⟩
instance recDec : DecidableEq RecV := fun x y => if h : recEq x y = true then isTrue ((recEq_iff x y).1 h) else isFalse fun e => h ((recEq_iff x y).2 e)
end Go.Proofs.YteajonicnkpbbaaGreatDoor
namespace Go.Proofs.YteajonicnkpbbaaGreatDoor
set_option linter.all false
open Go.RowKit

end Go.Proofs.YteajonicnkpbbaaGreatDoor
namespace Go.Proofs.YteajonicnkpbbaaGreatDoor
set_option linter.all false
open Go.RowKit

end Go.Proofs.YteajonicnkpbbaaGreatDoor
namespace Go.Proofs.YteajonicnkpbbaaGreatDoor
set_option linter.all false
open Go.RowKit

end Go.Proofs.YteajonicnkpbbaaGreatDoor
