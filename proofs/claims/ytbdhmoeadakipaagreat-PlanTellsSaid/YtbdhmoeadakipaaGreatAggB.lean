/- Walks of agg: Valid, one, both (of none), Of (of one value), Put, Get. -/
import Derived.Test.YtbdhmoeadakipaaGreatPkDone
import Derived.Deep.RegionWith
import Derived.Deep.DeepCutAuto
namespace Go.Proofs.YtbdhmoeadakipaaGreat
open Go.RowKit

/-- An api.Agg. -/
structure AggV where
  count : Int
  hi : Int
  lo : Int
  min : Int
  max : Int
def AggV.cells (a : AggV) : List Value := [.int .i64 a.count, .int .i64 a.hi, .int .u64 a.lo, .int .i64 a.min, .int .i64 a.max]
def AggV.val (a : AggV) : Value := .agg #[.int .i64 a.count, .int .i64 a.hi, .int .u64 a.lo, .int .i64 a.min, .int .i64 a.max]
def in64 (x : Int) : Prop := -9223372036854775808 ≤ x ∧ x ≤ 9223372036854775807
def AggV.wf (a : AggV) : Prop := in64 a.count ∧ in64 a.hi ∧ (0 ≤ a.lo ∧ a.lo ≤ 18446744073709551615) ∧ in64 a.min ∧ in64 a.max
def aggOk (a : AggV) : Bool := decide (1 ≤ a.count) && decide (a.count ≤ 4611686018427387904) && decide (a.min ≤ a.max)
def agg0 : AggV := ⟨0, 0, 0, 0, 0⟩

/-- The Agg of one value. -/
def aggOne (v : Int) : AggV := ⟨1, v / 9223372036854775808, v % 18446744073709551616, v, v⟩
/-- An Agg's bytes. -/
def aggB (a : AggV) : List UInt8 := le8 [a.count, a.hi] ++ le a.lo.toNat 8 ++ le8 [a.min, a.max]
theorem aggB_len (a : AggV) : (aggB a).length = 40 := by simp [aggB, le8_len, le_length]

end Go.Proofs.YtbdhmoeadakipaaGreat
namespace Go.Proofs.YtbdhmoeadakipaaGreat
open Go.RowKit

/-- What five words of bytes tell. -/
def aggOf (l : List UInt8) : AggV := ⟨sgn (ofLe (l.take 8)), sgn (ofLe ((l.drop 8).take 8)), ofLe ((l.drop 16).take 8), sgn (ofLe ((l.drop 24).take 8)), sgn (ofLe ((l.drop 32).take 8))⟩
def aggGetV (l : List UInt8) : AggV × Int := if l.length = 40 then (bif aggOk (aggOf l) then (aggOf l, 0) else (agg0, 6)) else (agg0, 5)
theorem uTake_in {b : List UInt8} {n : Nat} (h : n ≤ b.length) : uTake 0 b n = (0, b.drop n, b.take n) := by
  unfold uTake
  rw [if_pos rfl, if_neg (by omega)]

end Go.Proofs.YtbdhmoeadakipaaGreat
