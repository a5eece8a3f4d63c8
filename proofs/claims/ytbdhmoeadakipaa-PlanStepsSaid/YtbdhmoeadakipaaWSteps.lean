/- PlanSteps: of every policy. -/
import Derived.Test.YtbdhmoeadakipaaLawSteps
namespace Go.Proofs.Ytbdhmoeadakipaa
open Go.RowKit
theorem steps_walk (nmt : ByteArray) (lt : List TierV) (At : Option Addr) (nt ct : Nat) (s : ByteArray) (tier : Int) (w : World)
    (ht : Rd w 4 At nt (tcells lt)) (htc : nt ≤ ct) (hnt : nmt.size ≤ maxLen) (hwt : ∀ t ∈ lt, t.wf) (hn2 : nt ≤ 9223372036854775807) (hs : s.size ≤ maxLen) :
    Calls Try.prog 4 #[polV nmt At nt ct, .string s, .int .i64 tier] w fun r w' => r = .returned (.bool true) ∧ Below w.heap.size w w' := by
  cases hck : checkB nmt lt
  · exact steps_bad nmt lt At nt ct s tier w ht htc hnt hwt hn2 hs hck
  · exact steps_good nmt lt At nt ct s tier w ht htc hnt hwt hn2 hs hck
end Go.Proofs.Ytbdhmoeadakipaa
