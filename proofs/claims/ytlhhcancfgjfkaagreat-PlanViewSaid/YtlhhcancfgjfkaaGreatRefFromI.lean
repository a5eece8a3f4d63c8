/- Walk of the document: Reach.From at any index. -/
import Derived.Test.YtlhhcancfgjfkaaGreatRefFrom
import Derived.Test.YtlhhcancfgjfkaaGreatBases
namespace Go.Proofs.YtlhhcancfgjfkaaGreat
set_option linter.all false
open Go.RowKit

theorem ref_from_bad (now : Int) (nm : ByteArray) (A : Option Addr) (n c : Nat) (B : Option Addr) (m d : Nat) (i : Int) (w : World) (hi : ¬ (0 ≤ i ∧ i < (n : Int))) :
    Calls Tryz.prog 21 #[reachV now nm A n c B m d, .int .i64 i] w fun r w' => r = .returned (.int .i64 0) ∧ Below w.heap.size w w' := by
  unfold reachV
  have O := Lib.hid ((Own.start w).skip (Fr.none_alloc w (.cells #[.int .i64 now, .string nm, .slice A n c, .slice B m d] 46)))
  by_cases h : i < 0
  · go_enter Tryz.func21, Tryz.ntmps21
    go_wp2_with fail
    go_ret
    exact ⟨rfl, O.out.bel⟩
  · have h2 : (n : Int) ≤ i := by omega
    go_enter Tryz.func21, Tryz.ntmps21
    go_wp2_with fail
    go_ret
    exact ⟨rfl, O.out.bel⟩
theorem ref_fromI_any (now : Int) (hnow : i64 now) (nm : ByteArray) (l : List TierV) (A : Option Addr) (n c : Nat) (fl : List Int) (B : Option Addr) (m d : Nat) (i : Int) (w : World) (hr : Rd w 4 A n (tcells l)) (hf : Rd w 1 B m (ints fl)) (hwf : ∀ t ∈ l, t.wf) (hn : n ≤ 1099511627776) :
    Calls Tryz.prog 21 #[reachV now nm A n c B m d, .int .i64 i] w fun r w' => r = .returned (.int .i64 (fromI now l fl i)) ∧ Below w.heap.size w w' := by
  have hl := hr.tiers_len
  unfold fromI
  rw [hl]
  by_cases h : 0 ≤ i ∧ i < (n : Int)
  · rw [if_pos h]
    obtain ⟨k, rfl⟩ := Int.eq_ofNat_of_zero_le h.1
    exact ref_from_any now hnow nm l A n c fl B m d k w hr hf hwf (by omega) hn
  · rw [if_neg h]
    exact ref_from_bad now nm A n c B m d i w h
end Go.Proofs.YtlhhcancfgjfkaaGreat
