/- Walks: the packer's methods on nil. -/
import Derived.Test.YtomofnmlhjpifaaDoorPkF
namespace Go.Proofs.YtomofnmlhjpifaaDoor
open Go.RowKit

set_option maxRecDepth 100000 in
theorem ints_nil (x : Int) (w : World) (g : Nat) (hc : w.cell? ⟨g, 0, none⟩ = some (.int .i64 x)) :
    Calls Tryd.prog 28 #[.pointer none, .slice (some ⟨g, 0, none⟩) 1 1] w fun r w' => r = .returned (.tuple #[]) ∧ Below w.heap.size w w' := by
  go_enter Tryd.func28, Tryd.ntmps28
  go_wp2
  refine wp_loop_rounds 2 ?_
  rw [rounds_succ]
  go_wp2_with fail
  refine (words_nil _ _ _ _).mono ?_
  rintro r w1 ⟨rfl, rfl⟩
  go_wp2
  rw [rounds_succ]
  go_wp2
  go_end0
  exact ⟨rfl, (Below.refl _ _).alloc (Nat.le_refl _) _⟩
set_option maxRecDepth 100000 in
theorem names_nil (s : ByteArray) (w : World) (g : Nat) (hc : w.cell? ⟨g, 0, none⟩ = some (.string s)) :
    Calls Tryd.prog 26 #[.pointer none, .slice (some ⟨g, 0, none⟩) 1 1] w fun r w' => r = .returned (.tuple #[]) ∧ w = w' := by
  by_cases h : (15 : Int) < (s.size : Int)
  all_goals
    go_enter Tryd.func26, Tryd.ntmps26
    go_wp2
    refine wp_loop_rounds 1 ?_
    rw [rounds_succ]
    go_wp2
    exact bodyPost_ret (results_none rfl _ _ _) rfl ⟨rfl, rfl⟩
theorem ptext_nil (s : ByteArray) (w : World) :
    Calls Tryd.prog 22 #[.pointer none, .string s] w fun r w' => r = .returned (.tuple #[]) ∧ w = w' := by
  by_cases h : (60000 : Int) < (s.size : Int)
  all_goals
    go_enter Tryd.func22, Tryd.ntmps22
    go_wp2
    exact bodyPost_ret (results_none rfl _ _ _) rfl ⟨rfl, rfl⟩
theorem fill_nil (n : Int) (w : World) :
    Calls Tryd.prog 23 #[.pointer none, .int .i64 n] w fun r w' => r = .returned (.tuple #[]) ∧ w = w' := by
  go_enter Tryd.func23, Tryd.ntmps23
  go_wp2
  exact bodyPost_ret (results_none rfl _ _ _) rfl ⟨rfl, rfl⟩
end Go.Proofs.YtomofnmlhjpifaaDoor
