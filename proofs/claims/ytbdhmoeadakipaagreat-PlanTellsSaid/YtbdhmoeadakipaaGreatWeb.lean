/- Walks of sedimentlaw9.Web, sedimentlaw13.Fifties. -/
import Derived.Test.YtbdhmoeadakipaaGreatFills
namespace Go.Proofs.YtbdhmoeadakipaaGreat
open Go.RowKit

def webT : List TierV := [⟨{ data := #[114, 97, 119] }, 1, 100, 2⟩, ⟨{ data := #[116, 101, 110, 115] }, 10, 1000, 1⟩]
def webN : ByteArray := { data := #[119, 101, 98] }
def fifT : List TierV := [⟨{ data := #[114, 97, 119] }, 1, 50, 1⟩, ⟨{ data := #[102, 105, 102, 116, 105, 101, 115] }, 50, 5000, 3⟩]
def fifN : ByteArray := { data := #[112] }


theorem web_any (w : World) : Calls Tryz.prog 24 #[] w fun r w' => (∃ A c, r = .returned (polV webN A 2 c) ∧ 2 ≤ c ∧ Rd w' 4 A 2 (tcells webT)) ∧ Below w.heap.size w w' := by
  go_enter Tryz.func24, Tryz.ntmps24
  go_wp2_with fail
  refine bodyPost_ret (v := polV webN (some ⟨w.heap.size + 1, 0, none⟩) 2 2) ?_ rfl ⟨⟨_, _, rfl, Nat.le_refl _, Rd.newS (by simp) (tcells webT) _ 2 4 rfl⟩, (((Own.start w).skip (Fr.none_alloc w _)).skip (Fr.none_alloc _ _)).bel⟩
  unfold polV webN
  simp [results, Tryz.results24, go_sem]

theorem fif_any (w : World) : Calls Tryz.prog 25 #[] w fun r w' => (∃ A c, r = .returned (polV fifN A 2 c) ∧ 2 ≤ c ∧ Rd w' 4 A 2 (tcells fifT)) ∧ Below w.heap.size w w' := by
  go_enter Tryz.func25, Tryz.ntmps25
  go_wp2_with fail
  refine bodyPost_ret (v := polV fifN (some ⟨w.heap.size + 1, 0, none⟩) 2 2) ?_ rfl ⟨⟨_, _, rfl, Nat.le_refl _, Rd.newS (by simp) (tcells fifT) _ 2 4 rfl⟩, (((Own.start w).skip (Fr.none_alloc w _)).skip (Fr.none_alloc _ _)).bel⟩
  unfold polV fifN
  simp [results, Tryz.results25, go_sem]
end Go.Proofs.YtbdhmoeadakipaaGreat
