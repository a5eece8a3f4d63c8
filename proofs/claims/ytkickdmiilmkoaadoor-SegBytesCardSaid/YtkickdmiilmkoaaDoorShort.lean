/- Walks: sedimentbook.Room, Short. -/
import Derived.Test.YtkickdmiilmkoaaDoorBase
import Derived.Test.YtkickdmiilmkoaaDoorChecked
namespace Go.Proofs.YtkickdmiilmkoaaDoor
open Go.RowKit

def roomI (left x : Int) : Int := if left < 0 ∨ left < x then -1 else left - x
set_option maxRecDepth 100000 in
theorem room_one (left x : Int) (w : World) (g : Nat) (hc : w.cell? ⟨g, 0, none⟩ = some (.int .i64 x)) (hl : left ≤ 1099511627776) (hx : 0 ≤ x) :
    Calls Tryd.prog 43 #[.int .i64 left, .slice (some ⟨g, 0, none⟩) 1 1] w fun r w' => r = .returned (.int .i64 (roomI left x)) ∧ w = w' := by
  have hcase : left < 0 ∨ (0 ≤ left ∧ left < x) ∨ (0 ≤ left ∧ x ≤ left) := by omega
  rcases hcase with h | ⟨h1, h2⟩ | ⟨h1, h2⟩
  · have e : roomI left x = -1 := by unfold roomI; rw [if_pos (.inl h)]
    rw [e]
    clear e
    go_enter Tryd.func43, Tryd.ntmps43
    go_wp2
    refine wp_loop_rounds 2 ?_
    rw [rounds_succ]
    go_wp2
    go_ret
    exact ⟨rfl, rfl⟩
  · have e : roomI left x = -1 := by unfold roomI; rw [if_pos (.inr h2)]
    rw [e]
    clear e
    go_enter Tryd.func43, Tryd.ntmps43
    go_wp2
    refine wp_loop_rounds 2 ?_
    rw [rounds_succ]
    go_wp2
    go_ret
    exact ⟨rfl, rfl⟩
  · have e : roomI left x = left - x := by unfold roomI; rw [if_neg (by omega)]
    rw [e]
    clear e
    go_enter Tryd.func43, Tryd.ntmps43
    go_wp2
    refine wp_loop_rounds 2 ?_
    rw [rounds_succ]
    go_wp2
    rw [rounds_succ]
    go_wp2
    go_ret
    exact ⟨rfl, rfl⟩

/-- What Short tells: if yes, the texts are few and short. -/
def ShortSays (few room : Int) (n : Nat) (ss : List ByteArray) (w : World) (e : Ending) (w' : World) : Prop :=
  ∃ b : Bool, e = .returned (.bool b) ∧ (b = true → (n : Int) ≤ few ∧ ∀ s ∈ ss, (s.size : Int) ≤ room) ∧ Below w.heap.size w w'

set_option maxRecDepth 100000 in
theorem short_any (few room : Int) (ss : List ByteArray) (A : Option Addr) (n c : Nat) (w : World) (hr : Rd w 1 A n (ss.map Value.string)) (hroom : 0 ≤ room) (hroom2 : room ≤ 1099511627776) (hfew : few ≤ 1099511627776) (hsz : ∀ s ∈ ss, s.size ≤ maxLen) :
    Calls Tryd.prog 22 #[.int .i64 few, .int .i64 room, .slice A n c] w (ShortSays few room n ss w) := by
  have Hsz := Lib.hid hsz
  have Hlen := Lib.hid hr.len_map
  clear hsz
  by_cases hf : few < (n : Int)
  · refine Calls.mono (R := fun e w' => e = .returned (.bool false) ∧ w = w') ?_ (fun e w' ⟨h1, h2⟩ => ⟨false, h1, (fun h => by cases h), h2 ▸ Below.refl _ _⟩)
    go_enter Tryd.func22, Tryd.ntmps22
    go_wp2
    go_ret
    exact ⟨rfl, rfl⟩
  · have hn : (n : Int) ≤ few := by omega
    clear hf
    have hfd : decide (few < (n : Int)) = false := decide_eq_false (by omega)
    go_enter Tryd.func22, Tryd.ntmps22
    go_wp2
    go_loopw [1, 7] (fun v i wr => ∃ (k : Nat) (left : Int), k ≤ n ∧ i = .int .i64 k ∧ v = .int .i64 left ∧ left ≤ 1099511627776 ∧ Hid (left ≤ room) ∧ Hid (0 ≤ left → ∀ s ∈ ss.take k, (s.size : Int) ≤ room) ∧ Below w.heap.size w wr) (fun _ i _ => n - (intOf i).toNat)
    case atStart => exact ⟨0, room, Nat.zero_le _, rfl, rfl, hroom2, Int.le_refl _, (fun _ s hs => by simp at hs), Below.refl _ _⟩
    case round =>
      obtain ⟨k, left, hk, rfl, rfl, hl2, hlr, hall, hb⟩ := hrel
      have Hb := Lib.hid hb
      clear hb
      by_cases hlt : k < n
      · by_cases hl0 : 0 ≤ left
        · have hr' := hr.below Hb.out
          obtain ⟨ad, x, rfl, hu, hc⟩ := hr'.at_map hlt
          have Hu := Lib.hid hu
          have hxs : (x.size : Int) ≤ 9223372036854775807 := by have := Hsz.out x (mem_of_get hu); unfold maxLen at this; omega
          clear hr' hu
          go_wp2_with fail
          refine (room_one left x.size _ _ (cell_one_new _ _ _ 0 _ rfl) hl2 (by omega)).mono ?_
          rintro r w1 ⟨rfl, rfl⟩
          have hri : roomI left x.size ≤ left := by unfold roomI; split <;> omega
          have Hri := Lib.hid (show roomI left x.size ≤ left ∧ (0 ≤ roomI left x.size → (x.size : Int) ≤ left) by
            refine ⟨hri, ?_⟩
            unfold roomI
            split
            · intro h; omega
            · intro _; omega)
          generalize roomI left x.size = q at *
          clear hc
          go_wp2
          go_roundw
          case rel =>
            refine ⟨k + 1, q, by omega, by go_num, rfl, by omega, ?_, ?_, Hb.out.alloc Hb.out.size _⟩
            · have := hlr.out; have := Hri.out.1; show q ≤ room; omega
            · show 0 ≤ q → ∀ s ∈ _, _
              intro hq s hs
              rw [take_snoc Hu.out] at hs
              rcases List.mem_append.1 hs with h | h
              · exact hall.out (by omega) s h
              · rw [List.mem_singleton.1 h]
                have := Hri.out.2 hq
                have := hlr.out
                omega
          case measure => simp [intOf]; omega
        · have hneg : left < 0 := by omega
          have hnd : decide (0 ≤ left) = false := decide_eq_false hl0
          clear hl0
          go_wp2
          refine bodyPost_ret (results_tmp rfl _ _ _) rfl ⟨false, rfl, (fun h => by cases h), Hb.out⟩
      · obtain rfl : k = n := by omega
        have hfull : ss.take k = ss := List.take_of_length_le (by have := Hlen.out; omega)
        have hcase : 0 ≤ left ∨ left < 0 := by omega
        rw [hfull] at hall
        rcases hcase with h | h
        · have hnd : decide (0 ≤ left) = true := decide_eq_true h
          go_wp2
          refine bodyPost_ret (results_tmp rfl _ _ _) rfl ⟨true, rfl, fun _ => ⟨hn, hall.out h⟩, Hb.out⟩
        · have hnd : decide (0 ≤ left) = false := decide_eq_false (by omega)
          go_wp2
          refine bodyPost_ret (results_tmp rfl _ _ _) rfl ⟨false, rfl, (fun h => by cases h), Hb.out⟩
end Go.Proofs.YtkickdmiilmkoaaDoor
