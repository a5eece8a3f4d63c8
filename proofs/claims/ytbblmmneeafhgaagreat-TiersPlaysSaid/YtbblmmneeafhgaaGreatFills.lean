/- Walks of sedimentbook.Small and (plan.Plan).fills, Steps, Bound. -/
import Derived.Test.YtbblmmneeafhgaaGreatBases
namespace Go.Proofs.YtbblmmneeafhgaaGreat
set_option linter.all false
open Go.RowKit

def SmallR (nm : ByteArray) (n : Nat) (r : Ending) : Prop := ∃ b, r = .returned (.bool b) ∧ (b = true → n ≤ 10 ∧ nm.size ≤ 60)
theorem SmallR.no {nm : ByteArray} {n : Nat} : SmallR nm n (.returned (.bool false)) := ⟨false, rfl, by simp⟩
theorem SmallR.yes {nm : ByteArray} {n : Nat} (h : n ≤ 10) (h2 : nm.size ≤ 60) : SmallR nm n (.returned (.bool true)) := ⟨true, rfl, fun _ => ⟨h, h2⟩⟩
set_option maxRecDepth 100000 in
theorem bsmall_any (nm : ByteArray) (l : List TierV) (A : Option Addr) (n c : Nat) (w : World) (hr : Rd w 4 A n (tcells l)) (hn : n ≤ 9223372036854775807) (hnm : nm.size ≤ maxLen) (hsz : ∀ t ∈ l, t.name.size ≤ maxLen) :
  Calls Tryz.prog 5 #[polV nm A n c] w fun r w' => SmallR nm n r ∧ Below w.heap.size w w' := by
 have Hr := Lib.hid hr
 have Hsz := Lib.hid hsz
 have hnm' : (nm.size : Int) ≤ 9223372036854775807 := by unfold maxLen at hnm; omega
 clear hr hsz hnm
 have B0 := Lib.hid (Blk.new w 24 #[.string nm, .slice A n c])
 have O := Lib.hid ((Own.start w).skip (Fr.none_alloc w (.cells #[.string nm, .slice A n c] 24)))
 unfold polV
 go_enter Tryz.func5, Tryz.ntmps5
 go_wp2_with fail
 go_loopw [3] (fun i wr => ∃ k : Nat, k ≤ n ∧ k ≤ 12 ∧ i = .int .i64 k ∧ Blk wr w.heap.size 24 #[.string nm, .slice A n c] ∧ Own w wr (fun _ => False)) (fun i _ => n - (intOf i).toNat)
 case atStart => exact ⟨0, Nat.zero_le _, by omega, rfl, B0.out, O.out⟩
 case round =>
  obtain ⟨k, hk, hk12, rfl, hb, ho⟩ := hrel
  have c0 := hb.cell 0
  have c1 := hb.cell 1
  simp only [List.getElem?_toArray, List.getElem?_cons_succ, List.getElem?_cons_zero] at c0 c1
  by_cases hlt : k < n
  ·by_cases h12 : k < 12
   ·obtain ⟨ad, x, rfl, hu, d0, d1, d2, d3⟩ := (Hr.out.below ho.bel).tier hlt
    have hxs : (x.name.size : Int) ≤ 9223372036854775807 := by have := Hsz.out x (mem_of_get hu); unfold maxLen at this; omega
    have Hb := Lib.hid hb
    have Ho := Lib.hid ho
    clear hb ho hu
    by_cases h60 : 60 < x.name.size
    ·have g1 : (60 : Int) < (x.name.size : Int) := by omega
     go_wp2
     go_ret
     exact ⟨by first | exact SmallR.no | (simp [*]; first | exact SmallR.no | (rw [decide_eq_false (show ¬ ((nm.size : Int) ≤ 60) by omega)]; exact SmallR.no)), Ho.out.bel⟩
    ·have g1 : (x.name.size : Int) ≤ 60 := by omega
     go_wp2
     go_roundw
     case rel => exact ⟨k + 1, by omega, by omega, by go_num, Hb.out, Ho.out⟩
     case measure => simp [intOf]; omega
   ·have hn10 : (10 : Int) < (n : Int) := by omega
    have Ho := Lib.hid ho
    clear ho hb
    go_wp2
    go_ret
    exact ⟨by first | exact SmallR.no | (simp [*]; first | exact SmallR.no | (rw [decide_eq_false (show ¬ ((nm.size : Int) ≤ 60) by omega)]; exact SmallR.no)), Ho.out.bel⟩
  ·obtain rfl : k = n := by omega
   have Ho := Lib.hid ho
   clear ho hb
   by_cases h10 : k ≤ 10
   ·by_cases h6 : nm.size ≤ 60
    ·have g1 : (k : Int) ≤ 10 := by omega
     have g2 : (nm.size : Int) ≤ 60 := by omega
     go_wp2
     go_ret
     exact ⟨by first | exact SmallR.yes h10 h6 | (simp [*]; exact SmallR.yes h10 h6), Ho.out.bel⟩
    ·have g1 : (k : Int) ≤ 10 := by omega
     have g2 : (60 : Int) < (nm.size : Int) := by omega
     go_wp2
     go_ret
     exact ⟨by first | exact SmallR.no | (simp [*]; first | exact SmallR.no | (rw [decide_eq_false (show ¬ ((nm.size : Int) ≤ 60) by omega)]; exact SmallR.no)), Ho.out.bel⟩
   ·have g1 : (10 : Int) < (k : Int) := by omega
    go_wp2
    go_ret
    exact ⟨by first | exact SmallR.no | (simp [*]; first | exact SmallR.no | (rw [decide_eq_false (show ¬ ((nm.size : Int) ≤ 60) by omega)]; exact SmallR.no)), Ho.out.bel⟩

end Go.Proofs.YtbblmmneeafhgaaGreat
