/- Walks of sedimentbook.Small and (plan.Plan).fills, Steps, Bound. -/
import Derived.Test.YtbblmmneeafhgaaGreatBases
namespace Go.Proofs.YtbblmmneeafhgaaGreat
set_option linter.all false
open Go.RowKit

def SmallR (nm : ByteArray) (n : Nat) (r : Ending) : Prop := ∃ b, r = .returned (.bool b) ∧ (b = true → n ≤ 10 ∧ nm.size ≤ 60)
theorem SmallR.no {nm : ByteArray} {n : Nat} : SmallR nm n (.returned (.bool false)) := ⟨false, rfl, by simp⟩
theorem SmallR.yes {nm : ByteArray} {n : Nat} (h : n ≤ 10) (h2 : nm.size ≤ 60) : SmallR nm n (.returned (.bool true)) := ⟨true, rfl, fun _ => ⟨h, h2⟩⟩
set_option maxRecDepth 100000 in
theorem bsmall_any (nm : ByteArray) (l : List TierV) (A : Option Addr) (n c : Nat) (w : World) (hr : Rd w 4 A n (tcells l)) (hn : n ≤ 9223372036854775807) (hnm : nm.size ≤ maxLen) (hsz : ∀ t ∈ l, t.name.size ≤ maxLen) :
  Calls Tryz.prog 5 #[polV nm A n c] w fun r w' => SmallR nm n r ∧ Below w.heap.size w w' := by
 have Hr := Lib.hid hr
 have Hsz := Lib.hid hsz
 have hnm' : (nm.size : Int) ≤ 9223372036854775807 := by unfold maxLen at hnm; omega
 clear hr hsz hnm
 have B0 := Lib.hid (Blk.new w 24 #[.string nm, .slice A n c])
 have O := Lib.hid ((Own.start w).skip (Fr.none_alloc w (.cells #[.string nm, .slice A n c] 24)))
 unfold polV
 go_enter Tryz.func5, Tryz.ntmps5
 go_wp2_with fail
 go_loopw [3] (fun i wr => ∃ k : Nat, k ≤ n ∧ k ≤ 12 ∧ i = .int .i64 k ∧ Blk wr w.heap.size 24 #[.string nm, .slice A n c] ∧ Own w wr (fun _ => False)) (fun i _ => n - (intOf i).toNat)
 case atStart => exact ⟨0, Nat.zero_le _, by omega, rfl, B0.out, O.out⟩
 case round =>
  obtain ⟨k, hk, hk12, rfl, hb, ho⟩ := hrel
  have c0 := hb.cell 0
  have c1 := hb.cell 1
  simp only [List.getElem?_toArray, List.getElem?_cons_succ, List.getElem?_cons_zero] at c0 c1
  by_cases hlt : k < n
  ·by_cases h12 : k < 12
   ·obtain ⟨ad, x, rfl, hu, d0, d1, d2, d3⟩ := (Hr.out.below ho.bel).tier hlt
    have hxs : (x.name.size : Int) ≤ 9223372036854775807 := by have := Hsz.out x (mem_of_get hu); unfold maxLen at this; omega
    have Hb := Lib.hid hb
    have Ho := Lib.hid ho
    clear hb ho hu
    by_cases h60 : 60 < x.name.size
    ·have g1 : (60 : Int) < (x.name.size : Int) := by omega
     go_wp2
     go_ret
     exact ⟨by first | exact SmallR.no | (simp [*]; first | exact SmallR.no | (rw [decide_eq_false (show ¬ ((nm.size : Int) ≤ 60) by omega)]; exact SmallR.no)), Ho.out.bel⟩
    ·have g1 : (x.name.size : Int) ≤ 60 := by omega
     go_wp2
     go_roundw
     case rel => exact ⟨k + 1, by omega, by omega, by go_num, Hb.out, Ho.out⟩
     case measure => simp [intOf]; omega
   ·have hn10 : (10 : Int) < (n : Int) := by omega
    have Ho := Lib.hid ho
    clear ho hb
    go_wp2
    go_ret
    exact ⟨by first | exact SmallR.no | (simp [*]; first | exact SmallR.no | (rw [decide_eq_false (show ¬ ((nm.size : Int) ≤ 60) by omega)]; exact SmallR.no)), Ho.out.bel⟩
  ·obtain rfl : k = n := by omega
   have Ho := Lib.hid ho
   clear ho hb
   by_cases h10 : k ≤ 10
   ·by_cases h6 : nm.size ≤ 60
    ·have g1 : (k : Int) ≤ 10 := by omega
     have g2 : (nm.size : Int) ≤ 60 := by omega
     go_wp2
     go_ret
     exact ⟨by first | exact SmallR.yes h10 h6 | (simp [*]; exact SmallR.yes h10 h6), Ho.out.bel⟩
    ·have g1 : (k : Int) ≤ 10 := by omega
     have g2 : (60 : Int) < (nm.size : Int) := by omega
     go_wp2
     go_ret
     exact ⟨by first | exact SmallR.no | (simp [*]; first | exact SmallR.no | (rw [decide_eq_false (show ¬ ((nm.size : Int) ≤ 60) by omega)]; exact SmallR.no)), Ho.out.bel⟩
   ·have g1 : (10 : Int) < (k : Int) := by omega
    go_wp2
    go_ret
    exact ⟨by first | exact SmallR.no | (simp [*]; first | exact SmallR.no | (rw [decide_eq_false (show ¬ ((nm.size : Int) ≤ 60) by omega)]; exact SmallR.no)), Ho.out.bel⟩

def fillsV (l : List TierV) : Int := (l.map fun t => max t.shards 0).sum
theorem fills_snoc {l : List TierV} {k : Nat} {x : TierV} (h : l[k]? = some x) : fillsV (l.take (k + 1)) = fillsV (l.take k) + max x.shards 0 := by
 rw [take_snoc h]; simp [fillsV]
set_option maxRecDepth 100000 in
theorem fills_any (nm : ByteArray) (l : List TierV) (A : Option Addr) (n c : Nat) (S : Option Addr) (m d : Nat) (w : World) (hr : Rd w 4 A n (tcells l)) (hn : n ≤ 1099511627776) (hs : ∀ t ∈ l, t.shards ≤ 8) :
  Calls Tryz.prog 168 #[planV nm A n c S m d] w fun r w' => r = .returned (.int .i64 (fillsV l)) ∧ Below w.heap.size w w' := by
 have Hr := Lib.hid hr
 have Hs := Lib.hid hs
 have Hlen := Lib.hid hr.tiers_len
 clear hr hs
 have O := Lib.hid ((Own.start w).skip (Fr.none_alloc w (.cells #[.string nm, .slice A n c, .slice S m d] 76)))
 unfold planV
 go_enter Tryz.func168, Tryz.ntmps168
 go_wp2_with fail
 go_loopw [3, 10] (fun s i wr => ∃ (k : Nat) (v : Int), k ≤ n ∧ i = .int .i64 k ∧ s = .int .i64 v ∧ 0 ≤ v ∧ v ≤ 8 * k ∧ Hid (v = fillsV (l.take k)) ∧ Own w wr (fun _ => False)) (fun _ i _ => n - (intOf i).toNat)
 case atStart => exact ⟨0, 0, Nat.zero_le _, rfl, rfl, by omega, by omega, by simp [Hid, fillsV], O.out⟩
 case round =>
  obtain ⟨k, v, hk, rfl, rfl, v0, v1, hv, ho⟩ := hrel
  by_cases hlt : k < n
  ·obtain ⟨ad, x, rfl, hu, d0, d1, d2, d3⟩ := (Hr.out.below ho.bel).tier hlt
   have hx8 := Hs.out x (mem_of_get hu)
   have Hu := Lib.hid hu
   have Ho := Lib.hid ho
   have Hf := Lib.hid (fills_snoc hu)
   clear ho hu
   by_cases h0 : 0 ≤ x.shards
   ·go_wp2
    all_goals (
     go_roundw
     case rel => exact ⟨k + 1, v + x.shards, by omega, by go_num, by go_num, by omega, by omega, by rw [Hid, Hf.out, ← hv.out]; omega, Ho.out.skip (Fr.none_alloc _ _)⟩
     case measure => simp [intOf]; omega)
   ·go_wp2
    all_goals (
     go_roundw
     case rel => exact ⟨k + 1, v, by omega, by go_num, by go_num, by omega, by omega, by rw [Hid, Hf.out, ← hv.out]; omega, Ho.out.skip (Fr.none_alloc _ _)⟩
     case measure => simp [intOf]; omega)
  ·obtain rfl : k = n := by omega
   have Ho := Lib.hid ho
   have hl := hv.out
   rw [take_all (by have := Hlen.out; omega)] at hl
   have Hl := Lib.hid hl
   clear ho hl
   go_wp2
   go_ret
   exact ⟨by rw [← Hl.out]; rfl, Ho.out.bel⟩

def stepsV (l : List TierV) : Int := if l = [] then 0 else fillsV l + 2
theorem fillsV_in {l : List TierV} (hs : ∀ t ∈ l, t.shards ≤ 8) : 0 ≤ fillsV l ∧ fillsV l ≤ 8 * l.length := by
 induction l with
 | nil => simp [fillsV]
 | cons a t ih =>
  have h1 := ih (fun x hx => hs x (List.mem_cons_of_mem _ hx))
  have h2 := hs a (List.mem_cons_self ..)
  have h3 : fillsV (a :: t) = max a.shards 0 + fillsV t := by simp [fillsV]
  rw [h3, List.length_cons]
  omega
theorem steps_any (nm : ByteArray) (l : List TierV) (A : Option Addr) (n c : Nat) (S : Option Addr) (m d : Nat) (w : World) (hr : Rd w 4 A n (tcells l)) (hn : n ≤ 1099511627776) (hs : ∀ t ∈ l, t.shards ≤ 8) :
  Calls Tryz.prog 113 #[planV nm A n c S m d] w fun r w' => r = .returned (.int .i64 (stepsV l)) ∧ Below w.heap.size w w' := by
 have hlen := hr.tiers_len
 have hin := fillsV_in hs
 have H := Lib.hid (fun w' (h : Fr (fun _ => False) w w') => fills_any nm l A n c S m d w' (hr.fr0 h) hn hs)
 have O := Lib.hid ((Own.start w).skip (Fr.none_alloc w (.cells #[.string nm, .slice A n c, .slice S m d] 76)))
 clear hr hs
 unfold planV at H ⊢
 by_cases h0 : n = 0
 ·subst h0
  obtain rfl : l = [] := List.eq_nil_of_length_eq_zero hlen
  rw [show stepsV [] = 0 from rfl]
  clear hin hlen H
  go_enter Tryz.func113, Tryz.ntmps113
  go_wp2_with fail
  go_ret
  exact ⟨rfl, O.out.bel⟩
 ·have hne : l ≠ [] := by rintro rfl; exact h0 hlen.symm
  rw [show stepsV l = fillsV l + 2 by simp [stepsV, hne]]
  have hnb : ((n : Int) == 0) = false := by simp; omega
  obtain ⟨v, hv⟩ : ∃ v, fillsV l = v := ⟨_, rfl⟩
  rw [hv] at H hin ⊢
  obtain ⟨v0, v1⟩ := hin
  clear hv hne h0
  go_enter Tryz.func113, Tryz.ntmps113
  go_wp2_with fail
  refine (H.out _ (Fr.none_alloc _ _)).mono ?_
  rintro r w1 ⟨rfl, hb⟩
  have O2 := Lib.hid (O.out.below hb)
  clear hb
  go_wp2_with fail
  go_ret
  exact ⟨rfl, O2.out.bel⟩
end Go.Proofs.YtbblmmneeafhgaaGreat
