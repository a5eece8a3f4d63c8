/- Walks of package grid, and of policy.within, name.letter. -/
import Derived.Test.YteajonicnkpbbaaGreatDoorChecked
import Derived.Test.YteajonicnkpbbaaGreatDoorBase
import Derived.IntWalk
namespace Go.Proofs.YteajonicnkpbbaaGreatDoor
set_option linter.all false
open Go.RowKit

def floorV (t every : Int) : Int :=
 if every < 1 then t else if t.tmod every < 0 ∧ -9223372036854775808 + every ≤ t - t.tmod every then t - t.tmod every - every else t - t.tmod every
def ceilV (t every : Int) : Int :=
 if every < 1 then t else if 0 < t.tmod every ∧ t - t.tmod every ≤ 9223372036854775807 - every then t - t.tmod every + every else t - t.tmod every

theorem tmod_bd (t every : Int) (he : 1 ≤ every) : -every < t.tmod every ∧ t.tmod every < every ∧ (0 ≤ t → 0 ≤ t.tmod every ∧ t.tmod every ≤ t) ∧ (t ≤ 0 → t.tmod every ≤ 0 ∧ t ≤ t.tmod every) := by
 rcases Int.le_total 0 t with h | h
 ·have e := Int.tmod_eq_emod_of_nonneg (b := every) h
  have h1 := Int.emod_nonneg t (show every ≠ 0 by omega)
  have h2 := Int.emod_lt_of_pos t (show 0 < every by omega)
  have h3 : t % every ≤ t := by
   have := Int.mul_ediv_add_emod t every
   have h4 := Int.ediv_nonneg h (show 0 ≤ every by omega)
   have h5 := Int.mul_nonneg (show 0 ≤ every by omega) h4
   omega
  rw [e]
  refine ⟨by omega, h2, fun _ => ⟨h1, h3⟩, fun h6 => ?_⟩
  have : t = 0 := by omega
  subst this
  simp
 ·have e0 : t.tmod every = -((-t).tmod every) := by rw [Int.neg_tmod]; omega
  have hn : 0 ≤ -t := by omega
  have e := Int.tmod_eq_emod_of_nonneg (b := every) hn
  have h1 := Int.emod_nonneg (-t) (show every ≠ 0 by omega)
  have h2 := Int.emod_lt_of_pos (-t) (show 0 < every by omega)
  have h3 : (-t) % every ≤ -t := by
   have := Int.mul_ediv_add_emod (-t) every
   have h4 := Int.ediv_nonneg hn (show 0 ≤ every by omega)
   have h5 := Int.mul_nonneg (show 0 ≤ every by omega) h4
   omega
  rw [e0, e]
  refine ⟨by omega, by omega, fun h6 => ?_, fun _ => ⟨by omega, by omega⟩⟩
  have : t = 0 := by omega
  subst this
  simp

theorem floor_in {t e : Int} (h0 : -9223372036854775808 ≤ t) (h1 : t ≤ 9223372036854775807) : -9223372036854775808 ≤ floorV t e ∧ floorV t e ≤ 9223372036854775807 := by
 unfold floorV
 split
 ·exact ⟨h0, h1⟩
 ·have := tmod_bd t e (by omega)
  split <;> omega
theorem floor_any (t e : Int) (h0 : -9223372036854775808 ≤ t) (h1 : t ≤ 9223372036854775807) (h2 : -9223372036854775808 ≤ e) (h3 : e ≤ 9223372036854775807) (w : World) :
  Calls Tryz.prog 151 #[.int .i64 t, .int .i64 e] w fun r w' => r = .returned (.int .i64 (floorV t e)) ∧ w = w' := by
 by_cases hb : e < 1
 ·rw [show floorV t e = t by simp [floorV, hb]]
  go_enter Tryz.func151, Tryz.ntmps151
  go_wp2_with fail
  (go_ret <;> exact ⟨rfl, rfl⟩)
 ·have hm := tmod_bd t e (by omega)
  generalize hr : t.tmod e = r at hm
  obtain ⟨m1, m2, m3, m4⟩ := hm
  have w1 : wrap64 (t - r) = t - r := IntWalk.wrap64_in _ ⟨by omega, by omega⟩
  have w2 : wrap64 (-9223372036854775808 + e) = -9223372036854775808 + e := IntWalk.wrap64_in _ ⟨by omega, by omega⟩
  by_cases hn : r < 0
  ·by_cases hk : -9223372036854775808 + e ≤ t - r
   ·have w3 : wrap64 (t - r - e) = t - r - e := IntWalk.wrap64_in _ ⟨by omega, by omega⟩
    rw [show floorV t e = t - r - e by simp [floorV, hb, hr, hn, hk]]
    go_enter Tryz.func151, Tryz.ntmps151
    go_wp2_with fail
    all_goals (go_ret <;> exact ⟨rfl, rfl⟩)
   ·rw [show floorV t e = t - r by simp [floorV, hb, hr, hk]]
    go_enter Tryz.func151, Tryz.ntmps151
    go_wp2_with fail
    all_goals (go_ret <;> exact ⟨rfl, rfl⟩)
  ·rw [show floorV t e = t - r by simp [floorV, hb, hr, hn]]
   go_enter Tryz.func151, Tryz.ntmps151
   go_wp2_with fail
   all_goals (go_ret <;> exact ⟨rfl, rfl⟩)
def dividesB (a b : Int) : Bool := decide (1 ≤ a) && decide (b.tmod a = 0)
theorem divides_any (a b : Int) (w : World) :
  Calls Tryz.prog 208 #[.int .i64 a, .int .i64 b] w fun r w' => r = .returned (.bool (dividesB a b)) ∧ w = w' := by
 by_cases h1 : 1 ≤ a
 ·by_cases h2 : b.tmod a = 0
  ·rw [show dividesB a b = true by simp [dividesB, h1, h2]]
   go_enter Tryz.func208, Tryz.ntmps208
   go_wp2_with fail
   all_goals (go_ret <;> simp [*])
  ·rw [show dividesB a b = false by simp [dividesB, h2]]
   go_enter Tryz.func208, Tryz.ntmps208
   go_wp2_with fail
   all_goals (go_ret <;> simp [*])
 ·rw [show dividesB a b = false by simp [dividesB, h1]]
  go_enter Tryz.func208, Tryz.ntmps208
  go_wp2_with fail
  all_goals (go_ret <;> simp [*])

def withinB (n most : Int) : Bool := decide (1 ≤ n) && decide (n ≤ most)
theorem within_any (n most : Int) (w : World) :
  Calls Tryz.prog 168 #[.int .i64 n, .int .i64 most] w fun r w' => r = .returned (.bool (withinB n most)) ∧ w = w' := by
 by_cases h1 : 1 ≤ n
 ·by_cases h2 : n ≤ most
  ·rw [show withinB n most = true by simp [withinB, h1, h2]]
   go_enter Tryz.func168, Tryz.ntmps168
   go_wp2_with fail
   all_goals (go_ret <;> simp [*])
  ·rw [show withinB n most = false by simp [withinB, h2]]
   go_enter Tryz.func168, Tryz.ntmps168
   go_wp2_with fail
   all_goals (go_ret <;> simp [*])
 ·rw [show withinB n most = false by simp [withinB, h1]]
  go_enter Tryz.func168, Tryz.ntmps168
  go_wp2_with fail
  all_goals (go_ret <;> simp [*])

def backV (now keep every : Int) : Int := if now < 0 ∨ keep < 0 ∨ every < 1 then 0 else max (floorV (now - keep) every) 0
theorem back_in {now keep every : Int} (h1 : now ≤ 9223372036854775807) (h2 : keep ≤ 9223372036854775807) : 0 ≤ backV now keep every ∧ backV now keep every ≤ 9223372036854775807 := by
 unfold backV
 split
 ·omega
 ·have := floor_in (t := now - keep) (e := every) (by omega) (by omega)
  omega
theorem gback_any (t k e : Int) (h0 : -9223372036854775808 ≤ t) (h1 : t ≤ 9223372036854775807) (k0 : -9223372036854775808 ≤ k) (k1 : k ≤ 9223372036854775807) (h2 : -9223372036854775808 ≤ e) (h3 : e ≤ 9223372036854775807) (w : World) :
  Calls Tryz.prog 166 #[.int .i64 t, .int .i64 k, .int .i64 e] w fun r w' => r = .returned (.int .i64 (backV t k e)) ∧ w = w' := by
 by_cases a1 : t < 0
 ·rw [show backV t k e = 0 by simp [backV, a1]]
  go_enter Tryz.func166, Tryz.ntmps166
  go_wp2_with fail
  all_goals (go_ret <;> exact ⟨rfl, rfl⟩)
 by_cases a2 : k < 0
 ·rw [show backV t k e = 0 by simp [backV, a2]]
  go_enter Tryz.func166, Tryz.ntmps166
  go_wp2_with fail
  all_goals (go_ret <;> exact ⟨rfl, rfl⟩)
 by_cases a3 : e < 1
 ·rw [show backV t k e = 0 by simp [backV, a3]]
  go_enter Tryz.func166, Tryz.ntmps166
  go_wp2_with fail
  all_goals (go_ret <;> exact ⟨rfl, rfl⟩)
 ·rw [show backV t k e = max (floorV (t - k) e) 0 by simp [backV, a1, a2, a3]]
  go_enter Tryz.func166, Tryz.ntmps166
  go_wp2_with fail
  refine (floor_any (t - k) e (by omega) (by omega) h2 h3 _).mono ?_
  rintro r w1 ⟨rfl, rfl⟩
  go_wp2_with fail
  all_goals (go_ret <;> simp [*] <;> omega)

def letterB (c : Int) : Bool := decide (97 ≤ c ∧ c ≤ 122) || decide (48 ≤ c ∧ c ≤ 57) || decide (c = 46) || decide (c = 95) || decide (c = 45)
set_option maxRecDepth 100000 in
theorem letter_any (c : Int) (h0 : 0 ≤ c) (h1 : c ≤ 255) (w : World) :
  Calls Tryz.prog 205 #[.int .u8 c] w fun r w' => r = .returned (.bool (letterB c)) ∧ w = w' := by
 go_enter Tryz.func205, Tryz.ntmps205
 go_wp2_with fail
 all_goals (go_ret <;> refine ⟨congrArg (fun b => Ending.returned (.bool b)) ?_, rfl⟩ <;> (rw [Bool.eq_iff_iff]; simp [letterB] <;> omega))
end Go.Proofs.YteajonicnkpbbaaGreatDoor
namespace Go.Proofs.YteajonicnkpbbaaGreatDoor
set_option linter.all false
open Go.RowKit

def letters (l : List UInt8) : Bool := l.all fun c => letterB (c.toNat : Int)
def validB (s : ByteArray) : Bool := decide (1 ≤ s.size) && decide (s.size ≤ 15) && letters s.data.toList

theorem all_take_succ {α : Type} {p : α → Bool} {l : List α} {k : Nat} {x : α} (h : l[k]? = some x) (ha : (l.take k).all p = true) : (l.take (k + 1)).all p = p x := by
 rw [take_snoc h, List.all_append, ha]; simp
theorem all_take_false {α : Type} {p : α → Bool} {l : List α} {k : Nat} (ha : (l.take k).all p = false) : l.all p = false := by
 rw [List.all_eq_false] at ha ⊢
 obtain ⟨x, hx, h⟩ := ha
 exact ⟨x, List.mem_of_mem_take hx, h⟩

theorem byte_at {x : ByteArray} {j : Nat} (h : j < x.size) : x.data.toList[j]? = some x[j] := by
 have hl : j < x.data.size := h
 rw [Array.getElem?_toList, Array.getElem?_eq_getElem hl]
 rfl
theorem validB_short {x : ByteArray} (h : x.size < 1) : validB x = false := by unfold validB; rw [decide_eq_false (show ¬ 1 ≤ x.size by omega)]; rfl
theorem validB_long {x : ByteArray} (h : 15 < x.size) : validB x = false := by unfold validB; rw [decide_eq_false (show ¬ x.size ≤ 15 by omega)]; simp

set_option maxRecDepth 100000 in
theorem valid_any (l : List ByteArray) (A : Option Addr) (n c : Nat) (w : World) (hr : Rd w 1 A n (l.map Value.string)) (hn : n ≤ 1099511627776) (hsz : ∀ s ∈ l, s.size ≤ maxLen) :
  Calls Tryz.prog 167 #[.slice A n c] w fun r w' => r = .returned (.bool (l.all validB)) ∧ w = w' := by
 have Hsz := Lib.hid hsz
 have Hlen := Lib.hid hr.len_map
 clear hsz
 go_enter Tryz.func167, Tryz.ntmps167
 go_wp2_with fail
 go_loopw [8] (fun i wr => ∃ k : Nat, k ≤ n ∧ i = .int .i64 k ∧ w = wr ∧ Hid ((l.take k).all validB = true)) (fun i _ => n - (intOf i).toNat)
 case atStart => exact ⟨0, Nat.zero_le _, rfl, rfl, rfl⟩
 case round =>
  obtain ⟨k, hk, rfl, rfl, ha⟩ := hrel
  by_cases hlt : k < n
  ·obtain ⟨ad, x, rfl, hu, hc⟩ := hr.at_map hlt
   have Hu := Lib.hid hu
   have Hx := Lib.hid (Hsz.out x (mem_of_get hu))
   clear hu
   by_cases h1 : x.size < 1
   ·have g1 : (x.size : Int) < 1 := by omega
    have e : l.all validB = false := all_take_false (k := k + 1) (by rw [all_take_succ Hu.out ha.out, validB_short h1])
    have E := Lib.hid e
    clear e
    go_wp2_with fail
    go_ret
    exact ⟨by rw [E.out]; rfl, rfl⟩
   by_cases h2 : 15 < x.size
   ·have g1 : (1 : Int) ≤ (x.size : Int) := by omega
    have g2 : (15 : Int) < (x.size : Int) := by omega
    have e : l.all validB = false := all_take_false (k := k + 1) (by rw [all_take_succ Hu.out ha.out, validB_long h2])
    have E := Lib.hid e
    clear e
    go_wp2_with fail
    go_ret
    exact ⟨by rw [E.out]; rfl, rfl⟩
   ·have g1 : (1 : Int) ≤ (x.size : Int) := by omega
    have g2 : (x.size : Int) ≤ 15 := by omega
    go_wp2_with fail
    go_loopw [22] (fun i wr => ∃ j : Nat, j ≤ x.size ∧ i = .int .i64 j ∧ w = wr ∧ Hid (letters (x.data.toList.take j) = true)) (fun i _ => x.size - (intOf i).toNat)
    case atStart => exact ⟨0, Nat.zero_le _, rfl, rfl, rfl⟩
    case round =>
     obtain ⟨j, hj, rfl, rfl, hb⟩ := hrel
     by_cases hlj : j < x.size
     ·have hb1 : x[j].toNat < 256 := x[j].toNat_lt
      by_cases hlet : letterB (x[j].toNat : Int) = true
      ·have Hlet := Lib.hid hlet
       clear hlet
       go_wp2_with fail
       refine (letter_any _ (by omega) (by omega) _).mono ?_
       rw [Hlet.out]
       rintro r w1 ⟨rfl, rfl⟩
       go_wp2_with fail
       go_roundw
       case rel => exact ⟨j + 1, by omega, by go_num, by trivial, by show letters _ = true; unfold letters; rw [all_take_succ (byte_at hlj) hb.out]; exact Hlet.out⟩
       case measure => simp [intOf]; omega
      ·have e : l.all validB = false := all_take_false (k := k + 1) (by
        rw [all_take_succ Hu.out ha.out]; unfold validB
        rw [show letters x.data.toList = false from all_take_false (k := j + 1) (by rw [all_take_succ (byte_at hlj) hb.out]; simpa using hlet)]; simp)
       have E := Lib.hid e
       have Hlet := Lib.hid (show letterB (x[j].toNat : Int) = false by simpa using hlet)
       clear e hlet
       go_wp2_with fail
       refine (letter_any _ (by omega) (by omega) _).mono ?_
       rw [Hlet.out]
       rintro r w1 ⟨rfl, rfl⟩
       go_wp2_with fail
       go_ret
       exact ⟨by rw [E.out]; rfl, rfl⟩
     ·obtain rfl : j = x.size := by omega
      go_wp2_with fail
      go_roundw
      case rel => exact ⟨k + 1, by omega, by go_num, by trivial, by
       show (l.take (k + 1)).all validB = true
       rw [all_take_succ Hu.out ha.out]; unfold validB
       have hbb := hb.out
       rw [take_all (by rw [str_len]; exact Nat.le_refl _)] at hbb
       rw [hbb]; simp; omega⟩
      case measure => simp [intOf]; omega
  ·go_wp2_with fail
   go_ret
   obtain rfl : k = n := by omega
   have := ha.out
   rw [take_all (by have := Hlen.out; omega)] at this
   exact ⟨by rw [this]; rfl, rfl⟩

def hashStep (v : Int) (b : UInt8) : Int := bits BinOp.xor IntKind.u32 v (b.toNat : Int) * 16777619 % 4294967296
def hashV (l : List UInt8) : Int := l.foldl hashStep 2166136261
def shardV (s : ByteArray) (n : Int) : Int := if n < 1 then 0 else (hashV s.data.toList) % n

end Go.Proofs.YteajonicnkpbbaaGreatDoor
