/- Walks of seg.right, seg.Blocks, cmp.Compare, cmp.Or. -/
import Derived.Test.YtbblmmneeafhgaaGreatSame
namespace Go.Proofs.YtbblmmneeafhgaaGreat
set_option linter.all false
open Go.RowKit

theorem nan_int (a : Int) (w : World) : Calls Tryz.prog 204 #[.int .i64 a] w fun r w' => r = .returned (.bool false) ∧ w = w' := by
 go_enter Tryz.func204, Tryz.ntmps204
 go_wp2_with fail
 go_ret
 exact ⟨by simp, rfl⟩
theorem nan_string (a : ByteArray) (w : World) : Calls Tryz.prog 203 #[.string a] w fun r w' => r = .returned (.bool false) ∧ w = w' := by
 go_enter Tryz.func203, Tryz.ntmps203
 go_wp2_with fail
 go_ret
 exact ⟨by simp, rfl⟩
def cmpI (a b : Int) : Int := if a < b then -1 else if b < a then 1 else 0
theorem cmpint_any (a b : Int) (w : World) : Calls Tryz.prog 187 #[.int .i64 a, .int .i64 b] w fun r w' => r = .returned (.int .i64 (cmpI a b)) ∧ w = w' := by
 unfold cmpI
 by_cases h1 : a < b
 ·rw [if_pos h1]
  go_enter Tryz.func187, Tryz.ntmps187
  go_wp2_with fail
  refine (nan_int a w).mono ?_
  rintro r w' ⟨rfl, rfl⟩
  go_wp2_with fail
  refine (nan_int b w).mono ?_
  rintro r w' ⟨rfl, rfl⟩
  go_wp2_with fail
  go_ret
  exact ⟨rfl, rfl⟩
 ·rw [if_neg h1]
  by_cases h2 : b < a
  ·rw [if_pos h2]
   go_enter Tryz.func187, Tryz.ntmps187
   go_wp2_with fail
   refine (nan_int a w).mono ?_
   rintro r w' ⟨rfl, rfl⟩
   go_wp2_with fail
   refine (nan_int b w).mono ?_
   rintro r w' ⟨rfl, rfl⟩
   go_wp2_with fail
   go_ret
   exact ⟨rfl, rfl⟩
  ·rw [if_neg h2]
   go_enter Tryz.func187, Tryz.ntmps187
   go_wp2_with fail
   refine (nan_int a w).mono ?_
   rintro r w' ⟨rfl, rfl⟩
   go_wp2_with fail
   refine (nan_int b w).mono ?_
   rintro r w' ⟨rfl, rfl⟩
   go_wp2_with fail
   go_ret
   exact ⟨rfl, rfl⟩
end Go.Proofs.YtbblmmneeafhgaaGreat
namespace Go.Proofs.YtbblmmneeafhgaaGreat
set_option linter.all false
open Go.RowKit

def cmpS (a b : ByteArray) : Int := if Op.bytesLess a.toList b.toList = true then -1 else if (a.toList == b.toList) = true then 0 else 1
theorem cmpstr_any (a b : ByteArray) (w : World) : Calls Tryz.prog 186 #[.string a, .string b] w fun r w' => r = .returned (.int .i64 (cmpS a b)) ∧ w = w' := by
 unfold cmpS
 by_cases h1 : Op.bytesLess a.toList b.toList = true
 ·rw [if_pos h1]
  go_enter Tryz.func186, Tryz.ntmps186
  go_wp2_with fail
  refine (nan_string a w).mono ?_
  rintro r w' ⟨rfl, rfl⟩
  go_wp2_with fail
  refine (nan_string b w).mono ?_
  rintro r w' ⟨rfl, rfl⟩
  go_wp2_with fail
  go_ret
  exact ⟨rfl, rfl⟩
 ·rw [if_neg h1]
  have h1f : Op.bytesLess a.toList b.toList = false := by simpa using h1
  clear h1
  cases h2 : (a.toList == b.toList)
  ·rw [if_neg (by simp)]
   go_enter Tryz.func186, Tryz.ntmps186
   go_wp2_with fail
   refine (nan_string a w).mono ?_
   rintro r w' ⟨rfl, rfl⟩
   go_wp2_with fail
   refine (nan_string b w).mono ?_
   rintro r w' ⟨rfl, rfl⟩
   go_wp2_with fail
   go_ret
   exact ⟨rfl, rfl⟩
  ·rw [if_pos rfl]
   go_enter Tryz.func186, Tryz.ntmps186
   go_wp2_with fail
   refine (nan_string a w).mono ?_
   rintro r w' ⟨rfl, rfl⟩
   go_wp2_with fail
   refine (nan_string b w).mono ?_
   rintro r w' ⟨rfl, rfl⟩
   go_wp2_with fail
   go_ret
   exact ⟨rfl, rfl⟩
def orI (a b : Int) : Int := if a = 0 then b else a
set_option maxHeartbeats 1000000 in
theorem or_two (a b : Int) (A : Option Addr) (c : Nat) (w : World) (hr : Rd w 1 A 2 [.int .i64 a, .int .i64 b]) : Calls Tryz.prog 185 #[.slice A 2 c] w fun r w' => r = .returned (.int .i64 (orI a b)) ∧ w = w' := by
 obtain ⟨ad, rfl, hc⟩ := hr.2 (by omega)
 have c0 := hc 0 _ rfl
 have c1 := hc 1 _ rfl
 rw [addr_zero] at c0
 rw [add_pos _ _ (by decide)] at c1
 have H0 := Lib.hid c0
 have H1 := Lib.hid c1
 clear hr hc c0 c1
 unfold orI
 by_cases ha : a = 0
 ·rw [if_pos ha]
  subst ha
  by_cases hb : b = 0
  ·subst hb
   go_enter Tryz.func185, Tryz.ntmps185
   go_wp2_with fail
   go_loop [8] (fun i => ∃ k : Nat, k ≤ 2 ∧ i = .int .i64 k) (fun i => 2 - (intOf i).toNat)
   case atStart => exact ⟨0, by omega, rfl⟩
   case round =>
    obtain ⟨k, hk, rfl⟩ := hrel
    have c0 := H0.out
    have c1 := H1.out
    rcases (show k = 0 ∨ k = 1 ∨ k = 2 by omega) with rfl | rfl | rfl
    ·go_wp2
     go_round
     case rel => exact ⟨1, by omega, by first | rfl | go_num⟩
     case measure => simp [intOf]
    ·go_wp2
     go_round
     case rel => exact ⟨2, by omega, by first | rfl | go_num⟩
     case measure => simp [intOf]
    ·go_wp2
     go_ret
     exact ⟨rfl, rfl⟩
  ·have hb0 : (b != 0) = true := by simpa using hb
   clear hb
   go_enter Tryz.func185, Tryz.ntmps185
   go_wp2_with fail
   go_loop [8] (fun i => ∃ k : Nat, k ≤ 1 ∧ i = .int .i64 k) (fun i => 2 - (intOf i).toNat)
   case atStart => exact ⟨0, by omega, rfl⟩
   case round =>
    obtain ⟨k, hk, rfl⟩ := hrel
    have c0 := H0.out
    have c1 := H1.out
    rcases (show k = 0 ∨ k = 1 by omega) with rfl | rfl
    ·go_wp2
     go_round
     case rel => exact ⟨1, by omega, by first | rfl | go_num⟩
     case measure => simp [intOf]
    ·go_wp2
     go_ret
     exact ⟨rfl, rfl⟩
 ·rw [if_neg ha]
  have ha0 : (a != 0) = true := by simpa using ha
  clear ha
  go_enter Tryz.func185, Tryz.ntmps185
  go_wp2_with fail
  go_loop [8] (fun i => i = .int .i64 0) (fun i => 2 - (intOf i).toNat)
  case atStart => exact rfl
  case round =>
   obtain rfl := hrel
   have c0 := H0.out
   go_wp2
   go_ret
   exact ⟨rfl, rfl⟩

def recCmp (a b : RecV) : Int := orI (cmpS a.name b.name) (cmpI a.start b.start)
end Go.Proofs.YtbblmmneeafhgaaGreat
