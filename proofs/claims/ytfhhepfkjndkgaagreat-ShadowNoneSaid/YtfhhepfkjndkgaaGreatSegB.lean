/- Walks of seg.right, seg.Blocks, cmp.Compare, cmp.Or. -/
import Derived.Test.YtfhhepfkjndkgaaGreatSame
namespace Go.Proofs.YtfhhepfkjndkgaaGreat
set_option linter.all false
open Go.RowKit

def rightB (id t s : Int) : Bool := decide (0 < id) && (decide (0 ≤ t) && (decide (t < 10) && (decide (0 ≤ s) && decide (s < 8))))
def blocksV (n : Nat) : Nat := (n + 2) / 3
theorem nan_int (a : Int) (w : World) : Calls Tryz.prog 232 #[.int .i64 a] w fun r w' => r = .returned (.bool false) ∧ w = w' := by
  go_enter Tryz.func232, Tryz.ntmps232
  go_wp2_with fail
  go_ret
  exact ⟨by simp, rfl⟩
theorem nan_string (a : ByteArray) (w : World) : Calls Tryz.prog 231 #[.string a] w fun r w' => r = .returned (.bool false) ∧ w = w' := by
  go_enter Tryz.func231, Tryz.ntmps231
  go_wp2_with fail
  go_ret
  exact ⟨by simp, rfl⟩
def cmpI (a b : Int) : Int := if a < b then -1 else if b < a then 1 else 0
theorem cmpint_any (a b : Int) (w : World) : Calls Tryz.prog 212 #[.int .i64 a, .int .i64 b] w fun r w' => r = .returned (.int .i64 (cmpI a b)) ∧ w = w' := by
  unfold cmpI
  by_cases h1 : a < b
  · rw [if_pos h1]
    go_enter Tryz.func212, Tryz.ntmps212
    go_wp2_with fail
    refine (nan_int a w).mono ?_
    rintro r w' ⟨rfl, rfl⟩
    go_wp2_with fail
    refine (nan_int b w).mono ?_
    rintro r w' ⟨rfl, rfl⟩
    go_wp2_with fail
    go_ret
    exact ⟨rfl, rfl⟩
  · rw [if_neg h1]
    by_cases h2 : b < a
    · rw [if_pos h2]
      go_enter Tryz.func212, Tryz.ntmps212
      go_wp2_with fail
      refine (nan_int a w).mono ?_
      rintro r w' ⟨rfl, rfl⟩
      go_wp2_with fail
      refine (nan_int b w).mono ?_
      rintro r w' ⟨rfl, rfl⟩
      go_wp2_with fail
      go_ret
      exact ⟨rfl, rfl⟩
    · rw [if_neg h2]
      go_enter Tryz.func212, Tryz.ntmps212
      go_wp2_with fail
      refine (nan_int a w).mono ?_
      rintro r w' ⟨rfl, rfl⟩
      go_wp2_with fail
      refine (nan_int b w).mono ?_
      rintro r w' ⟨rfl, rfl⟩
      go_wp2_with fail
      go_ret
      exact ⟨rfl, rfl⟩
end Go.Proofs.YtfhhepfkjndkgaaGreat
namespace Go.Proofs.YtfhhepfkjndkgaaGreat
set_option linter.all false
open Go.RowKit

def cmpS (a b : ByteArray) : Int := if Op.bytesLess a.toList b.toList = true then -1 else if (a.toList == b.toList) = true then 0 else 1
theorem cmpstr_any (a b : ByteArray) (w : World) : Calls Tryz.prog 211 #[.string a, .string b] w fun r w' => r = .returned (.int .i64 (cmpS a b)) ∧ w = w' := by
  unfold cmpS
  by_cases h1 : Op.bytesLess a.toList b.toList = true
  · rw [if_pos h1]
    go_enter Tryz.func211, Tryz.ntmps211
    go_wp2_with fail
    refine (nan_string a w).mono ?_
    rintro r w' ⟨rfl, rfl⟩
    go_wp2_with fail
    refine (nan_string b w).mono ?_
    rintro r w' ⟨rfl, rfl⟩
    go_wp2_with fail
    go_ret
    exact ⟨rfl, rfl⟩
  · rw [if_neg h1]
    have h1f : Op.bytesLess a.toList b.toList = false := by simpa using h1
    clear h1
    cases h2 : (a.toList == b.toList)
    · rw [if_neg (by simp)]
      go_enter Tryz.func211, Tryz.ntmps211
      go_wp2_with fail
      refine (nan_string a w).mono ?_
      rintro r w' ⟨rfl, rfl⟩
      go_wp2_with fail
      refine (nan_string b w).mono ?_
      rintro r w' ⟨rfl, rfl⟩
      go_wp2_with fail
      go_ret
      exact ⟨rfl, rfl⟩
    · rw [if_pos rfl]
      go_enter Tryz.func211, Tryz.ntmps211
      go_wp2_with fail
      refine (nan_string a w).mono ?_
      rintro r w' ⟨rfl, rfl⟩
      go_wp2_with fail
      refine (nan_string b w).mono ?_
      rintro r w' ⟨rfl, rfl⟩
      go_wp2_with fail
      go_ret
      exact ⟨rfl, rfl⟩
def orI (a b : Int) : Int := if a = 0 then b else a
set_option maxHeartbeats 1000000 in
theorem or_two (a b : Int) (A : Option Addr) (c : Nat) (w : World) (hr : Rd w 1 A 2 [.int .i64 a, .int .i64 b]) : Calls Tryz.prog 210 #[.slice A 2 c] w fun r w' => r = .returned (.int .i64 (orI a b)) ∧ w = w' := by
  obtain ⟨ad, rfl, hc⟩ := hr.2 (by omega)
  have c0 := hc 0 _ rfl
  have c1 := hc 1 _ rfl
  rw [addr_zero] at c0
  rw [add_pos _ _ (by decide)] at c1
  have H0 := Lib.hid c0
  have H1 := Lib.hid c1
  clear hr hc c0 c1
  unfold orI
  by_cases ha : a = 0
  · rw [if_pos ha]
    subst ha
    by_cases hb : b = 0
    · subst hb
      go_enter Tryz.func210, Tryz.ntmps210
      go_wp2_with fail
      go_loop [8] (fun i => ∃ k : Nat, k ≤ 2 ∧ i = .int .i64 k) (fun i => 2 - (intOf i).toNat)
      case atStart => exact ⟨0, by omega, rfl⟩
      case round =>
        obtain ⟨k, hk, rfl⟩ := hrel
        have c0 := H0.out
        have c1 := H1.out
        rcases (show k = 0 ∨ k = 1 ∨ k = 2 by omega) with rfl | rfl | rfl
        · go_wp2
          go_round
          case rel => exact ⟨1, by omega, by first | rfl | go_num⟩
          case measure => simp [intOf]
        · go_wp2
          go_round
          case rel => exact ⟨2, by omega, by first | rfl | go_num⟩
          case measure => simp [intOf]
        · go_wp2
          go_ret
          exact ⟨rfl, rfl⟩
    · have hb0 : (b != 0) = true := by simpa using hb
      clear hb
      go_enter Tryz.func210, Tryz.ntmps210
      go_wp2_with fail
      go_loop [8] (fun i => ∃ k : Nat, k ≤ 1 ∧ i = .int .i64 k) (fun i => 2 - (intOf i).toNat)
      case atStart => exact ⟨0, by omega, rfl⟩
      case round =>
        obtain ⟨k, hk, rfl⟩ := hrel
        have c0 := H0.out
        have c1 := H1.out
        rcases (show k = 0 ∨ k = 1 by omega) with rfl | rfl
        · go_wp2
          go_round
          case rel => exact ⟨1, by omega, by first | rfl | go_num⟩
          case measure => simp [intOf]
        · go_wp2
          go_ret
          exact ⟨rfl, rfl⟩
  · rw [if_neg ha]
    have ha0 : (a != 0) = true := by simpa using ha
    clear ha
    go_enter Tryz.func210, Tryz.ntmps210
    go_wp2_with fail
    go_loop [8] (fun i => i = .int .i64 0) (fun i => 2 - (intOf i).toNat)
    case atStart => exact rfl
    case round =>
      obtain rfl := hrel
      have c0 := H0.out
      go_wp2
      go_ret
      exact ⟨rfl, rfl⟩

/-- name.Compare. -/
def recCmp (a b : RecV) : Int := orI (cmpS a.name b.name) (cmpI a.start b.start)
def lessB (a b : RecV) : Bool := decide (recCmp a b < 0)
set_option maxRecDepth 100000 in
set_option maxHeartbeats 4000000 in
theorem compare_any (a b : RecV) (w : World) : Calls Tryz.prog 166 #[a.val, b.val] w fun r w' => r = .returned (.int .i64 (recCmp a b)) ∧ Below w.heap.size w w' := by
  have HS := Lib.hid (fun w' => cmpstr_any a.name b.name w')
  have HI := Lib.hid (fun w' => cmpint_any a.start b.start w')
  have HO : Hid (∀ A c w', Rd w' 1 A 2 [.int .i64 (cmpS a.name b.name), .int .i64 (cmpI a.start b.start)] → Calls Tryz.prog 210 #[.slice A 2 c] w' fun r w'' => r = .returned (.int .i64 (recCmp a b)) ∧ w' = w'') := fun A c w' h => or_two _ _ A c w' h
  obtain ⟨x, hx⟩ : ∃ x, cmpS a.name b.name = x := ⟨_, rfl⟩
  obtain ⟨y, hy⟩ : ∃ y, cmpI a.start b.start = y := ⟨_, rfl⟩
  obtain ⟨z, hz⟩ : ∃ z, recCmp a b = z := ⟨_, rfl⟩
  rw [hx] at HS HO
  rw [hy] at HI HO
  rw [hz] at HO ⊢
  clear hx hy hz
  obtain ⟨an, ast, ac, ah, al, am, ax⟩ := a
  obtain ⟨bn, bst, bc, bh, bl, bm, bx⟩ := b
  unfold RecV.val
  simp only at HS HI
  obtain ⟨W2, hW2⟩ : ∃ W2, W2 = (w.alloc (.cells #[.string an, .int .i64 ast, .int .i64 ac, .int .i64 ah, .int .u64 al, .int .i64 am, .int .i64 ax] 30)).alloc (.cells #[.string bn, .int .i64 bst, .int .i64 bc, .int .i64 bh, .int .u64 bl, .int .i64 bm, .int .i64 bx] 30) := ⟨_, rfl⟩
  have A2 : Blk W2 w.heap.size 30 #[.string an, .int .i64 ast, .int .i64 ac, .int .i64 ah, .int .u64 al, .int .i64 am, .int .i64 ax] := by rw [hW2]; exact (Blk.new _ _ _).alloc _
  have B2 : Blk W2 (w.heap.size + 1) 30 #[.string bn, .int .i64 bst, .int .i64 bc, .int .i64 bh, .int .u64 bl, .int .i64 bm, .int .i64 bx] := by rw [hW2]; exact Blk.new' (by simp) _ _
  have O2 : Hid (Below w.heap.size w W2) := by
    show Below _ _ _
    rw [hW2]; exact (((Own.start w).skip (Fr.none_alloc _ _)).skip (Fr.none_alloc _ _)).bel
  have a0 := A2.cell 0
  have a1 := A2.cell 1
  have b0 := B2.cell 0
  have b1 := B2.cell 1
  simp only [List.getElem?_toArray, List.getElem?_cons_succ, List.getElem?_cons_zero] at a0 a1 b0 b1
  clear A2 B2
  go_enter Tryz.func166, Tryz.ntmps166
  go_wp2_with fail
  rw [← hW2]
  clear hW2
  go_still_tail 10, (by kernel_rfl)
  repeat still_step
  still_call (still_left (HS.out _))
  repeat still_step
  still_call (still_left (HI.out _))
  repeat still_step
  try refine wpStill_nil ?_
  change wpList _ _ _ _ _ W2.drew
  clear a0 a1 b0 b1
  go_wp2_with fail
  refine (HO.out _ _ _ (Rd.new W2.drew [.int .i64 x, .int .i64 y] _ 2 rfl)).mono ?_
  rintro r w3 ⟨rfl, rfl⟩
  go_wp2_with fail
  go_ret
  exact ⟨rfl, (O2.out.drew).alloc (by have := O2.out.size; exact this) _⟩
end Go.Proofs.YtfhhepfkjndkgaaGreat
