/- The statement PackSizes: the walk. -/
import Derived.Test.YtomofnmlhjpifaaDoorPkF
namespace Go.Proofs.YtomofnmlhjpifaaDoor
open Go.RowKit

theorem pSmall_one (size v : Int) : pSmall size 0 [] [v] = if fitsB size v = true then (0, le v.toNat size.toNat) else (1, []) := by
  by_cases h : fitsB size v = true
  · have h0 : fitsB size 0 = true := by
      obtain ⟨a, b, c, d⟩ := fits_of h
      exact decide_eq_true ⟨a, b, Int.le_refl _, by omega⟩
    simp [pSmall, smallGo, h, h0]
  · by_cases h0 : fitsB size 0 = true <;> simp [pSmall, smallGo, h, h0]

theorem fits_zero {size v : Int} (h : fitsB size v = true) : fitsB size 0 = true := by
  obtain ⟨a, b, c, d⟩ := fits_of h
  exact decide_eq_true ⟨a, b, Int.le_refl _, by omega⟩
theorem uSmall_back {size v : Int} (h : fitsB size v = true) (t : List UInt8) : uSmall size 0 (le v.toNat size.toNat ++ t) = (0, t, v.toNat) := by
  obtain ⟨a, b, c, d⟩ := fits_of h
  have hl := le_length v.toNat size.toNat
  have e1 : (le v.toNat size.toNat ++ t).drop size.toNat = t := by rw [List.drop_append_of_le_length (by omega), List.drop_of_length_le (by omega), List.nil_append]
  have e2 : (le v.toNat size.toNat ++ t).take size.toNat = le v.toNat size.toNat := by rw [List.take_append_of_le_length (by omega), List.take_of_length_le (by omega)]
  have e3 : v.toNat < 256 ^ size.toNat := by
    have h2 : ((v.toNat : Nat) : Int) < ((256 ^ size.toNat : Nat) : Int) := by rw [Int.natCast_pow]; rw [Int.toNat_of_nonneg c]; exact d
    exact Int.ofNat_lt.1 h2
  simp only [uSmall, if_true, if_pos (fits_zero h), uTake]
  rw [if_neg (by rw [List.length_append]; omega)]
  simp only [e1, e2, ofLe_le, Nat.mod_eq_of_lt e3]
theorem shl_ok {size : Int} (h1 : 1 ≤ size) (h7 : size ≤ 7) : wrap64 (2 ^ (8 * min (max size 0) 7).toNat) = 256 ^ size.toNat := by
  obtain ⟨k, rfl⟩ := Int.eq_ofNat_of_zero_le (show 0 ≤ size by omega)
  have e1 : (8 * min (max (k : Int) 0) 7).toNat = 8 * k := by omega
  rw [e1, pow_bytes, Int.toNat_natCast]
  have h6 : (256 : Nat) ^ k ≤ 256 ^ 7 := Nat.pow_le_pow_right (by decide) (by omega)
  have h9 : (256 : Int) ^ k ≤ 256 ^ 7 := by
    have := Int.ofNat_le.2 h6
    rw [Int.natCast_pow, Int.natCast_pow] at this
    exact this
  have h8 : (256 : Int) ^ 7 = 72057594037927936 := by decide
  have h10 : (0 : Int) ≤ 256 ^ k := Int.le_of_lt (Int.pow_pos (by decide))
  exact IntWalk.wrap64_in _ ⟨by omega, by omega⟩

set_option maxRecDepth 100000 in
theorem sizes_good (size v : Int) (w : World) (ht : Tab w) (hf : fitsB size v = true) :
    Calls Tryd.prog 3 #[.int .i64 size, .int .i64 v] w fun r w' => r = .returned (.bool true) ∧ Below w.heap.size w w' := by
  have Ht := Lib.hid ht
  have Hf := Lib.hid hf
  obtain ⟨s1, s7, v0, vlt⟩ := fits_of hf
  have Hv := Lib.hid vlt
  have hd : decide (v < wrap64 (2 ^ (8 * min (max size 0) 7).toNat)) = true := by rw [shl_ok s1 s7]; exact decide_eq_true vlt
  clear ht hf vlt
  go_enter Tryd.func3, Tryd.ntmps3
  go_wp2_with fail
  have p0 := (Pk.new w).1
  have o0 := ((Own.start w).skip (Fr.none_alloc w (.cells #[.int .i64 0, .slice none 0 0] 28))).also (Pk.new w).2
  refine (small_any _ _ 0 size [] [v] _ 1 1 _ (p0.fr (Fr.none_alloc _ _) (fun _ _ h => h)) (Rd.new' (by simp) _ _ _ rfl) (adF_new' (by simp) p0.lt) (by simp)).mono ?_
  rw [pSmall_one, if_pos Hf.out]
  rintro r w1 ⟨rfl, F1, p1, m1⟩
  have o1 := Lib.hid ((o0.skip (Fr.none_alloc _ _)).mv m1)
  clear p0 o0 m1
  go_wp2_with fail
  refine (done_at _ _ _ _ _ p1 rfl).mono ?_
  rintro r w2 ⟨rfl, rfl⟩
  have hsz := bstr_size (le v.toNat size.toNat)
  rw [le_length] at hsz
  have hsz2 : ((bstr (le v.toNat size.toNat)).size : Int) = size := by omega
  have hsz3 : (((bstr (le v.toNat size.toNat)).size : Int) == size) = true := by simp [hsz2]
  clear hsz hsz2
  go_wp2_with fail
  refine (from_any _ _ (by rw [le_length]; omega)).mono ?_
  rintro r w4 ⟨g, rfl, u4, b4, hg⟩
  have o4 := Lib.hid ((o1.out.below b4).also (F := F1) (G := fun k => k = g) (fun k hk => by have := o1.out.bel.size; omega))
  clear p1 o1 b4 hg
  go_wp2_with fail
  refine (alive_any w4 (Ht.out.below o4.out.bel)).mono ?_
  rintro r w5 ⟨rfl, b5⟩
  have u5 := u4.fr0 (Fr.of_below b5)
  have o5 := Lib.hid (o4.out.below b5)
  clear u4 o4 b5
  go_wp2_with fail
  refine (usmall_any g 0 size _ _ u5 (by rw [le_length]; omega)).mono ?_
  rw [show uSmall size 0 (le v.toNat size.toNat) = (0, [], v.toNat) by have := uSmall_back Hf.out []; rwa [List.append_nil] at this]
  rintro r w6 ⟨rfl, u6, f6⟩
  have o6 := Lib.hid (o5.out.fr f6)
  have hv2 : ((v.toNat : Int) == v) = true := by simp; omega
  clear u5 o5 f6
  go_wp2_with fail
  refine (bad_any g 0 [] _ u6).mono ?_
  rintro r w7 ⟨rfl, rfl⟩
  go_wp2_with fail
  refine (left_any g 0 [] _ u6).mono ?_
  rintro r w7 ⟨rfl, rfl⟩
  go_wp2
  go_ret
  exact ⟨rfl, o6.out.bel⟩

set_option maxRecDepth 100000 in
theorem sizes_bad (size v : Int) (w : World) (ht : Tab w) (hf : fitsB size v = false) :
    Calls Tryd.prog 3 #[.int .i64 size, .int .i64 v] w fun r w' => r = .returned (.bool true) ∧ Below w.heap.size w w' := by
  have Ht := Lib.hid ht
  have Hf := Lib.hid hf
  have hw : size < 1 ∨ 7 < size ∨ (1 ≤ size ∧ size ≤ 7 ∧ v < 0) ∨ (1 ≤ size ∧ size ≤ 7 ∧ 0 ≤ v ∧ decide (v < wrap64 (2 ^ (8 * min (max size 0) 7).toNat)) = false) := by
    have := of_decide_eq_false hf
    by_cases a1 : size < 1
    · exact .inl a1
    by_cases a2 : 7 < size
    · exact .inr (.inl a2)
    by_cases a3 : v < 0
    · exact .inr (.inr (.inl ⟨by omega, by omega, a3⟩))
    refine .inr (.inr (.inr ⟨by omega, by omega, by omega, ?_⟩))
    rw [shl_ok (by omega) (by omega)]
    exact decide_eq_false (fun hh => this ⟨by omega, by omega, by omega, hh⟩)
  clear ht hf
  rcases hw with hw | hw | ⟨q1, q2, q3⟩ | ⟨q1, q2, q3, q4⟩
  all_goals
    go_enter Tryd.func3, Tryd.ntmps3
    go_wp2_with fail
    have p0 := (Pk.new w).1
    have o0 := ((Own.start w).skip (Fr.none_alloc w (.cells #[.int .i64 0, .slice none 0 0] 28))).also (Pk.new w).2
    refine (small_any _ _ 0 size [] [v] _ 1 1 _ (p0.fr (Fr.none_alloc _ _) (fun _ _ h => h)) (Rd.new' (by simp) _ _ _ rfl) (adF_new' (by simp) p0.lt) (by simp)).mono ?_
    rw [pSmall_one, if_neg (by rw [Hf.out]; decide)]
    rintro r w1 ⟨rfl, F1, p1, m1⟩
    have o1 := Lib.hid ((o0.skip (Fr.none_alloc _ _)).mv m1)
    clear p0 o0 m1
    go_wp2_with fail
    refine (done_err _ _ _ _ _ p1 (by decide)).mono ?_
    rintro r w2 ⟨rfl, m2, h2⟩
    have o2 := Lib.hid (o1.out.skip (Fr.none_drewN w1 m2))
    rw [← h2] at o2
    clear p1 o1 h2
    go_wp2_with fail
    refine (alive_any w2 (Ht.out.below o2.out.bel)).mono ?_
    rintro r w5 ⟨rfl, b5⟩
    have o5 := Lib.hid (o2.out.below b5)
    clear o2 b5
    go_wp2
    go_ret
    exact ⟨rfl, o5.out.bel⟩

theorem sizes_walk (size v : Int) (w : World) (ht : Tab w) :
    Calls Tryd.prog 3 #[.int .i64 size, .int .i64 v] w fun r w' => r = .returned (.bool true) ∧ Below w.heap.size w w' := by
  by_cases h : fitsB size v = true
  · exact sizes_good size v w ht h
  · exact sizes_bad size v w ht (by simpa using h)
end Go.Proofs.YtomofnmlhjpifaaDoor
