/- The statement PackBack: the walk. -/
import Derived.Test.YtomofnmlhjpifaaDoorPkBack
import Derived.Test.YtomofnmlhjpifaaDoorLawSizes
namespace Go.Proofs.YtomofnmlhjpifaaDoor
open Go.RowKit

/-- Int beside a load: a cell outside the unpacker stays. -/
theorem int_keep (g : Nat) (b : List UInt8) (p : Addr) (v : Value) (w : World) (h : Up w g 0 b) (hb : b.length ≤ 1099511627776) (hp : p.block ≠ g) (hc : w.cell? p = some v) :
    Calls Tryd.prog 30 #[.pointer (some ⟨g, 0, none⟩)] w fun r w' => r = .returned (.int .i64 (sgn (ofLe (uTake 0 b 8).2.2))) ∧ Up w' g (uTake 0 b 8).1 (uTake 0 b 8).2.1 ∧ Fr (fun k => k = g) w w' ∧ w'.cell? p = some v :=
  (int_any g 0 b w h hb).mono fun _ _ ⟨h1, h2, h3⟩ => ⟨h1, h2, h3, h3.cell hc hp⟩

set_option maxRecDepth 100000 in
set_option maxHeartbeats 800000 in
theorem back_good (l : List Int) (A : Option Addr) (n c : Nat) (nm tx : ByteArray) (x size small : Int) (w : World) (ht : Tab w)
    (hr : Rd w 1 A n (l.map (Value.int .i64))) (hwl : ∀ y ∈ l, -9223372036854775808 ≤ y ∧ y ≤ 9223372036854775807) (hx0 : 0 ≤ x) (hx1 : x < 18446744073709551616)
    (hn : n ≤ 40) (hnm : nm.size ≤ 15) (htx : tx.size ≤ 1000) (hf : fitsB size small = true) :
    Calls Tryd.prog 8 #[.slice A n c, .string nm, .string tx, .int .u64 x, .int .i64 size, .int .i64 small] w fun r w' => r = .returned (.bool true) ∧ Below w.heap.size w w' := by
  obtain ⟨s1, s7, v0, vlt⟩ := fits_of hf
  have hsh : wrap64 (2 ^ (8 * size).toNat) = 256 ^ size.toNat := by
    have := shl_ok s1 s7
    rwa [show min (max size 0) 7 = size by omega] at this
  have hd : decide (wrap64 (2 ^ (8 * size).toNat) ≤ small) = false := by rw [hsh]; exact decide_eq_false (by omega)
  have g1 : (n : Int) ≤ 40 := by omega
  have g2 : (nm.size : Int) ≤ 15 := by omega
  have g3 : (tx.size : Int) ≤ 1000 := by omega
  have Ht := Lib.hid ht
  have Hf := Lib.hid hf
  have Hwl := Lib.hid hwl
  have Hx := Lib.hid (And.intro hx0 hx1)
  have Hnm := Lib.hid hnm
  have Htx := Lib.hid htx
  have Hn := Lib.hid hn
  have hlen := hr.len_map
  have Hlen := Lib.hid hlen
  have Hr := Lib.hid hr
  obtain ⟨tail, htail⟩ : ∃ t, nameB nm ++ (textB tx ++ (le x.toNat 8 ++ le small.toNat size.toNat)) = t := ⟨_, rfl⟩
  have Htail := Lib.hid htail
  have Htl := Lib.hid (show tail.length ≤ 3000 by rw [← htail]; simp only [List.length_append, nameB_len nm hnm, textB, le_length, str_len]; omega)
  clear ht hf hwl hx0 hx1 vlt hsh hlen htail hr hnm htx hn
  go_enter Tryd.func8, Tryd.ntmps8
  go_wp2_with fail
  have p0 := (Pk.new w).1
  have o0 := ((Own.start w).skip (Fr.none_alloc w (.cells #[.int .i64 0, .slice none 0 0] 28))).also (Pk.new w).2
  refine (ints_any _ _ 0 [] l _ n c _ p0 (Hr.out.alloc _) (Hr.out.apart (by decide) o0.new) (by have := Hn.out; simp; omega)).mono ?_
  rw [pW_zero, List.nil_append]
  rintro r w1 ⟨rfl, F1, p1, m1⟩
  have o1 := Lib.hid (o0.mv m1)
  clear p0 o0 m1
  go_wp2_with fail
  refine (names_any _ _ 0 _ [nm] _ 1 1 _ (p1.fr (Fr.none_alloc _ _) (fun _ _ h => h)) (Rd.new _ _ _ _ rfl) (adF_new p1.lt) (by have := Hn.out; have := Hlen.out; simp [le8_len]; omega) (by have := Hnm.out; simp; omega)).mono ?_
  rw [pNames_ok (by have := Hnm.out; simpa using this)]
  rintro r w2 ⟨rfl, F2, p2, m2⟩
  have o2 := Lib.hid ((o1.out.skip (Fr.none_alloc _ _)).mv m2)
  clear p1 o1 m2
  go_wp2_with fail
  refine (text_any _ _ 0 _ tx _ p2 (by have := Hn.out; have := Hlen.out; simp [le8_len, nameB_len nm Hnm.out]; omega) (by have := Htx.out; omega)).mono ?_
  rw [show pText 0 (le8 l ++ [nm].flatMap nameB) tx = (0, le8 l ++ nameB nm ++ textB tx) by simp only [pText, if_true, if_neg (show ¬ 60000 < tx.size by have := Htx.out; omega)]; simp]
  rintro r w3 ⟨rfl, F3, p3, m3⟩
  have o3 := Lib.hid (o2.out.mv m3)
  clear p2 o2 m3
  go_wp2_with fail
  refine (words_any _ _ 0 _ [x] _ 1 1 _ (p3.fr (Fr.none_alloc _ _) (fun _ _ h => h)) (Rd.new _ _ _ _ rfl) (adF_new p3.lt) (by have := Hx.out.1; simpa using this) (by have := Hn.out; have := Hlen.out; have := Htx.out; simp only [List.length_append, le8_len, nameB_len nm Hnm.out, textB, le_length, str_len]; omega)).mono ?_
  rw [pW_zero]
  rintro r w4 ⟨rfl, F4, p4, m4⟩
  have o4 := Lib.hid ((o3.out.skip (Fr.none_alloc _ _)).mv m4)
  clear p3 o3 m4
  go_wp2_with fail
  refine (small_any _ _ 0 size _ [small] _ 1 1 _ (p4.fr (Fr.none_alloc _ _) (fun _ _ h => h)) (Rd.new _ _ _ _ rfl) (adF_new p4.lt) (by have := Hn.out; have := Hlen.out; have := Htx.out; simp only [List.length_append, le8_len, nameB_len nm Hnm.out, textB, le_length, str_len, List.flatMap_cons, List.flatMap_nil, List.length_nil]; omega)).mono ?_
  rw [show pSmall size 0 (le8 l ++ nameB nm ++ textB tx ++ [x].flatMap fun x => le x.toNat 8) [small] = (0, le8 l ++ tail) by simp [pSmall, smallGo, fits_zero Hf.out, Hf.out, ← Htail.out]]
  rintro r w5 ⟨rfl, F5, p5, m5⟩
  have o5 := Lib.hid ((o4.out.skip (Fr.none_alloc _ _)).mv m5)
  clear p4 o4 m5
  go_wp2_with fail
  refine (done_at _ _ _ _ _ p5 rfl).mono ?_
  rintro r w6 ⟨rfl, rfl⟩
  go_wp2_with fail
  refine (from_any _ _ (by have := Hn.out; have := Hlen.out; have := Htl.out; simp only [List.length_append, le8_len]; omega)).mono ?_
  rintro r w6 ⟨g, rfl, u6, b6, hg⟩
  have o6 := Lib.hid ((o5.out.below b6).also (F := F5) (G := fun k => k = g) (fun k hk => by have := o5.out.bel.size; omega))
  clear p5 o5 b6 hg
  go_wp2
  go_loopw [17] (fun i wr => ∃ k : Nat, k ≤ n ∧ i = .int .i64 k ∧ Up wr g 0 (le8 (l.drop k) ++ tail) ∧ Own w wr (fun k => k = g)) (fun i _ => n - (intOf i).toNat)
  case atStart => exact ⟨0, Nat.zero_le _, rfl, by simpa using u6, o6.out⟩
  case round =>
    obtain ⟨k, hk, rfl, hu, ho⟩ := hrel
    have Ho := Lib.hid ho
    by_cases hlt : k < n
    · have hr' := Hr.out.below ho.bel
      obtain ⟨ad, y, rfl, hy, hc⟩ := hr'.at_map hlt
      have hyb := Hwl.out y (mem_of_get hy)
      have hne : (ad.add k).block ≠ g := by
        rw [block_of_add]
        have h1 := Hr.out.adlt (by decide) ad.block ⟨by omega, ad, rfl, rfl⟩
        have h2 := ho.new g rfl
        omega
      have hint : ∀ W, Up W g 0 (le8 (l.drop k) ++ tail) → W.cell? (ad.add k) = some (.int .i64 y) → Calls Tryd.prog 30 #[.pointer (some ⟨g, 0, none⟩)] W fun r w' => r = .returned (.int .i64 y) ∧ Up w' g 0 (le8 (l.drop (k + 1)) ++ tail) ∧ Fr (fun k => k = g) W w' ∧ w'.cell? (ad.add k) = some (.int .i64 y) := by
        intro W hW hcW
        have h1 := int_keep g _ (ad.add k) _ W hW (by have := Hn.out; have := Hlen.out; have := Htl.out; simp only [List.length_append, le8_len, List.length_drop]; omega) hne hcW
        rw [drop_cons hy, le8_cons, List.append_assoc, uTake_app (le_length _ _)] at h1
        rw [ofLe_le8 _ (u64_lt y), sgn_u64 hyb.1 hyb.2] at h1
        exact h1
      have Hint := Lib.hid hint
      clear hr' hy hyb hint ho
      have hyy : (y != y) = false := by simp
      have hkn : (k : Int) < (n : Int) := by omega
      go_wp2
      go_region_held3 (fun w' => w'.cell? (ad.add k) = some (.int .i64 y)) (first | exact hc | assumption) (first | (go_at_call 30; refine (Hint.out wr.drew hu hc).mono ?_; rintro r w7 ⟨rfl, hu7, hf7, hc7⟩))
      have Hf7 := Lib.hid hf7
      have Hc7 := Lib.hid hc7
      clear hf7 hc7 hc
      go_wp2
      go_roundw
      case rel => exact ⟨k + 1, by omega, by go_num, hu7, (Ho.out.fr ((Fr.refl _ _).drew)).fr Hf7.out⟩
      case measure => simp [intOf]; omega
    · have hlk : l.drop k = [] := List.drop_eq_nil_of_le (by have := Hlen.out; omega)
      rw [hlk, show le8 [] ++ tail = tail from rfl] at hu
      clear hlk ho
      go_wp2_with fail
      refine (alive_any wr (Ht.out.below Ho.out.bel)).mono ?_
      rintro r w8 ⟨rfl, b8⟩
      have u8 := hu.fr0 (Fr.of_below b8)
      have o8 := Lib.hid (Ho.out.below b8)
      rw [← Htail.out] at u8
      clear hu Ho b8
      go_wp2_with fail
      refine (name_any g 0 _ _ u8 (by have := Htl.out; rw [Htail.out]; omega)).mono ?_
      rw [nameB_back Hnm.out, ← bstr_of nm]
      rintro r w9 ⟨rfl, u9, f9⟩
      have o9 := Lib.hid (o8.out.fr f9)
      clear u8 o8 f9
      go_wp2_with fail
      refine (utext_any g 0 _ _ u9 (by have := Htx.out; simp only [List.length_append, textB, le_length, str_len]; have := (fits_of Hf.out).2.1; omega)).mono ?_
      rw [textB_back (by have := Htx.out; omega), ← bstr_of tx]
      rintro r w10 ⟨rfl, u10, f10⟩
      have o10 := Lib.hid (o9.out.fr f10)
      clear u9 o9 f10
      go_wp2_with fail
      refine (word_any g 0 _ _ u10 (by simp only [List.length_append, le_length]; have := (fits_of Hf.out).2.1; omega)).mono ?_
      rw [uTake_app (le_length _ _), ofLe_le8 _ (by have := Hx.out; omega), show (x.toNat : Int) = x from Int.toNat_of_nonneg Hx.out.1]
      rintro r w11 ⟨rfl, u11, f11⟩
      have o11 := Lib.hid (o10.out.fr f11)
      clear u10 o10 f11
      go_wp2_with fail
      refine (usmall_any g 0 size _ _ u11 (by simp only [le_length]; have := (fits_of Hf.out).2.1; omega)).mono ?_
      rw [show uSmall size 0 (le small.toNat size.toNat) = (0, [], small.toNat) by have := uSmall_back Hf.out []; rwa [List.append_nil] at this]
      rintro r w12 ⟨rfl, u12, f12⟩
      have o12 := Lib.hid (o11.out.fr f12)
      have hv2 : ((small.toNat : Int) == small) = true := beq_iff_eq.2 (Int.toNat_of_nonneg v0)
      clear u11 o11 f12
      go_wp2_with fail
      refine (left_any g 0 [] _ u12).mono ?_
      rintro r w13 ⟨rfl, rfl⟩
      go_wp2_with fail
      refine (bad_any g 0 [] _ u12).mono ?_
      rintro r w13 ⟨rfl, rfl⟩
      go_wp2
      go_ret
      exact ⟨rfl, o12.out.bel⟩

set_option maxRecDepth 100000 in
set_option maxHeartbeats 2000000 in
theorem back_bad (A : Option Addr) (n c : Nat) (nm tx : ByteArray) (x size small : Int) (w : World) (ht : Tab w)
    (hf : ¬ (n ≤ 40 ∧ nm.size ≤ 15 ∧ tx.size ≤ 1000 ∧ fitsB size small = true)) :
    Calls Tryd.prog 8 #[.slice A n c, .string nm, .string tx, .int .u64 x, .int .i64 size, .int .i64 small] w fun r w' => r = .returned (.bool true) ∧ Below w.heap.size w w' := by
  have Ht := Lib.hid ht
  clear ht
  have hc : (40 : Int) < (n : Int) ∨ ((n : Int) ≤ 40 ∧ (15 : Int) < (nm.size : Int)) ∨ ((n : Int) ≤ 40 ∧ (nm.size : Int) ≤ 15 ∧ (1000 : Int) < (tx.size : Int)) ∨
      ((n : Int) ≤ 40 ∧ (nm.size : Int) ≤ 15 ∧ (tx.size : Int) ≤ 1000 ∧ size < 1) ∨ ((n : Int) ≤ 40 ∧ (nm.size : Int) ≤ 15 ∧ (tx.size : Int) ≤ 1000 ∧ 1 ≤ size ∧ 7 < size) ∨
      ((n : Int) ≤ 40 ∧ (nm.size : Int) ≤ 15 ∧ (tx.size : Int) ≤ 1000 ∧ 1 ≤ size ∧ size ≤ 7 ∧ small < 0) ∨
      ((n : Int) ≤ 40 ∧ (nm.size : Int) ≤ 15 ∧ (tx.size : Int) ≤ 1000 ∧ 1 ≤ size ∧ size ≤ 7 ∧ 0 ≤ small ∧ decide (wrap64 (2 ^ (8 * size).toNat) ≤ small) = true) := by
    by_cases h1 : (40 : Int) < (n : Int)
    · exact .inl h1
    by_cases h2 : (15 : Int) < (nm.size : Int)
    · exact .inr (.inl ⟨by omega, h2⟩)
    by_cases h3 : (1000 : Int) < (tx.size : Int)
    · exact .inr (.inr (.inl ⟨by omega, by omega, h3⟩))
    by_cases h4 : size < 1
    · exact .inr (.inr (.inr (.inl ⟨by omega, by omega, by omega, h4⟩)))
    by_cases h5 : 7 < size
    · exact .inr (.inr (.inr (.inr (.inl ⟨by omega, by omega, by omega, by omega, h5⟩))))
    by_cases h6 : small < 0
    · exact .inr (.inr (.inr (.inr (.inr (.inl ⟨by omega, by omega, by omega, by omega, by omega, h6⟩)))))
    refine .inr (.inr (.inr (.inr (.inr (.inr ⟨by omega, by omega, by omega, by omega, by omega, by omega, ?_⟩)))))
    have hsh := shl_ok (size := size) (by omega) (by omega)
    rw [show min (max size 0) 7 = size by omega] at hsh
    rw [hsh]
    refine decide_eq_true ?_
    rcases Int.lt_or_le small (256 ^ size.toNat) with h7 | h7
    · exact absurd ⟨by omega, by omega, by omega, decide_eq_true ⟨by omega, by omega, by omega, h7⟩⟩ hf
    · exact h7
  clear hf
  rcases hc with h1 | ⟨h1, h2⟩ | ⟨h1, h2, h3⟩ | ⟨h1, h2, h3, h4⟩ | ⟨h1, h2, h3, h4, h5⟩ | ⟨h1, h2, h3, h4, h5, h6⟩ | ⟨h1, h2, h3, h4, h5, h6, h7⟩
  all_goals
    go_enter Tryd.func8, Tryd.ntmps8
    go_wp2_with fail
    refine (alive_any w Ht.out).mono ?_
    rintro r w5 ⟨rfl, b5⟩
    have o5 := Lib.hid ((Own.start w).below b5)
    clear b5
    go_wp2
    go_ret
    exact ⟨rfl, o5.out.bel⟩

theorem back_walk (l : List Int) (A : Option Addr) (n c : Nat) (nm tx : ByteArray) (x size small : Int) (w : World) (ht : Tab w)
    (hr : Rd w 1 A n (l.map (Value.int .i64))) (hwl : ∀ y ∈ l, -9223372036854775808 ≤ y ∧ y ≤ 9223372036854775807) (hx0 : 0 ≤ x) (hx1 : x < 18446744073709551616) :
    Calls Tryd.prog 8 #[.slice A n c, .string nm, .string tx, .int .u64 x, .int .i64 size, .int .i64 small] w fun r w' => r = .returned (.bool true) ∧ Below w.heap.size w w' := by
  by_cases h : n ≤ 40 ∧ nm.size ≤ 15 ∧ tx.size ≤ 1000 ∧ fitsB size small = true
  · exact back_good l A n c nm tx x size small w ht hr hwl hx0 hx1 h.1 h.2.1 h.2.2.1 h.2.2.2
  · exact back_bad A n c nm tx x size small w ht h
end Go.Proofs.YtomofnmlhjpifaaDoor
