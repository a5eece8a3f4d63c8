/- The statement PackFirst: the walk. -/
import Derived.Test.YtomofnmlhjpifaaDoorPkF
namespace Go.Proofs.YtomofnmlhjpifaaDoor
open Go.RowKit

set_option maxRecDepth 100000 in
theorem first_walk (s : List UInt8) (n : Int) (b : List UInt8) (w : World) (ht : Tab w) :
    Calls Tryd.prog 9 #[.string (bstr s), .int .i64 n, .string (bstr b)] w fun r w' => r = .returned (.bool true) ∧ Below w.heap.size w w' := by
  have Ht := Lib.hid ht
  clear ht
  have hz := bstr_size s
  have hzb := bstr_size b
  by_cases hl : 16 ≤ s.length ∧ s.length ≤ 300 ∧ b.length ≤ 300
  · obtain ⟨h1, h2, h3⟩ := hl
    have g1 : (16 : Int) ≤ ((bstr s).size : Int) := by omega
    have g2 : ((bstr s).size : Int) ≤ 300 := by omega
    have g3 : ((bstr b).size : Int) ≤ 300 := by omega
    have Hl := Lib.hid h3
    have Hs := Lib.hid (show 15 < (bstr s).size ∧ (bstr s).size ≤ 300 by omega)
    have he : (bstr []).toList = [] := by rw [Lib.toList_data, bstr_list]
    clear hz hzb h1 h2 h3
    go_enter Tryd.func9, Tryd.ntmps9
    go_wp2_with fail
    have p0 := (Pk.new w).1
    have o0 := ((Own.start w).skip (Fr.none_alloc w (.cells #[.int .i64 0, .slice none 0 0] 28))).also (Pk.new w).2
    refine (ints_any _ _ 0 [] [n] _ 1 1 _ (p0.fr (Fr.none_alloc _ _) (fun _ _ h => h)) (Rd.new' (by simp) _ _ _ rfl) (adF_new' (by simp) p0.lt) (by simp)).mono ?_
    rw [pW_zero]
    rintro r w1 ⟨rfl, F1, p1, m1⟩
    have o1 := Lib.hid ((o0.skip (Fr.none_alloc _ _)).mv m1)
    clear p0 o0 m1
    go_wp2_with fail
    refine (names_any _ _ 0 _ [bstr s] _ 1 1 _ (p1.fr (Fr.none_alloc _ _) (fun _ _ h => h)) (Rd.new _ _ _ _ rfl) (adF_new p1.lt) (by simp [le8_len]) (by have := Hs.out; simp; omega)).mono ?_
    rw [show pNames 0 ([] ++ le8 [n]) [bstr s] = (2, [] ++ le8 [n]) by simp only [pNames, if_true, if_pos Hs.out.1]]
    rintro r w2 ⟨rfl, F2, p2, m2⟩
    have o2 := Lib.hid ((o1.out.skip (Fr.none_alloc _ _)).mv m2)
    clear p1 o1 m2
    go_wp2_with fail
    refine (small_any _ _ 2 9 _ [1] _ 1 1 _ (p2.fr (Fr.none_alloc _ _) (fun _ _ h => h)) (Rd.new _ _ _ _ rfl) (adF_new p2.lt) (by simp [le8_len])).mono ?_
    rw [show pSmall 9 2 ([] ++ le8 [n]) [1] = (2, [] ++ le8 [n]) by simp [pSmall]]
    rintro r w3 ⟨rfl, F3, p3, m3⟩
    have o3 := Lib.hid ((o2.out.skip (Fr.none_alloc _ _)).mv m3)
    clear p2 o2 m3
    go_wp2_with fail
    refine (text_any _ _ 2 _ _ _ p3 (by simp [le8_len]) (by decide)).mono ?_
    rw [show pText 2 ([] ++ le8 [n]) ⟨#[120]⟩ = (2, [] ++ le8 [n]) by simp [pText]]
    rintro r w4 ⟨rfl, F4, p4, m4⟩
    have o4 := Lib.hid (o3.out.mv m4)
    clear p3 o3 m4
    go_wp2_with fail
    refine (done_err _ _ _ _ _ p4 (by decide)).mono ?_
    rintro r w5 ⟨rfl, k5, h5⟩
    have o5 := Lib.hid (o4.out.skip (Fr.none_drewN w4 k5))
    rw [← h5] at o5
    clear p4 o4 h5
    go_wp2_with fail
    refine (from_any b _ (by have := Hl.out; omega)).mono ?_
    rintro r w6 ⟨g, rfl, u6, b6, hg⟩
    have o6 := Lib.hid ((o5.out.below b6).also (F := F4) (G := fun k => k = g) (fun k hk => by have := o5.out.bel.size; omega))
    clear o5 b6 hg
    go_wp2_with fail
    refine (usmall_any g 0 8 b _ u6 (by have := Hl.out; omega)).mono ?_
    rw [show uSmall 8 0 b = (1, b, 0) by simp only [uSmall, if_true, show fitsB 8 0 = false by decide, Bool.false_eq_true, if_false]]
    rintro r w7 ⟨rfl, u7, f7⟩
    have o7 := Lib.hid (o6.out.fr f7)
    clear u6 o6 f7
    go_wp2_with fail
    refine (alive_any w7 (Ht.out.below o7.out.bel)).mono ?_
    rintro r w8 ⟨rfl, b8⟩
    have u8 := u7.fr0 (Fr.of_below b8)
    have o8 := Lib.hid (o7.out.below b8)
    clear u7 o7 b8
    go_wp2_with fail
    refine (bad_any g 1 b _ u8).mono ?_
    rintro r w9 ⟨rfl, rfl⟩
    go_wp2_with fail
    refine (int_any g 1 b _ u8 (by have := Hl.out; omega)).mono ?_
    rw [show uTake 1 b 8 = (1, b, []) by simp [uTake]]
    rintro r w9 ⟨rfl, u9, f9⟩
    have o9 := Lib.hid (o8.out.fr f9)
    clear u8 o8 f9
    have hs0 : (sgn (ofLe []) == 0) = true := by decide
    go_wp2_with fail
    refine (name_any g 1 b _ u9 (by have := Hl.out; omega)).mono ?_
    rw [show uName 1 b = (1, b, []) by simp [uName, uTake]]
    rintro r w10 ⟨rfl, u10, f10⟩
    have o10 := Lib.hid (o9.out.fr f10)
    clear u9 o9 f10
    go_wp2_with fail
    refine (utext_any g 1 b _ u10 (by have := Hl.out; omega)).mono ?_
    rw [show uText 1 b = (1, b, []) by simp [uText]]
    rintro r w11 ⟨rfl, u11, f11⟩
    have o11 := Lib.hid (o10.out.fr f11)
    clear u10 o10 f11
    go_wp2_with fail
    refine (bad_any g 1 b _ u11).mono ?_
    rintro r w12 ⟨rfl, rfl⟩
    go_wp2
    go_ret
    exact ⟨rfl, o11.out.bel⟩
  · have hc : ((bstr s).size : Int) < 16 ∨ (16 ≤ ((bstr s).size : Int) ∧ 300 < ((bstr s).size : Int)) ∨ (16 ≤ ((bstr s).size : Int) ∧ ((bstr s).size : Int) ≤ 300 ∧ 300 < ((bstr b).size : Int)) := by omega
    clear hl hz hzb
    rcases hc with g1 | ⟨g1, g2⟩ | ⟨g1, g2, g3⟩
    all_goals
      go_enter Tryd.func9, Tryd.ntmps9
      go_wp2_with fail
      refine (alive_any w Ht.out).mono ?_
      rintro r w5 ⟨rfl, b5⟩
      have o5 := Lib.hid ((Own.start w).below b5)
      clear b5
      go_wp2
      go_ret
      exact ⟨rfl, o5.out.bel⟩
end Go.Proofs.YtomofnmlhjpifaaDoor
