/- The statement PackNone: the walk. -/
import Derived.Test.YtomofnmlhjpifaaDoorPkN
namespace Go.Proofs.YtomofnmlhjpifaaDoor
open Go.RowKit

theorem cell_new0 (w : World) (u : Value) (t : TypeId) {k : Nat} (hk : k = w.heap.size) : (w.alloc (.cells #[u] t)).cell? ⟨k, 0, none⟩ = some u := by
  subst hk; exact (Blk.new w t #[u]).cell 0

set_option maxRecDepth 100000 in
theorem none_walk (n : Int) (s : List UInt8) (w : World) (ht : Tab w) :
    Calls Tryd.prog 10 #[.int .i64 n, .string (bstr s)] w fun r w' => r = .returned (.bool true) ∧ Below w.heap.size w w' := by
  have Ht := Lib.hid ht
  clear ht
  have hz := bstr_size s
  by_cases hl : s.length ≤ 300
  · have g2 : ((bstr s).size : Int) ≤ 300 := by omega
    have he : (bstr []).toList = [] := by rw [Lib.toList_data, bstr_list]
    have he2 : bstr [] ++ bstr [] = bstr [] := rfl
    have he3 : (bstr []).size = 0 := rfl
    clear hz hl
    go_enter Tryd.func10, Tryd.ntmps10
    go_wp2_with fail
    refine (ints_nil n _ _ (cell_one_new _ _ _ 0 _ rfl)).mono ?_
    rintro r w1 ⟨rfl, b1⟩
    have o1 := Lib.hid (((Own.start w).skip (Fr.none_alloc _ _)).below b1)
    clear b1
    go_wp2_with fail
    refine (small_nil 1 _ _ _ _).mono ?_
    rintro r w2 ⟨rfl, k2, h2⟩
    have o2 := Lib.hid ((o1.out.skip (Fr.none_alloc w1 (.cells #[.int .i64 n] 3))).skip (Fr.none_drewN _ k2))
    rw [← h2] at o2
    clear h2 o1
    go_wp2_with fail
    refine (words_nil _ _ _ _).mono ?_
    rintro r w3 ⟨rfl, rfl⟩
    go_wp2_with fail
    refine (names_nil (bstr s) _ _ (cell_new0 _ _ _ (by simp))).mono ?_
    rintro r w4 ⟨rfl, rfl⟩
    have o4 := Lib.hid ((o2.out.skip (Fr.none_alloc w2 (.cells #[.int .u64 1] 53))).skip (Fr.none_alloc _ (.cells #[.string (bstr s)] 9)))
    clear o2
    go_wp2_with fail
    refine (ptext_nil _ _).mono ?_
    rintro r w4 ⟨rfl, rfl⟩
    go_wp2_with fail
    refine (fill_nil _ _).mono ?_
    rintro r w4 ⟨rfl, rfl⟩
    go_wp2_with fail
    refine (done_nil _).mono ?_
    rintro r w4 ⟨rfl, rfl⟩
    go_wp2_with fail
    refine (alive_any _ (Ht.out.below o4.out.bel)).mono ?_
    rintro r w5 ⟨rfl, b5⟩
    have o5 := Lib.hid (o4.out.below b5)
    clear o4 b5
    go_wp2_with fail
    refine (len_nil _).mono ?_
    rintro r w6 ⟨rfl, rfl⟩
    go_wp2_with fail
    refine (int_nil _).mono ?_
    rintro r w6 ⟨rfl, b6⟩
    have o6 := Lib.hid (o5.out.below b6)
    clear o5 b6
    go_wp2_with fail
    refine (usmall_nil _ _).mono ?_
    rintro r w7 ⟨rfl, k7, h7⟩
    have o7 := Lib.hid (o6.out.skip (Fr.none_drewN _ k7))
    rw [← h7] at o7
    clear h7 o6
    go_wp2_with fail
    refine (left_nil _).mono ?_
    rintro r w8 ⟨rfl, rfl⟩
    go_wp2_with fail
    refine (word_nil _).mono ?_
    rintro r w9 ⟨rfl, b9⟩
    have o9 := Lib.hid (o7.out.below b9)
    clear o7 b9
    go_wp2_with fail
    refine (name_nil _).mono ?_
    rintro r w10 ⟨rfl, rfl⟩
    go_wp2_with fail
    refine (text_nil _).mono ?_
    rintro r w10 ⟨rfl, rfl⟩
    go_wp2_with fail
    refine (rest_nil _).mono ?_
    rintro r w10 ⟨rfl, rfl⟩
    go_wp2_with fail
    refine (bad_nil _).mono ?_
    rintro r w10 ⟨rfl, rfl⟩
    go_wp2
    go_ret
    exact ⟨rfl, o9.out.bel⟩
  · have g1 : (300 : Int) < ((bstr s).size : Int) := by omega
    clear hl hz
    go_enter Tryd.func10, Tryd.ntmps10
    go_wp2_with fail
    refine (alive_any w Ht.out).mono ?_
    rintro r w5 ⟨rfl, b5⟩
    have o5 := Lib.hid ((Own.start w).below b5)
    clear b5
    go_wp2
    go_ret
    exact ⟨rfl, o5.out.bel⟩
end Go.Proofs.YtomofnmlhjpifaaDoor
