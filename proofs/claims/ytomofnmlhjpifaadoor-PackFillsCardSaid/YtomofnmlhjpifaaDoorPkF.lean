/- Walks: pack.Digits; the statements' first call (alive). -/
import Derived.Test.YtomofnmlhjpifaaDoorPkE
import Derived.Lib.AppendIntMem
namespace Go.Proofs.YtomofnmlhjpifaaDoor
open Go.RowKit

/-- The library's table of the powers of ten is there. -/
def Tab (w : World) : Prop := Lib.TabIs Tryd.prog w "internal/strconv.uint64pow10" .u64 Lib.pow10Tab
theorem Tab.below {w w' : World} (h : Tab w) (hb : Below w.heap.size w w') : Tab w' := tab_below h hb

theorem digits_any (n : Int) (h0 : -9223372036854775808 ≤ n) (h1 : n ≤ 9223372036854775807) (w : World) (ht : Tab w) :
    Calls Tryd.prog 20 #[.int .i64 n] w fun r w' => r = .returned (.string (bstr (Lib.itoa n))) ∧ Below w.heap.size w w' := by
  have hc := Tryd.strconv_Itoa n h0 h1 w ht
  have hc' : Calls Tryd.prog 41 #[.int .i64 n] w fun r w' => r = .returned (.string (bstr (Lib.itoa n))) ∧ Below w.heap.size w w' :=
    hc.mono fun r w' ⟨e, k, os, hw⟩ => ⟨e, by rw [hw]; exact Lib.below_grow _ _ (Nat.le_refl _) _ _⟩
  have Hc := Lib.hid hc'
  clear hc hc' h0 h1 ht
  go_enter Tryd.func20, Tryd.ntmps20
  go_wp2_with fail
  refine Hc.out.mono ?_
  rintro r w1 ⟨rfl, hb⟩
  have Hb := Lib.hid hb
  clear hb
  go_wp2
  go_ret
  exact ⟨rfl, Hb.out⟩

theorem done_at (g : Nat) (F : Nat → Prop) (l : List UInt8) (s : ByteArray) (w : World) (h : Pk w g F 0 l) (hs : bstr l = s) :
    Calls Tryd.prog 12 #[.pointer (some ⟨g, 0, none⟩)] w fun r w' => r = .returned (.tuple #[.string s, .int .i64 0]) ∧ w = w' := by
  subst hs
  exact done_ok g F l w h

theorem Pk.new (w : World) : Pk (w.alloc (.cells #[.int .i64 0, .slice none 0 0] 28)) w.heap.size (pkF w.heap.size none 0 0) 0 [] ∧ ∀ k, pkF w.heap.size none 0 0 k → w.heap.size ≤ k := by
  refine ⟨⟨none, 0, 0, Blk.new _ _ _, World.ownsRow_nil _ _ _ _, rfl⟩, ?_⟩
  rintro k (rfl | hk)
  · exact Nat.le_refl _
  · cases hk

theorem itoa7 : Lib.itoa (-7) = [45, 55] := by
  have h : Lib.decDigits 7 = [55] := by rw [Lib.decDigits, dif_pos (by decide)]; rfl
  have h2 : Lib.itoa (-7) = 45 :: Lib.decDigits 7 := by unfold Lib.itoa; rw [if_pos (by decide)]; rfl
  rw [h2, h]

set_option maxRecDepth 100000 in
theorem alive_any (w : World) (ht : Tab w) : Calls Tryd.prog 13 #[] w fun r w' => r = .returned (.bool true) ∧ Below w.heap.size w w' := by
  have Ht := Lib.hid ht
  clear ht
  go_enter Tryd.func13, Tryd.ntmps13
  go_wp2_with fail
  have p0 := (Pk.new w).1
  have o0 := ((Own.start w).skip (Fr.none_alloc w (.cells #[.int .i64 0, .slice none 0 0] 28))).also (Pk.new w).2
  refine (small_any _ _ 0 2 [] [258, 1] _ 2 2 _ (p0.fr (Fr.none_alloc _ _) (fun _ _ h => h)) (Rd.new' (by simp) _ _ _ rfl) (adF_new' (by simp) p0.lt) (by simp)).mono ?_
  rw [show pSmall 2 0 [] [258, 1] = (0, [2, 1, 1, 0]) by decide]
  rintro r w1 ⟨rfl, F1, p1, m1⟩
  have o1 := Lib.hid ((o0.skip (Fr.none_alloc _ _)).mv m1)
  clear p0 o0 m1
  go_wp2_with fail
  refine (names_any _ _ 0 _ [bstr [97, 98]] _ 1 1 _ (p1.fr (Fr.none_alloc _ _) (fun _ _ h => h)) (Rd.new _ _ _ _ rfl) (adF_new p1.lt) (by simp) (by simp [bstr_size])).mono ?_
  rw [show pNames 0 [2, 1, 1, 0] [bstr [97, 98]] = (0, [2, 1, 1, 0, 2, 97, 98, 0, 0, 0, 0, 0, 0, 0, 0, 0, 0, 0, 0, 0]) by decide]
  rintro r w2 ⟨rfl, F2, p2, m2⟩
  have o2 := Lib.hid ((o1.out.skip (Fr.none_alloc _ _)).mv m2)
  clear p1 o1 m2
  go_wp2_with fail
  obtain ⟨s, hs⟩ : ∃ s, bstr [2, 1, 1, 0, 2, 97, 98, 0, 0, 0, 0, 0, 0, 0, 0, 0, 0, 0, 0, 0] = s := ⟨_, rfl⟩
  have hsz : s.size = 20 := by rw [← hs]; rfl
  have hpre : ((s.extract 0 7).toList == [2, 1, 1, 0, 2, 97, 98]) = true := by rw [← hs, bstr_extract, Lib.toList_data, bstr_list]; rfl
  refine (done_at _ _ _ s _ p2 hs).mono ?_
  clear hs
  rintro r w3 ⟨rfl, rfl⟩
  go_wp2_with fail
  refine (from_any [2, 1, 5] _ (by simp)).mono ?_
  rintro r w4 ⟨g, rfl, u4, b4, hg⟩
  have o4 := Lib.hid ((o2.out.below b4).also (F := F2) (G := fun k => k = g) (fun k hk => by have := o2.out.bel.size; omega))
  clear p2 o2 b4 hg
  go_wp2_with fail
  refine (usmall_any g 0 2 [2, 1, 5] _ u4 (by simp)).mono ?_
  rw [show uSmall 2 0 [2, 1, 5] = (0, [5], 258) by decide]
  rintro r w5 ⟨rfl, u5, f5⟩
  have o5 := Lib.hid (o4.out.fr f5)
  clear u4 o4 f5
  go_wp2_with fail
  refine (left_any g 0 [5] _ u5).mono ?_
  rintro r w6 ⟨rfl, rfl⟩
  go_wp2_with fail
  refine (digits_any (-7) (by omega) (by omega) w5 (Ht.out.below o5.out.bel)).mono ?_
  rw [show Lib.itoa (-7) = [45, 55] from itoa7]
  rintro r w7 ⟨rfl, b7⟩
  have o7 := Lib.hid (o5.out.below b7)
  clear b7 o5 u5
  have hd : ((bstr [45, 55]).toList == [45, 55]) = true := by rw [Lib.toList_data, bstr_list]; rfl
  go_wp2
  go_ret
  exact ⟨rfl, o7.out.bel⟩
end Go.Proofs.YtomofnmlhjpifaaDoor
