/- Walks of shadow: is, Bound, Done, Records, Load, Need; of a nil one. -/
import Derived.Test.YtfhhepfkjndkgaaGreatSh
import Derived.Test.YtfhhepfkjndkgaaGreatTiersP
import Derived.Test.YtfhhepfkjndkgaaGreatBound
namespace Go.Proofs.YtfhhepfkjndkgaaGreat
set_option linter.all false
open Go.RowKit

section
variable {w w' : World} {t base : Nat} {X : ShX} {F : Nat → Prop}
/-- The cells. -/
theorem ShIn.cells {A B T : Option Addr} {c d ct : Nat} {tb : List (Nat × Nat)} (h : ShIn w t base X A c B d T ct tb) {G : Nat → Prop} {W : World} (f : Fr G w W) (hg : ¬ G t) :
    W.cell? ⟨t, 0, none⟩ = some (.string X.name) ∧ W.cell? ⟨t, 1, none⟩ = some (.slice A X.tiers.length c) ∧ W.cell? ⟨t, 2, none⟩ = some (.slice B X.srcs.length d) ∧ W.cell? ⟨t, 3, none⟩ = some (.int .i64 X.bound) ∧ W.cell? ⟨t, 4, none⟩ = some (.int .i64 X.done) ∧ W.cell? ⟨t, 5, none⟩ = some (.slice T X.tiers.length ct) :=
  have b := h.blk.fr f hg
  ⟨b.cell 0, b.cell 1, b.cell 2, b.cell 3, b.cell 4, b.cell 5⟩
end
/-- The records of a tier, at any place. -/
def recI (tabs : List (List RecV)) (i : Int) : List RecV := if 0 ≤ i then tabs.getD i.toNat [] else []
theorem sis_any (t base : Nat) (X : ShX) (i : Int) (w : World) (h : ShAt w t base X) :
    Calls Tryz.prog 70 #[.pointer (some ⟨t, 0, none⟩), .int .i64 i] w fun r w' => r = .returned (.bool (decide (0 ≤ i) && decide (i < (X.tiers.length : Int)))) ∧ w = w' := by
  obtain ⟨A, c, B, d, T, ct, tb, hi⟩ := h
  obtain ⟨_, _, _, _, _, c5⟩ := hi.cells (Fr.refl (fun _ => False) w) (fun h => h)
  clear hi
  by_cases hi0 : 0 ≤ i
  · have hd : decide (0 ≤ i) = true := decide_eq_true hi0
    go_enter Tryz.func70, Tryz.ntmps70
    go_wp2_with fail
    go_ret
    exact ⟨by first | rfl | simp [hd], rfl⟩
  · have hd : decide (0 ≤ i) = false := decide_eq_false hi0
    go_enter Tryz.func70, Tryz.ntmps70
    go_wp2_with fail
    go_ret
    exact ⟨by first | rfl | simp [hd], rfl⟩
theorem sis_nil (i : Int) (w : World) : Calls Tryz.prog 70 #[.pointer none, .int .i64 i] w fun r w' => r = .returned (.bool false) ∧ w = w' := by
  go_enter Tryz.func70, Tryz.ntmps70
  go_wp2_with fail
  go_ret
  exact ⟨rfl, rfl⟩
theorem sbound_any (t base : Nat) (X : ShX) (w : World) (h : ShAt w t base X) :
    Calls Tryz.prog 27 #[.pointer (some ⟨t, 0, none⟩)] w fun r w' => r = .returned (.int .i64 X.bound) ∧ w = w' := by
  obtain ⟨A, c, B, d, T, ct, tb, hi⟩ := h
  obtain ⟨_, _, _, c3, _, _⟩ := hi.cells (Fr.refl (fun _ => False) w) (fun h => h)
  clear hi
  go_enter Tryz.func27, Tryz.ntmps27
  go_wp2_with fail
  go_ret
  exact ⟨rfl, rfl⟩
theorem sbound_nil (w : World) : Calls Tryz.prog 27 #[.pointer none] w fun r w' => r = .returned (.int .i64 0) ∧ w = w' := by
  go_enter Tryz.func27, Tryz.ntmps27
  go_wp2_with fail
  go_ret
  exact ⟨rfl, rfl⟩
theorem sdone_any (t base : Nat) (X : ShX) (w : World) (h : ShAt w t base X) :
    Calls Tryz.prog 21 #[.pointer (some ⟨t, 0, none⟩)] w fun r w' => r = .returned (.int .i64 X.done) ∧ w = w' := by
  obtain ⟨A, c, B, d, T, ct, tb, hi⟩ := h
  obtain ⟨_, _, _, _, c4, _⟩ := hi.cells (Fr.refl (fun _ => False) w) (fun h => h)
  clear hi
  go_enter Tryz.func21, Tryz.ntmps21
  go_wp2_with fail
  go_ret
  exact ⟨rfl, rfl⟩
theorem sdone_nil (w : World) : Calls Tryz.prog 21 #[.pointer none] w fun r w' => r = .returned (.int .i64 0) ∧ w = w' := by
  go_enter Tryz.func21, Tryz.ntmps21
  go_wp2_with fail
  go_ret
  exact ⟨rfl, rfl⟩
theorem srecords_nil (i : Int) (w : World) : Calls Tryz.prog 17 #[.pointer none, .int .i64 i] w fun r w' => r = .returned (.slice none 0 0) ∧ w = w' := by
  have H := Lib.hid (sis_nil i w)
  go_enter Tryz.func17, Tryz.ntmps17
  go_wp2_with fail
  refine H.out.mono ?_
  rintro r w' ⟨rfl, rfl⟩
  go_wp2_with fail
  go_ret
  exact ⟨rfl, rfl⟩
theorem sload_nil (i : Int) (v : Value) (w : World) : Calls Tryz.prog 19 #[.pointer none, .int .i64 i, v] w fun r w' => r = .returned (.int .i64 0) ∧ w = w' := by
  have H := Lib.hid (sis_nil i w)
  go_enter Tryz.func19, Tryz.ntmps19
  go_wp2_with fail
  refine H.out.mono ?_
  rintro r w' ⟨rfl, rfl⟩
  go_wp2_with fail
  go_ret
  exact ⟨rfl, rfl⟩
theorem sneed_nil (w : World) : Calls Tryz.prog 29 #[.pointer none] w fun r w' => r = .returned (.int .i64 0) ∧ w = w' := by
  go_enter Tryz.func29, Tryz.ntmps29
  go_wp2_with fail
  go_ret
  exact ⟨rfl, rfl⟩
theorem sfits_nil (p : Value) (w : World) : Calls Tryz.prog 30 #[.pointer none, p] w fun r w' => r = .returned (.bool false) ∧ w = w' := by
  go_enter Tryz.func30, Tryz.ntmps30
  go_wp2_with fail
  go_ret
  exact ⟨rfl, rfl⟩
theorem scopy_nil (w : World) : Calls Tryz.prog 18 #[.pointer none] w fun r w' => r = .returned (.pointer none) ∧ w = w' := by
  go_enter Tryz.func18, Tryz.ntmps18
  go_wp2_with fail
  go_ret
  exact ⟨rfl, rfl⟩
theorem strim_nil (p : Value) (w : World) : Calls Tryz.prog 28 #[.pointer none, p] w fun r w' => r = .returned (.int .i64 0) ∧ w = w' := by
  go_enter Tryz.func28, Tryz.ntmps28
  go_wp2_with fail
  go_ret
  exact ⟨rfl, rfl⟩
theorem snote_nil (p v : Value) (w : World) : Calls Tryz.prog 25 #[.pointer none, p, v] w fun r w' => r = .returned (.tuple #[]) ∧ w = w' := by
  go_enter Tryz.func25, Tryz.ntmps25
  go_wp2_with fail
  refine bodyPost_ret (v := .tuple #[]) ?_ rfl ⟨rfl, rfl⟩
  simp [results, Tryz.results25, go_sem]
theorem snext_nil (w : World) : Calls Tryz.prog 26 #[.pointer none] w fun r w' => r = .returned (.tuple #[stepVal (0, 0, 0), .bool false]) ∧ Below w.heap.size w w' := by
  have O := (Own.start w).skip (Fr.none_alloc w (.cells #[.int .i64 0, .int .i64 0, .int .i64 0] 50))
  have hbel := put3 (g := w.heap.size) O (Nat.le_refl _) (.int .i64 0) (.int .i64 0) (.int .i64 0)
  have b1 := Blk.new w 50 #[.int .i64 0, .int .i64 0, .int .i64 0]
  have HO := Lib.hid (And.intro O.bel hbel)
  clear O hbel
  go_enter Tryz.func26, Tryz.ntmps26
  go_wp2_with fail
  refine bodyPost_ret (v := .tuple #[stepVal (0, 0, 0), .bool false]) ?_ rfl ⟨rfl, by first | exact HO.out.1 | exact HO.out.2⟩
  simp [results, Tryz.results26, go_sem, stepVal]
theorem sstep_nil (p : Value) (w : World) : Calls Tryz.prog 14 #[.pointer none, p] w fun r w' => r = .returned (.tuple #[stepVal (0, 0, 0), .pointer none, .int .i64 1]) ∧ Below w.heap.size w w' := by
  have O := (Own.start w).skip (Fr.none_alloc w (.cells #[.int .i64 0, .int .i64 0, .int .i64 0] 50))
  have hbel := put3 (g := w.heap.size) O (Nat.le_refl _) (.int .i64 0) (.int .i64 0) (.int .i64 0)
  have b1 := Blk.new w 50 #[.int .i64 0, .int .i64 0, .int .i64 0]
  have HO := Lib.hid (And.intro O.bel hbel)
  clear O hbel
  go_enter Tryz.func14, Tryz.ntmps14
  go_wp2_with fail
  refine bodyPost_ret (v := .tuple #[stepVal (0, 0, 0), .pointer none, .int .i64 1]) ?_ rfl ⟨rfl, by first | exact HO.out.1 | exact HO.out.2⟩
  simp [results, Tryz.results14, go_sem, stepVal]
theorem srecords_any (t base : Nat) (X : ShX) (i : Int) (w : World) (h : ShAt w t base X) (hl : ∀ m ∈ X.tabs, m.length ≤ 1000000000) :
    Calls Tryz.prog 17 #[.pointer (some ⟨t, 0, none⟩), .int .i64 i] w fun r w' => (∃ A c, r = .returned (.slice A (recI X.tabs i).length c) ∧ w'.ownsRow w.heap.size 30 7 (.slice A (recI X.tabs i).length c) (recI X.tabs i).length (rcells (recI X.tabs i))) ∧ Below w.heap.size w w' := by
  have H := Lib.hid (sis_any t base X i w h)
  obtain ⟨A, c, B, d, T, ct, tb, hi⟩ := h
  obtain ⟨_, _, _, _, _, c5⟩ := hi.cells (Fr.refl (fun _ => False) w) (fun h => h)
  by_cases hin : 0 ≤ i ∧ i < (X.tiers.length : Int)
  · obtain ⟨k, rfl⟩ : ∃ k : Nat, i = k := ⟨i.toNat, by omega⟩
    obtain ⟨g, b, x, l, h1, h2, h3, hT⟩ := hi.tabAt (k := k) (by omega)
    have e : recI X.tabs (k : Int) = l := by unfold recI; rw [if_pos (by omega)]; simp only [Int.toNat_natCast]; rw [List.getD_eq_getElem?_getD, h3]; rfl
    have HA := Lib.hid (taball_any g x.every b l w hT (hl l (mem_of_get h3)))
    have hib : (decide (0 ≤ (k : Int)) && decide ((k : Int) < (X.tiers.length : Int))) = true := by simp; omega
    rw [hib] at H
    rw [e]
    obtain ⟨ad, rfl, hc⟩ := (own_any hi.row).2.2.1.2 (show 0 < X.tiers.length by omega)
    have p0 := hc k _ (ptrs_get h1)
    have kn : 0 ≤ (k : Int) ∧ (k : Int) < (X.tiers.length : Int) := hin
    obtain ⟨n, hn⟩ : ∃ n, X.tiers.length = n := ⟨_, rfl⟩
    rw [hn] at c5 kn
    clear hi hT h1 h2 h3 e hib hl hc
    go_enter Tryz.func17, Tryz.ntmps17
    go_wp2_with fail
    refine H.out.mono ?_
    rintro r w' ⟨rfl, rfl⟩
    go_wp2_with fail
    refine HA.out.mono ?_
    rintro r w6 ⟨⟨A, c, rfl, ho⟩, b6⟩
    have Ho := Lib.hid ho
    have B6 := Lib.hid b6
    clear ho b6
    go_wp2_with fail
    go_ret
    exact ⟨⟨A, c, rfl, Ho.out⟩, B6.out⟩
  · have hib : (decide (0 ≤ i) && decide (i < (X.tiers.length : Int))) = false := by
      rw [Bool.and_eq_false_iff, decide_eq_false_iff_not, decide_eq_false_iff_not]
      omega
    have e : recI X.tabs i = [] := by
      unfold recI
      split
      · rw [List.getD_eq_getElem?_getD, List.getElem?_eq_none (by rw [hi.tlen]; omega)]; rfl
      · rfl
    rw [hib] at H
    rw [e]
    clear hi c5
    go_enter Tryz.func17, Tryz.ntmps17
    go_wp2_with fail
    refine H.out.mono ?_
    rintro r w' ⟨rfl, rfl⟩
    go_wp2_with fail
    go_ret
    exact ⟨⟨none, 0, rfl, World.ownsRow_nil _ _ _ _⟩, Below.refl _ _⟩
end Go.Proofs.YtfhhepfkjndkgaaGreat
