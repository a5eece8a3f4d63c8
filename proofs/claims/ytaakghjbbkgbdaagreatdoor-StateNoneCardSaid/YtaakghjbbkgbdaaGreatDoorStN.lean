/- Walks of state: of a nil and of a zero one. -/
import Derived.Test.YtaakghjbbkgbdaaGreatDoorStQ
namespace Go.Proofs.YtaakghjbbkgbdaaGreatDoor
set_option linter.all false
open Go.RowKit

theorem stask_nil (s : ByteArray) (a b : Int) (W : World) : Calls Tryz.prog 55 #[.pointer none, .string s, .int .i64 a, .int .i64 b] W fun r w' => r = .returned (.tuple #[.agg #[.int .i64 0, .slice none 0 0], .int .i64 1]) ∧ Below W.heap.size W w' := by
 have F0 : Hid (Fr (fun _ => False) W (W.alloc (.cells #[.int .i64 0, .slice none 0 0] 114))) := Fr.none_alloc _ _
 have B0 := Blk.new W 114 #[.int .i64 0, .slice none 0 0]
 have HN := Lib.hid (stnone_nil (W.alloc (.cells #[.int .i64 0, .slice none 0 0] 114)))
 have y0 := B0.cell 0
 have z0 := B0.frozen 0
 have y1 := B0.cell 1
 have z1 := B0.frozen 1
 simp only [List.getElem?_toArray, List.getElem?_cons_succ, List.getElem?_cons_zero] at y0 y1
 clear B0
 go_enter Tryz.func55, Tryz.ntmps55
 go_wp2_with fail
 refine HN.out.mono ?_
 rintro r w1 ⟨rfl, rfl⟩
 go_wp2_with fail
 refine bodyPost_ret (v := .tuple #[.agg #[.int .i64 0, .slice none 0 0], .int .i64 1]) ?_ rfl ⟨rfl, by first | exact (F0.out.trans (Fr.none_alloc _ _) (fun _ h => h.elim)).below (fun _ h => h.elim) | exact F0.out.below (fun _ h => h.elim) | exact ((F0.out.setCell (p := ⟨W.heap.size, 0, none⟩) (.inr (Nat.le_refl _)) (.int .i64 0)).setCell (p := ⟨W.heap.size, 1, none⟩) (.inr (Nat.le_refl _)) (.slice none 0 0)).below (fun _ h => h.elim) | exact (Fr.none_alloc _ _).below (fun _ h => h.elim)⟩
 simp [results, Tryz.results55, go_sem, *]
theorem ststep_nil  (W : World) : Calls Tryz.prog 36 #[.pointer none] W fun r w' => r = .returned (.tuple #[.agg #[.int .i64 0, .int .i64 0, .int .i64 0], .int .i64 1]) ∧ Below W.heap.size W w' := by
 have F0 : Hid (Fr (fun _ => False) W (W.alloc (.cells #[.int .i64 0, .int .i64 0, .int .i64 0] 76))) := Fr.none_alloc _ _
 have B0 := Blk.new W 76 #[.int .i64 0, .int .i64 0, .int .i64 0]
 have HN := Lib.hid (stnone_nil (W.alloc (.cells #[.int .i64 0, .int .i64 0, .int .i64 0] 76)))
 have y0 := B0.cell 0
 have z0 := B0.frozen 0
 have y1 := B0.cell 1
 have z1 := B0.frozen 1
 have y2 := B0.cell 2
 have z2 := B0.frozen 2
 simp only [List.getElem?_toArray, List.getElem?_cons_succ, List.getElem?_cons_zero] at y0 y1 y2
 clear B0
 go_enter Tryz.func36, Tryz.ntmps36
 go_wp2_with fail
 refine HN.out.mono ?_
 rintro r w1 ⟨rfl, rfl⟩
 go_wp2_with fail
 refine bodyPost_ret (v := .tuple #[.agg #[.int .i64 0, .int .i64 0, .int .i64 0], .int .i64 1]) ?_ rfl ⟨rfl, by first | exact (F0.out.trans (Fr.none_alloc _ _) (fun _ h => h.elim)).below (fun _ h => h.elim) | exact F0.out.below (fun _ h => h.elim) | exact (((F0.out.setCell (p := ⟨W.heap.size, 0, none⟩) (.inr (Nat.le_refl _)) (.int .i64 0)).setCell (p := ⟨W.heap.size, 1, none⟩) (.inr (Nat.le_refl _)) (.int .i64 0)).setCell (p := ⟨W.heap.size, 2, none⟩) (.inr (Nat.le_refl _)) (.int .i64 0)).below (fun _ h => h.elim) | exact (Fr.none_alloc _ _).below (fun _ h => h.elim)⟩
 simp [results, Tryz.results36, go_sem, *]
theorem stchange_nil (s : ByteArray) (W : World) : Calls Tryz.prog 35 #[.pointer none, .string s] W fun r w' => r = .returned (.tuple #[.int .i64 1, .int .i64 0]) ∧ W = w' := by
 have HN := Lib.hid (stnone_nil W)
 go_enter Tryz.func35, Tryz.ntmps35
 go_wp2_with fail
 refine HN.out.mono ?_
 rintro r w1 ⟨rfl, rfl⟩
 go_wp2_with fail
 go_ret2
 exact ⟨by first | rfl | simp [*], rfl⟩
theorem stput_nil (v : Value) (W : World) : Calls Tryz.prog 33 #[.pointer none, v] W fun r w' => r = .returned (.int .i64 1) ∧ W = w' := by
 have HN := Lib.hid (stnone_nil W)
 go_enter Tryz.func33, Tryz.ntmps33
 go_wp2_with fail
 refine HN.out.mono ?_
 rintro r w1 ⟨rfl, rfl⟩
 go_wp2_with fail
 go_ret
 exact ⟨by first | rfl | simp [*], rfl⟩
theorem sttick_nil (v : Value) (W : World) : Calls Tryz.prog 34 #[.pointer none, v] W fun r w' => r = .returned (.int .i64 1) ∧ W = w' := by
 have HN := Lib.hid (stnone_nil W)
 go_enter Tryz.func34, Tryz.ntmps34
 go_wp2_with fail
 refine HN.out.mono ?_
 rintro r w1 ⟨rfl, rfl⟩
 go_wp2_with fail
 go_ret
 exact ⟨by first | rfl | simp [*], rfl⟩
theorem stabort_nil  (W : World) : Calls Tryz.prog 37 #[.pointer none] W fun r w' => r = .returned (.int .i64 1) ∧ W = w' := by
 have HN := Lib.hid (stnone_nil W)
 go_enter Tryz.func37, Tryz.ntmps37
 go_wp2_with fail
 refine HN.out.mono ?_
 rintro r w1 ⟨rfl, rfl⟩
 go_wp2_with fail
 go_ret
 exact ⟨by first | rfl | simp [*], rfl⟩
theorem stneed_nil  (W : World) : Calls Tryz.prog 40 #[.pointer none] W fun r w' => r = .returned (.int .i64 0) ∧ W = w' := by
 have HN := Lib.hid (stnone_nil W)
 go_enter Tryz.func40, Tryz.ntmps40
 go_wp2_with fail
 refine HN.out.mono ?_
 rintro r w1 ⟨rfl, rfl⟩
 go_wp2_with fail
 go_ret
 exact ⟨by first | rfl | simp [*], rfl⟩
theorem stask_zero (s : ByteArray) (a b : Int) (g : Nat) (W : World) (h : W.cell? ⟨g, 1, none⟩ = some (.pointer none)) : Calls Tryz.prog 55 #[.pointer (some ⟨g, 0, none⟩), .string s, .int .i64 a, .int .i64 b] W fun r w' => r = .returned (.tuple #[.agg #[.int .i64 0, .slice none 0 0], .int .i64 1]) ∧ Below W.heap.size W w' := by
 have F0 : Hid (Fr (fun _ => False) W (W.alloc (.cells #[.int .i64 0, .slice none 0 0] 114))) := Fr.none_alloc _ _
 have B0 := Blk.new W 114 #[.int .i64 0, .slice none 0 0]
 have HN := Lib.hid (stnone_zero (g := g) _ (F0.out.cell h (fun h => h)))
 have y0 := B0.cell 0
 have z0 := B0.frozen 0
 have y1 := B0.cell 1
 have z1 := B0.frozen 1
 simp only [List.getElem?_toArray, List.getElem?_cons_succ, List.getElem?_cons_zero] at y0 y1
 clear B0
 go_enter Tryz.func55, Tryz.ntmps55
 go_wp2_with fail
 refine HN.out.mono ?_
 rintro r w1 ⟨rfl, rfl⟩
 go_wp2_with fail
 refine bodyPost_ret (v := .tuple #[.agg #[.int .i64 0, .slice none 0 0], .int .i64 1]) ?_ rfl ⟨rfl, by first | exact (F0.out.trans (Fr.none_alloc _ _) (fun _ h => h.elim)).below (fun _ h => h.elim) | exact F0.out.below (fun _ h => h.elim) | exact ((F0.out.setCell (p := ⟨W.heap.size, 0, none⟩) (.inr (Nat.le_refl _)) (.int .i64 0)).setCell (p := ⟨W.heap.size, 1, none⟩) (.inr (Nat.le_refl _)) (.slice none 0 0)).below (fun _ h => h.elim) | exact (Fr.none_alloc _ _).below (fun _ h => h.elim)⟩
 simp [results, Tryz.results55, go_sem, *]
theorem ststep_zero  (g : Nat) (W : World) (h : W.cell? ⟨g, 1, none⟩ = some (.pointer none)) : Calls Tryz.prog 36 #[.pointer (some ⟨g, 0, none⟩)] W fun r w' => r = .returned (.tuple #[.agg #[.int .i64 0, .int .i64 0, .int .i64 0], .int .i64 1]) ∧ Below W.heap.size W w' := by
 have F0 : Hid (Fr (fun _ => False) W (W.alloc (.cells #[.int .i64 0, .int .i64 0, .int .i64 0] 76))) := Fr.none_alloc _ _
 have B0 := Blk.new W 76 #[.int .i64 0, .int .i64 0, .int .i64 0]
 have HN := Lib.hid (stnone_zero (g := g) _ (F0.out.cell h (fun h => h)))
 have y0 := B0.cell 0
 have z0 := B0.frozen 0
 have y1 := B0.cell 1
 have z1 := B0.frozen 1
 have y2 := B0.cell 2
 have z2 := B0.frozen 2
 simp only [List.getElem?_toArray, List.getElem?_cons_succ, List.getElem?_cons_zero] at y0 y1 y2
 clear B0
 go_enter Tryz.func36, Tryz.ntmps36
 go_wp2_with fail
 refine HN.out.mono ?_
 rintro r w1 ⟨rfl, rfl⟩
 go_wp2_with fail
 refine bodyPost_ret (v := .tuple #[.agg #[.int .i64 0, .int .i64 0, .int .i64 0], .int .i64 1]) ?_ rfl ⟨rfl, by first | exact (F0.out.trans (Fr.none_alloc _ _) (fun _ h => h.elim)).below (fun _ h => h.elim) | exact F0.out.below (fun _ h => h.elim) | exact (((F0.out.setCell (p := ⟨W.heap.size, 0, none⟩) (.inr (Nat.le_refl _)) (.int .i64 0)).setCell (p := ⟨W.heap.size, 1, none⟩) (.inr (Nat.le_refl _)) (.int .i64 0)).setCell (p := ⟨W.heap.size, 2, none⟩) (.inr (Nat.le_refl _)) (.int .i64 0)).below (fun _ h => h.elim) | exact (Fr.none_alloc _ _).below (fun _ h => h.elim)⟩
 simp [results, Tryz.results36, go_sem, *]
theorem stchange_zero (s : ByteArray) (g : Nat) (W : World) (h : W.cell? ⟨g, 1, none⟩ = some (.pointer none)) : Calls Tryz.prog 35 #[.pointer (some ⟨g, 0, none⟩), .string s] W fun r w' => r = .returned (.tuple #[.int .i64 1, .int .i64 0]) ∧ W = w' := by
 have HN := Lib.hid (stnone_zero W h)
 go_enter Tryz.func35, Tryz.ntmps35
 go_wp2_with fail
 refine HN.out.mono ?_
 rintro r w1 ⟨rfl, rfl⟩
 go_wp2_with fail
 go_ret2
 exact ⟨by first | rfl | simp [*], rfl⟩
theorem stput_zero (v : Value) (g : Nat) (W : World) (h : W.cell? ⟨g, 1, none⟩ = some (.pointer none)) : Calls Tryz.prog 33 #[.pointer (some ⟨g, 0, none⟩), v] W fun r w' => r = .returned (.int .i64 1) ∧ W = w' := by
 have HN := Lib.hid (stnone_zero W h)
 go_enter Tryz.func33, Tryz.ntmps33
 go_wp2_with fail
 refine HN.out.mono ?_
 rintro r w1 ⟨rfl, rfl⟩
 go_wp2_with fail
 go_ret
 exact ⟨by first | rfl | simp [*], rfl⟩
theorem sttick_zero (v : Value) (g : Nat) (W : World) (h : W.cell? ⟨g, 1, none⟩ = some (.pointer none)) : Calls Tryz.prog 34 #[.pointer (some ⟨g, 0, none⟩), v] W fun r w' => r = .returned (.int .i64 1) ∧ W = w' := by
 have HN := Lib.hid (stnone_zero W h)
 go_enter Tryz.func34, Tryz.ntmps34
 go_wp2_with fail
 refine HN.out.mono ?_
 rintro r w1 ⟨rfl, rfl⟩
 go_wp2_with fail
 go_ret
 exact ⟨by first | rfl | simp [*], rfl⟩
theorem stabort_zero  (g : Nat) (W : World) (h : W.cell? ⟨g, 1, none⟩ = some (.pointer none)) : Calls Tryz.prog 37 #[.pointer (some ⟨g, 0, none⟩)] W fun r w' => r = .returned (.int .i64 1) ∧ W = w' := by
 have HN := Lib.hid (stnone_zero W h)
 go_enter Tryz.func37, Tryz.ntmps37
 go_wp2_with fail
 refine HN.out.mono ?_
 rintro r w1 ⟨rfl, rfl⟩
 go_wp2_with fail
 go_ret
 exact ⟨by first | rfl | simp [*], rfl⟩
theorem stneed_zero  (g : Nat) (W : World) (h : W.cell? ⟨g, 1, none⟩ = some (.pointer none)) : Calls Tryz.prog 40 #[.pointer (some ⟨g, 0, none⟩)] W fun r w' => r = .returned (.int .i64 0) ∧ W = w' := by
 have HN := Lib.hid (stnone_zero W h)
 go_enter Tryz.func40, Tryz.ntmps40
 go_wp2_with fail
 refine HN.out.mono ?_
 rintro r w1 ⟨rfl, rfl⟩
 go_wp2_with fail
 go_ret
 exact ⟨by first | rfl | simp [*], rfl⟩
theorem stpend_nil  (W : World) : Calls Tryz.prog 49 #[.pointer none] W fun r w' => r = .returned (.bool false) ∧ W = w' := by
 go_enter Tryz.func49, Tryz.ntmps49
 go_wp2_with fail
 go_ret
 exact ⟨by first | rfl | simp [*], rfl⟩
theorem sttiers_nil  (W : World) : Calls Tryz.prog 38 #[.pointer none] W fun r w' => r = .returned (.pointer none) ∧ W = w' := by
 go_enter Tryz.func38, Tryz.ntmps38
 go_wp2_with fail
 go_ret
 exact ⟨by first | rfl | simp [*], rfl⟩
theorem stshadow_nil  (W : World) : Calls Tryz.prog 50 #[.pointer none] W fun r w' => r = .returned (.pointer none) ∧ W = w' := by
 go_enter Tryz.func50, Tryz.ntmps50
 go_wp2_with fail
 go_ret
 exact ⟨by first | rfl | simp [*], rfl⟩
theorem stroom_nil  (W : World) : Calls Tryz.prog 41 #[.pointer none] W fun r w' => r = .returned (.int .i64 0) ∧ W = w' := by
 go_enter Tryz.func41, Tryz.ntmps41
 go_wp2_with fail
 go_ret
 exact ⟨by first | rfl | simp [*], rfl⟩
theorem stcopy_nil  (W : World) : Calls Tryz.prog 57 #[.pointer none] W fun r w' => r = .returned (.pointer none) ∧ W = w' := by
 go_enter Tryz.func57, Tryz.ntmps57
 go_wp2_with fail
 go_ret
 exact ⟨by first | rfl | simp [*], rfl⟩
theorem sttiers_zero (g : Nat) (W : World) (h : W.cell? ⟨g, 1, none⟩ = some (.pointer none)) : Calls Tryz.prog 38 #[.pointer (some ⟨g, 0, none⟩)] W fun r w' => r = .returned (.pointer none) ∧ W = w' := by
 have HN := Lib.hid (tcopy_nil W)
 go_enter Tryz.func38, Tryz.ntmps38
 go_wp2_with fail
 refine HN.out.mono ?_
 rintro r w1 ⟨rfl, rfl⟩
 go_wp2_with fail
 go_ret
 exact ⟨rfl, rfl⟩
theorem stroom_zero (g : Nat) (W : World) (h : W.cell? ⟨g, 0, none⟩ = some (.int .i64 0)) : Calls Tryz.prog 41 #[.pointer (some ⟨g, 0, none⟩)] W fun r w' => r = .returned (.int .i64 0) ∧ W = w' := by
 go_enter Tryz.func41, Tryz.ntmps41
 go_wp2_with fail
 go_ret
 exact ⟨rfl, rfl⟩
theorem stmake_nil (v : Value) (W : World) : Calls Tryz.prog 56 #[.int .i64 5, .pointer none, v] W fun r w' => r = .returned (.tuple #[.pointer none, .int .i64 1]) ∧ W = w' := by
 go_enter Tryz.func56, Tryz.ntmps56
 go_wp2_with fail
 go_ret2
 exact ⟨rfl, rfl⟩
end Go.Proofs.YtaakghjbbkgbdaaGreatDoor
