/- Walk of state.alike. -/
import Derived.Test.YtkfdgodngbinlaaGreatDoorStRun
import Derived.Test.YtkfdgodngbinlaaGreatDoorShNote
import Derived.Test.YtkfdgodngbinlaaGreatDoorTk
namespace Go.Proofs.YtkfdgodngbinlaaGreatDoor
set_option linter.all false
open Go.RowKit

def tabsEq (X Y : ShX) (k : Nat) : Prop := ∀ j, j < k → X.tabs.getD j [] = Y.tabs.getD j []
theorem tabsEq_all {X Y : ShX} {n : Nat} (h : tabsEq X Y n) : (List.range n).all (fun i => decide (X.tabs.getD i [] = Y.tabs.getD i [])) = true := by
 rw [List.all_eq_true]
 intro j hj
 exact decide_eq_true (h j (List.mem_range.1 hj))
theorem tabsEq_bad {X Y : ShX} {n k : Nat} (hk : k < n) (h : X.tabs.getD k [] ≠ Y.tabs.getD k []) : (List.range n).all (fun i => decide (X.tabs.getD i [] = Y.tabs.getD i [])) = false := by
 rw [Bool.eq_false_iff]
 intro e
 rw [List.all_eq_true] at e
 exact h (of_decide_eq_true (e k (List.mem_range.2 hk)))
set_option maxRecDepth 100000 in
set_option maxHeartbeats 8000000 in
theorem alike_in (t base : Nat) (X : ShX) (u base' : Nat) (Y : ShX) (w : World) (h : ShAt w t base X) (h' : ShAt w u base' Y) (hn : X.tiers.length ≤ 1000) (hn' : Y.tiers.length ≤ 1000) (hs : X.srcs.length ≤ 1000) (hs' : Y.srcs.length ≤ 1000) (hl : ∀ m ∈ X.tabs, m.length ≤ 1000000) (hl' : ∀ m ∈ Y.tabs, m.length ≤ 1000000) :
  Calls Tryz.prog 61 #[.pointer (some ⟨t, 0, none⟩), .pointer (some ⟨u, 0, none⟩)] w fun r w' => r = .returned (.bool (alikeB (some X) (some Y))) ∧ Below w.heap.size w w' := by
 have HX := Lib.hid h
 have HY := Lib.hid h'
 obtain ⟨A, c, B, d, T, ct, tb, hi⟩ := h
 obtain ⟨A', c', B', d', T', ct', tb', hi'⟩ := h'
 have Hi := Lib.hid hi
 have Hi' := Lib.hid hi'
 have HC0 : Hid (∀ W, Fr (fun _ => False) w W → W.cell? ⟨t, 0, none⟩ = some (.string X.name) ∧ W.cell? ⟨t, 1, none⟩ = some (.slice A X.tiers.length c) ∧ W.cell? ⟨t, 2, none⟩ = some (.slice B X.srcs.length d) ∧ W.cell? ⟨u, 0, none⟩ = some (.string Y.name) ∧ W.cell? ⟨u, 1, none⟩ = some (.slice A' Y.tiers.length c') ∧ W.cell? ⟨u, 2, none⟩ = some (.slice B' Y.srcs.length d')) := fun W f => by
  have b1 := Hi.out.blk.fr f (fun h => h)
  have b2 := Hi'.out.blk.fr f (fun h => h)
  exact ⟨b1.cell 0, b1.cell 1, b1.cell 2, b2.cell 0, b2.cell 1, b2.cell 2⟩
 have HPs0 : Hid (∀ W, Fr (fun _ => False) w W → Calls Tryz.prog 63 #[.agg #[.string X.name, .slice A X.tiers.length c], .agg #[.string Y.name, .slice A' Y.tiers.length c']] W fun r w' => r = .returned (.bool (decide (X.name = Y.name) && decide (X.tiers = Y.tiers))) ∧ Below W.heap.size W w') := fun W f =>
  polsame_any X.name Y.name X.tiers Y.tiers A X.tiers.length c A' Y.tiers.length c' W (own_any (Hi.out.fr0 f).tiers).2.2.1 (own_any (Hi'.out.fr0 f).tiers).2.2.1 (by omega) (by omega)
 have HQI0 : Hid (∀ W, Fr (fun _ => False) w W → Calls Tryz.prog 64 #[.slice B X.srcs.length d, .slice B' Y.srcs.length d'] W fun r w' => r = .returned (.bool (decide (X.srcs = Y.srcs))) ∧ Below W.heap.size W w') := fun W f =>
  eqints_any _ _ B X.srcs.length d B' Y.srcs.length d' W (by rw [icells_is]; exact (own_any (Hi.out.fr0 f).srcs).2.2.1) (by rw [icells_is]; exact (own_any (Hi'.out.fr0 f).srcs).2.2.1) (by omega) (by omega)
 have HB1 : Hid (∀ W, Fr (fun _ => False) w W → Calls Tryz.prog 27 #[.pointer (some ⟨t, 0, none⟩)] W fun r w' => r = .returned (.int .i64 X.bound) ∧ W = w') := fun W f => sbound_any t base X W (HX.out.fr0 f)
 have HB2 : Hid (∀ W, Fr (fun _ => False) w W → Calls Tryz.prog 27 #[.pointer (some ⟨u, 0, none⟩)] W fun r w' => r = .returned (.int .i64 Y.bound) ∧ W = w') := fun W f => sbound_any u base' Y W (HY.out.fr0 f)
 have HD1 : Hid (∀ W, Fr (fun _ => False) w W → Calls Tryz.prog 28 #[.pointer (some ⟨t, 0, none⟩)] W fun r w' => r = .returned (.int .i64 X.done) ∧ W = w') := fun W f => sdone_any t base X W (HX.out.fr0 f)
 have HD2 : Hid (∀ W, Fr (fun _ => False) w W → Calls Tryz.prog 28 #[.pointer (some ⟨u, 0, none⟩)] W fun r w' => r = .returned (.int .i64 Y.done) ∧ W = w') := fun W f => sdone_any u base' Y W (HY.out.fr0 f)
 have HR1 : Hid (∀ W (k : Nat), Fr (fun _ => False) w W → Calls Tryz.prog 107 #[.pointer (some ⟨t, 0, none⟩), .int .i64 k] W fun r w' => (∃ A c, r = .returned (.slice A (X.tabs.getD k []).length c) ∧ Rd w' 7 A (X.tabs.getD k []).length (rcells (X.tabs.getD k []))) ∧ Below W.heap.size W w') := fun W k f => by
  have := srecords_any t base X (k : Int) W (HX.out.fr0 f) (fun m hm => by have := hl m hm; omega)
  rw [recI_nat] at this
  refine this.mono ?_
  rintro r w' ⟨⟨A, c, rfl, ho⟩, hb⟩
  exact ⟨⟨A, c, rfl, (own_any ho).2.2.1⟩, hb⟩
 have HR2 : Hid (∀ W (k : Nat), Fr (fun _ => False) w W → Calls Tryz.prog 107 #[.pointer (some ⟨u, 0, none⟩), .int .i64 k] W fun r w' => (∃ A c, r = .returned (.slice A (Y.tabs.getD k []).length c) ∧ Rd w' 7 A (Y.tabs.getD k []).length (rcells (Y.tabs.getD k []))) ∧ Below W.heap.size W w') := fun W k f => by
  have := srecords_any u base' Y (k : Int) W (HY.out.fr0 f) (fun m hm => by have := hl' m hm; omega)
  rw [recI_nat] at this
  refine this.mono ?_
  rintro r w' ⟨⟨A, c, rfl, ho⟩, hb⟩
  exact ⟨⟨A, c, rfl, (own_any ho).2.2.1⟩, hb⟩
 have HL1 : Hid (∀ k, (X.tabs.getD k []).length ≤ 1099511627776) := fun k => by
  rcases getD_mem_or (L := X.tabs) k with h3 | h3
  ·have := hl _ h3; omega
  ·rw [h3]; exact Nat.zero_le _
 have HL2 : Hid (∀ k, (Y.tabs.getD k []).length ≤ 1099511627776) := fun k => by
  rcases getD_mem_or (L := Y.tabs) k with h3 | h3
  ·have := hl' _ h3; omega
  ·rw [h3]; exact Nat.zero_le _
 obtain ⟨PE, hPE⟩ : ∃ E, (decide (X.name = Y.name) && decide (X.tiers = Y.tiers)) = E := ⟨_, rfl⟩
 obtain ⟨SE, hSE⟩ : ∃ E, decide (X.srcs = Y.srcs) = E := ⟨_, rfl⟩
 have HS0 : Hid (alikeB (some X) (some Y) = ((PE && (SE && (decide (X.bound = Y.bound) && decide (X.done = Y.done)))) && (List.range X.tiers.length).all fun i => decide (X.tabs.getD i [] = Y.tabs.getD i []))) := by
  show _ = _
  rw [← hPE, ← hSE]
  rfl
 have HTe : Hid (∀ k, k < X.tiers.length → X.tabs.getD k [] ≠ Y.tabs.getD k [] → (List.range X.tiers.length).all (fun i => decide (X.tabs.getD i [] = Y.tabs.getD i [])) = false) := fun k hk h => tabsEq_bad hk h
 have HTa : Hid (tabsEq X Y X.tiers.length → (List.range X.tiers.length).all (fun i => decide (X.tabs.getD i [] = Y.tabs.getD i [])) = true) := fun h => tabsEq_all h
 rw [hPE] at HPs0
 rw [hSE] at HQI0
 obtain ⟨AL, hAL⟩ : ∃ E, alikeB (some X) (some Y) = E := ⟨_, rfl⟩
 rw [hAL] at HS0 ⊢
 obtain ⟨TE, hTE⟩ : ∃ E, (List.range X.tiers.length).all (fun i => decide (X.tabs.getD i [] = Y.tabs.getD i [])) = E := ⟨_, rfl⟩
 rw [hTE] at HS0 HTe HTa
 clear hPE hSE hAL hTE hi hi' hl hl' hn' hs hs'
 obtain ⟨lx, hlx⟩ : ∃ v, X.tiers.length = v := ⟨_, rfl⟩
 obtain ⟨ly, hly⟩ : ∃ v, Y.tiers.length = v := ⟨_, rfl⟩
 obtain ⟨px, hpx⟩ : ∃ v, X.srcs.length = v := ⟨_, rfl⟩
 obtain ⟨py, hpy⟩ : ∃ v, Y.srcs.length = v := ⟨_, rfl⟩
 obtain ⟨sx, hsx⟩ : ∃ v, X.name = v := ⟨_, rfl⟩
 obtain ⟨sy, hsy⟩ : ∃ v, Y.name = v := ⟨_, rfl⟩
 obtain ⟨bx, hbx⟩ : ∃ v, X.bound = v := ⟨_, rfl⟩
 obtain ⟨bY, hby⟩ : ∃ v, Y.bound = v := ⟨_, rfl⟩
 obtain ⟨dx, hdx⟩ : ∃ v, X.done = v := ⟨_, rfl⟩
 obtain ⟨dy, hdy⟩ : ∃ v, Y.done = v := ⟨_, rfl⟩
 rw [hlx, hly, hpx, hpy, hsx, hsy] at HC0
 rw [hlx, hly, hsx, hsy] at HPs0
 rw [hpx, hpy] at HQI0
 rw [hbx] at HB1 HS0
 rw [hby] at HB2 HS0
 rw [hdx] at HD1 HS0
 rw [hdy] at HD2 HS0
 rw [hlx] at HTe HTa hn
 have HC := HC0
 have HPs := HPs0
 have HQI := HQI0
 clear HC0 HPs0 HQI0 hlx hly hpx hpy hsx hsy hbx hby hdx hdy Hi Hi' HX HY
 cases PE with
 | false =>
  have hS : Hid (AL = false) := by show _ = _; rw [HS0.out]; rfl
  go_enter Tryz.func61, Tryz.ntmps61
  go_wp2_with fail
  refine wp_region_held_drew (S := fun W => Fr (fun _ => False) w W) (by kernel_rfl) ((Fr.refl _ w).drew) (fun hHeld => ?_)
  refine tq 10 [0,1,2,3,4,5,6,7,8,9] ?_
  iterate 9 refine sf HC.out ?_
  refine sf HC.out ?_
  try simp only [Act.put, sA, sB, sC]
  refine sz ?_
  try simp only [Act.put, sA, sB, sC]
  refine rl 10 rfl (fun K hK => ?_)
  go_simp
  go_wp2_with (first | (go_at_call 63; refine (HPs.out _ hHeld).mono ?_; rintro r w5 ⟨rfl, b5⟩))
  refine hK.out _ _ (hHeld.trans (Fr.b0 b5) (fun _ h => h.elim)) (fun hHeld => ?_)
  clear hK K
  refine tq 29 [11,12,13,14,15,16,17,18,19,20,21,22,23,24,25,26,27,28,29,30,31,32,33,34,35,36,37,38,39] ?_
  refine sk ?_
  refine sk ?_
  try simp only [Act.put, sA, sB, sC]
  iterate 11 (refine su ?_; try simp only [Act.put, sA, sB, sC])
  refine su ?_
  refine sk ?_
  refine sk ?_
  try simp only [Act.put, sA, sB, sC]
  iterate 4 (refine su ?_; try simp only [Act.put, sA, sB, sC])
  refine su ?_
  refine sk ?_
  refine sk ?_
  try simp only [Act.put, sA, sB, sC]
  iterate 4 (refine su ?_; try simp only [Act.put, sA, sB, sC])
  refine su ?_
  refine sk ?_
  try simp only [Act.put, sA, sB, sC]
  refine sz ?_
  try simp only [Act.put, sA, sB, sC]
  refine wpAnyH_done (by kernel_rfl) ?_ _
  go_wp2_with fail
  go_ret
  exact ⟨by rw [hS.out]; rfl, hHeld.below (fun _ h => h.elim)⟩
 | true =>
 cases SE with
 | false =>
  have hS : Hid (AL = false) := by show _ = _; rw [HS0.out]; rfl
  go_enter Tryz.func61, Tryz.ntmps61
  go_wp2_with fail
  refine wp_region_held_drew (S := fun W => Fr (fun _ => False) w W) (by kernel_rfl) ((Fr.refl _ w).drew) (fun hHeld => ?_)
  refine tq 10 [0,1,2,3,4,5,6,7,8,9] ?_
  iterate 9 refine sf HC.out ?_
  refine sf HC.out ?_
  try simp only [Act.put, sA, sB, sC]
  refine sz ?_
  try simp only [Act.put, sA, sB, sC]
  refine rl 10 rfl (fun K hK => ?_)
  go_simp
  go_wp2_with (first | (go_at_call 63; refine (HPs.out _ hHeld).mono ?_; rintro r w5 ⟨rfl, b5⟩))
  refine hK.out _ _ (hHeld.trans (Fr.b0 b5) (fun _ h => h.elim)) (fun hHeld => ?_)
  clear hK K
  refine tq 12 [11,12,13,14,15,16,17,18,19,20,21,22] ?_
  refine sk ?_
  iterate 11 (refine sf HC.out ?_; try simp only [Act.put, sA, sB, sC])
  refine sz ?_
  try simp only [Act.put, sA, sB, sC]
  refine rl 23 rfl (fun K hK => ?_)
  go_simp
  go_wp2_with (first | (go_at_call 64; refine (HQI.out _ hHeld).mono ?_; rintro r w6 ⟨rfl, b6⟩))
  refine hK.out _ _ (hHeld.trans (Fr.b0 b6) (fun _ h => h.elim)) (fun hHeld => ?_)
  clear hK K
  try simp only [Act.put, sA, sB, sC]
  refine tq 16 [24,25,26,27,28,29,30,31,32,33,34,35,36,37,38,39] ?_
  iterate 2 refine sk ?_
  refine sk ?_
  try simp only [Act.put, sA, sB, sC]
  iterate 4 (refine su ?_; try simp only [Act.put, sA, sB, sC])
  refine su ?_
  refine sk ?_
  refine sk ?_
  try simp only [Act.put, sA, sB, sC]
  iterate 4 (refine su ?_; try simp only [Act.put, sA, sB, sC])
  refine su ?_
  refine sk ?_
  try simp only [Act.put, sA, sB, sC]
  refine sz ?_
  try simp only [Act.put, sA, sB, sC]
  refine wpAnyH_done (by kernel_rfl) ?_ _
  go_wp2_with fail
  go_ret
  exact ⟨by rw [hS.out]; rfl, hHeld.below (fun _ h => h.elim)⟩
 | true =>
 by_cases hb : bx = bY
 ·subst hb
  by_cases hd : dx = dy
  ·subst hd
   have hS : Hid (AL = TE) := by show _ = _; rw [HS0.out]; simp
   have HN := Lib.hid hn
   go_enter Tryz.func61, Tryz.ntmps61
   go_wp2_with fail
   refine wp_region_held_drew (S := fun W => Fr (fun _ => False) w W) (by kernel_rfl) ((Fr.refl _ w).drew) (fun hHeld => ?_)
   refine tq 10 [0,1,2,3,4,5,6,7,8,9] ?_
   iterate 9 refine sf HC.out ?_
   refine sf HC.out ?_
   try simp only [Act.put, sA, sB, sC]
   refine sz ?_
   try simp only [Act.put, sA, sB, sC]
   refine rl 10 rfl (fun K hK => ?_)
   go_simp
   go_wp2_with (first | (go_at_call 63; refine (HPs.out _ hHeld).mono ?_; rintro r w5 ⟨rfl, b5⟩))
   refine hK.out _ _ (hHeld.trans (Fr.b0 b5) (fun _ h => h.elim)) (fun hHeld => ?_)
   clear hK K
   refine tq 12 [11,12,13,14,15,16,17,18,19,20,21,22] ?_
   refine sk ?_
   iterate 11 (refine sf HC.out ?_; try simp only [Act.put, sA, sB, sC])
   refine sz ?_
   try simp only [Act.put, sA, sB, sC]
   refine rl 23 rfl (fun K hK => ?_)
   go_simp
   go_wp2_with (first | (go_at_call 64; refine (HQI.out _ hHeld).mono ?_; rintro r w6 ⟨rfl, b6⟩))
   refine hK.out _ _ (hHeld.trans (Fr.b0 b6) (fun _ h => h.elim)) (fun hHeld => ?_)
   clear hK K
   try simp only [Act.put, sA, sB, sC]
   refine tq 5 [24,25,26,27,29] ?_
   iterate 2 refine sk ?_
   iterate 3 (refine sk ?_; try simp only [Act.put, sA, sB, sC])
   refine sz ?_
   try simp only [Act.put, sA, sB, sC]
   refine rl 28 rfl (fun K hK => ?_)
   go_simp
   go_wp2_with (first | (go_at_call 27; refine (HB1.out _ hHeld).mono ?_; rintro r w7 ⟨rfl, rfl⟩))
   refine hK.out _ _ (hHeld) (fun hHeld => ?_)
   clear hK K
   try simp only [Act.put, sA, sB, sC]
   refine rl 30 rfl (fun K hK => ?_)
   go_simp
   go_wp2_with (first | (go_at_call 27; refine (HB2.out _ hHeld).mono ?_; rintro r w7 ⟨rfl, rfl⟩))
   refine hK.out _ _ (hHeld) (fun hHeld => ?_)
   clear hK K
   try simp only [Act.put, sA, sB, sC]
   refine tq 5 [31,32,33,34,36] ?_
   iterate 2 refine sf HC.out ?_
   iterate 3 (refine sk ?_; try simp only [Act.put, sA, sB, sC])
   refine sz ?_
   try simp only [Act.put, sA, sB, sC]
   refine rl 35 rfl (fun K hK => ?_)
   go_simp
   go_wp2_with (first | (go_at_call 28; refine (HD1.out _ hHeld).mono ?_; rintro r w7 ⟨rfl, rfl⟩))
   refine hK.out _ _ (hHeld) (fun hHeld => ?_)
   clear hK K
   try simp only [Act.put, sA, sB, sC]
   refine rl 37 rfl (fun K hK => ?_)
   go_simp
   go_wp2_with (first | (go_at_call 28; refine (HD2.out _ hHeld).mono ?_; rintro r w7 ⟨rfl, rfl⟩))
   refine hK.out _ _ (hHeld) (fun hHeld => ?_)
   clear hK K
   try simp only [Act.put, sA, sB, sC]
   refine tq 2 [38,39] ?_
   refine sf HC.out ?_
   refine sk ?_
   try simp only [Act.put, sA, sB, sC]
   refine sz ?_
   try simp only [Act.put, sA, sB, sC]
   refine wpAnyH_done (by kernel_rfl) ?_ _
   have F8 := Lib.hid hHeld
   obtain ⟨z0, z1, z2, y0, y1, y2⟩ := HC.out _ hHeld
   clear b5 b6 hHeld y0 y1 y2
   go_wp2_with fail
   go_loopw [65] (fun i wr => ∃ k : Nat, k ≤ lx ∧ i = .int .i64 k ∧ Hid (tabsEq X Y k) ∧ Fr (fun _ => False) w wr) (fun i _ => lx - (intOf i).toNat)
   case atStart => exact ⟨0, Nat.zero_le _, rfl, (show tabsEq X Y 0 from fun j hj => absurd hj (Nat.not_lt_zero _)), F8.out⟩
   case round =>
    obtain ⟨k, hk, rfl, htk, ho⟩ := hrel
    have Ho := Lib.hid ho
    clear ho
    by_cases hlt : k < lx
    ·have H1 := Lib.hid (HR1.out wr k Ho.out)
     have H2 := Lib.hid (fun W f => HR2.out W k f)
     have hkw : IntKind.i64.wrap ((k : Int) + 1) = (k : Int) + 1 := by have := HN.out; simp [IntKind.wrap, IntKind.signed, IntKind.bits]; omega
     have hl1 := Lib.hid (HL1.out k)
     have hl2 := Lib.hid (HL2.out k)
     have HTk : Hid (X.tabs.getD k [] ≠ Y.tabs.getD k [] → TE = false) := HTe.out k hlt
     have HTn : Hid (X.tabs.getD k [] = Y.tabs.getD k [] → tabsEq X Y (k + 1)) := fun e j hj => by
      by_cases hjk : j = k
      ·rw [hjk]; exact e
      ·exact htk.out j (by omega)
     obtain ⟨L, hL⟩ : ∃ v, X.tabs.getD k [] = v := ⟨_, rfl⟩
     obtain ⟨M, hM⟩ : ∃ v, Y.tabs.getD k [] = v := ⟨_, rfl⟩
     rw [hL] at H1 hl1 HTk HTn
     rw [hM] at H2 hl2 HTk HTn
     clear hL hM htk
     go_wp2_with fail
     refine H1.out.mono ?_
     rintro r wa ⟨⟨Aa, ca, rfl, ra⟩, ba⟩
     have Fa := Lib.hid (Ho.out.trans (Fr.b0 ba) (fun _ h => h.elim))
     have Ra := Lib.hid ra
     clear ra ba
     go_wp2_with fail
     refine (H2.out wa Fa.out).mono ?_
     rintro r wb ⟨⟨Ab, cb, rfl, rb⟩, bb⟩
     have Fb := Lib.hid (Fa.out.trans (Fr.b0 bb) (fun _ h => h.elim))
     have HQ := Lib.hid (eqrecs_any L M Aa L.length ca Ab M.length cb wb (Ra.out.fr0 (Fr.b0 bb)) rb hl1.out hl2.out)
     clear rb bb
     go_wp2_with fail
     refine HQ.out.mono ?_
     rintro r wc ⟨rfl, bc⟩
     have Fc := Lib.hid (Fb.out.trans (Fr.b0 bc) (fun _ h => h.elim))
     clear bc HQ
     by_cases hLM : L = M
     ·have hd : decide (L = M) = true := decide_eq_true hLM
      have HTn2 := Lib.hid (HTn.out hLM)
      rw [hd]
      clear hLM hd
      go_wp2_with fail
      go_roundw
      case rel => exact ⟨k + 1, by omega, by go_num, HTn2.out, Fc.out⟩
      case measure => simp [intOf]; omega
     ·have hd : decide (L = M) = false := decide_eq_false hLM
      have hne := Lib.hid (HTk.out hLM)
      rw [hd]
      clear hLM hd
      go_wp2_with fail
      go_ret
      exact ⟨by rw [hS.out, hne.out]; rfl, Fc.out.below (fun _ h => h.elim)⟩
    ·obtain rfl : k = lx := by omega
     have hE := Lib.hid (HTa.out htk.out)
     go_wp2_with fail
     go_ret
     exact ⟨by rw [hS.out, hE.out]; rfl, Ho.out.below (fun _ h => h.elim)⟩
  ·have hS : Hid (AL = false) := by show _ = _; rw [HS0.out, decide_eq_false hd]; simp
   have hn1 : (dx == dy) = false := by simpa using hd
   have hn2 : decide (dx = dy) = false := decide_eq_false hd
   have hn3 : (dx != dy) = true := by simpa using hd
   go_enter Tryz.func61, Tryz.ntmps61
   go_wp2_with fail
   refine wp_region_held_drew (S := fun W => Fr (fun _ => False) w W) (by kernel_rfl) ((Fr.refl _ w).drew) (fun hHeld => ?_)
   refine tq 10 [0,1,2,3,4,5,6,7,8,9] ?_
   iterate 9 refine sf HC.out ?_
   refine sf HC.out ?_
   try simp only [Act.put, sA, sB, sC]
   refine sz ?_
   try simp only [Act.put, sA, sB, sC]
   refine rl 10 rfl (fun K hK => ?_)
   go_simp
   go_wp2_with (first | (go_at_call 63; refine (HPs.out _ hHeld).mono ?_; rintro r w5 ⟨rfl, b5⟩))
   refine hK.out _ _ (hHeld.trans (Fr.b0 b5) (fun _ h => h.elim)) (fun hHeld => ?_)
   clear hK K
   refine tq 12 [11,12,13,14,15,16,17,18,19,20,21,22] ?_
   refine sk ?_
   iterate 11 (refine sf HC.out ?_; try simp only [Act.put, sA, sB, sC])
   refine sz ?_
   try simp only [Act.put, sA, sB, sC]
   refine rl 23 rfl (fun K hK => ?_)
   go_simp
   go_wp2_with (first | (go_at_call 64; refine (HQI.out _ hHeld).mono ?_; rintro r w6 ⟨rfl, b6⟩))
   refine hK.out _ _ (hHeld.trans (Fr.b0 b6) (fun _ h => h.elim)) (fun hHeld => ?_)
   clear hK K
   try simp only [Act.put, sA, sB, sC]
   refine tq 5 [24,25,26,27,29] ?_
   iterate 2 refine sk ?_
   iterate 3 (refine sk ?_; try simp only [Act.put, sA, sB, sC])
   refine sz ?_
   try simp only [Act.put, sA, sB, sC]
   refine rl 28 rfl (fun K hK => ?_)
   go_simp
   go_wp2_with (first | (go_at_call 27; refine (HB1.out _ hHeld).mono ?_; rintro r w7 ⟨rfl, rfl⟩))
   refine hK.out _ _ (hHeld) (fun hHeld => ?_)
   clear hK K
   try simp only [Act.put, sA, sB, sC]
   refine rl 30 rfl (fun K hK => ?_)
   go_simp
   go_wp2_with (first | (go_at_call 27; refine (HB2.out _ hHeld).mono ?_; rintro r w7 ⟨rfl, rfl⟩))
   refine hK.out _ _ (hHeld) (fun hHeld => ?_)
   clear hK K
   try simp only [Act.put, sA, sB, sC]
   refine tq 5 [31,32,33,34,36] ?_
   iterate 2 refine sf HC.out ?_
   iterate 3 (refine sk ?_; try simp only [Act.put, sA, sB, sC])
   refine sz ?_
   try simp only [Act.put, sA, sB, sC]
   refine rl 35 rfl (fun K hK => ?_)
   go_simp
   go_wp2_with (first | (go_at_call 28; refine (HD1.out _ hHeld).mono ?_; rintro r w7 ⟨rfl, rfl⟩))
   refine hK.out _ _ (hHeld) (fun hHeld => ?_)
   clear hK K
   try simp only [Act.put, sA, sB, sC]
   refine rl 37 rfl (fun K hK => ?_)
   go_simp
   go_wp2_with (first | (go_at_call 28; refine (HD2.out _ hHeld).mono ?_; rintro r w7 ⟨rfl, rfl⟩))
   refine hK.out _ _ (hHeld) (fun hHeld => ?_)
   clear hK K
   try simp only [Act.put, sA, sB, sC]
   refine tq 2 [38,39] ?_
   refine sf HC.out ?_
   refine sk ?_
   try simp only [Act.put, sA, sB, sC]
   refine sz ?_
   try simp only [Act.put, sA, sB, sC]
   refine wpAnyH_done (by kernel_rfl) ?_ _
   go_wp2_with fail
   go_ret
   exact ⟨by rw [hS.out]; rfl, hHeld.below (fun _ h => h.elim)⟩
 ·have hS : Hid (AL = false) := by show _ = _; rw [HS0.out, decide_eq_false hb]; simp
  have hn1 : (bx == bY) = false := by simpa using hb
  have hn2 : decide (bx = bY) = false := decide_eq_false hb
  have hn3 : (bx != bY) = true := by simpa using hb
  go_enter Tryz.func61, Tryz.ntmps61
  go_wp2_with fail
  refine wp_region_held_drew (S := fun W => Fr (fun _ => False) w W) (by kernel_rfl) ((Fr.refl _ w).drew) (fun hHeld => ?_)
  refine tq 10 [0,1,2,3,4,5,6,7,8,9] ?_
  iterate 9 refine sf HC.out ?_
  refine sf HC.out ?_
  try simp only [Act.put, sA, sB, sC]
  refine sz ?_
  try simp only [Act.put, sA, sB, sC]
  refine rl 10 rfl (fun K hK => ?_)
  go_simp
  go_wp2_with (first | (go_at_call 63; refine (HPs.out _ hHeld).mono ?_; rintro r w5 ⟨rfl, b5⟩))
  refine hK.out _ _ (hHeld.trans (Fr.b0 b5) (fun _ h => h.elim)) (fun hHeld => ?_)
  clear hK K
  refine tq 12 [11,12,13,14,15,16,17,18,19,20,21,22] ?_
  refine sk ?_
  iterate 11 (refine sf HC.out ?_; try simp only [Act.put, sA, sB, sC])
  refine sz ?_
  try simp only [Act.put, sA, sB, sC]
  refine rl 23 rfl (fun K hK => ?_)
  go_simp
  go_wp2_with (first | (go_at_call 64; refine (HQI.out _ hHeld).mono ?_; rintro r w6 ⟨rfl, b6⟩))
  refine hK.out _ _ (hHeld.trans (Fr.b0 b6) (fun _ h => h.elim)) (fun hHeld => ?_)
  clear hK K
  try simp only [Act.put, sA, sB, sC]
  refine tq 5 [24,25,26,27,29] ?_
  iterate 2 refine sk ?_
  iterate 3 (refine sk ?_; try simp only [Act.put, sA, sB, sC])
  refine sz ?_
  try simp only [Act.put, sA, sB, sC]
  refine rl 28 rfl (fun K hK => ?_)
  go_simp
  go_wp2_with (first | (go_at_call 27; refine (HB1.out _ hHeld).mono ?_; rintro r w7 ⟨rfl, rfl⟩))
  refine hK.out _ _ (hHeld) (fun hHeld => ?_)
  clear hK K
  try simp only [Act.put, sA, sB, sC]
  refine rl 30 rfl (fun K hK => ?_)
  go_simp
  go_wp2_with (first | (go_at_call 27; refine (HB2.out _ hHeld).mono ?_; rintro r w7 ⟨rfl, rfl⟩))
  refine hK.out _ _ (hHeld) (fun hHeld => ?_)
  clear hK K
  try simp only [Act.put, sA, sB, sC]
  refine tq 9 [31,32,33,34,35,36,37,38,39] ?_
  iterate 2 refine sf HC.out ?_
  refine sk ?_
  try simp only [Act.put, sA, sB, sC]
  iterate 4 (refine su ?_; try simp only [Act.put, sA, sB, sC])
  refine su ?_
  refine sk ?_
  try simp only [Act.put, sA, sB, sC]
  refine sz ?_
  try simp only [Act.put, sA, sB, sC]
  refine wpAnyH_done (by kernel_rfl) ?_ _
  go_wp2_with fail
  go_ret
  exact ⟨by rw [hS.out]; rfl, hHeld.below (fun _ h => h.elim)⟩
theorem alike_none (w : World) : Calls Tryz.prog 61 #[.pointer none, .pointer none] w fun r w' => r = .returned (.bool true) ∧ Below w.heap.size w w' := by
 go_enter Tryz.func61, Tryz.ntmps61
 go_wp2_with fail
 go_ret
 exact ⟨by first | rfl | simp [*], Below.refl _ _⟩
theorem alike_left (s : Nat) (w : World) : Calls Tryz.prog 61 #[.pointer none, .pointer (some ⟨s, 0, none⟩)] w fun r w' => r = .returned (.bool false) ∧ Below w.heap.size w w' := by
 go_enter Tryz.func61, Tryz.ntmps61
 go_wp2_with fail
 go_ret
 exact ⟨by first | rfl | simp [*], Below.refl _ _⟩
theorem alike_right (s : Nat) (w : World) : Calls Tryz.prog 61 #[.pointer (some ⟨s, 0, none⟩), .pointer none] w fun r w' => r = .returned (.bool false) ∧ Below w.heap.size w w' := by
 go_enter Tryz.func61, Tryz.ntmps61
 go_wp2_with fail
 go_ret
 exact ⟨by first | rfl | simp [*], Below.refl _ _⟩
end Go.Proofs.YtkfdgodngbinlaaGreatDoor
