/- Walk of tiers: Same. -/
import Derived.Test.YtkfdgodngbinlaaGreatDoorShA
import Derived.Test.YtkfdgodngbinlaaGreatDoorTiersCopy
import Derived.Test.YtkfdgodngbinlaaGreatDoorGoodX
import Derived.Test.YtkfdgodngbinlaaGreatDoorTk
namespace Go.Proofs.YtkfdgodngbinlaaGreatDoor
set_option linter.all false
open Go.RowKit

def sameX (X Y : TiersX) : Bool := (decide (X.name = Y.name) && decide (X.tiers = Y.tiers)) && (decide (X.now = Y.now) && (decide (fromsV X.now X.tiers X.floors = fromsV Y.now Y.tiers Y.floors) && decide (X.tabs = Y.tabs)))
theorem sameX_self (X : TiersX) : sameX X X = true := by unfold sameX; simp

set_option maxRecDepth 100000 in
set_option maxHeartbeats 8000000 in
theorem tsame_any (t base : Nat) (X : TiersX) (u base' : Nat) (Y : TiersX) (w : World) (h : TiersAt w t base X) (h' : TiersAt w u base' Y) (hn : X.tiers.length ≤ 1000) (hn' : Y.tiers.length ≤ 1000) (hl : ∀ m ∈ X.tabs, m.length ≤ 1000000) (hl' : ∀ m ∈ Y.tabs, m.length ≤ 1000000) (hnow : i64 X.now) (hnow' : i64 Y.now) (hwf : ∀ x ∈ X.tiers, x.wf) (hwf' : ∀ x ∈ Y.tiers, x.wf) :
  Calls Tryz.prog 35 #[.pointer (some ⟨t, 0, none⟩), .pointer (some ⟨u, 0, none⟩)] w fun r w' => r = .returned (.bool (sameX X Y)) ∧ Below w.heap.size w w' := by
 have HX := Lib.hid h
 have HY := Lib.hid h'
 obtain ⟨A, c, B, d, T, ct, tb, hi⟩ := h
 obtain ⟨A', c', B', d', T', ct', tb', hi'⟩ := h'
 have Hi := Lib.hid hi
 have Hi' := Lib.hid hi'
 have Hwf := Lib.hid hwf
 have Hwf' := Lib.hid hwf'
 have Hl := Lib.hid hl
 have Hl' := Lib.hid hl'
 have Hn := Lib.hid hn
 have Hn' := Lib.hid hn'
 have HC0 : Hid (∀ W, Fr (fun _ => False) w W → W.cell? ⟨t, 0, none⟩ = some (.int .i64 X.now) ∧ W.cell? ⟨t, 1, none⟩ = some (.string X.name) ∧ W.cell? ⟨t, 2, none⟩ = some (.slice A X.tiers.length c) ∧ W.cell? ⟨t, 3, none⟩ = some (.slice B X.floors.length d) ∧ W.cell? ⟨u, 0, none⟩ = some (.int .i64 Y.now) ∧ W.cell? ⟨u, 1, none⟩ = some (.string Y.name) ∧ W.cell? ⟨u, 2, none⟩ = some (.slice A' Y.tiers.length c') ∧ W.cell? ⟨u, 3, none⟩ = some (.slice B' Y.floors.length d')) := fun W f => by
  have b1 := Hi.out.blk.fr f (fun h => h)
  have b2 := Hi'.out.blk.fr f (fun h => h)
  exact ⟨b1.cell 0, b1.cell 1, b1.cell 2, b1.cell 3, b2.cell 0, b2.cell 1, b2.cell 2, b2.cell 3⟩
 have HPs0 : Hid (∀ W, Fr (fun _ => False) w W → Calls Tryz.prog 63 #[.agg #[.string X.name, .slice A X.tiers.length c], .agg #[.string Y.name, .slice A' Y.tiers.length c']] W fun r w' => r = .returned (.bool (decide (X.name = Y.name) && decide (X.tiers = Y.tiers))) ∧ Below W.heap.size W w') := fun W f =>
  polsame_any X.name Y.name X.tiers Y.tiers A X.tiers.length c A' Y.tiers.length c' W (own_any (Hi.out.fr0 f).tiers).2.2.1 (own_any (Hi'.out.fr0 f).tiers).2.2.1 (by have := Hn.out; omega) (by have := Hn'.out; omega)
 have HA10 : Hid (∀ W, Fr (fun _ => False) w W → Calls Tryz.prog 65 #[.agg #[.int .i64 X.now, .string X.name, .slice A X.tiers.length c, .slice B X.floors.length d]] W fun r w' => (∃ R cs, r = .returned (.slice R X.tiers.length cs) ∧ Rd w' 1 R X.tiers.length (ints (fromsV X.now X.tiers X.floors))) ∧ Below W.heap.size W w') := fun W f => by
  refine (rall_any X.now hnow X.name X.tiers A X.tiers.length c X.floors B X.floors.length d W (own_any (Hi.out.fr0 f).tiers).2.2.1 (own_any (Hi.out.fr0 f).floors).2.2.1 Hwf.out (by have := Hn.out; omega)).mono ?_
  rintro r w' ⟨⟨R, cs, rfl, ho⟩, hb⟩
  exact ⟨⟨R, cs, rfl, (own_any ho).2.2.1⟩, hb⟩
 have HA20 : Hid (∀ W, Fr (fun _ => False) w W → Calls Tryz.prog 65 #[.agg #[.int .i64 Y.now, .string Y.name, .slice A' Y.tiers.length c', .slice B' Y.floors.length d']] W fun r w' => (∃ R cs, r = .returned (.slice R Y.tiers.length cs) ∧ Rd w' 1 R Y.tiers.length (ints (fromsV Y.now Y.tiers Y.floors))) ∧ Below W.heap.size W w') := fun W f => by
  refine (rall_any Y.now hnow' Y.name Y.tiers A' Y.tiers.length c' Y.floors B' Y.floors.length d' W (own_any (Hi'.out.fr0 f).tiers).2.2.1 (own_any (Hi'.out.fr0 f).floors).2.2.1 Hwf'.out (by have := Hn'.out; omega)).mono ?_
  rintro r w' ⟨⟨R, cs, rfl, ho⟩, hb⟩
  exact ⟨⟨R, cs, rfl, (own_any ho).2.2.1⟩, hb⟩
 have HQI0 : Hid (∀ W R cs R' cs', Rd W 1 R X.tiers.length (ints (fromsV X.now X.tiers X.floors)) → Rd W 1 R' Y.tiers.length (ints (fromsV Y.now Y.tiers Y.floors)) → Calls Tryz.prog 64 #[.slice R X.tiers.length cs, .slice R' Y.tiers.length cs'] W fun r w' => r = .returned (.bool (decide (fromsV X.now X.tiers X.floors = fromsV Y.now Y.tiers Y.floors))) ∧ Below W.heap.size W w') := fun W R cs R' cs' h1 h2 =>
  eqints_any _ _ R X.tiers.length cs R' Y.tiers.length cs' W (by rw [icells_is]; exact h1) (by rw [icells_is]; exact h2) (by have := Hn.out; omega) (by have := Hn'.out; omega)
 have HR1 : Hid (∀ W (k : Nat) L, Fr (fun _ => False) w W → k < X.tiers.length → X.tabs[k]? = some L → Calls Tryz.prog 67 #[.pointer (some ⟨t, 0, none⟩), .int .i64 k] W fun r w' => (∃ A c, r = .returned (.slice A L.length c) ∧ Rd w' 7 A L.length (rcells L)) ∧ Below W.heap.size W w') := fun W k L f hk hL => by
  refine (trecords_in t base X k X.tiers[k] L W (HX.out.fr0 f) (List.getElem?_eq_getElem hk) hL (by have := Hl.out L (mem_of_get hL); omega)).mono ?_
  rintro r w' ⟨⟨A, c, rfl, ho⟩, hb⟩
  exact ⟨⟨A, c, rfl, (own_any ho).2.2.1⟩, hb⟩
 have HR2 : Hid (∀ W (k : Nat) L, Fr (fun _ => False) w W → k < Y.tiers.length → Y.tabs[k]? = some L → Calls Tryz.prog 67 #[.pointer (some ⟨u, 0, none⟩), .int .i64 k] W fun r w' => (∃ A c, r = .returned (.slice A L.length c) ∧ Rd w' 7 A L.length (rcells L)) ∧ Below W.heap.size W w') := fun W k L f hk hL => by
  refine (trecords_in u base' Y k Y.tiers[k] L W (HY.out.fr0 f) (List.getElem?_eq_getElem hk) hL (by have := Hl'.out L (mem_of_get hL); omega)).mono ?_
  rintro r w' ⟨⟨A, c, rfl, ho⟩, hb⟩
  exact ⟨⟨A, c, rfl, (own_any ho).2.2.1⟩, hb⟩
 have HlX : Hid (∀ m ∈ X.tabs, m.length ≤ 1000000) := Hl.out
 have HlY : Hid (∀ m ∈ Y.tabs, m.length ≤ 1000000) := Hl'.out
 have Htx := Lib.hid hi.tlen
 have Hty := Lib.hid hi'.tlen
 have HTl : Hid ((decide (X.name = Y.name) && decide (X.tiers = Y.tiers)) = true → X.tiers.length = Y.tiers.length) := fun h => by
  simp only [Bool.and_eq_true, decide_eq_true_eq] at h
  rw [h.2]
 obtain ⟨SX, HS⟩ : ∃ S, sameX X Y = S := ⟨_, rfl⟩
 have HS2 : Hid (SX = ((decide (X.name = Y.name) && decide (X.tiers = Y.tiers)) && (decide (X.now = Y.now) && (decide (fromsV X.now X.tiers X.floors = fromsV Y.now Y.tiers Y.floors) && decide (X.tabs = Y.tabs))))) := by show _ = _; rw [← HS]; rfl
 rw [HS]
 clear HS hi hi' hnow hnow' hn hn' hl hl' hwf hwf'
 obtain ⟨EF, hEF⟩ : ∃ E, decide (fromsV X.now X.tiers X.floors = fromsV Y.now Y.tiers Y.floors) = E := ⟨_, rfl⟩
 obtain ⟨PE, hPE⟩ : ∃ E, (decide (X.name = Y.name) && decide (X.tiers = Y.tiers)) = E := ⟨_, rfl⟩
 rw [hEF] at HQI0 HS2
 rw [hPE] at HPs0 HS2 HTl
 clear hEF hPE
 have HNow : Hid (∀ a b, X.now = a → Y.now = b → decide (X.now = Y.now) = decide (a = b)) := fun a b h1 h2 => by rw [h1, h2]
 have Hlx := Lib.hid (rfl : X.tiers.length = X.tiers.length)
 obtain ⟨nx, hnx⟩ : ∃ v, X.now = v := ⟨_, rfl⟩
 obtain ⟨ny, hny⟩ : ∃ v, Y.now = v := ⟨_, rfl⟩
 rw [HNow.out nx ny hnx hny] at HS2
 obtain ⟨sx, hsx⟩ : ∃ v, X.name = v := ⟨_, rfl⟩
 obtain ⟨sy, hsy⟩ : ∃ v, Y.name = v := ⟨_, rfl⟩
 obtain ⟨fx, hfx⟩ : ∃ v, X.floors.length = v := ⟨_, rfl⟩
 obtain ⟨fy, hfy⟩ : ∃ v, Y.floors.length = v := ⟨_, rfl⟩
 obtain ⟨VX, hVX⟩ : ∃ v, fromsV X.now X.tiers X.floors = v := ⟨_, rfl⟩
 obtain ⟨VY, hVY⟩ : ∃ v, fromsV Y.now Y.tiers Y.floors = v := ⟨_, rfl⟩
 rw [hVX] at HA10 HQI0
 rw [hVY] at HA20 HQI0
 obtain ⟨lx, hlx⟩ : ∃ v, X.tiers.length = v := ⟨_, rfl⟩
 obtain ⟨ly, hly⟩ : ∃ v, Y.tiers.length = v := ⟨_, rfl⟩
 rw [hnx, hsx, hlx, hfx] at HA10
 rw [hny, hsy, hly, hfy] at HA20
 rw [hlx, hly] at HQI0
 rw [hsx, hsy, hlx, hly] at HPs0
 rw [hnx, hsx, hlx, hfx, hny, hsy, hly, hfy] at HC0
 rw [hlx] at HR1 Hn Htx HTl
 rw [hly] at HR2 Hn' Hty HTl
 clear hnx hny hsx hsy hlx hly hfx hfy hVX hVY HNow Hlx Hi Hi' HX HY Hwf Hwf' Hl Hl'
 have HC := HC0
 have HPs := HPs0
 have HA1 := HA10
 have HA2 := HA20
 have HQI := HQI0
 clear HC0 HPs0 HA10 HA20 HQI0
 cases PE with
 | false =>
  have hS : Hid (SX = false) := by show _ = _; rw [HS2.out]; rfl
  go_enter Tryz.func35, Tryz.ntmps35
  go_wp2_with fail
  refine wp_region_held_drew (S := fun W => Fr (fun _ => False) w W) (by kernel_rfl) ((Fr.refl _ w).drew) (fun hHeld => ?_)
  refine tq 10 [0,1,2,3,4,5,6,7,8,9] ?_
  iterate 9 refine sf HC.out ?_
  refine sf HC.out ?_
  try simp only [Act.put, sA, sB, sC]
  refine sz ?_
  try simp only [Act.put, sA, sB, sC]
  refine rl 10 rfl (fun K hK => ?_)
  go_simp
  go_wp2_with (first | (go_at_call 63; refine (HPs.out _ hHeld).mono ?_; rintro r w5 ⟨rfl, b5⟩))
  refine hK.out _ _ (hHeld.trans (Fr.b0 b5) (fun _ h => h.elim)) (fun hHeld => ?_)
  clear hK K
  refine tq 28 [11,12,13,14,15,16,17,18,19,20,21,22,23,24,25,26,27,28,29,30,31,32,33,34,35,36,37,38] ?_
  refine sk ?_
  refine sk ?_
  try simp only [Act.put, sA, sB, sC]
  iterate 10 (refine su ?_; try simp only [Act.put, sA, sB, sC])
  refine su ?_
  refine sk ?_
  refine sk ?_
  try simp only [Act.put, sA, sB, sC]
  iterate 11 (refine su ?_; try simp only [Act.put, sA, sB, sC])
  refine su ?_
  refine sk ?_
  try simp only [Act.put, sA, sB, sC]
  refine sz ?_
  try simp only [Act.put, sA, sB, sC]
  refine wpAnyH_done (by kernel_rfl) ?_ _
  go_wp2_with fail
  go_ret
  exact ⟨by rw [hS.out]; rfl, hHeld.below (fun _ h => h.elim)⟩
 | true =>
  have hlen : lx = ly := HTl.out rfl
  subst hlen
  by_cases hnow : nx = ny
  ·subst hnow
   cases EF with
   | false =>
    have hS : Hid (SX = false) := by show _ = _; rw [HS2.out]; simp
    go_enter Tryz.func35, Tryz.ntmps35
    go_wp2_with fail
    refine wp_region_held_drew (S := fun W => Fr (fun _ => False) w W) (by kernel_rfl) ((Fr.refl _ w).drew) (fun hHeld => ?_)
    refine tq 10 [0,1,2,3,4,5,6,7,8,9] ?_
    iterate 9 refine sf HC.out ?_
    refine sf HC.out ?_
    try simp only [Act.put, sA, sB, sC]
    refine sz ?_
    try simp only [Act.put, sA, sB, sC]
    refine rl 10 rfl (fun K hK => ?_)
    go_simp
    go_wp2_with (first | (go_at_call 63; refine (HPs.out _ hHeld).mono ?_; rintro r w5 ⟨rfl, b5⟩))
    refine hK.out _ _ (hHeld.trans (Fr.b0 b5) (fun _ h => h.elim)) (fun hHeld => ?_)
    clear hK K
    refine tq 23 [11,12,13,14,15,16,17,18,19,20,21,22,23,24,25,26,27,28,29,31,32,33,34] ?_
    refine sk ?_
    iterate 11 (refine sf HC.out ?_; try simp only [Act.put, sA, sB, sC])
    iterate 2 refine sf HC.out ?_
    iterate 9 (refine sf HC.out ?_; try simp only [Act.put, sA, sB, sC])
    refine sz ?_
    try simp only [Act.put, sA, sB, sC]
    refine rl 30 rfl (fun K hK => ?_)
    go_simp
    go_wp2_with (first | (go_at_call 65; refine (HA1.out _ hHeld).mono ?_; rintro r w6 ⟨⟨R6, c6, rfl, r6⟩, b6⟩))
    refine hK.out _ _ (hHeld.trans (Fr.b0 b6) (fun _ h => h.elim)) (fun hHeld => ?_)
    clear hK K
    try simp only [Act.put, sA, sB, sC]
    refine rl 35 rfl (fun K hK => ?_)
    go_simp
    go_wp2_with (first | (go_at_call 65; refine (HA2.out _ hHeld).mono ?_; rintro r w7 ⟨⟨R7, c7, rfl, r7⟩, b7⟩))
    refine hK.out _ _ (hHeld.trans (Fr.b0 b7) (fun _ h => h.elim)) (fun hHeld => ?_)
    clear hK K
    try simp only [Act.put, sA, sB, sC]
    refine rl 36 rfl (fun K hK => ?_)
    go_simp
    go_wp2_with (first | (go_at_call 64; refine (HQI.out _ R6 c6 R7 c7 (r6.fr0 (Fr.b0 b7)) r7).mono ?_; rintro r w8 ⟨rfl, b8⟩))
    refine hK.out _ _ (hHeld.trans (Fr.b0 b8) (fun _ h => h.elim)) (fun hHeld => ?_)
    clear hK K
    try simp only [Act.put, sA, sB, sC]
    refine tq 2 [37,38] ?_
    refine sk ?_
    refine sk ?_
    try simp only [Act.put, sA, sB, sC]
    refine sz ?_
    try simp only [Act.put, sA, sB, sC]
    refine wpAnyH_done (by kernel_rfl) ?_ _
    go_wp2_with fail
    go_ret
    exact ⟨by rw [hS.out]; rfl, hHeld.below (fun _ h => h.elim)⟩
   | true =>
    have hS : Hid (SX = decide (X.tabs = Y.tabs)) := by show _ = _; rw [HS2.out]; simp
    go_enter Tryz.func35, Tryz.ntmps35
    go_wp2_with fail
    refine wp_region_held_drew (S := fun W => Fr (fun _ => False) w W) (by kernel_rfl) ((Fr.refl _ w).drew) (fun hHeld => ?_)
    refine tq 10 [0,1,2,3,4,5,6,7,8,9] ?_
    iterate 9 refine sf HC.out ?_
    refine sf HC.out ?_
    try simp only [Act.put, sA, sB, sC]
    refine sz ?_
    try simp only [Act.put, sA, sB, sC]
    refine rl 10 rfl (fun K hK => ?_)
    go_simp
    go_wp2_with (first | (go_at_call 63; refine (HPs.out _ hHeld).mono ?_; rintro r w5 ⟨rfl, b5⟩))
    refine hK.out _ _ (hHeld.trans (Fr.b0 b5) (fun _ h => h.elim)) (fun hHeld => ?_)
    clear hK K
    refine tq 23 [11,12,13,14,15,16,17,18,19,20,21,22,23,24,25,26,27,28,29,31,32,33,34] ?_
    refine sk ?_
    iterate 11 (refine sf HC.out ?_; try simp only [Act.put, sA, sB, sC])
    iterate 2 refine sf HC.out ?_
    iterate 9 (refine sf HC.out ?_; try simp only [Act.put, sA, sB, sC])
    refine sz ?_
    try simp only [Act.put, sA, sB, sC]
    refine rl 30 rfl (fun K hK => ?_)
    go_simp
    go_wp2_with (first | (go_at_call 65; refine (HA1.out _ hHeld).mono ?_; rintro r w6 ⟨⟨R6, c6, rfl, r6⟩, b6⟩))
    refine hK.out _ _ (hHeld.trans (Fr.b0 b6) (fun _ h => h.elim)) (fun hHeld => ?_)
    clear hK K
    try simp only [Act.put, sA, sB, sC]
    refine rl 35 rfl (fun K hK => ?_)
    go_simp
    go_wp2_with (first | (go_at_call 65; refine (HA2.out _ hHeld).mono ?_; rintro r w7 ⟨⟨R7, c7, rfl, r7⟩, b7⟩))
    refine hK.out _ _ (hHeld.trans (Fr.b0 b7) (fun _ h => h.elim)) (fun hHeld => ?_)
    clear hK K
    try simp only [Act.put, sA, sB, sC]
    refine rl 36 rfl (fun K hK => ?_)
    go_simp
    go_wp2_with (first | (go_at_call 64; refine (HQI.out _ R6 c6 R7 c7 (r6.fr0 (Fr.b0 b7)) r7).mono ?_; rintro r w8 ⟨rfl, b8⟩))
    refine hK.out _ _ (hHeld.trans (Fr.b0 b8) (fun _ h => h.elim)) (fun hHeld => ?_)
    clear hK K
    try simp only [Act.put, sA, sB, sC]
    refine tq 2 [37,38] ?_
    refine sk ?_
    refine sk ?_
    try simp only [Act.put, sA, sB, sC]
    refine sz ?_
    try simp only [Act.put, sA, sB, sC]
    refine wpAnyH_done (by kernel_rfl) ?_ _
    have F8 := Lib.hid hHeld
    obtain ⟨z0, z1, z2, z3, y0, y1, y2, y3⟩ := HC.out _ hHeld
    clear r6 r7 b5 b6 b7 b8 hHeld y0 y1 y2 y3
    go_wp2_with fail
    go_loopw [64] (fun i wr => ∃ k : Nat, k ≤ lx ∧ i = .int .i64 k ∧ Hid (X.tabs.take k = Y.tabs.take k) ∧ Fr (fun _ => False) w wr) (fun i _ => lx - (intOf i).toNat)
    case atStart => exact ⟨0, Nat.zero_le _, rfl, rfl, F8.out⟩
    case round =>
     obtain ⟨k, hk, rfl, htk, ho⟩ := hrel
     have Ho := Lib.hid ho
     clear ho
     by_cases hlt : k < lx
     ·obtain ⟨L, hL⟩ : ∃ L, X.tabs[k]? = some L := ⟨_, List.getElem?_eq_getElem (by rw [Htx.out]; exact hlt)⟩
      obtain ⟨M, hM⟩ : ∃ M, Y.tabs[k]? = some M := ⟨_, List.getElem?_eq_getElem (by rw [Hty.out]; exact hlt)⟩
      have HL := Lib.hid hL
      have HM := Lib.hid hM
      have H1 := Lib.hid (HR1.out wr k L Ho.out hlt hL)
      have H2 := Lib.hid (fun W f => HR2.out W k M f hlt hM)
      have hL6 := Lib.hid (HlX.out L (mem_of_get hL))
      have hM6 := Lib.hid (HlY.out M (mem_of_get hM))
      clear hL hM
      have hkw : IntKind.i64.wrap ((k : Int) + 1) = (k : Int) + 1 := by have := Hn.out; simp [IntKind.wrap, IntKind.signed, IntKind.bits]; omega
      go_wp2_with fail
      refine H1.out.mono ?_
      rintro r wa ⟨⟨Aa, ca, rfl, ra⟩, ba⟩
      have Fa := Lib.hid (Ho.out.trans (Fr.b0 ba) (fun _ h => h.elim))
      have Ra := Lib.hid ra
      clear ra ba
      go_wp2_with fail
      refine (H2.out wa Fa.out).mono ?_
      rintro r wb ⟨⟨Ab, cb, rfl, rb⟩, bb⟩
      have Fb := Lib.hid (Fa.out.trans (Fr.b0 bb) (fun _ h => h.elim))
      have HQ := Lib.hid (eqrecs_any L M Aa L.length ca Ab M.length cb wb (Ra.out.fr0 (Fr.b0 bb)) rb (by have := hL6.out; omega) (by have := hM6.out; omega))
      clear rb bb
      go_wp2_with fail
      refine HQ.out.mono ?_
      rintro r wc ⟨rfl, bc⟩
      have Fc := Lib.hid (Fb.out.trans (Fr.b0 bc) (fun _ h => h.elim))
      clear bc HQ
      by_cases hLM : L = M
      ·have hd : decide (L = M) = true := decide_eq_true hLM
       have htk2 : Hid (X.tabs.take (k + 1) = Y.tabs.take (k + 1)) := by show _ = _; rw [take_snoc HL.out, take_snoc HM.out, htk.out, hLM]
       rw [hd]
       clear hLM hd
       go_wp2_with fail
       go_roundw
       case rel => exact ⟨k + 1, by omega, by go_num, htk2.out, Fc.out⟩
       case measure => simp [intOf]; omega
      ·have hd : decide (L = M) = false := decide_eq_false hLM
       have hne : Hid (decide (X.tabs = Y.tabs) = false) := by
        refine decide_eq_false fun h => ?_
        have h1 := HL.out
        have h2 := HM.out
        rw [h] at h1
        rw [h1] at h2
        exact hLM (Option.some.inj h2)
       rw [hd]
       clear hLM hd
       go_wp2_with fail
       go_ret
       exact ⟨by rw [hS.out, hne.out]; rfl, Fc.out.below (fun _ h => h.elim)⟩
     ·obtain rfl : k = lx := by omega
      have hE : Hid (decide (X.tabs = Y.tabs) = true) := by
       refine decide_eq_true ?_
       have h := htk.out
       rwa [take_all (by rw [Htx.out]; exact Nat.le_refl _), take_all (by rw [Hty.out]; exact Nat.le_refl _)] at h
      go_wp2_with fail
      go_ret
      exact ⟨by rw [hS.out, hE.out]; rfl, Ho.out.below (fun _ h => h.elim)⟩
  ·have hS : Hid (SX = false) := by show _ = _; rw [HS2.out, decide_eq_false hnow]; simp
   have hn1 : (nx == ny) = false := by simpa using hnow
   have hn2 : decide (nx = ny) = false := decide_eq_false hnow
   have hn3 : (nx != ny) = true := by simpa using hnow
   go_enter Tryz.func35, Tryz.ntmps35
   go_wp2_with fail
   refine wp_region_held_drew (S := fun W => Fr (fun _ => False) w W) (by kernel_rfl) ((Fr.refl _ w).drew) (fun hHeld => ?_)
   refine tq 10 [0,1,2,3,4,5,6,7,8,9] ?_
   iterate 9 refine sf HC.out ?_
   refine sf HC.out ?_
   try simp only [Act.put, sA, sB, sC]
   refine sz ?_
   try simp only [Act.put, sA, sB, sC]
   refine rl 10 rfl (fun K hK => ?_)
   go_simp
   go_wp2_with (first | (go_at_call 63; refine (HPs.out _ hHeld).mono ?_; rintro r w5 ⟨rfl, b5⟩))
   refine hK.out _ _ (hHeld.trans (Fr.b0 b5) (fun _ h => h.elim)) (fun hHeld => ?_)
   clear hK K
   refine tq 28 [11,12,13,14,15,16,17,18,19,20,21,22,23,24,25,26,27,28,29,30,31,32,33,34,35,36,37,38] ?_
   refine sk ?_
   iterate 11 (refine sf HC.out ?_; try simp only [Act.put, sA, sB, sC])
   iterate 2 refine sf HC.out ?_
   refine sk ?_
   try simp only [Act.put, sA, sB, sC]
   iterate 11 (refine su ?_; try simp only [Act.put, sA, sB, sC])
   refine su ?_
   refine sk ?_
   try simp only [Act.put, sA, sB, sC]
   refine sz ?_
   try simp only [Act.put, sA, sB, sC]
   refine wpAnyH_done (by kernel_rfl) ?_ _
   go_wp2_with fail
   go_ret
   exact ⟨by rw [hS.out]; rfl, hHeld.below (fun _ h => h.elim)⟩
end Go.Proofs.YtkfdgodngbinlaaGreatDoor
namespace Go.Proofs.YtkfdgodngbinlaaGreatDoor
set_option linter.all false
open Go.RowKit

end Go.Proofs.YtkfdgodngbinlaaGreatDoor
namespace Go.Proofs.YtkfdgodngbinlaaGreatDoor
set_option linter.all false
open Go.RowKit

section
variable {nm : ByteArray} {l : List TierV} {fl : List Int} {lo : Nat} {W W' : World} {t : Nat} {X : TiersX} {F : Nat → Prop} {c : Nat}
theorem tio_same {nm2 : ByteArray} {l2 : List TierV} {fl2 : List Int} {lo2 u c2 : Nat} {Y : TiersX} {F2 : Nat → Prop} (p : PolOk nm l) (p2 : PolOk nm2 l2) (h : Tio nm l fl lo W t X F c) (h2 : Tio nm2 l2 fl2 lo2 W u Y F2 c2) (hc : c ≤ 1000000) (hc2 : c2 ≤ 1000000) :
  Calls Tryz.prog 35 #[.pointer (some ⟨t, 0, none⟩), .pointer (some ⟨u, 0, none⟩)] W fun r w' => r = .returned (.bool (sameX X Y)) ∧ Below W.heap.size W w' := by
 obtain ⟨base, hb, ho⟩ := h.on
 obtain ⟨base2, hb2, ho2⟩ := h2.on
 exact tsame_any t base X u base2 Y W ho.at_ ho2.at_ (h.five p) (h2.five p2) (h.short hc) (h2.short hc2) h.now64 h2.now64 (h.wf p) (h2.wf p2)
end
end Go.Proofs.YtkfdgodngbinlaaGreatDoor
