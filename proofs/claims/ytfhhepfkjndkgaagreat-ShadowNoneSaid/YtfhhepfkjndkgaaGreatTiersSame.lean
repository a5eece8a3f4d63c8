/- Walk of tiers: Same. -/
import Derived.Test.YtfhhepfkjndkgaaGreatPolSame
import Derived.Test.YtfhhepfkjndkgaaGreatTiersAsk
import Derived.Test.YtfhhepfkjndkgaaGreatTk
namespace Go.Proofs.YtfhhepfkjndkgaaGreat
set_option linter.all false
open Go.RowKit

/-- What Same answers. -/
def sameX (X Y : TiersX) : Bool := (decide (X.name = Y.name) && decide (X.tiers = Y.tiers)) && (decide (X.now = Y.now) && (decide (fromsV X.now X.tiers X.floors = fromsV Y.now Y.tiers Y.floors) && decide (X.tabs = Y.tabs)))
theorem sameX_self (X : TiersX) : sameX X X = true := by unfold sameX; simp

set_option maxRecDepth 100000 in
set_option maxHeartbeats 8000000 in
theorem tsame_any (t base : Nat) (X : TiersX) (u base' : Nat) (Y : TiersX) (w : World) (h : TiersAt w t base X) (h' : TiersAt w u base' Y) (hn : X.tiers.length ≤ 1000) (hn' : Y.tiers.length ≤ 1000) (hl : ∀ m ∈ X.tabs, m.length ≤ 1000000) (hl' : ∀ m ∈ Y.tabs, m.length ≤ 1000000) (hnow : i64 X.now) (hnow' : i64 Y.now) (hwf : ∀ x ∈ X.tiers, x.wf) (hwf' : ∀ x ∈ Y.tiers, x.wf) :
    Calls Tryz.prog 33 #[.pointer (some ⟨t, 0, none⟩), .pointer (some ⟨u, 0, none⟩)] w fun r w' => r = .returned (.bool (sameX X Y)) ∧ Below w.heap.size w w' := by
  have HX := Lib.hid h
  have HY := Lib.hid h'
  obtain ⟨A, c, B, d, T, ct, tb, hi⟩ := h
  obtain ⟨A', c', B', d', T', ct', tb', hi'⟩ := h'
  have Hi := Lib.hid hi
  have Hi' := Lib.hid hi'
  have Hwf := Lib.hid hwf
  have Hwf' := Lib.hid hwf'
  have Hl := Lib.hid hl
  have Hl' := Lib.hid hl'
  have Hn := Lib.hid hn
  have Hn' := Lib.hid hn'
  have HC0 : Hid (∀ W, Fr (fun _ => False) w W → W.cell? ⟨t, 0, none⟩ = some (.int .i64 X.now) ∧ W.cell? ⟨t, 1, none⟩ = some (.string X.name) ∧ W.cell? ⟨t, 2, none⟩ = some (.slice A X.tiers.length c) ∧ W.cell? ⟨t, 3, none⟩ = some (.slice B X.floors.length d) ∧ W.cell? ⟨u, 0, none⟩ = some (.int .i64 Y.now) ∧ W.cell? ⟨u, 1, none⟩ = some (.string Y.name) ∧ W.cell? ⟨u, 2, none⟩ = some (.slice A' Y.tiers.length c') ∧ W.cell? ⟨u, 3, none⟩ = some (.slice B' Y.floors.length d')) := fun W f => by
    have b1 := Hi.out.blk.fr f (fun h => h)
    have b2 := Hi'.out.blk.fr f (fun h => h)
    exact ⟨b1.cell 0, b1.cell 1, b1.cell 2, b1.cell 3, b2.cell 0, b2.cell 1, b2.cell 2, b2.cell 3⟩
  have HPs0 : Hid (∀ W, Fr (fun _ => False) w W → Calls Tryz.prog 87 #[.agg #[.string X.name, .slice A X.tiers.length c], .agg #[.string Y.name, .slice A' Y.tiers.length c']] W fun r w' => r = .returned (.bool (decide (X.name = Y.name) && decide (X.tiers = Y.tiers))) ∧ Below W.heap.size W w') := fun W f =>
    polsame_any X.name Y.name X.tiers Y.tiers A X.tiers.length c A' Y.tiers.length c' W (own_any (Hi.out.fr0 f).tiers).2.2.1 (own_any (Hi'.out.fr0 f).tiers).2.2.1 (by have := Hn.out; omega) (by have := Hn'.out; omega)
  have HA10 : Hid (∀ W, Fr (fun _ => False) w W → Calls Tryz.prog 89 #[.agg #[.int .i64 X.now, .string X.name, .slice A X.tiers.length c, .slice B X.floors.length d]] W fun r w' => (∃ R cs, r = .returned (.slice R X.tiers.length cs) ∧ Rd w' 1 R X.tiers.length (ints (fromsV X.now X.tiers X.floors))) ∧ Below W.heap.size W w') := fun W f => by
    refine (rall_any X.now hnow X.name X.tiers A X.tiers.length c X.floors B X.floors.length d W (own_any (Hi.out.fr0 f).tiers).2.2.1 (own_any (Hi.out.fr0 f).floors).2.2.1 Hwf.out (by have := Hn.out; omega)).mono ?_
    rintro r w' ⟨⟨R, cs, rfl, ho⟩, hb⟩
    exact ⟨⟨R, cs, rfl, (own_any ho).2.2.1⟩, hb⟩
  have HA20 : Hid (∀ W, Fr (fun _ => False) w W → Calls Tryz.prog 89 #[.agg #[.int .i64 Y.now, .string Y.name, .slice A' Y.tiers.length c', .slice B' Y.floors.length d']] W fun r w' => (∃ R cs, r = .returned (.slice R Y.tiers.length cs) ∧ Rd w' 1 R Y.tiers.length (ints (fromsV Y.now Y.tiers Y.floors))) ∧ Below W.heap.size W w') := fun W f => by
    refine (rall_any Y.now hnow' Y.name Y.tiers A' Y.tiers.length c' Y.floors B' Y.floors.length d' W (own_any (Hi'.out.fr0 f).tiers).2.2.1 (own_any (Hi'.out.fr0 f).floors).2.2.1 Hwf'.out (by have := Hn'.out; omega)).mono ?_
    rintro r w' ⟨⟨R, cs, rfl, ho⟩, hb⟩
    exact ⟨⟨R, cs, rfl, (own_any ho).2.2.1⟩, hb⟩
  have HQI0 : Hid (∀ W R cs R' cs', Rd W 1 R X.tiers.length (ints (fromsV X.now X.tiers X.floors)) → Rd W 1 R' Y.tiers.length (ints (fromsV Y.now Y.tiers Y.floors)) → Calls Tryz.prog 88 #[.slice R X.tiers.length cs, .slice R' Y.tiers.length cs'] W fun r w' => r = .returned (.bool (decide (fromsV X.now X.tiers X.floors = fromsV Y.now Y.tiers Y.floors))) ∧ Below W.heap.size W w') := fun W R cs R' cs' h1 h2 =>
    eqints_any _ _ R X.tiers.length cs R' Y.tiers.length cs' W (by rw [icells_is]; exact h1) (by rw [icells_is]; exact h2) (by have := Hn.out; omega) (by have := Hn'.out; omega)
  have HR1 : Hid (∀ W (k : Nat) L, Fr (fun _ => False) w W → k < X.tiers.length → X.tabs[k]? = some L → Calls Tryz.prog 91 #[.pointer (some ⟨t, 0, none⟩), .int .i64 k] W fun r w' => (∃ A c, r = .returned (.slice A L.length c) ∧ Rd w' 7 A L.length (rcells L)) ∧ Below W.heap.size W w') := fun W k L f hk hL => by
    refine (trecords_in t base X k X.tiers[k] L W (HX.out.fr0 f) (List.getElem?_eq_getElem hk) hL (by have := Hl.out L (mem_of_get hL); omega)).mono ?_
    rintro r w' ⟨⟨A, c, rfl, ho⟩, hb⟩
    exact ⟨⟨A, c, rfl, (own_any ho).2.2.1⟩, hb⟩
  have HR2 : Hid (∀ W (k : Nat) L, Fr (fun _ => False) w W → k < Y.tiers.length → Y.tabs[k]? = some L → Calls Tryz.prog 91 #[.pointer (some ⟨u, 0, none⟩), .int .i64 k] W fun r w' => (∃ A c, r = .returned (.slice A L.length c) ∧ Rd w' 7 A L.length (rcells L)) ∧ Below W.heap.size W w') := fun W k L f hk hL => by
    refine (trecords_in u base' Y k Y.tiers[k] L W (HY.out.fr0 f) (List.getElem?_eq_getElem hk) hL (by have := Hl'.out L (mem_of_get hL); omega)).mono ?_
    rintro r w' ⟨⟨A, c, rfl, ho⟩, hb⟩
    exact ⟨⟨A, c, rfl, (own_any ho).2.2.1⟩, hb⟩
  have HlX : Hid (∀ m ∈ X.tabs, m.length ≤ 1000000) := Hl.out
  have HlY : Hid (∀ m ∈ Y.tabs, m.length ≤ 1000000) := Hl'.out
  have Htx := Lib.hid hi.tlen
  have Hty := Lib.hid hi'.tlen
  have HTl : Hid ((decide (X.name = Y.name) && decide (X.tiers = Y.tiers)) = true → X.tiers.length = Y.tiers.length) := fun h => by
    simp only [Bool.and_eq_true, decide_eq_true_eq] at h
    rw [h.2]
  obtain ⟨SX, HS⟩ : ∃ S, sameX X Y = S := ⟨_, rfl⟩
  have HS2 : Hid (SX = ((decide (X.name = Y.name) && decide (X.tiers = Y.tiers)) && (decide (X.now = Y.now) && (decide (fromsV X.now X.tiers X.floors = fromsV Y.now Y.tiers Y.floors) && decide (X.tabs = Y.tabs))))) := by show _ = _; rw [← HS]; rfl
  rw [HS]
  clear HS hi hi' hnow hnow' hn hn' hl hl' hwf hwf'
  obtain ⟨EF, hEF⟩ : ∃ E, decide (fromsV X.now X.tiers X.floors = fromsV Y.now Y.tiers Y.floors) = E := ⟨_, rfl⟩
  obtain ⟨PE, hPE⟩ : ∃ E, (decide (X.name = Y.name) && decide (X.tiers = Y.tiers)) = E := ⟨_, rfl⟩
  rw [hEF] at HQI0 HS2
  rw [hPE] at HPs0 HS2 HTl
  clear hEF hPE
  have HNow : Hid (∀ a b, X.now = a → Y.now = b → decide (X.now = Y.now) = decide (a = b)) := fun a b h1 h2 => by rw [h1, h2]
  have Hlx := Lib.hid (rfl : X.tiers.length = X.tiers.length)
  obtain ⟨nx, hnx⟩ : ∃ v, X.now = v := ⟨_, rfl⟩
  obtain ⟨ny, hny⟩ : ∃ v, Y.now = v := ⟨_, rfl⟩
  rw [HNow.out nx ny hnx hny] at HS2
  obtain ⟨sx, hsx⟩ : ∃ v, X.name = v := ⟨_, rfl⟩
  obtain ⟨sy, hsy⟩ : ∃ v, Y.name = v := ⟨_, rfl⟩
  obtain ⟨fx, hfx⟩ : ∃ v, X.floors.length = v := ⟨_, rfl⟩
  obtain ⟨fy, hfy⟩ : ∃ v, Y.floors.length = v := ⟨_, rfl⟩
  obtain ⟨VX, hVX⟩ : ∃ v, fromsV X.now X.tiers X.floors = v := ⟨_, rfl⟩
  obtain ⟨VY, hVY⟩ : ∃ v, fromsV Y.now Y.tiers Y.floors = v := ⟨_, rfl⟩
  rw [hVX] at HA10 HQI0
  rw [hVY] at HA20 HQI0
  obtain ⟨lx, hlx⟩ : ∃ v, X.tiers.length = v := ⟨_, rfl⟩
  obtain ⟨ly, hly⟩ : ∃ v, Y.tiers.length = v := ⟨_, rfl⟩
  rw [hnx, hsx, hlx, hfx] at HA10
  rw [hny, hsy, hly, hfy] at HA20
  rw [hlx, hly] at HQI0
  rw [hsx, hsy, hlx, hly] at HPs0
  rw [hnx, hsx, hlx, hfx, hny, hsy, hly, hfy] at HC0
  rw [hlx] at HR1 Hn Htx HTl
  rw [hly] at HR2 Hn' Hty HTl
  clear hnx hny hsx hsy hlx hly hfx hfy hVX hVY HNow Hlx Hi Hi' HX HY Hwf Hwf' Hl Hl'
  have HC := HC0
  have HPs := HPs0
  have HA1 := HA10
  have HA2 := HA20
  have HQI := HQI0
  clear HC0 HPs0 HA10 HA20 HQI0
  cases PE with
  | false =>
    have hS : Hid (SX = false) := by show _ = _; rw [HS2.out]; rfl
    go_enter Tryz.func33, Tryz.ntmps33
    go_wp2_with fail
    refine wp_region_held_drew (S := fun W => Fr (fun _ => False) w W) (by kernel_rfl) ((Fr.refl _ w).drew) (fun hHeld => ?_)
    refine tk 0 ⟨some 18, .move (.tmp 0), 34, _, _, none⟩ ?vq1 rfl (by kernel_rfl) (.inl ⟨by rfl, ?hq1⟩) ?rq1
    case hq1 => intro W hSw; go_simp; (try with_reducible rfl)
    try simp only [Act.put, List.setIfInBounds_toArray, List.set_cons_zero, List.set_cons_succ]
    refine tk 1 ⟨some 19, .nilCheck (.tmp 18), 0, _, _, none⟩ ?vq2 rfl (by kernel_rfl) (.inl ⟨by rfl, ?hq2⟩) ?rq2
    case hq2 => intro W hSw; go_simp; (try with_reducible rfl)
    try simp only [Act.put, List.setIfInBounds_toArray, List.set_cons_zero, List.set_cons_succ]
    refine tk 2 ⟨some 20, .fieldAddr 59 (.tmp 19) 0, 0, _, _, none⟩ ?vq3 rfl (by kernel_rfl) (.inl ⟨by rfl, ?hq3⟩) ?rq3
    case hq3 => intro W hSw; go_simp; (try with_reducible rfl)
    try simp only [Act.put, List.setIfInBounds_toArray, List.set_cons_zero, List.set_cons_succ]
    refine tk 3 ⟨some 21, .fieldAddr 57 (.tmp 20) 1, 0, _, _, none⟩ ?vq4 rfl (by kernel_rfl) (.inl ⟨by rfl, ?hq4⟩) ?rq4
    case hq4 => intro W hSw; go_simp; (try with_reducible rfl)
    try simp only [Act.put, List.setIfInBounds_toArray, List.set_cons_zero, List.set_cons_succ]
    refine tk 4 ⟨some 22, .load 24 (.tmp 21), 24, _, _, none⟩ ?vq5 rfl (by kernel_rfl) (.inl ⟨by rfl, ?hq5⟩) ?rq5
    case hq5 => intro W hSw; (try obtain ⟨z0, z1, z2, z3, y0, y1, y2, y3⟩ := HC.out W hSw); go_simp; (try with_reducible rfl)
    try simp only [Act.put, List.setIfInBounds_toArray, List.set_cons_zero, List.set_cons_succ]
    refine tk 5 ⟨some 23, .move (.tmp 1), 34, _, _, none⟩ ?vq6 rfl (by kernel_rfl) (.inl ⟨by rfl, ?hq6⟩) ?rq6
    case hq6 => intro W hSw; go_simp; (try with_reducible rfl)
    try simp only [Act.put, List.setIfInBounds_toArray, List.set_cons_zero, List.set_cons_succ]
    refine tk 6 ⟨some 24, .nilCheck (.tmp 23), 0, _, _, none⟩ ?vq7 rfl (by kernel_rfl) (.inl ⟨by rfl, ?hq7⟩) ?rq7
    case hq7 => intro W hSw; go_simp; (try with_reducible rfl)
    try simp only [Act.put, List.setIfInBounds_toArray, List.set_cons_zero, List.set_cons_succ]
    refine tk 7 ⟨some 25, .fieldAddr 59 (.tmp 24) 0, 0, _, _, none⟩ ?vq8 rfl (by kernel_rfl) (.inl ⟨by rfl, ?hq8⟩) ?rq8
    case hq8 => intro W hSw; go_simp; (try with_reducible rfl)
    try simp only [Act.put, List.setIfInBounds_toArray, List.set_cons_zero, List.set_cons_succ]
    refine tk 8 ⟨some 26, .fieldAddr 57 (.tmp 25) 1, 0, _, _, none⟩ ?vq9 rfl (by kernel_rfl) (.inl ⟨by rfl, ?hq9⟩) ?rq9
    case hq9 => intro W hSw; go_simp; (try with_reducible rfl)
    try simp only [Act.put, List.setIfInBounds_toArray, List.set_cons_zero, List.set_cons_succ]
    refine tk 9 ⟨some 27, .load 24 (.tmp 26), 24, _, _, none⟩ ?vq10 rfl (by kernel_rfl) (.inl ⟨by rfl, ?hq10⟩) ?rq10
    case hq10 => intro W hSw; (try obtain ⟨z0, z1, z2, z3, y0, y1, y2, y3⟩ := HC.out W hSw); go_simp; (try with_reducible rfl)
    try simp only [Act.put, List.setIfInBounds_toArray, List.set_cons_zero, List.set_cons_succ]
    refine wpAnyH_ready (rs := [10]) (by kernel_rfl) (by simp) ?_
    refine AllReadyH.cons (o := ⟨some 28, .call ⟨.value (.func 87), #[.tmp 22, .tmp 27], #[24, 24]⟩, 4, _, _, none⟩) rfl (fun K hK => ?_) AllReadyH.nil
    go_simp
    go_wp2_with (first | (go_at_call 87; refine (HPs.out _ hHeld).mono ?_; rintro r w5 ⟨rfl, b5⟩))
    refine hK.out _ _ (hHeld.trans (Fr.b0 b5) (fun _ h => h.elim)) (fun hHeld => ?_)
    clear hK K
    try simp only [Act.put, List.setIfInBounds_toArray, List.set_cons_zero, List.set_cons_succ]
    refine tk 11 ⟨some 29, .unOp .not 4 (.tmp 28), 4, _, _, none⟩ ?vq11 rfl (by kernel_rfl) (.inl ⟨by rfl, ?hq11⟩) ?rq11
    case hq11 => intro W hSw; go_simp; (try with_reducible rfl)
    try simp only [Act.put, List.setIfInBounds_toArray, List.set_cons_zero, List.set_cons_succ]
    refine tk 12 ⟨some 30, .move (.tmp 29), 4, _, _, none⟩ ?vq12 rfl (by kernel_rfl) (.inl ⟨by rfl, ?hq12⟩) ?rq12
    case hq12 => intro W hSw; go_simp; (try with_reducible rfl)
    try simp only [Act.put, List.setIfInBounds_toArray, List.set_cons_zero, List.set_cons_succ]
    refine tu 13 ⟨some 31, .move (.tmp 0), 34, _, _, some (12, false)⟩ rfl (by kernel_rfl) (by rfl) ?_
    try simp only [Act.put, List.setIfInBounds_toArray, List.set_cons_zero, List.set_cons_succ]
    refine tu 14 ⟨some 32, .nilCheck (.tmp 31), 0, _, _, some (12, false)⟩ rfl (by kernel_rfl) (by rfl) ?_
    try simp only [Act.put, List.setIfInBounds_toArray, List.set_cons_zero, List.set_cons_succ]
    refine tu 15 ⟨some 33, .fieldAddr 59 (.tmp 32) 0, 0, _, _, some (12, false)⟩ rfl (by kernel_rfl) (by rfl) ?_
    try simp only [Act.put, List.setIfInBounds_toArray, List.set_cons_zero, List.set_cons_succ]
    refine tu 16 ⟨some 34, .fieldAddr 57 (.tmp 33) 0, 0, _, _, some (12, false)⟩ rfl (by kernel_rfl) (by rfl) ?_
    try simp only [Act.put, List.setIfInBounds_toArray, List.set_cons_zero, List.set_cons_succ]
    refine tu 17 ⟨some 35, .load 3 (.tmp 34), 3, _, _, some (12, false)⟩ rfl (by kernel_rfl) (by rfl) ?_
    try simp only [Act.put, List.setIfInBounds_toArray, List.set_cons_zero, List.set_cons_succ]
    refine tu 18 ⟨some 36, .move (.tmp 1), 34, _, _, some (12, false)⟩ rfl (by kernel_rfl) (by rfl) ?_
    try simp only [Act.put, List.setIfInBounds_toArray, List.set_cons_zero, List.set_cons_succ]
    refine tu 19 ⟨some 37, .nilCheck (.tmp 36), 0, _, _, some (12, false)⟩ rfl (by kernel_rfl) (by rfl) ?_
    try simp only [Act.put, List.setIfInBounds_toArray, List.set_cons_zero, List.set_cons_succ]
    refine tu 20 ⟨some 38, .fieldAddr 59 (.tmp 37) 0, 0, _, _, some (12, false)⟩ rfl (by kernel_rfl) (by rfl) ?_
    try simp only [Act.put, List.setIfInBounds_toArray, List.set_cons_zero, List.set_cons_succ]
    refine tu 21 ⟨some 39, .fieldAddr 57 (.tmp 38) 0, 0, _, _, some (12, false)⟩ rfl (by kernel_rfl) (by rfl) ?_
    try simp only [Act.put, List.setIfInBounds_toArray, List.set_cons_zero, List.set_cons_succ]
    refine tu 22 ⟨some 40, .load 3 (.tmp 39), 3, _, _, some (12, false)⟩ rfl (by kernel_rfl) (by rfl) ?_
    try simp only [Act.put, List.setIfInBounds_toArray, List.set_cons_zero, List.set_cons_succ]
    refine tu 23 ⟨some 41, .binOp .neq 3 (.tmp 35) (.tmp 40) 3, 4, _, _, some (12, false)⟩ rfl (by kernel_rfl) (by rfl) ?_
    try simp only [Act.put, List.setIfInBounds_toArray, List.set_cons_zero, List.set_cons_succ]
    refine tk 24 ⟨some 42, .pick (.tmp 30) (.const (.bool true)) (.tmp 41), 4, _, _, none⟩ ?vq13 rfl (by kernel_rfl) (.inl ⟨by rfl, ?hq13⟩) ?rq13
    case hq13 => intro W hSw; go_simp; (try with_reducible rfl)
    try simp only [Act.put, List.setIfInBounds_toArray, List.set_cons_zero, List.set_cons_succ]
    refine tk 25 ⟨some 43, .move (.tmp 42), 4, _, _, none⟩ ?vq14 rfl (by kernel_rfl) (.inl ⟨by rfl, ?hq14⟩) ?rq14
    case hq14 => intro W hSw; go_simp; (try with_reducible rfl)
    try simp only [Act.put, List.setIfInBounds_toArray, List.set_cons_zero, List.set_cons_succ]
    refine tu 26 ⟨some 44, .move (.tmp 0), 34, _, _, some (25, false)⟩ rfl (by kernel_rfl) (by rfl) ?_
    try simp only [Act.put, List.setIfInBounds_toArray, List.set_cons_zero, List.set_cons_succ]
    refine tu 27 ⟨some 45, .nilCheck (.tmp 44), 0, _, _, some (25, false)⟩ rfl (by kernel_rfl) (by rfl) ?_
    try simp only [Act.put, List.setIfInBounds_toArray, List.set_cons_zero, List.set_cons_succ]
    refine tu 28 ⟨some 46, .fieldAddr 59 (.tmp 45) 0, 0, _, _, some (25, false)⟩ rfl (by kernel_rfl) (by rfl) ?_
    try simp only [Act.put, List.setIfInBounds_toArray, List.set_cons_zero, List.set_cons_succ]
    refine tu 29 ⟨some 47, .load 57 (.tmp 46), 57, _, _, some (25, false)⟩ rfl (by kernel_rfl) (by rfl) ?_
    try simp only [Act.put, List.setIfInBounds_toArray, List.set_cons_zero, List.set_cons_succ]
    refine tu 30 ⟨some 48, .call ⟨.value (.func 89), #[.tmp 47], #[57]⟩, 43, _, _, some (25, false)⟩ rfl (by kernel_rfl) (by rfl) ?_
    try simp only [Act.put, List.setIfInBounds_toArray, List.set_cons_zero, List.set_cons_succ]
    refine tu 31 ⟨some 49, .move (.tmp 1), 34, _, _, some (25, false)⟩ rfl (by kernel_rfl) (by rfl) ?_
    try simp only [Act.put, List.setIfInBounds_toArray, List.set_cons_zero, List.set_cons_succ]
    refine tu 32 ⟨some 50, .nilCheck (.tmp 49), 0, _, _, some (25, false)⟩ rfl (by kernel_rfl) (by rfl) ?_
    try simp only [Act.put, List.setIfInBounds_toArray, List.set_cons_zero, List.set_cons_succ]
    refine tu 33 ⟨some 51, .fieldAddr 59 (.tmp 50) 0, 0, _, _, some (25, false)⟩ rfl (by kernel_rfl) (by rfl) ?_
    try simp only [Act.put, List.setIfInBounds_toArray, List.set_cons_zero, List.set_cons_succ]
    refine tu 34 ⟨some 52, .load 57 (.tmp 51), 57, _, _, some (25, false)⟩ rfl (by kernel_rfl) (by rfl) ?_
    try simp only [Act.put, List.setIfInBounds_toArray, List.set_cons_zero, List.set_cons_succ]
    refine tu 35 ⟨some 53, .call ⟨.value (.func 89), #[.tmp 52], #[57]⟩, 43, _, _, some (25, false)⟩ rfl (by kernel_rfl) (by rfl) ?_
    try simp only [Act.put, List.setIfInBounds_toArray, List.set_cons_zero, List.set_cons_succ]
    refine tu 36 ⟨some 54, .call ⟨.value (.func 88), #[.tmp 48, .tmp 53], #[43, 43]⟩, 4, _, _, some (25, false)⟩ rfl (by kernel_rfl) (by rfl) ?_
    try simp only [Act.put, List.setIfInBounds_toArray, List.set_cons_zero, List.set_cons_succ]
    refine tu 37 ⟨some 55, .unOp .not 4 (.tmp 54), 4, _, _, some (25, false)⟩ rfl (by kernel_rfl) (by rfl) ?_
    try simp only [Act.put, List.setIfInBounds_toArray, List.set_cons_zero, List.set_cons_succ]
    refine tk 38 ⟨some 56, .pick (.tmp 43) (.const (.bool true)) (.tmp 55), 4, _, _, none⟩ ?vq15 rfl (by kernel_rfl) (.inl ⟨by rfl, ?hq15⟩) ?rq15
    case hq15 => intro W hSw; go_simp; (try with_reducible rfl)
    try simp only [Act.put, List.setIfInBounds_toArray, List.set_cons_zero, List.set_cons_succ]
    refine wpAnyH_done (by kernel_rfl) ?_ _
    go_wp2_with fail
    go_ret
    exact ⟨by rw [hS.out]; rfl, hHeld.below (fun _ h => h.elim)⟩
  | true =>
    have hlen : lx = ly := HTl.out rfl
    subst hlen
    by_cases hnow : nx = ny
    · subst hnow
      cases EF with
      | false =>
        have hS : Hid (SX = false) := by show _ = _; rw [HS2.out]; simp
        go_enter Tryz.func33, Tryz.ntmps33
        go_wp2_with fail
        refine wp_region_held_drew (S := fun W => Fr (fun _ => False) w W) (by kernel_rfl) ((Fr.refl _ w).drew) (fun hHeld => ?_)
        refine tk 0 ⟨some 18, .move (.tmp 0), 34, _, _, none⟩ ?vq16 rfl (by kernel_rfl) (.inl ⟨by rfl, ?hq16⟩) ?rq16
        case hq16 => intro W hSw; go_simp; (try with_reducible rfl)
        try simp only [Act.put, List.setIfInBounds_toArray, List.set_cons_zero, List.set_cons_succ]
        refine tk 1 ⟨some 19, .nilCheck (.tmp 18), 0, _, _, none⟩ ?vq17 rfl (by kernel_rfl) (.inl ⟨by rfl, ?hq17⟩) ?rq17
        case hq17 => intro W hSw; go_simp; (try with_reducible rfl)
        try simp only [Act.put, List.setIfInBounds_toArray, List.set_cons_zero, List.set_cons_succ]
        refine tk 2 ⟨some 20, .fieldAddr 59 (.tmp 19) 0, 0, _, _, none⟩ ?vq18 rfl (by kernel_rfl) (.inl ⟨by rfl, ?hq18⟩) ?rq18
        case hq18 => intro W hSw; go_simp; (try with_reducible rfl)
        try simp only [Act.put, List.setIfInBounds_toArray, List.set_cons_zero, List.set_cons_succ]
        refine tk 3 ⟨some 21, .fieldAddr 57 (.tmp 20) 1, 0, _, _, none⟩ ?vq19 rfl (by kernel_rfl) (.inl ⟨by rfl, ?hq19⟩) ?rq19
        case hq19 => intro W hSw; go_simp; (try with_reducible rfl)
        try simp only [Act.put, List.setIfInBounds_toArray, List.set_cons_zero, List.set_cons_succ]
        refine tk 4 ⟨some 22, .load 24 (.tmp 21), 24, _, _, none⟩ ?vq20 rfl (by kernel_rfl) (.inl ⟨by rfl, ?hq20⟩) ?rq20
        case hq20 => intro W hSw; (try obtain ⟨z0, z1, z2, z3, y0, y1, y2, y3⟩ := HC.out W hSw); go_simp; (try with_reducible rfl)
        try simp only [Act.put, List.setIfInBounds_toArray, List.set_cons_zero, List.set_cons_succ]
        refine tk 5 ⟨some 23, .move (.tmp 1), 34, _, _, none⟩ ?vq21 rfl (by kernel_rfl) (.inl ⟨by rfl, ?hq21⟩) ?rq21
        case hq21 => intro W hSw; go_simp; (try with_reducible rfl)
        try simp only [Act.put, List.setIfInBounds_toArray, List.set_cons_zero, List.set_cons_succ]
        refine tk 6 ⟨some 24, .nilCheck (.tmp 23), 0, _, _, none⟩ ?vq22 rfl (by kernel_rfl) (.inl ⟨by rfl, ?hq22⟩) ?rq22
        case hq22 => intro W hSw; go_simp; (try with_reducible rfl)
        try simp only [Act.put, List.setIfInBounds_toArray, List.set_cons_zero, List.set_cons_succ]
        refine tk 7 ⟨some 25, .fieldAddr 59 (.tmp 24) 0, 0, _, _, none⟩ ?vq23 rfl (by kernel_rfl) (.inl ⟨by rfl, ?hq23⟩) ?rq23
        case hq23 => intro W hSw; go_simp; (try with_reducible rfl)
        try simp only [Act.put, List.setIfInBounds_toArray, List.set_cons_zero, List.set_cons_succ]
        refine tk 8 ⟨some 26, .fieldAddr 57 (.tmp 25) 1, 0, _, _, none⟩ ?vq24 rfl (by kernel_rfl) (.inl ⟨by rfl, ?hq24⟩) ?rq24
        case hq24 => intro W hSw; go_simp; (try with_reducible rfl)
        try simp only [Act.put, List.setIfInBounds_toArray, List.set_cons_zero, List.set_cons_succ]
        refine tk 9 ⟨some 27, .load 24 (.tmp 26), 24, _, _, none⟩ ?vq25 rfl (by kernel_rfl) (.inl ⟨by rfl, ?hq25⟩) ?rq25
        case hq25 => intro W hSw; (try obtain ⟨z0, z1, z2, z3, y0, y1, y2, y3⟩ := HC.out W hSw); go_simp; (try with_reducible rfl)
        try simp only [Act.put, List.setIfInBounds_toArray, List.set_cons_zero, List.set_cons_succ]
        refine wpAnyH_ready (rs := [10]) (by kernel_rfl) (by simp) ?_
        refine AllReadyH.cons (o := ⟨some 28, .call ⟨.value (.func 87), #[.tmp 22, .tmp 27], #[24, 24]⟩, 4, _, _, none⟩) rfl (fun K hK => ?_) AllReadyH.nil
        go_simp
        go_wp2_with (first | (go_at_call 87; refine (HPs.out _ hHeld).mono ?_; rintro r w5 ⟨rfl, b5⟩))
        refine hK.out _ _ (hHeld.trans (Fr.b0 b5) (fun _ h => h.elim)) (fun hHeld => ?_)
        clear hK K
        try simp only [Act.put, List.setIfInBounds_toArray, List.set_cons_zero, List.set_cons_succ]
        refine tk 11 ⟨some 29, .unOp .not 4 (.tmp 28), 4, _, _, none⟩ ?vq26 rfl (by kernel_rfl) (.inl ⟨by rfl, ?hq26⟩) ?rq26
        case hq26 => intro W hSw; go_simp; (try with_reducible rfl)
        try simp only [Act.put, List.setIfInBounds_toArray, List.set_cons_zero, List.set_cons_succ]
        refine tk 12 ⟨some 30, .move (.tmp 29), 4, _, _, none⟩ ?vq27 rfl (by kernel_rfl) (.inl ⟨by rfl, ?hq27⟩) ?rq27
        case hq27 => intro W hSw; go_simp; (try with_reducible rfl)
        try simp only [Act.put, List.setIfInBounds_toArray, List.set_cons_zero, List.set_cons_succ]
        refine tk 13 ⟨some 31, .move (.tmp 0), 34, _, _, some (12, false)⟩ ?vq28 rfl (by kernel_rfl) (.inl ⟨by rfl, ?hq28⟩) ?rq28
        case hq28 => intro W hSw; go_simp; (try with_reducible rfl)
        try simp only [Act.put, List.setIfInBounds_toArray, List.set_cons_zero, List.set_cons_succ]
        refine tk 14 ⟨some 32, .nilCheck (.tmp 31), 0, _, _, some (12, false)⟩ ?vq29 rfl (by kernel_rfl) (.inl ⟨by rfl, ?hq29⟩) ?rq29
        case hq29 => intro W hSw; go_simp; (try with_reducible rfl)
        try simp only [Act.put, List.setIfInBounds_toArray, List.set_cons_zero, List.set_cons_succ]
        refine tk 15 ⟨some 33, .fieldAddr 59 (.tmp 32) 0, 0, _, _, some (12, false)⟩ ?vq30 rfl (by kernel_rfl) (.inl ⟨by rfl, ?hq30⟩) ?rq30
        case hq30 => intro W hSw; go_simp; (try with_reducible rfl)
        try simp only [Act.put, List.setIfInBounds_toArray, List.set_cons_zero, List.set_cons_succ]
        refine tk 16 ⟨some 34, .fieldAddr 57 (.tmp 33) 0, 0, _, _, some (12, false)⟩ ?vq31 rfl (by kernel_rfl) (.inl ⟨by rfl, ?hq31⟩) ?rq31
        case hq31 => intro W hSw; go_simp; (try with_reducible rfl)
        try simp only [Act.put, List.setIfInBounds_toArray, List.set_cons_zero, List.set_cons_succ]
        refine tk 17 ⟨some 35, .load 3 (.tmp 34), 3, _, _, some (12, false)⟩ ?vq32 rfl (by kernel_rfl) (.inl ⟨by rfl, ?hq32⟩) ?rq32
        case hq32 => intro W hSw; (try obtain ⟨z0, z1, z2, z3, y0, y1, y2, y3⟩ := HC.out W hSw); go_simp; (try with_reducible rfl)
        try simp only [Act.put, List.setIfInBounds_toArray, List.set_cons_zero, List.set_cons_succ]
        refine tk 18 ⟨some 36, .move (.tmp 1), 34, _, _, some (12, false)⟩ ?vq33 rfl (by kernel_rfl) (.inl ⟨by rfl, ?hq33⟩) ?rq33
        case hq33 => intro W hSw; go_simp; (try with_reducible rfl)
        try simp only [Act.put, List.setIfInBounds_toArray, List.set_cons_zero, List.set_cons_succ]
        refine tk 19 ⟨some 37, .nilCheck (.tmp 36), 0, _, _, some (12, false)⟩ ?vq34 rfl (by kernel_rfl) (.inl ⟨by rfl, ?hq34⟩) ?rq34
        case hq34 => intro W hSw; go_simp; (try with_reducible rfl)
        try simp only [Act.put, List.setIfInBounds_toArray, List.set_cons_zero, List.set_cons_succ]
        refine tk 20 ⟨some 38, .fieldAddr 59 (.tmp 37) 0, 0, _, _, some (12, false)⟩ ?vq35 rfl (by kernel_rfl) (.inl ⟨by rfl, ?hq35⟩) ?rq35
        case hq35 => intro W hSw; go_simp; (try with_reducible rfl)
        try simp only [Act.put, List.setIfInBounds_toArray, List.set_cons_zero, List.set_cons_succ]
        refine tk 21 ⟨some 39, .fieldAddr 57 (.tmp 38) 0, 0, _, _, some (12, false)⟩ ?vq36 rfl (by kernel_rfl) (.inl ⟨by rfl, ?hq36⟩) ?rq36
        case hq36 => intro W hSw; go_simp; (try with_reducible rfl)
        try simp only [Act.put, List.setIfInBounds_toArray, List.set_cons_zero, List.set_cons_succ]
        refine tk 22 ⟨some 40, .load 3 (.tmp 39), 3, _, _, some (12, false)⟩ ?vq37 rfl (by kernel_rfl) (.inl ⟨by rfl, ?hq37⟩) ?rq37
        case hq37 => intro W hSw; (try obtain ⟨z0, z1, z2, z3, y0, y1, y2, y3⟩ := HC.out W hSw); go_simp; (try with_reducible rfl)
        try simp only [Act.put, List.setIfInBounds_toArray, List.set_cons_zero, List.set_cons_succ]
        refine tk 23 ⟨some 41, .binOp .neq 3 (.tmp 35) (.tmp 40) 3, 4, _, _, some (12, false)⟩ ?vq38 rfl (by kernel_rfl) (.inl ⟨by rfl, ?hq38⟩) ?rq38
        case hq38 => intro W hSw; (try obtain ⟨z0, z1, z2, z3, y0, y1, y2, y3⟩ := HC.out W hSw); go_simp; (try with_reducible rfl)
        try simp only [Act.put, List.setIfInBounds_toArray, List.set_cons_zero, List.set_cons_succ]
        refine tk 24 ⟨some 42, .pick (.tmp 30) (.const (.bool true)) (.tmp 41), 4, _, _, none⟩ ?vq39 rfl (by kernel_rfl) (.inl ⟨by rfl, ?hq39⟩) ?rq39
        case hq39 => intro W hSw; go_simp; (try with_reducible rfl)
        try simp only [Act.put, List.setIfInBounds_toArray, List.set_cons_zero, List.set_cons_succ]
        refine tk 25 ⟨some 43, .move (.tmp 42), 4, _, _, none⟩ ?vq40 rfl (by kernel_rfl) (.inl ⟨by rfl, ?hq40⟩) ?rq40
        case hq40 => intro W hSw; go_simp; (try with_reducible rfl)
        try simp only [Act.put, List.setIfInBounds_toArray, List.set_cons_zero, List.set_cons_succ]
        refine tk 26 ⟨some 44, .move (.tmp 0), 34, _, _, some (25, false)⟩ ?vq41 rfl (by kernel_rfl) (.inl ⟨by rfl, ?hq41⟩) ?rq41
        case hq41 => intro W hSw; go_simp; (try with_reducible rfl)
        try simp only [Act.put, List.setIfInBounds_toArray, List.set_cons_zero, List.set_cons_succ]
        refine tk 27 ⟨some 45, .nilCheck (.tmp 44), 0, _, _, some (25, false)⟩ ?vq42 rfl (by kernel_rfl) (.inl ⟨by rfl, ?hq42⟩) ?rq42
        case hq42 => intro W hSw; go_simp; (try with_reducible rfl)
        try simp only [Act.put, List.setIfInBounds_toArray, List.set_cons_zero, List.set_cons_succ]
        refine tk 28 ⟨some 46, .fieldAddr 59 (.tmp 45) 0, 0, _, _, some (25, false)⟩ ?vq43 rfl (by kernel_rfl) (.inl ⟨by rfl, ?hq43⟩) ?rq43
        case hq43 => intro W hSw; go_simp; (try with_reducible rfl)
        try simp only [Act.put, List.setIfInBounds_toArray, List.set_cons_zero, List.set_cons_succ]
        refine tk 29 ⟨some 47, .load 57 (.tmp 46), 57, _, _, some (25, false)⟩ ?vq44 rfl (by kernel_rfl) (.inl ⟨by rfl, ?hq44⟩) ?rq44
        case hq44 => intro W hSw; (try obtain ⟨z0, z1, z2, z3, y0, y1, y2, y3⟩ := HC.out W hSw); go_simp; (try with_reducible rfl)
        try simp only [Act.put, List.setIfInBounds_toArray, List.set_cons_zero, List.set_cons_succ]
        refine tk 31 ⟨some 49, .move (.tmp 1), 34, _, _, some (25, false)⟩ ?vq45 rfl (by kernel_rfl) (.inl ⟨by rfl, ?hq45⟩) ?rq45
        case hq45 => intro W hSw; go_simp; (try with_reducible rfl)
        try simp only [Act.put, List.setIfInBounds_toArray, List.set_cons_zero, List.set_cons_succ]
        refine tk 32 ⟨some 50, .nilCheck (.tmp 49), 0, _, _, some (25, false)⟩ ?vq46 rfl (by kernel_rfl) (.inl ⟨by rfl, ?hq46⟩) ?rq46
        case hq46 => intro W hSw; go_simp; (try with_reducible rfl)
        try simp only [Act.put, List.setIfInBounds_toArray, List.set_cons_zero, List.set_cons_succ]
        refine tk 33 ⟨some 51, .fieldAddr 59 (.tmp 50) 0, 0, _, _, some (25, false)⟩ ?vq47 rfl (by kernel_rfl) (.inl ⟨by rfl, ?hq47⟩) ?rq47
        case hq47 => intro W hSw; go_simp; (try with_reducible rfl)
        try simp only [Act.put, List.setIfInBounds_toArray, List.set_cons_zero, List.set_cons_succ]
        refine tk 34 ⟨some 52, .load 57 (.tmp 51), 57, _, _, some (25, false)⟩ ?vq48 rfl (by kernel_rfl) (.inl ⟨by rfl, ?hq48⟩) ?rq48
        case hq48 => intro W hSw; (try obtain ⟨z0, z1, z2, z3, y0, y1, y2, y3⟩ := HC.out W hSw); go_simp; (try with_reducible rfl)
        try simp only [Act.put, List.setIfInBounds_toArray, List.set_cons_zero, List.set_cons_succ]
        refine wpAnyH_ready (rs := [30]) (by kernel_rfl) (by simp) ?_
        refine AllReadyH.cons (o := ⟨some 48, .call ⟨.value (.func 89), #[.tmp 47], #[57]⟩, 43, _, _, some (25, false)⟩) rfl (fun K hK => ?_) AllReadyH.nil
        go_simp
        go_wp2_with (first | (go_at_call 89; refine (HA1.out _ hHeld).mono ?_; rintro r w6 ⟨⟨R6, c6, rfl, r6⟩, b6⟩))
        refine hK.out _ _ (hHeld.trans (Fr.b0 b6) (fun _ h => h.elim)) (fun hHeld => ?_)
        clear hK K
        try simp only [Act.put, List.setIfInBounds_toArray, List.set_cons_zero, List.set_cons_succ]
        refine wpAnyH_ready (rs := [35]) (by kernel_rfl) (by simp) ?_
        refine AllReadyH.cons (o := ⟨some 53, .call ⟨.value (.func 89), #[.tmp 52], #[57]⟩, 43, _, _, some (25, false)⟩) rfl (fun K hK => ?_) AllReadyH.nil
        go_simp
        go_wp2_with (first | (go_at_call 89; refine (HA2.out _ hHeld).mono ?_; rintro r w7 ⟨⟨R7, c7, rfl, r7⟩, b7⟩))
        refine hK.out _ _ (hHeld.trans (Fr.b0 b7) (fun _ h => h.elim)) (fun hHeld => ?_)
        clear hK K
        try simp only [Act.put, List.setIfInBounds_toArray, List.set_cons_zero, List.set_cons_succ]
        refine wpAnyH_ready (rs := [36]) (by kernel_rfl) (by simp) ?_
        refine AllReadyH.cons (o := ⟨some 54, .call ⟨.value (.func 88), #[.tmp 48, .tmp 53], #[43, 43]⟩, 4, _, _, some (25, false)⟩) rfl (fun K hK => ?_) AllReadyH.nil
        go_simp
        go_wp2_with (first | (go_at_call 88; refine (HQI.out _ R6 c6 R7 c7 (r6.fr0 (Fr.b0 b7)) r7).mono ?_; rintro r w8 ⟨rfl, b8⟩))
        refine hK.out _ _ (hHeld.trans (Fr.b0 b8) (fun _ h => h.elim)) (fun hHeld => ?_)
        clear hK K
        try simp only [Act.put, List.setIfInBounds_toArray, List.set_cons_zero, List.set_cons_succ]
        refine tk 37 ⟨some 55, .unOp .not 4 (.tmp 54), 4, _, _, some (25, false)⟩ ?vq49 rfl (by kernel_rfl) (.inl ⟨by rfl, ?hq49⟩) ?rq49
        case hq49 => intro W hSw; go_simp; (try with_reducible rfl)
        try simp only [Act.put, List.setIfInBounds_toArray, List.set_cons_zero, List.set_cons_succ]
        refine tk 38 ⟨some 56, .pick (.tmp 43) (.const (.bool true)) (.tmp 55), 4, _, _, none⟩ ?vq50 rfl (by kernel_rfl) (.inl ⟨by rfl, ?hq50⟩) ?rq50
        case hq50 => intro W hSw; go_simp; (try with_reducible rfl)
        try simp only [Act.put, List.setIfInBounds_toArray, List.set_cons_zero, List.set_cons_succ]
        refine wpAnyH_done (by kernel_rfl) ?_ _
        go_wp2_with fail
        go_ret
        exact ⟨by rw [hS.out]; rfl, hHeld.below (fun _ h => h.elim)⟩
      | true =>
        have hS : Hid (SX = decide (X.tabs = Y.tabs)) := by show _ = _; rw [HS2.out]; simp
        go_enter Tryz.func33, Tryz.ntmps33
        go_wp2_with fail
        refine wp_region_held_drew (S := fun W => Fr (fun _ => False) w W) (by kernel_rfl) ((Fr.refl _ w).drew) (fun hHeld => ?_)
        refine tk 0 ⟨some 18, .move (.tmp 0), 34, _, _, none⟩ ?vq51 rfl (by kernel_rfl) (.inl ⟨by rfl, ?hq51⟩) ?rq51
        case hq51 => intro W hSw; go_simp; (try with_reducible rfl)
        try simp only [Act.put, List.setIfInBounds_toArray, List.set_cons_zero, List.set_cons_succ]
        refine tk 1 ⟨some 19, .nilCheck (.tmp 18), 0, _, _, none⟩ ?vq52 rfl (by kernel_rfl) (.inl ⟨by rfl, ?hq52⟩) ?rq52
        case hq52 => intro W hSw; go_simp; (try with_reducible rfl)
        try simp only [Act.put, List.setIfInBounds_toArray, List.set_cons_zero, List.set_cons_succ]
        refine tk 2 ⟨some 20, .fieldAddr 59 (.tmp 19) 0, 0, _, _, none⟩ ?vq53 rfl (by kernel_rfl) (.inl ⟨by rfl, ?hq53⟩) ?rq53
        case hq53 => intro W hSw; go_simp; (try with_reducible rfl)
        try simp only [Act.put, List.setIfInBounds_toArray, List.set_cons_zero, List.set_cons_succ]
        refine tk 3 ⟨some 21, .fieldAddr 57 (.tmp 20) 1, 0, _, _, none⟩ ?vq54 rfl (by kernel_rfl) (.inl ⟨by rfl, ?hq54⟩) ?rq54
        case hq54 => intro W hSw; go_simp; (try with_reducible rfl)
        try simp only [Act.put, List.setIfInBounds_toArray, List.set_cons_zero, List.set_cons_succ]
        refine tk 4 ⟨some 22, .load 24 (.tmp 21), 24, _, _, none⟩ ?vq55 rfl (by kernel_rfl) (.inl ⟨by rfl, ?hq55⟩) ?rq55
        case hq55 => intro W hSw; (try obtain ⟨z0, z1, z2, z3, y0, y1, y2, y3⟩ := HC.out W hSw); go_simp; (try with_reducible rfl)
        try simp only [Act.put, List.setIfInBounds_toArray, List.set_cons_zero, List.set_cons_succ]
        refine tk 5 ⟨some 23, .move (.tmp 1), 34, _, _, none⟩ ?vq56 rfl (by kernel_rfl) (.inl ⟨by rfl, ?hq56⟩) ?rq56
        case hq56 => intro W hSw; go_simp; (try with_reducible rfl)
        try simp only [Act.put, List.setIfInBounds_toArray, List.set_cons_zero, List.set_cons_succ]
        refine tk 6 ⟨some 24, .nilCheck (.tmp 23), 0, _, _, none⟩ ?vq57 rfl (by kernel_rfl) (.inl ⟨by rfl, ?hq57⟩) ?rq57
        case hq57 => intro W hSw; go_simp; (try with_reducible rfl)
        try simp only [Act.put, List.setIfInBounds_toArray, List.set_cons_zero, List.set_cons_succ]
        refine tk 7 ⟨some 25, .fieldAddr 59 (.tmp 24) 0, 0, _, _, none⟩ ?vq58 rfl (by kernel_rfl) (.inl ⟨by rfl, ?hq58⟩) ?rq58
        case hq58 => intro W hSw; go_simp; (try with_reducible rfl)
        try simp only [Act.put, List.setIfInBounds_toArray, List.set_cons_zero, List.set_cons_succ]
        refine tk 8 ⟨some 26, .fieldAddr 57 (.tmp 25) 1, 0, _, _, none⟩ ?vq59 rfl (by kernel_rfl) (.inl ⟨by rfl, ?hq59⟩) ?rq59
        case hq59 => intro W hSw; go_simp; (try with_reducible rfl)
        try simp only [Act.put, List.setIfInBounds_toArray, List.set_cons_zero, List.set_cons_succ]
        refine tk 9 ⟨some 27, .load 24 (.tmp 26), 24, _, _, none⟩ ?vq60 rfl (by kernel_rfl) (.inl ⟨by rfl, ?hq60⟩) ?rq60
        case hq60 => intro W hSw; (try obtain ⟨z0, z1, z2, z3, y0, y1, y2, y3⟩ := HC.out W hSw); go_simp; (try with_reducible rfl)
        try simp only [Act.put, List.setIfInBounds_toArray, List.set_cons_zero, List.set_cons_succ]
        refine wpAnyH_ready (rs := [10]) (by kernel_rfl) (by simp) ?_
        refine AllReadyH.cons (o := ⟨some 28, .call ⟨.value (.func 87), #[.tmp 22, .tmp 27], #[24, 24]⟩, 4, _, _, none⟩) rfl (fun K hK => ?_) AllReadyH.nil
        go_simp
        go_wp2_with (first | (go_at_call 87; refine (HPs.out _ hHeld).mono ?_; rintro r w5 ⟨rfl, b5⟩))
        refine hK.out _ _ (hHeld.trans (Fr.b0 b5) (fun _ h => h.elim)) (fun hHeld => ?_)
        clear hK K
        try simp only [Act.put, List.setIfInBounds_toArray, List.set_cons_zero, List.set_cons_succ]
        refine tk 11 ⟨some 29, .unOp .not 4 (.tmp 28), 4, _, _, none⟩ ?vq61 rfl (by kernel_rfl) (.inl ⟨by rfl, ?hq61⟩) ?rq61
        case hq61 => intro W hSw; go_simp; (try with_reducible rfl)
        try simp only [Act.put, List.setIfInBounds_toArray, List.set_cons_zero, List.set_cons_succ]
        refine tk 12 ⟨some 30, .move (.tmp 29), 4, _, _, none⟩ ?vq62 rfl (by kernel_rfl) (.inl ⟨by rfl, ?hq62⟩) ?rq62
        case hq62 => intro W hSw; go_simp; (try with_reducible rfl)
        try simp only [Act.put, List.setIfInBounds_toArray, List.set_cons_zero, List.set_cons_succ]
        refine tk 13 ⟨some 31, .move (.tmp 0), 34, _, _, some (12, false)⟩ ?vq63 rfl (by kernel_rfl) (.inl ⟨by rfl, ?hq63⟩) ?rq63
        case hq63 => intro W hSw; go_simp; (try with_reducible rfl)
        try simp only [Act.put, List.setIfInBounds_toArray, List.set_cons_zero, List.set_cons_succ]
        refine tk 14 ⟨some 32, .nilCheck (.tmp 31), 0, _, _, some (12, false)⟩ ?vq64 rfl (by kernel_rfl) (.inl ⟨by rfl, ?hq64⟩) ?rq64
        case hq64 => intro W hSw; go_simp; (try with_reducible rfl)
        try simp only [Act.put, List.setIfInBounds_toArray, List.set_cons_zero, List.set_cons_succ]
        refine tk 15 ⟨some 33, .fieldAddr 59 (.tmp 32) 0, 0, _, _, some (12, false)⟩ ?vq65 rfl (by kernel_rfl) (.inl ⟨by rfl, ?hq65⟩) ?rq65
        case hq65 => intro W hSw; go_simp; (try with_reducible rfl)
        try simp only [Act.put, List.setIfInBounds_toArray, List.set_cons_zero, List.set_cons_succ]
        refine tk 16 ⟨some 34, .fieldAddr 57 (.tmp 33) 0, 0, _, _, some (12, false)⟩ ?vq66 rfl (by kernel_rfl) (.inl ⟨by rfl, ?hq66⟩) ?rq66
        case hq66 => intro W hSw; go_simp; (try with_reducible rfl)
        try simp only [Act.put, List.setIfInBounds_toArray, List.set_cons_zero, List.set_cons_succ]
        refine tk 17 ⟨some 35, .load 3 (.tmp 34), 3, _, _, some (12, false)⟩ ?vq67 rfl (by kernel_rfl) (.inl ⟨by rfl, ?hq67⟩) ?rq67
        case hq67 => intro W hSw; (try obtain ⟨z0, z1, z2, z3, y0, y1, y2, y3⟩ := HC.out W hSw); go_simp; (try with_reducible rfl)
        try simp only [Act.put, List.setIfInBounds_toArray, List.set_cons_zero, List.set_cons_succ]
        refine tk 18 ⟨some 36, .move (.tmp 1), 34, _, _, some (12, false)⟩ ?vq68 rfl (by kernel_rfl) (.inl ⟨by rfl, ?hq68⟩) ?rq68
        case hq68 => intro W hSw; go_simp; (try with_reducible rfl)
        try simp only [Act.put, List.setIfInBounds_toArray, List.set_cons_zero, List.set_cons_succ]
        refine tk 19 ⟨some 37, .nilCheck (.tmp 36), 0, _, _, some (12, false)⟩ ?vq69 rfl (by kernel_rfl) (.inl ⟨by rfl, ?hq69⟩) ?rq69
        case hq69 => intro W hSw; go_simp; (try with_reducible rfl)
        try simp only [Act.put, List.setIfInBounds_toArray, List.set_cons_zero, List.set_cons_succ]
        refine tk 20 ⟨some 38, .fieldAddr 59 (.tmp 37) 0, 0, _, _, some (12, false)⟩ ?vq70 rfl (by kernel_rfl) (.inl ⟨by rfl, ?hq70⟩) ?rq70
        case hq70 => intro W hSw; go_simp; (try with_reducible rfl)
        try simp only [Act.put, List.setIfInBounds_toArray, List.set_cons_zero, List.set_cons_succ]
        refine tk 21 ⟨some 39, .fieldAddr 57 (.tmp 38) 0, 0, _, _, some (12, false)⟩ ?vq71 rfl (by kernel_rfl) (.inl ⟨by rfl, ?hq71⟩) ?rq71
        case hq71 => intro W hSw; go_simp; (try with_reducible rfl)
        try simp only [Act.put, List.setIfInBounds_toArray, List.set_cons_zero, List.set_cons_succ]
        refine tk 22 ⟨some 40, .load 3 (.tmp 39), 3, _, _, some (12, false)⟩ ?vq72 rfl (by kernel_rfl) (.inl ⟨by rfl, ?hq72⟩) ?rq72
        case hq72 => intro W hSw; (try obtain ⟨z0, z1, z2, z3, y0, y1, y2, y3⟩ := HC.out W hSw); go_simp; (try with_reducible rfl)
        try simp only [Act.put, List.setIfInBounds_toArray, List.set_cons_zero, List.set_cons_succ]
        refine tk 23 ⟨some 41, .binOp .neq 3 (.tmp 35) (.tmp 40) 3, 4, _, _, some (12, false)⟩ ?vq73 rfl (by kernel_rfl) (.inl ⟨by rfl, ?hq73⟩) ?rq73
        case hq73 => intro W hSw; (try obtain ⟨z0, z1, z2, z3, y0, y1, y2, y3⟩ := HC.out W hSw); go_simp; (try with_reducible rfl)
        try simp only [Act.put, List.setIfInBounds_toArray, List.set_cons_zero, List.set_cons_succ]
        refine tk 24 ⟨some 42, .pick (.tmp 30) (.const (.bool true)) (.tmp 41), 4, _, _, none⟩ ?vq74 rfl (by kernel_rfl) (.inl ⟨by rfl, ?hq74⟩) ?rq74
        case hq74 => intro W hSw; go_simp; (try with_reducible rfl)
        try simp only [Act.put, List.setIfInBounds_toArray, List.set_cons_zero, List.set_cons_succ]
        refine tk 25 ⟨some 43, .move (.tmp 42), 4, _, _, none⟩ ?vq75 rfl (by kernel_rfl) (.inl ⟨by rfl, ?hq75⟩) ?rq75
        case hq75 => intro W hSw; go_simp; (try with_reducible rfl)
        try simp only [Act.put, List.setIfInBounds_toArray, List.set_cons_zero, List.set_cons_succ]
        refine tk 26 ⟨some 44, .move (.tmp 0), 34, _, _, some (25, false)⟩ ?vq76 rfl (by kernel_rfl) (.inl ⟨by rfl, ?hq76⟩) ?rq76
        case hq76 => intro W hSw; go_simp; (try with_reducible rfl)
        try simp only [Act.put, List.setIfInBounds_toArray, List.set_cons_zero, List.set_cons_succ]
        refine tk 27 ⟨some 45, .nilCheck (.tmp 44), 0, _, _, some (25, false)⟩ ?vq77 rfl (by kernel_rfl) (.inl ⟨by rfl, ?hq77⟩) ?rq77
        case hq77 => intro W hSw; go_simp; (try with_reducible rfl)
        try simp only [Act.put, List.setIfInBounds_toArray, List.set_cons_zero, List.set_cons_succ]
        refine tk 28 ⟨some 46, .fieldAddr 59 (.tmp 45) 0, 0, _, _, some (25, false)⟩ ?vq78 rfl (by kernel_rfl) (.inl ⟨by rfl, ?hq78⟩) ?rq78
        case hq78 => intro W hSw; go_simp; (try with_reducible rfl)
        try simp only [Act.put, List.setIfInBounds_toArray, List.set_cons_zero, List.set_cons_succ]
        refine tk 29 ⟨some 47, .load 57 (.tmp 46), 57, _, _, some (25, false)⟩ ?vq79 rfl (by kernel_rfl) (.inl ⟨by rfl, ?hq79⟩) ?rq79
        case hq79 => intro W hSw; (try obtain ⟨z0, z1, z2, z3, y0, y1, y2, y3⟩ := HC.out W hSw); go_simp; (try with_reducible rfl)
        try simp only [Act.put, List.setIfInBounds_toArray, List.set_cons_zero, List.set_cons_succ]
        refine tk 31 ⟨some 49, .move (.tmp 1), 34, _, _, some (25, false)⟩ ?vq80 rfl (by kernel_rfl) (.inl ⟨by rfl, ?hq80⟩) ?rq80
        case hq80 => intro W hSw; go_simp; (try with_reducible rfl)
        try simp only [Act.put, List.setIfInBounds_toArray, List.set_cons_zero, List.set_cons_succ]
        refine tk 32 ⟨some 50, .nilCheck (.tmp 49), 0, _, _, some (25, false)⟩ ?vq81 rfl (by kernel_rfl) (.inl ⟨by rfl, ?hq81⟩) ?rq81
        case hq81 => intro W hSw; go_simp; (try with_reducible rfl)
        try simp only [Act.put, List.setIfInBounds_toArray, List.set_cons_zero, List.set_cons_succ]
        refine tk 33 ⟨some 51, .fieldAddr 59 (.tmp 50) 0, 0, _, _, some (25, false)⟩ ?vq82 rfl (by kernel_rfl) (.inl ⟨by rfl, ?hq82⟩) ?rq82
        case hq82 => intro W hSw; go_simp; (try with_reducible rfl)
        try simp only [Act.put, List.setIfInBounds_toArray, List.set_cons_zero, List.set_cons_succ]
        refine tk 34 ⟨some 52, .load 57 (.tmp 51), 57, _, _, some (25, false)⟩ ?vq83 rfl (by kernel_rfl) (.inl ⟨by rfl, ?hq83⟩) ?rq83
        case hq83 => intro W hSw; (try obtain ⟨z0, z1, z2, z3, y0, y1, y2, y3⟩ := HC.out W hSw); go_simp; (try with_reducible rfl)
        try simp only [Act.put, List.setIfInBounds_toArray, List.set_cons_zero, List.set_cons_succ]
        refine wpAnyH_ready (rs := [30]) (by kernel_rfl) (by simp) ?_
        refine AllReadyH.cons (o := ⟨some 48, .call ⟨.value (.func 89), #[.tmp 47], #[57]⟩, 43, _, _, some (25, false)⟩) rfl (fun K hK => ?_) AllReadyH.nil
        go_simp
        go_wp2_with (first | (go_at_call 89; refine (HA1.out _ hHeld).mono ?_; rintro r w6 ⟨⟨R6, c6, rfl, r6⟩, b6⟩))
        refine hK.out _ _ (hHeld.trans (Fr.b0 b6) (fun _ h => h.elim)) (fun hHeld => ?_)
        clear hK K
        try simp only [Act.put, List.setIfInBounds_toArray, List.set_cons_zero, List.set_cons_succ]
        refine wpAnyH_ready (rs := [35]) (by kernel_rfl) (by simp) ?_
        refine AllReadyH.cons (o := ⟨some 53, .call ⟨.value (.func 89), #[.tmp 52], #[57]⟩, 43, _, _, some (25, false)⟩) rfl (fun K hK => ?_) AllReadyH.nil
        go_simp
        go_wp2_with (first | (go_at_call 89; refine (HA2.out _ hHeld).mono ?_; rintro r w7 ⟨⟨R7, c7, rfl, r7⟩, b7⟩))
        refine hK.out _ _ (hHeld.trans (Fr.b0 b7) (fun _ h => h.elim)) (fun hHeld => ?_)
        clear hK K
        try simp only [Act.put, List.setIfInBounds_toArray, List.set_cons_zero, List.set_cons_succ]
        refine wpAnyH_ready (rs := [36]) (by kernel_rfl) (by simp) ?_
        refine AllReadyH.cons (o := ⟨some 54, .call ⟨.value (.func 88), #[.tmp 48, .tmp 53], #[43, 43]⟩, 4, _, _, some (25, false)⟩) rfl (fun K hK => ?_) AllReadyH.nil
        go_simp
        go_wp2_with (first | (go_at_call 88; refine (HQI.out _ R6 c6 R7 c7 (r6.fr0 (Fr.b0 b7)) r7).mono ?_; rintro r w8 ⟨rfl, b8⟩))
        refine hK.out _ _ (hHeld.trans (Fr.b0 b8) (fun _ h => h.elim)) (fun hHeld => ?_)
        clear hK K
        try simp only [Act.put, List.setIfInBounds_toArray, List.set_cons_zero, List.set_cons_succ]
        refine tk 37 ⟨some 55, .unOp .not 4 (.tmp 54), 4, _, _, some (25, false)⟩ ?vq84 rfl (by kernel_rfl) (.inl ⟨by rfl, ?hq84⟩) ?rq84
        case hq84 => intro W hSw; go_simp; (try with_reducible rfl)
        try simp only [Act.put, List.setIfInBounds_toArray, List.set_cons_zero, List.set_cons_succ]
        refine tk 38 ⟨some 56, .pick (.tmp 43) (.const (.bool true)) (.tmp 55), 4, _, _, none⟩ ?vq85 rfl (by kernel_rfl) (.inl ⟨by rfl, ?hq85⟩) ?rq85
        case hq85 => intro W hSw; go_simp; (try with_reducible rfl)
        try simp only [Act.put, List.setIfInBounds_toArray, List.set_cons_zero, List.set_cons_succ]
        refine wpAnyH_done (by kernel_rfl) ?_ _
        have F8 := Lib.hid hHeld
        obtain ⟨z0, z1, z2, z3, y0, y1, y2, y3⟩ := HC.out _ hHeld
        clear r6 r7 b5 b6 b7 b8 hHeld y0 y1 y2 y3
        go_wp2_with fail
        go_loopw [64] (fun i wr => ∃ k : Nat, k ≤ lx ∧ i = .int .i64 k ∧ Hid (X.tabs.take k = Y.tabs.take k) ∧ Fr (fun _ => False) w wr) (fun i _ => lx - (intOf i).toNat)
        case atStart => exact ⟨0, Nat.zero_le _, rfl, rfl, F8.out⟩
        case round =>
          obtain ⟨k, hk, rfl, htk, ho⟩ := hrel
          have Ho := Lib.hid ho
          clear ho
          by_cases hlt : k < lx
          · obtain ⟨L, hL⟩ : ∃ L, X.tabs[k]? = some L := ⟨_, List.getElem?_eq_getElem (by rw [Htx.out]; exact hlt)⟩
            obtain ⟨M, hM⟩ : ∃ M, Y.tabs[k]? = some M := ⟨_, List.getElem?_eq_getElem (by rw [Hty.out]; exact hlt)⟩
            have HL := Lib.hid hL
            have HM := Lib.hid hM
            have H1 := Lib.hid (HR1.out wr k L Ho.out hlt hL)
            have H2 := Lib.hid (fun W f => HR2.out W k M f hlt hM)
            have hL6 := Lib.hid (HlX.out L (mem_of_get hL))
            have hM6 := Lib.hid (HlY.out M (mem_of_get hM))
            clear hL hM
            have hkw : IntKind.i64.wrap ((k : Int) + 1) = (k : Int) + 1 := by have := Hn.out; simp [IntKind.wrap, IntKind.signed, IntKind.bits]; omega
            go_wp2_with fail
            refine H1.out.mono ?_
            rintro r wa ⟨⟨Aa, ca, rfl, ra⟩, ba⟩
            have Fa := Lib.hid (Ho.out.trans (Fr.b0 ba) (fun _ h => h.elim))
            have Ra := Lib.hid ra
            clear ra ba
            go_wp2_with fail
            refine (H2.out wa Fa.out).mono ?_
            rintro r wb ⟨⟨Ab, cb, rfl, rb⟩, bb⟩
            have Fb := Lib.hid (Fa.out.trans (Fr.b0 bb) (fun _ h => h.elim))
            have HQ := Lib.hid (eqrecs_any L M Aa L.length ca Ab M.length cb wb (Ra.out.fr0 (Fr.b0 bb)) rb (by have := hL6.out; omega) (by have := hM6.out; omega))
            clear rb bb
            go_wp2_with fail
            refine HQ.out.mono ?_
            rintro r wc ⟨rfl, bc⟩
            have Fc := Lib.hid (Fb.out.trans (Fr.b0 bc) (fun _ h => h.elim))
            clear bc HQ
            by_cases hLM : L = M
            · have hd : decide (L = M) = true := decide_eq_true hLM
              have htk2 : Hid (X.tabs.take (k + 1) = Y.tabs.take (k + 1)) := by show _ = _; rw [take_snoc HL.out, take_snoc HM.out, htk.out, hLM]
              rw [hd]
              clear hLM hd
              go_wp2_with fail
              go_roundw
              case rel => exact ⟨k + 1, by omega, by go_num, htk2.out, Fc.out⟩
              case measure => simp [intOf]; omega
            · have hd : decide (L = M) = false := decide_eq_false hLM
              have hne : Hid (decide (X.tabs = Y.tabs) = false) := by
                refine decide_eq_false fun h => ?_
                have h1 := HL.out
                have h2 := HM.out
                rw [h] at h1
                rw [h1] at h2
                exact hLM (Option.some.inj h2)
              rw [hd]
              clear hLM hd
              go_wp2_with fail
              go_ret
              exact ⟨by rw [hS.out, hne.out]; rfl, Fc.out.below (fun _ h => h.elim)⟩
          · obtain rfl : k = lx := by omega
            have hE : Hid (decide (X.tabs = Y.tabs) = true) := by
              refine decide_eq_true ?_
              have h := htk.out
              rwa [take_all (by rw [Htx.out]; exact Nat.le_refl _), take_all (by rw [Hty.out]; exact Nat.le_refl _)] at h
            go_wp2_with fail
            go_ret
            exact ⟨by rw [hS.out, hE.out]; rfl, Ho.out.below (fun _ h => h.elim)⟩
    · have hS : Hid (SX = false) := by show _ = _; rw [HS2.out, decide_eq_false hnow]; simp
      have hn1 : (nx == ny) = false := by simpa using hnow
      have hn2 : decide (nx = ny) = false := decide_eq_false hnow
      have hn3 : (nx != ny) = true := by simpa using hnow
      go_enter Tryz.func33, Tryz.ntmps33
      go_wp2_with fail
      refine wp_region_held_drew (S := fun W => Fr (fun _ => False) w W) (by kernel_rfl) ((Fr.refl _ w).drew) (fun hHeld => ?_)
      refine tk 0 ⟨some 18, .move (.tmp 0), 34, _, _, none⟩ ?vq86 rfl (by kernel_rfl) (.inl ⟨by rfl, ?hq86⟩) ?rq86
      case hq86 => intro W hSw; go_simp; (try with_reducible rfl)
      try simp only [Act.put, List.setIfInBounds_toArray, List.set_cons_zero, List.set_cons_succ]
      refine tk 1 ⟨some 19, .nilCheck (.tmp 18), 0, _, _, none⟩ ?vq87 rfl (by kernel_rfl) (.inl ⟨by rfl, ?hq87⟩) ?rq87
      case hq87 => intro W hSw; go_simp; (try with_reducible rfl)
      try simp only [Act.put, List.setIfInBounds_toArray, List.set_cons_zero, List.set_cons_succ]
      refine tk 2 ⟨some 20, .fieldAddr 59 (.tmp 19) 0, 0, _, _, none⟩ ?vq88 rfl (by kernel_rfl) (.inl ⟨by rfl, ?hq88⟩) ?rq88
      case hq88 => intro W hSw; go_simp; (try with_reducible rfl)
      try simp only [Act.put, List.setIfInBounds_toArray, List.set_cons_zero, List.set_cons_succ]
      refine tk 3 ⟨some 21, .fieldAddr 57 (.tmp 20) 1, 0, _, _, none⟩ ?vq89 rfl (by kernel_rfl) (.inl ⟨by rfl, ?hq89⟩) ?rq89
      case hq89 => intro W hSw; go_simp; (try with_reducible rfl)
      try simp only [Act.put, List.setIfInBounds_toArray, List.set_cons_zero, List.set_cons_succ]
      refine tk 4 ⟨some 22, .load 24 (.tmp 21), 24, _, _, none⟩ ?vq90 rfl (by kernel_rfl) (.inl ⟨by rfl, ?hq90⟩) ?rq90
      case hq90 => intro W hSw; (try obtain ⟨z0, z1, z2, z3, y0, y1, y2, y3⟩ := HC.out W hSw); go_simp; (try with_reducible rfl)
      try simp only [Act.put, List.setIfInBounds_toArray, List.set_cons_zero, List.set_cons_succ]
      refine tk 5 ⟨some 23, .move (.tmp 1), 34, _, _, none⟩ ?vq91 rfl (by kernel_rfl) (.inl ⟨by rfl, ?hq91⟩) ?rq91
      case hq91 => intro W hSw; go_simp; (try with_reducible rfl)
      try simp only [Act.put, List.setIfInBounds_toArray, List.set_cons_zero, List.set_cons_succ]
      refine tk 6 ⟨some 24, .nilCheck (.tmp 23), 0, _, _, none⟩ ?vq92 rfl (by kernel_rfl) (.inl ⟨by rfl, ?hq92⟩) ?rq92
      case hq92 => intro W hSw; go_simp; (try with_reducible rfl)
      try simp only [Act.put, List.setIfInBounds_toArray, List.set_cons_zero, List.set_cons_succ]
      refine tk 7 ⟨some 25, .fieldAddr 59 (.tmp 24) 0, 0, _, _, none⟩ ?vq93 rfl (by kernel_rfl) (.inl ⟨by rfl, ?hq93⟩) ?rq93
      case hq93 => intro W hSw; go_simp; (try with_reducible rfl)
      try simp only [Act.put, List.setIfInBounds_toArray, List.set_cons_zero, List.set_cons_succ]
      refine tk 8 ⟨some 26, .fieldAddr 57 (.tmp 25) 1, 0, _, _, none⟩ ?vq94 rfl (by kernel_rfl) (.inl ⟨by rfl, ?hq94⟩) ?rq94
      case hq94 => intro W hSw; go_simp; (try with_reducible rfl)
      try simp only [Act.put, List.setIfInBounds_toArray, List.set_cons_zero, List.set_cons_succ]
      refine tk 9 ⟨some 27, .load 24 (.tmp 26), 24, _, _, none⟩ ?vq95 rfl (by kernel_rfl) (.inl ⟨by rfl, ?hq95⟩) ?rq95
      case hq95 => intro W hSw; (try obtain ⟨z0, z1, z2, z3, y0, y1, y2, y3⟩ := HC.out W hSw); go_simp; (try with_reducible rfl)
      try simp only [Act.put, List.setIfInBounds_toArray, List.set_cons_zero, List.set_cons_succ]
      refine wpAnyH_ready (rs := [10]) (by kernel_rfl) (by simp) ?_
      refine AllReadyH.cons (o := ⟨some 28, .call ⟨.value (.func 87), #[.tmp 22, .tmp 27], #[24, 24]⟩, 4, _, _, none⟩) rfl (fun K hK => ?_) AllReadyH.nil
      go_simp
      go_wp2_with (first | (go_at_call 87; refine (HPs.out _ hHeld).mono ?_; rintro r w5 ⟨rfl, b5⟩))
      refine hK.out _ _ (hHeld.trans (Fr.b0 b5) (fun _ h => h.elim)) (fun hHeld => ?_)
      clear hK K
      try simp only [Act.put, List.setIfInBounds_toArray, List.set_cons_zero, List.set_cons_succ]
      refine tk 11 ⟨some 29, .unOp .not 4 (.tmp 28), 4, _, _, none⟩ ?vq96 rfl (by kernel_rfl) (.inl ⟨by rfl, ?hq96⟩) ?rq96
      case hq96 => intro W hSw; go_simp; (try with_reducible rfl)
      try simp only [Act.put, List.setIfInBounds_toArray, List.set_cons_zero, List.set_cons_succ]
      refine tk 12 ⟨some 30, .move (.tmp 29), 4, _, _, none⟩ ?vq97 rfl (by kernel_rfl) (.inl ⟨by rfl, ?hq97⟩) ?rq97
      case hq97 => intro W hSw; go_simp; (try with_reducible rfl)
      try simp only [Act.put, List.setIfInBounds_toArray, List.set_cons_zero, List.set_cons_succ]
      refine tk 13 ⟨some 31, .move (.tmp 0), 34, _, _, some (12, false)⟩ ?vq98 rfl (by kernel_rfl) (.inl ⟨by rfl, ?hq98⟩) ?rq98
      case hq98 => intro W hSw; go_simp; (try with_reducible rfl)
      try simp only [Act.put, List.setIfInBounds_toArray, List.set_cons_zero, List.set_cons_succ]
      refine tk 14 ⟨some 32, .nilCheck (.tmp 31), 0, _, _, some (12, false)⟩ ?vq99 rfl (by kernel_rfl) (.inl ⟨by rfl, ?hq99⟩) ?rq99
      case hq99 => intro W hSw; go_simp; (try with_reducible rfl)
      try simp only [Act.put, List.setIfInBounds_toArray, List.set_cons_zero, List.set_cons_succ]
      refine tk 15 ⟨some 33, .fieldAddr 59 (.tmp 32) 0, 0, _, _, some (12, false)⟩ ?vq100 rfl (by kernel_rfl) (.inl ⟨by rfl, ?hq100⟩) ?rq100
      case hq100 => intro W hSw; go_simp; (try with_reducible rfl)
      try simp only [Act.put, List.setIfInBounds_toArray, List.set_cons_zero, List.set_cons_succ]
      refine tk 16 ⟨some 34, .fieldAddr 57 (.tmp 33) 0, 0, _, _, some (12, false)⟩ ?vq101 rfl (by kernel_rfl) (.inl ⟨by rfl, ?hq101⟩) ?rq101
      case hq101 => intro W hSw; go_simp; (try with_reducible rfl)
      try simp only [Act.put, List.setIfInBounds_toArray, List.set_cons_zero, List.set_cons_succ]
      refine tk 17 ⟨some 35, .load 3 (.tmp 34), 3, _, _, some (12, false)⟩ ?vq102 rfl (by kernel_rfl) (.inl ⟨by rfl, ?hq102⟩) ?rq102
      case hq102 => intro W hSw; (try obtain ⟨z0, z1, z2, z3, y0, y1, y2, y3⟩ := HC.out W hSw); go_simp; (try with_reducible rfl)
      try simp only [Act.put, List.setIfInBounds_toArray, List.set_cons_zero, List.set_cons_succ]
      refine tk 18 ⟨some 36, .move (.tmp 1), 34, _, _, some (12, false)⟩ ?vq103 rfl (by kernel_rfl) (.inl ⟨by rfl, ?hq103⟩) ?rq103
      case hq103 => intro W hSw; go_simp; (try with_reducible rfl)
      try simp only [Act.put, List.setIfInBounds_toArray, List.set_cons_zero, List.set_cons_succ]
      refine tk 19 ⟨some 37, .nilCheck (.tmp 36), 0, _, _, some (12, false)⟩ ?vq104 rfl (by kernel_rfl) (.inl ⟨by rfl, ?hq104⟩) ?rq104
      case hq104 => intro W hSw; go_simp; (try with_reducible rfl)
      try simp only [Act.put, List.setIfInBounds_toArray, List.set_cons_zero, List.set_cons_succ]
      refine tk 20 ⟨some 38, .fieldAddr 59 (.tmp 37) 0, 0, _, _, some (12, false)⟩ ?vq105 rfl (by kernel_rfl) (.inl ⟨by rfl, ?hq105⟩) ?rq105
      case hq105 => intro W hSw; go_simp; (try with_reducible rfl)
      try simp only [Act.put, List.setIfInBounds_toArray, List.set_cons_zero, List.set_cons_succ]
      refine tk 21 ⟨some 39, .fieldAddr 57 (.tmp 38) 0, 0, _, _, some (12, false)⟩ ?vq106 rfl (by kernel_rfl) (.inl ⟨by rfl, ?hq106⟩) ?rq106
      case hq106 => intro W hSw; go_simp; (try with_reducible rfl)
      try simp only [Act.put, List.setIfInBounds_toArray, List.set_cons_zero, List.set_cons_succ]
      refine tk 22 ⟨some 40, .load 3 (.tmp 39), 3, _, _, some (12, false)⟩ ?vq107 rfl (by kernel_rfl) (.inl ⟨by rfl, ?hq107⟩) ?rq107
      case hq107 => intro W hSw; (try obtain ⟨z0, z1, z2, z3, y0, y1, y2, y3⟩ := HC.out W hSw); go_simp; (try with_reducible rfl)
      try simp only [Act.put, List.setIfInBounds_toArray, List.set_cons_zero, List.set_cons_succ]
      refine tk 23 ⟨some 41, .binOp .neq 3 (.tmp 35) (.tmp 40) 3, 4, _, _, some (12, false)⟩ ?vq108 rfl (by kernel_rfl) (.inl ⟨by rfl, ?hq108⟩) ?rq108
      case hq108 => intro W hSw; (try obtain ⟨z0, z1, z2, z3, y0, y1, y2, y3⟩ := HC.out W hSw); go_simp; (try with_reducible rfl)
      try simp only [Act.put, List.setIfInBounds_toArray, List.set_cons_zero, List.set_cons_succ]
      refine tk 24 ⟨some 42, .pick (.tmp 30) (.const (.bool true)) (.tmp 41), 4, _, _, none⟩ ?vq109 rfl (by kernel_rfl) (.inl ⟨by rfl, ?hq109⟩) ?rq109
      case hq109 => intro W hSw; go_simp; (try with_reducible rfl)
      try simp only [Act.put, List.setIfInBounds_toArray, List.set_cons_zero, List.set_cons_succ]
      refine tk 25 ⟨some 43, .move (.tmp 42), 4, _, _, none⟩ ?vq110 rfl (by kernel_rfl) (.inl ⟨by rfl, ?hq110⟩) ?rq110
      case hq110 => intro W hSw; go_simp; (try with_reducible rfl)
      try simp only [Act.put, List.setIfInBounds_toArray, List.set_cons_zero, List.set_cons_succ]
      refine tu 26 ⟨some 44, .move (.tmp 0), 34, _, _, some (25, false)⟩ rfl (by kernel_rfl) (by rfl) ?_
      try simp only [Act.put, List.setIfInBounds_toArray, List.set_cons_zero, List.set_cons_succ]
      refine tu 27 ⟨some 45, .nilCheck (.tmp 44), 0, _, _, some (25, false)⟩ rfl (by kernel_rfl) (by rfl) ?_
      try simp only [Act.put, List.setIfInBounds_toArray, List.set_cons_zero, List.set_cons_succ]
      refine tu 28 ⟨some 46, .fieldAddr 59 (.tmp 45) 0, 0, _, _, some (25, false)⟩ rfl (by kernel_rfl) (by rfl) ?_
      try simp only [Act.put, List.setIfInBounds_toArray, List.set_cons_zero, List.set_cons_succ]
      refine tu 29 ⟨some 47, .load 57 (.tmp 46), 57, _, _, some (25, false)⟩ rfl (by kernel_rfl) (by rfl) ?_
      try simp only [Act.put, List.setIfInBounds_toArray, List.set_cons_zero, List.set_cons_succ]
      refine tu 30 ⟨some 48, .call ⟨.value (.func 89), #[.tmp 47], #[57]⟩, 43, _, _, some (25, false)⟩ rfl (by kernel_rfl) (by rfl) ?_
      try simp only [Act.put, List.setIfInBounds_toArray, List.set_cons_zero, List.set_cons_succ]
      refine tu 31 ⟨some 49, .move (.tmp 1), 34, _, _, some (25, false)⟩ rfl (by kernel_rfl) (by rfl) ?_
      try simp only [Act.put, List.setIfInBounds_toArray, List.set_cons_zero, List.set_cons_succ]
      refine tu 32 ⟨some 50, .nilCheck (.tmp 49), 0, _, _, some (25, false)⟩ rfl (by kernel_rfl) (by rfl) ?_
      try simp only [Act.put, List.setIfInBounds_toArray, List.set_cons_zero, List.set_cons_succ]
      refine tu 33 ⟨some 51, .fieldAddr 59 (.tmp 50) 0, 0, _, _, some (25, false)⟩ rfl (by kernel_rfl) (by rfl) ?_
      try simp only [Act.put, List.setIfInBounds_toArray, List.set_cons_zero, List.set_cons_succ]
      refine tu 34 ⟨some 52, .load 57 (.tmp 51), 57, _, _, some (25, false)⟩ rfl (by kernel_rfl) (by rfl) ?_
      try simp only [Act.put, List.setIfInBounds_toArray, List.set_cons_zero, List.set_cons_succ]
      refine tu 35 ⟨some 53, .call ⟨.value (.func 89), #[.tmp 52], #[57]⟩, 43, _, _, some (25, false)⟩ rfl (by kernel_rfl) (by rfl) ?_
      try simp only [Act.put, List.setIfInBounds_toArray, List.set_cons_zero, List.set_cons_succ]
      refine tu 36 ⟨some 54, .call ⟨.value (.func 88), #[.tmp 48, .tmp 53], #[43, 43]⟩, 4, _, _, some (25, false)⟩ rfl (by kernel_rfl) (by rfl) ?_
      try simp only [Act.put, List.setIfInBounds_toArray, List.set_cons_zero, List.set_cons_succ]
      refine tu 37 ⟨some 55, .unOp .not 4 (.tmp 54), 4, _, _, some (25, false)⟩ rfl (by kernel_rfl) (by rfl) ?_
      try simp only [Act.put, List.setIfInBounds_toArray, List.set_cons_zero, List.set_cons_succ]
      refine tk 38 ⟨some 56, .pick (.tmp 43) (.const (.bool true)) (.tmp 55), 4, _, _, none⟩ ?vq111 rfl (by kernel_rfl) (.inl ⟨by rfl, ?hq111⟩) ?rq111
      case hq111 => intro W hSw; go_simp; (try with_reducible rfl)
      try simp only [Act.put, List.setIfInBounds_toArray, List.set_cons_zero, List.set_cons_succ]
      refine wpAnyH_done (by kernel_rfl) ?_ _
      go_wp2_with fail
      go_ret
      exact ⟨by rw [hS.out]; rfl, hHeld.below (fun _ h => h.elim)⟩
end Go.Proofs.YtfhhepfkjndkgaaGreat
