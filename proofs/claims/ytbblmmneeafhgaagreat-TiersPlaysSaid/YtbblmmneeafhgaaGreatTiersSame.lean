/- Walk of tiers: Same. -/
import Derived.Test.YtbblmmneeafhgaaGreatPolSame
import Derived.Test.YtbblmmneeafhgaaGreatTiersAsk
import Derived.Test.YtbblmmneeafhgaaGreatTk
namespace Go.Proofs.YtbblmmneeafhgaaGreat
set_option linter.all false
open Go.RowKit

def sameX (X Y : TiersX) : Bool := (decide (X.name = Y.name) && decide (X.tiers = Y.tiers)) && (decide (X.now = Y.now) && (decide (fromsV X.now X.tiers X.floors = fromsV Y.now Y.tiers Y.floors) && decide (X.tabs = Y.tabs)))
theorem sameX_self (X : TiersX) : sameX X X = true := by unfold sameX; simp

set_option maxRecDepth 100000 in
set_option maxHeartbeats 8000000 in
theorem tsame_any (t base : Nat) (X : TiersX) (u base' : Nat) (Y : TiersX) (w : World) (h : TiersAt w t base X) (h' : TiersAt w u base' Y) (hn : X.tiers.length ≤ 1000) (hn' : Y.tiers.length ≤ 1000) (hl : ∀ m ∈ X.tabs, m.length ≤ 1000000) (hl' : ∀ m ∈ Y.tabs, m.length ≤ 1000000) (hnow : i64 X.now) (hnow' : i64 Y.now) (hwf : ∀ x ∈ X.tiers, x.wf) (hwf' : ∀ x ∈ Y.tiers, x.wf) :
  Calls Tryz.prog 15 #[.pointer (some ⟨t, 0, none⟩), .pointer (some ⟨u, 0, none⟩)] w fun r w' => r = .returned (.bool (sameX X Y)) ∧ Below w.heap.size w w' := by
 have HX := Lib.hid h
 have HY := Lib.hid h'
 obtain ⟨A, c, B, d, T, ct, tb, hi⟩ := h
 obtain ⟨A', c', B', d', T', ct', tb', hi'⟩ := h'
 have Hi := Lib.hid hi
 have Hi' := Lib.hid hi'
 have Hwf := Lib.hid hwf
 have Hwf' := Lib.hid hwf'
 have Hl := Lib.hid hl
 have Hl' := Lib.hid hl'
 have Hn := Lib.hid hn
 have Hn' := Lib.hid hn'
 have HC0 : Hid (∀ W, Fr (fun _ => False) w W → W.cell? ⟨t, 0, none⟩ = some (.int .i64 X.now) ∧ W.cell? ⟨t, 1, none⟩ = some (.string X.name) ∧ W.cell? ⟨t, 2, none⟩ = some (.slice A X.tiers.length c) ∧ W.cell? ⟨t, 3, none⟩ = some (.slice B X.floors.length d) ∧ W.cell? ⟨u, 0, none⟩ = some (.int .i64 Y.now) ∧ W.cell? ⟨u, 1, none⟩ = some (.string Y.name) ∧ W.cell? ⟨u, 2, none⟩ = some (.slice A' Y.tiers.length c') ∧ W.cell? ⟨u, 3, none⟩ = some (.slice B' Y.floors.length d')) := fun W f => by
  have b1 := Hi.out.blk.fr f (fun h => h)
  have b2 := Hi'.out.blk.fr f (fun h => h)
  exact ⟨b1.cell 0, b1.cell 1, b1.cell 2, b1.cell 3, b2.cell 0, b2.cell 1, b2.cell 2, b2.cell 3⟩
 have HPs0 : Hid (∀ W, Fr (fun _ => False) w W → Calls Tryz.prog 50 #[.agg #[.string X.name, .slice A X.tiers.length c], .agg #[.string Y.name, .slice A' Y.tiers.length c']] W fun r w' => r = .returned (.bool (decide (X.name = Y.name) && decide (X.tiers = Y.tiers))) ∧ Below W.heap.size W w') := fun W f =>
  polsame_any X.name Y.name X.tiers Y.tiers A X.tiers.length c A' Y.tiers.length c' W (own_any (Hi.out.fr0 f).tiers).2.2.1 (own_any (Hi'.out.fr0 f).tiers).2.2.1 (by have := Hn.out; omega) (by have := Hn'.out; omega)
 have HA10 : Hid (∀ W, Fr (fun _ => False) w W → Calls Tryz.prog 52 #[.agg #[.int .i64 X.now, .string X.name, .slice A X.tiers.length c, .slice B X.floors.length d]] W fun r w' => (∃ R cs, r = .returned (.slice R X.tiers.length cs) ∧ Rd w' 1 R X.tiers.length (ints (fromsV X.now X.tiers X.floors))) ∧ Below W.heap.size W w') := fun W f => by
  refine (rall_any X.now hnow X.name X.tiers A X.tiers.length c X.floors B X.floors.length d W (own_any (Hi.out.fr0 f).tiers).2.2.1 (own_any (Hi.out.fr0 f).floors).2.2.1 Hwf.out (by have := Hn.out; omega)).mono ?_
  rintro r w' ⟨⟨R, cs, rfl, ho⟩, hb⟩
  exact ⟨⟨R, cs, rfl, (own_any ho).2.2.1⟩, hb⟩
 have HA20 : Hid (∀ W, Fr (fun _ => False) w W → Calls Tryz.prog 52 #[.agg #[.int .i64 Y.now, .string Y.name, .slice A' Y.tiers.length c', .slice B' Y.floors.length d']] W fun r w' => (∃ R cs, r = .returned (.slice R Y.tiers.length cs) ∧ Rd w' 1 R Y.tiers.length (ints (fromsV Y.now Y.tiers Y.floors))) ∧ Below W.heap.size W w') := fun W f => by
  refine (rall_any Y.now hnow' Y.name Y.tiers A' Y.tiers.length c' Y.floors B' Y.floors.length d' W (own_any (Hi'.out.fr0 f).tiers).2.2.1 (own_any (Hi'.out.fr0 f).floors).2.2.1 Hwf'.out (by have := Hn'.out; omega)).mono ?_
  rintro r w' ⟨⟨R, cs, rfl, ho⟩, hb⟩
  exact ⟨⟨R, cs, rfl, (own_any ho).2.2.1⟩, hb⟩
 have HQI0 : Hid (∀ W R cs R' cs', Rd W 1 R X.tiers.length (ints (fromsV X.now X.tiers X.floors)) → Rd W 1 R' Y.tiers.length (ints (fromsV Y.now Y.tiers Y.floors)) → Calls Tryz.prog 51 #[.slice R X.tiers.length cs, .slice R' Y.tiers.length cs'] W fun r w' => r = .returned (.bool (decide (fromsV X.now X.tiers X.floors = fromsV Y.now Y.tiers Y.floors))) ∧ Below W.heap.size W w') := fun W R cs R' cs' h1 h2 =>
  eqints_any _ _ R X.tiers.length cs R' Y.tiers.length cs' W (by rw [icells_is]; exact h1) (by rw [icells_is]; exact h2) (by have := Hn.out; omega) (by have := Hn'.out; omega)
 have HR1 : Hid (∀ W (k : Nat) L, Fr (fun _ => False) w W → k < X.tiers.length → X.tabs[k]? = some L → Calls Tryz.prog 54 #[.pointer (some ⟨t, 0, none⟩), .int .i64 k] W fun r w' => (∃ A c, r = .returned (.slice A L.length c) ∧ Rd w' 7 A L.length (rcells L)) ∧ Below W.heap.size W w') := fun W k L f hk hL => by
  refine (trecords_in t base X k X.tiers[k] L W (HX.out.fr0 f) (List.getElem?_eq_getElem hk) hL (by have := Hl.out L (mem_of_get hL); omega)).mono ?_
  rintro r w' ⟨⟨A, c, rfl, ho⟩, hb⟩
  exact ⟨⟨A, c, rfl, (own_any ho).2.2.1⟩, hb⟩
 have HR2 : Hid (∀ W (k : Nat) L, Fr (fun _ => False) w W → k < Y.tiers.length → Y.tabs[k]? = some L → Calls Tryz.prog 54 #[.pointer (some ⟨u, 0, none⟩), .int .i64 k] W fun r w' => (∃ A c, r = .returned (.slice A L.length c) ∧ Rd w' 7 A L.length (rcells L)) ∧ Below W.heap.size W w') := fun W k L f hk hL => by
  refine (trecords_in u base' Y k Y.tiers[k] L W (HY.out.fr0 f) (List.getElem?_eq_getElem hk) hL (by have := Hl'.out L (mem_of_get hL); omega)).mono ?_
  rintro r w' ⟨⟨A, c, rfl, ho⟩, hb⟩
  exact ⟨⟨A, c, rfl, (own_any ho).2.2.1⟩, hb⟩
 have HlX : Hid (∀ m ∈ X.tabs, m.length ≤ 1000000) := Hl.out
 have HlY : Hid (∀ m ∈ Y.tabs, m.length ≤ 1000000) := Hl'.out
 have Htx := Lib.hid hi.tlen
 have Hty := Lib.hid hi'.tlen
 have HTl : Hid ((decide (X.name = Y.name) && decide (X.tiers = Y.tiers)) = true → X.tiers.length = Y.tiers.length) := fun h => by
  simp only [Bool.and_eq_true, decide_eq_true_eq] at h
  rw [h.2]
 obtain ⟨SX, HS⟩ : ∃ S, sameX X Y = S := ⟨_, rfl⟩
 have HS2 : Hid (SX = ((decide (X.name = Y.name) && decide (X.tiers = Y.tiers)) && (decide (X.now = Y.now) && (decide (fromsV X.now X.tiers X.floors = fromsV Y.now Y.tiers Y.floors) && decide (X.tabs = Y.tabs))))) := by show _ = _; rw [← HS]; rfl
 rw [HS]
 clear HS hi hi' hnow hnow' hn hn' hl hl' hwf hwf'
 obtain ⟨EF, hEF⟩ : ∃ E, decide (fromsV X.now X.tiers X.floors = fromsV Y.now Y.tiers Y.floors) = E := ⟨_, rfl⟩
 obtain ⟨PE, hPE⟩ : ∃ E, (decide (X.name = Y.name) && decide (X.tiers = Y.tiers)) = E := ⟨_, rfl⟩
 rw [hEF] at HQI0 HS2
 rw [hPE] at HPs0 HS2 HTl
 clear hEF hPE
 have HNow : Hid (∀ a b, X.now = a → Y.now = b → decide (X.now = Y.now) = decide (a = b)) := fun a b h1 h2 => by rw [h1, h2]
 have Hlx := Lib.hid (rfl : X.tiers.length = X.tiers.length)
 obtain ⟨nx, hnx⟩ : ∃ v, X.now = v := ⟨_, rfl⟩
 obtain ⟨ny, hny⟩ : ∃ v, Y.now = v := ⟨_, rfl⟩
 rw [HNow.out nx ny hnx hny] at HS2
 obtain ⟨sx, hsx⟩ : ∃ v, X.name = v := ⟨_, rfl⟩
 obtain ⟨sy, hsy⟩ : ∃ v, Y.name = v := ⟨_, rfl⟩
 obtain ⟨fx, hfx⟩ : ∃ v, X.floors.length = v := ⟨_, rfl⟩
 obtain ⟨fy, hfy⟩ : ∃ v, Y.floors.length = v := ⟨_, rfl⟩
 obtain ⟨VX, hVX⟩ : ∃ v, fromsV X.now X.tiers X.floors = v := ⟨_, rfl⟩
 obtain ⟨VY, hVY⟩ : ∃ v, fromsV Y.now Y.tiers Y.floors = v := ⟨_, rfl⟩
 rw [hVX] at HA10 HQI0
 rw [hVY] at HA20 HQI0
 obtain ⟨lx, hlx⟩ : ∃ v, X.tiers.length = v := ⟨_, rfl⟩
 obtain ⟨ly, hly⟩ : ∃ v, Y.tiers.length = v := ⟨_, rfl⟩
 rw [hnx, hsx, hlx, hfx] at HA10
 rw [hny, hsy, hly, hfy] at HA20
 rw [hlx, hly] at HQI0
 rw [hsx, hsy, hlx, hly] at HPs0
 rw [hnx, hsx, hlx, hfx, hny, hsy, hly, hfy] at HC0
 rw [hlx] at HR1 Hn Htx HTl
 rw [hly] at HR2 Hn' Hty HTl
 clear hnx hny hsx hsy hlx hly hfx hfy hVX hVY HNow Hlx Hi Hi' HX HY Hwf Hwf' Hl Hl'
 have HC := HC0
 have HPs := HPs0
 have HA1 := HA10
 have HA2 := HA20
 have HQI := HQI0
 clear HC0 HPs0 HA10 HA20 HQI0
 cases PE with
 | false =>
  have hS : Hid (SX = false) := by show _ = _; rw [HS2.out]; rfl
  go_enter Tryz.func15, Tryz.ntmps15
  go_wp2_with fail
  refine wp_region_held_drew (S := fun W => Fr (fun _ => False) w W) (by kernel_rfl) ((Fr.refl _ w).drew) (fun hHeld => ?_)
  refine tl 0 ?v1 rfl ?q1 ?r1
  case q1 => intro W hSw; go_simp; try rfl
  refine tl 1 ?v2 rfl ?q2 ?r2
  case q2 => intro W hSw; go_simp; try rfl
  refine tl 2 ?v3 rfl ?q3 ?r3
  case q3 => intro W hSw; go_simp; try rfl
  refine tl 3 ?v4 rfl ?q4 ?r4
  case q4 => intro W hSw; go_simp; try rfl
  refine tl 4 ?v5 rfl ?q5 ?r5
  case q5 => intro W hSw; (try obtain ⟨z0, z1, z2, z3, y0, y1, y2, y3⟩ := HC.out W hSw); go_simp; try rfl
  refine tl 5 ?v6 rfl ?q6 ?r6
  case q6 => intro W hSw; go_simp; try rfl
  refine tl 6 ?v7 rfl ?q7 ?r7
  case q7 => intro W hSw; go_simp; try rfl
  refine tl 7 ?v8 rfl ?q8 ?r8
  case q8 => intro W hSw; go_simp; try rfl
  refine tl 8 ?v9 rfl ?q9 ?r9
  case q9 => intro W hSw; go_simp; try rfl
  refine tl 9 ?v10 rfl ?q10 ?r10
  case q10 => intro W hSw; (try obtain ⟨z0, z1, z2, z3, y0, y1, y2, y3⟩ := HC.out W hSw); go_simp; try rfl
  try simp only [Act.put, sA, sB, sC]
  refine rl 10 rfl (fun K hK => ?_)
  go_simp
  go_wp2_with (first | (go_at_call 50; refine (HPs.out _ hHeld).mono ?_; rintro r w5 ⟨rfl, b5⟩))
  refine hK.out _ _ (hHeld.trans (Fr.b0 b5) (fun _ h => h.elim)) (fun hHeld => ?_)
  clear hK K
  refine tl 11 ?v11 rfl ?q11 ?r11
  case q11 => intro W hSw; go_simp; try rfl
  refine tl 12 ?v12 rfl ?q12 ?r12
  case q12 => intro W hSw; go_simp; try rfl
  try simp only [Act.put, sA, sB, sC]
  refine tu 13 rfl ?_
  try simp only [Act.put, sA, sB, sC]
  refine tu 14 rfl ?_
  try simp only [Act.put, sA, sB, sC]
  refine tu 15 rfl ?_
  try simp only [Act.put, sA, sB, sC]
  refine tu 16 rfl ?_
  try simp only [Act.put, sA, sB, sC]
  refine tu 17 rfl ?_
  try simp only [Act.put, sA, sB, sC]
  refine tu 18 rfl ?_
  try simp only [Act.put, sA, sB, sC]
  refine tu 19 rfl ?_
  try simp only [Act.put, sA, sB, sC]
  refine tu 20 rfl ?_
  try simp only [Act.put, sA, sB, sC]
  refine tu 21 rfl ?_
  try simp only [Act.put, sA, sB, sC]
  refine tu 22 rfl ?_
  try simp only [Act.put, sA, sB, sC]
  refine tu 23 rfl ?_
  refine tl 24 ?v13 rfl ?q13 ?r13
  case q13 => intro W hSw; go_simp; try rfl
  refine tl 25 ?v14 rfl ?q14 ?r14
  case q14 => intro W hSw; go_simp; try rfl
  try simp only [Act.put, sA, sB, sC]
  refine tu 26 rfl ?_
  try simp only [Act.put, sA, sB, sC]
  refine tu 27 rfl ?_
  try simp only [Act.put, sA, sB, sC]
  refine tu 28 rfl ?_
  try simp only [Act.put, sA, sB, sC]
  refine tu 29 rfl ?_
  try simp only [Act.put, sA, sB, sC]
  refine tu 30 rfl ?_
  try simp only [Act.put, sA, sB, sC]
  refine tu 31 rfl ?_
  try simp only [Act.put, sA, sB, sC]
  refine tu 32 rfl ?_
  try simp only [Act.put, sA, sB, sC]
  refine tu 33 rfl ?_
  try simp only [Act.put, sA, sB, sC]
  refine tu 34 rfl ?_
  try simp only [Act.put, sA, sB, sC]
  refine tu 35 rfl ?_
  try simp only [Act.put, sA, sB, sC]
  refine tu 36 rfl ?_
  try simp only [Act.put, sA, sB, sC]
  refine tu 37 rfl ?_
  refine tl 38 ?v15 rfl ?q15 ?r15
  case q15 => intro W hSw; go_simp; try rfl
  try simp only [Act.put, sA, sB, sC]
  refine wpAnyH_done (by kernel_rfl) ?_ _
  go_wp2_with fail
  go_ret
  exact ⟨by rw [hS.out]; rfl, hHeld.below (fun _ h => h.elim)⟩
 | true =>
  have hlen : lx = ly := HTl.out rfl
  subst hlen
  by_cases hnow : nx = ny
  ·subst hnow
   cases EF with
   | false =>
    have hS : Hid (SX = false) := by show _ = _; rw [HS2.out]; simp
    go_enter Tryz.func15, Tryz.ntmps15
    go_wp2_with fail
    refine wp_region_held_drew (S := fun W => Fr (fun _ => False) w W) (by kernel_rfl) ((Fr.refl _ w).drew) (fun hHeld => ?_)
    refine tl 0 ?v16 rfl ?q16 ?r16
    case q16 => intro W hSw; go_simp; try rfl
    refine tl 1 ?v17 rfl ?q17 ?r17
    case q17 => intro W hSw; go_simp; try rfl
    refine tl 2 ?v18 rfl ?q18 ?r18
    case q18 => intro W hSw; go_simp; try rfl
    refine tl 3 ?v19 rfl ?q19 ?r19
    case q19 => intro W hSw; go_simp; try rfl
    refine tl 4 ?v20 rfl ?q20 ?r20
    case q20 => intro W hSw; (try obtain ⟨z0, z1, z2, z3, y0, y1, y2, y3⟩ := HC.out W hSw); go_simp; try rfl
    refine tl 5 ?v21 rfl ?q21 ?r21
    case q21 => intro W hSw; go_simp; try rfl
    refine tl 6 ?v22 rfl ?q22 ?r22
    case q22 => intro W hSw; go_simp; try rfl
    refine tl 7 ?v23 rfl ?q23 ?r23
    case q23 => intro W hSw; go_simp; try rfl
    refine tl 8 ?v24 rfl ?q24 ?r24
    case q24 => intro W hSw; go_simp; try rfl
    refine tl 9 ?v25 rfl ?q25 ?r25
    case q25 => intro W hSw; (try obtain ⟨z0, z1, z2, z3, y0, y1, y2, y3⟩ := HC.out W hSw); go_simp; try rfl
    try simp only [Act.put, sA, sB, sC]
    refine rl 10 rfl (fun K hK => ?_)
    go_simp
    go_wp2_with (first | (go_at_call 50; refine (HPs.out _ hHeld).mono ?_; rintro r w5 ⟨rfl, b5⟩))
    refine hK.out _ _ (hHeld.trans (Fr.b0 b5) (fun _ h => h.elim)) (fun hHeld => ?_)
    clear hK K
    refine tl 11 ?v26 rfl ?q26 ?r26
    case q26 => intro W hSw; go_simp; try rfl
    refine tl 12 ?v27 rfl ?q27 ?r27
    case q27 => intro W hSw; go_simp; try rfl
    try simp only [Act.put, sA, sB, sC]
    refine tl 13 ?v28 rfl ?q28 ?r28
    case q28 => intro W hSw; go_simp; try rfl
    try simp only [Act.put, sA, sB, sC]
    refine tl 14 ?v29 rfl ?q29 ?r29
    case q29 => intro W hSw; go_simp; try rfl
    try simp only [Act.put, sA, sB, sC]
    refine tl 15 ?v30 rfl ?q30 ?r30
    case q30 => intro W hSw; go_simp; try rfl
    try simp only [Act.put, sA, sB, sC]
    refine tl 16 ?v31 rfl ?q31 ?r31
    case q31 => intro W hSw; go_simp; try rfl
    try simp only [Act.put, sA, sB, sC]
    refine tl 17 ?v32 rfl ?q32 ?r32
    case q32 => intro W hSw; (try obtain ⟨z0, z1, z2, z3, y0, y1, y2, y3⟩ := HC.out W hSw); go_simp; try rfl
    try simp only [Act.put, sA, sB, sC]
    refine tl 18 ?v33 rfl ?q33 ?r33
    case q33 => intro W hSw; go_simp; try rfl
    try simp only [Act.put, sA, sB, sC]
    refine tl 19 ?v34 rfl ?q34 ?r34
    case q34 => intro W hSw; go_simp; try rfl
    try simp only [Act.put, sA, sB, sC]
    refine tl 20 ?v35 rfl ?q35 ?r35
    case q35 => intro W hSw; go_simp; try rfl
    try simp only [Act.put, sA, sB, sC]
    refine tl 21 ?v36 rfl ?q36 ?r36
    case q36 => intro W hSw; go_simp; try rfl
    try simp only [Act.put, sA, sB, sC]
    refine tl 22 ?v37 rfl ?q37 ?r37
    case q37 => intro W hSw; (try obtain ⟨z0, z1, z2, z3, y0, y1, y2, y3⟩ := HC.out W hSw); go_simp; try rfl
    try simp only [Act.put, sA, sB, sC]
    refine tl 23 ?v38 rfl ?q38 ?r38
    case q38 => intro W hSw; (try obtain ⟨z0, z1, z2, z3, y0, y1, y2, y3⟩ := HC.out W hSw); go_simp; try rfl
    refine tl 24 ?v39 rfl ?q39 ?r39
    case q39 => intro W hSw; go_simp; try rfl
    refine tl 25 ?v40 rfl ?q40 ?r40
    case q40 => intro W hSw; go_simp; try rfl
    try simp only [Act.put, sA, sB, sC]
    refine tl 26 ?v41 rfl ?q41 ?r41
    case q41 => intro W hSw; go_simp; try rfl
    try simp only [Act.put, sA, sB, sC]
    refine tl 27 ?v42 rfl ?q42 ?r42
    case q42 => intro W hSw; go_simp; try rfl
    try simp only [Act.put, sA, sB, sC]
    refine tl 28 ?v43 rfl ?q43 ?r43
    case q43 => intro W hSw; go_simp; try rfl
    try simp only [Act.put, sA, sB, sC]
    refine tl 29 ?v44 rfl ?q44 ?r44
    case q44 => intro W hSw; (try obtain ⟨z0, z1, z2, z3, y0, y1, y2, y3⟩ := HC.out W hSw); go_simp; try rfl
    try simp only [Act.put, sA, sB, sC]
    refine tl 31 ?v45 rfl ?q45 ?r45
    case q45 => intro W hSw; go_simp; try rfl
    try simp only [Act.put, sA, sB, sC]
    refine tl 32 ?v46 rfl ?q46 ?r46
    case q46 => intro W hSw; go_simp; try rfl
    try simp only [Act.put, sA, sB, sC]
    refine tl 33 ?v47 rfl ?q47 ?r47
    case q47 => intro W hSw; go_simp; try rfl
    try simp only [Act.put, sA, sB, sC]
    refine tl 34 ?v48 rfl ?q48 ?r48
    case q48 => intro W hSw; (try obtain ⟨z0, z1, z2, z3, y0, y1, y2, y3⟩ := HC.out W hSw); go_simp; try rfl
    try simp only [Act.put, sA, sB, sC]
    refine rl 30 rfl (fun K hK => ?_)
    go_simp
    go_wp2_with (first | (go_at_call 52; refine (HA1.out _ hHeld).mono ?_; rintro r w6 ⟨⟨R6, c6, rfl, r6⟩, b6⟩))
    refine hK.out _ _ (hHeld.trans (Fr.b0 b6) (fun _ h => h.elim)) (fun hHeld => ?_)
    clear hK K
    try simp only [Act.put, sA, sB, sC]
    refine rl 35 rfl (fun K hK => ?_)
    go_simp
    go_wp2_with (first | (go_at_call 52; refine (HA2.out _ hHeld).mono ?_; rintro r w7 ⟨⟨R7, c7, rfl, r7⟩, b7⟩))
    refine hK.out _ _ (hHeld.trans (Fr.b0 b7) (fun _ h => h.elim)) (fun hHeld => ?_)
    clear hK K
    try simp only [Act.put, sA, sB, sC]
    refine rl 36 rfl (fun K hK => ?_)
    go_simp
    go_wp2_with (first | (go_at_call 51; refine (HQI.out _ R6 c6 R7 c7 (r6.fr0 (Fr.b0 b7)) r7).mono ?_; rintro r w8 ⟨rfl, b8⟩))
    refine hK.out _ _ (hHeld.trans (Fr.b0 b8) (fun _ h => h.elim)) (fun hHeld => ?_)
    clear hK K
    try simp only [Act.put, sA, sB, sC]
    refine tl 37 ?v49 rfl ?q49 ?r49
    case q49 => intro W hSw; go_simp; try rfl
    refine tl 38 ?v50 rfl ?q50 ?r50
    case q50 => intro W hSw; go_simp; try rfl
    try simp only [Act.put, sA, sB, sC]
    refine wpAnyH_done (by kernel_rfl) ?_ _
    go_wp2_with fail
    go_ret
    exact ⟨by rw [hS.out]; rfl, hHeld.below (fun _ h => h.elim)⟩
   | true =>
    have hS : Hid (SX = decide (X.tabs = Y.tabs)) := by show _ = _; rw [HS2.out]; simp
    go_enter Tryz.func15, Tryz.ntmps15
    go_wp2_with fail
    refine wp_region_held_drew (S := fun W => Fr (fun _ => False) w W) (by kernel_rfl) ((Fr.refl _ w).drew) (fun hHeld => ?_)
    refine tl 0 ?v51 rfl ?q51 ?r51
    case q51 => intro W hSw; go_simp; try rfl
    refine tl 1 ?v52 rfl ?q52 ?r52
    case q52 => intro W hSw; go_simp; try rfl
    refine tl 2 ?v53 rfl ?q53 ?r53
    case q53 => intro W hSw; go_simp; try rfl
    refine tl 3 ?v54 rfl ?q54 ?r54
    case q54 => intro W hSw; go_simp; try rfl
    refine tl 4 ?v55 rfl ?q55 ?r55
    case q55 => intro W hSw; (try obtain ⟨z0, z1, z2, z3, y0, y1, y2, y3⟩ := HC.out W hSw); go_simp; try rfl
    refine tl 5 ?v56 rfl ?q56 ?r56
    case q56 => intro W hSw; go_simp; try rfl
    refine tl 6 ?v57 rfl ?q57 ?r57
    case q57 => intro W hSw; go_simp; try rfl
    refine tl 7 ?v58 rfl ?q58 ?r58
    case q58 => intro W hSw; go_simp; try rfl
    refine tl 8 ?v59 rfl ?q59 ?r59
    case q59 => intro W hSw; go_simp; try rfl
    refine tl 9 ?v60 rfl ?q60 ?r60
    case q60 => intro W hSw; (try obtain ⟨z0, z1, z2, z3, y0, y1, y2, y3⟩ := HC.out W hSw); go_simp; try rfl
    try simp only [Act.put, sA, sB, sC]
    refine rl 10 rfl (fun K hK => ?_)
    go_simp
    go_wp2_with (first | (go_at_call 50; refine (HPs.out _ hHeld).mono ?_; rintro r w5 ⟨rfl, b5⟩))
    refine hK.out _ _ (hHeld.trans (Fr.b0 b5) (fun _ h => h.elim)) (fun hHeld => ?_)
    clear hK K
    refine tl 11 ?v61 rfl ?q61 ?r61
    case q61 => intro W hSw; go_simp; try rfl
    refine tl 12 ?v62 rfl ?q62 ?r62
    case q62 => intro W hSw; go_simp; try rfl
    try simp only [Act.put, sA, sB, sC]
    refine tl 13 ?v63 rfl ?q63 ?r63
    case q63 => intro W hSw; go_simp; try rfl
    try simp only [Act.put, sA, sB, sC]
    refine tl 14 ?v64 rfl ?q64 ?r64
    case q64 => intro W hSw; go_simp; try rfl
    try simp only [Act.put, sA, sB, sC]
    refine tl 15 ?v65 rfl ?q65 ?r65
    case q65 => intro W hSw; go_simp; try rfl
    try simp only [Act.put, sA, sB, sC]
    refine tl 16 ?v66 rfl ?q66 ?r66
    case q66 => intro W hSw; go_simp; try rfl
    try simp only [Act.put, sA, sB, sC]
    refine tl 17 ?v67 rfl ?q67 ?r67
    case q67 => intro W hSw; (try obtain ⟨z0, z1, z2, z3, y0, y1, y2, y3⟩ := HC.out W hSw); go_simp; try rfl
    try simp only [Act.put, sA, sB, sC]
    refine tl 18 ?v68 rfl ?q68 ?r68
    case q68 => intro W hSw; go_simp; try rfl
    try simp only [Act.put, sA, sB, sC]
    refine tl 19 ?v69 rfl ?q69 ?r69
    case q69 => intro W hSw; go_simp; try rfl
    try simp only [Act.put, sA, sB, sC]
    refine tl 20 ?v70 rfl ?q70 ?r70
    case q70 => intro W hSw; go_simp; try rfl
    try simp only [Act.put, sA, sB, sC]
    refine tl 21 ?v71 rfl ?q71 ?r71
    case q71 => intro W hSw; go_simp; try rfl
    try simp only [Act.put, sA, sB, sC]
    refine tl 22 ?v72 rfl ?q72 ?r72
    case q72 => intro W hSw; (try obtain ⟨z0, z1, z2, z3, y0, y1, y2, y3⟩ := HC.out W hSw); go_simp; try rfl
    try simp only [Act.put, sA, sB, sC]
    refine tl 23 ?v73 rfl ?q73 ?r73
    case q73 => intro W hSw; (try obtain ⟨z0, z1, z2, z3, y0, y1, y2, y3⟩ := HC.out W hSw); go_simp; try rfl
    refine tl 24 ?v74 rfl ?q74 ?r74
    case q74 => intro W hSw; go_simp; try rfl
    refine tl 25 ?v75 rfl ?q75 ?r75
    case q75 => intro W hSw; go_simp; try rfl
    try simp only [Act.put, sA, sB, sC]
    refine tl 26 ?v76 rfl ?q76 ?r76
    case q76 => intro W hSw; go_simp; try rfl
    try simp only [Act.put, sA, sB, sC]
    refine tl 27 ?v77 rfl ?q77 ?r77
    case q77 => intro W hSw; go_simp; try rfl
    try simp only [Act.put, sA, sB, sC]
    refine tl 28 ?v78 rfl ?q78 ?r78
    case q78 => intro W hSw; go_simp; try rfl
    try simp only [Act.put, sA, sB, sC]
    refine tl 29 ?v79 rfl ?q79 ?r79
    case q79 => intro W hSw; (try obtain ⟨z0, z1, z2, z3, y0, y1, y2, y3⟩ := HC.out W hSw); go_simp; try rfl
    try simp only [Act.put, sA, sB, sC]
    refine tl 31 ?v80 rfl ?q80 ?r80
    case q80 => intro W hSw; go_simp; try rfl
    try simp only [Act.put, sA, sB, sC]
    refine tl 32 ?v81 rfl ?q81 ?r81
    case q81 => intro W hSw; go_simp; try rfl
    try simp only [Act.put, sA, sB, sC]
    refine tl 33 ?v82 rfl ?q82 ?r82
    case q82 => intro W hSw; go_simp; try rfl
    try simp only [Act.put, sA, sB, sC]
    refine tl 34 ?v83 rfl ?q83 ?r83
    case q83 => intro W hSw; (try obtain ⟨z0, z1, z2, z3, y0, y1, y2, y3⟩ := HC.out W hSw); go_simp; try rfl
    try simp only [Act.put, sA, sB, sC]
    refine rl 30 rfl (fun K hK => ?_)
    go_simp
    go_wp2_with (first | (go_at_call 52; refine (HA1.out _ hHeld).mono ?_; rintro r w6 ⟨⟨R6, c6, rfl, r6⟩, b6⟩))
    refine hK.out _ _ (hHeld.trans (Fr.b0 b6) (fun _ h => h.elim)) (fun hHeld => ?_)
    clear hK K
    try simp only [Act.put, sA, sB, sC]
    refine rl 35 rfl (fun K hK => ?_)
    go_simp
    go_wp2_with (first | (go_at_call 52; refine (HA2.out _ hHeld).mono ?_; rintro r w7 ⟨⟨R7, c7, rfl, r7⟩, b7⟩))
    refine hK.out _ _ (hHeld.trans (Fr.b0 b7) (fun _ h => h.elim)) (fun hHeld => ?_)
    clear hK K
    try simp only [Act.put, sA, sB, sC]
    refine rl 36 rfl (fun K hK => ?_)
    go_simp
    go_wp2_with (first | (go_at_call 51; refine (HQI.out _ R6 c6 R7 c7 (r6.fr0 (Fr.b0 b7)) r7).mono ?_; rintro r w8 ⟨rfl, b8⟩))
    refine hK.out _ _ (hHeld.trans (Fr.b0 b8) (fun _ h => h.elim)) (fun hHeld => ?_)
    clear hK K
    try simp only [Act.put, sA, sB, sC]
    refine tl 37 ?v84 rfl ?q84 ?r84
    case q84 => intro W hSw; go_simp; try rfl
    refine tl 38 ?v85 rfl ?q85 ?r85
    case q85 => intro W hSw; go_simp; try rfl
    try simp only [Act.put, sA, sB, sC]
    refine wpAnyH_done (by kernel_rfl) ?_ _
    have F8 := Lib.hid hHeld
    obtain ⟨z0, z1, z2, z3, y0, y1, y2, y3⟩ := HC.out _ hHeld
    clear r6 r7 b5 b6 b7 b8 hHeld y0 y1 y2 y3
    go_wp2_with fail
    go_loopw [64] (fun i wr => ∃ k : Nat, k ≤ lx ∧ i = .int .i64 k ∧ Hid (X.tabs.take k = Y.tabs.take k) ∧ Fr (fun _ => False) w wr) (fun i _ => lx - (intOf i).toNat)
    case atStart => exact ⟨0, Nat.zero_le _, rfl, rfl, F8.out⟩
    case round =>
     obtain ⟨k, hk, rfl, htk, ho⟩ := hrel
     have Ho := Lib.hid ho
     clear ho
     by_cases hlt : k < lx
     ·obtain ⟨L, hL⟩ : ∃ L, X.tabs[k]? = some L := ⟨_, List.getElem?_eq_getElem (by rw [Htx.out]; exact hlt)⟩
      obtain ⟨M, hM⟩ : ∃ M, Y.tabs[k]? = some M := ⟨_, List.getElem?_eq_getElem (by rw [Hty.out]; exact hlt)⟩
      have HL := Lib.hid hL
      have HM := Lib.hid hM
      have H1 := Lib.hid (HR1.out wr k L Ho.out hlt hL)
      have H2 := Lib.hid (fun W f => HR2.out W k M f hlt hM)
      have hL6 := Lib.hid (HlX.out L (mem_of_get hL))
      have hM6 := Lib.hid (HlY.out M (mem_of_get hM))
      clear hL hM
      have hkw : IntKind.i64.wrap ((k : Int) + 1) = (k : Int) + 1 := by have := Hn.out; simp [IntKind.wrap, IntKind.signed, IntKind.bits]; omega
      go_wp2_with fail
      refine H1.out.mono ?_
      rintro r wa ⟨⟨Aa, ca, rfl, ra⟩, ba⟩
      have Fa := Lib.hid (Ho.out.trans (Fr.b0 ba) (fun _ h => h.elim))
      have Ra := Lib.hid ra
      clear ra ba
      go_wp2_with fail
      refine (H2.out wa Fa.out).mono ?_
      rintro r wb ⟨⟨Ab, cb, rfl, rb⟩, bb⟩
      have Fb := Lib.hid (Fa.out.trans (Fr.b0 bb) (fun _ h => h.elim))
      have HQ := Lib.hid (eqrecs_any L M Aa L.length ca Ab M.length cb wb (Ra.out.fr0 (Fr.b0 bb)) rb (by have := hL6.out; omega) (by have := hM6.out; omega))
      clear rb bb
      go_wp2_with fail
      refine HQ.out.mono ?_
      rintro r wc ⟨rfl, bc⟩
      have Fc := Lib.hid (Fb.out.trans (Fr.b0 bc) (fun _ h => h.elim))
      clear bc HQ
      by_cases hLM : L = M
      ·have hd : decide (L = M) = true := decide_eq_true hLM
       have htk2 : Hid (X.tabs.take (k + 1) = Y.tabs.take (k + 1)) := by show _ = _; rw [take_snoc HL.out, take_snoc HM.out, htk.out, hLM]
       rw [hd]
       clear hLM hd
       go_wp2_with fail
       go_roundw
       case rel => exact ⟨k + 1, by omega, by go_num, htk2.out, Fc.out⟩
       case measure => simp [intOf]; omega
      ·have hd : decide (L = M) = false := decide_eq_false hLM
       have hne : Hid (decide (X.tabs = Y.tabs) = false) := by
        refine decide_eq_false fun h => ?_
        have h1 := HL.out
        have h2 := HM.out
        rw [h] at h1
        rw [h1] at h2
        exact hLM (Option.some.inj h2)
       rw [hd]
       clear hLM hd
       go_wp2_with fail
       go_ret
       exact ⟨by rw [hS.out, hne.out]; rfl, Fc.out.below (fun _ h => h.elim)⟩
     ·obtain rfl : k = lx := by omega
      have hE : Hid (decide (X.tabs = Y.tabs) = true) := by
       refine decide_eq_true ?_
       have h := htk.out
       rwa [take_all (by rw [Htx.out]; exact Nat.le_refl _), take_all (by rw [Hty.out]; exact Nat.le_refl _)] at h
      go_wp2_with fail
      go_ret
      exact ⟨by rw [hS.out, hE.out]; rfl, Ho.out.below (fun _ h => h.elim)⟩
  ·have hS : Hid (SX = false) := by show _ = _; rw [HS2.out, decide_eq_false hnow]; simp
   have hn1 : (nx == ny) = false := by simpa using hnow
   have hn2 : decide (nx = ny) = false := decide_eq_false hnow
   have hn3 : (nx != ny) = true := by simpa using hnow
   go_enter Tryz.func15, Tryz.ntmps15
   go_wp2_with fail
   refine wp_region_held_drew (S := fun W => Fr (fun _ => False) w W) (by kernel_rfl) ((Fr.refl _ w).drew) (fun hHeld => ?_)
   refine tl 0 ?v86 rfl ?q86 ?r86
   case q86 => intro W hSw; go_simp; try rfl
   refine tl 1 ?v87 rfl ?q87 ?r87
   case q87 => intro W hSw; go_simp; try rfl
   refine tl 2 ?v88 rfl ?q88 ?r88
   case q88 => intro W hSw; go_simp; try rfl
   refine tl 3 ?v89 rfl ?q89 ?r89
   case q89 => intro W hSw; go_simp; try rfl
   refine tl 4 ?v90 rfl ?q90 ?r90
   case q90 => intro W hSw; (try obtain ⟨z0, z1, z2, z3, y0, y1, y2, y3⟩ := HC.out W hSw); go_simp; try rfl
   refine tl 5 ?v91 rfl ?q91 ?r91
   case q91 => intro W hSw; go_simp; try rfl
   refine tl 6 ?v92 rfl ?q92 ?r92
   case q92 => intro W hSw; go_simp; try rfl
   refine tl 7 ?v93 rfl ?q93 ?r93
   case q93 => intro W hSw; go_simp; try rfl
   refine tl 8 ?v94 rfl ?q94 ?r94
   case q94 => intro W hSw; go_simp; try rfl
   refine tl 9 ?v95 rfl ?q95 ?r95
   case q95 => intro W hSw; (try obtain ⟨z0, z1, z2, z3, y0, y1, y2, y3⟩ := HC.out W hSw); go_simp; try rfl
   try simp only [Act.put, sA, sB, sC]
   refine rl 10 rfl (fun K hK => ?_)
   go_simp
   go_wp2_with (first | (go_at_call 50; refine (HPs.out _ hHeld).mono ?_; rintro r w5 ⟨rfl, b5⟩))
   refine hK.out _ _ (hHeld.trans (Fr.b0 b5) (fun _ h => h.elim)) (fun hHeld => ?_)
   clear hK K
   refine tl 11 ?v96 rfl ?q96 ?r96
   case q96 => intro W hSw; go_simp; try rfl
   refine tl 12 ?v97 rfl ?q97 ?r97
   case q97 => intro W hSw; go_simp; try rfl
   try simp only [Act.put, sA, sB, sC]
   refine tl 13 ?v98 rfl ?q98 ?r98
   case q98 => intro W hSw; go_simp; try rfl
   try simp only [Act.put, sA, sB, sC]
   refine tl 14 ?v99 rfl ?q99 ?r99
   case q99 => intro W hSw; go_simp; try rfl
   try simp only [Act.put, sA, sB, sC]
   refine tl 15 ?v100 rfl ?q100 ?r100
   case q100 => intro W hSw; go_simp; try rfl
   try simp only [Act.put, sA, sB, sC]
   refine tl 16 ?v101 rfl ?q101 ?r101
   case q101 => intro W hSw; go_simp; try rfl
   try simp only [Act.put, sA, sB, sC]
   refine tl 17 ?v102 rfl ?q102 ?r102
   case q102 => intro W hSw; (try obtain ⟨z0, z1, z2, z3, y0, y1, y2, y3⟩ := HC.out W hSw); go_simp; try rfl
   try simp only [Act.put, sA, sB, sC]
   refine tl 18 ?v103 rfl ?q103 ?r103
   case q103 => intro W hSw; go_simp; try rfl
   try simp only [Act.put, sA, sB, sC]
   refine tl 19 ?v104 rfl ?q104 ?r104
   case q104 => intro W hSw; go_simp; try rfl
   try simp only [Act.put, sA, sB, sC]
   refine tl 20 ?v105 rfl ?q105 ?r105
   case q105 => intro W hSw; go_simp; try rfl
   try simp only [Act.put, sA, sB, sC]
   refine tl 21 ?v106 rfl ?q106 ?r106
   case q106 => intro W hSw; go_simp; try rfl
   try simp only [Act.put, sA, sB, sC]
   refine tl 22 ?v107 rfl ?q107 ?r107
   case q107 => intro W hSw; (try obtain ⟨z0, z1, z2, z3, y0, y1, y2, y3⟩ := HC.out W hSw); go_simp; try rfl
   try simp only [Act.put, sA, sB, sC]
   refine tl 23 ?v108 rfl ?q108 ?r108
   case q108 => intro W hSw; (try obtain ⟨z0, z1, z2, z3, y0, y1, y2, y3⟩ := HC.out W hSw); go_simp; try rfl
   refine tl 24 ?v109 rfl ?q109 ?r109
   case q109 => intro W hSw; go_simp; try rfl
   refine tl 25 ?v110 rfl ?q110 ?r110
   case q110 => intro W hSw; go_simp; try rfl
   try simp only [Act.put, sA, sB, sC]
   refine tu 26 rfl ?_
   try simp only [Act.put, sA, sB, sC]
   refine tu 27 rfl ?_
   try simp only [Act.put, sA, sB, sC]
   refine tu 28 rfl ?_
   try simp only [Act.put, sA, sB, sC]
   refine tu 29 rfl ?_
   try simp only [Act.put, sA, sB, sC]
   refine tu 30 rfl ?_
   try simp only [Act.put, sA, sB, sC]
   refine tu 31 rfl ?_
   try simp only [Act.put, sA, sB, sC]
   refine tu 32 rfl ?_
   try simp only [Act.put, sA, sB, sC]
   refine tu 33 rfl ?_
   try simp only [Act.put, sA, sB, sC]
   refine tu 34 rfl ?_
   try simp only [Act.put, sA, sB, sC]
   refine tu 35 rfl ?_
   try simp only [Act.put, sA, sB, sC]
   refine tu 36 rfl ?_
   try simp only [Act.put, sA, sB, sC]
   refine tu 37 rfl ?_
   refine tl 38 ?v111 rfl ?q111 ?r111
   case q111 => intro W hSw; go_simp; try rfl
   try simp only [Act.put, sA, sB, sC]
   refine wpAnyH_done (by kernel_rfl) ?_ _
   go_wp2_with fail
   go_ret
   exact ⟨by rw [hS.out]; rfl, hHeld.below (fun _ h => h.elim)⟩
end Go.Proofs.YtbblmmneeafhgaaGreat
