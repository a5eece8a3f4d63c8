/- Walk of law 11: alike. -/
import Derived.Test.YtbblmmneeafhgaaGreatTio
import Derived.Test.YtbblmmneeafhgaaGreatTioR
import Derived.Test.YtbblmmneeafhgaaGreatTiersSame
import Derived.Test.YtbblmmneeafhgaaGreatRTAdd
import Derived.Test.YtbblmmneeafhgaaGreatSame
import Derived.Test.YtbblmmneeafhgaaGreatTk
namespace Go.Proofs.YtbblmmneeafhgaaGreat
set_option linter.all false
open Go.RowKit

set_option maxRecDepth 100000 in
set_option maxHeartbeats 4000000 in
theorem alike_any {nm : ByteArray} {l : List TierV} {fl : List Int} {lo lo2 : Nat} {w : World} {a b : Nat} {X Y : TiersX} {F F2 : Nat → Prop} {cc : Nat} (p : PolOk nm l) (hT : Tio nm l fl lo w a X F cc) (hU : Tio nm l fl lo2 w b Y F2 cc) (hcc : cc ≤ 100000) :
  Calls Tryz.prog 22 #[.pointer (some ⟨a, 0, none⟩), .pointer (some ⟨b, 0, none⟩), .int .i64 (l.length : Nat)] w fun r w' => r = .returned (.bool (sameX X Y)) ∧ Below w.heap.size w w' := by
 obtain ⟨n, hn0⟩ : ∃ v, l.length = v := ⟨_, rfl⟩
 rw [hn0]
 obtain ⟨mf, hmf⟩ : ∃ v, fl.length = v := ⟨_, rfl⟩
 obtain ⟨xn, hxn⟩ : ∃ v, X.now = v := ⟨_, rfl⟩
 obtain ⟨yn, hyn⟩ : ∃ v, Y.now = v := ⟨_, rfl⟩
 have h5 := p.five
 have hn5 : n ≤ 5 := by omega
 have hx0 := hT.good.now
 have hy0 := hU.good.now
 have HT := Lib.hid hT
 have HU := Lib.hid hU
 have hXl : X.tabs.length = n := by rw [hT.good.tlen, hn0]
 have hYl : Y.tabs.length = n := by rw [hU.good.tlen, hn0]
 have HXt : Hid (∀ k, (X.tabs.getD k []).length ≤ cc) := fun k => getD_len hT.good.len k
 have HYt : Hid (∀ k, (Y.tabs.getD k []).length ≤ cc) := fun k => getD_len hU.good.len k
 obtain ⟨tA, tc, tB, td, h1⟩ := hT.reach
 obtain ⟨uA, uc, uB, ud, h2⟩ := hU.reach
 rw [hxn] at h1 hx0
 rw [hyn] at h2 hy0
 have H1 := Lib.hid h1
 have H2 := Lib.hid h2
 have HC : Hid (∀ W, Fr (fun _ => False) w W → W.cell? ⟨a, 0, none⟩ = some (.int .i64 xn) ∧ W.cell? ⟨a, 1, none⟩ = some (.string nm) ∧ W.cell? ⟨a, 2, none⟩ = some (.slice tA n tc) ∧ W.cell? ⟨a, 3, none⟩ = some (.slice tB mf td) ∧ W.cell? ⟨b, 0, none⟩ = some (.int .i64 yn) ∧ W.cell? ⟨b, 1, none⟩ = some (.string nm) ∧ W.cell? ⟨b, 2, none⟩ = some (.slice uA n uc) ∧ W.cell? ⟨b, 3, none⟩ = some (.slice uB mf ud)) := fun W f => by
  have b1 := h1.fr0 f
  have b2 := h2.fr0 f
  have c1 := b1.c2
  have c2 := b1.c3
  have d1 := b2.c2
  have d2 := b2.c3
  rw [hn0] at c1 d1
  rw [hmf] at c2 d2
  exact ⟨b1.c0, b1.c1, c1, c2, b2.c0, b2.c1, d1, d2⟩
 have HF1 : Hid (∀ W k, Fr (fun _ => False) w W → k < n → Calls Tryz.prog 62 #[.agg #[.int .i64 xn, .string nm, .slice tA n tc, .slice tB mf td], .int .i64 (k : Nat)] W fun r w' => r = .returned (.int .i64 (fromV xn l fl k)) ∧ Below W.heap.size W w') := fun W k f hk => by
  have := reach_from p (h1.fr0 f) hx0 k (by omega)
  rw [hn0, hmf] at this
  exact this
 have HF2 : Hid (∀ W k, Fr (fun _ => False) w W → k < n → Calls Tryz.prog 62 #[.agg #[.int .i64 yn, .string nm, .slice uA n uc, .slice uB mf ud], .int .i64 (k : Nat)] W fun r w' => r = .returned (.int .i64 (fromV yn l fl k)) ∧ Below W.heap.size W w') := fun W k f hk => by
  have := reach_from p (h2.fr0 f) hy0 k (by omega)
  rw [hn0, hmf] at this
  exact this
 have HR1 : Hid (∀ W (k : Nat), Fr (fun _ => False) w W → k < n → Calls Tryz.prog 54 #[.pointer (some ⟨a, 0, none⟩), .int .i64 (k : Nat)] W fun r w' => (∃ A c, r = .returned (.slice A (X.tabs.getD k []).length c) ∧ w'.ownsRow W.heap.size 100 7 (.slice A (X.tabs.getD k []).length c) (X.tabs.getD k []).length (rcells (X.tabs.getD k []))) ∧ Below W.heap.size W w') := fun W k f hk => tio_records (hT.fr0 f) (by omega) k (by omega)
 have HR2 : Hid (∀ W (k : Nat), Fr (fun _ => False) w W → k < n → Calls Tryz.prog 54 #[.pointer (some ⟨b, 0, none⟩), .int .i64 (k : Nat)] W fun r w' => (∃ A c, r = .returned (.slice A (Y.tabs.getD k []).length c) ∧ w'.ownsRow W.heap.size 100 7 (.slice A (Y.tabs.getD k []).length c) (Y.tabs.getD k []).length (rcells (Y.tabs.getD k []))) ∧ Below W.heap.size W w') := fun W k f hk => tio_records (hU.fr0 f) (by omega) k (by omega)
 have HNo : Hid (∀ k, k < n → (decide (fromV xn l fl k = fromV yn l fl k) && decide (X.tabs.getD k [] = Y.tabs.getD k [])) = false → sameX X Y = false) := fun k hk h => by
  cases hs : sameX X Y with
  | false => rfl
  | true =>
   exfalso
   unfold sameX at hs
   simp only [Bool.and_eq_true, decide_eq_true_eq] at hs
   obtain ⟨_, hs1, _, hs3⟩ := hs
   rw [hs3, ← hxn, ← hyn, hs1] at h
   simp at h
 have HYes : Hid ((∀ k, k < n → fromV xn l fl k = fromV yn l fl k ∧ X.tabs.getD k [] = Y.tabs.getD k []) → sameX X Y = decide (xn = yn)) := fun h => by
  unfold sameX
  rw [hT.good.name, hU.good.name, hT.good.tiers, hU.good.tiers, hT.good.floors, hU.good.floors, hxn, hyn]
  have e1 : fromsV xn l fl = fromsV yn l fl := by
   unfold fromsV
   exact List.map_congr_left (fun k hk => (h k (by have := List.mem_range.1 hk; omega)).1)
  have e2 : X.tabs = Y.tabs := by
   rw [← getD_all hXl, ← getD_all hYl]
   exact List.map_congr_left (fun k hk => (h k (List.mem_range.1 hk)).2)
  rw [e1, e2]
  simp
 obtain ⟨S, hS⟩ : ∃ v, sameX X Y = v := ⟨_, rfl⟩
 rw [hS] at HNo HYes ⊢
 clear hT hU hn0 hmf hxn hyn h1 h2 hXl hYl hS
 go_enter Tryz.func22, Tryz.ntmps22
 go_wp2_with fail
 go_loopw [7] (fun i wr => ∃ k : Nat, k ≤ n ∧ i = .int .i64 k ∧ (∀ j, j < k → fromV xn l fl j = fromV yn l fl j ∧ X.tabs.getD j [] = Y.tabs.getD j []) ∧ Fr (fun _ => False) w wr) (fun i _ => n - (intOf i).toNat)
 case atStart => exact ⟨0, Nat.zero_le _, rfl, fun j hj => absurd hj (by omega), Fr.refl _ _⟩
 case round =>
  obtain ⟨k, hk, rfl, hall, hf⟩ := hrel
  have Hall := Lib.hid hall
  have Hf := Lib.hid hf
  clear hall hf
  have HCr : Hid (∀ W, Fr (fun _ => False) wr W → W.cell? ⟨a, 0, none⟩ = some (.int .i64 xn) ∧ W.cell? ⟨a, 1, none⟩ = some (.string nm) ∧ W.cell? ⟨a, 2, none⟩ = some (.slice tA n tc) ∧ W.cell? ⟨a, 3, none⟩ = some (.slice tB mf td) ∧ W.cell? ⟨b, 0, none⟩ = some (.int .i64 yn) ∧ W.cell? ⟨b, 1, none⟩ = some (.string nm) ∧ W.cell? ⟨b, 2, none⟩ = some (.slice uA n uc) ∧ W.cell? ⟨b, 3, none⟩ = some (.slice uB mf ud)) := fun W f => HC.out W (Hf.out.trans f (fun _ h => h.elim))
  by_cases hlt : k < n
  ·have g0 : decide ((k : Int) < (n : Int)) = true := decide_eq_true (by omega)
   have hkw : IntKind.i64.wrap ((k : Int) + 1) = (k : Int) + 1 := by simp [IntKind.wrap, IntKind.signed, IntKind.bits]; omega
   have hlx := HXt.out k
   have hly := HYt.out k
   have HF1k := Lib.hid (fun W (f : Fr (fun _ => False) wr W) => HF1.out W k (Hf.out.trans f (fun _ h => h.elim)) hlt)
   have HF2k := Lib.hid (fun W (f : Fr (fun _ => False) wr W) => HF2.out W k (Hf.out.trans f (fun _ h => h.elim)) hlt)
   have HR1k := Lib.hid (fun W (f : Fr (fun _ => False) wr W) => HR1.out W k (Hf.out.trans f (fun _ h => h.elim)) hlt)
   have HR2k := Lib.hid (fun W (f : Fr (fun _ => False) wr W) => HR2.out W k (Hf.out.trans f (fun _ h => h.elim)) hlt)
   have HNk := Lib.hid (HNo.out k hlt)
   have HYk : Hid (fromV xn l fl k = fromV yn l fl k → X.tabs.getD k [] = Y.tabs.getD k [] → ∀ j, j < k + 1 → fromV xn l fl j = fromV yn l fl j ∧ X.tabs.getD j [] = Y.tabs.getD j []) := fun e1 e2 j hj => by
    by_cases e : j = k
    ·rw [e]; exact ⟨e1, e2⟩
    ·exact Hall.out j (by omega)
   obtain ⟨fx, hfx⟩ : ∃ v, fromV xn l fl k = v := ⟨_, rfl⟩
   obtain ⟨fy, hfy⟩ : ∃ v, fromV yn l fl k = v := ⟨_, rfl⟩
   obtain ⟨LX, hLX⟩ : ∃ v, X.tabs.getD k [] = v := ⟨_, rfl⟩
   obtain ⟨LY, hLY⟩ : ∃ v, Y.tabs.getD k [] = v := ⟨_, rfl⟩
   rw [hfx] at HF1k HNk HYk
   rw [hfy] at HF2k HNk HYk
   rw [hLX] at HR1k HNk HYk hlx
   rw [hLY] at HR2k HNk HYk hly
   clear hfx hfy hLX hLY
   by_cases hff : fx = fy
   case neg =>
    have e1 : (fx != fy) = true := by simpa using hff
    have e2 : (fx == fy) = false := by simpa using hff
    have hr : S = false := HNk.out (by rw [decide_eq_false hff]; rfl)
    subst hr
    go_wp2_with fail
    refine wp_region_held_drew (S := fun W_ => Fr (fun _ => False) wr W_) (by kernel_rfl) ((Fr.refl _ wr).drew) (fun hHeld => ?_)
    refine tl 0 ?v1 rfl ?q1 ?r1
    case q1 => intro W hSw; go_simp; try rfl
    refine tl 1 ?v2 rfl ?q2 ?r2
    case q2 => intro W hSw; go_simp; try rfl
    refine tl 2 ?v3 rfl ?q3 ?r3
    case q3 => intro W hSw; go_simp; try rfl
    refine tl 3 ?v4 rfl ?q4 ?r4
    case q4 => intro W hSw; (try obtain ⟨q0, q1, q2, q3, q4, q5, q6, q7⟩ := HCr.out W hSw); go_simp; try rfl
    refine tl 4 ?v5 rfl ?q5 ?r5
    case q5 => intro W hSw; go_simp; try rfl
    refine tl 6 ?v6 rfl ?q6 ?r6
    case q6 => intro W hSw; go_simp; try rfl
    refine tl 7 ?v7 rfl ?q7 ?r7
    case q7 => intro W hSw; go_simp; try rfl
    refine tl 8 ?v8 rfl ?q8 ?r8
    case q8 => intro W hSw; go_simp; try rfl
    refine tl 9 ?v9 rfl ?q9 ?r9
    case q9 => intro W hSw; (try obtain ⟨q0, q1, q2, q3, q4, q5, q6, q7⟩ := HCr.out W hSw); go_simp; try rfl
    refine tl 10 ?v10 rfl ?q10 ?r10
    case q10 => intro W hSw; go_simp; try rfl
    try simp only [Act.put, sA, sB, sC]
    refine rl 5 rfl (fun K hK => ?_)
    go_simp
    go_wp2_with (first | (go_at_call 62; refine (HF1k.out _ hHeld).mono ?_; rintro r wa ⟨rfl, ba⟩))
    refine hK.out _ _ (hHeld.trans (Fr.b0 ba) (fun _ h => h.elim)) (fun hHeld => ?_)
    clear hK K
    try simp only [Act.put, sA, sB, sC]
    refine rl 11 rfl (fun K hK => ?_)
    go_simp
    go_wp2_with (first | (go_at_call 62; refine (HF2k.out _ hHeld).mono ?_; rintro r wb ⟨rfl, bb⟩))
    refine hK.out _ _ (hHeld.trans (Fr.b0 bb) (fun _ h => h.elim)) (fun hHeld => ?_)
    clear hK K
    refine tl 12 ?v11 rfl ?q11 ?r11
    case q11 => intro W hSw; (try obtain ⟨q0, q1, q2, q3, q4, q5, q6, q7⟩ := HCr.out W hSw); go_simp; try rfl
    refine tl 13 ?v12 rfl ?q12 ?r12
    case q12 => intro W hSw; go_simp; try rfl
    try simp only [Act.put, sA, sB, sC]
    refine tu 14 rfl ?_
    try simp only [Act.put, sA, sB, sC]
    refine tu 15 rfl ?_
    try simp only [Act.put, sA, sB, sC]
    refine tu 16 rfl ?_
    try simp only [Act.put, sA, sB, sC]
    refine tu 17 rfl ?_
    try simp only [Act.put, sA, sB, sC]
    refine tu 18 rfl ?_
    try simp only [Act.put, sA, sB, sC]
    refine tu 19 rfl ?_
    try simp only [Act.put, sA, sB, sC]
    refine tu 20 rfl ?_
    try simp only [Act.put, sA, sB, sC]
    refine tu 21 rfl ?_
    refine tl 22 ?v13 rfl ?q13 ?r13
    case q13 => intro W hSw; go_simp; try rfl
    try simp only [Act.put, sA, sB, sC]
    refine wpAnyH_done (by kernel_rfl) ?_ _
    have FE := Lib.hid (Hf.out.trans hHeld (fun _ h => h.elim))
    clear hHeld
    go_wp2_with fail
    go_ret
    exact ⟨rfl, FE.out.below (fun _ h => h.elim)⟩
   case pos =>
   subst hff
   have e1 : (fx != fx) = false := by simp
   have e2 : (fx == fx) = true := by simp
   have HSm : Hid (∀ W A1 c1 A2 c2, Rd W 7 A1 LX.length (rcells LX) → Rd W 7 A2 LY.length (rcells LY) → Calls Tryz.prog 28 #[.slice A1 LX.length c1, .slice A2 LY.length c2] W fun r w' => r = .returned (.bool (decide (LX = LY))) ∧ Below W.heap.size W w') := fun W A1 c1 A2 c2 h1 h2 => samerecs_any LX LY A1 LX.length c1 A2 LY.length c2 W h1 h2 (by omega) (by omega)
   obtain ⟨sb, hsb⟩ : ∃ v, decide (LX = LY) = v := ⟨_, rfl⟩
   rw [hsb] at HSm
   have Hsb := Lib.hid hsb
   obtain ⟨nx, hnx⟩ : ∃ v, LX.length = v := ⟨_, rfl⟩
   obtain ⟨ny, hny⟩ : ∃ v, LY.length = v := ⟨_, rfl⟩
   rw [hnx] at HR1k HSm
   rw [hny] at HR2k HSm
   clear hsb hnx hny
   go_wp2_with fail
   refine wp_region_held_drew (S := fun W_ => Fr (fun _ => False) wr W_) (by kernel_rfl) ((Fr.refl _ wr).drew) (fun hHeld => ?_)
   refine tl 0 ?v14 rfl ?q14 ?r14
   case q14 => intro W hSw; go_simp; try rfl
   refine tl 1 ?v15 rfl ?q15 ?r15
   case q15 => intro W hSw; go_simp; try rfl
   refine tl 2 ?v16 rfl ?q16 ?r16
   case q16 => intro W hSw; go_simp; try rfl
   refine tl 3 ?v17 rfl ?q17 ?r17
   case q17 => intro W hSw; (try obtain ⟨q0, q1, q2, q3, q4, q5, q6, q7⟩ := HCr.out W hSw); go_simp; try rfl
   refine tl 4 ?v18 rfl ?q18 ?r18
   case q18 => intro W hSw; go_simp; try rfl
   refine tl 6 ?v19 rfl ?q19 ?r19
   case q19 => intro W hSw; go_simp; try rfl
   refine tl 7 ?v20 rfl ?q20 ?r20
   case q20 => intro W hSw; go_simp; try rfl
   refine tl 8 ?v21 rfl ?q21 ?r21
   case q21 => intro W hSw; go_simp; try rfl
   refine tl 9 ?v22 rfl ?q22 ?r22
   case q22 => intro W hSw; (try obtain ⟨q0, q1, q2, q3, q4, q5, q6, q7⟩ := HCr.out W hSw); go_simp; try rfl
   refine tl 10 ?v23 rfl ?q23 ?r23
   case q23 => intro W hSw; go_simp; try rfl
   try simp only [Act.put, sA, sB, sC]
   refine rl 5 rfl (fun K hK => ?_)
   go_simp
   go_wp2_with (first | (go_at_call 62; refine (HF1k.out _ hHeld).mono ?_; rintro r wa ⟨rfl, ba⟩))
   refine hK.out _ _ (hHeld.trans (Fr.b0 ba) (fun _ h => h.elim)) (fun hHeld => ?_)
   clear hK K
   try simp only [Act.put, sA, sB, sC]
   refine rl 11 rfl (fun K hK => ?_)
   go_simp
   go_wp2_with (first | (go_at_call 62; refine (HF2k.out _ hHeld).mono ?_; rintro r wb ⟨rfl, bb⟩))
   refine hK.out _ _ (hHeld.trans (Fr.b0 bb) (fun _ h => h.elim)) (fun hHeld => ?_)
   clear hK K
   refine tl 12 ?v24 rfl ?q24 ?r24
   case q24 => intro W hSw; (try obtain ⟨q0, q1, q2, q3, q4, q5, q6, q7⟩ := HCr.out W hSw); go_simp; try rfl
   refine tl 13 ?v25 rfl ?q25 ?r25
   case q25 => intro W hSw; go_simp; try rfl
   try simp only [Act.put, sA, sB, sC]
   refine tl 14 ?v26 rfl ?q26 ?r26
   case q26 => intro W hSw; go_simp; try rfl
   try simp only [Act.put, sA, sB, sC]
   refine tl 15 ?v27 rfl ?q27 ?r27
   case q27 => intro W hSw; go_simp; try rfl
   try simp only [Act.put, sA, sB, sC]
   refine tl 17 ?v28 rfl ?q28 ?r28
   case q28 => intro W hSw; go_simp; try rfl
   try simp only [Act.put, sA, sB, sC]
   refine tl 18 ?v29 rfl ?q29 ?r29
   case q29 => intro W hSw; go_simp; try rfl
   try simp only [Act.put, sA, sB, sC]
   refine rl 16 rfl (fun K hK => ?_)
   go_simp
   go_wp2_with (first | (go_at_call 54; refine (HR1k.out _ hHeld).mono ?_; rintro r wc ⟨⟨A1, c1, rfl, o1⟩, bc⟩))
   refine hK.out _ _ (hHeld.trans (Fr.b0 bc) (fun _ h => h.elim)) (fun hHeld => ?_)
   clear hK K
   try simp only [Act.put, sA, sB, sC]
   refine rl 19 rfl (fun K hK => ?_)
   go_simp
   go_wp2_with (first | (go_at_call 54; refine (HR2k.out _ hHeld).mono ?_; rintro r wd ⟨⟨A2, c2, rfl, o2⟩, bd⟩))
   have HS2 := Lib.hid (HSm.out wd A1 c1 A2 c2 (own_any (own_fr0 o1 (Fr.b0 bd))).2.2.1 (own_any o2).2.2.1)
   refine hK.out _ _ (hHeld.trans (Fr.b0 bd) (fun _ h => h.elim)) (fun hHeld => ?_)
   clear hK K
   try simp only [Act.put, sA, sB, sC]
   refine rl 20 rfl (fun K hK => ?_)
   go_simp
   go_wp2_with (first | (go_at_call 28; refine (HS2.out).mono ?_; rintro r we ⟨rfl, be⟩))
   refine hK.out _ _ (hHeld.trans (Fr.b0 be) (fun _ h => h.elim)) (fun hHeld => ?_)
   clear hK K
   try simp only [Act.put, sA, sB, sC]
   refine tl 21 ?v30 rfl ?q30 ?r30
   case q30 => intro W hSw; go_simp; try rfl
   refine tl 22 ?v31 rfl ?q31 ?r31
   case q31 => intro W hSw; go_simp; try rfl
   try simp only [Act.put, sA, sB, sC]
   refine wpAnyH_done (by kernel_rfl) ?_ _
   have FE := Lib.hid (Hf.out.trans hHeld (fun _ h => h.elim))
   clear hHeld
   cases sb with
   | false =>
    have hr : S = false := HNk.out (by rw [decide_eq_false (of_decide_eq_false Hsb.out), Bool.and_false])
    subst hr
    go_wp2_with fail
    go_ret
    exact ⟨rfl, FE.out.below (fun _ h => h.elim)⟩
   | true =>
    have Hnx := Lib.hid (HYk.out (by trivial) (of_decide_eq_true Hsb.out))
    go_wp2_with fail
    go_roundw
    case rel => exact ⟨k + 1, by omega, by go_num, Hnx.out, FE.out⟩
    case measure => simp [intOf]; omega
  ·obtain rfl : k = n := by omega
   have g0 : decide ((k : Int) < (k : Int)) = false := decide_eq_false (by omega)
   have hr := HYes.out Hall.out
   have Hr := Lib.hid hr
   clear hr
   have hxy : (xn == yn) = decide (xn = yn) := rfl
   go_wp2_with fail
   refine wp_region_held_drew (S := fun W_ => Fr (fun _ => False) wr W_) (by kernel_rfl) ((Fr.refl _ wr).drew) (fun hHeld => ?_)
   refine tl 0 ?v32 rfl ?q32 ?r32
   case q32 => intro W hSw; go_simp; try rfl
   refine tl 1 ?v33 rfl ?q33 ?r33
   case q33 => intro W hSw; go_simp; try rfl
   refine tl 2 ?v34 rfl ?q34 ?r34
   case q34 => intro W hSw; go_simp; try rfl
   refine tl 3 ?v35 rfl ?q35 ?r35
   case q35 => intro W hSw; go_simp; try rfl
   refine tl 4 ?v36 rfl ?q36 ?r36
   case q36 => intro W hSw; (try obtain ⟨q0, q1, q2, q3, q4, q5, q6, q7⟩ := HCr.out W hSw); go_simp; try rfl
   refine tl 5 ?v37 rfl ?q37 ?r37
   case q37 => intro W hSw; go_simp; try rfl
   refine tl 6 ?v38 rfl ?q38 ?r38
   case q38 => intro W hSw; go_simp; try rfl
   refine tl 7 ?v39 rfl ?q39 ?r39
   case q39 => intro W hSw; go_simp; try rfl
   refine tl 8 ?v40 rfl ?q40 ?r40
   case q40 => intro W hSw; go_simp; try rfl
   refine tl 9 ?v41 rfl ?q41 ?r41
   case q41 => intro W hSw; (try obtain ⟨q0, q1, q2, q3, q4, q5, q6, q7⟩ := HCr.out W hSw); go_simp; try rfl
   refine tl 10 ?v42 rfl ?q42 ?r42
   case q42 => intro W hSw; (try obtain ⟨q0, q1, q2, q3, q4, q5, q6, q7⟩ := HCr.out W hSw); go_simp; try rfl
   refine tl 11 ?v43 rfl ?q43 ?r43
   case q43 => intro W hSw; (try obtain ⟨q0, q1, q2, q3, q4, q5, q6, q7⟩ := HCr.out W hSw); go_simp; try rfl
   try simp only [Act.put, sA, sB, sC]
   refine wpAnyH_done (by kernel_rfl) ?_ _
   have FE := Lib.hid (Hf.out.trans hHeld (fun _ h => h.elim))
   clear hHeld
   go_wp2_with fail
   go_ret
   exact ⟨by rw [Hr.out]; first | rfl | simp, FE.out.below (fun _ h => h.elim)⟩
end Go.Proofs.YtbblmmneeafhgaaGreat
