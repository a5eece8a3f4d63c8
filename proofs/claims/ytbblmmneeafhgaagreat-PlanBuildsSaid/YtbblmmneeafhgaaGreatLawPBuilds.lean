/- PlanBuilds' walk: of every tiers and every plan: the new tiers, or the error; the old ones stay. -/
import Derived.Test.YtbblmmneeafhgaaGreatAlive
import Derived.Test.YtbblmmneeafhgaaGreatTiers13
import Derived.Test.YtbblmmneeafhgaaGreatOpC
import Derived.Test.YtbblmmneeafhgaaGreatShows
import Derived.Test.YtbblmmneeafhgaaGreatRBuild
import Derived.Test.YtbblmmneeafhgaaGreatBuildNil
import Derived.Test.YtbblmmneeafhgaaGreatTio
import Derived.Test.YtbblmmneeafhgaaGreatTk
namespace Go.Proofs.YtbblmmneeafhgaaGreat
set_option linter.all false
open Go.RowKit

set_option maxRecDepth 100000 in
set_option maxHeartbeats 2000000 in
theorem plain_any (nm : ByteArray) (A : Option Addr) (n c : Nat) (S : Option Addr) (m d : Nat) (w : World) :
  Calls Tryz.prog 35 #[.agg #[.string nm, .slice A n c, .slice S m d]] w fun r w' => r = .returned (.agg #[.string nm, .slice A n c, .slice S m d]) ∧ Below w.heap.size w w' := by
 have d0 : ∀ o, ((w.alloc (.cells #[.string nm, .slice A n c, .slice S m d] 76)).alloc o).cell? ⟨w.heap.size, 0, none⟩ = some (.string nm) := fun o => ((Blk.new w 76 #[.string nm, .slice A n c, .slice S m d]).alloc o).cell 0
 have d1 : ∀ o, ((w.alloc (.cells #[.string nm, .slice A n c, .slice S m d] 76)).alloc o).cell? ⟨w.heap.size, 1, none⟩ = some (.slice A n c) := fun o => ((Blk.new w 76 #[.string nm, .slice A n c, .slice S m d]).alloc o).cell 1
 have d2 : ∀ o, ((w.alloc (.cells #[.string nm, .slice A n c, .slice S m d] 76)).alloc o).cell? ⟨w.heap.size, 2, none⟩ = some (.slice S m d) := fun o => ((Blk.new w 76 #[.string nm, .slice A n c, .slice S m d]).alloc o).cell 2
 go_enter Tryz.func35, Tryz.ntmps35
 go_upto_region 1 with fail
 obtain ⟨W2, hW2⟩ : ∃ v, v = (w.alloc (.cells #[.string nm, .slice A n c, .slice S m d] 76)).alloc (.cells #[.string { data := #[] }, .slice none 0 0, .slice none 0 0] 85) := ⟨_, rfl⟩
 have HW2 := Lib.hid hW2
 have B2 : Blk W2 (w.heap.size + 1) 85 #[.string { data := #[] }, .slice none 0 0, .slice none 0 0] := by rw [hW2]; exact Blk.new' (by simp) _ _
 have F2 : Fr (fun _ => False) w W2 := by rw [hW2]; exact (Fr.none_alloc _ _).trans (Fr.none_alloc _ _) (fun _ h => h.elim)
 have x0 := d0 (.cells #[.string { data := #[] }, .slice none 0 0, .slice none 0 0] 85)
 have x1 := d1 (.cells #[.string { data := #[] }, .slice none 0 0, .slice none 0 0] 85)
 have x2 := d2 (.cells #[.string { data := #[] }, .slice none 0 0, .slice none 0 0] 85)
 rw [← hW2] at x0 x1 x2
 have y0 := B2.cell 0
 have y1 := B2.cell 1
 have y2 := B2.cell 2
 simp only [List.getElem?_toArray, List.getElem?_cons_succ, List.getElem?_cons_zero] at y0 y1 y2
 have z0 := B2.frozen 0
 have z1 := B2.frozen 1
 have z2 := B2.frozen 2
 have B3 := Lib.hid (B2.set3 (a := .string nm) (b := .slice A n c) (c := .slice S m d))
 have F3 := Lib.hid (F2.set3 (g := w.heap.size + 1) (.inr (by omega)) (.string nm) (.slice A n c) (.slice S m d))
 clear d0 d1 d2 B2 F2 hW2
 rw [← HW2.out]
 go_wp2_with fail
 obtain ⟨W3, hW3⟩ : ∃ v, v = ((W2.setCell ⟨w.heap.size + 1, 0, none⟩ (.string nm)).setCell ⟨w.heap.size + 1, 1, none⟩ (.slice A n c)).setCell ⟨w.heap.size + 1, 2, none⟩ (.slice S m d) := ⟨_, rfl⟩
 rw [← hW3]
 rw [← hW3] at B3 F3
 have u0 := B3.out.cell 0
 have u1 := B3.out.cell 1
 have u2 := B3.out.cell 2
 simp only [List.getElem?_toArray, List.getElem?_cons_succ, List.getElem?_cons_zero] at u0 u1 u2
 clear x0 x1 x2 y0 y1 y2 z0 z1 z2 hW3
 refine bodyPost_ret (v := .agg #[.string nm, .slice A n c, .slice S m d]) ?_ rfl ⟨rfl, F3.out.below (fun _ h => h.elim)⟩
 simp [results, Tryz.results35, go_sem, *]
set_option maxRecDepth 100000 in
set_option maxHeartbeats 8000000 in
theorem pbuilds_walk (nm : ByteArray) (l : List TierV) (A : Option Addr) (n c : Nat) (nm2 : ByteArray) (lt : List TierV) (A2 : Option Addr) (n2 c2 : Nat) (now : Int) (ops : List OpC) (B : Option Addr) (m d : Nat) (fl : List Int) (Bf : Option Addr) (mf df : Nat) (raw : Bool) (sl6 : List Int) (A6 : Option Addr) (m6 d6 : Nat) (w : World) (hnm : nm.size ≤ maxLen) (hr : Rd w 4 A n (tcells l)) (hnc : n ≤ c) (hn9 : n ≤ 9223372036854775807) (hwf : ∀ t ∈ l, t.wf) (hnm2 : nm2.size ≤ maxLen) (hr2 : Rd w 4 A2 n2 (tcells lt)) (hnc2 : n2 ≤ c2) (hn92 : n2 ≤ 9223372036854775807) (hwf2 : ∀ t ∈ lt, t.wf) (hnow : -9223372036854775808 ≤ now ∧ now ≤ 9223372036854775807) (hs : Rd w 4 B m (opcells ops)) (hm9 : m ≤ 9223372036854775807) (hok : ∀ o ∈ ops, o.ok w) (hf : Rd w 1 Bf mf (ints fl)) (hmf9 : mf ≤ 9223372036854775807) (hfl64 : ∀ f ∈ fl, i64 f) (hs6 : Rd w 1 A6 m6 (ints sl6)) (hm69 : m6 ≤ 9223372036854775807) (hss : ∀ s ∈ sl6, i64 s) :
  Calls Tryz.prog 4 #[.agg #[.string nm, .slice A n c], .agg #[.string nm2, .slice A2 n2 c2], .int .i64 now, .slice Bf mf df, .slice B m d, .bool raw, .slice A6 m6 d6] w fun e w' => e = .returned (.bool true) ∧ Below w.heap.size w w' := by
 have HAl := Lib.hid alive13_any
 have HSm : Hid (∀ W, Fr (fun _ => False) w W → Calls Tryz.prog 5 #[.agg #[.string nm, .slice A n c]] W fun r w' => SmallR nm n r ∧ Below W.heap.size W w') := fun W f => bsmall_any nm l A n c W (hr.fr0 f) hn9 hnm (fun t h => (hwf t h).2.2.2)
 have HSm2 : Hid (∀ W, Fr (fun _ => False) w W → Calls Tryz.prog 5 #[.agg #[.string nm2, .slice A2 n2 c2]] W fun r w' => SmallR nm2 n2 r ∧ Below W.heap.size W w') := fun W f => bsmall_any nm2 lt A2 n2 c2 W (hr2.fr0 f) hn92 hnm2 (fun t h => (hwf2 t h).2.2.2)
 have HLi : Hid (∀ W, Fr (fun _ => False) w W → Calls Tryz.prog 6 #[.slice B m d] W fun r w' => LightR2 ops m r ∧ W = w') := fun W f => light2_any ops B m d W (hs.fr0 f) (fun o h => (hok o h).below (f.below (fun _ h => h.elim))) hm9
 have HT13 : Hid (∀ W, n ≤ 10 → mf ≤ 12 → m ≤ 50 → (∀ o ∈ ops, o.sn ≤ 20 ∧ o.ln ≤ 20) → Fr (fun _ => False) w W → Calls Tryz.prog 32 #[.agg #[.string nm, .slice A n c], .int .i64 now, .slice Bf mf df, .slice B m d] W fun r w' => T13 nm l fl W.heap.size (opsX (newX nm l now fl) ops) (newE nm l now fl) r w' ∧ Below W.heap.size W w') := fun W h10 h12 h50 hl f =>
  tiers13_any nm hnm l A n c now hnow fl Bf mf df ops B m d W (hr.fr0 f) hnc hwf (by omega) (hf.fr0 f) (by omega) (hs.fr0 f) (fun o h => (hok o h).below (f.below (fun _ h => h.elim))) hl h50
 have Hr2 := Lib.hid hr2
 have Hr := Lib.hid hr
 have Hll := Lib.hid hr.tiers_len
 have Hll2 := Lib.hid hr2.tiers_len
 obtain ⟨W0, hW0⟩ : ∃ W0, W0 = ((w.alloc (.cells #[.string nm, .slice A n c] 24)).alloc (.cells #[.string nm2, .slice A2 n2 c2] 24)) := ⟨_, rfl⟩
 have HW0 := Lib.hid hW0
 have F0 : Hid (Fr (fun _ => False) w W0) := by show Fr _ _ _; rw [hW0]; exact (Fr.none_alloc _ _).trans (Fr.none_alloc _ _) (fun _ h => h.elim)
 have B0a : Hid (Blk W0 (w.heap.size) 24 #[.string nm, .slice A n c]) := by show Blk _ _ _ _; rw [hW0]; exact ((Blk.new' (by simp) _ _).alloc _)
 have B0b : Hid (Blk W0 (w.heap.size + 1) 24 #[.string nm2, .slice A2 n2 c2]) := by show Blk _ _ _ _; rw [hW0]; exact (Blk.new' (by simp) _ _)
 clear hr hr2 hwf hs hok hW0
 have Hss := Lib.hid hss
 have Hfl64 := Lib.hid hfl64
 have Hs6 := Lib.hid hs6
 have Hlf : Hid (fl.length = mf) := Rd.len_map hf
 clear hss hfl64 hs6 hf
 go_enter Tryz.func4, Tryz.ntmps4
 go_wp2_with fail
 rw [← HW0.out]
 refine (HSm.out _ F0.out).mono ?_
 rintro r w1 ⟨⟨b, rfl, hb⟩, b1⟩
 have F1 := Lib.hid (F0.out.trans (Fr.b0 b1) (fun _ h => h.elim))
 have B1a := Lib.hid (B0a.out.below b1)
 have B1b := Lib.hid (B0b.out.below b1)
 have x0 := B1a.out.cell 0
 have x1 := B1a.out.cell 1
 simp only [List.getElem?_toArray, List.getElem?_cons_succ, List.getElem?_cons_zero] at x0 x1
 have y0 := B1b.out.cell 0
 have y1 := B1b.out.cell 1
 simp only [List.getElem?_toArray, List.getElem?_cons_succ, List.getElem?_cons_zero] at y0 y1
 clear b1
 cases b with
 | false =>
  clear hb
  go_wp2_with fail
  refine (HAl.out _).mono ?_
  rintro r wq ⟨rfl, bq⟩
  go_wp2_with fail
  go_ret
  exact ⟨rfl, (F1.out.trans (Fr.b0 bq) (fun _ h => h.elim)).below (fun _ h => h.elim)⟩
 | true =>
 have h10 : n ≤ 10 := (hb rfl).1
 clear hb
 go_wp2_with fail
 refine (HSm2.out _ F1.out).mono ?_
 rintro r w2 ⟨⟨b, rfl, hb⟩, b2⟩
 have F2 := Lib.hid (F1.out.trans (Fr.b0 b2) (fun _ h => h.elim))
 have B2a := Lib.hid (B1a.out.below b2)
 have B2b := Lib.hid (B1b.out.below b2)
 clear x0 x1 y0 y1
 have x0 := B2a.out.cell 0
 have x1 := B2a.out.cell 1
 simp only [List.getElem?_toArray, List.getElem?_cons_succ, List.getElem?_cons_zero] at x0 x1
 have y0 := B2b.out.cell 0
 have y1 := B2b.out.cell 1
 simp only [List.getElem?_toArray, List.getElem?_cons_succ, List.getElem?_cons_zero] at y0 y1
 clear b2
 cases b with
 | false =>
  clear hb
  go_wp2_with fail
  refine (HAl.out _).mono ?_
  rintro r wq ⟨rfl, bq⟩
  go_wp2_with fail
  go_ret
  exact ⟨rfl, (F2.out.trans (Fr.b0 bq) (fun _ h => h.elim)).below (fun _ h => h.elim)⟩
 | true =>
 have h102 : n2 ≤ 10 := (hb rfl).1
 clear hb
 by_cases hf12 : 12 < mf
 ·have hd : decide ((12 : Int) < (mf : Int)) = true := decide_eq_true (by omega)
  go_wp2_with fail
  refine (HAl.out _).mono ?_
  rintro r wq ⟨rfl, bq⟩
  go_wp2_with fail
  go_ret
  exact ⟨rfl, (F2.out.trans (Fr.b0 bq) (fun _ h => h.elim)).below (fun _ h => h.elim)⟩
 have hd : decide ((12 : Int) < (mf : Int)) = false := decide_eq_false (by omega)
 by_cases hs12 : 12 < m6
 ·have hd2 : decide ((12 : Int) < (m6 : Int)) = true := decide_eq_true (by omega)
  go_wp2_with fail
  refine (HAl.out _).mono ?_
  rintro r wq ⟨rfl, bq⟩
  go_wp2_with fail
  go_ret
  exact ⟨rfl, (F2.out.trans (Fr.b0 bq) (fun _ h => h.elim)).below (fun _ h => h.elim)⟩
 have hd2 : decide ((12 : Int) < (m6 : Int)) = false := decide_eq_false (by omega)
 go_wp2_with fail
 refine (HLi.out _ F2.out).mono ?_
 rintro r w' ⟨⟨b, rfl, hb⟩, rfl⟩
 cases b with
 | false =>
  clear hb
  go_wp2_with fail
  refine (HAl.out _).mono ?_
  rintro r wq ⟨rfl, bq⟩
  go_wp2_with fail
  go_ret
  exact ⟨rfl, (F2.out.trans (Fr.b0 bq) (fun _ h => h.elim)).below (fun _ h => h.elim)⟩
 | true =>
 have h50 : m ≤ 50 := (hb rfl).1
 have Hl20 := Lib.hid (hb rfl).2
 clear hb HLi hd hd2
 go_wp2_with fail
 refine (HT13.out _ h10 (by omega) h50 Hl20.out F2.out).mono ?_
 rintro r w3 ⟨hT, b3⟩
 have F3 := Lib.hid (F2.out.trans (Fr.b0 b3) (fun _ h => h.elim))
 have B3a := Lib.hid (B2a.out.below b3)
 have B3b := Lib.hid (B2b.out.below b3)
 clear x0 x1 y0 y1
 have x0 := B3a.out.cell 0
 have x1 := B3a.out.cell 1
 simp only [List.getElem?_toArray, List.getElem?_cons_succ, List.getElem?_cons_zero] at x0 x1
 have y0 := B3b.out.cell 0
 have y1 := B3b.out.cell 1
 simp only [List.getElem?_toArray, List.getElem?_cons_succ, List.getElem?_cons_zero] at y0 y1
 have hw23 := b3.size
 clear b3
 by_cases hE : newE nm l now fl = 0
 case neg =>
  obtain rfl := hT.2 hE
  clear hT
  go_wp2_with fail
  refine (HAl.out _).mono ?_
  rintro r wq ⟨rfl, bq⟩
  go_wp2_with fail
  go_ret
  exact ⟨rfl, (F3.out.trans (Fr.b0 bq) (fun _ h => h.elim)).below (fun _ h => h.elim)⟩
 case pos =>
 obtain ⟨hP, t, g, F, rfl, hD⟩ := hT.1 hE
 have P := Lib.hid hP
 have HD3 := Lib.hid hD
 obtain ⟨Z, hZ⟩ : ∃ Z, opsX (newX nm l now fl) ops = Z := ⟨_, rfl⟩
 rw [hZ] at HD3
 have HT3 := Lib.hid HD3.out.tio
 obtain ⟨tA, tc, tB, td, hRe⟩ := HT3.out.reach
 have hg0 := HT3.out.good
 have Hwf2 := Lib.hid hwf2
 have hll : l.length = n := Hll.out
 have hll2 : lt.length = n2 := Hll2.out
 clear hT hP hD hZ HT13 HSm HSm2 hE
 obtain ⟨pb, hpb⟩ : ∃ v, w3.heap.size = v := ⟨_, rfl⟩
 obtain ⟨W4, hW4⟩ : ∃ v, v = w3.alloc (.cells #[.string nm2, .slice A2 n2 c2, .slice A6 m6 d6] 76) := ⟨_, rfl⟩
 have HW4 := Lib.hid hW4
 have F34 : Hid (Fr (fun _ => False) w3 W4) := by show Fr _ _ _; rw [hW4]; exact Fr.none_alloc _ _
 have BP4 : Hid (Blk W4 pb 76 #[.string nm2, .slice A2 n2 c2, .slice A6 m6 d6]) := by show Blk _ _ _ _; rw [hW4]; exact Blk.new' hpb.symm _ _
 have F4 := Lib.hid (F3.out.trans F34.out (fun _ h => h.elim))
 have B4a := Lib.hid (B3a.out.fr F34.out (fun h => h))
 have B4b := Lib.hid (B3b.out.fr F34.out (fun h => h))
 have HT4 := Lib.hid (HT3.out.fr0 F34.out)
 have HRe4 := Lib.hid (hRe.fr0 F34.out)
 obtain ⟨x0, hx0⟩ : ∃ v, Z.now = v := ⟨_, rfl⟩
 rw [hx0] at HRe4
 have hx00 : 0 ≤ x0 ∧ x0 ≤ 1099511627776 := by rw [← hx0]; exact hg0.now
 have Hx0 := Lib.hid hx0
 have HC8 : Hid (∀ W, Fr (fun _ => False) W4 W → W.cell? ⟨w.heap.size, 0, none⟩ = some (.string nm) ∧ W.cell? ⟨w.heap.size, 1, none⟩ = some (.slice A n c) ∧ W.cell? ⟨w.heap.size + 1, 0, none⟩ = some (.string nm2) ∧ W.cell? ⟨w.heap.size + 1, 1, none⟩ = some (.slice A2 n2 c2) ∧ W.cell? ⟨t, 0, none⟩ = some (.int .i64 x0) ∧ W.cell? ⟨t, 1, none⟩ = some (.string nm) ∧ W.cell? ⟨t, 2, none⟩ = some (.slice tA n tc) ∧ W.cell? ⟨t, 3, none⟩ = some (.slice tB mf td)) := fun W f => by
  have b1 := B4a.out.fr f (fun h => h)
  have b2 := B4b.out.fr f (fun h => h)
  have h := HRe4.out.fr0 f
  have h2 := h.c2
  have h3 := h.c3
  rw [hll] at h2
  rw [Hlf.out] at h3
  exact ⟨b1.cell 0, b1.cell 1, b2.cell 0, b2.cell 1, h.c0, h.c1, h2, h3⟩
 have HMkB : Hid (checkB nm2 lt = false → ∀ W, Fr (fun _ => False) W4 W → Calls Tryz.prog 33 #[.agg #[.string nm, .slice A n c], .agg #[.int .i64 x0, .string nm, .slice tA n tc, .slice tB mf td], .agg #[.string nm2, .slice A2 n2 c2]] W fun r w' => r = .returned (.tuple #[.agg #[.string { data := #[] }, .slice none 0 0, .slice none 0 0], .int .i64 23]) ∧ Below W.heap.size W w') := fun hb W f =>
  make_bad nm l A n c x0 nm tA n tc tB mf td nm2 lt A2 n2 c2 W (Hr.out.fr0 (F4.out.trans f (fun _ h => h.elim))) hnc (Hr2.out.fr0 (F4.out.trans f (fun _ h => h.elim))) hnc2 P.out.wf Hwf2.out hnm hnm2 (by rw [hb, Bool.and_false])
 have HMk : Hid (checkB nm2 lt = true → ∀ W, Fr (fun _ => False) W4 W → Calls Tryz.prog 33 #[.agg #[.string nm, .slice A n c], .agg #[.int .i64 x0, .string nm, .slice tA n tc, .slice tB mf td], .agg #[.string nm2, .slice A2 n2 c2]] W fun r w' => (∃ A' c' S cs, r = .returned (.tuple #[.agg #[.string nm2, .slice A' n2 c', .slice S n2 cs], .int .i64 0]) ∧ n2 ≤ c' ∧ ∀ wx, Fr (fun k => k < W.heap.size) w' wx → Rd wx 4 A' n2 (tcells lt) ∧ Rd wx 1 S n2 (ints (srcs x0 l fl lt))) ∧ Below W.heap.size W w') := fun hb W f => by
  have fW := F4.out.trans f (fun _ h => h.elim)
  have h := tio_make P.out ⟨hb, Hwf2.out⟩ hnm hnm2 (HRe4.out.fr0 f) hx00 A c (by rw [hll]; exact Hr.out.fr0 fW) (by omega) A2 c2 (by rw [hll2]; exact Hr2.out.fr0 fW) (by omega)
  rw [hll, Hlf.out, hll2] at h
  exact h
 clear hW4 hRe hx0
 go_upto_if 68 with fail
 rw [← HW4.out]
 try rw [hpb]
 go_cut [18, 19] (fun _ _ wx => ∃ (W5 : World) (A' : Option Addr) (c' : Nat) (S : Option Addr) (m' d' : Nat) (ss' : List Int), W5 = wx ∧ Blk wx pb 76 #[.string nm2, .slice A' n2 c', .slice S m' d'] ∧ n2 ≤ c' ∧ Rd wx 4 A' n2 (tcells lt) ∧ Rd wx 1 S m' (ints ss') ∧ (∀ s ∈ ss', i64 s) ∧ m' ≤ 12 ∧ Fr (fun _ => False) w3 wx)
 case first =>
  cases raw with
  | true =>
   go_wp2_with fail
   try go_meet
   exact ⟨_, A2, c2, A6, m6, d6, sl6, rfl, BP4.out, by omega, Hr2.out.fr0 F4.out, Hs6.out.fr0 F4.out, Hss.out, by omega, F34.out⟩
  | false =>
  cases hck2 : checkB nm2 lt with
  | false =>
   have HMk1 := Lib.hid (HMkB.out hck2)
   clear HMk HMkB hck2
   go_wp2_with fail
   refine wp_region_held_drew (S := fun W => Fr (fun _ => False) W4 W) (by kernel_rfl) ((Fr.refl _ W4).drew) (fun hHeld => ?_)
   refine tl 0 ⟨some 70, .load 24 (.tmp 7), 24, _, _, none⟩ ?v1 rfl ?q1 ?r1
   case q1 => intro W hSw; (try obtain ⟨q0, q1, q2, q3, q4, q5, q6, q7⟩ := HC8.out W hSw); go_simp; try rfl
   refine tl 1 ⟨some 71, .move (.tmp 15), 31, _, _, none⟩ ?v2 rfl ?q2 ?r2
   case q2 => intro W hSw; go_simp; try rfl
   refine tl 2 ⟨some 72, .nilCheck (.tmp 71), 0, _, _, none⟩ ?v3 rfl ?q3 ?r3
   case q3 => intro W hSw; go_simp; try rfl
   refine tl 3 ⟨some 73, .fieldAddr 83 (.tmp 72) 0, 0, _, _, none⟩ ?v4 rfl ?q4 ?r4
   case q4 => intro W hSw; go_simp; try rfl
   refine tl 4 ⟨some 74, .load 80 (.tmp 73), 80, _, _, none⟩ ?v5 rfl ?q5 ?r5
   case q5 => intro W hSw; (try obtain ⟨q0, q1, q2, q3, q4, q5, q6, q7⟩ := HC8.out W hSw); go_simp; try rfl
   refine tl 5 ⟨some 75, .load 24 (.tmp 8), 24, _, _, none⟩ ?v6 rfl ?q6 ?r6
   case q6 => intro W hSw; (try obtain ⟨q0, q1, q2, q3, q4, q5, q6, q7⟩ := HC8.out W hSw); go_simp; try rfl
   try simp only [Act.put, sA, sB, sC]
   refine wpAnyH_ready (rs := [6, 10]) (by kernel_rfl) (by simp) ?_
   refine AllReadyH.cons (o := ⟨some 76, .call ⟨.value (.func 33), #[.tmp 70, .tmp 74, .tmp 75], #[24, 80, 24]⟩, 77, _, _, none⟩) rfl (fun K hK => ?_) ?_
   ·go_simp
    go_wp2_with (first | (go_at_call 33; refine (HMk1.out _ hHeld).mono ?_; rintro r wm ⟨rfl, b5⟩))
    refine hK.out _ _ (hHeld.trans (Fr.b0 b5) (fun _ h => h.elim)) (fun hHeld => ?_)
    clear hK K
    refine tl 7 ⟨some 69, .move (.tmp 76), 77, _, _, none⟩ ?v7 rfl ?q7 ?r7
    case q7 => intro W hSw; go_simp; try rfl
    refine tl 8 ⟨some 77, .extract (.tmp 69) 0, 76, _, _, none⟩ ?v8 rfl ?q8 ?r8
    case q8 => intro W hSw; (try obtain ⟨q0, q1, q2, q3, q4, q5, q6, q7⟩ := HC8.out W hSw); go_simp; try rfl
    refine tl 9 ⟨some 78, .extract (.tmp 69) 1, 32, _, _, none⟩ ?v9 rfl ?q9 ?r9
    case q9 => intro W hSw; (try obtain ⟨q0, q1, q2, q3, q4, q5, q6, q7⟩ := HC8.out W hSw); go_simp; try rfl
    try simp only [Act.put, sA, sB, sC]
    refine rl 10 ⟨some 18, .alloc 76, 0, _, _, none⟩ rfl (fun K hK => ?_)
    go_simp
    have hHm := hHeld
    refine hK.out _ _ (hHm.trans (Fr.none_alloc _ _) (fun _ h => h.elim)) (fun hHeld => ?_)
    clear hK K
    try simp only [Act.put, sA, sB, sC]
    refine rl 11 ⟨none, .store 76 (.tmp 18) (.tmp 77), 0, _, _, none⟩ rfl (fun K hK => ?_)
    go_simp
    refine hK.out _ _ (hHm.trans (Fr.none_alloc _ _) (fun _ h => h.elim)) (fun hHeld => ?_)
    clear hK K
    refine tl 12 ⟨some 19, .assign (.tmp 78), 32, _, _, none⟩ ?v10 rfl ?q10 ?r10
    case q10 => intro W hSw; (try obtain ⟨q0, q1, q2, q3, q4, q5, q6, q7⟩ := HC8.out W hSw); go_simp; try rfl
    try simp only [Act.put, sA, sB, sC]
    refine wpAnyH_done (by kernel_rfl) ?_ _
    have FE := Lib.hid (F4.out.trans hHeld (fun _ h => h.elim))
    clear hHeld
    go_wp2_with fail
    refine (HAl.out _).mono ?_
    rintro r wq ⟨rfl, bq⟩
    go_wp2_with fail
    go_ret
    exact ⟨rfl, (FE.out.trans (Fr.b0 bq) (fun _ h => h.elim)).below (fun _ h => h.elim)⟩
   refine AllReadyH.cons (o := ⟨some 18, .alloc 76, 0, _, _, none⟩) rfl (fun K hK => ?_) AllReadyH.nil
   go_simp
   have BPz := Lib.hid (Blk.new W4 76 #[.string ByteArray.empty, .slice none 0 0, .slice none 0 0]).drew
   refine hK.out _ _ (by first | exact ((Fr.refl _ W4).alloc _).drew | exact hHeld.alloc _) (fun hHeld => ?_)
   clear hK K
   try simp only [Act.put, sA, sB, sC]
   refine rl 6 ⟨some 76, .call ⟨.value (.func 33), #[.tmp 70, .tmp 74, .tmp 75], #[24, 80, 24]⟩, 77, _, _, none⟩ rfl (fun K hK => ?_)
   go_simp
   go_wp2_with (first | (go_at_call 33; refine (HMk1.out _ hHeld).mono ?_; rintro r wm ⟨rfl, b5⟩))
   have BPm := Lib.hid (BPz.out.below b5)
   have g0 := BPm.out.frozen 0
   have g1 := BPm.out.frozen 1
   have g2 := BPm.out.frozen 2
   have q0 := BPm.out.cell 0
   have q1 := BPm.out.cell 1
   have q2 := BPm.out.cell 2
   simp only [List.getElem?_toArray, List.getElem?_cons_succ, List.getElem?_cons_zero] at q0 q1 q2
   refine hK.out _ _ (hHeld.trans (Fr.b0 b5) (fun _ h => h.elim)) (fun hHeld => ?_)
   clear hK K
   refine tl 7 ⟨some 69, .move (.tmp 76), 77, _, _, none⟩ ?v11 rfl ?q11 ?r11
   case q11 => intro W hSw; go_simp; try rfl
   refine tl 8 ⟨some 77, .extract (.tmp 69) 0, 76, _, _, none⟩ ?v12 rfl ?q12 ?r12
   case q12 => intro W hSw; (try obtain ⟨q0, q1, q2, q3, q4, q5, q6, q7⟩ := HC8.out W hSw); go_simp; try rfl
   refine tl 9 ⟨some 78, .extract (.tmp 69) 1, 32, _, _, none⟩ ?v13 rfl ?q13 ?r13
   case q13 => intro W hSw; (try obtain ⟨q0, q1, q2, q3, q4, q5, q6, q7⟩ := HC8.out W hSw); go_simp; try rfl
   try simp only [Act.put, sA, sB, sC]
   refine rl 11 ⟨none, .store 76 (.tmp 18) (.tmp 77), 0, _, _, none⟩ rfl (fun K hK => ?_)
   go_simp
   refine hK.out _ _ (hHeld.set3 (.inr (Nat.le_refl _)) _ _ _) (fun hHeld => ?_)
   clear hK K
   refine tl 12 ⟨some 19, .assign (.tmp 78), 32, _, _, none⟩ ?v14 rfl ?q14 ?r14
   case q14 => intro W hSw; (try obtain ⟨q0, q1, q2, q3, q4, q5, q6, q7⟩ := HC8.out W hSw); go_simp; try rfl
   try simp only [Act.put, sA, sB, sC]
   refine wpAnyH_done (by kernel_rfl) ?_ _
   have FE := Lib.hid (F4.out.trans hHeld (fun _ h => h.elim))
   clear hHeld
   go_wp2_with fail
   refine (HAl.out _).mono ?_
   rintro r wq ⟨rfl, bq⟩
   go_wp2_with fail
   go_ret
   exact ⟨rfl, (FE.out.trans (Fr.b0 bq) (fun _ h => h.elim)).below (fun _ h => h.elim)⟩
  | true =>
   have HMk1 := Lib.hid (HMk.out hck2)
   have P2 : PolOk nm2 lt := ⟨hck2, Hwf2.out⟩
   clear HMk HMkB
   go_wp2_with fail
   go_cut [18, 19] (fun s18 s19 wx => ∃ (W6 : World) (g' : Nat) (A' : Option Addr) (c' : Nat) (S : Option Addr) (cs : Nat), W6 = wx ∧ s18 = .pointer (some ⟨g', 0, none⟩) ∧ s19 = .int .i64 0 ∧ Blk wx g' 76 #[.string nm2, .slice A' n2 c', .slice S n2 cs] ∧ n2 ≤ c' ∧ (∀ wy, Fr (fun k => k = pb) wx wy → Rd wy 4 A' n2 (tcells lt) ∧ Rd wy 1 S n2 (ints (srcs x0 l fl lt))) ∧ Fr (fun _ => False) W4 wx)
   case first =>
    refine wp_region_held_drew (S := fun W => Fr (fun _ => False) W4 W) (by kernel_rfl) ((Fr.refl _ W4).drew) (fun hHeld => ?_)
    refine tl 0 ⟨some 70, .load 24 (.tmp 7), 24, _, _, none⟩ ?v15 rfl ?q15 ?r15
    case q15 => intro W hSw; (try obtain ⟨q0, q1, q2, q3, q4, q5, q6, q7⟩ := HC8.out W hSw); go_simp; try rfl
    refine tl 1 ⟨some 71, .move (.tmp 15), 31, _, _, none⟩ ?v16 rfl ?q16 ?r16
    case q16 => intro W hSw; go_simp; try rfl
    refine tl 2 ⟨some 72, .nilCheck (.tmp 71), 0, _, _, none⟩ ?v17 rfl ?q17 ?r17
    case q17 => intro W hSw; go_simp; try rfl
    refine tl 3 ⟨some 73, .fieldAddr 83 (.tmp 72) 0, 0, _, _, none⟩ ?v18 rfl ?q18 ?r18
    case q18 => intro W hSw; go_simp; try rfl
    refine tl 4 ⟨some 74, .load 80 (.tmp 73), 80, _, _, none⟩ ?v19 rfl ?q19 ?r19
    case q19 => intro W hSw; (try obtain ⟨q0, q1, q2, q3, q4, q5, q6, q7⟩ := HC8.out W hSw); go_simp; try rfl
    refine tl 5 ⟨some 75, .load 24 (.tmp 8), 24, _, _, none⟩ ?v20 rfl ?q20 ?r20
    case q20 => intro W hSw; (try obtain ⟨q0, q1, q2, q3, q4, q5, q6, q7⟩ := HC8.out W hSw); go_simp; try rfl
    try simp only [Act.put, sA, sB, sC]
    refine wpAnyH_ready (rs := [6, 10]) (by kernel_rfl) (by simp) ?_
    refine AllReadyH.cons (o := ⟨some 76, .call ⟨.value (.func 33), #[.tmp 70, .tmp 74, .tmp 75], #[24, 80, 24]⟩, 77, _, _, none⟩) rfl (fun K hK => ?_) ?_
    ·go_simp
     go_wp2_with (first | (go_at_call 33; refine (HMk1.out _ hHeld).mono ?_; rintro r wm ⟨⟨A5, c5, S5, cs5, rfl, hc5, rr5⟩, b5⟩))
     have rr5 := Lib.hid rr5
     refine hK.out _ _ (hHeld.trans (Fr.b0 b5) (fun _ h => h.elim)) (fun hHeld => ?_)
     clear hK K
     refine tl 7 ⟨some 69, .move (.tmp 76), 77, _, _, none⟩ ?v21 rfl ?q21 ?r21
     case q21 => intro W hSw; go_simp; try rfl
     refine tl 8 ⟨some 77, .extract (.tmp 69) 0, 76, _, _, none⟩ ?v22 rfl ?q22 ?r22
     case q22 => intro W hSw; (try obtain ⟨q0, q1, q2, q3, q4, q5, q6, q7⟩ := HC8.out W hSw); go_simp; try rfl
     refine tl 9 ⟨some 78, .extract (.tmp 69) 1, 32, _, _, none⟩ ?v23 rfl ?q23 ?r23
     case q23 => intro W hSw; (try obtain ⟨q0, q1, q2, q3, q4, q5, q6, q7⟩ := HC8.out W hSw); go_simp; try rfl
     try simp only [Act.put, sA, sB, sC]
     refine rl 10 ⟨some 18, .alloc 76, 0, _, _, none⟩ rfl (fun K hK => ?_)
     go_simp
     have hHm := hHeld
     refine hK.out _ _ (hHm.trans (Fr.none_alloc _ _) (fun _ h => h.elim)) (fun hHeld => ?_)
     clear hK K
     try simp only [Act.put, sA, sB, sC]
     refine rl 11 ⟨none, .store 76 (.tmp 18) (.tmp 77), 0, _, _, none⟩ rfl (fun K hK => ?_)
     go_simp
     refine hK.out _ _ (hHm.trans (Fr.none_alloc _ _) (fun _ h => h.elim)) (fun hHeld => ?_)
     clear hK K
     refine tl 12 ⟨some 19, .assign (.tmp 78), 32, _, _, none⟩ ?v24 rfl ?q24 ?r24
     case q24 => intro W hSw; (try obtain ⟨q0, q1, q2, q3, q4, q5, q6, q7⟩ := HC8.out W hSw); go_simp; try rfl
     try simp only [Act.put, sA, sB, sC]
     refine wpAnyH_done (by kernel_rfl) ?_ _
     go_wp2_with fail
     go_meet
     exact ⟨_, wm.heap.size, A5, c5, S5, cs5, rfl, rfl, rfl, Blk.new _ _ _, hc5, fun wy f => rr5.out _ (((Fr.none_alloc _ _).mono (fun _ h => h.elim)).trans f (fun k hk => .inl (by have h9 := BP4.out.lt; rw [hk]; first | exact h9 | (simp; omega) | omega))), hHeld⟩
    refine AllReadyH.cons (o := ⟨some 18, .alloc 76, 0, _, _, none⟩) rfl (fun K hK => ?_) AllReadyH.nil
    go_simp
    have BPz := Lib.hid (Blk.new W4 76 #[.string ByteArray.empty, .slice none 0 0, .slice none 0 0]).drew
    refine hK.out _ _ (by first | exact ((Fr.refl _ W4).alloc _).drew | exact hHeld.alloc _) (fun hHeld => ?_)
    clear hK K
    try simp only [Act.put, sA, sB, sC]
    refine rl 6 ⟨some 76, .call ⟨.value (.func 33), #[.tmp 70, .tmp 74, .tmp 75], #[24, 80, 24]⟩, 77, _, _, none⟩ rfl (fun K hK => ?_)
    go_simp
    go_wp2_with (first | (go_at_call 33; refine (HMk1.out _ hHeld).mono ?_; rintro r wm ⟨⟨A5, c5, S5, cs5, rfl, hc5, rr5⟩, b5⟩))
    have rr5 := Lib.hid rr5
    have BPm := Lib.hid (BPz.out.below b5)
    have g0 := BPm.out.frozen 0
    have g1 := BPm.out.frozen 1
    have g2 := BPm.out.frozen 2
    have q0 := BPm.out.cell 0
    have q1 := BPm.out.cell 1
    have q2 := BPm.out.cell 2
    simp only [List.getElem?_toArray, List.getElem?_cons_succ, List.getElem?_cons_zero] at q0 q1 q2
    refine hK.out _ _ (hHeld.trans (Fr.b0 b5) (fun _ h => h.elim)) (fun hHeld => ?_)
    clear hK K
    refine tl 7 ⟨some 69, .move (.tmp 76), 77, _, _, none⟩ ?v25 rfl ?q25 ?r25
    case q25 => intro W hSw; go_simp; try rfl
    refine tl 8 ⟨some 77, .extract (.tmp 69) 0, 76, _, _, none⟩ ?v26 rfl ?q26 ?r26
    case q26 => intro W hSw; (try obtain ⟨q0, q1, q2, q3, q4, q5, q6, q7⟩ := HC8.out W hSw); go_simp; try rfl
    refine tl 9 ⟨some 78, .extract (.tmp 69) 1, 32, _, _, none⟩ ?v27 rfl ?q27 ?r27
    case q27 => intro W hSw; (try obtain ⟨q0, q1, q2, q3, q4, q5, q6, q7⟩ := HC8.out W hSw); go_simp; try rfl
    try simp only [Act.put, sA, sB, sC]
    refine rl 11 ⟨none, .store 76 (.tmp 18) (.tmp 77), 0, _, _, none⟩ rfl (fun K hK => ?_)
    go_simp
    refine hK.out _ _ (hHeld.set3 (.inr (Nat.le_refl _)) _ _ _) (fun hHeld => ?_)
    clear hK K
    refine tl 12 ⟨some 19, .assign (.tmp 78), 32, _, _, none⟩ ?v28 rfl ?q28 ?r28
    case q28 => intro W hSw; (try obtain ⟨q0, q1, q2, q3, q4, q5, q6, q7⟩ := HC8.out W hSw); go_simp; try rfl
    try simp only [Act.put, sA, sB, sC]
    refine wpAnyH_done (by kernel_rfl) ?_ _
    go_wp2_with fail
    go_meet
    exact ⟨_, W4.heap.size, A5, c5, S5, cs5, rfl, rfl, rfl, BPm.out.set3, hc5, fun wy f => rr5.out _ (((Fr.refl _ wm).set3 (.inl (by simp)) _ _ _).trans f (fun k hk => .inl (by have h9 := BP4.out.lt; rw [hk]; first | exact h9 | (simp; omega) | omega))), hHeld⟩
   case rest =>
   obtain ⟨w6, g', A', c', S', cs', rfl, rfl, rfl, hb5, hc5, rr5, hf5⟩ := hcut
   have p0 := hb5.cell 0
   have p1 := hb5.cell 1
   have p2 := hb5.cell 2
   simp only [List.getElem?_toArray, List.getElem?_cons_succ, List.getElem?_cons_zero] at p0 p1 p2
   have bp := BP4.out.fr hf5 (fun h => h)
   have k0 := bp.cell 0
   have k1 := bp.cell 1
   have k2 := bp.cell 2
   simp only [List.getElem?_toArray, List.getElem?_cons_succ, List.getElem?_cons_zero] at k0 k1 k2
   have z0 := bp.frozen 0
   have z1 := bp.frozen 1
   have z2 := bp.frozen 2
   have hn5 : n2 ≤ 12 := by omega
   have Hbp := Lib.hid bp
   have Hrr := Lib.hid rr5
   have Hf5 := Lib.hid hf5
   have hs64 := Lib.hid (srcs_i64 (o := x0) (fl := fl) (lt := lt) P.out.ck)
   clear hb5 bp rr5 hf5 hck2 P2
   go_wp2_with fail
   try go_meet
   have fs := (Fr.refl (fun j => j = pb) w6).set3 (g := pb) (.inl rfl) (.string nm2) (.slice A' n2 c') (.slice S' n2 cs')
   exact ⟨_, A', c', S', n2, cs', srcs x0 l fl lt, rfl, Hbp.out.set3, hc5, (Hrr.out _ fs).1, (Hrr.out _ fs).2, hs64.out, hn5, (F34.out.trans Hf5.out (fun _ h => h.elim)).trans fs (fun i hi => .inr (by rw [hi, ← hpb]; exact Nat.le_refl _))⟩
 case rest =>
  obtain ⟨w5, A5, c5, S5, m5, d5, ss, rfl, hb5, hc5, ra5, rs5, hs5, hm5, f35⟩ := hcut
  have F5 := Lib.hid (F3.out.trans f35 (fun _ h => h.elim))
  have HD5 := Lib.hid (HD3.out.fr0 f35)
  have HT5 := Lib.hid HD5.out.tio
  obtain ⟨base, hb0, hon⟩ := HT5.out.on
  have HBP := Lib.hid hb5
  have Hra := Lib.hid ra5
  have Hrs := Lib.hid rs5
  have Hs5 := Lib.hid hs5
  have hZn := hg0.now
  have hZt : Z.tiers = l := hg0.tiers
  have hZf : Z.floors = fl := hg0.floors
  have hZl : Z.tiers.length ≤ 1000 := by rw [hZt]; have := P.out.five; omega
  have Hzl : Hid (∀ y ∈ Z.tabs, y.length ≤ 1000000) := fun y hy => Nat.le_trans (hg0.len y hy) (by omega)
  have Hzw : Hid (∀ x ∈ Z.tiers, x.wf) := by show ∀ x ∈ Z.tiers, x.wf; rw [hZt]; exact P.out.wf
  have Hze : Hid (∀ x ∈ Z.tiers, 1 ≤ x.every ∧ x.every ≤ 1000000) := by show ∀ x ∈ Z.tiers, _; rw [hZt]; exact fun x hx => by have := check_mem P.out.ck hx; omega
  have Hzf : Hid (∀ f ∈ Z.floors, i64 f) := by show ∀ f ∈ Z.floors, _; rw [hZf]; exact Hfl64.out
  have HPb : Hid (∀ W, Fr (fun _ => False) w5 W → W.cell? ⟨pb, 0, none⟩ = some (.string nm2) ∧ W.cell? ⟨pb, 1, none⟩ = some (.slice A5 n2 c5) ∧ W.cell? ⟨pb, 2, none⟩ = some (.slice S5 m5 d5)) := fun W f => by
   have b := HBP.out.fr f (fun h => h)
   exact ⟨b.cell 0, b.cell 1, b.cell 2⟩
  have HCp := Lib.hid (tio_copy P.out HT5.out (by rw [Hlf.out]; omega) w5.heap.size (Nat.le_refl _))
  have HBu : Hid (∀ W, Fr (fun _ => False) w5 W → Calls Tryz.prog 34 #[.agg #[.string nm2, .slice A5 n2 c5, .slice S5 m5 d5], .pointer (some ⟨t, 0, none⟩)] W fun r w' => BuildR (buildE Z nm2 lt ss) W.heap.size (buildX Z nm2 lt ss) r w' ∧ Below W.heap.size W w') := fun W f =>
   build_any nm2 hnm2 lt A5 n2 c5 ss S5 m5 d5 t base Z W (Hra.out.fr0 f) hc5 (by omega) Hwf2.out (Hrs.out.fr0 f) (by omega) Hs5.out (hon.fr0 f).at_ hZl Hzl.out hZn Hzf.out Hzw.out
  have HBz : Hid (∀ W, Fr (fun _ => False) w5 W → Calls Tryz.prog 34 #[.agg #[.string { data := #[] }, .slice none 0 0, .slice none 0 0], .pointer (some ⟨t, 0, none⟩)] W fun r w' => r = .returned (.tuple #[.pointer none, .int .i64 1]) ∧ Below W.heap.size W w') := fun W f => by
   have he : buildE Z { data := #[] } [] [] = 1 := by unfold buildE; rw [if_neg]; intro h; have := (fitsL_at h).1; revert this; decide
   refine (build_any { data := #[] } (by decide) [] none 0 0 [] none 0 0 t base Z W Rd.nil_ (by omega) (by omega) (fun _ h => by cases h) Rd.nil_ (by omega) (fun _ h => by cases h) (hon.fr0 f).at_ hZl Hzl.out hZn Hzf.out Hzw.out).mono ?_
   rintro r w' ⟨⟨_, h2⟩, h3⟩
   exact ⟨h2 (by rw [he]; decide), h3⟩
  have HBn : Hid (∀ W, Fr (fun _ => False) w5 W → Calls Tryz.prog 34 #[.agg #[.string nm2, .slice A5 n2 c5, .slice S5 m5 d5], .pointer none] W fun r w' => r = .returned (.tuple #[.pointer none, .int .i64 1]) ∧ Below W.heap.size W w') := fun W f => build_nil nm2 hnm2 lt A5 n2 c5 S5 m5 d5 W (Hra.out.fr0 f) hc5 Hwf2.out
  have HPl : Hid (∀ W, Calls Tryz.prog 35 #[.agg #[.string nm2, .slice A5 n2 c5, .slice S5 m5 d5]] W fun r w' => r = .returned (.agg #[.string nm2, .slice A5 n2 c5, .slice S5 m5 d5]) ∧ Below W.heap.size W w') := fun W => plain_any nm2 A5 n2 c5 S5 m5 d5 W
  obtain ⟨F0r, rA, rc, rB, rd, rT, rct, rP, hRR, _⟩ := HD5.out.ref
  have HRR := Lib.hid hRR
  have HRb : Hid (∀ W, Fr (fun _ => False) w5 W → Calls Tryz.prog 36 #[.agg #[.string nm2, .slice A5 n2 c5, .slice S5 m5 d5], .pointer (some ⟨g, 0, none⟩)] W fun r w' => RBuildR Z nm2 lt ss A5 c5 W (buildE Z nm2 lt ss) r w' ∧ Fr (fun _ => False) W w') := fun W f =>
   rbuild_any nm2 hnm2 lt A5 n2 c5 ss S5 m5 d5 g _ F0r Z rA rc rB rd rT rct rP W (Hra.out.fr0 f) hc5 (by omega) Hwf2.out (Hrs.out.fr0 f) (by omega) Hs5.out (HRR.out.fr0 f) hZl hZn Hzw.out Hzf.out Hze.out Hzl.out (fun j hj => (Hra.out.fr0 f).adlt (by decide) j hj)
  have HE01 : Hid (buildE Z nm2 lt ss = 0 ∨ buildE Z nm2 lt ss = 1) := buildE_01
  have HEf : Hid (buildE Z nm2 lt ss = 0 → PolOk nm2 lt) := fun h => ⟨buildE_fits h, Hwf2.out⟩
  obtain ⟨E, hE⟩ : ∃ v, buildE Z nm2 lt ss = v := ⟨_, rfl⟩
  rw [hE] at HBu HRb HE01 HEf
  have HGY : Hid (GoodX nm2 lt (basesV Z.now Z.tiers Z.floors ss lt) (buildX Z nm2 lt ss) 2000) := build_goodE hg0
  obtain ⟨Y, hY⟩ : ∃ v, buildX Z nm2 lt ss = v := ⟨_, rfl⟩
  rw [hY] at HBu HGY
  have HRbY : Hid (∀ W r w', RBuildR Z nm2 lt ss A5 c5 W E r w' → (E = 0 → ∃ g lo F B d T ct P, r = .returned (.tuple #[.pointer (some ⟨g, 0, none⟩), .int .i64 0]) ∧ W.heap.size ≤ lo ∧ RTiersOn w' g lo F Y A5 c5 B d T ct P) ∧ (E ≠ 0 → r = .returned (.tuple #[.pointer none, .int .i64 E]))) := fun W r w' h => by
   unfold RBuildR at h
   rw [hY] at h
   exact h
  obtain ⟨bs, hbs⟩ : ∃ v, basesV Z.now Z.tiers Z.floors ss lt = v := ⟨_, rfl⟩
  rw [hbs] at HGY
  clear hY hbs hE hRR hb5 hc5 ra5 rs5 hs5 f35 hZt hZf hon hb0
  obtain ⟨k0, k1, k2⟩ := HPb.out w5 (Fr.refl _ _)
  go_wp2_with fail
  refine HCp.out.mono ?_
  rintro r w6 ⟨⟨tw, Fw, rfl, T6, _⟩, b6⟩
  have F56 : Hid (Fr (fun _ => False) w5 w6) := Fr.b0 b6
  have HT6 := Lib.hid T6
  clear b6 T6 HCp k0 k1 k2
  obtain ⟨k0, k1, k2⟩ := HPb.out w6 F56.out
  rcases HE01.out with hz | hz
  case inr =>
   subst hz
   go_wp2_with fail
   refine (HBu.out w6 F56.out).mono ?_
   rintro r w7 ⟨⟨_, h7⟩, b7⟩
   obtain rfl := h7 (by decide)
   have F57 : Hid (Fr (fun _ => False) w5 w7) := F56.out.trans (Fr.b0 b7) (fun _ h => h.elim)
   have HT67 := Lib.hid (HT6.out.fr0 (Fr.b0 b7))
   clear b7 h7 k0 k1 k2
   obtain ⟨k0, k1, k2⟩ := HPb.out w7 F57.out
   go_wp2_with fail
   refine (HPl.out w7).mono ?_
   rintro r w8 ⟨rfl, b8⟩
   have F58 : Hid (Fr (fun _ => False) w5 w8) := F57.out.trans (Fr.b0 b8) (fun _ h => h.elim)
   have HT68 := Lib.hid (HT67.out.fr0 (Fr.b0 b8))
   clear b8 k0 k1 k2
   go_wp2_with fail
   refine (HRb.out w8 F58.out).mono ?_
   rintro r w9 ⟨h9, f9⟩
   obtain rfl := (HRbY.out _ _ _ h9).2 (by decide)
   have F59 : Hid (Fr (fun _ => False) w5 w9) := F58.out.trans f9 (fun _ h => h.elim)
   have HSm : Hid (Calls Tryz.prog 15 #[.pointer (some ⟨t, 0, none⟩), .pointer (some ⟨tw, 0, none⟩)] w9 fun r w' => r = .returned (.bool true) ∧ Below w9.heap.size w9 w') := by
    have := tio_same P.out P.out (HT5.out.fr0 F59.out) (HT68.out.fr0 f9) (by omega) (by omega)
    rwa [sameX_self] at this
   clear f9 h9
   go_wp2_with fail
   refine HSm.out.mono ?_
   rintro r wA ⟨rfl, bA⟩
   have FA := Lib.hid ((F5.out.trans F59.out (fun _ h => h.elim)).trans (Fr.b0 bA) (fun _ h => h.elim))
   clear bA
   go_wp2_with fail
   refine (HAl.out _).mono ?_
   rintro r wq ⟨rfl, bq⟩
   go_wp2_with fail
   go_ret
   exact ⟨rfl, (FA.out.trans (Fr.b0 bq) (fun _ h => h.elim)).below (fun _ h => h.elim)⟩
  case inl =>
  subst hz
  have P2 := Lib.hid (HEf.out rfl)
  go_wp2_with fail
  refine (HBu.out w6 F56.out).mono ?_
  rintro r w7 ⟨⟨h7, _⟩, b7⟩
  obtain ⟨ta, Fa, rfl, hTa, _⟩ := h7 rfl
  have HTa7 : Hid (Tio nm2 lt bs w6.heap.size w7 ta Y Fa 2000) := ⟨⟨_, Nat.le_refl _, hTa⟩, HGY.out⟩
  have F57 : Hid (Fr (fun _ => False) w5 w7) := F56.out.trans (Fr.b0 b7) (fun _ h => h.elim)
  have HT67 := Lib.hid (HT6.out.fr0 (Fr.b0 b7))
  clear b7 h7 hTa k0 k1 k2
  obtain ⟨k0, k1, k2⟩ := HPb.out w7 F57.out
  go_wp2_with fail
  refine (HPl.out w7).mono ?_
  rintro r w8 ⟨rfl, b8⟩
  have F58 : Hid (Fr (fun _ => False) w5 w8) := F57.out.trans (Fr.b0 b8) (fun _ h => h.elim)
  have HT68 := Lib.hid (HT67.out.fr0 (Fr.b0 b8))
  have HTa8 := Lib.hid (HTa7.out.fr0 (Fr.b0 b8))
  clear b8 k0 k1 k2
  go_wp2_with fail
  refine (HRb.out w8 F58.out).mono ?_
  rintro r w9 ⟨h9, f9⟩
  obtain ⟨gb, lob, Fb, Bb, db, Tb, ctb, Pb, rfl, _, hRb⟩ := (HRbY.out _ _ _ h9).1 (by trivial)
  have F59 : Hid (Fr (fun _ => False) w5 w9) := F58.out.trans f9 (fun _ h => h.elim)
  have HRb9 := Lib.hid hRb
  have HTa9 := Lib.hid (HTa8.out.fr0 f9)
  have HSm : Hid (Calls Tryz.prog 15 #[.pointer (some ⟨t, 0, none⟩), .pointer (some ⟨tw, 0, none⟩)] w9 fun r w' => r = .returned (.bool true) ∧ Below w9.heap.size w9 w') := by
   have := tio_same P.out P.out (HT5.out.fr0 F59.out) (HT68.out.fr0 f9) (by omega) (by omega)
   rwa [sameX_self] at this
  clear f9 h9 hRb
  go_wp2_with fail
  refine HSm.out.mono ?_
  rintro r wA ⟨rfl, bA⟩
  have G9A : Hid (Fr (fun _ => False) w9 wA) := Fr.b0 bA
  have F5A := Lib.hid (F59.out.trans G9A.out (fun _ h => h.elim))
  clear bA HSm
  obtain ⟨k0, k1, k2⟩ := HPb.out wA F5A.out
  go_wp2_with fail
  refine (HBn.out wA F5A.out).mono ?_
  rintro r wB ⟨rfl, bB⟩
  have G9B := Lib.hid (G9A.out.trans (Fr.b0 bB) (fun _ h => h.elim))
  have F5B := Lib.hid (F59.out.trans G9B.out (fun _ h => h.elim))
  clear bB k0 k1 k2
  go_wp2_with fail
  refine (HBz.out wB F5B.out).mono ?_
  rintro r wC ⟨rfl, bC⟩
  have G9C := Lib.hid (G9B.out.trans (Fr.b0 bC) (fun _ h => h.elim))
  clear bC
  go_wp2_with fail
  refine (HAl.out _).mono ?_
  rintro r wD ⟨rfl, bD⟩
  have G9D := Lib.hid (G9C.out.trans (Fr.b0 bD) (fun _ h => h.elim))
  have HSh := Lib.hid (shows_any (w0 := wD) P2.out (HTa9.out.fr0 G9D.out) (by omega) (HRb9.out.fr0 G9D.out) (BookR.new wD) (by omega) (Fr.none_alloc _ _))
  have FD := Lib.hid ((F5.out.trans F59.out (fun _ h => h.elim)).trans G9D.out (fun _ h => h.elim))
  clear bD
  go_wp2_with fail
  refine HSh.out.mono ?_
  rintro r wE ⟨rfl, fE⟩
  go_wp2_with fail
  go_ret
  exact ⟨rfl, (FD.out.trans fE (fun _ h => h.elim)).below (fun _ h => h.elim)⟩
end Go.Proofs.YtbblmmneeafhgaaGreat
