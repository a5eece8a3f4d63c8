/- ShadowRight's walk: whatever is put and ticks by between the steps, what is cut over is what would be built at once. -/
import Derived.Test.YtfhhepfkjndkgaaGreatAlive14
import Derived.Test.YtfhhepfkjndkgaaGreatTiers13
import Derived.Test.YtfhhepfkjndkgaaGreatOpC
import Derived.Test.YtfhhepfkjndkgaaGreatShRight
import Derived.Test.YtfhhepfkjndkgaaGreatTio
import Derived.Test.YtfhhepfkjndkgaaGreatShBegin
namespace Go.Proofs.YtfhhepfkjndkgaaGreat
set_option linter.all false
open Go.RowKit

set_option maxRecDepth 100000 in
set_option maxHeartbeats 8000000 in
theorem sright_walk (nm : ByteArray) (l : List TierV) (A : Option Addr) (n c : Nat) (nm2 : ByteArray) (lt : List TierV) (A2 : Option Addr) (n2 c2 : Nat) (now : Int) (ops : List OpC) (B : Option Addr) (m d : Nat) (ol : List OpC) (A4 : Option Addr) (m4 d4 : Nat) (ws : List Int) (A5 : Option Addr) (n5 c5 : Nat) (w : World) (hnm : nm.size ≤ maxLen) (hr : Rd w 4 A n (tcells l)) (hnc : n ≤ c) (hn9 : n ≤ 9223372036854775807) (hwf : ∀ t ∈ l, t.wf) (hnm2 : nm2.size ≤ maxLen) (hr2 : Rd w 4 A2 n2 (tcells lt)) (hnc2 : n2 ≤ c2) (hn92 : n2 ≤ 9223372036854775807) (hwf2 : ∀ t ∈ lt, t.wf) (hnow : -9223372036854775808 ≤ now ∧ now ≤ 9223372036854775807) (hs : Rd w 4 B m (opcells ops)) (hm9 : m ≤ 9223372036854775807) (hok : ∀ o ∈ ops, o.ok w) (hs4 : Rd w 4 A4 m4 (opcells ol)) (hm94 : m4 ≤ 9223372036854775807) (hok4 : ∀ o ∈ ol, o.ok w) (hr5 : Rd w 1 A5 n5 (ints ws)) (hn95 : n5 ≤ 9223372036854775807) :
  Calls Tryz.prog 6 #[.agg #[.string nm, .slice A n c], .agg #[.string nm2, .slice A2 n2 c2], .int .i64 now, .slice B m d, .slice A4 m4 d4, .slice A5 n5 c5] w fun e w' => e = .returned (.bool true) ∧ Below w.heap.size w w' := by
 have HAl := Lib.hid alive14_any
 have HSm : Hid (∀ W, Fr (fun _ => False) w W → Calls Tryz.prog 8 #[.agg #[.string nm, .slice A n c]] W fun r w' => SmallR nm n r ∧ Below W.heap.size W w') := fun W f => bsmall_any nm l A n c W (hr.fr0 f) hn9 hnm (fun t h => (hwf t h).2.2.2)
 have HSm2 : Hid (∀ W, Fr (fun _ => False) w W → Calls Tryz.prog 8 #[.agg #[.string nm2, .slice A2 n2 c2]] W fun r w' => SmallR nm2 n2 r ∧ Below W.heap.size W w') := fun W f => bsmall_any nm2 lt A2 n2 c2 W (hr2.fr0 f) hn92 hnm2 (fun t h => (hwf2 t h).2.2.2)
 have HLi : Hid (∀ W, Fr (fun _ => False) w W → Calls Tryz.prog 9 #[.slice B m d] W fun r w' => LightR2 ops m r ∧ W = w') := fun W f => light2_any ops B m d W (hs.fr0 f) (fun o h => (hok o h).below (f.below (fun _ h => h.elim))) hm9
 have HT13 : Hid (∀ W, n ≤ 10 → m ≤ 50 → (∀ o ∈ ops, o.sn ≤ 20 ∧ o.ln ≤ 20) → Fr (fun _ => False) w W → Calls Tryz.prog 11 #[.agg #[.string nm, .slice A n c], .int .i64 now, .slice none 0 0, .slice B m d] W fun r w' => T13 nm l [] W.heap.size (opsX (newX nm l now []) ops) (newE nm l now []) r w' ∧ Below W.heap.size W w') := fun W h10 h50 hl f =>
  tiers13_any nm hnm l A n c now hnow [] none 0 0 ops B m d W (hr.fr0 f) hnc hwf (by omega) Rd.nil_ (by omega) (hs.fr0 f) (fun o h => (hok o h).below (f.below (fun _ h => h.elim))) hl h50
 have Hr2 := Lib.hid hr2
 have Hll2 := Lib.hid hr2.tiers_len
 obtain ⟨W0, hW0⟩ : ∃ W0, W0 = ((w.alloc (.cells #[.string nm, .slice A n c] 24)).alloc (.cells #[.string nm2, .slice A2 n2 c2] 24)) := ⟨_, rfl⟩
 have HW0 := Lib.hid hW0
 have F0 : Hid (Fr (fun _ => False) w W0) := by show Fr _ _ _; rw [hW0]; exact (Fr.none_alloc _ _).trans (Fr.none_alloc _ _) (fun _ h => h.elim)
 have B0a : Hid (Blk W0 (w.heap.size) 24 #[.string nm, .slice A n c]) := by show Blk _ _ _ _; rw [hW0]; exact ((Blk.new' (by simp) _ _).alloc _)
 have B0b : Hid (Blk W0 (w.heap.size + 1) 24 #[.string nm2, .slice A2 n2 c2]) := by show Blk _ _ _ _; rw [hW0]; exact (Blk.new' (by simp) _ _)
 clear hr hr2 hwf hs hok hW0
 have HLi2 : Hid (∀ W, Fr (fun _ => False) w W → Calls Tryz.prog 9 #[.slice A4 m4 d4] W fun r w' => LightR2 ol m4 r ∧ W = w') := fun W f => light2_any ol A4 m4 d4 W (hs4.fr0 f) (fun o h => (hok4 o h).below (f.below (fun _ h => h.elim))) hm94
 have Hs4 := Lib.hid hs4
 have Hok4 := Lib.hid hok4
 have Hr5 := Lib.hid hr5
 clear hs4 hok4 hr5
 go_enter Tryz.func6, Tryz.ntmps6
 go_wp2_with fail
 rw [← HW0.out]
 refine (HSm.out _ F0.out).mono ?_
 rintro r w1 ⟨⟨b, rfl, hb⟩, b1⟩
 have F1 := Lib.hid (F0.out.trans (Fr.b0 b1) (fun _ h => h.elim))
 have B1a := Lib.hid (B0a.out.below b1)
 have B1b := Lib.hid (B0b.out.below b1)
 have x0 := B1a.out.cell 0
 have x1 := B1a.out.cell 1
 simp only [List.getElem?_toArray, List.getElem?_cons_succ, List.getElem?_cons_zero] at x0 x1
 have y0 := B1b.out.cell 0
 have y1 := B1b.out.cell 1
 simp only [List.getElem?_toArray, List.getElem?_cons_succ, List.getElem?_cons_zero] at y0 y1
 clear b1
 cases b with
 | false =>
  clear hb
  go_wp2_with fail
  refine (HAl.out _).mono ?_
  rintro r wq ⟨rfl, bq⟩
  go_wp2_with fail
  go_ret
  exact ⟨rfl, (F1.out.trans (Fr.b0 bq) (fun _ h => h.elim)).below (fun _ h => h.elim)⟩
 | true =>
 have h10 : n ≤ 10 := (hb rfl).1
 clear hb
 go_wp2_with fail
 refine (HSm2.out _ F1.out).mono ?_
 rintro r w2 ⟨⟨b, rfl, hb⟩, b2⟩
 have F2 := Lib.hid (F1.out.trans (Fr.b0 b2) (fun _ h => h.elim))
 have B2a := Lib.hid (B1a.out.below b2)
 have B2b := Lib.hid (B1b.out.below b2)
 clear x0 x1 y0 y1
 have x0 := B2a.out.cell 0
 have x1 := B2a.out.cell 1
 simp only [List.getElem?_toArray, List.getElem?_cons_succ, List.getElem?_cons_zero] at x0 x1
 have y0 := B2b.out.cell 0
 have y1 := B2b.out.cell 1
 simp only [List.getElem?_toArray, List.getElem?_cons_succ, List.getElem?_cons_zero] at y0 y1
 clear b2
 cases b with
 | false =>
  clear hb
  go_wp2_with fail
  refine (HAl.out _).mono ?_
  rintro r wq ⟨rfl, bq⟩
  go_wp2_with fail
  go_ret
  exact ⟨rfl, (F2.out.trans (Fr.b0 bq) (fun _ h => h.elim)).below (fun _ h => h.elim)⟩
 | true =>
 have h102 : n2 ≤ 10 := (hb rfl).1
 clear hb
 go_wp2_with fail
 refine (HLi.out _ F2.out).mono ?_
 rintro r w' ⟨⟨b, rfl, hb⟩, rfl⟩
 cases b with
 | false =>
  clear hb
  go_wp2_with fail
  refine (HAl.out _).mono ?_
  rintro r wq ⟨rfl, bq⟩
  go_wp2_with fail
  go_ret
  exact ⟨rfl, (F2.out.trans (Fr.b0 bq) (fun _ h => h.elim)).below (fun _ h => h.elim)⟩
 | true =>
 have h50 : m ≤ 50 := (hb rfl).1
 have Hl20 := Lib.hid (hb rfl).2
 clear hb HLi
 go_wp2_with fail
 refine (HLi2.out _ F2.out).mono ?_
 rintro r w' ⟨⟨b, rfl, hb⟩, rfl⟩
 cases b with
 | false =>
  clear hb
  go_wp2_with fail
  refine (HAl.out _).mono ?_
  rintro r wq ⟨rfl, bq⟩
  go_wp2_with fail
  go_ret
  exact ⟨rfl, (F2.out.trans (Fr.b0 bq) (fun _ h => h.elim)).below (fun _ h => h.elim)⟩
 | true =>
 have h504 : m4 ≤ 50 := (hb rfl).1
 have Hl204 := Lib.hid (hb rfl).2
 clear hb HLi2
 by_cases hw60 : 60 < n5
 ·have hd : decide ((60 : Int) < (n5 : Int)) = true := decide_eq_true (by omega)
  go_wp2_with fail
  refine (HAl.out _).mono ?_
  rintro r wq ⟨rfl, bq⟩
  go_wp2_with fail
  go_ret
  exact ⟨rfl, (F2.out.trans (Fr.b0 bq) (fun _ h => h.elim)).below (fun _ h => h.elim)⟩
 have hd : decide ((60 : Int) < (n5 : Int)) = false := decide_eq_false (by omega)
 go_wp2_with fail
 refine (HT13.out _ h10 h50 Hl20.out F2.out).mono ?_
 rintro r w3 ⟨hT, b3⟩
 have F3 := Lib.hid (F2.out.trans (Fr.b0 b3) (fun _ h => h.elim))
 have B3a := Lib.hid (B2a.out.below b3)
 have B3b := Lib.hid (B2b.out.below b3)
 clear x0 x1 y0 y1
 have x0 := B3a.out.cell 0
 have x1 := B3a.out.cell 1
 simp only [List.getElem?_toArray, List.getElem?_cons_succ, List.getElem?_cons_zero] at x0 x1
 have y0 := B3b.out.cell 0
 have y1 := B3b.out.cell 1
 simp only [List.getElem?_toArray, List.getElem?_cons_succ, List.getElem?_cons_zero] at y0 y1
 have hw23 := b3.size
 clear b3
 by_cases hE : newE nm l now [] = 0
 case neg =>
  obtain rfl := hT.2 hE
  clear hT
  go_wp2_with fail
  refine (HAl.out _).mono ?_
  rintro r wq ⟨rfl, bq⟩
  go_wp2_with fail
  go_ret
  exact ⟨rfl, (F3.out.trans (Fr.b0 bq) (fun _ h => h.elim)).below (fun _ h => h.elim)⟩
 case pos =>
 obtain ⟨hP, t, g, F, rfl, hD⟩ := hT.1 hE
 have P := Lib.hid hP
 have HT3 := Lib.hid hD.tio
 obtain ⟨Z, hZ⟩ : ∃ Z, opsX (newX nm l now []) ops = Z := ⟨_, rfl⟩
 rw [hZ] at HT3
 have Hwf2 := Lib.hid hwf2
 have HBg := Lib.hid (begin_tio (nm2 := nm2) (lt := lt) P.out hnm hnm2 HT3.out (by omega) (fun _ h => by cases h) A2 c2 (by rw [Hll2.out]; exact Hr2.out.fr0 F3.out) (by rw [Hll2.out]; exact hnc2) hwf2)
 rw [Hll2.out] at HBg
 clear hT hP hD hZ HT13 HSm HSm2 hwf2
 go_wp2_with fail
 refine HBg.out.mono ?_
 rintro r w4 ⟨⟨h4a, h4b⟩, b4⟩
 have F4 := Lib.hid (F3.out.trans (Fr.b0 b4) (fun _ h => h.elim))
 have B4a := Lib.hid (B3a.out.below b4)
 have B4b := Lib.hid (B3b.out.below b4)
 have HT4 := Lib.hid (HT3.out.fr0 (Fr.b0 b4))
 clear x0 x1 y0 y1 b4
 have x0 := B4a.out.cell 0
 have x1 := B4a.out.cell 1
 simp only [List.getElem?_toArray, List.getElem?_cons_succ, List.getElem?_cons_zero] at x0 x1
 have y0 := B4b.out.cell 0
 have y1 := B4b.out.cell 1
 simp only [List.getElem?_toArray, List.getElem?_cons_succ, List.getElem?_cons_zero] at y0 y1
 cases hck2 : checkB nm2 lt with
 | false =>
  obtain rfl := h4b hck2
  clear h4a h4b hck2
  go_wp2_with fail
  refine (HAl.out _).mono ?_
  rintro r wq ⟨rfl, bq⟩
  go_wp2_with fail
  go_ret
  exact ⟨rfl, (F4.out.trans (Fr.b0 bq) (fun _ h => h.elim)).below (fun _ h => h.elim)⟩
 | true =>
 obtain ⟨s, rfl, hs4⟩ := h4a hck2
 have P2 := Lib.hid (show PolOk nm2 lt from ⟨hck2, Hwf2.out⟩)
 clear h4a h4b hck2 HBg
 obtain ⟨bd, hbd⟩ : ∃ v, 2 * ((needX (buildX Z nm2 lt (srcs Z.now l [] lt)) : Nat) : Int) + fillsV lt = v := ⟨_, rfl⟩
 rw [hbd] at hs4
 have hst := steps_in P2.out
 have hbd0 : 0 ≤ bd := by omega
 obtain ⟨S0, hS0⟩ : ∃ S : ShX, (⟨nm2, lt, srcs Z.now l [] lt, bd, 0, lt.map fun _ => []⟩ : ShX) = S := ⟨_, rfl⟩
 have hk0 : ShOk nm2 l lt [] Z.now Z S0 := by
  rw [← hS0]
  exact ⟨rfl, rfl, rfl, shT_zero.symm, Int.le_refl _, by show (0 : Int) ≤ stepsV lt; omega⟩
 have hd0 : S0.done = 0 := by rw [← hS0]
 rw [hS0] at hs4
 obtain ⟨G, ho4⟩ := hs4.on
 have HS4 := Lib.hid ho4
 have HK4 := Lib.hid hk0
 have HGF : Hid (∀ j, F j → ¬ G j) := fun j hj hg => by
  have h1 := (HT3.out.ge j hj).2
  have h2 := (ho4.ge j hg).1
  omega
 have hGlo : Hid (∀ j, G j → w3.heap.size ≤ j) := fun j hg => (ho4.ge j hg).1
 obtain ⟨FL, hFL⟩ : ∃ v, fillsV lt = v := ⟨_, rfl⟩
 have HFL := Lib.hid hFL
 rw [hFL] at hst
 have hstv : stepsV lt = FL + 2 := hst.2.1
 clear hbd hS0 hs4 hk0 HT3
 obtain ⟨o, hoo⟩ : ∃ v, Z.now = v := ⟨_, rfl⟩
 rw [hoo] at HK4
 have HPl : Hid (∀ (W : World) (s' base' : Nat) (X : TiersX) (S : ShX) (G' : Nat → Prop), ShOn W s' base' S G' → ShOk nm2 l lt [] o X S → ∃ Ap cp Sp dp, W.cell? ⟨s', 0, none⟩ = some (.string nm2) ∧ W.cell? ⟨s', 1, none⟩ = some (.slice Ap n2 cp) ∧ W.cell? ⟨s', 2, none⟩ = some (.slice Sp n2 dp) ∧ n2 ≤ cp ∧ Rd W 4 Ap n2 (tcells lt) ∧ Rd W 1 Sp n2 (ints (srcs o l [] lt))) := fun W s' base' X S G' ho hk => by
  obtain ⟨A', c', B', d', T', ct', tb', hi, _⟩ := ho
  obtain ⟨q0, q1, q2, _, _, _⟩ := hi.cells (Fr.refl (fun _ => False) W) (fun h => h)
  have e1 : S.tiers.length = n2 := by rw [hk.tiers]; exact Hll2.out
  have e2 : S.srcs.length = n2 := by rw [hk.src]; unfold srcs; rw [List.length_map]; exact Hll2.out
  have r1 := (own_any hi.tiers).2.2.1
  have r2 := (own_any hi.srcs).2.2.1
  have r3 := (own_any hi.tiers).1
  rw [hk.name] at q0
  rw [e1] at q1 r1 r3
  rw [e2] at q2 r2
  rw [hk.tiers] at r1
  rw [hk.src] at r2
  exact ⟨A', c', B', d', q0, q1, q2, r3, r1, r2⟩
 have hF40 : FL ≤ 40 := by omega
 have Lf : Hid (∀ j, F j → w2.heap.size ≤ j) := fun j hj => (HT4.out.ge j hj).1
 have Lg : Hid (∀ j, G j → w2.heap.size ≤ j) := fun j hj => Nat.le_trans hw23 (hGlo.out j hj)
 have hw2 : w.heap.size ≤ w2.heap.size := F2.out.size
 clear x0 x1 y0 y1
 go_wp2_with fail
 go_loopw [17, 18] (fun a i wr => ∃ (q p : Nat) (X : TiersX) (S : ShX), (q : Int) ≤ FL + 1 ∧ p ≤ m4 ∧ i = .int .i64 (q : Nat) ∧ a = .int .i64 (p : Nat) ∧ S.done = (q : Int) ∧ ShOk nm2 l lt [] o X S ∧ ShOn wr s w3.heap.size S G ∧ Tio nm l [] w2.heap.size wr t X F (2000 + 8 * p) ∧ Fr (fun j => w2.heap.size ≤ j) w4 wr) (fun _ i _ => (100 - intOf i).toNat)
 case atStart => exact ⟨0, 0, Z, S0, by omega, Nat.zero_le _, rfl, rfl, hd0, HK4.out, HS4.out, HT4.out, Fr.refl _ _⟩
 case round =>
  obtain ⟨q, pq, XQ, SQ, hq, hpq, rfl, rfl, hdq, h1, h2, h3, h4⟩ := hrel
  have HdQ := Lib.hid hdq
  have HKQ := Lib.hid h1
  have HSQ := Lib.hid h2
  have HTQ := Lib.hid h3
  have HfQ := Lib.hid h4
  have FWQ : Hid (Fr (fun _ => False) w wr) := F4.out.trans h4 (fun i hi => .inr (Nat.le_trans hw2 hi))
  clear hdq h1 h2 h3 h4
  have g0 : decide ((q : Int) < 100) = true := decide_eq_true (by omega)
  go_upto_if 79 with fail
  go_cut [19] from 72 to 179 (fun s19 wx => ∃ v : Int, s19 = .int .i64 v ∧ wr = wx)
  case first =>
   by_cases hq5 : q < n5
   ·have gq : decide ((q : Int) < (n5 : Int)) = true := decide_eq_true (by omega)
    have kq : 0 ≤ (q : Int) ∧ (q : Int) < (n5 : Int) := by omega
    obtain ⟨a5, x5, rfl, _, e5⟩ := Rd.at_map (f := Value.int .i64) (l := ws) (Hr5.out.fr0 FWQ.out) hq5
    go_wp2_with fail
    try go_meet
    exact ⟨_, rfl, rfl⟩
   ·have gq : decide ((q : Int) < (n5 : Int)) = false := decide_eq_false (by omega)
    go_wp2_with fail
    try go_meet
    exact ⟨_, rfl, rfl⟩
  case rest =>
  obtain ⟨v, rfl, rfl⟩ := hcut
  obtain ⟨WQ, hWQ⟩ : ∃ v, v = wr := ⟨_, rfl⟩
  rw [← hWQ] at HSQ HTQ HfQ FWQ ⊢
  clear hWQ g0
  go_wp2_with fail
  go_loopw [17, 19] (fun a nv wr => ∃ (p : Nat) (v : Int) (X : TiersX) (S : ShX), p ≤ m4 ∧ a = .int .i64 (p : Nat) ∧ nv = .int .i64 v ∧ S.done = (q : Int) ∧ ShOk nm2 l lt [] o X S ∧ ShOn wr s w3.heap.size S G ∧ Tio nm l [] w2.heap.size wr t X F (2000 + 8 * p) ∧ Fr (fun j => w2.heap.size ≤ j) WQ wr) (fun a _ _ => (51 - intOf a).toNat)
  case atStart => exact ⟨pq, v, XQ, SQ, hpq, rfl, rfl, HdQ.out, HKQ.out, HSQ.out, HTQ.out, Fr.refl _ _⟩
  case round =>
   obtain ⟨p, v, X, S, hp, rfl, rfl, hdq, h1, h2, h3, h4⟩ := hrel
   have Hdq := Lib.hid hdq
   have HK1 := Lib.hid h1
   have HS1 := Lib.hid h2
   have HT1 := Lib.hid h3
   have Hf1 := Lib.hid h4
   have FW1 : Hid (Fr (fun _ => False) w wr) := FWQ.out.trans h4 (fun i hi => .inr (Nat.le_trans hw2 hi))
   clear hdq h1 h2 h3 h4
   go_upto_region 16 with fail
   go_cut [92] from 85 to 139 (fun s92 wx => ∃ b : Bool, s92 = .bool b ∧ (b = true → p < m4) ∧ wr = wx)
   case first =>
    by_cases hv : 0 < v
    ·have gv : decide (0 < v) = true := decide_eq_true hv
     go_wp2_with fail
     try go_meet
     exact ⟨_, rfl, fun h => by have := of_decide_eq_true h; omega, rfl⟩
    ·have gv : decide (0 < v) = false := decide_eq_false hv
     go_wp2_with fail
     try go_meet
     exact ⟨false, rfl, (fun h => by cases h), rfl⟩
   case rest =>
   obtain ⟨b, rfl, hb, rfl⟩ := hcut
   cases b with
   | true =>
    have hpm := hb rfl
    clear hb
    obtain ⟨ad, oo, rfl, hy, a0, a1, a2, _⟩ := (Hs4.out.fr0 FW1.out).op_ hpm
    have HO := Lib.hid (Hok4.out oo (mem_of_get hy))
    have h20 := (Hl204.out oo (mem_of_get hy)).1
    have HRs : Hid (∀ W, Fr (fun _ => False) w W → Rd W 3 oo.sa oo.sn (scells oo.sl)) := fun W f => HO.out.s.fr0 f
    have Hsa : Hid (∀ j, adF oo.sa oo.sn j → j < w.heap.size) := HO.out.s.adlt (by decide)
    have Hsw := Lib.hid HO.out.swf
    have hnn := HO.out.n
    have HCk : Hid (∀ W, Fr (fun _ => False) w W → W.cell? (ad.add (p * 4)) = some (.int .i64 oo.kind) ∧ W.cell? ⟨(ad.add (p * 4)).block, (ad.add (p * 4)).off + 1, none⟩ = some (.int .i64 oo.n) ∧ W.cell? ⟨(ad.add (p * 4)).block, (ad.add (p * 4)).off + 2, none⟩ = some (.slice oo.sa oo.sn oo.sc)) := fun W f => by
     obtain ⟨ad', o', e, ho', c0, c1, c2, _⟩ := (Hs4.out.fr0 f).op_ hpm
     injection e with e
     subst e
     rw [hy] at ho'
     cases ho'
     exact ⟨c0, c1, c2⟩
    have kn : 0 ≤ (p : Int) ∧ (p : Int) < (m4 : Int) := by omega
    have hpw : IntKind.i64.wrap ((p : Int) + 1) = (p : Int) + 1 := by simp [IntKind.wrap, IntKind.signed, IntKind.bits]; omega
    clear hy HO
    obtain ⟨kd, nn, sa, sn, sc, sl, la, ln, lc, ll⟩ := oo
    simp only at a0 a1 a2 h20 HRs Hsa Hsw hnn HCk
    by_cases hk1 : kd = 1
    ·subst hk1
     have HPt := Lib.hid (tio_put P.out HT1.out (by omega) sl sa sn sc (HRs.out wr FW1.out) Hsw.out)
     obtain ⟨pe, hpe⟩ : ∃ v, putE X sl = v := ⟨_, rfl⟩
     have Hpe := Lib.hid hpe
     rw [hpe] at HPt
     clear hpe
     go_wp2_with fail
     refine HPt.out.mono ?_
     rintro r w9 ⟨rfl, h9, f9⟩
     have HT9 : Hid (Tio nm l [] w2.heap.size w9 t (putX X sl) F (2000 + 8 * (p + 1))) := by show Tio _ _ _ _ _ _ _ _ _; rw [Nat.mul_succ, ← Nat.add_assoc]; exact h9
     have HS9 := Lib.hid (HS1.out.frT HT1.out f9 (fun j hg hf => HGF.out j hf hg))
     have Hf9 : Hid (Fr (fun j => w2.heap.size ≤ j) WQ w9) := Hf1.out.trans f9 (fun i hi => .inl (Lf.out i hi))
     have FW9 : Hid (Fr (fun _ => False) w w9) := FWQ.out.trans Hf9.out (fun i hi => .inr (Nat.le_trans hw2 hi))
     clear h9 f9 HPt a0 a1 a2
     by_cases hp0 : pe = 0
     case neg =>
      have hpb : (pe == 0) = false := by simp [hp0]
      obtain ⟨a0, a1, a2⟩ := HCk.out w9 FW9.out
      go_wp2_with fail
      go_roundw
      case rel => exact ⟨p + 1, _, _, S, by omega, by go_num, rfl, (by exact Hdq.out), HK1.out.unputs (by rw [Hpe.out]; exact hp0), HS9.out, HT9.out, Hf9.out⟩
      case measure => simp [intOf]; omega
     case pos =>
     subst hp0
     obtain ⟨a0, a1, a2⟩ := HCk.out w9 FW9.out
     have HNt := Lib.hid (snotes_ok P.out P2.out hnm2 HT1.out.good Hpe.out Hsw.out HT9.out (by omega) (by omega) (fun _ h => by cases h) HS9.out HK1.out sa sn sc (HRs.out w9 FW9.out) (by omega) (fun j hj hg => by
      have h1 := Hsa.out j hj
      have h2 := Lg.out j hg
      omega))
     go_wp2_with fail
     refine HNt.out.mono ?_
     rintro r wB ⟨rfl, hB, hkB, fB⟩
     have HSB := Lib.hid hB
     have HKB := Lib.hid hkB
     have HTB := Lib.hid (HT9.out.frSh fB HS9.out HGF.out)
     have HfB : Hid (Fr (fun j => w2.heap.size ≤ j) WQ wB) := Hf9.out.trans fB (fun i hi => .inl (Lg.out i hi))
     have FWB : Hid (Fr (fun _ => False) w wB) := FWQ.out.trans HfB.out (fun i hi => .inr (Nat.le_trans hw2 hi))
     clear hB hkB fB HNt a0 a1 a2 HT9 HS9 Hf9 FW9
     obtain ⟨a0, a1, a2⟩ := HCk.out wB FWB.out
     go_wp2_with fail
     go_roundw
     case rel => exact ⟨p + 1, _, _, _, by omega, by go_num, rfl, (by exact Hdq.out), HKB.out, HSB.out, HTB.out, HfB.out⟩
     case measure => simp [intOf]; omega
    ·have hk2 : (kd == 1) = false := by simpa using hk1
     have hk3 : decide (kd = 1) = false := decide_eq_false hk1
     by_cases hk4 : kd = 2
     ·subst hk4
      have HPt := Lib.hid (tio_tick P.out HT1.out (by omega) nn hnn)
      obtain ⟨pe, hpe⟩ : ∃ v, tickE X nn = v := ⟨_, rfl⟩
      have Hpe := Lib.hid hpe
      rw [hpe] at HPt
      clear hpe
      go_wp2_with fail
      refine HPt.out.mono ?_
      rintro r w9 ⟨rfl, h9, f9⟩
      have HT9 : Hid (Tio nm l [] w2.heap.size w9 t (tickX X nn) F (2000 + 8 * (p + 1))) := h9.more (by omega)
      have HS9 := Lib.hid (HS1.out.frT HT1.out f9 (fun j hg hf => HGF.out j hf hg))
      have Hf9 : Hid (Fr (fun j => w2.heap.size ≤ j) WQ w9) := Hf1.out.trans f9 (fun i hi => .inl (Lf.out i hi))
      clear h9 f9 HPt a0 a1 a2
      by_cases hp0 : pe = 0
      case neg =>
       have hpb : (pe == 0) = false := by simp [hp0]
       go_wp2_with fail
       go_roundw
       case rel => exact ⟨p + 1, _, _, S, by omega, by go_num, rfl, (by exact Hdq.out), HK1.out.untick (by rw [Hpe.out]; exact hp0), HS9.out, HT9.out, Hf9.out⟩
       case measure => simp [intOf]; omega
      case pos =>
      subst hp0
      have HNt := Lib.hid (strim_ok P.out P2.out hnm2 HT1.out.good Hpe.out HT9.out (by omega) (by omega) (fun _ h => by cases h) HS9.out HK1.out)
      go_wp2_with fail
      refine HNt.out.mono ?_
      rintro r wB ⟨⟨tv, rfl⟩, hB, hkB, fB⟩
      have HSB := Lib.hid hB
      have HKB := Lib.hid hkB
      have HTB := Lib.hid (HT9.out.frSh fB HS9.out HGF.out)
      have HfB : Hid (Fr (fun j => w2.heap.size ≤ j) WQ wB) := Hf9.out.trans fB (fun i hi => .inl (Lg.out i hi))
      clear hB hkB fB HNt HT9 HS9 Hf9
      go_wp2_with fail
      go_roundw
      case rel => exact ⟨p + 1, _, _, _, by omega, by go_num, rfl, (by exact Hdq.out), HKB.out, HSB.out, HTB.out, HfB.out⟩
      case measure => simp [intOf]; omega
     ·have hk5 : (kd == 2) = false := by simpa using hk4
      have hk6 : decide (kd = 2) = false := decide_eq_false hk4
      have HT9 : Hid (Tio nm l [] w2.heap.size wr t X F (2000 + 8 * (p + 1))) := HT1.out.more (by omega)
      go_wp2_with fail
      go_roundw
      case rel => exact ⟨p + 1, _, X, S, by omega, by go_num, rfl, (by exact Hdq.out), HK1.out, HS1.out, HT9.out, Hf1.out⟩
      case measure => simp [intOf]; omega
   | false =>
    clear hb
    obtain ⟨cN, hcN⟩ : ∃ v, 2000 + 8 * p = v := ⟨_, rfl⟩
    have hcc : cN ≤ 2400 := by omega
    rw [hcN] at HT1
    obtain ⟨Ap, cp, Sp, dp, p0, p1, p2, pc, pr, pi⟩ := HPl.out wr s _ X S G HS1.out HK1.out
    have HBu := Lib.hid (tio_build (o := o) P.out P2.out hnm2 HT1.out (by omega) (fun _ h => by cases h) Ap n2 cp Sp dp pr pc pi wr.heap.size (Nat.le_refl _))
    unfold planV at HBu
    obtain ⟨Y, hY⟩ : ∃ v, buildX X nm2 lt (srcs o l [] lt) = v := ⟨_, rfl⟩
    obtain ⟨bs, hbs⟩ : ∃ v, basesV X.now l [] (srcs o l [] lt) lt = v := ⟨_, rfl⟩
    rw [hY, hbs] at HBu
    have hSl : ∀ x ∈ S.tabs, x.length ≤ cN := HK1.out.lens P.out P2.out HT1.out.good (fun _ h => by cases h)
    have HNs : Hid (∀ W, ShOn W s w3.heap.size S G → Calls Tryz.prog 29 #[.pointer (some ⟨s, 0, none⟩)] W fun r w' => r = .returned (.int .i64 (sneedX S : Nat)) ∧ Below W.heap.size W w') := fun W h =>
     sneed_any s _ S W h.at_ (by rw [HK1.out.tiers, Hll2.out]; omega) (fun x hx => by have := hSl x hx; omega) (by rw [HK1.out.tiers]; exact fun x hx => (check_mem P2.out.ck hx).2.2.2.2.2)
    have hns := sneed_le HT1.out.good HK1.out
    rw [hY] at hns
    obtain ⟨ns, hns2⟩ : ∃ v, sneedX S = v := ⟨_, rfl⟩
    obtain ⟨nb, hnb⟩ : ∃ v, needX Y = v := ⟨_, rfl⟩
    rw [hns2] at HNs hns
    rw [hnb] at hns
    have Hnb := Lib.hid hnb
    have hgt : decide ((nb : Int) < (ns : Int)) = false := decide_eq_false (by omega)
    have hgt2 : decide (nb < ns) = false := decide_eq_false (by omega)
    have hgt3 : ¬ nb < ns := by omega
    obtain ⟨SN, hSN⟩ : ∃ v, S.go nm2 lt Y = v := ⟨_, rfl⟩
    have HStp : Hid (∀ W, Tio nm l [] w2.heap.size W t X F cN → ShOn W s w3.heap.size S G → Calls Tryz.prog 14 #[.pointer (some ⟨s, 0, none⟩), .pointer (some ⟨t, 0, none⟩)] W fun r w' => (∃ co, r = .returned (.tuple #[stepVal (atV lt S.done).1, co, .int .i64 0]) ∧ CutR nm2 lt bs W.heap.size w' Y cN (decide (S.done = stepsV lt - 1)) co) ∧ ShOn w' s w3.heap.size SN G ∧ Fr G W w') := fun W hT hS => by
     have h := sstep_any P.out P2.out hnm2 hT (by omega) (fun _ h => by cases h) hS HK1.out (by rw [Hdq.out, hstv]; omega)
     rw [hY, hbs, hSN] at h
     exact h
    have HKN : Hid (ShOk nm2 l lt [] o X SN) := by show ShOk _ _ _ _ _ _ _; rw [← hSN, ← hY]; exact HK1.out.next (by rw [Hdq.out, hstv]; omega)
    have HDN : Hid (SN.done = (q : Int) + 1) := by show _ = _; rw [← hSN, ← Hdq.out]; rfl
    have Hwh := Lib.hid (at_what (lt := lt) (done := S.done) P2.out.ck HK1.out.d0 (by rw [Hdq.out, hstv]; omega))
    clear hY hbs hSN hns hns2 hnb hSl pc pr pi
    go_wp2_with fail
    refine HBu.out.mono ?_
    rintro r w5 ⟨⟨tb, Fb, rfl, T5, hFb⟩, b5⟩
    have F5 : Hid (Fr (fun _ => False) wr w5) := Fr.b0 b5
    have HTb := Lib.hid T5
    have HFb := Lib.hid hFb
    have HS5 := Lib.hid (HS1.out.fr0 F5.out)
    have HT5 := Lib.hid (HT1.out.fr0 F5.out)
    have HGw : Hid (∀ j, G j → j < wr.heap.size) := fun j hj => (HS1.out.ge j hj).2
    have HN5 := Lib.hid (HNs.out w5 HS5.out)
    clear T5 hFb b5 HBu HNs p0 p1 p2
    go_wp2_with fail
    refine HN5.out.mono ?_
    rintro r w6 ⟨rfl, b6⟩
    have F6 : Hid (Fr (fun _ => False) w5 w6) := Fr.b0 b6
    have HTb6 := Lib.hid (HTb.out.fr0 F6.out)
    have HN6 := Lib.hid (tio_need P2.out HTb6.out (by omega))
    rw [Hnb.out] at HN6
    clear b6 HN5
    go_wp2_with fail
    refine HN6.out.mono ?_
    rintro r w7 ⟨rfl, b7⟩
    have F7 : Hid (Fr (fun _ => False) wr w7) := (F5.out.trans F6.out (fun _ h => h.elim)).trans (Fr.b0 b7) (fun _ h => h.elim)
    have HTb7 := Lib.hid (HTb6.out.fr0 (Fr.b0 b7))
    have HS7 := Lib.hid (HS1.out.fr0 F7.out)
    have HT7 := Lib.hid (HT1.out.fr0 F7.out)
    have HSt7 := Lib.hid (HStp.out w7 HT7.out HS7.out)
    clear b7 HN6 HTb HTb6 HS5 HT5 F5 F6 HStp Hnb
    by_cases hql : (q : Int) = FL + 1
    ·have hat : atV lt S.done = ((3, 0, 0), true) := by
      rcases Hwh.out with ⟨_, _, _, _, _, _, _, _, h⟩ | ⟨_, h⟩ | ⟨h, _⟩
      ·rw [HFL.out, Hdq.out] at h; omega
      ·rw [HFL.out, Hdq.out] at h; omega
      ·exact h
     have hcut : decide (S.done = stepsV lt - 1) = true := decide_eq_true (by rw [Hdq.out, hstv]; omega)
     rw [hat, hcut] at HSt7
     unfold stepVal at HSt7
     clear hat hcut Hwh
     go_wp2_with fail
     refine HSt7.out.mono ?_
     rintro r w8 ⟨⟨co, rfl, hco⟩, q1, q2⟩
     obtain ⟨ot, Fo, rfl, hto, _⟩ := hco.1 rfl
     have HTo := Lib.hid hto
     have HTb8 := Lib.hid (HTb7.out.frSh q2 HS7.out (fun j hj hg => by have h1 := HFb.out j hj; have h2 := HGw.out j hg; omega))
     have FW8 : Hid (Fr (fun _ => False) w w8) := (FW1.out.trans F7.out (fun _ h => h.elim)).trans q2 (fun i hi => .inr (Nat.le_trans hw2 (Lg.out i hi)))
     clear hco q1 q2 hto HSt7
     obtain ⟨vb, hvb⟩ : ∃ v, w8.heap.size = v := ⟨_, rfl⟩
     obtain ⟨W9, hW9⟩ : ∃ v, v = w8.alloc (.cells #[.int .i64 3, .int .i64 0, .int .i64 0] 50) := ⟨_, rfl⟩
     have HW9 := Lib.hid hW9
     have F9 : Hid (Fr (fun _ => False) w8 W9) := by show Fr _ _ _; rw [hW9]; exact Fr.none_alloc _ _
     have V9 : Hid (Blk W9 vb 50 #[.int .i64 3, .int .i64 0, .int .i64 0]) := by show Blk _ _ _ _; rw [hW9, ← hvb]; exact Blk.new _ _ _
     have v0 := V9.out.cell 0
     simp only [List.getElem?_toArray, List.getElem?_cons_zero] at v0
     clear hW9
     go_wp2_with fail
     rw [← HW9.out]
     try rw [hvb]
     refine (HAl.out _).mono ?_
     rintro r wA ⟨rfl, bA⟩
     have HSa := Lib.hid (tio_same P2.out P2.out ((HTo.out.fr0 F9.out).fr0 (Fr.b0 bA)) ((HTb8.out.fr0 F9.out).fr0 (Fr.b0 bA)) (by omega) (by omega))
     rw [sameX_self] at HSa
     have FWA : Hid (Fr (fun _ => False) w wA) := (FW8.out.trans F9.out (fun _ h => h.elim)).trans (Fr.b0 bA) (fun _ h => h.elim)
     clear bA v0
     go_wp2_with fail
     refine HSa.out.mono ?_
     rintro r wB ⟨rfl, bB⟩
     go_wp2_with fail
     go_ret
     exact ⟨rfl, (FWA.out.trans (Fr.b0 bB) (fun _ h => h.elim)).below (fun _ h => h.elim)⟩
    ·have hcut : decide (S.done = stepsV lt - 1) = false := decide_eq_false (by rw [Hdq.out, hstv]; omega)
     obtain ⟨⟨⟨k1, k2, k3⟩, kb⟩, hkq⟩ : ∃ v, atV lt S.done = v := ⟨_, rfl⟩
     have hk13 : k1 ≠ 3 := by
      have h0 : (atV lt S.done).1.1 = k1 := by rw [hkq]
      rcases Hwh.out with ⟨_, _, _, _, h, _⟩ | ⟨h, _⟩ | ⟨_, h⟩
      ·rw [h] at h0; simp only at h0; omega
      ·rw [h] at h0; simp only at h0; omega
      ·rw [HFL.out, Hdq.out] at h; omega
     have hk3b : (k1 == 3) = false := by simpa using hk13
     have hk3d : decide (k1 = 3) = false := decide_eq_false hk13
     have hqw : IntKind.i64.wrap ((q : Int) + 1) = (q : Int) + 1 := by simp [IntKind.wrap, IntKind.signed, IntKind.bits]; omega
     rw [hkq, hcut] at HSt7
     unfold stepVal at HSt7
     clear hkq hcut Hwh
     go_wp2_with fail
     refine HSt7.out.mono ?_
     rintro r w8 ⟨⟨co, rfl, hco⟩, q1, q2⟩
     obtain rfl := hco.2 rfl
     have HS8 := Lib.hid q1
     have HT8 := Lib.hid (HT7.out.frSh q2 HS7.out HGF.out)
     have Hf8 : Hid (Fr (fun j => w2.heap.size ≤ j) w4 w8) := ((HfQ.out.trans Hf1.out (fun i hi => .inl hi)).trans F7.out (fun _ h => h.elim)).trans q2 (fun i hi => .inl (Lg.out i hi))
     clear hco q1 q2 HSt7
     obtain ⟨vb, hvb⟩ : ∃ v, w8.heap.size = v := ⟨_, rfl⟩
     obtain ⟨W9, hW9⟩ : ∃ v, v = w8.alloc (.cells #[.int .i64 k1, .int .i64 k2, .int .i64 k3] 50) := ⟨_, rfl⟩
     have HW9 := Lib.hid hW9
     have F9 : Hid (Fr (fun _ => False) w8 W9) := by show Fr _ _ _; rw [hW9]; exact Fr.none_alloc _ _
     have V9 : Hid (Blk W9 vb 50 #[.int .i64 k1, .int .i64 k2, .int .i64 k3]) := by show Blk _ _ _ _; rw [hW9, ← hvb]; exact Blk.new _ _ _
     have v0 := V9.out.cell 0
     simp only [List.getElem?_toArray, List.getElem?_cons_zero] at v0
     clear hW9
     have HS9 := Lib.hid (HS8.out.fr0 F9.out)
     have HT9 : Hid (Tio nm l [] w2.heap.size W9 t X F (2000 + 8 * p)) := by show Tio _ _ _ _ _ _ _ _ _; rw [hcN]; exact HT8.out.fr0 F9.out
     have Hf9 : Hid (Fr (fun j => w2.heap.size ≤ j) w4 W9) := Hf8.out.trans F9.out (fun _ h => h.elim)
     clear hcN HS8 HT8 Hf8
     go_wp2_with fail
     rw [← HW9.out]
     go_roundw
     case rel => exact ⟨q + 1, p, X, SN, by omega, by omega, by go_num, rfl, by rw [HDN.out]; push_cast; rfl, HKN.out, HS9.out, HT9.out, Hf9.out⟩
     case measure => simp [intOf]; omega
end Go.Proofs.YtfhhepfkjndkgaaGreat
