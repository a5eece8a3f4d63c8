/- ShadowResumes' walk: a change that is taken up again goes on as if it had never stopped. -/
import Derived.Test.YtfhhepfkjndkgaaGreatAlive14
import Derived.Test.YtfhhepfkjndkgaaGreatTiers13
import Derived.Test.YtfhhepfkjndkgaaGreatOpC
import Derived.Test.YtfhhepfkjndkgaaGreatShNoteA
import Derived.Test.YtfhhepfkjndkgaaGreatShLoad
import Derived.Test.YtfhhepfkjndkgaaGreatTio
import Derived.Test.YtfhhepfkjndkgaaGreatShBegin
import Derived.Test.YtfhhepfkjndkgaaGreatSame
import Derived.Test.YtfhhepfkjndkgaaGreatFills
import Derived.Test.YtfhhepfkjndkgaaGreatTk
namespace Go.Proofs.YtfhhepfkjndkgaaGreat
set_option linter.all false
open Go.RowKit

set_option maxRecDepth 100000 in
set_option maxHeartbeats 8000000 in
theorem sresumes_walk (nm : ByteArray) (l : List TierV) (A : Option Addr) (n c : Nat) (nm2 : ByteArray) (lt : List TierV) (A2 : Option Addr) (n2 c2 : Nat) (now : Int) (ops : List OpC) (B : Option Addr) (m d : Nat) (st : Int) (more : List SampV) (A3 : Option Addr) (n3 c3 : Nat) (w : World) (hnm : nm.size ≤ maxLen) (hr : Rd w 4 A n (tcells l)) (hnc : n ≤ c) (hn9 : n ≤ 9223372036854775807) (hwf : ∀ t ∈ l, t.wf) (hnm2 : nm2.size ≤ maxLen) (hr2 : Rd w 4 A2 n2 (tcells lt)) (hnc2 : n2 ≤ c2) (hn92 : n2 ≤ 9223372036854775807) (hwf2 : ∀ t ∈ lt, t.wf) (hnow : -9223372036854775808 ≤ now ∧ now ≤ 9223372036854775807) (hs : Rd w 4 B m (opcells ops)) (hm9 : m ≤ 9223372036854775807) (hok : ∀ o ∈ ops, o.ok w) (hst64 : -9223372036854775808 ≤ st ∧ st ≤ 9223372036854775807) (hr3 : Rd w 3 A3 n3 (scells more)) (hn93 : n3 ≤ 9223372036854775807) (hmw : ∀ z ∈ more, z.wf) :
  Calls Tryz.prog 5 #[.agg #[.string nm, .slice A n c], .agg #[.string nm2, .slice A2 n2 c2], .int .i64 now, .slice B m d, .int .i64 st, .slice A3 n3 c3] w fun e w' => e = .returned (.bool true) ∧ Below w.heap.size w w' := by
 have HAl := Lib.hid alive14_any
 have HSm : Hid (∀ W, Fr (fun _ => False) w W → Calls Tryz.prog 8 #[.agg #[.string nm, .slice A n c]] W fun r w' => SmallR nm n r ∧ Below W.heap.size W w') := fun W f => bsmall_any nm l A n c W (hr.fr0 f) hn9 hnm (fun t h => (hwf t h).2.2.2)
 have HSm2 : Hid (∀ W, Fr (fun _ => False) w W → Calls Tryz.prog 8 #[.agg #[.string nm2, .slice A2 n2 c2]] W fun r w' => SmallR nm2 n2 r ∧ Below W.heap.size W w') := fun W f => bsmall_any nm2 lt A2 n2 c2 W (hr2.fr0 f) hn92 hnm2 (fun t h => (hwf2 t h).2.2.2)
 have HLi : Hid (∀ W, Fr (fun _ => False) w W → Calls Tryz.prog 9 #[.slice B m d] W fun r w' => LightR2 ops m r ∧ W = w') := fun W f => light2_any ops B m d W (hs.fr0 f) (fun o h => (hok o h).below (f.below (fun _ h => h.elim))) hm9
 have HT13 : Hid (∀ W, n ≤ 10 → m ≤ 50 → (∀ o ∈ ops, o.sn ≤ 20 ∧ o.ln ≤ 20) → Fr (fun _ => False) w W → Calls Tryz.prog 11 #[.agg #[.string nm, .slice A n c], .int .i64 now, .slice none 0 0, .slice B m d] W fun r w' => T13 nm l [] W.heap.size (opsX (newX nm l now []) ops) (newE nm l now []) r w' ∧ Below W.heap.size W w') := fun W h10 h50 hl f =>
  tiers13_any nm hnm l A n c now hnow [] none 0 0 ops B m d W (hr.fr0 f) hnc hwf (by omega) Rd.nil_ (by omega) (hs.fr0 f) (fun o h => (hok o h).below (f.below (fun _ h => h.elim))) hl h50
 have Hr2 := Lib.hid hr2
 have Hll2 := Lib.hid hr2.tiers_len
 obtain ⟨W0, hW0⟩ : ∃ W0, W0 = ((w.alloc (.cells #[.string nm, .slice A n c] 24)).alloc (.cells #[.string nm2, .slice A2 n2 c2] 24)) := ⟨_, rfl⟩
 have HW0 := Lib.hid hW0
 have F0 : Hid (Fr (fun _ => False) w W0) := by show Fr _ _ _; rw [hW0]; exact (Fr.none_alloc _ _).trans (Fr.none_alloc _ _) (fun _ h => h.elim)
 have B0a : Hid (Blk W0 (w.heap.size) 24 #[.string nm, .slice A n c]) := by show Blk _ _ _ _; rw [hW0]; exact ((Blk.new' (by simp) _ _).alloc _)
 have B0b : Hid (Blk W0 (w.heap.size + 1) 24 #[.string nm2, .slice A2 n2 c2]) := by show Blk _ _ _ _; rw [hW0]; exact (Blk.new' (by simp) _ _)
 clear hr hr2 hwf hs hok hW0
 have HSo : Hid (∀ W, Fr (fun _ => False) w W → Calls Tryz.prog 31 #[.int .i64 20, .slice A3 n3 c3] W fun r w' => FewR 20 n3 r ∧ W = w') := fun W f => some_any 20 (by decide) more (fun z hz => (hmw z hz).2.2) A3 n3 c3 W (hr3.fr0 f) hn93
 have Hr3 := Lib.hid hr3
 have Hmw := Lib.hid hmw
 clear hr3 hmw
 go_enter Tryz.func5, Tryz.ntmps5
 go_wp2_with fail
 rw [← HW0.out]
 refine (HSm.out _ F0.out).mono ?_
 rintro r w1 ⟨⟨b, rfl, hb⟩, b1⟩
 have F1 := Lib.hid (F0.out.trans (Fr.b0 b1) (fun _ h => h.elim))
 have B1a := Lib.hid (B0a.out.below b1)
 have B1b := Lib.hid (B0b.out.below b1)
 have x0 := B1a.out.cell 0
 have x1 := B1a.out.cell 1
 simp only [List.getElem?_toArray, List.getElem?_cons_succ, List.getElem?_cons_zero] at x0 x1
 have y0 := B1b.out.cell 0
 have y1 := B1b.out.cell 1
 simp only [List.getElem?_toArray, List.getElem?_cons_succ, List.getElem?_cons_zero] at y0 y1
 clear b1
 cases b with
 | false =>
  clear hb
  go_wp2_with fail
  refine (HAl.out _).mono ?_
  rintro r wq ⟨rfl, bq⟩
  go_wp2_with fail
  go_ret
  exact ⟨rfl, (F1.out.trans (Fr.b0 bq) (fun _ h => h.elim)).below (fun _ h => h.elim)⟩
 | true =>
 have h10 : n ≤ 10 := (hb rfl).1
 clear hb
 go_wp2_with fail
 refine (HSm2.out _ F1.out).mono ?_
 rintro r w2 ⟨⟨b, rfl, hb⟩, b2⟩
 have F2 := Lib.hid (F1.out.trans (Fr.b0 b2) (fun _ h => h.elim))
 have B2a := Lib.hid (B1a.out.below b2)
 have B2b := Lib.hid (B1b.out.below b2)
 clear x0 x1 y0 y1
 have x0 := B2a.out.cell 0
 have x1 := B2a.out.cell 1
 simp only [List.getElem?_toArray, List.getElem?_cons_succ, List.getElem?_cons_zero] at x0 x1
 have y0 := B2b.out.cell 0
 have y1 := B2b.out.cell 1
 simp only [List.getElem?_toArray, List.getElem?_cons_succ, List.getElem?_cons_zero] at y0 y1
 clear b2
 cases b with
 | false =>
  clear hb
  go_wp2_with fail
  refine (HAl.out _).mono ?_
  rintro r wq ⟨rfl, bq⟩
  go_wp2_with fail
  go_ret
  exact ⟨rfl, (F2.out.trans (Fr.b0 bq) (fun _ h => h.elim)).below (fun _ h => h.elim)⟩
 | true =>
 have h102 : n2 ≤ 10 := (hb rfl).1
 clear hb
 go_wp2_with fail
 refine (HLi.out _ F2.out).mono ?_
 rintro r w' ⟨⟨b, rfl, hb⟩, rfl⟩
 cases b with
 | false =>
  clear hb
  go_wp2_with fail
  refine (HAl.out _).mono ?_
  rintro r wq ⟨rfl, bq⟩
  go_wp2_with fail
  go_ret
  exact ⟨rfl, (F2.out.trans (Fr.b0 bq) (fun _ h => h.elim)).below (fun _ h => h.elim)⟩
 | true =>
 have h50 : m ≤ 50 := (hb rfl).1
 have Hl20 := Lib.hid (hb rfl).2
 clear hb HLi
 by_cases hs0 : st < 0
 ·have hd : decide (st < 0) = true := decide_eq_true hs0
  go_wp2_with fail
  refine (HAl.out _).mono ?_
  rintro r wq ⟨rfl, bq⟩
  go_wp2_with fail
  go_ret
  exact ⟨rfl, (F2.out.trans (Fr.b0 bq) (fun _ h => h.elim)).below (fun _ h => h.elim)⟩
 have hd : decide (st < 0) = false := decide_eq_false hs0
 by_cases hs30 : 30 < st
 ·have hd2 : decide (30 < st) = true := decide_eq_true hs30
  go_wp2_with fail
  refine (HAl.out _).mono ?_
  rintro r wq ⟨rfl, bq⟩
  go_wp2_with fail
  go_ret
  exact ⟨rfl, (F2.out.trans (Fr.b0 bq) (fun _ h => h.elim)).below (fun _ h => h.elim)⟩
 have hd2 : decide (30 < st) = false := decide_eq_false hs30
 go_wp2_with fail
 refine (HSo.out _ F2.out).mono ?_
 rintro r w' ⟨⟨b, rfl, hb⟩, rfl⟩
 cases b with
 | false =>
  clear hb
  go_wp2_with fail
  refine (HAl.out _).mono ?_
  rintro r wq ⟨rfl, bq⟩
  go_wp2_with fail
  go_ret
  exact ⟨rfl, (F2.out.trans (Fr.b0 bq) (fun _ h => h.elim)).below (fun _ h => h.elim)⟩
 | true =>
 have h20 : n3 ≤ 20 := hb rfl
 clear hb HSo
 go_wp2_with fail
 refine (HT13.out _ h10 h50 Hl20.out F2.out).mono ?_
 rintro r w3 ⟨hT, b3⟩
 have F3 := Lib.hid (F2.out.trans (Fr.b0 b3) (fun _ h => h.elim))
 have B3a := Lib.hid (B2a.out.below b3)
 have B3b := Lib.hid (B2b.out.below b3)
 clear x0 x1 y0 y1
 have x0 := B3a.out.cell 0
 have x1 := B3a.out.cell 1
 simp only [List.getElem?_toArray, List.getElem?_cons_succ, List.getElem?_cons_zero] at x0 x1
 have y0 := B3b.out.cell 0
 have y1 := B3b.out.cell 1
 simp only [List.getElem?_toArray, List.getElem?_cons_succ, List.getElem?_cons_zero] at y0 y1
 have hw23 := b3.size
 clear b3
 by_cases hE : newE nm l now [] = 0
 case neg =>
  obtain rfl := hT.2 hE
  clear hT
  go_wp2_with fail
  refine (HAl.out _).mono ?_
  rintro r wq ⟨rfl, bq⟩
  go_wp2_with fail
  go_ret
  exact ⟨rfl, (F3.out.trans (Fr.b0 bq) (fun _ h => h.elim)).below (fun _ h => h.elim)⟩
 case pos =>
 obtain ⟨hP, t, g, F, rfl, hD⟩ := hT.1 hE
 have P := Lib.hid hP
 have HT3 := Lib.hid hD.tio
 obtain ⟨Z, hZ⟩ : ∃ Z, opsX (newX nm l now []) ops = Z := ⟨_, rfl⟩
 rw [hZ] at HT3
 have Hwf2 := Lib.hid hwf2
 have HBg := Lib.hid (begin_tio (nm2 := nm2) (lt := lt) P.out hnm hnm2 HT3.out (by omega) (fun _ h => by cases h) A2 c2 (by rw [Hll2.out]; exact Hr2.out.fr0 F3.out) (by rw [Hll2.out]; exact hnc2) hwf2)
 rw [Hll2.out] at HBg
 clear hT hP hD hZ HT13 HSm HSm2 hwf2
 go_wp2_with fail
 refine HBg.out.mono ?_
 rintro r w4 ⟨⟨h4a, h4b⟩, b4⟩
 have F4 := Lib.hid (F3.out.trans (Fr.b0 b4) (fun _ h => h.elim))
 have B4a := Lib.hid (B3a.out.below b4)
 have B4b := Lib.hid (B3b.out.below b4)
 have HT4 := Lib.hid (HT3.out.fr0 (Fr.b0 b4))
 clear x0 x1 y0 y1 b4
 have x0 := B4a.out.cell 0
 have x1 := B4a.out.cell 1
 simp only [List.getElem?_toArray, List.getElem?_cons_succ, List.getElem?_cons_zero] at x0 x1
 have y0 := B4b.out.cell 0
 have y1 := B4b.out.cell 1
 simp only [List.getElem?_toArray, List.getElem?_cons_succ, List.getElem?_cons_zero] at y0 y1
 cases hck2 : checkB nm2 lt with
 | false =>
  obtain rfl := h4b hck2
  clear h4a h4b hck2
  go_wp2_with fail
  refine (HAl.out _).mono ?_
  rintro r wq ⟨rfl, bq⟩
  go_wp2_with fail
  go_ret
  exact ⟨rfl, (F4.out.trans (Fr.b0 bq) (fun _ h => h.elim)).below (fun _ h => h.elim)⟩
 | true =>
 obtain ⟨s, rfl, hs4⟩ := h4a hck2
 have P2 := Lib.hid (show PolOk nm2 lt from ⟨hck2, Hwf2.out⟩)
 clear h4a h4b hck2 HBg
 obtain ⟨bd, hbd⟩ : ∃ v, 2 * ((needX (buildX Z nm2 lt (srcs Z.now l [] lt)) : Nat) : Int) + fillsV lt = v := ⟨_, rfl⟩
 rw [hbd] at hs4
 have hst := steps_in P2.out
 have hbd0 : 0 ≤ bd := by omega
 obtain ⟨S0, hS0⟩ : ∃ S : ShX, (⟨nm2, lt, srcs Z.now l [] lt, bd, 0, lt.map fun _ => []⟩ : ShX) = S := ⟨_, rfl⟩
 have hk0 : ShOk nm2 l lt [] Z S0 := by
  rw [← hS0]
  exact ⟨rfl, rfl, rfl, shT_zero.symm, Int.le_refl _, by show (0 : Int) ≤ stepsV lt; omega⟩
 have hd0 : S0.done = 0 := by rw [← hS0]
 have hb0 : S0.bound = bd := by rw [← hS0]
 rw [hS0] at hs4
 obtain ⟨G, ho4⟩ := hs4.on
 have HS4 := Lib.hid ho4
 have HK4 := Lib.hid hk0
 have HGF : Hid (∀ j, F j → ¬ G j) := fun j hj hg => by
  have h1 := (HT3.out.ge j hj).2
  have h2 := (ho4.ge j hg).1
  omega
 have hGlo : Hid (∀ j, G j → w3.heap.size ≤ j) := fun j hg => (ho4.ge j hg).1
 obtain ⟨FL, hFL⟩ : ∃ v, fillsV lt = v := ⟨_, rfl⟩
 have HFL := Lib.hid hFL
 rw [hFL] at hst
 have hstv : stepsV lt = FL + 2 := hst.2.1
 clear hbd hS0 hs4 hk0 HT3
 have HPl : Hid (∀ (W : World) (s' base' : Nat) (X : TiersX) (S : ShX) (G' : Nat → Prop), ShOn W s' base' S G' → ShOk nm2 l lt [] X S → ∃ Ap cp Sp dp, W.cell? ⟨s', 0, none⟩ = some (.string nm2) ∧ W.cell? ⟨s', 1, none⟩ = some (.slice Ap n2 cp) ∧ W.cell? ⟨s', 2, none⟩ = some (.slice Sp n2 dp) ∧ n2 ≤ cp ∧ Rd W 4 Ap n2 (tcells lt) ∧ Rd W 1 Sp n2 (ints (srcs X.now l [] lt))) := fun W s' base' X S G' ho hk => by
  obtain ⟨A', c', B', d', T', ct', tb', hi, _⟩ := ho
  obtain ⟨q0, q1, q2, _, _, _⟩ := hi.cells (Fr.refl (fun _ => False) W) (fun h => h)
  have e1 : S.tiers.length = n2 := by rw [hk.tiers]; exact Hll2.out
  have e2 : S.srcs.length = n2 := by rw [hk.src]; unfold srcs; rw [List.length_map]; exact Hll2.out
  have r1 := (own_any hi.tiers).2.2.1
  have r2 := (own_any hi.srcs).2.2.1
  have r3 := (own_any hi.tiers).1
  rw [hk.name] at q0
  rw [e1] at q1 r1 r3
  rw [e2] at q2 r2
  rw [hk.tiers] at r1
  rw [hk.src] at r2
  exact ⟨A', c', B', d', q0, q1, q2, r3, r1, r2⟩
 have HSt : Hid (∀ W Ap cp Sp dp, Rd W 4 Ap n2 (tcells lt) → Calls Tryz.prog 13 #[.agg #[.string nm2, .slice Ap n2 cp, .slice Sp n2 dp]] W fun r w' => r = .returned (.int .i64 (FL + 2)) ∧ Below W.heap.size W w') := fun W Ap cp Sp dp hr => by
  have := steps_any nm2 lt Ap n2 cp Sp n2 dp W hr (by omega) (fun x hx => (check_mem P2.out.ck hx).2.2.2.2.2)
  rw [hstv] at this
  exact this
 have hkw1 : IntKind.i64.wrap (FL + 2 - 1) = FL + 1 := by simp [IntKind.wrap, IntKind.signed, IntKind.bits]; omega
 have hF40 : FL ≤ 40 := by omega
 clear x0 x1 y0 y1
 go_wp2_with fail
 go_loopw [17] (fun i wr => ∃ (q : Nat) (S : ShX), (q : Int) ≤ FL + 1 ∧ i = .int .i64 (q : Nat) ∧ S.done = (q : Int) ∧ S.bound = bd ∧ ShOk nm2 l lt [] Z S ∧ ShOn wr s w3.heap.size S G ∧ Tio nm l [] w2.heap.size wr t Z F 2000 ∧ Fr (fun j => w3.heap.size ≤ j) w4 wr) (fun i _ => (31 - intOf i).toNat)
 case atStart => exact ⟨0, S0, by omega, rfl, hd0, hb0, HK4.out, HS4.out, HT4.out, Fr.refl _ _⟩
 case round =>
  obtain ⟨q, S, hq, rfl, hdq, hbq, hkS, hoS, hTt, hfr⟩ := hrel
  have HK := Lib.hid hkS
  have HS := Lib.hid hoS
  have HT := Lib.hid hTt
  have Hf := Lib.hid hfr
  have Hdq := Lib.hid hdq
  have Hbq := Lib.hid hbq
  clear hkS hoS hTt hfr hdq hbq
  obtain ⟨Ap, cp, Sp, dp, p0, p1, p2, pc, pr, _⟩ := HPl.out wr s _ Z S G HS.out HK.out
  have HSt1 := Lib.hid (HSt.out wr Ap cp Sp dp pr)
  clear pr
  go_upto_region 10 with fail
  go_cut [91] from 79 to 102 (fun s91 wx => ∃ (b : Bool) (W5 : World), W5 = wx ∧ s91 = .bool b ∧ (b = true → (q : Int) < st ∧ (q : Int) < FL + 1) ∧ Fr (fun _ => False) wr wx)
  case first =>
   by_cases h1 : (q : Int) < st
   ·have g0 : decide ((q : Int) < st) = true := decide_eq_true h1
    go_wp2_with fail
    refine HSt1.out.mono ?_
    rintro r w5 ⟨rfl, b5⟩
    go_wp2_with fail
    try go_meet
    exact ⟨_, _, rfl, rfl, fun h => ⟨h1, of_decide_eq_true h⟩, Fr.b0 b5⟩
   ·have g0 : decide ((q : Int) < st) = false := decide_eq_false h1
    go_wp2_with fail
    try go_meet
    exact ⟨false, _, rfl, rfl, (fun h => by cases h), Fr.refl _ _⟩
  case rest =>
  obtain ⟨b, w5, rfl, rfl, hb, f5⟩ := hcut
  have HT5 := Lib.hid (HT.out.fr0 f5)
  have HS5 := Lib.hid (HS.out.fr0 f5)
  have Hf5 : Hid (Fr (fun j => w3.heap.size ≤ j) w4 w5) := Hf.out.trans f5 (fun _ h => h.elim)
  clear p0 p1 p2 HSt1 f5 Hf
  cases b with
  | true =>
   obtain ⟨hq1, hq2⟩ := hb rfl
   have HStp := Lib.hid (sstep_any P.out P2.out hnm2 HT5.out (by omega) (fun _ h => by cases h) HS5.out HK.out (by rw [Hdq.out, hstv]; omega))
   have hcut : decide (S.done = stepsV lt - 1) = false := decide_eq_false (by rw [Hdq.out, hstv]; omega)
   rw [hcut] at HStp
   have hkw : IntKind.i64.wrap ((q : Int) + 1) = (q : Int) + 1 := by simp [IntKind.wrap, IntKind.signed, IntKind.bits]; omega
   obtain ⟨⟨⟨k1, k2, k3⟩, kb⟩, hkq⟩ : ∃ v, atV lt S.done = v := ⟨_, rfl⟩
   rw [hkq] at HStp
   unfold stepVal at HStp
   have HKn := Lib.hid (HK.out.next (by rw [Hdq.out, hstv]; omega))
   clear hcut hkq hb
   go_wp2_with fail
   refine HStp.out.mono ?_
   rintro r w6 ⟨⟨co, rfl, hco⟩, q1, q2⟩
   obtain rfl := hco.2 rfl
   have FA : Hid (Fr (fun _ => False) w6 (w6.alloc (.cells #[.int .i64 k1, .int .i64 k2, .int .i64 k3] 50))) := Fr.none_alloc _ _
   have HT6 := Lib.hid ((HT5.out.frSh q2 HS5.out HGF.out).fr0 FA.out)
   have HS6 := Lib.hid (q1.fr0 FA.out)
   have Hf6 : Hid (Fr (fun j => w3.heap.size ≤ j) w4 (w6.alloc (.cells #[.int .i64 k1, .int .i64 k2, .int .i64 k3] 50))) := (Hf5.out.trans q2 (fun i hi => .inl (hGlo.out i hi))).trans FA.out (fun _ h => h.elim)
   clear q1 q2 hco HStp
   go_wp2_with fail
   go_roundw
   case rel => exact ⟨q + 1, S.go nm2 lt (buildX Z nm2 lt (srcs Z.now l [] lt)), by omega, by go_num, by show S.done + 1 = _; rw [Hdq.out]; omega, Hbq.out, HKn.out, HS6.out, HT6.out, Hf6.out⟩
   case measure => simp [intOf]; omega
  | false =>
   have FW : Hid (Fr (fun _ => False) w w5) := F4.out.trans Hf5.out (fun i hi => .inr (Nat.le_trans F3.out.size hi))
   have hlo3 : w.heap.size + 1 < w2.heap.size := B2b.out.lt
   have Bb : Hid (Blk w5 (w.heap.size + 1) 24 #[.string nm2, .slice A2 n2 c2]) := B4b.out.fr Hf5.out (by have := B3b.out.lt; omega)
   obtain ⟨Ap, cp, Sp, dp, p0, p1, p2, pc, pr, pi⟩ := HPl.out w5 s _ Z S G HS5.out HK.out
   have HBo : Hid (∀ W, Fr (fun _ => False) w5 W → Calls Tryz.prog 27 #[.pointer (some ⟨s, 0, none⟩)] W fun r w' => r = .returned (.int .i64 bd) ∧ W = w') := fun W f => by
    have := sbound_any s _ S W (HS5.out.fr0 f).at_
    rw [Hbq.out] at this
    exact this
   have HDo : Hid (∀ W, Fr (fun _ => False) w5 W → Calls Tryz.prog 21 #[.pointer (some ⟨s, 0, none⟩)] W fun r w' => r = .returned (.int .i64 (q : Nat)) ∧ W = w') := fun W f => by
    have := sdone_any s _ S W (HS5.out.fr0 f).at_
    rw [Hdq.out] at this
    exact this
   obtain ⟨X0, hX0⟩ : ∃ v, (⟨nm2, lt, srcs Z.now l [] lt, bd, (q : Int), lt.map fun _ => []⟩ : ShX) = v := ⟨_, rfl⟩
   have HRe : Hid (∀ W, Fr (fun _ => False) w5 W → Calls Tryz.prog 24 #[.agg #[.string nm2, .slice Ap n2 cp, .slice Sp n2 dp], .int .i64 bd, .int .i64 (q : Nat)] W fun r w' => (∃ xo xb, r = .returned (.tuple #[.pointer (some ⟨xo, 0, none⟩), .int .i64 0]) ∧ w5.heap.size ≤ xb ∧ ShAt w' xo xb X0) ∧ Below W.heap.size W w') := fun W f => by
    rw [← hX0]
    refine (resume_any nm2 lt Ap n2 cp (srcs Z.now l [] lt) Sp n2 dp bd (q : Int) W (pr.fr0 f) (by omega) (fun x hx => (check_mem P2.out.ck hx).2.2.2.2.2) (fun x hx => (check_mem P2.out.ck hx).1) (pi.fr0 f) (by omega)).mono ?_
    rintro r w' ⟨⟨h1, _⟩, b⟩
    obtain ⟨xo, rfl, h2⟩ := h1 ⟨by omega, hbd0, by omega, by omega⟩
    exact ⟨⟨xo, _, rfl, f.size, h2⟩, b⟩
   have HC15 : Hid (∀ W, Fr (fun _ => False) w5 W → W.cell? ⟨s, 0, none⟩ = some (.string nm2) ∧ W.cell? ⟨s, 1, none⟩ = some (.slice Ap n2 cp) ∧ W.cell? ⟨s, 2, none⟩ = some (.slice Sp n2 dp)) := fun W f => ⟨f.cell p0 (fun h => h), f.cell p1 (fun h => h), f.cell p2 (fun h => h)⟩
   have HX0t : Hid (X0.tiers = lt) := by show _ = _; rw [← hX0]
   have HX0z : Hid (({ X0 with tabs := uptoL n2 (fun k => S.tabs.getD k []) (fun _ => []) 0 } : ShX) = X0) := by
    show _ = _
    rw [← hX0]
    simp only [ShX.mk.injEq, true_and]
    rw [uptoL_zero, ← Hll2.out]
    apply List.ext_getElem?
    intro i
    rw [List.getElem?_map, List.getElem?_map]
    by_cases hi : i < lt.length
    ·rw [List.getElem?_range hi, List.getElem?_eq_getElem hi]; rfl
    ·rw [List.getElem?_eq_none (by rw [List.length_range]; omega), List.getElem?_eq_none (by omega)]; rfl
   have hSl : S.tabs.length = n2 := by rw [HK.out.tabs, shT_len]; exact Hll2.out
   have HXN : Hid (({ X0 with tabs := uptoL n2 (fun k => S.tabs.getD k []) (fun _ => []) n2 } : ShX) = S) := by
    have h := HK.out.eq Hbq.out Hdq.out
    show _ = _
    rw [uptoL_all, getD_all hSl, ← hX0]
    exact h
   have HlS : Hid (∀ m ∈ S.tabs, m.length ≤ 2000) := HK.out.lens P.out P2.out HT5.out.good (fun _ h => by cases h)
   clear hX0 hSl p0 p1 p2 pc pr pi hb
   go_wp2_with fail
   refine wp_region_held_drew (S := fun W_ => Fr (fun _ => False) w5 W_) (by kernel_rfl) ((Fr.refl _ w5).drew) (fun hHeld => ?_)
   refine tl 0 ⟨some 104, .move (.tmp 15), 38, _, _, none⟩ ?v1 rfl ?q1 ?r1
   case q1 => intro W hSw; go_simp; try rfl
   refine tl 1 ⟨some 105, .nilCheck (.tmp 104), 0, _, _, none⟩ ?v2 rfl ?q2 ?r2
   case q2 => intro W hSw; go_simp; try rfl
   refine tl 2 ⟨some 106, .fieldAddr 48 (.tmp 105) 0, 0, _, _, none⟩ ?v3 rfl ?q3 ?r3
   case q3 => intro W hSw; go_simp; try rfl
   refine tl 3 ⟨some 107, .load 45 (.tmp 106), 45, _, _, none⟩ ?v4 rfl ?q4 ?r4
   case q4 => intro W hSw; (try obtain ⟨q0, q1, q2⟩ := HC15.out W hSw); go_simp; try rfl
   refine tl 4 ⟨some 108, .move (.tmp 15), 38, _, _, none⟩ ?v5 rfl ?q5 ?r5
   case q5 => intro W hSw; go_simp; try rfl
   refine tl 6 ⟨some 110, .move (.tmp 15), 38, _, _, none⟩ ?v6 rfl ?q6 ?r6
   case q6 => intro W hSw; go_simp; try rfl
   try simp only [Act.put, sA, sB, sC]
   refine rl 5 ⟨some 109, .call ⟨.value (.func 27), #[.tmp 108], #[38]⟩, 3, _, _, none⟩ rfl (fun K hK => ?_)
   go_simp
   go_wp2_with (first | (go_at_call 27; refine (HBo.out _ hHeld).mono ?_; rintro r wb ⟨rfl, rfl⟩))
   refine hK.out _ _ (hHeld) (fun hHeld => ?_)
   clear hK K
   try simp only [Act.put, sA, sB, sC]
   refine rl 7 ⟨some 111, .call ⟨.value (.func 21), #[.tmp 110], #[38]⟩, 3, _, _, none⟩ rfl (fun K hK => ?_)
   go_simp
   go_wp2_with (first | (go_at_call 21; refine (HDo.out _ hHeld).mono ?_; rintro r wd ⟨rfl, rfl⟩))
   refine hK.out _ _ (hHeld) (fun hHeld => ?_)
   clear hK K
   try simp only [Act.put, sA, sB, sC]
   refine rl 8 ⟨some 112, .call ⟨.value (.func 24), #[.tmp 107, .tmp 109, .tmp 111], #[45, 3, 3]⟩, 40, _, _, none⟩ rfl (fun K hK => ?_)
   go_simp
   go_wp2_with (first | (go_at_call 24; refine (HRe.out _ hHeld).mono ?_; rintro r w7 ⟨⟨xo, xb, rfl, hxb, hx7⟩, b7⟩))
   refine hK.out _ _ (hHeld.trans (Fr.b0 b7) (fun _ h => h.elim)) (fun hHeld => ?_)
   clear hK K
   refine tl 9 ⟨some 103, .move (.tmp 112), 40, _, _, none⟩ ?v7 rfl ?q7 ?r7
   case q7 => intro W hSw; go_simp; try rfl
   refine tl 10 ⟨some 113, .extract (.tmp 103) 0, 38, _, _, none⟩ ?v8 rfl ?q8 ?r8
   case q8 => intro W hSw; (try obtain ⟨q0, q1, q2⟩ := HC15.out W hSw); go_simp; try rfl
   refine tl 11 ⟨some 114, .extract (.tmp 103) 1, 39, _, _, none⟩ ?v9 rfl ?q9 ?r9
   case q9 => intro W hSw; (try obtain ⟨q0, q1, q2⟩ := HC15.out W hSw); go_simp; try rfl
   refine tl 12 ⟨some 21, .assign (.tmp 113), 38, _, _, none⟩ ?v10 rfl ?q10 ?r10
   case q10 => intro W hSw; (try obtain ⟨q0, q1, q2⟩ := HC15.out W hSw); go_simp; try rfl
   refine tl 13 ⟨some 22, .assign (.tmp 114), 39, _, _, none⟩ ?v11 rfl ?q11 ?r11
   case q11 => intro W hSw; (try obtain ⟨q0, q1, q2⟩ := HC15.out W hSw); go_simp; try rfl
   try simp only [Act.put, sA, sB, sC]
   refine wpAnyH_done (by kernel_rfl) ?_ _
   have G7 := Lib.hid hHeld
   obtain ⟨Gx, ox⟩ := hx7.on
   have HX7 := Lib.hid ox
   have HGx : Hid (∀ j, Gx j → w5.heap.size ≤ j) := fun j hj => Nat.le_trans hxb (ox.ge j hj).1
   have HG5 : Hid (∀ j, G j → j < w5.heap.size) := fun j hj => (HS5.out.ge j hj).2
   have HF5 : Hid (∀ j, F j → j < w5.heap.size) := fun j hj => (HT5.out.ge j hj).2
   have HS7 := Lib.hid (HS5.out.fr0 G7.out)
   have HT7 := Lib.hid (HT5.out.fr0 G7.out)
   have FW7 := Lib.hid (FW.out.trans G7.out (fun _ h => h.elim))
   have Bb7 := Lib.hid (Bb.out.fr G7.out (fun h => h))
   have HX0' : Hid (ShOn w7 xo xb ({ X0 with tabs := uptoL n2 (fun k => S.tabs.getD k []) (fun _ => []) 0 } : ShX) Gx) := by show ShOn _ _ _ _ _; rw [HX0z.out]; exact HX7.out
   have hlow5 : w2.heap.size ≤ w5.heap.size := Nat.le_trans hw23 (Nat.le_of_lt HS5.out.lo_size)
   clear hHeld b7 hx7 ox HS5 HT5 HBo HDo HRe HC15 HX0z Bb FW
   go_wp2_with fail
   go_loopw [23] (fun i wr => ∃ j : Nat, j ≤ n2 ∧ i = .int .i64 (j : Nat) ∧ ShOn wr xo xb ({ X0 with tabs := uptoL n2 (fun k => S.tabs.getD k []) (fun _ => []) j } : ShX) Gx ∧ Fr Gx w7 wr) (fun i _ => n2 - (intOf i).toNat)
   case atStart => exact ⟨0, Nat.zero_le _, rfl, HX0'.out, Fr.refl _ _⟩
   case round =>
    obtain ⟨j, hj, rfl, hxj, hfj⟩ := hrel
    have HXj := Lib.hid hxj
    have HSj := Lib.hid (HS7.out.frS HX7.out hfj (fun i hi hg => by have h1 := HG5.out i hi; have h2 := HGx.out i hg; omega))
    have HTj := Lib.hid (HT7.out.frSh hfj HX7.out (fun i hi hg => by have h1 := HF5.out i hi; have h2 := HGx.out i hg; omega))
    have Bbj := Lib.hid (Bb7.out.fr hfj (fun hg => by have h2 := HGx.out _ hg; omega))
    have Hfj := Lib.hid hfj
    have y1 := Bbj.out.cell 1
    simp only [List.getElem?_toArray, List.getElem?_cons_succ, List.getElem?_cons_zero] at y1
    clear hxj hfj
    by_cases hlj : j < n2
    ·have g0 : decide ((j : Int) < (n2 : Int)) = true := decide_eq_true (by omega)
     have hjw : IntKind.i64.wrap ((j : Int) + 1) = (j : Int) + 1 := by simp [IntKind.wrap, IntKind.signed, IntKind.bits]; omega
     have hjl : j < lt.length := by rw [Hll2.out]; exact hlj
     obtain ⟨y, hy⟩ : ∃ y, lt[j]? = some y := ⟨_, List.getElem?_eq_getElem hjl⟩
     obtain ⟨L, hL⟩ : ∃ v, S.tabs.getD j [] = v := ⟨_, rfl⟩
     have Hy := Lib.hid hy
     have hLl : L.length ≤ 2000 := by rw [← hL]; exact getD_len HlS.out j
     have HLr : Hid (Sorted L ∧ ∀ r ∈ L, rightR y.every r = true) := by show _ ∧ _; rw [← hL]; exact HK.out.tab P.out P2.out HTj.out.good (fun _ h => by cases h) hy
     have HLw : Hid (∀ r ∈ L, r.wf) := by show ∀ _, _; rw [← hL]; exact HSj.out.recs_wf (by rw [HK.out.tiers]; exact hjl)
     have HRc := Lib.hid (srecords_any s _ S (j : Int) wr HSj.out.at_ (fun m hm => by have := HlS.out m hm; omega))
     rw [recI_nat, hL] at HRc
     have HLd : Hid (∀ W A c, Fr (fun _ => False) wr W → Rd W 7 A L.length (rcells L) → Calls Tryz.prog 19 #[.pointer (some ⟨xo, 0, none⟩), .int .i64 (j : Nat), .slice A L.length c] W fun r w' => r = .returned (.int .i64 (L.length : Nat)) ∧ ShOn w' xo xb ({ X0 with tabs := uptoL n2 (fun k => S.tabs.getD k []) (fun _ => []) (j + 1) } : ShX) Gx ∧ Fr Gx W w') := fun W A c f hr => by
      have h := sload_in xo xb _ Gx j y L A L.length c W (HXj.out.fr0 f) (by show X0.tiers[j]? = _; rw [HX0t.out]; exact Hy.out) (fun m hm => by
       have h1 : m ∈ uptoL n2 (fun k => S.tabs.getD k []) (fun _ => []) j := hm
       unfold uptoL at h1
       obtain ⟨k, _, rfl⟩ := List.mem_map.1 h1
       have := getD_len HlS.out k
       show (if k < j then S.tabs.getD k [] else []).length ≤ _
       split
       ·omega
       ·exact Nat.zero_le _) (by omega) hr HLw.out
      rw [List.filter_eq_self.2 HLr.out.2] at h
      have e1 : (uptoL n2 (fun k => S.tabs.getD k []) (fun _ => []) j).getD j [] = [] := by rw [List.getD_eq_getElem?_getD, uptoL_get hlj]; rfl
      have e2 := uptoL_set (n := n2) (f := fun k => S.tabs.getD k []) (g := fun _ => ([] : List RecV)) (i := j) hlj
      simp only at h e2
      rw [hL] at e2
      rw [e1, adds_self (acc := []) (by exact HLr.out.1) HLr.out.2, List.nil_append, e2] at h
      exact h
     obtain ⟨nL, hnL⟩ : ∃ v, L.length = v := ⟨_, rfl⟩
     rw [hnL] at HRc HLd hLl
     have hLL : (((nL : Nat) : Int) == ((nL : Nat) : Int)) = true := by simp
     have hLL2 : (nL == nL) = true := by simp
     clear hy hL hnL
     go_wp2_with fail
     refine HRc.out.mono ?_
     rintro r w8 ⟨⟨Ar, cr, rfl, or⟩, b8⟩
     have Hor := Lib.hid (own_any or).2.2.1
     have G8 : Hid (Fr (fun _ => False) wr w8) := Fr.b0 b8
     clear or b8 HRc
     go_wp2_with fail
     refine (HLd.out w8 Ar cr G8.out Hor.out).mono ?_
     rintro r w9 ⟨rfl, h9, f9⟩
     have H9 := Lib.hid h9
     have G9 : Hid (Fr Gx w7 w9) := (Hfj.out.trans G8.out (fun _ h => h.elim)).trans f9 (fun _ h => .inl h)
     clear h9 f9 HLd Hor
     go_wp2_with fail
     go_roundw
     case rel => exact ⟨j + 1, by omega, by go_num, H9.out, G9.out⟩
     case measure => simp [intOf]; omega
    ·obtain rfl : n2 = j := by omega
     have g0 : decide ((n2 : Int) < (n2 : Int)) = false := decide_eq_false (by omega)
     rw [HXN.out] at HXj
     have FWj : Hid (Fr (fun _ => False) w wr) := FW7.out.trans Hfj.out (fun i hi => .inr (by have := HGx.out i hi; have h2 := F2.out.size; omega))
     obtain ⟨WL, hWL⟩ : ∃ v, v = wr := ⟨_, rfl⟩
     rw [← hWL] at HXj HSj HTj Bbj FWj y1 ⊢
     have HsL : Hid (w5.heap.size ≤ WL.heap.size) := by show _ ≤ _; rw [hWL]; exact Nat.le_trans G7.out.size Hfj.out.size
     clear hWL Hfj
     clear HlS HXN HX0t
     go_wp2_with fail
     clear y1
     go_loopw [25] (fun i wr => ∃ (k : Nat) (X : TiersX) (S1 : ShX), k ≤ n3 ∧ i = .int .i64 (k : Nat) ∧ ShOk nm2 l lt [] X S1 ∧ ShOn wr s w3.heap.size S1 G ∧ ShOn wr xo xb S1 Gx ∧ Tio nm l [] w2.heap.size wr t X F (2000 + 8 * k) ∧ Fr (fun j => w2.heap.size ≤ j) WL wr) (fun i _ => n3 - (intOf i).toNat)
     case atStart => exact ⟨0, Z, S, Nat.zero_le _, rfl, HK.out, HSj.out, HXj.out, HTj.out, Fr.refl _ _⟩
     case round =>
      obtain ⟨k, X, S1, hk, rfl, h1, h3, h4, h5, h6⟩ := hrel
      have HK1 := Lib.hid h1
      have HS1 := Lib.hid h3
      have HX1 := Lib.hid h4
      have HT1 := Lib.hid h5
      have Hf1 := Lib.hid h6
      have FW1 : Hid (Fr (fun _ => False) w wr) := FWj.out.trans h6 (fun i hi => .inr (Nat.le_trans F2.out.size hi))
      have HsR : Hid (w5.heap.size ≤ wr.heap.size) := Nat.le_trans HsL.out h6.size
      have Dgx : Hid (∀ j, G j → ¬ Gx j) := fun j hg hx => by have h1 := HG5.out j hg; have h2 := HGx.out j hx; omega
      have Dfx : Hid (∀ j, F j → ¬ Gx j) := fun j hg hx => by have h1 := HF5.out j hg; have h2 := HGx.out j hx; omega
      have Lf : Hid (∀ j, F j → w2.heap.size ≤ j) := fun j hj => (HT1.out.ge j hj).1
      have Lg : Hid (∀ j, G j → w2.heap.size ≤ j) := fun j hj => Nat.le_trans hw23 (hGlo.out j hj)
      have Lx : Hid (∀ j, Gx j → w2.heap.size ≤ j) := fun j hj => Nat.le_trans hlow5 (HGx.out j hj)
      clear h1 h3 h4 h5 h6
      by_cases hlk : k < n3
      ·obtain ⟨a3, z, rfl, hz, _, _, _⟩ := (Hr3.out.fr0 FW1.out).samp_ hlk
       have Hz := Lib.hid hz
       have Hzw := Lib.hid (Hmw.out z (mem_of_get hz))
       obtain ⟨zn, zt, zv⟩ := z
       have HE : Hid (∀ W, Fr (fun _ => False) w W → W.cell? (a3.add (k * 3)) = some (.string zn) ∧ W.cell? ⟨(a3.add (k * 3)).block, (a3.add (k * 3)).off + 1, none⟩ = some (.int .i64 zt) ∧ W.cell? ⟨(a3.add (k * 3)).block, (a3.add (k * 3)).off + 2, none⟩ = some (.int .i64 zv)) := fun W f => by
        obtain ⟨a', z', ea, hz', d0, d1, d2⟩ := (Hr3.out.fr0 f).samp_ hlk
        obtain rfl := Option.some.inj ea
        rw [Hz.out] at hz'
        obtain rfl := Option.some.inj hz'
        exact ⟨d0, d1, d2⟩
       obtain ⟨e0, e1, e2⟩ := HE.out wr FW1.out
       have g0 : decide ((k : Int) < (n3 : Int)) = true := decide_eq_true (by omega)
       have kn : 0 ≤ (k : Int) ∧ (k : Int) < (n3 : Int) := by omega
       have hkw : IntKind.i64.wrap ((k : Int) + 1) = (k : Int) + 1 := by simp [IntKind.wrap, IntKind.signed, IntKind.bits]; omega
       clear hz
       go_wp2_with fail
       obtain ⟨W8, hW8⟩ : ∃ v, v = wr.alloc (.cells #[.string zn, .int .i64 zt, .int .i64 zv] 67) := ⟨_, rfl⟩
       rw [← hW8]
       have F8 : Hid (Fr (fun _ => False) wr W8) := by show Fr _ _ _; rw [hW8]; exact Fr.none_alloc _ _
       have R8 : Hid (Rd W8 3 (some ⟨wr.heap.size, 0, none⟩) 1 (scells [(⟨zn, zt, zv⟩ : SampV)])) := by show Rd _ _ _ _ _; rw [hW8]; exact Rd.newS rfl _ _ 1 3 rfl
       clear hW8
       have HPt := Lib.hid (tio_put P.out (HT1.out.fr0 F8.out) (by omega) [(⟨zn, zt, zv⟩ : SampV)] _ 1 1 R8.out (fun x hx => by rw [List.mem_singleton] at hx; rw [hx]; exact Hzw.out))
       obtain ⟨pe, hpe⟩ : ∃ v, putE X [(⟨zn, zt, zv⟩ : SampV)] = v := ⟨_, rfl⟩
       have Hpe := Lib.hid hpe
       rw [hpe] at HPt
       clear hpe e0 e1 e2
       refine HPt.out.mono ?_
       rintro r w9 ⟨rfl, h9, f9⟩
       have HT9 : Hid (Tio nm l [] w2.heap.size w9 t (putX X [(⟨zn, zt, zv⟩ : SampV)]) F (2000 + 8 * (k + 1))) := by show Tio _ _ _ _ _ _ _ _ _; rw [Nat.mul_succ, ← Nat.add_assoc]; exact h9
       have HS9 := Lib.hid ((HS1.out.fr0 F8.out).frT (HT1.out.fr0 F8.out) f9 (fun j hg hf => HGF.out j hf hg))
       have HX9 := Lib.hid ((HX1.out.fr0 F8.out).frT (HT1.out.fr0 F8.out) f9 (fun j hg hf => Dfx.out j hf hg))
       have Hf9 : Hid (Fr (fun j => w2.heap.size ≤ j) WL w9) := (Hf1.out.trans F8.out (fun _ h => h.elim)).trans f9 (fun i hi => .inl (Lf.out i hi))
       have FW9 : Hid (Fr (fun _ => False) w w9) := FWj.out.trans Hf9.out (fun i hi => .inr (Nat.le_trans F2.out.size hi))
       have Hs9 : Hid (w5.heap.size ≤ w9.heap.size) := Nat.le_trans HsL.out Hf9.out.size
       clear h9 f9 HPt R8
       by_cases hp0 : pe = 0
       case neg =>
        have hpb : (pe == 0) = false := by simp [hp0]
        go_wp2_with fail
        go_roundw
        case rel => exact ⟨k + 1, _, S1, by omega, by go_num, HK1.out.unput (by rw [Hpe.out]; exact hp0), HS9.out, HX9.out, HT9.out, Hf9.out⟩
        case measure => simp [intOf]; omega
       case pos =>
       subst hp0
       obtain ⟨e0, e1, e2⟩ := HE.out w9 FW9.out
       go_wp2_with fail
       obtain ⟨WA, hWA⟩ : ∃ v, v = w9.alloc (.cells #[.string zn, .int .i64 zt, .int .i64 zv] 67) := ⟨_, rfl⟩
       rw [← hWA]
       have FA : Hid (Fr (fun _ => False) w9 WA) := by show Fr _ _ _; rw [hWA]; exact Fr.none_alloc _ _
       have RA : Hid (Rd WA 3 (some ⟨w9.heap.size, 0, none⟩) 1 (scells [(⟨zn, zt, zv⟩ : SampV)])) := by show Rd _ _ _ _ _; rw [hWA]; exact Rd.newS rfl _ _ 1 3 rfl
       clear hWA
       have HN1 := Lib.hid (snote_ok P.out P2.out hnm2 HT1.out.good Hpe.out Hzw.out (HT9.out.fr0 FA.out) (by omega) (by omega) (fun _ h => by cases h) (HS9.out.fr0 FA.out) HK1.out _ 1 RA.out (fun j hj hg => by
        have h1 := HG5.out j hg
        have h2 := Hs9.out
        rw [adF_one hj] at h1
        omega))
       clear e0 e1 e2
       refine HN1.out.mono ?_
       rintro r wB ⟨rfl, hB, fB⟩
       have HSB := Lib.hid hB
       have HXB := Lib.hid ((HX9.out.fr0 FA.out).frS (HS9.out.fr0 FA.out) fB (fun j hx hg => Dgx.out j hg hx))
       have HTB := Lib.hid ((HT9.out.fr0 FA.out).frSh fB (HS9.out.fr0 FA.out) HGF.out)
       have HfB : Hid (Fr (fun j => w2.heap.size ≤ j) WL wB) := (Hf9.out.trans FA.out (fun _ h => h.elim)).trans fB (fun i hi => .inl (Lg.out i hi))
       have FWB : Hid (Fr (fun _ => False) w wB) := FWj.out.trans HfB.out (fun i hi => .inr (Nat.le_trans F2.out.size hi))
       have HsB : Hid (∀ j, Gx j → j < wB.heap.size) := fun j hj => (HXB.out.ge j hj).2
       clear hB fB HN1 RA HT9 HS9 HX9 Hf9
       obtain ⟨e0, e1, e2⟩ := HE.out wB FWB.out
       go_wp2_with fail
       obtain ⟨WC, hWC⟩ : ∃ v, v = wB.alloc (.cells #[.string zn, .int .i64 zt, .int .i64 zv] 67) := ⟨_, rfl⟩
       rw [← hWC]
       have FC : Hid (Fr (fun _ => False) wB WC) := by show Fr _ _ _; rw [hWC]; exact Fr.none_alloc _ _
       have RC : Hid (Rd WC 3 (some ⟨wB.heap.size, 0, none⟩) 1 (scells [(⟨zn, zt, zv⟩ : SampV)])) := by show Rd _ _ _ _ _; rw [hWC]; exact Rd.newS rfl _ _ 1 3 rfl
       clear hWC
       have HN2 := Lib.hid (snote_ok P.out P2.out hnm2 HT1.out.good Hpe.out Hzw.out (HTB.out.fr0 FC.out) (by omega) (by omega) (fun _ h => by cases h) (HXB.out.fr0 FC.out) HK1.out _ 1 RC.out (fun j hj hg => by
        have h1 := HsB.out j hg
        rw [adF_one hj] at h1
        omega))
       clear e0 e1 e2
       refine HN2.out.mono ?_
       rintro r wD ⟨rfl, hD, fD⟩
       have HXD := Lib.hid hD
       have HSD := Lib.hid ((HSB.out.fr0 FC.out).frS (HXB.out.fr0 FC.out) fD Dgx.out)
       have HTD := Lib.hid ((HTB.out.fr0 FC.out).frSh fD (HXB.out.fr0 FC.out) Dfx.out)
       have HfD : Hid (Fr (fun j => w2.heap.size ≤ j) WL wD) := (HfB.out.trans FC.out (fun _ h => h.elim)).trans fD (fun i hi => .inl (Lx.out i hi))
       clear hD fD HN2 RC
       go_wp2_with fail
       go_roundw
       case rel => exact ⟨k + 1, _, _, by omega, by go_num, HK1.out.noted, HSD.out, HXD.out, HTD.out, HfD.out⟩
       case measure => simp [intOf]; omega
      ·obtain rfl : k = n3 := by omega
       have g0 : decide ((k : Int) < (k : Int)) = false := decide_eq_false (by omega)
       have hcc : 2000 + 8 * k ≤ 2160 := by omega
       obtain ⟨cN, hcN⟩ : ∃ v, 2000 + 8 * k = v := ⟨_, rfl⟩
       rw [hcN] at HT1 hcc
       obtain ⟨WM, hWM⟩ : ∃ v, v = wr := ⟨_, rfl⟩
       have Bb1 : Hid (Blk wr (w.heap.size + 1) 24 #[.string nm2, .slice A2 n2 c2]) := Bbj.out.fr Hf1.out (by omega)
       rw [← hWM] at HS1 HX1 HT1 FW1 Bb1 ⊢
       clear hWM hcN HK Hdq Hbq HSj HXj HTj Bbj FWj HsL Hf1 HsR Hr3 Hmw
       go_wp2_with fail
       go_loopw [] (fun wr => ∃ S2 : ShX, ShOk nm2 l lt [] X S2 ∧ ShOn wr s w3.heap.size S2 G ∧ ShOn wr xo xb S2 Gx ∧ Tio nm l [] w2.heap.size wr t X F cN ∧ Fr (fun j => w2.heap.size ≤ j) WM wr) (fun wr => (FL + 2 - intOf ((wr.cell? ⟨s, 4, none⟩).getD undef)).toNat)
       case atStart => exact ⟨S1, HK1.out, HS1.out, HX1.out, HT1.out, Fr.refl _ _⟩
       case round =>
        obtain ⟨S2, h1, h3, h4, h5, h6⟩ := hrel
        have HK2 := Lib.hid h1
        have HS2 := Lib.hid h3
        have HX2 := Lib.hid h4
        have HT2 := Lib.hid h5
        have Hf2 := Lib.hid h6
        have c4w := h3.cell4
        have FW2 : Hid (Fr (fun _ => False) w wr) := FW1.out.trans h6 (fun i hi => .inr (Nat.le_trans F2.out.size hi))
        have Bb2 := Lib.hid (Bb1.out.fr h6 (by omega))
        obtain ⟨dv, hdv⟩ : ∃ v, S2.done = v := ⟨_, rfl⟩
        have HD2 := Lib.hid hdv
        rw [hdv] at c4w
        have hd0' : 0 ≤ dv := by rw [← hdv]; exact h1.d0
        have hd1' : dv ≤ FL + 2 := by rw [← hdv, ← hstv]; exact h1.d1
        clear h1 h3 h4 h5 h6 hdv
        obtain ⟨Aq, cq, Sq, dq, p0, p1, p2, pcq, prq, _⟩ := HPl.out wr s _ X S2 G HS2.out HK2.out
        have HCq : Hid (∀ W, Fr (fun _ => False) wr W → W.cell? ⟨s, 0, none⟩ = some (.string nm2) ∧ W.cell? ⟨s, 1, none⟩ = some (.slice Aq n2 cq) ∧ W.cell? ⟨s, 2, none⟩ = some (.slice Sq n2 dq)) := fun W f => ⟨f.cell p0 (fun h => h), f.cell p1 (fun h => h), f.cell p2 (fun h => h)⟩
        have HSq : Hid (∀ W, Fr (fun _ => False) wr W → Calls Tryz.prog 13 #[.agg #[.string nm2, .slice Aq n2 cq, .slice Sq n2 dq]] W fun r w' => r = .returned (.int .i64 (FL + 2)) ∧ Below W.heap.size W w') := fun W f => HSt.out W Aq cq Sq dq (prq.fr0 f)
        clear p0 p1 p2 pcq prq
        have HDo : Hid (∀ W, Fr (fun _ => False) wr W → Calls Tryz.prog 21 #[.pointer (some ⟨s, 0, none⟩)] W fun r w' => r = .returned (.int .i64 dv) ∧ W = w') := fun W f => by
         have := sdone_any s _ S2 W (HS2.out.fr0 f).at_
         rw [HD2.out] at this
         exact this
        go_wp2_with fail
        refine wp_region_held_drew (S := fun W_ => Fr (fun _ => False) wr W_) (by kernel_rfl) ((Fr.refl _ wr).drew) (fun hHeld => ?_)
        refine tl 0 ⟨some 164, .move (.tmp 15), 38, _, _, none⟩ ?v12 rfl ?q12 ?r12
        case q12 => intro W hSw; go_simp; try rfl
        refine tl 2 ⟨some 166, .move (.tmp 15), 38, _, _, none⟩ ?v13 rfl ?q13 ?r13
        case q13 => intro W hSw; go_simp; try rfl
        refine tl 3 ⟨some 167, .nilCheck (.tmp 166), 0, _, _, none⟩ ?v14 rfl ?q14 ?r14
        case q14 => intro W hSw; go_simp; try rfl
        refine tl 4 ⟨some 168, .fieldAddr 48 (.tmp 167) 0, 0, _, _, none⟩ ?v15 rfl ?q15 ?r15
        case q15 => intro W hSw; go_simp; try rfl
        refine tl 5 ⟨some 169, .load 45 (.tmp 168), 45, _, _, none⟩ ?v16 rfl ?q16 ?r16
        case q16 => intro W hSw; (try obtain ⟨q0, q1, q2⟩ := HCq.out W hSw); go_simp; try rfl
        try simp only [Act.put, sA, sB, sC]
        refine rl 1 ⟨some 165, .call ⟨.value (.func 21), #[.tmp 164], #[38]⟩, 3, _, _, none⟩ rfl (fun K hK => ?_)
        go_simp
        go_wp2_with (first | (go_at_call 21; refine (HDo.out _ hHeld).mono ?_; rintro r wd ⟨rfl, rfl⟩))
        refine hK.out _ _ (hHeld) (fun hHeld => ?_)
        clear hK K
        try simp only [Act.put, sA, sB, sC]
        refine rl 6 ⟨some 170, .call ⟨.value (.func 13), #[.tmp 169], #[45]⟩, 3, _, _, none⟩ rfl (fun K hK => ?_)
        go_simp
        go_wp2_with (first | (go_at_call 13; refine (HSq.out _ hHeld).mono ?_; rintro r w8 ⟨rfl, b8⟩))
        refine hK.out _ _ (hHeld.trans (Fr.b0 b8) (fun _ h => h.elim)) (fun hHeld => ?_)
        clear hK K
        refine tl 7 ⟨some 171, .binOp .lss 3 (.tmp 165) (.tmp 170) 3, 4, _, _, none⟩ ?v17 rfl ?q17 ?r17
        case q17 => intro W hSw; (try obtain ⟨q0, q1, q2⟩ := HCq.out W hSw); go_simp; try rfl
        try simp only [Act.put, sA, sB, sC]
        refine wpAnyH_done (by kernel_rfl) ?_ _
        have G8 := Lib.hid hHeld
        have HS8 := Lib.hid (HS2.out.fr0 G8.out)
        have HX8 := Lib.hid (HX2.out.fr0 G8.out)
        have HT8 := Lib.hid (HT2.out.fr0 G8.out)
        have Bb8 := Lib.hid (Bb2.out.fr G8.out (fun h => h))
        have Hf8 : Hid (Fr (fun j => w2.heap.size ≤ j) WM w8) := Hf2.out.trans G8.out (fun _ h => h.elim)
        clear hHeld b8 HDo HSq HCq
        by_cases hd2 : dv < FL + 2
        ·have g0 : decide (dv < FL + 2) = true := decide_eq_true hd2
         obtain ⟨Y, hY⟩ : ∃ v, buildX X nm2 lt (srcs X.now l [] lt) = v := ⟨_, rfl⟩
         obtain ⟨bs, hbs⟩ : ∃ v, basesV X.now l [] (srcs X.now l [] lt) lt = v := ⟨_, rfl⟩
         obtain ⟨SN, hSN⟩ : ∃ v, S2.go nm2 lt Y = v := ⟨_, rfl⟩
         have HKN : Hid (ShOk nm2 l lt [] X SN) := by show ShOk _ _ _ _ _ _; rw [← hSN, ← hY]; exact HK2.out.next (by rw [HD2.out, hstv]; omega)
         have HDN : Hid (SN.done = dv + 1) := by show _ = _; rw [← hSN, ← HD2.out]; rfl
         obtain ⟨last, hlast⟩ : ∃ v, decide (S2.done = stepsV lt - 1) = v := ⟨_, rfl⟩
         obtain ⟨⟨⟨k1, k2, k3⟩, kb⟩, hkq⟩ : ∃ v, atV lt S2.done = v := ⟨_, rfl⟩
         have HStp : Hid (∀ W s' b' G', Tio nm l [] w2.heap.size W t X F cN → ShOn W s' b' S2 G' → Calls Tryz.prog 14 #[.pointer (some ⟨s', 0, none⟩), .pointer (some ⟨t, 0, none⟩)] W fun r w' => (∃ co, r = .returned (.tuple #[.agg #[.int .i64 k1, .int .i64 k2, .int .i64 k3], co, .int .i64 0]) ∧ CutR nm2 lt bs W.heap.size w' Y cN last co) ∧ ShOn w' s' b' SN G' ∧ Fr G' W w') := fun W s' b' G' hT hS => by
          have h := sstep_any P.out P2.out hnm2 hT (by omega) (fun _ h => by cases h) hS HK2.out (by rw [HD2.out, hstv]; omega)
          rw [hY, hbs, hlast, hkq, hSN] at h
          exact h
         clear hY hbs hSN hlast hkq
         go_wp2_with fail
         refine (HStp.out _ _ _ _ HT8.out HS8.out).mono ?_
         rintro r w9 ⟨⟨co, rfl, hco⟩, q1, q2⟩
         have HC1 := Lib.hid hco
         have HS9 := Lib.hid q1
         have HX9 := Lib.hid (HX8.out.frS HS8.out q2 (fun j hx hg => Dgx.out j hg hx))
         have HT9 := Lib.hid (HT8.out.frSh q2 HS8.out HGF.out)
         have Bb9 := Lib.hid (Bb8.out.fr q2 (fun hg => by have := Lg.out _ hg; omega))
         have Hf9 : Hid (Fr (fun j => w2.heap.size ≤ j) WM w9) := Hf8.out.trans q2 (fun i hi => .inl (Lg.out i hi))
         have Hx8 : Hid (∀ j, Gx j → j < w8.heap.size) := fun j hj => (HX8.out.ge j hj).2
         have Hz8 : Hid (w8.heap.size ≤ w9.heap.size) := q2.size
         clear hco q1 q2 HS8 HX8 HT8 Bb8 Hf8
         obtain ⟨va, hva⟩ : ∃ v, w9.heap.size = v := ⟨_, rfl⟩
         obtain ⟨WA, hWA⟩ : ∃ v, v = w9.alloc (.cells #[.int .i64 k1, .int .i64 k2, .int .i64 k3] 50) := ⟨_, rfl⟩
         have HWA := Lib.hid hWA
         have FA : Hid (Fr (fun _ => False) w9 WA) := by show Fr _ _ _; rw [hWA]; exact Fr.none_alloc _ _
         have VA : Hid (Blk WA va 50 #[.int .i64 k1, .int .i64 k2, .int .i64 k3]) := by show Blk _ _ _ _; rw [hWA, ← hva]; exact Blk.new _ _ _
         clear hWA
         go_wp2_with fail
         rw [← HWA.out]
         try rw [hva]
         refine (HStp.out _ _ _ _ (HT9.out.fr0 FA.out) (HX9.out.fr0 FA.out)).mono ?_
         rintro r wB ⟨⟨co2, rfl, hco2⟩, r1, r2⟩
         have HC2 := Lib.hid hco2
         have HXB := Lib.hid r1
         have HSB := Lib.hid ((HS9.out.fr0 FA.out).frS (HX9.out.fr0 FA.out) r2 Dgx.out)
         have HTB := Lib.hid ((HT9.out.fr0 FA.out).frSh r2 (HX9.out.fr0 FA.out) Dfx.out)
         have BbB := Lib.hid ((Bb9.out.alloc' FA.out).fr r2 (fun hg => by have := Lx.out _ hg; omega))
         have HfB : Hid (Fr (fun j => w2.heap.size ≤ j) WM wB) := (Hf9.out.trans FA.out (fun _ h => h.elim)).trans r2 (fun i hi => .inl (Lx.out i hi))
         have VB := Lib.hid (VA.out.fr r2 (fun hg => by have h1 := Hx8.out _ hg; have h2 := Hz8.out; omega))
         have HCB : Hid (CutR nm2 lt bs w8.heap.size wB Y cN last co) := by
          refine ⟨fun h => ?_, HC1.out.2⟩
          obtain ⟨ot, Fo, e, h1, h2⟩ := HC1.out.1 h
          exact ⟨ot, Fo, e, (h1.fr0 FA.out).frSh r2 (HX9.out.fr0 FA.out) (fun j hj hx => by have h3 := h2 j hj; have h4 := Hx8.out j hx; omega), h2⟩
         clear hco2 r1 r2 HC1 HS9 HX9 HT9 Bb9 Hf9 HStp
         obtain ⟨vc, hvc⟩ : ∃ v, wB.heap.size = v := ⟨_, rfl⟩
         obtain ⟨WC, hWC⟩ : ∃ v, v = wB.alloc (.cells #[.int .i64 k1, .int .i64 k2, .int .i64 k3] 50) := ⟨_, rfl⟩
         have HWC := Lib.hid hWC
         have FC : Hid (Fr (fun _ => False) wB WC) := by show Fr _ _ _; rw [hWC]; exact Fr.none_alloc _ _
         have VC : Hid (Blk WC vc 50 #[.int .i64 k1, .int .i64 k2, .int .i64 k3]) := by show Blk _ _ _ _; rw [hWC, ← hvc]; exact Blk.new _ _ _
         clear hWC
         have VD := Lib.hid (VB.out.fr FC.out (fun h => h))
         have HCD : Hid (CutR nm2 lt bs w8.heap.size WC Y cN last co) := ⟨fun h => by obtain ⟨ot, Fo, e, h1, h2⟩ := HCB.out.1 h; exact ⟨ot, Fo, e, h1.fr0 FC.out, h2⟩, HCB.out.2⟩
         have HC3 : Hid (∃ lo3, CutR nm2 lt bs lo3 WC Y cN last co2) := ⟨_, fun h => by obtain ⟨ot, Fo, e, h1, h2⟩ := HC2.out.1 h; exact ⟨ot, Fo, e, h1.fr0 FC.out, h2⟩, HC2.out.2⟩
         have a0 := VD.out.cell 0
         have a1 := VD.out.cell 1
         have a2 := VD.out.cell 2
         have b0 := VC.out.cell 0
         have b1 := VC.out.cell 1
         have b2 := VC.out.cell 2
         simp only [List.getElem?_toArray, List.getElem?_cons_succ, List.getElem?_cons_zero] at a0 a1 a2 b0 b1 b2
         clear HCB HC2 VB VA
         go_upto_region 33 with fail
         rw [← HWC.out]
         try rw [hvc]
         go_cut [213] from 164 to 228 (fun s213 wx => ∃ W5 : World, W5 = wx ∧ s213 = .bool false ∧ Fr (fun _ => False) WC wx)
         case first =>
          obtain ⟨lo3, hC3⟩ := HC3.out
          cases last with
          | false =>
           obtain rfl := HCD.out.2 rfl
           obtain rfl := hC3.2 rfl
           clear hC3
           go_wp2_with fail
           try go_meet
           exact ⟨_, rfl, rfl, Fr.refl _ _⟩
          | true =>
           obtain ⟨o1, Fo1, rfl, t1, _⟩ := HCD.out.1 rfl
           obtain ⟨o2, Fo2, rfl, t2, _⟩ := hC3.1 rfl
           have HSa := Lib.hid (tio_same P2.out P2.out t1 t2 (by omega) (by omega))
           rw [sameX_self] at HSa
           clear hC3 t1 t2
           go_wp2_with fail
           refine HSa.out.mono ?_
           rintro r wE ⟨rfl, bE⟩
           go_wp2_with fail
           try go_meet
           exact ⟨_, rfl, rfl, Fr.b0 bE⟩
         case rest =>
         obtain ⟨WE, rfl, rfl, fE⟩ := hcut
         have HSE := Lib.hid ((HSB.out.fr0 FC.out).fr0 fE)
         have HXE := Lib.hid ((HXB.out.fr0 FC.out).fr0 fE)
         have HTE := Lib.hid ((HTB.out.fr0 FC.out).fr0 fE)
         have BbE := Lib.hid ((BbB.out.alloc' FC.out).fr fE (fun h => h))
         have HfE : Hid (Fr (fun j => w2.heap.size ≤ j) WM WE) := (HfB.out.trans FC.out (fun _ h => h.elim)).trans fE (fun _ h => h.elim)
         have HlE : Hid (∀ m ∈ SN.tabs, m.length ≤ 3000) := fun m hm => by
          have := HKN.out.lens P.out P2.out HTE.out.good (fun _ h => by cases h) m hm
          omega
         clear fE a0 a1 a2 b0 b1 b2 HCD HC3 VC VD HSB HXB HTB BbB HfB
         go_wp2_with fail
         go_loopw [32] (fun i wr => ∃ j : Nat, j ≤ n2 ∧ i = .int .i64 (j : Nat) ∧ Fr (fun _ => False) WE wr) (fun i _ => n2 - (intOf i).toNat)
         case atStart => exact ⟨0, Nat.zero_le _, rfl, Fr.refl _ _⟩
         case round =>
          obtain ⟨j, hj, rfl, hfj⟩ := hrel
          have Hfj := Lib.hid hfj
          have HSj := Lib.hid (HSE.out.fr0 hfj)
          have HXj := Lib.hid (HXE.out.fr0 hfj)
          have Bbj := Lib.hid (BbE.out.fr hfj (fun h => h))
          have y1 := Bbj.out.cell 1
          simp only [List.getElem?_toArray, List.getElem?_cons_succ, List.getElem?_cons_zero] at y1
          clear hfj
          by_cases hlj : j < n2
          ·have gj : decide ((j : Int) < (n2 : Int)) = true := decide_eq_true (by omega)
           have hjw : IntKind.i64.wrap ((j : Int) + 1) = (j : Int) + 1 := by simp [IntKind.wrap, IntKind.signed, IntKind.bits]; omega
           have HR1 := Lib.hid (srecords_any s _ _ (j : Int) wr HSj.out.at_ (fun m hm => by have := HlE.out m hm; omega))
           rw [recI_nat] at HR1
           obtain ⟨L, hL⟩ : ∃ v, SN.tabs.getD j [] = v := ⟨_, rfl⟩
           rw [hL] at HR1
           have hLl : L.length ≤ 3000 := by rw [← hL]; exact getD_len HlE.out j
           have HR2 : Hid (∀ W, Fr (fun _ => False) wr W → Calls Tryz.prog 17 #[.pointer (some ⟨xo, 0, none⟩), .int .i64 (j : Nat)] W fun r w' => (∃ A c, r = .returned (.slice A L.length c) ∧ w'.ownsRow W.heap.size 30 7 (.slice A L.length c) L.length (rcells L)) ∧ Below W.heap.size W w') := fun W f => by
            have := srecords_any xo _ _ (j : Int) W (HXj.out.fr0 f).at_ (fun m hm => by have := HlE.out m hm; omega)
            rw [recI_nat, hL] at this
            exact this
           obtain ⟨nL, hnL⟩ : ∃ v, L.length = v := ⟨_, rfl⟩
           rw [hnL] at HR1 HR2 hLl
           clear hL hnL
           go_wp2_with fail
           refine HR1.out.mono ?_
           rintro r wF ⟨⟨A5, c5, rfl, o5⟩, b5⟩
           have O5 := Lib.hid o5
           have G5 : Hid (Fr (fun _ => False) wr wF) := Fr.b0 b5
           clear o5 b5 HR1
           go_wp2_with fail
           refine (HR2.out _ G5.out).mono ?_
           rintro r wG ⟨⟨A6, c6, rfl, o6⟩, b6⟩
           have G6 : Hid (Fr (fun _ => False) wF wG) := Fr.b0 b6
           have HSm := Lib.hid (samerecs_any L L A5 nL c5 A6 nL c6 wG (own_any (own_fr0 O5.out G6.out)).2.2.1 (own_any o6).2.2.1 (by omega) (by omega))
           rw [decide_eq_true (rfl : L = L)] at HSm
           clear o6 b6 HR2
           go_wp2_with fail
           refine HSm.out.mono ?_
           rintro r wH ⟨rfl, bH⟩
           have GH : Hid (Fr (fun _ => False) WE wH) := ((Hfj.out.trans G5.out (fun _ h => h.elim)).trans G6.out (fun _ h => h.elim)).trans (Fr.b0 bH) (fun _ h => h.elim)
           clear bH HSm
           go_wp2_with fail
           go_roundw
           case rel => exact ⟨j + 1, by omega, by go_num, GH.out⟩
           case measure => simp [intOf]; omega
          ·obtain rfl : j = n2 := by omega
           have gj : decide ((j : Int) < (j : Int)) = false := decide_eq_false (by omega)
           have HSZ := Lib.hid HSj.out.cell4
           go_wp2_with fail
           go_roundw
           case rel => exact ⟨SN, HKN.out, HSj.out, HXj.out, HTE.out.fr0 Hfj.out, HfE.out.trans Hfj.out (fun _ h => h.elim)⟩
           case measure =>
            rw [HSZ.out, c4w, HDN.out]
            simp only [intOf, Option.getD_some]
            omega
        ·obtain rfl : dv = FL + 2 := by omega
         have g0 : decide (FL + 2 < FL + 2) = false := decide_eq_false (by omega)
         have hff : ((FL + 2) == (FL + 2)) = true := by simp
         have FW8 : Hid (Fr (fun _ => False) w w8) := FW2.out.trans G8.out (fun _ h => h.elim)
         obtain ⟨Ax, cx, Sx, dx, p0, p1, p2, pcx, prx, _⟩ := HPl.out w8 xo _ X S2 Gx HX8.out HK2.out
         have HCx : Hid (∀ W, Fr (fun _ => False) w8 W → W.cell? ⟨xo, 0, none⟩ = some (.string nm2) ∧ W.cell? ⟨xo, 1, none⟩ = some (.slice Ax n2 cx) ∧ W.cell? ⟨xo, 2, none⟩ = some (.slice Sx n2 dx)) := fun W f => ⟨f.cell p0 (fun h => h), f.cell p1 (fun h => h), f.cell p2 (fun h => h)⟩
         have HSx : Hid (∀ W, Fr (fun _ => False) w8 W → Calls Tryz.prog 13 #[.agg #[.string nm2, .slice Ax n2 cx, .slice Sx n2 dx]] W fun r w' => r = .returned (.int .i64 (FL + 2)) ∧ Below W.heap.size W w') := fun W f => HSt.out W Ax cx Sx dx (prx.fr0 f)
         clear p0 p1 p2 pcx prx
         have HDx : Hid (∀ W, Fr (fun _ => False) w8 W → Calls Tryz.prog 21 #[.pointer (some ⟨xo, 0, none⟩)] W fun r w' => r = .returned (.int .i64 (FL + 2)) ∧ W = w') := fun W f => by
          have := sdone_any xo _ S2 W (HX8.out.fr0 f).at_
          rw [HD2.out] at this
          exact this
         go_wp2_with fail
         refine wp_region_held_drew (S := fun W_ => Fr (fun _ => False) w8 W_) (by kernel_rfl) ((Fr.refl _ w8).drew) (fun hHeld => ?_)
         refine rl 0 ⟨some 229, .call ⟨.value (.func 10), #[], #[]⟩, 4, _, _, none⟩ rfl (fun K hK => ?_)
         go_simp
         go_wp2_with (first | (go_at_call 10; refine (HAl.out _).mono ?_; rintro r wq ⟨rfl, bq⟩))
         refine hK.out _ _ (hHeld.trans (Fr.b0 bq) (fun _ h => h.elim)) (fun hHeld => ?_)
         clear hK K
         refine tl 1 ⟨some 230, .move (.tmp 229), 4, _, _, none⟩ ?v18 rfl ?q18 ?r18
         case q18 => intro W hSw; go_simp; try rfl
         try simp only [Act.put, sA, sB, sC]
         refine tl 2 ⟨some 231, .move (.tmp 21), 38, _, _, some (1, true)⟩ ?v19 rfl ?q19 ?r19
         case q19 => intro W hSw; go_simp; try rfl
         try simp only [Act.put, sA, sB, sC]
         refine tl 4 ⟨some 233, .move (.tmp 21), 38, _, _, some (1, true)⟩ ?v20 rfl ?q20 ?r20
         case q20 => intro W hSw; go_simp; try rfl
         try simp only [Act.put, sA, sB, sC]
         refine tl 5 ⟨some 234, .nilCheck (.tmp 233), 0, _, _, some (1, true)⟩ ?v21 rfl ?q21 ?r21
         case q21 => intro W hSw; go_simp; try rfl
         try simp only [Act.put, sA, sB, sC]
         refine tl 6 ⟨some 235, .fieldAddr 48 (.tmp 234) 0, 0, _, _, some (1, true)⟩ ?v22 rfl ?q22 ?r22
         case q22 => intro W hSw; go_simp; try rfl
         try simp only [Act.put, sA, sB, sC]
         refine tl 7 ⟨some 236, .load 45 (.tmp 235), 45, _, _, some (1, true)⟩ ?v23 rfl ?q23 ?r23
         case q23 => intro W hSw; (try obtain ⟨q0, q1, q2⟩ := HCx.out W hSw); go_simp; try rfl
         try simp only [Act.put, sA, sB, sC]
         refine rl 3 ⟨some 232, .call ⟨.value (.func 21), #[.tmp 231], #[38]⟩, 3, _, _, some (1, true)⟩ rfl (fun K hK => ?_)
         go_simp
         go_wp2_with (first | (go_at_call 21; refine (HDx.out _ hHeld).mono ?_; rintro r wd ⟨rfl, rfl⟩))
         refine hK.out _ _ (hHeld) (fun hHeld => ?_)
         clear hK K
         try simp only [Act.put, sA, sB, sC]
         refine rl 8 ⟨some 237, .call ⟨.value (.func 13), #[.tmp 236], #[45]⟩, 3, _, _, some (1, true)⟩ rfl (fun K hK => ?_)
         go_simp
         go_wp2_with (first | (go_at_call 13; refine (HSx.out _ hHeld).mono ?_; rintro r we ⟨rfl, be⟩))
         refine hK.out _ _ (hHeld.trans (Fr.b0 be) (fun _ h => h.elim)) (fun hHeld => ?_)
         clear hK K
         try simp only [Act.put, sA, sB, sC]
         refine tl 9 ⟨some 238, .binOp .eql 3 (.tmp 232) (.tmp 237) 3, 4, _, _, some (1, true)⟩ ?v24 rfl ?q24 ?r24
         case q24 => intro W hSw; (try obtain ⟨q0, q1, q2⟩ := HCx.out W hSw); go_simp; try rfl
         refine tl 10 ⟨some 239, .pick (.tmp 230) (.tmp 238) (.const (.bool false)), 4, _, _, none⟩ ?v25 rfl ?q25 ?r25
         case q25 => intro W hSw; go_simp; try rfl
         refine tl 11 ⟨some 12, .assign (.tmp 239), 4, _, _, none⟩ ?v26 rfl ?q26 ?r26
         case q26 => intro W hSw; (try obtain ⟨q0, q1, q2⟩ := HCx.out W hSw); go_simp; try rfl
         try simp only [Act.put, sA, sB, sC]
         refine wpAnyH_done (by kernel_rfl) ?_ _
         have FE := Lib.hid (FW8.out.trans hHeld (fun _ h => h.elim))
         clear hHeld
         go_wp2_with fail
         go_ret
         exact ⟨rfl, FE.out.below (fun _ h => h.elim)⟩
end Go.Proofs.YtfhhepfkjndkgaaGreat
