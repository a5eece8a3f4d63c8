/- ShadowChecks' walk: what lacks something, or has something more, is told by the check. -/
import Derived.Test.YtfhhepfkjndkgaaGreatAlive14
import Derived.Test.YtfhhepfkjndkgaaGreatTiers13
import Derived.Test.YtfhhepfkjndkgaaGreatOpC
import Derived.Test.YtfhhepfkjndkgaaGreatShChk
import Derived.Test.YtfhhepfkjndkgaaGreatShCopy
import Derived.Test.YtfhhepfkjndkgaaGreatShLoad
import Derived.Test.YtfhhepfkjndkgaaGreatSame
import Derived.Test.YtfhhepfkjndkgaaGreatFills
import Derived.Test.YtfhhepfkjndkgaaGreatTk
namespace Go.Proofs.YtfhhepfkjndkgaaGreat
set_option linter.all false
open Go.RowKit

theorem ShOn.ge_base {w : World} {t base : Nat} {X : ShX} {F : Nat → Prop} (h : ShOn w t base X F) : base < w.heap.size := by
  obtain ⟨A, c, B, d, T, ct, tb, hi, _⟩ := h
  exact Nat.lt_of_le_of_lt hi.tge hi.blk.lt
set_option maxRecDepth 100000 in
set_option maxHeartbeats 8000000 in
theorem schecks_walk (nm : ByteArray) (l : List TierV) (A : Option Addr) (n c : Nat) (nm2 : ByteArray) (lt : List TierV) (A2 : Option Addr) (n2 c2 : Nat) (now : Int) (ops : List OpC) (B : Option Addr) (m d : Nat) (rr : RecV) (tr : Int) (w : World) (hnm : nm.size ≤ maxLen) (hr : Rd w 4 A n (tcells l)) (hnc : n ≤ c) (hn9 : n ≤ 9223372036854775807) (hwf : ∀ t ∈ l, t.wf) (hnm2 : nm2.size ≤ maxLen) (hr2 : Rd w 4 A2 n2 (tcells lt)) (hnc2 : n2 ≤ c2) (hn92 : n2 ≤ 9223372036854775807) (hwf2 : ∀ t ∈ lt, t.wf) (hnow : -9223372036854775808 ≤ now ∧ now ≤ 9223372036854775807) (hs : Rd w 4 B m (opcells ops)) (hm9 : m ≤ 9223372036854775807) (hok : ∀ o ∈ ops, o.ok w) (hrr : rr.wf) (htr : -9223372036854775808 ≤ tr ∧ tr ≤ 9223372036854775807) :
    Calls Tryz.prog 3 #[.agg #[.string nm, .slice A n c], .agg #[.string nm2, .slice A2 n2 c2], .int .i64 now, .slice B m d, rr.val, .int .i64 tr] w fun e w' => e = .returned (.bool true) ∧ Below w.heap.size w w' := by
  obtain ⟨rn, rs, ⟨r1, r2, r3, r4, r5⟩⟩ := rr
  have Hrr := Lib.hid hrr
  unfold RecV.val
  simp only
  clear hrr
  have HAl := Lib.hid alive14_any
  have HSm : Hid (∀ W, Fr (fun _ => False) w W → Calls Tryz.prog 8 #[.agg #[.string nm, .slice A n c]] W fun r w' => SmallR nm n r ∧ Below W.heap.size W w') := fun W f => bsmall_any nm l A n c W (hr.fr0 f) hn9 hnm (fun t h => (hwf t h).2.2.2)
  have HSm2 : Hid (∀ W, Fr (fun _ => False) w W → Calls Tryz.prog 8 #[.agg #[.string nm2, .slice A2 n2 c2]] W fun r w' => SmallR nm2 n2 r ∧ Below W.heap.size W w') := fun W f => bsmall_any nm2 lt A2 n2 c2 W (hr2.fr0 f) hn92 hnm2 (fun t h => (hwf2 t h).2.2.2)
  have HLi : Hid (∀ W, Fr (fun _ => False) w W → Calls Tryz.prog 9 #[.slice B m d] W fun r w' => LightR2 ops m r ∧ W = w') := fun W f => light2_any ops B m d W (hs.fr0 f) (fun o h => (hok o h).below (f.below (fun _ h => h.elim))) hm9
  have HT13 : Hid (∀ W, n ≤ 10 → m ≤ 50 → (∀ o ∈ ops, o.sn ≤ 20 ∧ o.ln ≤ 20) → Fr (fun _ => False) w W → Calls Tryz.prog 11 #[.agg #[.string nm, .slice A n c], .int .i64 now, .slice none 0 0, .slice B m d] W fun r w' => T13 nm l [] W.heap.size (opsX (newX nm l now []) ops) (newE nm l now []) r w' ∧ Below W.heap.size W w') := fun W h10 h50 hl f =>
    tiers13_any nm hnm l A n c now hnow [] none 0 0 ops B m d W (hr.fr0 f) hnc hwf (by omega) Rd.nil_ (by omega) (hs.fr0 f) (fun o h => (hok o h).below (f.below (fun _ h => h.elim))) hl h50
  have Hr2 := Lib.hid hr2
  have Hll2 := Lib.hid hr2.tiers_len
  obtain ⟨W0, hW0⟩ : ∃ W0, W0 = (((w.alloc (.cells #[.string nm, .slice A n c] 24)).alloc (.cells #[.string nm2, .slice A2 n2 c2] 24)).alloc (.cells #[.string rn, .int .i64 rs, .int .i64 r1, .int .i64 r2, .int .u64 r3, .int .i64 r4, .int .i64 r5] 30)) := ⟨_, rfl⟩
  have HW0 := Lib.hid hW0
  have F0 : Hid (Fr (fun _ => False) w W0) := by show Fr _ _ _; rw [hW0]; exact ((Fr.none_alloc _ _).trans (Fr.none_alloc _ _) (fun _ h => h.elim)).trans (Fr.none_alloc _ _) (fun _ h => h.elim)
  have B0a : Hid (Blk W0 (w.heap.size) 24 #[.string nm, .slice A n c]) := by show Blk _ _ _ _; rw [hW0]; exact (((Blk.new' (by simp) _ _).alloc _).alloc _)
  have B0b : Hid (Blk W0 (w.heap.size + 1) 24 #[.string nm2, .slice A2 n2 c2]) := by show Blk _ _ _ _; rw [hW0]; exact ((Blk.new' (by simp) _ _).alloc _)
  have B0c : Hid (Blk W0 (w.heap.size + 1 + 1) 30 #[.string rn, .int .i64 rs, .int .i64 r1, .int .i64 r2, .int .u64 r3, .int .i64 r4, .int .i64 r5]) := by show Blk _ _ _ _; rw [hW0]; exact (Blk.new' (by simp) _ _)
  clear hr hr2 hwf hs hok hW0
  go_enter Tryz.func3, Tryz.ntmps3
  go_wp2_with fail
  rw [← HW0.out]
  refine (HSm.out _ F0.out).mono ?_
  rintro r w1 ⟨⟨b, rfl, hb⟩, b1⟩
  have F1 := Lib.hid (F0.out.trans (Fr.b0 b1) (fun _ h => h.elim))
  have B1a := Lib.hid (B0a.out.below b1)
  have B1b := Lib.hid (B0b.out.below b1)
  have B1c := Lib.hid (B0c.out.below b1)
  have x0 := B1a.out.cell 0
  have x1 := B1a.out.cell 1
  simp only [List.getElem?_toArray, List.getElem?_cons_succ, List.getElem?_cons_zero] at x0 x1
  have y0 := B1b.out.cell 0
  have y1 := B1b.out.cell 1
  simp only [List.getElem?_toArray, List.getElem?_cons_succ, List.getElem?_cons_zero] at y0 y1
  clear b1
  cases b with
  | false =>
    clear hb
    go_wp2_with fail
    refine (HAl.out _).mono ?_
    rintro r wq ⟨rfl, bq⟩
    go_wp2_with fail
    go_ret
    exact ⟨rfl, (F1.out.trans (Fr.b0 bq) (fun _ h => h.elim)).below (fun _ h => h.elim)⟩
  | true =>
  have h10 : n ≤ 10 := (hb rfl).1
  clear hb
  go_wp2_with fail
  refine (HSm2.out _ F1.out).mono ?_
  rintro r w2 ⟨⟨b, rfl, hb⟩, b2⟩
  have F2 := Lib.hid (F1.out.trans (Fr.b0 b2) (fun _ h => h.elim))
  have B2a := Lib.hid (B1a.out.below b2)
  have B2b := Lib.hid (B1b.out.below b2)
  have B2c := Lib.hid (B1c.out.below b2)
  clear x0 x1 y0 y1
  have x0 := B2a.out.cell 0
  have x1 := B2a.out.cell 1
  simp only [List.getElem?_toArray, List.getElem?_cons_succ, List.getElem?_cons_zero] at x0 x1
  have y0 := B2b.out.cell 0
  have y1 := B2b.out.cell 1
  simp only [List.getElem?_toArray, List.getElem?_cons_succ, List.getElem?_cons_zero] at y0 y1
  have z0 := B2c.out.cell 0
  have z1 := B2c.out.cell 1
  have z2 := B2c.out.cell 2
  have z3 := B2c.out.cell 3
  have z4 := B2c.out.cell 4
  have z5 := B2c.out.cell 5
  have z6 := B2c.out.cell 6
  simp only [List.getElem?_toArray, List.getElem?_cons_succ, List.getElem?_cons_zero] at z0 z1 z2 z3 z4 z5 z6
  clear b2
  cases b with
  | false =>
    clear hb
    go_wp2_with fail
    refine (HAl.out _).mono ?_
    rintro r wq ⟨rfl, bq⟩
    go_wp2_with fail
    go_ret
    exact ⟨rfl, (F2.out.trans (Fr.b0 bq) (fun _ h => h.elim)).below (fun _ h => h.elim)⟩
  | true =>
  have h102 : n2 ≤ 10 := (hb rfl).1
  clear hb
  go_wp2_with fail
  refine (HLi.out _ F2.out).mono ?_
  rintro r w' ⟨⟨b, rfl, hb⟩, rfl⟩
  cases b with
  | false =>
    clear hb
    go_wp2_with fail
    refine (HAl.out _).mono ?_
    rintro r wq ⟨rfl, bq⟩
    go_wp2_with fail
    go_ret
    exact ⟨rfl, (F2.out.trans (Fr.b0 bq) (fun _ h => h.elim)).below (fun _ h => h.elim)⟩
  | true =>
  have h50 : m ≤ 50 := (hb rfl).1
  have Hl20 := Lib.hid (hb rfl).2
  clear hb HLi
  by_cases h60 : 60 < rn.size
  · have hd : decide ((60 : Int) < (rn.size : Int)) = true := decide_eq_true (by omega)
    go_wp2_with fail
    refine (HAl.out _).mono ?_
    rintro r wq ⟨rfl, bq⟩
    go_wp2_with fail
    go_ret
    exact ⟨rfl, (F2.out.trans (Fr.b0 bq) (fun _ h => h.elim)).below (fun _ h => h.elim)⟩
  have hd : decide ((60 : Int) < (rn.size : Int)) = false := decide_eq_false (by omega)
  go_wp2_with fail
  refine (HT13.out _ h10 h50 Hl20.out F2.out).mono ?_
  rintro r w3 ⟨hT, b3⟩
  have F3 := Lib.hid (F2.out.trans (Fr.b0 b3) (fun _ h => h.elim))
  have B3a := Lib.hid (B2a.out.below b3)
  have B3b := Lib.hid (B2b.out.below b3)
  have B3c := Lib.hid (B2c.out.below b3)
  clear x0 x1 y0 y1 z0 z1 z2 z3 z4 z5 z6
  have x0 := B3a.out.cell 0
  have x1 := B3a.out.cell 1
  simp only [List.getElem?_toArray, List.getElem?_cons_succ, List.getElem?_cons_zero] at x0 x1
  have y0 := B3b.out.cell 0
  have y1 := B3b.out.cell 1
  simp only [List.getElem?_toArray, List.getElem?_cons_succ, List.getElem?_cons_zero] at y0 y1
  have hw23 := b3.size
  clear b3
  by_cases hE : newE nm l now [] = 0
  case neg =>
    obtain rfl := hT.2 hE
    clear hT
    go_wp2_with fail
    refine (HAl.out _).mono ?_
    rintro r wq ⟨rfl, bq⟩
    go_wp2_with fail
    go_ret
    exact ⟨rfl, (F3.out.trans (Fr.b0 bq) (fun _ h => h.elim)).below (fun _ h => h.elim)⟩
  case pos =>
  obtain ⟨hP, t, g, F, rfl, hD⟩ := hT.1 hE
  have P := Lib.hid hP
  have HT3 := Lib.hid hD.tio
  obtain ⟨Z, hZ⟩ : ∃ Z, opsX (newX nm l now []) ops = Z := ⟨_, rfl⟩
  rw [hZ] at HT3
  have Hwf2 := Lib.hid hwf2
  have HBg := Lib.hid (begin_tio (nm2 := nm2) (lt := lt) P.out hnm hnm2 HT3.out (by omega) (fun _ h => by cases h) A2 c2 (by rw [Hll2.out]; exact Hr2.out.fr0 F3.out) (by rw [Hll2.out]; exact hnc2) hwf2)
  rw [Hll2.out] at HBg
  clear hT hP hD hZ HT13 HSm HSm2 hwf2
  go_wp2_with fail
  refine HBg.out.mono ?_
  rintro r w4 ⟨⟨h4a, h4b⟩, b4⟩
  have F4 := Lib.hid (F3.out.trans (Fr.b0 b4) (fun _ h => h.elim))
  have B4a := Lib.hid (B3a.out.below b4)
  have B4b := Lib.hid (B3b.out.below b4)
  have B4c := Lib.hid (B3c.out.below b4)
  have HT4 := Lib.hid (HT3.out.fr0 (Fr.b0 b4))
  clear x0 x1 y0 y1 b4
  have x0 := B4a.out.cell 0
  have x1 := B4a.out.cell 1
  simp only [List.getElem?_toArray, List.getElem?_cons_succ, List.getElem?_cons_zero] at x0 x1
  have y0 := B4b.out.cell 0
  have y1 := B4b.out.cell 1
  simp only [List.getElem?_toArray, List.getElem?_cons_succ, List.getElem?_cons_zero] at y0 y1
  cases hck2 : checkB nm2 lt with
  | false =>
    obtain rfl := h4b hck2
    clear h4a h4b hck2
    go_wp2_with fail
    refine (HAl.out _).mono ?_
    rintro r wq ⟨rfl, bq⟩
    go_wp2_with fail
    go_ret
    exact ⟨rfl, (F4.out.trans (Fr.b0 bq) (fun _ h => h.elim)).below (fun _ h => h.elim)⟩
  | true =>
  obtain ⟨s, rfl, hs4⟩ := h4a hck2
  have P2 := Lib.hid (show PolOk nm2 lt from ⟨hck2, Hwf2.out⟩)
  clear h4a h4b hck2 HBg
  obtain ⟨bd, hbd⟩ : ∃ v, 2 * ((needX (buildX Z nm2 lt (srcs Z.now l [] lt)) : Nat) : Int) + fillsV lt = v := ⟨_, rfl⟩
  rw [hbd] at hs4
  have hst := steps_in P2.out
  have hbd0 : 0 ≤ bd := by omega
  obtain ⟨S0, hS0⟩ : ∃ S : ShX, (⟨nm2, lt, srcs Z.now l [] lt, bd, 0, lt.map fun _ => []⟩ : ShX) = S := ⟨_, rfl⟩
  have hk0 : ShOk nm2 l lt [] Z S0 := by
    rw [← hS0]
    exact ⟨rfl, rfl, rfl, shT_zero.symm, Int.le_refl _, by show (0 : Int) ≤ stepsV lt; omega⟩
  have hd0 : S0.done = 0 := by rw [← hS0]
  have hb0 : S0.bound = bd := by rw [← hS0]
  rw [hS0] at hs4
  obtain ⟨G, ho4⟩ := hs4.on
  have HS4 := Lib.hid ho4
  have HK4 := Lib.hid hk0
  have HGF : Hid (∀ j, F j → ¬ G j) := fun j hj hg => by
    have h1 := (HT3.out.ge j hj).2
    have h2 := (ho4.ge j hg).1
    omega
  have hGlo : Hid (∀ j, G j → w3.heap.size ≤ j) := fun j hg => (ho4.ge j hg).1
  obtain ⟨FL, hFL⟩ : ∃ v, fillsV lt = v := ⟨_, rfl⟩
  have HFL := Lib.hid hFL
  rw [hFL] at hst
  have hstv : stepsV lt = FL + 2 := hst.2.1
  clear hbd hS0 hs4 hk0 HT3
  -- the cells of a shadow's plan
  have HPl : Hid (∀ (W : World) (s' base' : Nat) (S : ShX) (G' : Nat → Prop), ShOn W s' base' S G' → ShOk nm2 l lt [] Z S → ∃ Ap cp Sp dp, W.cell? ⟨s', 0, none⟩ = some (.string nm2) ∧ W.cell? ⟨s', 1, none⟩ = some (.slice Ap n2 cp) ∧ W.cell? ⟨s', 2, none⟩ = some (.slice Sp n2 dp) ∧ n2 ≤ cp ∧ Rd W 4 Ap n2 (tcells lt) ∧ Rd W 1 Sp n2 (ints (srcs Z.now l [] lt))) := fun W s' base' S G' ho hk => by
    obtain ⟨A', c', B', d', T', ct', tb', hi, _⟩ := ho
    obtain ⟨q0, q1, q2, _, _, _⟩ := hi.cells (Fr.refl (fun _ => False) W) (fun h => h)
    have e1 : S.tiers.length = n2 := by rw [hk.tiers]; exact Hll2.out
    have e2 : S.srcs.length = n2 := by rw [hk.src]; unfold srcs; rw [List.length_map]; exact Hll2.out
    have r1 := (own_any hi.tiers).2.2.1
    have r2 := (own_any hi.srcs).2.2.1
    have r3 := (own_any hi.tiers).1
    rw [hk.name] at q0
    rw [e1] at q1 r1 r3
    rw [e2] at q2 r2
    rw [hk.tiers] at r1
    rw [hk.src] at r2
    exact ⟨A', c', B', d', q0, q1, q2, r3, r1, r2⟩
  have HPlC : Hid (∀ (W : World) (s' base' : Nat) (S : ShX) (G' : Nat → Prop), ShOn W s' base' S G' → S.name = nm2 → S.tiers = lt → S.srcs = srcs Z.now l [] lt → ∃ Ap cp Sp dp, W.cell? ⟨s', 0, none⟩ = some (.string nm2) ∧ W.cell? ⟨s', 1, none⟩ = some (.slice Ap n2 cp) ∧ W.cell? ⟨s', 2, none⟩ = some (.slice Sp n2 dp) ∧ n2 ≤ cp ∧ Rd W 4 Ap n2 (tcells lt) ∧ Rd W 1 Sp n2 (ints (srcs Z.now l [] lt))) := fun W s' base' S G' ho k1 k2 k3 => by
    obtain ⟨A', c', B', d', T', ct', tb', hi, _⟩ := ho
    obtain ⟨q0, q1, q2, _, _, _⟩ := hi.cells (Fr.refl (fun _ => False) W) (fun h => h)
    have e1 : S.tiers.length = n2 := by rw [k2]; exact Hll2.out
    have e2 : S.srcs.length = n2 := by rw [k3]; unfold srcs; rw [List.length_map]; exact Hll2.out
    have r1 := (own_any hi.tiers).2.2.1
    have r2 := (own_any hi.srcs).2.2.1
    have r3 := (own_any hi.tiers).1
    rw [k1] at q0
    rw [e1] at q1 r1 r3
    rw [e2] at q2 r2
    rw [k2] at r1
    rw [k3] at r2
    exact ⟨A', c', B', d', q0, q1, q2, r3, r1, r2⟩
  have HSt : Hid (∀ W Ap cp Sp dp, Rd W 4 Ap n2 (tcells lt) → Calls Tryz.prog 13 #[.agg #[.string nm2, .slice Ap n2 cp, .slice Sp n2 dp]] W fun r w' => r = .returned (.int .i64 (FL + 2)) ∧ Below W.heap.size W w') := fun W Ap cp Sp dp hr => by
    have := steps_any nm2 lt Ap n2 cp Sp n2 dp W hr (by omega) (fun x hx => (check_mem P2.out.ck hx).2.2.2.2.2)
    rw [hstv] at this
    exact this
  obtain ⟨Ap, cp, Sp, dp, p0, p1, p2, pc, pr, pi⟩ := HPl.out w4 s _ S0 G HS4.out HK4.out
  have HSt4 := Lib.hid (HSt.out w4 Ap cp Sp dp pr)
  have hkw0 : IntKind.i64.wrap (FL + 2 - 2) = FL := by simp [IntKind.wrap, IntKind.signed, IntKind.bits]; omega
  clear pr pi
  go_wp2_with fail
  refine HSt4.out.mono ?_
  rintro r w5 ⟨rfl, b5⟩
  have F5 := Lib.hid (F4.out.trans (Fr.b0 b5) (fun _ h => h.elim))
  have B5a := Lib.hid (B4a.out.below b5)
  have B5b := Lib.hid (B4b.out.below b5)
  have B5c := Lib.hid (B4c.out.below b5)
  have HT5 := Lib.hid (HT4.out.fr0 (Fr.b0 b5))
  have HS5 := Lib.hid (HS4.out.fr0 (Fr.b0 b5))
  clear b5 p0 p1 p2 x0 x1 y0 y1 HSt4 HT4 HS4
  go_wp2_with fail
  go_loopw [17] (fun i wr => ∃ (q : Nat) (S : ShX), (q : Int) ≤ FL ∧ i = .int .i64 (FL - q) ∧ S.done = (q : Int) ∧ S.bound = bd ∧ ShOk nm2 l lt [] Z S ∧ ShOn wr s w3.heap.size S G ∧ Tio nm l [] w2.heap.size wr t Z F 2000 ∧ Fr (fun j => w3.heap.size ≤ j) w5 wr) (fun i _ => (intOf i).toNat)
  case atStart => exact ⟨0, S0, by omega, by simp, hd0, hb0, HK4.out, HS5.out, HT5.out, Fr.refl _ _⟩
  case round =>
    obtain ⟨q, S, hq, rfl, hdq, hbq, hkS, hoS, hTt, hfr⟩ := hrel
    have HK := Lib.hid hkS
    have HS := Lib.hid hoS
    have HT := Lib.hid hTt
    have Hf := Lib.hid hfr
    have Hdq := Lib.hid hdq
    have Hbq := Lib.hid hbq
    clear hkS hoS hTt hfr hdq hbq
    by_cases hlt : (q : Int) < FL
    · have g0 : decide (0 < FL - (q : Int)) = true := decide_eq_true (by omega)
      have HStp := Lib.hid (sstep_any P.out P2.out hnm2 HT.out (by omega) (fun _ h => by cases h) HS.out HK.out (by rw [Hdq.out, hstv]; omega))
      have hcut : decide (S.done = stepsV lt - 1) = false := decide_eq_false (by rw [Hdq.out, hstv]; omega)
      rw [hcut] at HStp
      have hkw : IntKind.i64.wrap (FL - (q : Int) - 1) = FL - (q : Int) - 1 := by simp [IntKind.wrap, IntKind.signed, IntKind.bits]; omega
      obtain ⟨⟨⟨k1, k2, k3⟩, kb⟩, hkq⟩ : ∃ v, atV lt S.done = v := ⟨_, rfl⟩
      rw [hkq] at HStp
      unfold stepVal at HStp
      have HKn := Lib.hid (HK.out.next (by rw [Hdq.out, hstv]; omega))
      clear hcut hkq
      go_wp2_with fail
      refine HStp.out.mono ?_
      rintro r w6 ⟨⟨co, rfl, hco⟩, q1, q2⟩
      obtain rfl := hco.2 rfl
      have FA : Hid (Fr (fun _ => False) w6 (w6.alloc (.cells #[.int .i64 k1, .int .i64 k2, .int .i64 k3] 50))) := Fr.none_alloc _ _
      have HT6 := Lib.hid ((HT.out.frSh q2 HS.out HGF.out).fr0 FA.out)
      have HS6 := Lib.hid (q1.fr0 FA.out)
      have Hf6 : Hid (Fr (fun j => w3.heap.size ≤ j) w5 (w6.alloc (.cells #[.int .i64 k1, .int .i64 k2, .int .i64 k3] 50))) := (Hf.out.trans q2 (fun i hi => .inl (hGlo.out i hi))).trans FA.out (fun _ h => h.elim)
      clear q1 q2 hco HStp
      go_wp2_with fail
      go_roundw
      case rel => exact ⟨q + 1, S.go nm2 lt (buildX Z nm2 lt (srcs Z.now l [] lt)), by omega, by go_num, by show S.done + 1 = _; rw [Hdq.out]; omega, Hbq.out, HKn.out, HS6.out, HT6.out, Hf6.out⟩
      case measure => simp [intOf]; omega
    · have hqF : (q : Int) = FL := by omega
      have g0 : decide (0 < FL - (q : Int)) = false := decide_eq_false (by omega)
      have Hdone : Hid (S.done = FL) := by show _ = _; rw [Hdq.out, hqF]
      have FW : Hid (Fr (fun _ => False) w wr) := F5.out.trans Hf.out (fun i hi => .inr (Nat.le_trans F3.out.size hi))
      have hlo3 : w.heap.size + 1 + 1 < w3.heap.size := by have := B3c.out.lt; omega
      have Ba : Hid (Blk wr w.heap.size 24 #[.string nm, .slice A n c]) := B5a.out.fr Hf.out (by omega)
      have Bb : Hid (Blk wr (w.heap.size + 1) 24 #[.string nm2, .slice A2 n2 c2]) := B5b.out.fr Hf.out (by omega)
      have Bc : Hid (Blk wr (w.heap.size + 1 + 1) 30 #[.string rn, .int .i64 rs, .int .i64 r1, .int .i64 r2, .int .u64 r3, .int .i64 r4, .int .i64 r5]) := B5c.out.fr Hf.out (by omega)
      obtain ⟨W0r, hW0r⟩ : ∃ v, v = wr := ⟨_, rfl⟩
      rw [← hW0r] at HS HT FW Ba Bb Bc ⊢
      clear hW0r Hf Hdq
      obtain ⟨Ap, cp, Sp, dp, p0, p1, p2, pc, pr, pi⟩ := HPl.out W0r s _ S G HS.out HK.out
      have hw3r : w3.heap.size ≤ W0r.heap.size := by have := HS.out.ge_base; omega
      have HBd := Lib.hid (tio_build P.out P2.out hnm2 HT.out (by omega) (fun _ h => by cases h) Ap n2 cp Sp dp pr pc pi w3.heap.size hw3r)
      obtain ⟨Y, hY⟩ : ∃ v, buildX Z nm2 lt (srcs Z.now l [] lt) = v := ⟨_, rfl⟩
      obtain ⟨bs, hbs⟩ : ∃ v, basesV Z.now l [] (srcs Z.now l [] lt) lt = v := ⟨_, rfl⟩
      have HY := Lib.hid hY
      have Hbs := Lib.hid hbs
      have HZn : Hid (Y.now = Z.now) := by show _ = _; rw [← hY]; rfl
      rw [hY, hbs] at HBd
      clear pr pi hY hbs
      go_wp2_with fail
      refine HBd.out.mono ?_
      rintro r w7 ⟨⟨u, Fu, rfl, T7, _⟩, b7⟩
      have G7 : Hid (Fr (fun _ => False) W0r w7) := Fr.b0 b7
      have F7 : Hid (Fr (fun _ => False) w w7) := FW.out.trans G7.out (fun _ h => h.elim)
      have HT7 := Lib.hid (HT.out.fr0 G7.out)
      have HS7 := Lib.hid (HS.out.fr0 G7.out)
      obtain ⟨tA, tc, tB, td, hR⟩ := T7.reach
      obtain ⟨mb, hmb⟩ : ∃ m, bs.length = m := ⟨_, rfl⟩
      have hY0 := T7.good.now
      have Bb7 := Lib.hid (Bb.out.fr G7.out (fun h => h))
      have Bc7 := Lib.hid (Bc.out.fr G7.out (fun h => h))
      have HC16 : Hid (∀ W', Fr (fun _ => False) w7 W' → W'.cell? ⟨w.heap.size + 1, 1, none⟩ = some (.slice A2 n2 c2) ∧ W'.cell? ⟨w.heap.size + 1 + 1, 1, none⟩ = some (.int .i64 rs) ∧ W'.cell? ⟨u, 0, none⟩ = some (.int .i64 Y.now) ∧ W'.cell? ⟨u, 1, none⟩ = some (.string nm2) ∧ W'.cell? ⟨u, 2, none⟩ = some (.slice tA n2 tc) ∧ W'.cell? ⟨u, 3, none⟩ = some (.slice tB mb td)) := fun W' f => by
        have h := hR.fr0 f
        have h2 := h.c2
        have h3 := h.c3
        rw [Hll2.out] at h2
        rw [hmb] at h3
        exact ⟨(Bb7.out.fr f (fun h => h)).cell 1, (Bc7.out.fr f (fun h => h)).cell 1, h.c0, h.c1, h2, h3⟩
      have HFr : Hid (∀ W' (k : Nat), Fr (fun _ => False) w7 W' → k < n2 → Calls Tryz.prog 16 #[.agg #[.int .i64 Y.now, .string nm2, .slice tA n2 tc, .slice tB mb td], .int .i64 (k : Nat)] W' fun r w' => r = .returned (.int .i64 (fromV Z.now lt bs k)) ∧ Below W'.heap.size W' w') := fun W' k f hk => by
        have := reach_from P2.out (hR.fr0 f) hY0 k (by rw [Hll2.out]; exact hk)
        rw [Hll2.out, hmb, HZn.out] at this
        rw [HZn.out]
        exact this
      obtain ⟨yn, hyn⟩ : ∃ v, Y.now = v := ⟨_, rfl⟩
      rw [hyn] at HC16 HFr
      clear T7 b7 hR hmb hY0 hyn p0 p1 p2 pc HBd HT HS
      by_cases ht0 : tr < 0
      · have h1 : decide (tr < 0) = true := decide_eq_true ht0
        go_wp2_with fail
        refine wp_region_held_drew (S := fun W_ => Fr (fun _ => False) w7 W_) (by kernel_rfl) ((Fr.refl _ w7).drew) (fun hHeld => ?_)
        refine tl 0 ⟨some 100, .move (.tmp 22), 39, _, _, none⟩ ?v33 rfl ?q33 ?r33
        case q33 => intro W hSw; go_simp; (try with_reducible rfl)
        try simp only [Act.put, sA, sB, sC]
        refine tl 1 ⟨some 101, .binOp .neq 39 (.tmp 100) (.const (.int .i64 0)) 39, 4, _, _, none⟩ ?v34 rfl ?q34 ?r34
        case q34 => intro W hSw; (try obtain ⟨q0, q1, q2, q3, q4, q5⟩ := HC16.out W hSw); go_simp; (try with_reducible rfl)
        try simp only [Act.put, sA, sB, sC]
        refine tl 2 ⟨some 102, .move (.tmp 101), 4, _, _, none⟩ ?v35 rfl ?q35 ?r35
        case q35 => intro W hSw; go_simp; (try with_reducible rfl)
        try simp only [Act.put, sA, sB, sC]
        refine tl 3 ⟨some 103, .move (.tmp 5), 3, _, _, some (2, false)⟩ ?v36 rfl ?q36 ?r36
        case q36 => intro W hSw; go_simp; (try with_reducible rfl)
        try simp only [Act.put, sA, sB, sC]
        refine tl 4 ⟨some 104, .binOp .lss 3 (.tmp 103) (.const (.int .i64 0)) 3, 4, _, _, some (2, false)⟩ ?v37 rfl ?q37 ?r37
        case q37 => intro W hSw; (try obtain ⟨q0, q1, q2, q3, q4, q5⟩ := HC16.out W hSw); go_simp; (try with_reducible rfl)
        try simp only [Act.put, sA, sB, sC]
        refine tl 5 ⟨some 105, .pick (.tmp 102) (.const (.bool true)) (.tmp 104), 4, _, _, none⟩ ?v38 rfl ?q38 ?r38
        case q38 => intro W hSw; go_simp; (try with_reducible rfl)
        try simp only [Act.put, sA, sB, sC]
        refine tl 6 ⟨some 106, .move (.tmp 105), 4, _, _, none⟩ ?v39 rfl ?q39 ?r39
        case q39 => intro W hSw; go_simp; (try with_reducible rfl)
        try simp only [Act.put, sA, sB, sC]
        refine tu 7 ⟨some 107, .move (.tmp 5), 3, _, _, some (6, false)⟩ rfl ?_
        try simp only [Act.put, sA, sB, sC]
        refine tu 8 ⟨some 108, .fieldAddr 24 (.tmp 7) 1, 0, _, _, some (6, false)⟩ rfl ?_
        try simp only [Act.put, sA, sB, sC]
        refine tu 9 ⟨some 109, .load 22 (.tmp 108), 22, _, _, some (6, false)⟩ rfl ?_
        try simp only [Act.put, sA, sB, sC]
        refine tu 10 ⟨some 110, .call ⟨.builtin .len, #[.tmp 109], #[22]⟩, 3, _, _, some (6, false)⟩ rfl ?_
        try simp only [Act.put, sA, sB, sC]
        refine tu 11 ⟨some 111, .binOp .geq 3 (.tmp 107) (.tmp 110) 3, 4, _, _, some (6, false)⟩ rfl ?_
        try simp only [Act.put, sA, sB, sC]
        refine tl 12 ⟨some 112, .pick (.tmp 106) (.const (.bool true)) (.tmp 111), 4, _, _, none⟩ ?v40 rfl ?q40 ?r40
        case q40 => intro W hSw; go_simp; (try with_reducible rfl)
        try simp only [Act.put, sA, sB, sC]
        refine tl 13 ⟨some 113, .move (.tmp 112), 4, _, _, none⟩ ?v41 rfl ?q41 ?r41
        case q41 => intro W hSw; go_simp; (try with_reducible rfl)
        try simp only [Act.put, sA, sB, sC]
        refine tu 14 ⟨some 114, .fieldAddr 30 (.tmp 10) 1, 0, _, _, some (13, false)⟩ rfl ?_
        try simp only [Act.put, sA, sB, sC]
        refine tu 15 ⟨some 115, .load 3 (.tmp 114), 3, _, _, some (13, false)⟩ rfl ?_
        try simp only [Act.put, sA, sB, sC]
        refine tu 16 ⟨some 116, .move (.tmp 21), 34, _, _, some (13, false)⟩ rfl ?_
        try simp only [Act.put, sA, sB, sC]
        refine tu 17 ⟨some 117, .nilCheck (.tmp 116), 0, _, _, some (13, false)⟩ rfl ?_
        try simp only [Act.put, sA, sB, sC]
        refine tu 18 ⟨some 118, .fieldAddr 59 (.tmp 117) 0, 0, _, _, some (13, false)⟩ rfl ?_
        try simp only [Act.put, sA, sB, sC]
        refine tu 19 ⟨some 119, .load 57 (.tmp 118), 57, _, _, some (13, false)⟩ rfl ?_
        try simp only [Act.put, sA, sB, sC]
        refine tu 20 ⟨some 120, .move (.tmp 5), 3, _, _, some (13, false)⟩ rfl ?_
        try simp only [Act.put, sA, sB, sC]
        refine tu 21 ⟨some 121, .call ⟨.value (.func 16), #[.tmp 119, .tmp 120], #[57, 3]⟩, 3, _, _, some (13, false)⟩ rfl ?_
        try simp only [Act.put, sA, sB, sC]
        refine tu 22 ⟨some 122, .binOp .lss 3 (.tmp 115) (.tmp 121) 3, 4, _, _, some (13, false)⟩ rfl ?_
        try simp only [Act.put, sA, sB, sC]
        refine tl 23 ⟨some 123, .pick (.tmp 113) (.const (.bool true)) (.tmp 122), 4, _, _, none⟩ ?v42 rfl ?q42 ?r42
        case q42 => intro W hSw; go_simp; (try with_reducible rfl)
        try simp only [Act.put, sA, sB, sC]
        refine wpAnyH_done (by kernel_rfl) ?_ _
        have FE := Lib.hid (F7.out.trans hHeld (fun _ h => h.elim))
        clear hHeld
        go_wp2_with fail
        refine (HAl.out _).mono ?_
        rintro r wq ⟨rfl, bq⟩
        go_wp2_with fail
        go_ret
        exact ⟨rfl, (FE.out.trans (Fr.b0 bq) (fun _ h => h.elim)).below (fun _ h => h.elim)⟩
      have h1 : decide (tr < 0) = false := decide_eq_false ht0
      by_cases ht1 : (n2 : Int) ≤ tr
      · have h2 : decide ((n2 : Int) ≤ tr) = true := decide_eq_true ht1
        go_wp2_with fail
        refine wp_region_held_drew (S := fun W_ => Fr (fun _ => False) w7 W_) (by kernel_rfl) ((Fr.refl _ w7).drew) (fun hHeld => ?_)
        refine tl 0 ⟨some 100, .move (.tmp 22), 39, _, _, none⟩ ?v43 rfl ?q43 ?r43
        case q43 => intro W hSw; go_simp; (try with_reducible rfl)
        try simp only [Act.put, sA, sB, sC]
        refine tl 1 ⟨some 101, .binOp .neq 39 (.tmp 100) (.const (.int .i64 0)) 39, 4, _, _, none⟩ ?v44 rfl ?q44 ?r44
        case q44 => intro W hSw; (try obtain ⟨q0, q1, q2, q3, q4, q5⟩ := HC16.out W hSw); go_simp; (try with_reducible rfl)
        try simp only [Act.put, sA, sB, sC]
        refine tl 2 ⟨some 102, .move (.tmp 101), 4, _, _, none⟩ ?v45 rfl ?q45 ?r45
        case q45 => intro W hSw; go_simp; (try with_reducible rfl)
        try simp only [Act.put, sA, sB, sC]
        refine tl 3 ⟨some 103, .move (.tmp 5), 3, _, _, some (2, false)⟩ ?v46 rfl ?q46 ?r46
        case q46 => intro W hSw; go_simp; (try with_reducible rfl)
        try simp only [Act.put, sA, sB, sC]
        refine tl 4 ⟨some 104, .binOp .lss 3 (.tmp 103) (.const (.int .i64 0)) 3, 4, _, _, some (2, false)⟩ ?v47 rfl ?q47 ?r47
        case q47 => intro W hSw; (try obtain ⟨q0, q1, q2, q3, q4, q5⟩ := HC16.out W hSw); go_simp; (try with_reducible rfl)
        try simp only [Act.put, sA, sB, sC]
        refine tl 5 ⟨some 105, .pick (.tmp 102) (.const (.bool true)) (.tmp 104), 4, _, _, none⟩ ?v48 rfl ?q48 ?r48
        case q48 => intro W hSw; go_simp; (try with_reducible rfl)
        try simp only [Act.put, sA, sB, sC]
        refine tl 6 ⟨some 106, .move (.tmp 105), 4, _, _, none⟩ ?v49 rfl ?q49 ?r49
        case q49 => intro W hSw; go_simp; (try with_reducible rfl)
        try simp only [Act.put, sA, sB, sC]
        refine tl 7 ⟨some 107, .move (.tmp 5), 3, _, _, some (6, false)⟩ ?v50 rfl ?q50 ?r50
        case q50 => intro W hSw; go_simp; (try with_reducible rfl)
        try simp only [Act.put, sA, sB, sC]
        refine tl 8 ⟨some 108, .fieldAddr 24 (.tmp 7) 1, 0, _, _, some (6, false)⟩ ?v51 rfl ?q51 ?r51
        case q51 => intro W hSw; go_simp; (try with_reducible rfl)
        try simp only [Act.put, sA, sB, sC]
        refine tl 9 ⟨some 109, .load 22 (.tmp 108), 22, _, _, some (6, false)⟩ ?v52 rfl ?q52 ?r52
        case q52 => intro W hSw; (try obtain ⟨q0, q1, q2, q3, q4, q5⟩ := HC16.out W hSw); go_simp; (try with_reducible rfl)
        try simp only [Act.put, sA, sB, sC]
        refine tl 10 ⟨some 110, .call ⟨.builtin .len, #[.tmp 109], #[22]⟩, 3, _, _, some (6, false)⟩ ?v53 rfl ?q53 ?r53
        case q53 => intro W hSw; (try obtain ⟨q0, q1, q2, q3, q4, q5⟩ := HC16.out W hSw); go_simp; (try with_reducible rfl)
        try simp only [Act.put, sA, sB, sC]
        refine tl 11 ⟨some 111, .binOp .geq 3 (.tmp 107) (.tmp 110) 3, 4, _, _, some (6, false)⟩ ?v54 rfl ?q54 ?r54
        case q54 => intro W hSw; (try obtain ⟨q0, q1, q2, q3, q4, q5⟩ := HC16.out W hSw); go_simp; (try with_reducible rfl)
        try simp only [Act.put, sA, sB, sC]
        refine tl 12 ⟨some 112, .pick (.tmp 106) (.const (.bool true)) (.tmp 111), 4, _, _, none⟩ ?v55 rfl ?q55 ?r55
        case q55 => intro W hSw; go_simp; (try with_reducible rfl)
        try simp only [Act.put, sA, sB, sC]
        refine tl 13 ⟨some 113, .move (.tmp 112), 4, _, _, none⟩ ?v56 rfl ?q56 ?r56
        case q56 => intro W hSw; go_simp; (try with_reducible rfl)
        try simp only [Act.put, sA, sB, sC]
        refine tu 14 ⟨some 114, .fieldAddr 30 (.tmp 10) 1, 0, _, _, some (13, false)⟩ rfl ?_
        try simp only [Act.put, sA, sB, sC]
        refine tu 15 ⟨some 115, .load 3 (.tmp 114), 3, _, _, some (13, false)⟩ rfl ?_
        try simp only [Act.put, sA, sB, sC]
        refine tu 16 ⟨some 116, .move (.tmp 21), 34, _, _, some (13, false)⟩ rfl ?_
        try simp only [Act.put, sA, sB, sC]
        refine tu 17 ⟨some 117, .nilCheck (.tmp 116), 0, _, _, some (13, false)⟩ rfl ?_
        try simp only [Act.put, sA, sB, sC]
        refine tu 18 ⟨some 118, .fieldAddr 59 (.tmp 117) 0, 0, _, _, some (13, false)⟩ rfl ?_
        try simp only [Act.put, sA, sB, sC]
        refine tu 19 ⟨some 119, .load 57 (.tmp 118), 57, _, _, some (13, false)⟩ rfl ?_
        try simp only [Act.put, sA, sB, sC]
        refine tu 20 ⟨some 120, .move (.tmp 5), 3, _, _, some (13, false)⟩ rfl ?_
        try simp only [Act.put, sA, sB, sC]
        refine tu 21 ⟨some 121, .call ⟨.value (.func 16), #[.tmp 119, .tmp 120], #[57, 3]⟩, 3, _, _, some (13, false)⟩ rfl ?_
        try simp only [Act.put, sA, sB, sC]
        refine tu 22 ⟨some 122, .binOp .lss 3 (.tmp 115) (.tmp 121) 3, 4, _, _, some (13, false)⟩ rfl ?_
        try simp only [Act.put, sA, sB, sC]
        refine tl 23 ⟨some 123, .pick (.tmp 113) (.const (.bool true)) (.tmp 122), 4, _, _, none⟩ ?v57 rfl ?q57 ?r57
        case q57 => intro W hSw; go_simp; (try with_reducible rfl)
        try simp only [Act.put, sA, sB, sC]
        refine wpAnyH_done (by kernel_rfl) ?_ _
        have FE := Lib.hid (F7.out.trans hHeld (fun _ h => h.elim))
        clear hHeld
        go_wp2_with fail
        refine (HAl.out _).mono ?_
        rintro r wq ⟨rfl, bq⟩
        go_wp2_with fail
        go_ret
        exact ⟨rfl, (FE.out.trans (Fr.b0 bq) (fun _ h => h.elim)).below (fun _ h => h.elim)⟩
      have h2 : decide ((n2 : Int) ≤ tr) = false := decide_eq_false ht1
      obtain ⟨k, rfl⟩ : ∃ k : Nat, tr = k := ⟨tr.toNat, by omega⟩
      have hkn : k < n2 := by omega
      have hnk : decide (n2 ≤ k) = false := decide_eq_false (by omega)
      have hnk2 : ¬ n2 ≤ k := by omega
      have hnk3 : decide ((k : Int) < 0) = false := decide_eq_false (by omega)
      have hnk4 : decide ((n2 : Int) ≤ (k : Int)) = false := decide_eq_false (by omega)
      have HFk := Lib.hid (fun W' (f : Fr (fun _ => False) w7 W') => HFr.out W' k f hkn)
      obtain ⟨fv, hfv⟩ : ∃ v, fromV Z.now lt bs k = v := ⟨_, rfl⟩
      have Hfv := Lib.hid hfv
      rw [hfv] at HFk
      clear hfv HFr
      by_cases hlt2 : rs < fv
      · have h3 : decide (rs < fv) = true := decide_eq_true hlt2
        go_wp2_with fail
        refine wp_region_held_drew (S := fun W_ => Fr (fun _ => False) w7 W_) (by kernel_rfl) ((Fr.refl _ w7).drew) (fun hHeld => ?_)
        refine tl 0 ⟨some 100, .move (.tmp 22), 39, _, _, none⟩ ?v58 rfl ?q58 ?r58
        case q58 => intro W hSw; go_simp; (try with_reducible rfl)
        try simp only [Act.put, sA, sB, sC]
        refine tl 1 ⟨some 101, .binOp .neq 39 (.tmp 100) (.const (.int .i64 0)) 39, 4, _, _, none⟩ ?v59 rfl ?q59 ?r59
        case q59 => intro W hSw; (try obtain ⟨q0, q1, q2, q3, q4, q5⟩ := HC16.out W hSw); go_simp; (try with_reducible rfl)
        try simp only [Act.put, sA, sB, sC]
        refine tl 2 ⟨some 102, .move (.tmp 101), 4, _, _, none⟩ ?v60 rfl ?q60 ?r60
        case q60 => intro W hSw; go_simp; (try with_reducible rfl)
        try simp only [Act.put, sA, sB, sC]
        refine tl 3 ⟨some 103, .move (.tmp 5), 3, _, _, some (2, false)⟩ ?v61 rfl ?q61 ?r61
        case q61 => intro W hSw; go_simp; (try with_reducible rfl)
        try simp only [Act.put, sA, sB, sC]
        refine tl 4 ⟨some 104, .binOp .lss 3 (.tmp 103) (.const (.int .i64 0)) 3, 4, _, _, some (2, false)⟩ ?v62 rfl ?q62 ?r62
        case q62 => intro W hSw; (try obtain ⟨q0, q1, q2, q3, q4, q5⟩ := HC16.out W hSw); go_simp; (try with_reducible rfl)
        try simp only [Act.put, sA, sB, sC]
        refine tl 5 ⟨some 105, .pick (.tmp 102) (.const (.bool true)) (.tmp 104), 4, _, _, none⟩ ?v63 rfl ?q63 ?r63
        case q63 => intro W hSw; go_simp; (try with_reducible rfl)
        try simp only [Act.put, sA, sB, sC]
        refine tl 6 ⟨some 106, .move (.tmp 105), 4, _, _, none⟩ ?v64 rfl ?q64 ?r64
        case q64 => intro W hSw; go_simp; (try with_reducible rfl)
        try simp only [Act.put, sA, sB, sC]
        refine tl 7 ⟨some 107, .move (.tmp 5), 3, _, _, some (6, false)⟩ ?v65 rfl ?q65 ?r65
        case q65 => intro W hSw; go_simp; (try with_reducible rfl)
        try simp only [Act.put, sA, sB, sC]
        refine tl 8 ⟨some 108, .fieldAddr 24 (.tmp 7) 1, 0, _, _, some (6, false)⟩ ?v66 rfl ?q66 ?r66
        case q66 => intro W hSw; go_simp; (try with_reducible rfl)
        try simp only [Act.put, sA, sB, sC]
        refine tl 9 ⟨some 109, .load 22 (.tmp 108), 22, _, _, some (6, false)⟩ ?v67 rfl ?q67 ?r67
        case q67 => intro W hSw; (try obtain ⟨q0, q1, q2, q3, q4, q5⟩ := HC16.out W hSw); go_simp; (try with_reducible rfl)
        try simp only [Act.put, sA, sB, sC]
        refine tl 10 ⟨some 110, .call ⟨.builtin .len, #[.tmp 109], #[22]⟩, 3, _, _, some (6, false)⟩ ?v68 rfl ?q68 ?r68
        case q68 => intro W hSw; (try obtain ⟨q0, q1, q2, q3, q4, q5⟩ := HC16.out W hSw); go_simp; (try with_reducible rfl)
        try simp only [Act.put, sA, sB, sC]
        refine tl 11 ⟨some 111, .binOp .geq 3 (.tmp 107) (.tmp 110) 3, 4, _, _, some (6, false)⟩ ?v69 rfl ?q69 ?r69
        case q69 => intro W hSw; (try obtain ⟨q0, q1, q2, q3, q4, q5⟩ := HC16.out W hSw); go_simp; (try with_reducible rfl)
        try simp only [Act.put, sA, sB, sC]
        refine tl 12 ⟨some 112, .pick (.tmp 106) (.const (.bool true)) (.tmp 111), 4, _, _, none⟩ ?v70 rfl ?q70 ?r70
        case q70 => intro W hSw; go_simp; (try with_reducible rfl)
        try simp only [Act.put, sA, sB, sC]
        refine tl 13 ⟨some 113, .move (.tmp 112), 4, _, _, none⟩ ?v71 rfl ?q71 ?r71
        case q71 => intro W hSw; go_simp; (try with_reducible rfl)
        try simp only [Act.put, sA, sB, sC]
        refine tl 14 ⟨some 114, .fieldAddr 30 (.tmp 10) 1, 0, _, _, some (13, false)⟩ ?v72 rfl ?q72 ?r72
        case q72 => intro W hSw; go_simp; (try with_reducible rfl)
        try simp only [Act.put, sA, sB, sC]
        refine tl 15 ⟨some 115, .load 3 (.tmp 114), 3, _, _, some (13, false)⟩ ?v73 rfl ?q73 ?r73
        case q73 => intro W hSw; (try obtain ⟨q0, q1, q2, q3, q4, q5⟩ := HC16.out W hSw); go_simp; (try with_reducible rfl)
        try simp only [Act.put, sA, sB, sC]
        refine tl 16 ⟨some 116, .move (.tmp 21), 34, _, _, some (13, false)⟩ ?v74 rfl ?q74 ?r74
        case q74 => intro W hSw; go_simp; (try with_reducible rfl)
        try simp only [Act.put, sA, sB, sC]
        refine tl 17 ⟨some 117, .nilCheck (.tmp 116), 0, _, _, some (13, false)⟩ ?v75 rfl ?q75 ?r75
        case q75 => intro W hSw; go_simp; (try with_reducible rfl)
        try simp only [Act.put, sA, sB, sC]
        refine tl 18 ⟨some 118, .fieldAddr 59 (.tmp 117) 0, 0, _, _, some (13, false)⟩ ?v76 rfl ?q76 ?r76
        case q76 => intro W hSw; go_simp; (try with_reducible rfl)
        try simp only [Act.put, sA, sB, sC]
        refine tl 19 ⟨some 119, .load 57 (.tmp 118), 57, _, _, some (13, false)⟩ ?v77 rfl ?q77 ?r77
        case q77 => intro W hSw; (try obtain ⟨q0, q1, q2, q3, q4, q5⟩ := HC16.out W hSw); go_simp; (try with_reducible rfl)
        try simp only [Act.put, sA, sB, sC]
        refine tl 20 ⟨some 120, .move (.tmp 5), 3, _, _, some (13, false)⟩ ?v78 rfl ?q78 ?r78
        case q78 => intro W hSw; go_simp; (try with_reducible rfl)
        try simp only [Act.put, sA, sB, sC]
        refine rl 21 ⟨some 121, .call ⟨.value (.func 16), #[.tmp 119, .tmp 120], #[57, 3]⟩, 3, _, _, some (13, false)⟩ rfl (fun K hK => ?_)
        go_simp
        go_wp2_with (first | (go_at_call 16; refine (HFk.out _ hHeld).mono ?_; rintro r w8 ⟨rfl, b8⟩))
        refine hK.out _ _ (hHeld.trans (Fr.b0 b8) (fun _ h => h.elim)) (fun hHeld => ?_)
        clear hK K
        try simp only [Act.put, sA, sB, sC]
        refine tl 22 ⟨some 122, .binOp .lss 3 (.tmp 115) (.tmp 121) 3, 4, _, _, some (13, false)⟩ ?v79 rfl ?q79 ?r79
        case q79 => intro W hSw; (try obtain ⟨q0, q1, q2, q3, q4, q5⟩ := HC16.out W hSw); go_simp; (try with_reducible rfl)
        try simp only [Act.put, sA, sB, sC]
        refine tl 23 ⟨some 123, .pick (.tmp 113) (.const (.bool true)) (.tmp 122), 4, _, _, none⟩ ?v80 rfl ?q80 ?r80
        case q80 => intro W hSw; go_simp; (try with_reducible rfl)
        try simp only [Act.put, sA, sB, sC]
        refine wpAnyH_done (by kernel_rfl) ?_ _
        have FE := Lib.hid (F7.out.trans hHeld (fun _ h => h.elim))
        clear hHeld b8
        go_wp2_with fail
        refine (HAl.out _).mono ?_
        rintro r wq ⟨rfl, bq⟩
        go_wp2_with fail
        go_ret
        exact ⟨rfl, (FE.out.trans (Fr.b0 bq) (fun _ h => h.elim)).below (fun _ h => h.elim)⟩
      have h3 : decide (rs < fv) = false := decide_eq_false hlt2
      go_wp2_with fail
      refine wp_region_held_drew (S := fun W_ => Fr (fun _ => False) w7 W_) (by kernel_rfl) ((Fr.refl _ w7).drew) (fun hHeld => ?_)
      refine tl 0 ⟨some 100, .move (.tmp 22), 39, _, _, none⟩ ?v81 rfl ?q81 ?r81
      case q81 => intro W hSw; go_simp; (try with_reducible rfl)
      try simp only [Act.put, sA, sB, sC]
      refine tl 1 ⟨some 101, .binOp .neq 39 (.tmp 100) (.const (.int .i64 0)) 39, 4, _, _, none⟩ ?v82 rfl ?q82 ?r82
      case q82 => intro W hSw; (try obtain ⟨q0, q1, q2, q3, q4, q5⟩ := HC16.out W hSw); go_simp; (try with_reducible rfl)
      try simp only [Act.put, sA, sB, sC]
      refine tl 2 ⟨some 102, .move (.tmp 101), 4, _, _, none⟩ ?v83 rfl ?q83 ?r83
      case q83 => intro W hSw; go_simp; (try with_reducible rfl)
      try simp only [Act.put, sA, sB, sC]
      refine tl 3 ⟨some 103, .move (.tmp 5), 3, _, _, some (2, false)⟩ ?v84 rfl ?q84 ?r84
      case q84 => intro W hSw; go_simp; (try with_reducible rfl)
      try simp only [Act.put, sA, sB, sC]
      refine tl 4 ⟨some 104, .binOp .lss 3 (.tmp 103) (.const (.int .i64 0)) 3, 4, _, _, some (2, false)⟩ ?v85 rfl ?q85 ?r85
      case q85 => intro W hSw; (try obtain ⟨q0, q1, q2, q3, q4, q5⟩ := HC16.out W hSw); go_simp; (try with_reducible rfl)
      try simp only [Act.put, sA, sB, sC]
      refine tl 5 ⟨some 105, .pick (.tmp 102) (.const (.bool true)) (.tmp 104), 4, _, _, none⟩ ?v86 rfl ?q86 ?r86
      case q86 => intro W hSw; go_simp; (try with_reducible rfl)
      try simp only [Act.put, sA, sB, sC]
      refine tl 6 ⟨some 106, .move (.tmp 105), 4, _, _, none⟩ ?v87 rfl ?q87 ?r87
      case q87 => intro W hSw; go_simp; (try with_reducible rfl)
      try simp only [Act.put, sA, sB, sC]
      refine tl 7 ⟨some 107, .move (.tmp 5), 3, _, _, some (6, false)⟩ ?v88 rfl ?q88 ?r88
      case q88 => intro W hSw; go_simp; (try with_reducible rfl)
      try simp only [Act.put, sA, sB, sC]
      refine tl 8 ⟨some 108, .fieldAddr 24 (.tmp 7) 1, 0, _, _, some (6, false)⟩ ?v89 rfl ?q89 ?r89
      case q89 => intro W hSw; go_simp; (try with_reducible rfl)
      try simp only [Act.put, sA, sB, sC]
      refine tl 9 ⟨some 109, .load 22 (.tmp 108), 22, _, _, some (6, false)⟩ ?v90 rfl ?q90 ?r90
      case q90 => intro W hSw; (try obtain ⟨q0, q1, q2, q3, q4, q5⟩ := HC16.out W hSw); go_simp; (try with_reducible rfl)
      try simp only [Act.put, sA, sB, sC]
      refine tl 10 ⟨some 110, .call ⟨.builtin .len, #[.tmp 109], #[22]⟩, 3, _, _, some (6, false)⟩ ?v91 rfl ?q91 ?r91
      case q91 => intro W hSw; (try obtain ⟨q0, q1, q2, q3, q4, q5⟩ := HC16.out W hSw); go_simp; (try with_reducible rfl)
      try simp only [Act.put, sA, sB, sC]
      refine tl 11 ⟨some 111, .binOp .geq 3 (.tmp 107) (.tmp 110) 3, 4, _, _, some (6, false)⟩ ?v92 rfl ?q92 ?r92
      case q92 => intro W hSw; (try obtain ⟨q0, q1, q2, q3, q4, q5⟩ := HC16.out W hSw); go_simp; (try with_reducible rfl)
      try simp only [Act.put, sA, sB, sC]
      refine tl 12 ⟨some 112, .pick (.tmp 106) (.const (.bool true)) (.tmp 111), 4, _, _, none⟩ ?v93 rfl ?q93 ?r93
      case q93 => intro W hSw; go_simp; (try with_reducible rfl)
      try simp only [Act.put, sA, sB, sC]
      refine tl 13 ⟨some 113, .move (.tmp 112), 4, _, _, none⟩ ?v94 rfl ?q94 ?r94
      case q94 => intro W hSw; go_simp; (try with_reducible rfl)
      try simp only [Act.put, sA, sB, sC]
      refine tl 14 ⟨some 114, .fieldAddr 30 (.tmp 10) 1, 0, _, _, some (13, false)⟩ ?v95 rfl ?q95 ?r95
      case q95 => intro W hSw; go_simp; (try with_reducible rfl)
      try simp only [Act.put, sA, sB, sC]
      refine tl 15 ⟨some 115, .load 3 (.tmp 114), 3, _, _, some (13, false)⟩ ?v96 rfl ?q96 ?r96
      case q96 => intro W hSw; (try obtain ⟨q0, q1, q2, q3, q4, q5⟩ := HC16.out W hSw); go_simp; (try with_reducible rfl)
      try simp only [Act.put, sA, sB, sC]
      refine tl 16 ⟨some 116, .move (.tmp 21), 34, _, _, some (13, false)⟩ ?v97 rfl ?q97 ?r97
      case q97 => intro W hSw; go_simp; (try with_reducible rfl)
      try simp only [Act.put, sA, sB, sC]
      refine tl 17 ⟨some 117, .nilCheck (.tmp 116), 0, _, _, some (13, false)⟩ ?v98 rfl ?q98 ?r98
      case q98 => intro W hSw; go_simp; (try with_reducible rfl)
      try simp only [Act.put, sA, sB, sC]
      refine tl 18 ⟨some 118, .fieldAddr 59 (.tmp 117) 0, 0, _, _, some (13, false)⟩ ?v99 rfl ?q99 ?r99
      case q99 => intro W hSw; go_simp; (try with_reducible rfl)
      try simp only [Act.put, sA, sB, sC]
      refine tl 19 ⟨some 119, .load 57 (.tmp 118), 57, _, _, some (13, false)⟩ ?v100 rfl ?q100 ?r100
      case q100 => intro W hSw; (try obtain ⟨q0, q1, q2, q3, q4, q5⟩ := HC16.out W hSw); go_simp; (try with_reducible rfl)
      try simp only [Act.put, sA, sB, sC]
      refine tl 20 ⟨some 120, .move (.tmp 5), 3, _, _, some (13, false)⟩ ?v101 rfl ?q101 ?r101
      case q101 => intro W hSw; go_simp; (try with_reducible rfl)
      try simp only [Act.put, sA, sB, sC]
      refine rl 21 ⟨some 121, .call ⟨.value (.func 16), #[.tmp 119, .tmp 120], #[57, 3]⟩, 3, _, _, some (13, false)⟩ rfl (fun K hK => ?_)
      go_simp
      go_wp2_with (first | (go_at_call 16; refine (HFk.out _ hHeld).mono ?_; rintro r w8 ⟨rfl, b8⟩))
      refine hK.out _ _ (hHeld.trans (Fr.b0 b8) (fun _ h => h.elim)) (fun hHeld => ?_)
      clear hK K
      try simp only [Act.put, sA, sB, sC]
      refine tl 22 ⟨some 122, .binOp .lss 3 (.tmp 115) (.tmp 121) 3, 4, _, _, some (13, false)⟩ ?v102 rfl ?q102 ?r102
      case q102 => intro W hSw; (try obtain ⟨q0, q1, q2, q3, q4, q5⟩ := HC16.out W hSw); go_simp; (try with_reducible rfl)
      try simp only [Act.put, sA, sB, sC]
      refine tl 23 ⟨some 123, .pick (.tmp 113) (.const (.bool true)) (.tmp 122), 4, _, _, none⟩ ?v103 rfl ?q103 ?r103
      case q103 => intro W hSw; go_simp; (try with_reducible rfl)
      try simp only [Act.put, sA, sB, sC]
      refine wpAnyH_done (by kernel_rfl) ?_ _
      have G8 : Hid (Fr (fun _ => False) w7 w8) := hHeld
      have HT8 := Lib.hid (HT7.out.fr0 G8.out)
      have HS8 := Lib.hid (HS7.out.fr0 G8.out)
      have F8 := Lib.hid (F7.out.trans G8.out (fun _ h => h.elim))
      have Bc8 := Lib.hid (Bc7.out.fr G8.out (fun h => h))
      obtain ⟨y, hy⟩ : ∃ y, lt[k]? = some y := ⟨_, List.getElem?_eq_getElem (by rw [Hll2.out]; exact hkn)⟩
      have Hy := Lib.hid hy
      have HlS : Hid (∀ m ∈ S.tabs, m.length ≤ 2000) := HK.out.lens P.out P2.out HT8.out.good (fun _ h => by cases h)
      obtain ⟨LS, hLS⟩ : ∃ v, S.tabs.getD k [] = v := ⟨_, rfl⟩
      have HLS := Lib.hid hLS
      have eI : recI S.tabs (k : Int) = LS := by unfold recI; rw [if_pos (by omega)]; simp only [Int.toNat_natCast]; exact hLS
      have HRw := Lib.hid (srecords_any s _ S (k : Int) w8 HS8.out.at_ (fun m hm => by have := HlS.out m hm; omega))
      rw [eI] at HRw
      have hLSl : LS.length ≤ 2000 := by
        rw [← hLS]
        rcases getD_mem_or (L := S.tabs) k with h | h
        · exact HlS.out _ h
        · rw [h]; exact Nat.zero_le _
      obtain ⟨CL, hCL⟩ : ∃ v, addsV y.every LS [(⟨rn, rs, ⟨r1, r2, r3, r4, r5⟩⟩ : RecV)] = v := ⟨_, rfl⟩
      have HCL := Lib.hid hCL
      have hCLl : CL.length ≤ 2001 := by rw [← hCL]; have := addsV_len_le y.every [(⟨rn, rs, ⟨r1, r2, r3, r4, r5⟩⟩ : RecV)] LS; simp only [List.length_cons, List.length_nil] at this; omega
      obtain ⟨C, hC⟩ : ∃ C : ShX, { S with tabs := S.tabs.set k CL } = C := ⟨_, rfl⟩
      have HC := Lib.hid hC
      have HCn : Hid (C.name = nm2 ∧ C.tiers = lt ∧ C.srcs = srcs Z.now l [] lt ∧ C.done = FL) := by rw [← hC]; exact ⟨HK.out.name, HK.out.tiers, HK.out.src, Hdone.out⟩
      have hklS : k < S.tabs.length := by
        have := HK.out.tabs
        rw [this, shT_len, Hll2.out]
        exact hkn
      have eC : recI C.tabs (k : Int) = CL := by
        unfold recI
        rw [if_pos (by omega), ← hC]
        simp only [Int.toNat_natCast]
        rw [List.getD_eq_getElem?_getD, List.getElem?_set_self hklS]
        rfl
      have HlC : Hid (∀ m ∈ C.tabs, m.length ≤ 2001) := fun m hm => by
        rw [← hC] at hm
        rcases List.mem_or_eq_of_mem_set hm with h | rfl
        · have := HlS.out m h; omega
        · exact hCLl
      obtain ⟨N, hN⟩ : ∃ v, ([(⟨rn, rs, ⟨r1, r2, r3, r4, r5⟩⟩ : RecV)].filter (rightR y.every)).length = v := ⟨_, rfl⟩
      have hN01 : N = 0 ∨ N = 1 := by
        rw [← hN]
        have := List.length_filter_le (rightR y.every) [(⟨rn, rs, ⟨r1, r2, r3, r4, r5⟩⟩ : RecV)]
        simp only [List.length_cons, List.length_nil] at this
        omega
      have HN0 : Hid (N = 0 → CL = LS) := fun h => by
        rw [← hCL]
        have h1 : rightR y.every (⟨rn, rs, ⟨r1, r2, r3, r4, r5⟩⟩ : RecV) = false := by
          cases hb : rightR y.every (⟨rn, rs, ⟨r1, r2, r3, r4, r5⟩⟩ : RecV)
          · rfl
          · rw [← hN, List.filter_cons_of_pos hb] at h
            simp at h
        show addV y.every LS _ = LS
        unfold addV
        rw [h1]
        rfl
      have HAg : Hid (agreesB C Y = decide (CL = LS)) := by
        have h := chk_agrees P.out P2.out HT8.out.good (fun _ h => by cases h) HK.out (by rw [Hdone.out, HFL.out]; omega) (j := k) (y := y) (r := (⟨rn, rs, ⟨r1, r2, r3, r4, r5⟩⟩ : RecV)) hy (by rw [Hbs.out, Hfv.out]; show fv ≤ rs; omega)
        rw [HLS.out, HCL.out, HC.out, HY.out] at h
        exact h
      obtain ⟨ch, hch⟩ : ∃ v, decide (CL = LS) = v := ⟨_, rfl⟩
      have Hch := Lib.hid hch
      rw [hch] at HAg
      have hat2 : atV lt FL = ((2, 0, 0), true) := by
        rcases at_what P2.out.ck (by omega) (by omega : FL < stepsV lt) with ⟨j, y, k, _, _, _, _, _, h⟩ | ⟨h, _⟩ | ⟨_, h⟩
        · rw [HFL.out] at h; omega
        · exact h
        · rw [HFL.out] at h; omega
      have Hat := Lib.hid hat2
      clear hHeld b8 eI hLS hCL hC hat2 hch hy HT7 HS7
      go_wp2_with fail
      refine HRw.out.mono ?_
      rintro r w9 ⟨⟨Aw, cw, rfl, ow⟩, b9⟩
      have G9 : Hid (Fr (fun _ => False) w8 w9) := Fr.b0 b9
      have HT9 := Lib.hid (HT8.out.fr0 G9.out)
      have HS9 := Lib.hid (HS8.out.fr0 G9.out)
      have F9 := Lib.hid (F8.out.trans G9.out (fun _ h => h.elim))
      have Bc9 := Lib.hid (Bc8.out.fr G9.out (fun h => h))
      have Ow9 := Lib.hid ow
      have hSt : S.tiers = lt := HK.out.tiers
      have HCp := Lib.hid (scopy_any s _ S G w9 HS9.out (by rw [hSt]; exact P2.out.pos) (by rw [hSt]; have := P2.out.five; omega) (by rw [HK.out.src]; unfold srcs; rw [List.length_map, Hll2.out]; omega) (by rw [hSt]; exact fun x hx => (check_mem P2.out.ck hx).2.2.2.2.2) (by rw [hSt]; exact fun x hx => (check_mem P2.out.ck hx).1) (by rw [Hbq.out]; exact hbd0) (by rw [hSt, hstv]; omega))
      have HGS : Hid (∀ j, G j → j < w9.heap.size) := fun j hj => (HS9.out.ge j hj).2
      have HFS : Hid (∀ j, F j → j < w9.heap.size) := fun j hj => (HT9.out.ge j hj).2
      clear b9 ow HRw HT8 HS8 Bc8 hSt
      go_wp2_with fail
      refine HCp.out.mono ?_
      rintro r w10 ⟨⟨o, Gc, rfl, oc⟩, b10⟩
      have G10 : Hid (Fr (fun _ => False) w9 w10) := Fr.b0 b10
      have HT10 := Lib.hid (HT9.out.fr0 G10.out)
      have HS10 := Lib.hid (HS9.out.fr0 G10.out)
      have HC10 := Lib.hid oc
      have HGc : Hid (∀ j, Gc j → w9.heap.size ≤ j) := fun j hj => (oc.ge j hj).1
      have F10 := Lib.hid (F9.out.trans G10.out (fun _ h => h.elim))
      have Ow10 := Lib.hid (own_fr0 Ow9.out G10.out)
      have Bc10 := Bc9.out.fr G10.out (fun h => h)
      have z0 := Bc10.cell 0
      have z1 := Bc10.cell 1
      have z2 := Bc10.cell 2
      have z3 := Bc10.cell 3
      have z4 := Bc10.cell 4
      have z5 := Bc10.cell 5
      have z6 := Bc10.cell 6
      simp only [List.getElem?_toArray, List.getElem?_cons_succ, List.getElem?_cons_zero] at z0 z1 z2 z3 z4 z5 z6
      obtain ⟨W11, hW11⟩ : ∃ v, v = w10.alloc (.cells #[.string rn, .int .i64 rs, .int .i64 r1, .int .i64 r2, .int .u64 r3, .int .i64 r4, .int .i64 r5] 30) := ⟨_, rfl⟩
      have HW11 := Lib.hid hW11
      have G11 : Hid (Fr (fun _ => False) w10 W11) := by show Fr _ _ _; rw [hW11]; exact Fr.none_alloc _ _
      have HLd := Lib.hid (sload_in o _ S Gc k y [(⟨rn, rs, ⟨r1, r2, r3, r4, r5⟩⟩ : RecV)] (some ⟨w10.heap.size, 0, none⟩) 1 1 W11 (HC10.out.fr0 G11.out) (by rw [HK.out.tiers]; exact Hy.out) (fun m hm => by have := HlS.out m hm; omega) (by omega) (by rw [hW11]; exact Rd.newS rfl _ _ 1 7 rfl) (fun r hr => by rw [List.mem_singleton] at hr; rw [hr]; exact Hrr.out))
      rw [HLS.out, HCL.out, HC.out, hN] at HLd
      clear b10 oc HCp Bc10 hW11
      go_wp2_with fail
      rw [← HW11.out]
      refine HLd.out.mono ?_
      rintro r w12 ⟨rfl, qc, fc⟩
      have HC12 := Lib.hid qc
      have HS12 := Lib.hid ((HS10.out.fr0 G11.out).frS (HC10.out.fr0 G11.out) fc (fun j hj hg => by have h1 := (HS9.out.ge j hj).2; have h2 := HGc.out j hg; omega))
      have HT12 := Lib.hid ((HT10.out.fr0 G11.out).frSh fc (HC10.out.fr0 G11.out) (fun j hj hg => by have h1 := (HT9.out.ge j hj).2; have h2 := HGc.out j hg; omega))
      have Ow12 := Lib.hid (own_fr (own_fr0 Ow10.out G11.out) fc (fun j hj hg => by have h1 := (Ow9.out.lt j hj).2; have h2 := HGc.out j hg; omega))
      have HW12 : Hid (W11.heap.size ≤ w12.heap.size) := fc.size
      have F12 : Hid (Fr (fun _ => False) w w12) := (F10.out.trans G11.out (fun _ h => h.elim)).trans fc (fun j hj => .inr (Nat.le_trans F9.out.size (HGc.out j hj)))
      have HRc := Lib.hid (srecords_any o _ C (k : Int) w12 HC12.out.at_ (fun m hm => by have := HlC.out m hm; omega))
      rw [eC] at HRc
      obtain ⟨nC, hnC⟩ : ∃ v, CL.length = v := ⟨_, rfl⟩
      obtain ⟨nS, hnS⟩ : ∃ v, LS.length = v := ⟨_, rfl⟩
      rw [hnC] at HRc hCLl
      rw [hnS] at Ow12 hLSl
      clear qc fc HLd Ow10 Ow9 HC10 HS10 HT10 HS9 HT9 Bc9 z0 z1 z2 z3 z4 z5 z6 eC
      go_wp2_with fail
      refine HRc.out.mono ?_
      rintro r w13 ⟨⟨Ac, ccp, rfl, oc2⟩, b13⟩
      have G13 : Hid (Fr (fun _ => False) w12 w13) := Fr.b0 b13
      have HSm3 := Lib.hid (samerecs_any CL LS Ac nC ccp Aw nS cw w13 (own_any oc2).2.2.1 ((own_any (own_fr0 Ow12.out G13.out)).2.2.1) (by omega) (by omega))
      rw [Hch.out] at HSm3
      clear b13 oc2 HRc
      go_wp2_with fail
      refine HSm3.out.mono ?_
      rintro r w14 ⟨rfl, b14⟩
      have G14 : Hid (Fr (fun _ => False) w12 w14) := G13.out.trans (Fr.b0 b14) (fun _ h => h.elim)
      have HC14 := Lib.hid (HC12.out.fr0 G14.out)
      have HS14 := Lib.hid (HS12.out.fr0 G14.out)
      have HT14 := Lib.hid (HT12.out.fr0 G14.out)
      have F14 := Lib.hid (F12.out.trans G14.out (fun _ h => h.elim))
      have HStC := Lib.hid (sstep_check P.out P2.out hnm2 HT14.out (by omega) (fun _ h => by cases h) HC14.out HCn.out.1 HCn.out.2.1 HCn.out.2.2.1 (by rw [HCn.out.2.2.2]; unfold i64; omega) (fun m hm => by have := HlC.out m hm; omega) (by rw [HCn.out.2.2.2]; exact Hat.out))
      rw [HY.out, HAg.out] at HStC
      unfold stepVal at HStC
      have hkw3 : IntKind.i64.wrap FL = FL := by simp [IntKind.wrap, IntKind.signed, IntKind.bits]; omega
      have hFF : (FL == FL) = true := by simp
      have hFF2 : decide (FL = FL) = true := decide_eq_true rfl
      have HW9 : Hid (w9.heap.size ≤ w14.heap.size) := by show _ ≤ _; exact Nat.le_trans G10.out.size (Nat.le_trans G11.out.size (Nat.le_trans HW12.out G14.out.size))
      have hkw : IntKind.i64.wrap (FL + 2 - 2) = FL := by simp [IntKind.wrap, IntKind.signed, IntKind.bits]; omega
      clear b14 HSm3 HC12 HS12 HT12 Ow12
      rcases hN01 with rfl | rfl
      · obtain rfl : ch = true := by rw [← Hch.out]; exact decide_eq_true (HN0.out rfl)
        go_wp2_with fail
        refine HStC.out.mono ?_
        rintro r w15 ⟨⟨h1, _⟩, f15⟩
        obtain ⟨rfl, _⟩ := h1 (by trivial)
        have F15 : Hid (Fr (fun _ => False) w w15) := F14.out.trans f15 (fun j hj => .inr (Nat.le_trans F9.out.size (HGc.out j hj)))
        clear h1 f15 HStC
        obtain ⟨W16, hW16⟩ : ∃ v, v = w15.alloc (.cells #[.int .i64 2, .int .i64 0, .int .i64 0] 50) := ⟨_, rfl⟩
        have HW16 := Lib.hid hW16
        have F16 : Hid (Fr (fun _ => False) w W16) := by show Fr _ _ _; rw [hW16]; exact F15.out.trans (Fr.none_alloc _ _) (fun _ h => h.elim)
        have V16 : Hid (Blk W16 w15.heap.size 50 #[.int .i64 2, .int .i64 0, .int .i64 0]) := by show Blk _ _ _ _; rw [hW16]; exact Blk.new _ _ _
        clear hW16
        go_wp2_with fail
        rw [← HW16.out]
        refine (HAl.out _).mono ?_
        rintro r wq ⟨rfl, bq⟩
        have v0 := (V16.out.below bq).cell 0
        simp only [List.getElem?_toArray, List.getElem?_cons_zero] at v0
        have FQ := Lib.hid (F16.out.trans (Fr.b0 bq) (fun _ h => h.elim))
        clear bq
        go_wp2_with fail
        go_ret
        exact ⟨rfl, FQ.out.below (fun _ h => h.elim)⟩
      cases ch with
      | true =>
        go_wp2_with fail
        refine HStC.out.mono ?_
        rintro r w15 ⟨⟨h1, _⟩, f15⟩
        obtain ⟨rfl, _⟩ := h1 (by trivial)
        have F15 : Hid (Fr (fun _ => False) w w15) := F14.out.trans f15 (fun j hj => .inr (Nat.le_trans F9.out.size (HGc.out j hj)))
        clear h1 f15 HStC
        obtain ⟨W16, hW16⟩ : ∃ v, v = w15.alloc (.cells #[.int .i64 2, .int .i64 0, .int .i64 0] 50) := ⟨_, rfl⟩
        have HW16 := Lib.hid hW16
        have F16 : Hid (Fr (fun _ => False) w W16) := by show Fr _ _ _; rw [hW16]; exact F15.out.trans (Fr.none_alloc _ _) (fun _ h => h.elim)
        have V16 : Hid (Blk W16 w15.heap.size 50 #[.int .i64 2, .int .i64 0, .int .i64 0]) := by show Blk _ _ _ _; rw [hW16]; exact Blk.new _ _ _
        clear hW16
        go_wp2_with fail
        rw [← HW16.out]
        refine (HAl.out _).mono ?_
        rintro r wq ⟨rfl, bq⟩
        have v0 := (V16.out.below bq).cell 0
        simp only [List.getElem?_toArray, List.getElem?_cons_zero] at v0
        have FQ := Lib.hid (F16.out.trans (Fr.b0 bq) (fun _ h => h.elim))
        clear bq
        go_wp2_with fail
        go_ret
        exact ⟨rfl, FQ.out.below (fun _ h => h.elim)⟩
      | false =>
        go_wp2_with fail
        refine HStC.out.mono ?_
        rintro r w15 ⟨⟨_, h2⟩, f15⟩
        obtain ⟨rfl, qc⟩ := h2 (by trivial)
        have HS15 := Lib.hid (HS14.out.frS HC14.out f15 (fun j hj hg => by have h1 := HGS.out j hj; have h2 := HGc.out j hg; omega))
        have HT15 := Lib.hid (HT14.out.frSh f15 HC14.out (fun j hj hg => by have h1 := HFS.out j hj; have h2 := HGc.out j hg; omega))
        have F15 : Hid (Fr (fun _ => False) w w15) := F14.out.trans f15 (fun j hj => .inr (Nat.le_trans F9.out.size (HGc.out j hj)))
        have HC15 := Lib.hid qc
        have HW15 : Hid (w14.heap.size ≤ w15.heap.size) := f15.size
        clear h2 f15 HStC qc HC14 HS14 HT14
        obtain ⟨W16, hW16⟩ : ∃ v, v = w15.alloc (.cells #[.int .i64 0, .int .i64 0, .int .i64 0] 50) := ⟨_, rfl⟩
        have HW16 := Lib.hid hW16
        have G16 : Hid (Fr (fun _ => False) w15 W16) := by show Fr _ _ _; rw [hW16]; exact Fr.none_alloc _ _
        have V16 : Hid (Blk W16 w15.heap.size 50 #[.int .i64 0, .int .i64 0, .int .i64 0]) := by show Blk _ _ _ _; rw [hW16]; exact Blk.new _ _ _
        have HS16 := Lib.hid (HS15.out.fr0 G16.out)
        have HC16 := Lib.hid (HC15.out.fr0 G16.out)
        have F16 := Lib.hid (F15.out.trans G16.out (fun _ h => h.elim))
        have HStS := Lib.hid (sstep_any P.out P2.out hnm2 (HT15.out.fr0 G16.out) (by omega) (fun _ h => by cases h) HS16.out HK.out (by rw [Hdone.out, hstv]; omega))
        have hcut : decide (S.done = stepsV lt - 1) = false := decide_eq_false (by rw [Hdone.out, hstv]; omega)
        rw [hcut, Hdone.out, Hat.out] at HStS
        unfold stepVal at HStS
        obtain ⟨vb, hvb⟩ : ∃ v, w15.heap.size = v := ⟨_, rfl⟩
        rw [hvb] at V16
        clear hW16 hcut
        go_wp2_with fail
        rw [← HW16.out]
        try rw [hvb]
        refine HStS.out.mono ?_
        rintro r w17 ⟨⟨co, rfl, hco⟩, _, f17⟩
        obtain rfl := hco.2 rfl
        have F17 : Hid (Fr (fun _ => False) w w17) := F16.out.trans f17 (fun j hj => .inr (Nat.le_trans F3.out.size (hGlo.out j hj)))
        have hvG : ¬ G vb := fun h => by have h1 := HGS.out _ h; have h2 := HW9.out; have h3 := HW15.out; omega
        have V17 := Lib.hid (V16.out.fr f17 hvG)
        have HC17 := Lib.hid (HC16.out.frS HS16.out f17 (fun j hj hg => by have h1 := HGS.out j hg; have h2 := HGc.out j hj; omega))
        clear hco f17 HStS HC16 HS16 V16 HC15 HS15 HT15
        obtain ⟨W18, hW18⟩ : ∃ v, v = w17.alloc (.cells #[.int .i64 2, .int .i64 0, .int .i64 0] 50) := ⟨_, rfl⟩
        have HW18 := Lib.hid hW18
        have G18 : Hid (Fr (fun _ => False) w17 W18) := by show Fr _ _ _; rw [hW18]; exact Fr.none_alloc _ _
        have X18 : Hid (Blk W18 w17.heap.size 50 #[.int .i64 2, .int .i64 0, .int .i64 0]) := by show Blk _ _ _ _; rw [hW18]; exact Blk.new _ _ _
        have V18 := Lib.hid (V17.out.fr G18.out (fun h => h))
        have HC18 := Lib.hid (HC17.out.fr0 G18.out)
        have F18 := Lib.hid (F17.out.trans G18.out (fun _ h => h.elim))
        obtain ⟨xb, hxb⟩ : ∃ v, w17.heap.size = v := ⟨_, rfl⟩
        rw [hxb] at X18
        obtain ⟨Aq, cq, Sq, dq, p0, p1, p2, pc, pr, _⟩ := HPlC.out W18 o _ C Gc HC18.out HCn.out.1 HCn.out.2.1 HCn.out.2.2.1
        have HC26 : Hid (∀ W', Fr (fun _ => False) W18 W' → W'.cell? ⟨vb, 0, none⟩ = some (.int .i64 0) ∧ W'.cell? ⟨vb, 1, none⟩ = some (.int .i64 0) ∧ W'.cell? ⟨vb, 2, none⟩ = some (.int .i64 0) ∧ W'.cell? ⟨xb, 0, none⟩ = some (.int .i64 2) ∧ W'.cell? ⟨o, 0, none⟩ = some (.string nm2) ∧ W'.cell? ⟨o, 1, none⟩ = some (.slice Aq n2 cq) ∧ W'.cell? ⟨o, 2, none⟩ = some (.slice Sq n2 dq)) := fun W' f => by
          have bv := V18.out.fr f (fun h => h)
          have bx := X18.out.fr f (fun h => h)
          exact ⟨bv.cell 0, bv.cell 1, bv.cell 2, bx.cell 0, f.cell p0 (fun h => h), f.cell p1 (fun h => h), f.cell p2 (fun h => h)⟩
        have HStq : Hid (∀ W', Fr (fun _ => False) W18 W' → Calls Tryz.prog 13 #[.agg #[.string nm2, .slice Aq n2 cq, .slice Sq n2 dq]] W' fun r w' => r = .returned (.int .i64 (FL + 2)) ∧ Below W'.heap.size W' w') := fun W' f => HSt.out W' Aq cq Sq dq (pr.fr0 f)
        have HDq : Hid (∀ W', Fr (fun _ => False) W18 W' → Calls Tryz.prog 21 #[.pointer (some ⟨o, 0, none⟩)] W' fun r w' => r = .returned (.int .i64 FL) ∧ W' = w') := fun W' f => by
          have := sdone_any o _ C W' (HC18.out.fr0 f).at_
          rw [HCn.out.2.2.2] at this
          exact this
        clear hW18 p0 p1 p2 pc pr HC17 HC18 V17
        go_wp2_with fail
        rw [← HW18.out]
        try rw [hxb]
        refine wp_region_held_drew (S := fun W_ => Fr (fun _ => False) W18 W_) (by kernel_rfl) ((Fr.refl _ W18).drew) (fun hHeld => ?_)
        refine rl 0 ⟨some 175, .call ⟨.value (.func 10), #[], #[]⟩, 4, _, _, none⟩ rfl (fun K hK => ?_)
        go_simp
        go_wp2_with (first | (go_at_call 10; refine (HAl.out _).mono ?_; rintro r wq ⟨rfl, bq⟩))
        refine hK.out _ _ (hHeld.trans (Fr.b0 bq) (fun _ h => h.elim)) (fun hHeld => ?_)
        clear hK K
        try simp only [Act.put, sA, sB, sC]
        refine tl 1 ⟨some 176, .move (.tmp 175), 4, _, _, none⟩ ?v1 rfl ?q1 ?r1
        case q1 => intro W hSw; go_simp; (try with_reducible rfl)
        try simp only [Act.put, sA, sB, sC]
        refine tl 2 ⟨some 177, .move (.tmp 29), 39, _, _, some (1, true)⟩ ?v2 rfl ?q2 ?r2
        case q2 => intro W hSw; go_simp; (try with_reducible rfl)
        try simp only [Act.put, sA, sB, sC]
        refine tl 3 ⟨some 178, .binOp .eql 39 (.tmp 177) (.const (.int .i64 7)) 39, 4, _, _, some (1, true)⟩ ?v3 rfl ?q3 ?r3
        case q3 => intro W hSw; (try obtain ⟨q0, q1, q2, q3, q4, q5, q6⟩ := HC26.out W hSw); go_simp; (try with_reducible rfl)
        try simp only [Act.put, sA, sB, sC]
        refine tl 4 ⟨some 179, .pick (.tmp 176) (.tmp 178) (.const (.bool false)), 4, _, _, none⟩ ?v4 rfl ?q4 ?r4
        case q4 => intro W hSw; go_simp; (try with_reducible rfl)
        try simp only [Act.put, sA, sB, sC]
        refine tl 5 ⟨some 180, .move (.tmp 179), 4, _, _, none⟩ ?v5 rfl ?q5 ?r5
        case q5 => intro W hSw; go_simp; (try with_reducible rfl)
        try simp only [Act.put, sA, sB, sC]
        refine tl 6 ⟨some 181, .move (.tmp 28), 34, _, _, some (5, true)⟩ ?v6 rfl ?q6 ?r6
        case q6 => intro W hSw; go_simp; (try with_reducible rfl)
        try simp only [Act.put, sA, sB, sC]
        refine tl 7 ⟨some 182, .binOp .eql 34 (.tmp 181) (.const (.pointer none)) 34, 4, _, _, some (5, true)⟩ ?v7 rfl ?q7 ?r7
        case q7 => intro W hSw; (try obtain ⟨q0, q1, q2, q3, q4, q5, q6⟩ := HC26.out W hSw); go_simp; (try with_reducible rfl)
        try simp only [Act.put, sA, sB, sC]
        refine tl 8 ⟨some 183, .pick (.tmp 180) (.tmp 182) (.const (.bool false)), 4, _, _, none⟩ ?v8 rfl ?q8 ?r8
        case q8 => intro W hSw; go_simp; (try with_reducible rfl)
        try simp only [Act.put, sA, sB, sC]
        refine tl 9 ⟨some 184, .move (.tmp 183), 4, _, _, none⟩ ?v9 rfl ?q9 ?r9
        case q9 => intro W hSw; go_simp; (try with_reducible rfl)
        try simp only [Act.put, sA, sB, sC]
        refine tl 10 ⟨some 185, .load 50 (.tmp 27), 50, _, _, some (9, true)⟩ ?v10 rfl ?q10 ?r10
        case q10 => intro W hSw; (try obtain ⟨q0, q1, q2, q3, q4, q5, q6⟩ := HC26.out W hSw); go_simp; (try with_reducible rfl)
        try simp only [Act.put, sA, sB, sC]
        refine tl 11 ⟨some 186, .build 50 #[], 50, _, _, some (9, true)⟩ ?v11 rfl ?q11 ?r11
        case q11 => intro W hSw; (try obtain ⟨q0, q1, q2, q3, q4, q5, q6⟩ := HC26.out W hSw); go_simp; (try with_reducible rfl)
        try simp only [Act.put, sA, sB, sC]
        refine tl 12 ⟨some 187, .binOp .eql 50 (.tmp 185) (.tmp 186) 50, 4, _, _, some (9, true)⟩ ?v12 rfl ?q12 ?r12
        case q12 => intro W hSw; (try obtain ⟨q0, q1, q2, q3, q4, q5, q6⟩ := HC26.out W hSw); go_simp; (try with_reducible rfl)
        try simp only [Act.put, sA, sB, sC]
        refine tl 13 ⟨some 188, .pick (.tmp 184) (.tmp 187) (.const (.bool false)), 4, _, _, none⟩ ?v13 rfl ?q13 ?r13
        case q13 => intro W hSw; go_simp; (try with_reducible rfl)
        try simp only [Act.put, sA, sB, sC]
        refine tl 14 ⟨some 189, .move (.tmp 188), 4, _, _, none⟩ ?v14 rfl ?q14 ?r14
        case q14 => intro W hSw; go_simp; (try with_reducible rfl)
        try simp only [Act.put, sA, sB, sC]
        refine tl 15 ⟨some 190, .move (.tmp 24), 38, _, _, some (14, true)⟩ ?v15 rfl ?q15 ?r15
        case q15 => intro W hSw; go_simp; (try with_reducible rfl)
        try simp only [Act.put, sA, sB, sC]
        refine tl 17 ⟨some 192, .move (.tmp 24), 38, _, _, some (14, true)⟩ ?v16 rfl ?q16 ?r16
        case q16 => intro W hSw; go_simp; (try with_reducible rfl)
        try simp only [Act.put, sA, sB, sC]
        refine tl 18 ⟨some 193, .nilCheck (.tmp 192), 0, _, _, some (14, true)⟩ ?v17 rfl ?q17 ?r17
        case q17 => intro W hSw; go_simp; (try with_reducible rfl)
        try simp only [Act.put, sA, sB, sC]
        refine tl 19 ⟨some 194, .fieldAddr 48 (.tmp 193) 0, 0, _, _, some (14, true)⟩ ?v18 rfl ?q18 ?r18
        case q18 => intro W hSw; go_simp; (try with_reducible rfl)
        try simp only [Act.put, sA, sB, sC]
        refine tl 20 ⟨some 195, .load 45 (.tmp 194), 45, _, _, some (14, true)⟩ ?v19 rfl ?q19 ?r19
        case q19 => intro W hSw; (try obtain ⟨q0, q1, q2, q3, q4, q5, q6⟩ := HC26.out W hSw); go_simp; (try with_reducible rfl)
        try simp only [Act.put, sA, sB, sC]
        refine rl 16 ⟨some 191, .call ⟨.value (.func 21), #[.tmp 190], #[38]⟩, 3, _, _, some (14, true)⟩ rfl (fun K hK => ?_)
        go_simp
        go_wp2_with (first | (go_at_call 21; refine (HDq.out _ hHeld).mono ?_; rintro r wd ⟨rfl, rfl⟩))
        refine hK.out _ _ (hHeld) (fun hHeld => ?_)
        clear hK K
        try simp only [Act.put, sA, sB, sC]
        refine rl 21 ⟨some 196, .call ⟨.value (.func 13), #[.tmp 195], #[45]⟩, 3, _, _, some (14, true)⟩ rfl (fun K hK => ?_)
        go_simp
        go_wp2_with (first | (go_at_call 13; refine (HStq.out _ hHeld).mono ?_; rintro r we ⟨rfl, be'⟩))
        refine hK.out _ _ (hHeld.trans (Fr.b0 be') (fun _ h => h.elim)) (fun hHeld => ?_)
        clear hK K
        try simp only [Act.put, sA, sB, sC]
        refine tl 22 ⟨some 197, .binOp .sub 3 (.tmp 196) (.const (.int .i64 2)) 3, 3, _, _, some (14, true)⟩ ?v20 rfl ?q20 ?r20
        case q20 => intro W hSw; (try obtain ⟨q0, q1, q2, q3, q4, q5, q6⟩ := HC26.out W hSw); go_simp; (try with_reducible rfl)
        try simp only [Act.put, sA, sB, sC]
        refine tl 23 ⟨some 198, .binOp .eql 3 (.tmp 191) (.tmp 197) 3, 4, _, _, some (14, true)⟩ ?v21 rfl ?q21 ?r21
        case q21 => intro W hSw; (try obtain ⟨q0, q1, q2, q3, q4, q5, q6⟩ := HC26.out W hSw); go_simp; (try with_reducible rfl)
        try simp only [Act.put, sA, sB, sC]
        refine tl 24 ⟨some 199, .pick (.tmp 189) (.tmp 198) (.const (.bool false)), 4, _, _, none⟩ ?v22 rfl ?q22 ?r22
        case q22 => intro W hSw; go_simp; (try with_reducible rfl)
        try simp only [Act.put, sA, sB, sC]
        refine tl 25 ⟨some 200, .move (.tmp 199), 4, _, _, none⟩ ?v23 rfl ?q23 ?r23
        case q23 => intro W hSw; go_simp; (try with_reducible rfl)
        try simp only [Act.put, sA, sB, sC]
        refine tl 26 ⟨some 201, .move (.tmp 32), 39, _, _, some (25, true)⟩ ?v24 rfl ?q24 ?r24
        case q24 => intro W hSw; go_simp; (try with_reducible rfl)
        try simp only [Act.put, sA, sB, sC]
        refine tl 27 ⟨some 202, .binOp .eql 39 (.tmp 201) (.const (.int .i64 0)) 39, 4, _, _, some (25, true)⟩ ?v25 rfl ?q25 ?r25
        case q25 => intro W hSw; (try obtain ⟨q0, q1, q2, q3, q4, q5, q6⟩ := HC26.out W hSw); go_simp; (try with_reducible rfl)
        try simp only [Act.put, sA, sB, sC]
        refine tl 28 ⟨some 203, .pick (.tmp 200) (.tmp 202) (.const (.bool false)), 4, _, _, none⟩ ?v26 rfl ?q26 ?r26
        case q26 => intro W hSw; go_simp; (try with_reducible rfl)
        try simp only [Act.put, sA, sB, sC]
        refine tl 29 ⟨some 204, .move (.tmp 203), 4, _, _, none⟩ ?v27 rfl ?q27 ?r27
        case q27 => intro W hSw; go_simp; (try with_reducible rfl)
        try simp only [Act.put, sA, sB, sC]
        refine tl 30 ⟨some 205, .fieldAddr 50 (.tmp 30) 0, 0, _, _, some (29, true)⟩ ?v28 rfl ?q28 ?r28
        case q28 => intro W hSw; go_simp; (try with_reducible rfl)
        try simp only [Act.put, sA, sB, sC]
        refine tl 31 ⟨some 206, .load 3 (.tmp 205), 3, _, _, some (29, true)⟩ ?v29 rfl ?q29 ?r29
        case q29 => intro W hSw; (try obtain ⟨q0, q1, q2, q3, q4, q5, q6⟩ := HC26.out W hSw); go_simp; (try with_reducible rfl)
        try simp only [Act.put, sA, sB, sC]
        refine tl 32 ⟨some 207, .binOp .eql 3 (.tmp 206) (.const (.int .i64 2)) 3, 4, _, _, some (29, true)⟩ ?v30 rfl ?q30 ?r30
        case q30 => intro W hSw; (try obtain ⟨q0, q1, q2, q3, q4, q5, q6⟩ := HC26.out W hSw); go_simp; (try with_reducible rfl)
        try simp only [Act.put, sA, sB, sC]
        refine tl 33 ⟨some 208, .pick (.tmp 204) (.tmp 207) (.const (.bool false)), 4, _, _, none⟩ ?v31 rfl ?q31 ?r31
        case q31 => intro W hSw; go_simp; (try with_reducible rfl)
        try simp only [Act.put, sA, sB, sC]
        refine tl 34 ⟨some 12, .assign (.tmp 208), 4, _, _, none⟩ ?v32 rfl ?q32 ?r32
        case q32 => intro W hSw; (try obtain ⟨q0, q1, q2, q3, q4, q5, q6⟩ := HC26.out W hSw); go_simp; (try with_reducible rfl)
        try simp only [Act.put, sA, sB, sC]
        refine wpAnyH_done (by kernel_rfl) ?_ _
        have FE := Lib.hid (F18.out.trans hHeld (fun _ h => h.elim))
        clear hHeld
        go_wp2_with fail
        go_ret
        exact ⟨rfl, FE.out.below (fun _ h => h.elim)⟩
end Go.Proofs.YtfhhepfkjndkgaaGreat
