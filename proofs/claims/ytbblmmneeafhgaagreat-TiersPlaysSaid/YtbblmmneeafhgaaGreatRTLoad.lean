/- Walks of the document: Tiers.Check, Put. -/
import Derived.Test.YtbblmmneeafhgaaGreatRTAdd
import Derived.Test.YtbblmmneeafhgaaGreatTabNeed
import Derived.Test.YtbblmmneeafhgaaGreatTiersP
import Derived.Test.YtbblmmneeafhgaaGreatTiersLoad
import Derived.Test.YtbblmmneeafhgaaGreatTk
namespace Go.Proofs.YtbblmmneeafhgaaGreat
set_option linter.all false
open Go.RowKit

set_option maxRecDepth 100000 in
set_option maxHeartbeats 6000000 in
theorem rtcheck_any (g lo : Nat) (F : Nat → Prop) (X : TiersX) (A : Option Addr) (c : Nat) (B : Option Addr) (d : Nat) (T : Option Addr) (ct : Nat) (P : List Nat) (l : List SampV) (D : Option Addr) (m e : Nat) (w : World) (h : RTiersOn w g lo F X A c B d T ct P) (hn : X.tiers.length ≤ 1000) (hnow : i64 X.now) (hwf : ∀ x ∈ X.tiers, x.wf) (hs : Rd w 3 D m (scells l)) (hsw : ∀ s ∈ l, s.wf) (hm : m ≤ 9223372036854775807) :
  Calls Tryz.prog 59 #[.pointer (some ⟨g, 0, none⟩), .slice D m e] w fun r w' => r = .returned (.int .i64 (putE X l)) ∧ Below w.heap.size w w' := by
 obtain ⟨n, hn0⟩ : ∃ n, X.tiers.length = n := ⟨_, rfl⟩
 obtain ⟨mf, hmf⟩ : ∃ m, X.floors.length = m := ⟨_, rfl⟩
 obtain ⟨now, hnw0⟩ : ∃ v, X.now = v := ⟨_, rfl⟩
 obtain ⟨nm, hnm0⟩ : ∃ v, X.name = v := ⟨_, rfl⟩
 have Hn := Lib.hid hn0
 have Hmf := Lib.hid hmf
 have Hnw := Lib.hid hnw0
 have Hnm := Lib.hid hnm0
 rw [hn0] at hn
 have HWf := Lib.hid hwf
 have H := Lib.hid h
 have Hs := Lib.hid hs
 have Hln := Lib.hid hs.samps_len
 have Hsw := Lib.hid hsw
 have hgt : Hid (∀ {W : World}, Fr (fun _ => False) w W → Blk W g 113 #[.int .i64 now, .string nm, .slice A n c, .slice B mf d, .slice T n ct]) := fun f => by
  have := H.out.blk.fr f (fun h => h)
  rw [Hn.out, Hmf.out, Hnw.out, Hnm.out] at this
  exact this
 have HTk : Hid (∀ s, s ∈ l → ∀ W, Fr (fun _ => False) w W → Calls Tryz.prog 138 #[.agg #[.int .i64 now, .string nm, .slice A n c, .slice B mf d], .agg #[.string s.name, .int .i64 s.time, .int .i64 s.value]] W fun r w' => r = .returned (.int .i64 (takesV X.now X.tiers X.floors s)) ∧ Below W.heap.size W w') := fun s hs W f => by
  obtain ⟨r1, r2⟩ := (H.out.fr0 f).rd
  rw [Hn.out] at r1
  rw [Hmf.out] at r2
  have := rtakes_any now (by rw [← Hnw.out]; exact hnow) nm X.tiers A n c X.floors B mf d s (Hsw.out s hs).2.2 W r1 r2 HWf.out (by omega)
  rw [Hnw.out]
  exact this
 obtain ⟨E, hE⟩ : ∃ E, putE X l = E := ⟨_, rfl⟩
 have HE := Lib.hid hE
 rw [hE]
 clear hE hs hsw hwf h hn0 hmf hnw0 hnm0
 by_cases hz0 : m = 0
 case pos =>
  subst hz0
  have hE1 : E = 1 := by rw [← HE.out]; unfold putE; rw [Hln.out, if_pos rfl]
  subst hE1
  go_enter Tryz.func59, Tryz.ntmps59
  go_wp2_with fail
  go_ret
  exact ⟨rfl, Below.refl _ _⟩
 case neg =>
 have hz1 : ((m : Int) == 0) = false := by simp; omega
 have hz2 : (m == 0) = false := by simp; omega
 by_cases hb8 : 8 < m
 case pos =>
  have hd1 : decide ((8 : Int) < (m : Int)) = true := decide_eq_true (by omega)
  have hd2 : decide (8 < m) = true := decide_eq_true hb8
  have hE1 : E = 2 := by rw [← HE.out]; unfold putE; rw [Hln.out, if_neg hz0, if_pos hb8]
  subst hE1
  go_enter Tryz.func59, Tryz.ntmps59
  go_wp2_with fail
  go_ret
  exact ⟨rfl, Below.refl _ _⟩
 case neg =>
 have hd1 : decide ((8 : Int) < (m : Int)) = false := decide_eq_false (by omega)
 have hd2 : decide (8 < m) = false := decide_eq_false hb8
 have HE1 : Hid (E = firstE X l) := by show _ = _; rw [← HE.out]; unfold putE; rw [Hln.out, if_neg hz0, if_neg hb8]
 clear HE
 go_enter Tryz.func59, Tryz.ntmps59
 go_wp2_with fail
 go_loopw [5] (fun s5 wr => ∃ q : Nat, q ≤ m ∧ s5 = .int .i64 q ∧ (∀ j, j < q → ∀ y, l[j]? = some y → takesV X.now X.tiers X.floors y = 0) ∧ Fr (fun _ => False) w wr) (fun s5 _ => m - (intOf s5).toNat)
 case atStart => exact ⟨0, Nat.zero_le _, rfl, fun j hj => absurd hj (Nat.not_lt_zero _), Fr.refl _ _⟩
 case round =>
  obtain ⟨q, hq, rfl, hz, hfr⟩ := hrel
  have HZ := Lib.hid hz
  have HF := Lib.hid hfr
  clear hz hfr
  by_cases hlt : q < m
  ·obtain ⟨sa, s, rfl, hs, d0, d6, d7⟩ := (Hs.out.fr0 HF.out).samp_ hlt
   have HTs := Lib.hid (HTk.out s (mem_of_get hs))
   have HZn : Hid (takesV X.now X.tiers X.floors s = 0 → ∀ j, j < q + 1 → ∀ y, l[j]? = some y → takesV X.now X.tiers X.floors y = 0) := fun e j hj y hy => by
    by_cases ej : j = q
    ·subst ej
     obtain rfl : s = y := Option.some.inj (hs.symm.trans hy)
     exact e
    ·exact HZ.out j (by omega) y hy
   have HZs : Hid (takesV X.now X.tiers X.floors s ≠ 0 → E = takesV X.now X.tiers X.floors s) := fun e => by rw [HE1.out]; exact firstE_at hs e HZ.out
   obtain ⟨tv, htv⟩ : ∃ v, takesV X.now X.tiers X.floors s = v := ⟨_, rfl⟩
   rw [htv] at HTs HZs
   have Htv := Lib.hid htv
   clear htv hs
   obtain ⟨s0, s1, s2⟩ := s
   simp only at HTs d0 d6 d7
   have HC : Hid (∀ W, Fr (fun _ => False) wr W → W.cell? ⟨g, 0, none⟩ = some (.int .i64 now) ∧ W.cell? ⟨g, 1, none⟩ = some (.string nm) ∧ W.cell? ⟨g, 2, none⟩ = some (.slice A n c) ∧ W.cell? ⟨g, 3, none⟩ = some (.slice B mf d) ∧ W.cell? (sa.add (q * 3)) = some (.string s0) ∧ W.cell? ⟨(sa.add (q * 3)).block, (sa.add (q * 3)).off + 1, none⟩ = some (.int .i64 s1) ∧ W.cell? ⟨(sa.add (q * 3)).block, (sa.add (q * 3)).off + 2, none⟩ = some (.int .i64 s2)) := fun W f => by
    have b := hgt.out (HF.out.trans f (fun _ h => h.elim))
    exact ⟨b.cell 0, b.cell 1, b.cell 2, b.cell 3, f.cell d0 (fun h => h), f.cell d6 (fun h => h), f.cell d7 (fun h => h)⟩
   have d1 : decide ((q : Int) < (m : Int)) = true := decide_eq_true (by omega)
   have d5 : 0 ≤ (q : Int) ∧ (q : Int) < (m : Int) := by omega
   have hqw : IntKind.i64.wrap ((q : Int) + 1) = (q : Int) + 1 := by simp [IntKind.wrap, IntKind.signed, IntKind.bits]; omega
   clear d0 d6 d7
   go_wp2_with fail
   refine wp_region_held_drew (S := fun W => Fr (fun _ => False) wr W) (by kernel_rfl) ((Fr.refl _ wr).drew) (fun hHeld => ?_)
   refine tl 0 ?v1 rfl ?q1 ?r1
   case q1 => intro W hSw; go_simp; try rfl
   refine tl 1 ?v2 rfl ?q2 ?r2
   case q2 => intro W hSw; go_simp; try rfl
   refine tl 2 ?v3 rfl ?q3 ?r3
   case q3 => intro W hSw; go_simp; try rfl
   refine tl 3 ?v4 rfl ?q4 ?r4
   case q4 => intro W hSw; (try obtain ⟨q0, q1, q2, q3, y0, y1, y2⟩ := HC.out W hSw); go_simp; try rfl
   refine tl 4 ?v5 rfl ?q5 ?r5
   case q5 => intro W hSw; go_simp; try rfl
   refine tl 5 ?v6 rfl ?q6 ?r6
   case q6 => intro W hSw; go_simp; try rfl
   refine tl 6 ?v7 rfl ?q7 ?r7
   case q7 => intro W hSw; (try obtain ⟨q0, q1, q2, q3, y0, y1, y2⟩ := HC.out W hSw); go_simp; try rfl
   refine tl 7 ?v8 rfl ?q8 ?r8
   case q8 => intro W hSw; (try obtain ⟨q0, q1, q2, q3, y0, y1, y2⟩ := HC.out W hSw); go_simp; try rfl
   try simp only [Act.put, sA, sB, sC]
   refine rl 8 rfl (fun K hK => ?_)
   go_simp
   go_wp2_with (first | (go_at_call 138; refine (HTs.out _ (HF.out.trans hHeld (fun _ h => h.elim))).mono ?_; rintro r wa ⟨rfl, ba⟩))
   refine hK.out _ _ (hHeld.trans (Fr.b0 ba) (fun _ h => h.elim)) (fun hHeld => ?_)
   clear hK K
   refine tl 9 ?v9 rfl ?q9 ?r9
   case q9 => intro W hSw; (try obtain ⟨q0, q1, q2, q3, y0, y1, y2⟩ := HC.out W hSw); go_simp; try rfl
   try simp only [Act.put, sA, sB, sC]
   refine wpAnyH_done (by kernel_rfl) ?_ _
   have F8 : Hid (Fr (fun _ => False) wr wa) := hHeld
   clear hHeld ba
   by_cases ht0 : tv = 0
   ·subst ht0
    have HZm := Lib.hid (HZn.out Htv.out)
    clear HZn HZs
    go_wp2_with fail
    go_roundw
    case rel => exact ⟨q + 1, by omega, by go_num, HZm.out, HF.out.trans F8.out (fun _ h => h.elim)⟩
    case measure => simp [intOf]; omega
   ·have hEt : Hid (E = tv) := HZs.out ht0
    have ht1 : (tv == 0) = false := by rw [beq_eq_false_iff_ne]; exact ht0
    clear HZn HZs
    go_wp2_with fail
    go_ret
    exact ⟨by rw [hEt.out]; rfl, (HF.out.trans F8.out (fun _ h => h.elim)).below (fun _ h => h.elim)⟩
  ·obtain rfl : q = m := by omega
   have d1 : decide ((q : Int) < (q : Int)) = false := decide_eq_false (by omega)
   have hE0 : E = 0 := by
    rw [HE1.out]
    refine firstE_zero (fun s hs => ?_)
    obtain ⟨j, hj, e⟩ := List.getElem_of_mem hs
    exact HZ.out j (by rw [← Hln.out]; exact hj) s (by rw [List.getElem?_eq_getElem hj, e])
   subst hE0
   go_wp2_with fail
   go_ret
   exact ⟨rfl, HF.out.below (fun _ h => h.elim)⟩

set_option maxRecDepth 100000 in
set_option maxHeartbeats 6000000 in
theorem rtput_any (g lo : Nat) (F : Nat → Prop) (X : TiersX) (A : Option Addr) (c : Nat) (B : Option Addr) (d : Nat) (T : Option Addr) (ct : Nat) (P : List Nat) (l : List SampV) (D : Option Addr) (m e : Nat) (w : World) (h : RTiersOn w g lo F X A c B d T ct P) (hn : X.tiers.length ≤ 1000) (hnow : i64 X.now) (hwf : ∀ x ∈ X.tiers, x.wf) (hs : Rd w 3 D m (scells l)) (hsw : ∀ s ∈ l, s.wf) (hm : m ≤ 9223372036854775807) (hD : ∀ j, adF D m j → ¬ F j) (hl : ∀ y ∈ X.tabs, y.length ≤ 999000) :
  Calls Tryz.prog 17 #[.pointer (some ⟨g, 0, none⟩), .slice D m e] w fun r w' => r = .returned (.int .i64 (putE X l)) ∧ RtAt w w' g lo F (putX X l) A c B d T ct P := by
 obtain ⟨n, hn0⟩ : ∃ n, X.tiers.length = n := ⟨_, rfl⟩
 obtain ⟨mf, hmf⟩ : ∃ m, X.floors.length = m := ⟨_, rfl⟩
 obtain ⟨now, hnw0⟩ : ∃ v, X.now = v := ⟨_, rfl⟩
 obtain ⟨nm, hnm0⟩ : ∃ v, X.name = v := ⟨_, rfl⟩
 have Hn := Lib.hid hn0
 have Hmf := Lib.hid hmf
 have Hnw := Lib.hid hnw0
 have Hnm := Lib.hid hnm0
 rw [hn0] at hn
 have HWf := Lib.hid hwf
 have H := Lib.hid h
 have Hs := Lib.hid hs
 have Hln := Lib.hid hs.samps_len
 have Hsw := Lib.hid hsw
 have HD := Lib.hid hD
 have HL := Lib.hid hl
 have HCk : Hid (Calls Tryz.prog 59 #[.pointer (some ⟨g, 0, none⟩), .slice D m e] w fun r w' => r = .returned (.int .i64 (putE X l)) ∧ Below w.heap.size w w') := rtcheck_any g lo F X A c B d T ct P l D m e w h (by omega) hnow hwf hs hsw hm
 have HA : Hid (∀ (q : Nat) (s : SampV), l[q]? = some s → q < 8 → ∀ W, RtAt w W g lo F { X with tabs := putsT X X.tabs (l.take q) } A c B d T ct P → Calls Tryz.prog 60 #[.pointer (some ⟨g, 0, none⟩), .agg #[.string s.name, .int .i64 s.time, .int .i64 s.value]] W fun r w' => r = .returned (.tuple #[]) ∧ RtAt w w' g lo F { X with tabs := putsT X X.tabs (l.take (q + 1)) } A c B d T ct P) := fun q s hq hq8 W ⟨F', ht, hmv⟩ => by
  refine (rtadd_any g lo F' { X with tabs := putsT X X.tabs (l.take q) } A c B d T ct P s (Hsw.out s (mem_of_get hq)) W ht (by show X.tiers.length ≤ _; omega) (fun y hy => ?_) hnow HWf.out).mono ?_
  ·have h1 := putsT_len (X := X) (l.take q) HL.out y hy
   have h2 : (l.take q).length ≤ q := by rw [List.length_take]; omega
   omega
  ·rintro r w' ⟨rfl, F'', h2, hm2⟩
   refine ⟨rfl, F'', ?_, hmv.trans hm2⟩
   rw [take_snoc hq, putsT_snoc]
   exact h2
 have HS0 : Hid (∀ W, Fr (fun _ => False) w W → RtAt w W g lo F { X with tabs := putsT X X.tabs (l.take 0) } A c B d T ct P) := fun W f => ⟨F, H.out.fr0 f, Mv.of_none F f⟩
 have HSe : Hid (∀ W, Fr (fun _ => False) w W → RtAt w W g lo F X A c B d T ct P) := fun W f => ⟨F, H.out.fr0 f, Mv.of_none F f⟩
 have hZ : putX X l = if putE X l = 0 then { X with tabs := putsT X X.tabs l } else X := rfl
 have h8 : putE X l = 0 → m ≤ 8 := fun e => by
  unfold putE at e
  rw [Hln.out] at e
  split at e
  ·omega
  ·split at e
   ·omega
   ·omega
 rw [hZ]
 obtain ⟨E, hE⟩ : ∃ E, putE X l = E := ⟨_, rfl⟩
 rw [hE] at HCk h8 ⊢
 clear hE hs hsw hwf h hn0 hmf hnw0 hnm0 hD hl hZ
 by_cases he : E = 0
 case neg =>
  have he1 : (E == 0) = false := by rw [beq_eq_false_iff_ne]; exact he
  rw [if_neg he]
  clear h8
  go_enter Tryz.func17, Tryz.ntmps17
  go_wp2_with fail
  refine HCk.out.mono ?_
  rintro r wc ⟨rfl, bc⟩
  have HSx := Lib.hid (HSe.out wc (Fr.b0 bc))
  clear bc
  go_wp2_with fail
  go_loopw [6] (fun s6 wr => s6 = .int .i64 0 ∧ wr = wc) (fun _ _ => 0)
  case atStart => exact ⟨rfl, rfl⟩
  case round =>
   obtain ⟨rfl, rfl⟩ := hrel
   by_cases hm0 : 0 < m
   ·have d1 : decide (0 < (m : Int)) = true := decide_eq_true (by omega)
    have d2 : decide (0 < m) = true := decide_eq_true hm0
    go_wp2_with fail
    go_ret
    exact ⟨rfl, HSx.out⟩
   ·have d1 : decide (0 < (m : Int)) = false := decide_eq_false (by omega)
    have d2 : decide (0 < m) = false := decide_eq_false hm0
    go_wp2_with fail
    go_ret
    exact ⟨rfl, HSx.out⟩
 case pos =>
 subst he
 have Hm8 : Hid (m ≤ 8) := h8 rfl
 rw [if_pos rfl]
 clear h8
 go_enter Tryz.func17, Tryz.ntmps17
 go_wp2_with fail
 refine HCk.out.mono ?_
 rintro r wc ⟨rfl, bc⟩
 have HSx := Lib.hid (HS0.out wc (Fr.b0 bc))
 clear bc HSe HS0
 go_wp2_with fail
 go_loopw [6] (fun s6 wr => ∃ q : Nat, q ≤ m ∧ s6 = .int .i64 q ∧ RtAt w wr g lo F { X with tabs := putsT X X.tabs (l.take q) } A c B d T ct P) (fun s6 _ => m - (intOf s6).toNat)
 case atStart => exact ⟨0, Nat.zero_le _, rfl, HSx.out⟩
 case round =>
  obtain ⟨q, hq, rfl, ht⟩ := hrel
  have HT := Lib.hid ht
  obtain ⟨F', _, hmv⟩ := ht
  by_cases hlt : q < m
  ·obtain ⟨sa, s, rfl, hs, d0, d6, d7⟩ := (Hs.out.fr hmv.fr (fun j hj => HD.out j hj)).samp_ hlt
   have HAq := Lib.hid (HA.out q s hs (by have := Hm8.out; omega) wr HT.out)
   have d1 : decide ((q : Int) < (m : Int)) = true := decide_eq_true (by omega)
   have d5 : 0 ≤ (q : Int) ∧ (q : Int) < (m : Int) := by omega
   have hqw : IntKind.i64.wrap ((q : Int) + 1) = (q : Int) + 1 := by simp [IntKind.wrap, IntKind.signed, IntKind.bits]; omega
   clear hs hmv
   go_wp2_with fail
   refine HAq.out.mono ?_
   rintro r wa ⟨rfl, ha⟩
   have HB := Lib.hid ha
   clear ha d0 d6 d7
   go_wp2_with fail
   go_roundw
   case rel => exact ⟨q + 1, by omega, by go_num, HB.out⟩
   case measure => simp [intOf]; omega
  ·obtain rfl : q = m := by omega
   have d1 : decide ((q : Int) < (q : Int)) = false := decide_eq_false (by omega)
   have hql : l.take q = l := take_all (by rw [Hln.out]; exact Nat.le_refl _)
   rw [hql] at HT
   clear hql hmv
   go_wp2_with fail
   go_ret
   exact ⟨rfl, HT.out⟩
end Go.Proofs.YtbblmmneeafhgaaGreat
namespace Go.Proofs.YtbblmmneeafhgaaGreat
set_option linter.all false
open Go.RowKit

set_option maxRecDepth 100000 in
set_option maxHeartbeats 6000000 in
theorem rtdrop_any (p lo : Nat) (F : Nat → Prop) (every : Int) (l : List RecV) (below : Int) (w : World) (h : RTabF w p lo F every l) (hlo : lo ≤ w.heap.size) (hl : l.length ≤ 1000000) :
  Calls Tryz.prog 63 #[.pointer (some ⟨p, 0, none⟩), .int .i64 below] w fun r w' => (∃ v, r = .returned (.int .i64 v)) ∧ RTabF w' p lo (fun j => F j ∨ w.heap.size ≤ j) every (keepT (startBelow below) l) ∧ Fr (fun j => j = p) w w' := by
 obtain ⟨⟨A, c, hb, ho, hF⟩, hwf, hso, hge⟩ := h
 obtain ⟨n, hn⟩ : ∃ n, l.length = n := ⟨_, rfl⟩
 have Hn := Lib.hid hn
 rw [hn] at hb ho hl
 obtain ⟨hnc, hc9, hrd, _⟩ := own_any ho
 have Hb := Lib.hid hb
 have Hrd := Lib.hid hrd
 obtain ⟨kp, hkp⟩ : ∃ f : List RecV → List RecV, keepT (startBelow below) = f := ⟨_, rfl⟩
 have HE : Hid (∀ (g : Option Addr) (k cs : Nat) (W : World), Fr (fun _ => False) w W → (kp l).length = k → W.ownsRow w.heap.size 100 7 (.slice g k cs) k (rcells (kp l)) → RTabF (W.setCell ⟨p, 1, none⟩ (.slice g k cs)) p lo (fun j => F j ∨ w.heap.size ≤ j) every (kp l) ∧ Fr (fun j => j = p) w (W.setCell ⟨p, 1, none⟩ (.slice g k cs))) := by
  intro g k cs W f hk ho'
  have hb' := hb.fr f (fun h => h)
  have hs : Fr (fun j => j = p) W (W.setCell ⟨p, 1, none⟩ (.slice g k cs)) := (Fr.refl (fun j => j = p) W).setCell (p := ⟨p, 1, none⟩) (.inl rfl) _
  have hne : ∀ j, rowF (.slice g k cs) j → ¬ j = p := fun j hj e => own_blk_ne ho' hb' (by decide) (by rw [← e]; exact hj)
  refine ⟨⟨⟨g, cs, ?_, ?_, fun j hj => .inr ?_⟩, fun r hr => hwf r ?_, ?_, hge⟩, (f.mono (fun _ h => h.elim)).trans hs (fun _ h => .inl h)⟩
  ·rw [hk]; simpa using hb'.set_ 1 (.slice g k cs)
  ·rw [hk]
   exact own_up (own_fr ho' hs hne) (fun j hj => Nat.le_trans hlo ((own_fr ho' hs hne).lt j hj).1)
  ·rw [hk] at hj
   exact (ho'.lt j hj).1
  ·rw [← hkp] at hr; exact (List.mem_filter.1 hr).1
  ·rw [← hkp]; exact hso.filter _
 rw [hkp]
 have Hkp := Lib.hid hkp
 have Hsn : Hid (∀ (q : Nat) (r : RecV), l[q]? = some r → kp (l.take (q + 1)) = if decide (below ≤ r.start) then kp (l.take q) ++ [r] else kp (l.take q)) := by
  intro q r hr
  rw [← hkp, take_snoc hr]
  unfold keepT startBelow
  rw [List.filter_append]
  by_cases h : r.start < below
  ·simp [h]
  ·simp [h]
 have Hk0 : Hid (kp (l.take 0) = []) := by show _ = _; rw [← hkp]; rfl
 have HkN : Hid (kp (l.take n) = kp l) := by show _ = _; rw [← hn, List.take_length]
 have Hkl : Hid (∀ q, (kp (l.take q)).length ≤ 1000000) := fun q => by
  rw [← hkp]
  refine Nat.le_trans (List.length_filter_le _ _) ?_
  rw [List.length_take]
  omega
 obtain ⟨i0, hi, hz0, hz1, hz2⟩ := info_parts info_rec
 have HHi := Lib.hid hi
 clear hb ho hrd hwf hso hF hn hkp
 go_enter Tryz.func63, Tryz.ntmps63
 go_wp2_with fail
 go_loopw [5, 6] (fun o i wr => ∃ (q k : Nat) (R : Option Addr) (cs : Nat), q ≤ n ∧ i = .int .i64 q ∧ o = .slice R k cs ∧ (kp (l.take q)).length = k ∧ wr.ownsRow w.heap.size 100 7 (.slice R k cs) k (rcells (kp (l.take q))) ∧ Fr (fun _ => False) w wr) (fun _ i _ => n - (intOf i).toNat)
 case atStart =>
  refine ⟨0, 0, none, 0, Nat.zero_le _, rfl, rfl, by rw [Hk0.out]; rfl, ?_, Fr.refl _ _⟩
  rw [Hk0.out]
  exact World.ownsRow_nil _ _ _ _
 case round =>
  obtain ⟨q, k, R, cs, hq, rfl, rfl, hlk, hrow, hfr⟩ := hrel
  have hklm : k ≤ 1000000 := by rw [← hlk]; exact Hkl.out q
  have Hlk := Lib.hid hlk
  have Hrow := Lib.hid hrow
  have HFr := Lib.hid hfr
  have a0 := (Hb.out.fr hfr (fun h => h)).cell 0
  have a1 := (Hb.out.fr hfr (fun h => h)).cell 1
  simp only [List.getElem?_toArray, List.getElem?_cons_succ, List.getElem?_cons_zero] at a0 a1
  clear hlk hrow hfr
  by_cases hlt : q < n
  ·obtain ⟨ra, ⟨rn, rs, ⟨r1, r2, r3, r4, r5⟩⟩, rfl, hr, d0, d1, d2, d3, d4, d5, d6⟩ := (Hrd.out.fr0 HFr.out).rec_ hlt
   have Hsq := Lib.hid (Hsn.out q _ hr)
   simp only at Hsq d0 d1 d2 d3 d4 d5 d6
   have e1 : decide ((q : Int) < (n : Int)) = true := decide_eq_true (by omega)
   have e5 : 0 ≤ (q : Int) ∧ (q : Int) < (n : Int) := by omega
   have hqw : IntKind.i64.wrap ((q : Int) + 1) = (q : Int) + 1 := by simp [IntKind.wrap, IntKind.signed, IntKind.bits]; omega
   clear hr
   by_cases hle : below ≤ rs
   ·have e2 : decide (below ≤ rs) = true := decide_eq_true hle
    have hHsq : Hid (kp (l.take (q + 1)) = kp (l.take q) ++ [⟨rn, rs, ⟨r1, r2, r3, r4, r5⟩⟩]) := by show _ = _; rw [Hsq.out, e2, if_pos rfl]
    clear Hsq
    go_wp2_with (at_builtin; refine wpList_app2 rfl _ _ 51 rfl 100 i0 _ 7 64 Tryz.underlying51 hi hz0 hz1 hz2 rfl (by decide) (.slice R k cs) k _ rfl w.heap.size (by have := HFr.out.size; simp; omega) (own_fr0 Hrow.out (Fr.none_alloc _ _)) (some ⟨wr.heap.size, 0, none⟩) 1 1 [.string rn, .int .i64 rs, .int .i64 r1, .int .i64 r2, .int .u64 r3, .int .i64 r4, .int .i64 r5] rfl (Rd.newS (by simp) _ _ _ _ rfl) (by simp [Value.oneCell']) ?q1 ?q2 ?_)
    case q1 => unfold maxLen; omega
    case q2 => omega
    intro R6 c6 w6 ho6 hm6 _
    have Ho6 := Lib.hid ho6
    have F6 : Hid (Fr (fun _ => False) w w6) := (HFr.out.trans (Fr.none_alloc _ _) (fun _ h => h.elim)).trans hm6.fr (fun i hi => .inr (Hrow.out.lt i hi).1)
    clear ho6 hm6 d0 d1 d2 d3 d4 d5 d6 a0 a1
    go_wp2
    go_roundw
    case rel =>
     refine ⟨q + 1, k + 1, R6, c6, by omega, by go_num, rfl, by rw [hHsq.out, List.length_append, Hlk.out]; rfl, ?_, F6.out⟩
     have h := Ho6.out
     rw [hHsq.out]
     unfold rcells at h ⊢
     rw [List.flatMap_append]
     exact h
    case measure => simp [intOf]; omega
   ·have e2 : decide (below ≤ rs) = false := decide_eq_false hle
    have hHsq : Hid (kp (l.take (q + 1)) = kp (l.take q)) := by show _ = _; rw [Hsq.out, e2, if_neg (by simp)]
    clear Hsq
    go_wp2_with fail
    go_roundw
    case rel => exact ⟨q + 1, k, R, cs, by omega, by go_num, rfl, by rw [hHsq.out]; exact Hlk.out, by rw [hHsq.out]; exact Hrow.out, HFr.out⟩
    case measure => simp [intOf]; omega
  ·obtain rfl : q = n := by omega
   have e1 : decide ((q : Int) < (q : Int)) = false := decide_eq_false (by omega)
   rw [HkN.out] at Hlk Hrow
   have HEk := Lib.hid (HE.out R k cs wr HFr.out Hlk.out Hrow.out)
   have fz := (Hb.out.fr HFr.out (fun h => h)).frozen 1
   clear HE
   go_wp2_with fail
   go_ret
   exact ⟨⟨_, rfl⟩, HEk.out⟩
end Go.Proofs.YtbblmmneeafhgaaGreat
namespace Go.Proofs.YtbblmmneeafhgaaGreat
set_option linter.all false
open Go.RowKit

theorem RTiersOn.clock {W : World} {g lo : Nat} {F : Nat → Prop} {X : TiersX} {A B T : Option Addr} {c d ct : Nat} {P : List Nat} (h : RTiersOn W g lo F X A c B d T ct P) (N : Int) : RTiersOn (W.setCell ⟨g, 0, none⟩ (.int .i64 N)) g lo F { X with now := N } A c B d T ct P := by
 have f : Fr (fun j => j = g) W (W.setCell ⟨g, 0, none⟩ (.int .i64 N)) := (Fr.refl (fun j => j = g) W).setCell (p := ⟨g, 0, none⟩) (.inl rfl) _
 have hfl : Fr (fun j => lo ≤ j) W (W.setCell ⟨g, 0, none⟩ (.int .i64 N)) := f.mono (fun i hi => .inl (by rw [hi]; exact (h.ge g h.fg).1))
 refine ⟨by simpa using h.blk.set_ 0 (.int .i64 N), own_fr h.row f (fun j hj e => own_blk_ne h.row h.blk (by decide) (by rw [← e]; exact hj)), h.tlen, fun i p x l h1 h2 h3 => ?_, h.inj, h.fg, h.fp, h.ft, fun j hj => ⟨(h.ge j hj).1, Nat.lt_of_lt_of_le (h.ge j hj).2 f.size⟩, fun W2 f2 => h.rt W2 (hfl.trans f2 (fun _ h => .inl h)), fun W2 f2 => h.rf W2 (hfl.trans f2 (fun _ h => .inl h))⟩
 obtain ⟨⟨A1, c1, b1, h4, h5⟩, h6, h7, h8⟩ := h.tab i p x l h1 h2 h3
 exact ⟨⟨A1, c1, b1.fr f (b1.ne_ h.blk (by decide)), own_fr h4 f (fun j hj e => own_blk_ne h4 h.blk (by decide) (by rw [← e]; exact hj)), h5⟩, h6, h7, h8⟩
set_option maxRecDepth 100000 in
set_option maxHeartbeats 6000000 in
theorem rttick_any (g lo : Nat) (F : Nat → Prop) (X : TiersX) (A : Option Addr) (c : Nat) (B : Option Addr) (d : Nat) (T : Option Addr) (ct : Nat) (P : List Nat) (t : Int) (w : World) (h : RTiersOn w g lo F X A c B d T ct P) (hn : X.tiers.length ≤ 1000) (hnow : 0 ≤ X.now ∧ X.now ≤ 1099511627776) (hwf : ∀ x ∈ X.tiers, x.wf) (hl : ∀ y ∈ X.tabs, y.length ≤ 1000000) :
  Calls Tryz.prog 19 #[.pointer (some ⟨g, 0, none⟩), .int .i64 t] w fun r w' => r = .returned (.int .i64 (tickE X t)) ∧ RtAt w w' g lo F (tickX X t) A c B d T ct P := by
 obtain ⟨n, hn0⟩ : ∃ n, X.tiers.length = n := ⟨_, rfl⟩
 obtain ⟨mf, hmf⟩ : ∃ m, X.floors.length = m := ⟨_, rfl⟩
 obtain ⟨nm, hnm0⟩ : ∃ v, X.name = v := ⟨_, rfl⟩
 have Hn := Lib.hid hn0
 have Hmf := Lib.hid hmf
 have Hnm := Lib.hid hnm0
 rw [hn0] at hn
 have HWf := Lib.hid hwf
 have HSe : Hid (RtAt w w g lo F X A c B d T ct P) := ⟨F, h, Mv.refl _ _⟩
 have hb := h.blk
 have c0 := hb.cell 0
 simp only [List.getElem?_toArray, List.getElem?_cons_zero] at c0
 have fz := hb.frozen 0
 by_cases h0 : t < 0
 case pos =>
  have d0 : decide (t < 0) = true := decide_eq_true h0
  have e1 : tickE X t = 1 := by unfold tickE; rw [if_pos h0]
  have e2 : tickX X t = X := by unfold tickX; rw [e1]; rfl
  rw [e1, e2]
  clear h hb hl hwf e1 e2
  go_enter Tryz.func19, Tryz.ntmps19
  go_wp2_with fail
  go_ret
  exact ⟨rfl, HSe.out⟩
 case neg =>
 have d0 : decide (t < 0) = false := decide_eq_false h0
 have hw1 : IntKind.i64.wrap (1099511627776 - X.now) = 1099511627776 - X.now := by simp [IntKind.wrap, IntKind.signed, IntKind.bits]; omega
 by_cases h1 : 1099511627776 - X.now < t
 case pos =>
  have d1 : decide (1099511627776 - X.now < t) = true := decide_eq_true h1
  have e1 : tickE X t = 26 := by unfold tickE; rw [if_neg h0, if_pos h1]
  have e2 : tickX X t = X := by unfold tickX; rw [e1]; rfl
  rw [e1, e2]
  clear h hb hl hwf e1 e2
  go_enter Tryz.func19, Tryz.ntmps19
  go_wp2_with fail
  go_ret
  exact ⟨rfl, HSe.out⟩
 case neg =>
 have d1 : decide (1099511627776 - X.now < t) = false := decide_eq_false h1
 have e1 : tickE X t = 0 := by unfold tickE; rw [if_neg h0, if_neg h1]
 have e2 : tickX X t = { X with now := X.now + t, tabs := dropL (X.now + t) X } := by unfold tickX; rw [e1]; rfl
 rw [e1, e2]
 have hw2 : IntKind.i64.wrap (X.now + t) = X.now + t := by simp [IntKind.wrap, IntKind.signed, IntKind.bits]; omega
 have hN64 : i64 (X.now + t) := by unfold i64; omega
 have HK := Lib.hid h.clock
 have Htl : Hid (X.tabs.length = n) := by show _ = _; rw [h.tlen, hn0]
 have HL := Lib.hid hl
 have HgLen : Hid (∀ k, (X.tabs.getD k []).length ≤ 1000000) := fun k => getD_len HL.out k
 have e0 : uptoL n (fun k => keepT (startBelow (fromV (X.now + t) X.tiers X.floors k)) (X.tabs.getD k [])) (fun k => X.tabs.getD k []) 0 = X.tabs := by rw [uptoL_zero]; exact getD_all Htl.out
 have eN : uptoL n (fun k => keepT (startBelow (fromV (X.now + t) X.tiers X.floors k)) (X.tabs.getD k [])) (fun k => X.tabs.getD k []) n = dropL (X.now + t) X := by rw [uptoL_all]; unfold dropL; rw [hn0]
 rw [← eN]
 have HfIn : Hid (∀ k, keepT (startBelow (fromV (X.now + t) X.tiers X.floors k)) (X.tabs.getD k []) = keepT (startBelow (fromV (X.now + t) X.tiers X.floors k)) (X.tabs.getD k [])) := fun k => rfl
 have H0 := Lib.hid (HK.out (X.now + t))
 have hfe : Fr F w (w.setCell ⟨g, 0, none⟩ (.int .i64 (X.now + t))) := (Fr.refl F w).setCell (p := ⟨g, 0, none⟩) (.inl h.fg) _
 have H1 : Hid (RtAt w (w.setCell ⟨g, 0, none⟩ (.int .i64 (X.now + t))) g lo F { X with now := X.now + t, tabs := uptoL n (fun k => keepT (startBelow (fromV (X.now + t) X.tiers X.floors k)) (X.tabs.getD k [])) (fun k => X.tabs.getD k []) 0 } A c B d T ct P) := by
  show RtAt _ _ _ _ _ _ _ _ _ _ _ _ _
  rw [e0]
  exact ⟨F, H0.out, ⟨hfe, fun _ h => .inl h⟩⟩
 obtain ⟨N, hN⟩ : ∃ N, X.now + t = N := ⟨_, rfl⟩
 have hw3 : IntKind.i64.wrap (X.now + t) = N := hw2.trans hN
 rw [hN] at hN64 H1 HfIn ⊢
 clear hw2
 obtain ⟨f, hf⟩ : ∃ f : Nat → List RecV, (fun k => keepT (startBelow (fromV N X.tiers X.floors k)) (X.tabs.getD k [])) = f := ⟨_, rfl⟩
 obtain ⟨gg, hgg⟩ : ∃ f : Nat → List RecV, (fun k => X.tabs.getD k []) = f := ⟨_, rfl⟩
 have Hf : Hid (∀ k, f k = keepT (startBelow (fromV N X.tiers X.floors k)) (gg k)) := fun k => by rw [← hf, ← hgg]
 have Hgl : Hid (∀ k, (gg k).length ≤ 1000000) := fun k => by rw [← hgg]; exact HgLen.out k
 rw [hf, hgg] at H1 ⊢
 obtain ⟨W5, hW5⟩ : ∃ W5, W5 = w.setCell ⟨g, 0, none⟩ (.int .i64 N) := ⟨_, rfl⟩
 rw [← hW5] at H1
 have HW5 := Lib.hid hW5
 clear hf hgg e0 eN e1 e2 h hb hl hwf hn0 hmf hnm0 HgLen HL HK H0 hfe HfIn hW5 HSe hN
 go_enter Tryz.func19, Tryz.ntmps19
 go_wp2_with fail
 rw [← HW5.out]
 go_loopw [5] (fun s5 wr => ∃ k : Nat, k ≤ n ∧ s5 = .int .i64 k ∧ RtAt w wr g lo F { X with now := N, tabs := uptoL n f gg k } A c B d T ct P) (fun s5 _ => n - (intOf s5).toNat)
 case atStart => exact ⟨0, Nat.zero_le _, rfl, H1.out⟩
 case round =>
  obtain ⟨k, hk, rfl, ⟨F', ht, hmv⟩⟩ := hrel
  have HT := Lib.hid ht
  have HM := Lib.hid hmv
  clear ht hmv H1 c0 fz
  have hb := HT.out.blk
  have hgt : Hid (∀ {W : World}, Fr (fun _ => False) wr W → Blk W g 113 #[.int .i64 N, .string nm, .slice A n c, .slice B mf d, .slice T n ct]) := fun f => by
   have := hb.fr f (fun h => h)
   simp only at this
   rw [Hn.out, Hmf.out, Hnm.out] at this
   exact this
  have c4 := (hgt.out (Fr.refl _ wr)).cell 4
  simp only [List.getElem?_toArray, List.getElem?_cons_succ, List.getElem?_cons_zero] at c4
  by_cases hlt : k < n
  ·obtain ⟨p, x, l0, hp, hx, hl0⟩ := HT.out.at_ (k := k) (by show _ < X.tiers.length; rw [Hn.out]; exact hlt)
   have hl1 : l0 = gg k := by
    have h2 : (uptoL n f gg k)[k]? = some l0 := hl0
    rw [uptoL_get hlt] at h2
    exact (Option.some.inj h2).symm
   subst hl1
   have hrow := (own_any HT.out.row).2.2.1
   simp only at hrow
   rw [Hn.out] at hrow
   obtain ⟨ad, p', rfl, hp', cp⟩ := hrow.at_map hlt
   obtain rfl : p = p' := Option.some.inj (hp.symm.trans hp')
   obtain ⟨⟨A9, c9, b9, _, _⟩, _, _, _⟩ := HT.out.tab k p x (gg k) hp hx hl0
   have hpg : p ≠ g := b9.ne_ hb (by decide)
   have hpa : p ≠ (ad.add k).block := fun e => by
    rw [block_of_add] at e
    exact own_blk_ne HT.out.row b9 (by decide) (by rw [e]; rfl)
   have HC : Hid (∀ W, Fr (fun j => j = p) wr W → W.cell? ⟨g, 0, none⟩ = some (.int .i64 N) ∧ W.cell? ⟨g, 1, none⟩ = some (.string nm) ∧ W.cell? ⟨g, 2, none⟩ = some (.slice A n c) ∧ W.cell? ⟨g, 3, none⟩ = some (.slice B mf d) ∧ W.cell? ⟨g, 4, none⟩ = some (.slice (some ad) n ct) ∧ W.cell? (ad.add k) = some (.pointer (some ⟨p, 0, none⟩))) := fun W f => by
    have b := (hgt.out (Fr.refl _ wr)).fr f hpg.symm
    exact ⟨b.cell 0, b.cell 1, b.cell 2, b.cell 3, b.cell 4, f.cell cp hpa.symm⟩
   have HFr : Hid (∀ W, Fr (fun _ => False) wr W → Calls Tryz.prog 64 #[.agg #[.int .i64 N, .string nm, .slice A n c, .slice B mf d], .int .i64 k] W fun r w' => r = .returned (.int .i64 (fromV N X.tiers X.floors k)) ∧ Below W.heap.size W w') := fun W f => by
    obtain ⟨r1, r2⟩ := (HT.out.fr0 f).rd
    simp only at r1 r2
    rw [Hn.out] at r1
    rw [Hmf.out] at r2
    exact ref_from_any N hN64 nm X.tiers A n c X.floors B mf d k W r1 r2 HWf.out hlt (by omega)
   have Hnx : Hid ((uptoL n f gg k).set k (f k) = uptoL n f gg (k + 1)) := uptoL_set hlt
   have HDr : Hid (∀ W, Fr (fun _ => False) wr W → Calls Tryz.prog 63 #[.pointer (some ⟨p, 0, none⟩), .int .i64 (fromV N X.tiers X.floors k)] W fun r w' => (∃ v, r = .returned (.int .i64 v)) ∧ RtAt w w' g lo F { X with now := N, tabs := uptoL n f gg (k + 1) } A c B d (some ad) ct P ∧ Fr (fun j => j = p) W w') := fun W fw => by
    have hT := HT.out.fr0 fw
    refine (rtdrop_any p lo F' x.every (gg k) (fromV N X.tiers X.floors k) W (hT.tab k p x (gg k) hp hx hl0) hT.lo_le (Hgl.out k)).mono ?_
    rintro r w' ⟨hv, t2, f2⟩
    rw [← Hf.out k] at t2
    have h2 := hT.put hp hx hl0 t2 f2
    simp only at h2
    rw [Hnx.out] at h2
    refine ⟨hv, ⟨_, h2, HM.out.trans ⟨fw.mono (fun _ h => h.elim) |>.trans f2 (fun i hi => .inl (by rw [hi]; exact HT.out.fp p (List.mem_of_getElem? hp))), fun j hj => ?_⟩⟩, f2⟩
    rcases hj with hj | hj
    ·exact .inl hj
    ·exact .inr (Nat.le_trans fw.size hj.1)
   obtain ⟨fv, hfv⟩ : ∃ v, fromV N X.tiers X.floors k = v := ⟨_, rfl⟩
   rw [hfv] at HFr HDr
   have e1 : decide ((k : Int) < (n : Int)) = true := decide_eq_true (by omega)
   have d5 : 0 ≤ (k : Int) ∧ (k : Int) < (n : Int) := by omega
   have hqw : IntKind.i64.wrap ((k : Int) + 1) = (k : Int) + 1 := by simp [IntKind.wrap, IntKind.signed, IntKind.bits]; omega
   clear hfv hp hx hl0 hp' cp hb hrow b9 hpg hpa
   go_wp2_with fail
   refine wp_region_held_drew (S := fun W => Fr (fun j => j = p) wr W) (by kernel_rfl) ((Fr.refl _ wr).drew) (fun hHeld => ?_)
   refine tl 0 ?v1 rfl ?q1 ?r1
   case q1 => intro W hSw; go_simp; try rfl
   refine tl 1 ?v2 rfl ?q2 ?r2
   case q2 => intro W hSw; go_simp; try rfl
   refine tl 2 ?v3 rfl ?q3 ?r3
   case q3 => intro W hSw; go_simp; try rfl
   refine tl 3 ?v4 rfl ?q4 ?r4
   case q4 => intro W hSw; (try obtain ⟨q0, q1, q2, q3, q4, z0⟩ := HC.out W hSw); go_simp; try rfl
   refine tl 4 ?v5 rfl ?q5 ?r5
   case q5 => intro W hSw; go_simp; try rfl
   refine tl 5 ?v6 rfl ?q6 ?r6
   case q6 => intro W hSw; (try obtain ⟨q0, q1, q2, q3, q4, z0⟩ := HC.out W hSw); go_simp; try rfl
   refine tl 6 ?v7 rfl ?q7 ?r7
   case q7 => intro W hSw; (try obtain ⟨q0, q1, q2, q3, q4, z0⟩ := HC.out W hSw); go_simp; try rfl
   refine tl 7 ?v8 rfl ?q8 ?r8
   case q8 => intro W hSw; go_simp; try rfl
   refine tl 8 ?v9 rfl ?q9 ?r9
   case q9 => intro W hSw; go_simp; try rfl
   refine tl 9 ?v10 rfl ?q10 ?r10
   case q10 => intro W hSw; go_simp; try rfl
   refine tl 10 ?v11 rfl ?q11 ?r11
   case q11 => intro W hSw; (try obtain ⟨q0, q1, q2, q3, q4, z0⟩ := HC.out W hSw); go_simp; try rfl
   refine tl 11 ?v12 rfl ?q12 ?r12
   case q12 => intro W hSw; go_simp; try rfl
   try simp only [Act.put, sA, sB, sC]
   refine rl 12 rfl (fun K hK => ?_)
   go_simp
   go_wp2_with (first | (go_at_call 64; refine (HFr.out _ ((Fr.refl _ wr).drew)).mono ?_; rintro r wa ⟨rfl, ba⟩))
   have fa : Fr (fun _ => False) wr wa := (Fr.refl _ wr).drew.trans (Fr.b0 ba) (fun _ h => h.elim)
   refine hK.out _ _ (hHeld.trans (Fr.b0 ba) (fun _ h => h.elim)) (fun hHeld => ?_)
   clear hK K
   try simp only [Act.put, sA, sB, sC]
   refine rl 13 rfl (fun K hK => ?_)
   go_simp
   go_wp2_with (first | (go_at_call 63; refine (HDr.out _ fa).mono ?_; rintro r wc ⟨⟨dv, rfl⟩, tc2, fc⟩))
   have tc2 := Lib.hid tc2
   refine hK.out _ _ (hHeld.trans fc (fun _ h => .inl h)) (fun hHeld => ?_)
   clear hK K
   try simp only [Act.put, sA, sB, sC]
   refine wpAnyH_done (by kernel_rfl) ?_ _
   clear hHeld fc ba fa
   go_wp2_with fail
   go_roundw
   case rel => exact ⟨k + 1, by omega, by go_num, tc2.out⟩
   case measure => simp [intOf]; omega
  ·obtain rfl : k = n := by omega
   have e1 : decide ((k : Int) < (k : Int)) = false := decide_eq_false (by omega)
   have HE : Hid (RtAt w wr g lo F { X with now := N, tabs := uptoL k f gg k } A c B d T ct P) := ⟨F', HT.out, HM.out⟩
   clear hb
   go_wp2_with fail
   go_ret
   exact ⟨rfl, HE.out⟩
end Go.Proofs.YtbblmmneeafhgaaGreat
namespace Go.Proofs.YtbblmmneeafhgaaGreat
set_option linter.all false
open Go.RowKit

theorem addsV_len_le (e : Int) : ∀ (rs m : List RecV), (addsV e m rs).length ≤ m.length + rs.length
 | [], m => Nat.le_refl _
 | r :: rs, m => by
  have h1 := addsV_len_le e rs (addV e m r)
  have h2 := addV_len_le e m r
  have h3 : addsV e m (r :: rs) = addsV e (addV e m r) rs := rfl
  rw [h3, List.length_cons]
  omega
set_option maxRecDepth 100000 in
set_option maxHeartbeats 6000000 in
theorem rtload_out (g lo : Nat) (F : Nat → Prop) (X : TiersX) (A : Option Addr) (c : Nat) (B : Option Addr) (d : Nat) (T : Option Addr) (ct : Nat) (P : List Nat) (i : Int) (D : Option Addr) (m e : Nat) (w : World) (h : RTiersOn w g lo F X A c B d T ct P) (hi : ¬ (0 ≤ i ∧ i < (X.tiers.length : Int))) (hm : m ≤ 1000000) :
  Calls Tryz.prog 21 #[.pointer (some ⟨g, 0, none⟩), .int .i64 i, .slice D m e] w fun r w' => r = .returned (.int .i64 0) ∧ w = w' := by
 obtain ⟨n, hn0⟩ : ∃ n, X.tiers.length = n := ⟨_, rfl⟩
 have Hn := Lib.hid hn0
 rw [hn0] at hi
 have c4 := h.blk.cell 4
 simp only [List.getElem?_toArray, List.getElem?_cons_succ, List.getElem?_cons_zero] at c4
 rw [hn0] at c4
 clear h hn0
 go_enter Tryz.func21, Tryz.ntmps21
 go_wp2_with fail
 go_loopw [7, 8] (fun s7 s8 wr => s7 = .int .i64 0 ∧ s8 = .int .i64 0 ∧ wr = w) (fun _ _ _ => 0)
 case atStart => exact ⟨rfl, rfl, rfl⟩
 case round =>
  obtain ⟨rfl, rfl, rfl⟩ := hrel
  by_cases hm0 : 0 < m
  ·have d1 : decide (0 < (m : Int)) = true := decide_eq_true (by omega)
   have d2 : decide (0 < m) = true := decide_eq_true hm0
   by_cases h1 : 0 ≤ i
   ·have d3 : decide (0 ≤ i) = true := decide_eq_true h1
    have d4 : decide (i < (n : Int)) = false := decide_eq_false (fun h => hi ⟨h1, h⟩)
    go_wp2_with fail
    go_ret
    exact ⟨rfl, rfl⟩
   ·have d3 : decide (0 ≤ i) = false := decide_eq_false h1
    go_wp2_with fail
    go_ret
    exact ⟨rfl, rfl⟩
  ·have d1 : decide (0 < (m : Int)) = false := decide_eq_false (by omega)
   have d2 : decide (0 < m) = false := decide_eq_false hm0
   go_wp2_with fail
   go_ret
   exact ⟨rfl, rfl⟩

set_option maxRecDepth 100000 in
set_option maxHeartbeats 6000000 in
theorem rtload_in (g lo : Nat) (F : Nat → Prop) (X : TiersX) (A : Option Addr) (c : Nat) (B : Option Addr) (d : Nat) (T : Option Addr) (ct : Nat) (P : List Nat) (k : Nat) (rs : List RecV) (D : Option Addr) (m e : Nat) (w : World) (h : RTiersOn w g lo F X A c B d T ct P) (hk : k < X.tiers.length) (hn : X.tiers.length ≤ 1000) (hnow : i64 X.now) (hwf : ∀ x ∈ X.tiers, x.wf) (hl : ∀ y ∈ X.tabs, y.length ≤ 900000) (hr : Rd w 7 D m (rcells rs)) (hrw : ∀ r ∈ rs, r.wf) (hm : m ≤ 100000) (hD : ∀ j, adF D m j → ¬ F j) :
  Calls Tryz.prog 21 #[.pointer (some ⟨g, 0, none⟩), .int .i64 k, .slice D m e] w fun r w' => r = .returned (.int .i64 (loadN X k rs : Nat)) ∧ RtAt w w' g lo F (loadX X k rs) A c B d T ct P := by
 obtain ⟨n, hn0⟩ : ∃ n, X.tiers.length = n := ⟨_, rfl⟩
 obtain ⟨mf, hmf⟩ : ∃ m, X.floors.length = m := ⟨_, rfl⟩
 obtain ⟨now, hnw0⟩ : ∃ v, X.now = v := ⟨_, rfl⟩
 obtain ⟨nm, hnm0⟩ : ∃ v, X.name = v := ⟨_, rfl⟩
 have Hn := Lib.hid hn0
 have Hmf := Lib.hid hmf
 have Hnw := Lib.hid hnw0
 have Hnm := Lib.hid hnm0
 obtain ⟨p, x, m0, hp, hx, hm0⟩ := h.at_ hk
 rw [hn0] at hn hk
 have HWf := Lib.hid hwf
 have HD := Lib.hid hD
 have Hr := Lib.hid hr
 have Hrw := Lib.hid hrw
 have Hrl := Lib.hid hr.recs_len
 have hml := hl m0 (List.mem_of_getElem? hm0)
 have Hm0 := Lib.hid hm0
 have HFp : Hid (F p) := h.fp p (List.mem_of_getElem? hp)
 have hE : loadX X k rs = { X with tabs := X.tabs.set k (addsV x.every m0 (rs.filter (ldB X k))) } := by unfold loadX; rw [hx, hm0]
 have hN : loadN X k rs = ((rs.filter (ldB X k)).filter (rightR x.every)).length := by unfold loadN; rw [hx]
 rw [hE, hN]
 have Hld : Hid (∀ r : RecV, ldB X k r = decide (fromV X.now X.tiers X.floors k ≤ r.start)) := fun r => rfl
 obtain ⟨ld, hld⟩ : ∃ f, ldB X k = f := ⟨_, rfl⟩
 rw [hld] at Hld ⊢
 obtain ⟨ev, hev⟩ : ∃ v, x.every = v := ⟨_, rfl⟩
 rw [hev]
 obtain ⟨fv, hfv⟩ : ∃ v, fromV X.now X.tiers X.floors k = v := ⟨_, rfl⟩
 rw [hfv] at Hld
 have HKlt : Hid (k < X.tabs.length) := (List.getElem?_eq_some_iff.1 hm0).1
 have H0 : Hid (RtAt w w g lo F { X with tabs := X.tabs.set k (addsV ev m0 ((rs.take 0).filter ld)) } A c B d T ct P) := by
  have e : X.tabs.set k (addsV ev m0 ((rs.take 0).filter ld)) = X.tabs := set_same hm0
  show RtAt _ _ _ _ _ _ _ _ _ _ _ _ _
  rw [e]
  exact ⟨F, h, Mv.refl _ _⟩
 have Hsn : Hid (∀ (q : Nat) (r : RecV), rs[q]? = some r → (ld r = true → addsV ev m0 ((rs.take (q + 1)).filter ld) = addV ev (addsV ev m0 ((rs.take q).filter ld)) r ∧ (((rs.take (q + 1)).filter ld).filter (rightR ev)).length = (((rs.take q).filter ld).filter (rightR ev)).length + (if rightR ev r = true then 1 else 0)) ∧ (ld r = false → (rs.take (q + 1)).filter ld = (rs.take q).filter ld)) := by
  intro q r hq
  rw [take_snoc hq]
  refine ⟨fun e => ⟨?_, ?_⟩, fun e => ?_⟩
  ·rw [List.filter_append, List.filter_cons_of_pos e, List.filter_nil]
   unfold addsV
   rw [List.foldl_append]
   rfl
  ·rw [List.filter_append, List.filter_cons_of_pos e, List.filter_nil, List.filter_append, List.length_append]
   by_cases h : rightR ev r = true
   ·rw [List.filter_cons_of_pos h, if_pos h]; rfl
   ·rw [List.filter_cons_of_neg h, if_neg h]; rfl
  ·rw [List.filter_append, List.filter_cons_of_neg (by rw [e]; simp), List.filter_nil, List.append_nil]
 have Hcl : Hid (∀ q, (addsV ev m0 ((rs.take q).filter ld)).length ≤ 900000 + q ∧ (((rs.take q).filter ld).filter (rightR ev)).length ≤ q) := fun q => by
  have h1 : ((rs.take q).filter ld).length ≤ q := Nat.le_trans (List.length_filter_le _ _) (by rw [List.length_take]; omega)
  refine ⟨?_, Nat.le_trans (List.length_filter_le _ _) h1⟩
  have h2 := addsV_len_le ev ((rs.take q).filter ld) m0
  omega
 obtain ⟨L, hL⟩ : ∃ f : Nat → List RecV, (fun q => addsV ev m0 ((rs.take q).filter ld)) = f := ⟨_, rfl⟩
 obtain ⟨cn, hcn⟩ : ∃ f : Nat → Nat, (fun q => (((rs.take q).filter ld).filter (rightR ev)).length) = f := ⟨_, rfl⟩
 have hL' : ∀ q, addsV ev m0 ((rs.take q).filter ld) = L q := fun q => by rw [← hL]
 have hcn' : ∀ q, (((rs.take q).filter ld).filter (rightR ev)).length = cn q := fun q => by rw [← hcn]
 have hN0 : cn 0 = 0 := by rw [← hcn' 0]; rfl
 have HNo : Hid (∀ (q : Nat) (r : RecV), rs[q]? = some r → ld r = false → L (q + 1) = L q ∧ cn (q + 1) = cn q) := fun q r hq e => by
  have := (Hsn.out q r hq).2 e
  rw [← hL', ← hL', ← hcn', ← hcn', this]
  exact ⟨rfl, rfl⟩
 have hLm : addsV ev m0 (rs.filter ld) = L m := by rw [← hL', take_all (by rw [Hrl.out]; exact Nat.le_refl _)]
 have hcm : ((rs.filter ld).filter (rightR ev)).length = cn m := by rw [← hcn', take_all (by rw [Hrl.out]; exact Nat.le_refl _)]
 rw [hLm, hcm]
 rw [hL'] at H0
 simp only [hL', hcn'] at Hsn Hcl
 have H := Lib.hid h
 have Hp := Lib.hid hp
 have Hx := Lib.hid hx
 clear hL hcn hL' hcn' hLm hcm hE hN hld h hwf hD hr hrw hl hm0 hp hx hn0 hmf hnw0 hnm0
 go_enter Tryz.func21, Tryz.ntmps21
 go_wp2_with fail
 go_loopw [7, 8] (fun s7 s8 wr => ∃ q : Nat, q ≤ m ∧ s8 = .int .i64 q ∧ s7 = .int .i64 (cn q : Nat) ∧ RtAt w wr g lo F { X with tabs := X.tabs.set k (L q) } A c B d T ct P) (fun _ s8 _ => m - (intOf s8).toNat)
 case atStart => exact ⟨0, Nat.zero_le _, rfl, by rw [hN0]; rfl, H0.out⟩
 case round =>
  obtain ⟨q, hq, rfl, rfl, ⟨F', ht, hmv⟩⟩ := hrel
  have HT := Lib.hid ht
  have HM := Lib.hid hmv
  clear ht hmv H0 hN0
  have hb := HT.out.blk
  have hgt : Hid (∀ {W : World}, Fr (fun _ => False) wr W → Blk W g 113 #[.int .i64 now, .string nm, .slice A n c, .slice B mf d, .slice T n ct]) := fun f => by
   have := hb.fr f (fun h => h)
   simp only at this
   rw [Hn.out, Hmf.out, Hnw.out, Hnm.out] at this
   exact this
  have c4 := (hgt.out (Fr.refl _ wr)).cell 4
  simp only [List.getElem?_toArray, List.getElem?_cons_succ, List.getElem?_cons_zero] at c4
  have k1 : decide (0 ≤ (k : Int)) = true := decide_eq_true (by omega)
  have k2 : decide ((k : Int) < (n : Int)) = true := decide_eq_true (by omega)
  have k3 : decide (k < n) = true := decide_eq_true hk
  by_cases hlt : q < m
  ·have hl0 : (X.tabs.set k (L q))[k]? = some (L q) := by rw [List.getElem?_set_self HKlt.out]
   have hrow := (own_any HT.out.row).2.2.1
   simp only at hrow
   rw [Hn.out] at hrow
   obtain ⟨ad, p', rfl, hp', cp⟩ := hrow.at_map hk
   obtain rfl : p = p' := Option.some.inj (Hp.out.symm.trans hp')
   obtain ⟨⟨A9, c9, b9, _, _⟩, _, _, _⟩ := HT.out.tab k p x (L q) Hp.out Hx.out hl0
   have hpg : p ≠ g := b9.ne_ hb (by decide)
   have hpa : p ≠ (ad.add k).block := fun e => by
    rw [block_of_add] at e
    exact own_blk_ne HT.out.row b9 (by decide) (by rw [e]; rfl)
   obtain ⟨ra, r, rfl, hr, y0, y1, y2, y3, y4, y5, y6⟩ := (Hr.out.fr HM.out.fr (fun j hj => HD.out j hj)).rec_ hlt
   have hrwf := Hrw.out r (mem_of_get hr)
   have hpr : (ra.add (q * 7)).block ≠ p := fun e => by
    rw [block_of_add] at e
    exact HD.out ra.block ⟨by omega, ra, rfl, rfl⟩ (by rw [e]; exact HFp.out)
   have HSy := Lib.hid ((Hsn.out q r hr).1)
   have HSn := Lib.hid (HNo.out q r hr)
   have Hldr := Lib.hid (Hld.out r)
   have hcq := Hcl.out q
   obtain ⟨rn, rs0, ⟨r1, r2, r3, r4, r5⟩⟩ := r
   dsimp only at y0 y1 y2 y3 y4 y5 y6 Hldr
   have HC : Hid (∀ W, Fr (fun j => j = p) wr W → W.cell? ⟨g, 0, none⟩ = some (.int .i64 now) ∧ W.cell? ⟨g, 1, none⟩ = some (.string nm) ∧ W.cell? ⟨g, 2, none⟩ = some (.slice A n c) ∧ W.cell? ⟨g, 3, none⟩ = some (.slice B mf d) ∧ W.cell? ⟨g, 4, none⟩ = some (.slice (some ad) n ct) ∧ W.cell? (ad.add k) = some (.pointer (some ⟨p, 0, none⟩)) ∧ W.cell? (ra.add (q * 7)) = some (.string rn) ∧ W.cell? ⟨(ra.add (q * 7)).block, (ra.add (q * 7)).off + 1, none⟩ = some (.int .i64 rs0) ∧ W.cell? ⟨(ra.add (q * 7)).block, (ra.add (q * 7)).off + 2, none⟩ = some (.int .i64 r1) ∧ W.cell? ⟨(ra.add (q * 7)).block, (ra.add (q * 7)).off + 3, none⟩ = some (.int .i64 r2) ∧ W.cell? ⟨(ra.add (q * 7)).block, (ra.add (q * 7)).off + 4, none⟩ = some (.int .u64 r3) ∧ W.cell? ⟨(ra.add (q * 7)).block, (ra.add (q * 7)).off + 5, none⟩ = some (.int .i64 r4) ∧ W.cell? ⟨(ra.add (q * 7)).block, (ra.add (q * 7)).off + 6, none⟩ = some (.int .i64 r5)) := fun W f => by
    have b := (hgt.out (Fr.refl _ wr)).fr f hpg.symm
    exact ⟨b.cell 0, b.cell 1, b.cell 2, b.cell 3, b.cell 4, f.cell cp hpa.symm, f.cell y0 hpr, f.cell y1 hpr, f.cell y2 hpr, f.cell y3 hpr, f.cell y4 hpr, f.cell y5 hpr, f.cell y6 hpr⟩
   have HFr : Hid (∀ W, Fr (fun _ => False) wr W → Calls Tryz.prog 64 #[.agg #[.int .i64 now, .string nm, .slice A n c, .slice B mf d], .int .i64 k] W fun r w' => r = .returned (.int .i64 fv) ∧ Below W.heap.size W w') := fun W f => by
    obtain ⟨r1, r2⟩ := (HT.out.fr0 f).rd
    simp only at r1 r2
    rw [Hn.out] at r1
    rw [Hmf.out] at r2
    rw [← hfv, Hnw.out]
    exact ref_from_any now (by rw [← Hnw.out]; exact hnow) nm X.tiers A n c X.floors B mf d k W r1 r2 HWf.out hk (by omega)
   have HAd : Hid (∀ W, Fr (fun _ => False) wr W → Calls Tryz.prog 66 #[.pointer (some ⟨p, 0, none⟩), .agg #[.string rn, .int .i64 rs0, .int .i64 r1, .int .i64 r2, .int .u64 r3, .int .i64 r4, .int .i64 r5]] W fun r' w' => r' = .returned (.bool (rightR ev ⟨rn, rs0, ⟨r1, r2, r3, r4, r5⟩⟩)) ∧ RtAt w w' g lo F { X with tabs := X.tabs.set k (addV ev (L q) ⟨rn, rs0, ⟨r1, r2, r3, r4, r5⟩⟩) } A c B d (some ad) ct P ∧ Fr (fun j => j = p) W w') := fun W fw => by
    have hT := HT.out.fr0 fw
    refine (radd_anyF p lo F' x.every (L q) ⟨rn, rs0, ⟨r1, r2, r3, r4, r5⟩⟩ hrwf W (hT.tab k p x (L q) Hp.out Hx.out hl0) hT.lo_le (by omega)).mono ?_
    rintro r' w' ⟨rfl, t2, f2⟩
    have h2 := hT.put Hp.out Hx.out hl0 t2 f2
    simp only at h2
    rw [List.set_set] at h2
    rw [← hev]
    refine ⟨rfl, ⟨_, h2, HM.out.trans ⟨fw.mono (fun _ h => h.elim) |>.trans f2 (fun i hi => .inl (by rw [hi]; exact HT.out.fp p (List.mem_of_getElem? Hp.out))), fun j hj => ?_⟩⟩, f2⟩
    rcases hj with hj | hj
    ·exact .inl hj
    ·exact .inr (Nat.le_trans fw.size hj.1)
   obtain ⟨rb, hrb⟩ : ∃ b, rightR ev ⟨rn, rs0, ⟨r1, r2, r3, r4, r5⟩⟩ = b := ⟨_, rfl⟩
   rw [hrb] at HAd HSy
   have HSm : Hid (∀ W, Fr (fun _ => False) wr W → RtAt w W g lo F { X with tabs := X.tabs.set k (L q) } A c B d (some ad) ct P) := fun W fw => ⟨F', HT.out.fr0 fw, HM.out.skip fw⟩
   have e1 : decide ((q : Int) < (m : Int)) = true := decide_eq_true (by omega)
   have d5 : 0 ≤ (k : Int) ∧ (k : Int) < (n : Int) := by omega
   have d6 : 0 ≤ (q : Int) ∧ (q : Int) < (m : Int) := by omega
   have hqw : IntKind.i64.wrap ((q : Int) + 1) = (q : Int) + 1 := by simp [IntKind.wrap, IntKind.signed, IntKind.bits]; omega
   obtain ⟨cq, hcq2⟩ : ∃ v, cn q = v := ⟨_, rfl⟩
   rw [hcq2] at HSy HSn hcq ⊢
   have hcw : IntKind.i64.wrap ((cq : Int) + 1) = (cq : Int) + 1 := by simp [IntKind.wrap, IntKind.signed, IntKind.bits]; omega
   clear hrb hp' cp hb hrow b9 hpg hpa hpr y0 y1 y2 y3 y4 y5 y6 hr hl0 hcq2
   by_cases hle : fv ≤ rs0
   ·have e2 : decide (fv ≤ rs0) = true := decide_eq_true hle
    obtain ⟨hs1, hs2⟩ := HSy.out (by rw [Hldr.out]; exact e2)
    have Hs1 := Lib.hid hs1
    have Hs2 := Lib.hid hs2
    clear HSy HSn hs1 hs2
    go_wp2_with fail
    refine wp_region_held_drew (S := fun W => Fr (fun j => j = p) wr W) (by kernel_rfl) ((Fr.refl _ wr).drew) (fun hHeld => ?_)
    refine tl 0 ?v1 rfl ?q1 ?r1
    case q1 => intro W hSw; go_simp; try rfl
    refine tl 1 ?v2 rfl ?q2 ?r2
    case q2 => intro W hSw; go_simp; try rfl
    refine tl 2 ?v3 rfl ?q3 ?r3
    case q3 => intro W hSw; (try obtain ⟨q0, q1, q2, q3, q4, z0, y0, y1, y2, y3, y4, y5, y6⟩ := HC.out W hSw); go_simp; try rfl
    refine tl 3 ?v4 rfl ?q4 ?r4
    case q4 => intro W hSw; go_simp; try rfl
    refine tl 4 ?v5 rfl ?q5 ?r5
    case q5 => intro W hSw; (try obtain ⟨q0, q1, q2, q3, q4, z0, y0, y1, y2, y3, y4, y5, y6⟩ := HC.out W hSw); go_simp; try rfl
    refine tl 5 ?v6 rfl ?q6 ?r6
    case q6 => intro W hSw; go_simp; try rfl
    refine tl 6 ?v7 rfl ?q7 ?r7
    case q7 => intro W hSw; go_simp; try rfl
    refine tl 7 ?v8 rfl ?q8 ?r8
    case q8 => intro W hSw; go_simp; try rfl
    refine tl 8 ?v9 rfl ?q9 ?r9
    case q9 => intro W hSw; (try obtain ⟨q0, q1, q2, q3, q4, z0, y0, y1, y2, y3, y4, y5, y6⟩ := HC.out W hSw); go_simp; try rfl
    refine tl 9 ?v10 rfl ?q10 ?r10
    case q10 => intro W hSw; go_simp; try rfl
    try simp only [Act.put, sA, sB, sC]
    refine rl 10 rfl (fun K hK => ?_)
    go_simp
    go_wp2_with (first | (go_at_call 64; refine (HFr.out _ ((Fr.refl _ wr).drew)).mono ?_; rintro r wa ⟨rfl, ba⟩))
    have fa : Fr (fun _ => False) wr wa := (Fr.refl _ wr).drew.trans (Fr.b0 ba) (fun _ h => h.elim)
    refine hK.out _ _ (hHeld.trans (Fr.b0 ba) (fun _ h => h.elim)) (fun hHeld => ?_)
    clear hK K
    refine tl 11 ?v11 rfl ?q11 ?r11
    case q11 => intro W hSw; (try obtain ⟨q0, q1, q2, q3, q4, z0, y0, y1, y2, y3, y4, y5, y6⟩ := HC.out W hSw); go_simp; try rfl
    refine tl 12 ?v12 rfl ?q12 ?r12
    case q12 => intro W hSw; go_simp; try rfl
    try simp only [Act.put, sA, sB, sC]
    refine tl 13 ?v13 rfl ?q13 ?r13
    case q13 => intro W hSw; go_simp; try rfl
    try simp only [Act.put, sA, sB, sC]
    refine tl 14 ?v14 rfl ?q14 ?r14
    case q14 => intro W hSw; go_simp; try rfl
    try simp only [Act.put, sA, sB, sC]
    refine tl 15 ?v15 rfl ?q15 ?r15
    case q15 => intro W hSw; go_simp; try rfl
    try simp only [Act.put, sA, sB, sC]
    refine tl 16 ?v16 rfl ?q16 ?r16
    case q16 => intro W hSw; (try obtain ⟨q0, q1, q2, q3, q4, z0, y0, y1, y2, y3, y4, y5, y6⟩ := HC.out W hSw); go_simp; try rfl
    try simp only [Act.put, sA, sB, sC]
    refine tl 17 ?v17 rfl ?q17 ?r17
    case q17 => intro W hSw; go_simp; try rfl
    try simp only [Act.put, sA, sB, sC]
    refine tl 18 ?v18 rfl ?q18 ?r18
    case q18 => intro W hSw; (try obtain ⟨q0, q1, q2, q3, q4, z0, y0, y1, y2, y3, y4, y5, y6⟩ := HC.out W hSw); go_simp; try rfl
    try simp only [Act.put, sA, sB, sC]
    refine tl 19 ?v19 rfl ?q19 ?r19
    case q19 => intro W hSw; (try obtain ⟨q0, q1, q2, q3, q4, z0, y0, y1, y2, y3, y4, y5, y6⟩ := HC.out W hSw); go_simp; try rfl
    try simp only [Act.put, sA, sB, sC]
    refine tl 20 ?v20 rfl ?q20 ?r20
    case q20 => intro W hSw; go_simp; try rfl
    try simp only [Act.put, sA, sB, sC]
    refine tl 21 ?v21 rfl ?q21 ?r21
    case q21 => intro W hSw; go_simp; try rfl
    try simp only [Act.put, sA, sB, sC]
    refine tl 22 ?v22 rfl ?q22 ?r22
    case q22 => intro W hSw; (try obtain ⟨q0, q1, q2, q3, q4, z0, y0, y1, y2, y3, y4, y5, y6⟩ := HC.out W hSw); go_simp; try rfl
    try simp only [Act.put, sA, sB, sC]
    refine tl 23 ?v23 rfl ?q23 ?r23
    case q23 => intro W hSw; (try obtain ⟨q0, q1, q2, q3, q4, z0, y0, y1, y2, y3, y4, y5, y6⟩ := HC.out W hSw); go_simp; try rfl
    try simp only [Act.put, sA, sB, sC]
    refine rl 24 rfl (fun K hK => ?_)
    go_simp
    go_wp2_with (first | (go_at_call 66; refine (HAd.out _ fa).mono ?_; rintro r wc ⟨rfl, tc2, fc⟩))
    have tc2 := Lib.hid tc2
    refine hK.out _ _ (hHeld.trans fc (fun _ h => .inl h)) (fun hHeld => ?_)
    clear hK K
    refine tl 25 ?v24 rfl ?q24 ?r24
    case q24 => intro W hSw; go_simp; try rfl
    try simp only [Act.put, sA, sB, sC]
    refine wpAnyH_done (by kernel_rfl) ?_ _
    clear hHeld fc ba fa
    cases rb with
    | true =>
     have Hs3 : Hid (cn (q + 1) = cq + 1) := Hs2.out
     clear Hs2
     go_wp2_with fail
     go_roundw
     case rel => exact ⟨q + 1, by omega, by go_num, by rw [Hs3.out]; go_num, by rw [Hs1.out]; exact tc2.out⟩
     case measure => simp [intOf]; omega
    | false =>
     have Hs3 : Hid (cn (q + 1) = cq) := Hs2.out
     clear Hs2
     go_wp2_with fail
     go_roundw
     case rel => exact ⟨q + 1, by omega, by go_num, by rw [Hs3.out], by rw [Hs1.out]; exact tc2.out⟩
     case measure => simp [intOf]; omega
   ·have e2 : decide (fv ≤ rs0) = false := decide_eq_false hle
    obtain ⟨hs1, hs2⟩ := HSn.out (by rw [Hldr.out]; exact e2)
    have Hs1 := Lib.hid hs1
    have Hs2 := Lib.hid hs2
    clear HSy HSn hs1 hs2 HAd
    go_wp2_with fail
    refine wp_region_held_drew (S := fun W => Fr (fun j => j = p) wr W) (by kernel_rfl) ((Fr.refl _ wr).drew) (fun hHeld => ?_)
    refine tl 0 ?v25 rfl ?q25 ?r25
    case q25 => intro W hSw; go_simp; try rfl
    refine tl 1 ?v26 rfl ?q26 ?r26
    case q26 => intro W hSw; go_simp; try rfl
    refine tl 2 ?v27 rfl ?q27 ?r27
    case q27 => intro W hSw; (try obtain ⟨q0, q1, q2, q3, q4, z0, y0, y1, y2, y3, y4, y5, y6⟩ := HC.out W hSw); go_simp; try rfl
    refine tl 3 ?v28 rfl ?q28 ?r28
    case q28 => intro W hSw; go_simp; try rfl
    refine tl 4 ?v29 rfl ?q29 ?r29
    case q29 => intro W hSw; (try obtain ⟨q0, q1, q2, q3, q4, z0, y0, y1, y2, y3, y4, y5, y6⟩ := HC.out W hSw); go_simp; try rfl
    refine tl 5 ?v30 rfl ?q30 ?r30
    case q30 => intro W hSw; go_simp; try rfl
    refine tl 6 ?v31 rfl ?q31 ?r31
    case q31 => intro W hSw; go_simp; try rfl
    refine tl 7 ?v32 rfl ?q32 ?r32
    case q32 => intro W hSw; go_simp; try rfl
    refine tl 8 ?v33 rfl ?q33 ?r33
    case q33 => intro W hSw; (try obtain ⟨q0, q1, q2, q3, q4, z0, y0, y1, y2, y3, y4, y5, y6⟩ := HC.out W hSw); go_simp; try rfl
    refine tl 9 ?v34 rfl ?q34 ?r34
    case q34 => intro W hSw; go_simp; try rfl
    try simp only [Act.put, sA, sB, sC]
    refine rl 10 rfl (fun K hK => ?_)
    go_simp
    go_wp2_with (first | (go_at_call 64; refine (HFr.out _ ((Fr.refl _ wr).drew)).mono ?_; rintro r wa ⟨rfl, ba⟩))
    have fa : Fr (fun _ => False) wr wa := (Fr.refl _ wr).drew.trans (Fr.b0 ba) (fun _ h => h.elim)
    refine hK.out _ _ (hHeld.trans (Fr.b0 ba) (fun _ h => h.elim)) (fun hHeld => ?_)
    clear hK K
    refine tl 11 ?v35 rfl ?q35 ?r35
    case q35 => intro W hSw; (try obtain ⟨q0, q1, q2, q3, q4, z0, y0, y1, y2, y3, y4, y5, y6⟩ := HC.out W hSw); go_simp; try rfl
    refine tl 12 ?v36 rfl ?q36 ?r36
    case q36 => intro W hSw; go_simp; try rfl
    try simp only [Act.put, sA, sB, sC]
    refine tu 13 rfl ?_
    try simp only [Act.put, sA, sB, sC]
    refine tu 14 rfl ?_
    try simp only [Act.put, sA, sB, sC]
    refine tu 15 rfl ?_
    try simp only [Act.put, sA, sB, sC]
    refine tu 16 rfl ?_
    try simp only [Act.put, sA, sB, sC]
    refine tu 17 rfl ?_
    try simp only [Act.put, sA, sB, sC]
    refine tu 18 rfl ?_
    try simp only [Act.put, sA, sB, sC]
    refine tu 19 rfl ?_
    try simp only [Act.put, sA, sB, sC]
    refine tu 20 rfl ?_
    try simp only [Act.put, sA, sB, sC]
    refine tu 21 rfl ?_
    try simp only [Act.put, sA, sB, sC]
    refine tu 22 rfl ?_
    try simp only [Act.put, sA, sB, sC]
    refine tu 23 rfl ?_
    try simp only [Act.put, sA, sB, sC]
    refine tu 24 rfl ?_
    refine tl 25 ?v37 rfl ?q37 ?r37
    case q37 => intro W hSw; go_simp; try rfl
    try simp only [Act.put, sA, sB, sC]
    refine wpAnyH_done (by kernel_rfl) ?_ _
    have HSk := Lib.hid (HSm.out _ fa)
    clear hHeld ba fa
    go_wp2_with fail
    go_roundw
    case rel => exact ⟨q + 1, by omega, by go_num, by rw [Hs2.out], by rw [Hs1.out]; exact HSk.out⟩
    case measure => simp [intOf]; omega
  ·obtain rfl : q = m := by omega
   have e1 : decide ((q : Int) < (q : Int)) = false := decide_eq_false (by omega)
   have HE : Hid (RtAt w wr g lo F { X with tabs := X.tabs.set k (L q) } A c B d T ct P) := ⟨F', HT.out, HM.out⟩
   clear hb
   go_wp2_with fail
   go_ret
   exact ⟨rfl, HE.out⟩
end Go.Proofs.YtbblmmneeafhgaaGreat
