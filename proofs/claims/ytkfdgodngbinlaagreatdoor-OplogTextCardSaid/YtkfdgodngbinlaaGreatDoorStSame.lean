/- Walk of (*State).Same. -/
import Derived.Test.YtkfdgodngbinlaaGreatDoorStAl
import Derived.Test.YtkfdgodngbinlaaGreatDoorSts
import Derived.Test.YtkfdgodngbinlaaGreatDoorTk
namespace Go.Proofs.YtkfdgodngbinlaaGreatDoor
set_option linter.all false
open Go.RowKit

section
variable {W : World} {g lo g2 lo2 : Nat} {Q R : StX} {c c2 : Nat}
theorem chalike_any {o1 o2 : Option ShX} {v1 v2 : Value} {F1 F2 : Nat → Prop} (h1 : ChOn W lo o1 v1 F1) (h2 : ChOn W lo2 o2 v2 F2) (hb1 : ∀ S, o1 = some S → S.tiers.length ≤ 1000 ∧ S.srcs.length ≤ 1000 ∧ ∀ l ∈ S.tabs, l.length ≤ 1000000) (hb2 : ∀ S, o2 = some S → S.tiers.length ≤ 1000 ∧ S.srcs.length ≤ 1000 ∧ ∀ l ∈ S.tabs, l.length ≤ 1000000) :
  Calls Tryz.prog 61 #[v1, v2] W fun r w' => r = .returned (.bool (alikeB o1 o2)) ∧ Below W.heap.size W w' := by
 cases o1 with
 | none =>
  obtain ⟨rfl, _⟩ := h1
  cases o2 with
  | none =>
   obtain ⟨rfl, _⟩ := h2
   exact alike_none W
  | some T =>
   obtain ⟨s, base, _, rfl, _⟩ := h2
   exact alike_left s W
 | some S =>
  obtain ⟨s, base, _, rfl, a1⟩ := h1
  cases o2 with
  | none =>
   obtain ⟨rfl, _⟩ := h2
   exact alike_right s W
  | some T =>
   obtain ⟨t, base2, _, rfl, a2⟩ := h2
   obtain ⟨p1, p2, p3⟩ := hb1 S rfl
   obtain ⟨q1, q2, q3⟩ := hb2 T rfl
   exact alike_in s base S t base2 T W a1.at_ a2.at_ p1 q1 p2 q2 p3 q3
theorem ch_small {Q : StX} {c : Nat} (h : StGood Q c) (hc : c ≤ 1000000) : ∀ S, Q.ch = some S → S.tiers.length ≤ 1000 ∧ S.srcs.length ≤ 1000 ∧ ∀ l ∈ S.tabs, l.length ≤ 1000000 := fun S hs => by
 obtain ⟨h1, h2, _⟩ := ch_facts h hc hs
 obtain ⟨o, ho⟩ := (h.ch S hs).ok
 refine ⟨h1, ?_, h2⟩
 rw [ho.src]
 unfold srcs
 simp
 exact h1
set_option maxRecDepth 100000 in
set_option maxHeartbeats 8000000 in
theorem stsame_any (hg : StGood Q c) (hc : c ≤ 1000000) (hg2 : StGood R c2) (hc2 : c2 ≤ 1000000) (h : StP W g lo Q c) (h2 : StP W g2 lo2 R c2) :
  Calls Tryz.prog 32 #[.pointer (some ⟨g, 0, none⟩), .pointer (some ⟨g2, 0, none⟩)] W fun r w' => r = .returned (.bool (sameSt Q R)) ∧ Below W.heap.size W w' := by
 obtain ⟨F, t, Ft, Fs, v, hi, _⟩ := h
 obtain ⟨F2, t2, Ft2, Fs2, v2, hi2, _⟩ := h2
 have HC : Hid (∀ w, Fr (fun _ => False) W w → (w.cell? ⟨g, 0, none⟩ = some (.int .i64 Q.room) ∧ w.cell? ⟨g, 1, none⟩ = some (.pointer (some ⟨t, 0, none⟩)) ∧ w.cell? ⟨g, 2, none⟩ = some v) ∧ w.cell? ⟨g2, 0, none⟩ = some (.int .i64 R.room) ∧ w.cell? ⟨g2, 1, none⟩ = some (.pointer (some ⟨t2, 0, none⟩)) ∧ w.cell? ⟨g2, 2, none⟩ = some v2) := fun w f => ⟨hi.cells f (fun h => h), hi2.cells f (fun h => h)⟩
 have HT : Hid (∀ w, Fr (fun _ => False) W w → Calls Tryz.prog 35 #[.pointer (some ⟨t, 0, none⟩), .pointer (some ⟨t2, 0, none⟩)] w fun r w' => r = .returned (.bool (sameX Q.X R.X)) ∧ Below w.heap.size w w') := fun w f => tio_same hg.pol hg2.pol (hi.tio.fr0 f) (hi2.tio.fr0 f) hc hc2
 have HA : Hid (∀ w, Fr (fun _ => False) W w → Calls Tryz.prog 61 #[v, v2] w fun r w' => r = .returned (.bool (alikeB Q.ch R.ch)) ∧ Below w.heap.size w w') := fun w f => chalike_any ((hi.fr0 f).ch) ((hi2.fr0 f).ch) (ch_small hg hc) (ch_small hg2 hc2)
 have HS0 : Hid (sameSt Q R = (decide (Q.room = R.room) && (sameX Q.X R.X && alikeB Q.ch R.ch))) := rfl
 have hv := hi.ch.val
 have hv2 := hi2.ch.val
 obtain ⟨p, rfl⟩ : ∃ p, v = .pointer p := by
  cases hq : Q.ch with
  | none => exact ⟨_, hv.1 hq⟩
  | some S => obtain ⟨s, e⟩ := hv.2 S hq; exact ⟨_, e⟩
 obtain ⟨p2, rfl⟩ : ∃ p, v2 = .pointer p := by
  cases hq : R.ch with
  | none => exact ⟨_, hv2.1 hq⟩
  | some S => obtain ⟨s, e⟩ := hv2.2 S hq; exact ⟨_, e⟩
 obtain ⟨TE, hTE⟩ : ∃ E, sameX Q.X R.X = E := ⟨_, rfl⟩
 obtain ⟨AE, hAE⟩ : ∃ E, alikeB Q.ch R.ch = E := ⟨_, rfl⟩
 obtain ⟨SE, hSE⟩ : ∃ E, sameSt Q R = E := ⟨_, rfl⟩
 rw [hTE] at HT HS0
 rw [hAE] at HA HS0
 rw [hSE] at HS0 ⊢
 obtain ⟨rx, hrx⟩ : ∃ E, Q.room = E := ⟨_, rfl⟩
 obtain ⟨ry, hry⟩ : ∃ E, R.room = E := ⟨_, rfl⟩
 rw [hrx, hry] at HC HS0
 have HC2 : Hid (∀ w, Fr (fun _ => False) W w → w.cell? ⟨g, 0, none⟩ = some (.int .i64 rx) ∧ w.cell? ⟨g, 1, none⟩ = some (.pointer (some ⟨t, 0, none⟩)) ∧ w.cell? ⟨g, 2, none⟩ = some (.pointer p) ∧ w.cell? ⟨g2, 0, none⟩ = some (.int .i64 ry) ∧ w.cell? ⟨g2, 1, none⟩ = some (.pointer (some ⟨t2, 0, none⟩)) ∧ w.cell? ⟨g2, 2, none⟩ = some (.pointer p2)) := fun w f => by
  obtain ⟨⟨a, b, c⟩, d⟩ := HC.out w f
  exact ⟨a, b, c, d⟩
 clear HC
 have HC := HC2
 clear HC2 hTE hAE hSE hrx hry hv hv2 hi hi2
 by_cases hr : rx = ry
 ·subst hr
  cases TE with
  | false =>
   have hS : Hid (SE = false) := by show _ = _; rw [HS0.out]; simp
   go_enter Tryz.func32, Tryz.ntmps32
   go_wp2_with fail
   refine wp_region_held_drew (S := fun w => Fr (fun _ => False) W w) (by kernel_rfl) ((Fr.refl _ W).drew) (fun hHeld => ?_)
   refine tq 22 [0,1,2,3,4,5,6,7,8,9,10,11,12,13,14,15,16,17,18,19,20,21] ?_
   iterate 11 refine sf HC.out ?_
   iterate 11 (refine sf HC.out ?_; try simp only [Act.put, sA, sB, sC])
   refine sz ?_
   try simp only [Act.put, sA, sB, sC]
   refine rl 22 rfl (fun K hK => ?_)
   go_simp
   go_wp2_with (first | (go_at_call 35; refine (HT.out _ hHeld).mono ?_; rintro r w5 ⟨rfl, b5⟩))
   refine hK.out _ _ (hHeld.trans (Fr.b0 b5) (fun _ h => h.elim)) (fun hHeld => ?_)
   clear hK K
   refine tq 13 [23,24,25,26,27,28,29,30,31,32,33,34,35] ?_
   refine sk ?_
   refine sk ?_
   try simp only [Act.put, sA, sB, sC]
   iterate 8 (refine su ?_; try simp only [Act.put, sA, sB, sC])
   refine su ?_
   refine sk ?_
   refine sf HC.out ?_
   try simp only [Act.put, sA, sB, sC]
   refine sz ?_
   try simp only [Act.put, sA, sB, sC]
   refine wpAnyH_done (by kernel_rfl) ?_ _
   go_wp2_with fail
   go_ret
   exact ⟨by rw [hS.out]; rfl, hHeld.below (fun _ h => h.elim)⟩
  | true =>
   have hS : Hid (SE = AE) := by show _ = _; rw [HS0.out]; simp
   go_enter Tryz.func32, Tryz.ntmps32
   go_wp2_with fail
   refine wp_region_held_drew (S := fun w => Fr (fun _ => False) W w) (by kernel_rfl) ((Fr.refl _ W).drew) (fun hHeld => ?_)
   refine tq 22 [0,1,2,3,4,5,6,7,8,9,10,11,12,13,14,15,16,17,18,19,20,21] ?_
   iterate 11 refine sf HC.out ?_
   iterate 11 (refine sf HC.out ?_; try simp only [Act.put, sA, sB, sC])
   refine sz ?_
   try simp only [Act.put, sA, sB, sC]
   refine rl 22 rfl (fun K hK => ?_)
   go_simp
   go_wp2_with (first | (go_at_call 35; refine (HT.out _ hHeld).mono ?_; rintro r w5 ⟨rfl, b5⟩))
   refine hK.out _ _ (hHeld.trans (Fr.b0 b5) (fun _ h => h.elim)) (fun hHeld => ?_)
   clear hK K
   refine tq 10 [23,24,25,26,27,28,29,30,31,32] ?_
   refine sk ?_
   iterate 9 (refine sf HC.out ?_; try simp only [Act.put, sA, sB, sC])
   refine sz ?_
   try simp only [Act.put, sA, sB, sC]
   refine rl 33 rfl (fun K hK => ?_)
   go_simp
   go_wp2_with (first | (go_at_call 61; refine (HA.out _ hHeld).mono ?_; rintro r w6 ⟨rfl, b6⟩))
   refine hK.out _ _ (hHeld.trans (Fr.b0 b6) (fun _ h => h.elim)) (fun hHeld => ?_)
   clear hK K
   refine tq 2 [34,35] ?_
   refine sk ?_
   refine sf HC.out ?_
   try simp only [Act.put, sA, sB, sC]
   refine sz ?_
   try simp only [Act.put, sA, sB, sC]
   refine wpAnyH_done (by kernel_rfl) ?_ _
   go_wp2_with fail
   go_ret
   exact ⟨by rw [hS.out]; rfl, hHeld.below (fun _ h => h.elim)⟩
 ·have hS : Hid (SE = false) := by show _ = _; rw [HS0.out, decide_eq_false hr]; simp
  have hn1 : (rx == ry) = false := by simpa using hr
  have hn2 : decide (rx = ry) = false := decide_eq_false hr
  go_enter Tryz.func32, Tryz.ntmps32
  go_wp2_with fail
  refine wp_region_held_drew (S := fun w => Fr (fun _ => False) W w) (by kernel_rfl) ((Fr.refl _ W).drew) (fun hHeld => ?_)
  refine tq 36 [0,1,2,3,4,5,6,7,8,9,10,11,12,13,14,15,16,17,18,19,20,21,22,23,24,25,26,27,28,29,30,31,32,33,34,35] ?_
  iterate 11 refine sf HC.out ?_
  refine sk ?_
  try simp only [Act.put, sA, sB, sC]
  iterate 10 (refine su ?_; try simp only [Act.put, sA, sB, sC])
  refine su ?_
  refine sk ?_
  refine sk ?_
  try simp only [Act.put, sA, sB, sC]
  iterate 8 (refine su ?_; try simp only [Act.put, sA, sB, sC])
  refine su ?_
  refine sk ?_
  refine sf HC.out ?_
  try simp only [Act.put, sA, sB, sC]
  refine sz ?_
  try simp only [Act.put, sA, sB, sC]
  refine wpAnyH_done (by kernel_rfl) ?_ _
  go_wp2_with fail
  go_ret
  exact ⟨by rw [hS.out]; rfl, hHeld.below (fun _ h => h.elim)⟩
theorem ss_same {L : List (Nat × StX)} {i j : Nat} (h : Sts W lo L c) (hi : L[i]? = some (g, Q)) (hj : L[j]? = some (g2, R)) (hc : c ≤ 1000000) :
  Calls Tryz.prog 32 #[.pointer (some ⟨g, 0, none⟩), .pointer (some ⟨g2, 0, none⟩)] W fun r w' => r = .returned (.bool (sameSt Q R)) ∧ Below W.heap.size W w' :=
 stsame_any (h.good hi) hc (h.good hj) hc (h.p hi) (h.p hj)
end
end Go.Proofs.YtkfdgodngbinlaaGreatDoor
