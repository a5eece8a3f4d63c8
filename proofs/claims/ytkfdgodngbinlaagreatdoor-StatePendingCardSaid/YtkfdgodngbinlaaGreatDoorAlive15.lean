/- Walk of sedimentlaw15.alive. -/
import Derived.Test.YtkfdgodngbinlaaGreatDoorStQ
import Derived.Test.YtkfdgodngbinlaaGreatDoorWeb8
import Derived.Test.YtkfdgodngbinlaaGreatDoorTk
namespace Go.Proofs.YtkfdgodngbinlaaGreatDoor
set_option linter.all false
open Go.RowKit

theorem alS_good : ∀ k, StGood (alS k) (8 + 8 * k)
 | 0 => al2_good
 | k + 1 => by
  have h := alS_good k
  by_cases hk : 8 + 8 * k ≤ 1000000
  ·have := h.step hk
   rwa [show 8 + 8 * (k + 1) = 8 + 8 * k + 8 by omega]
  ·have : StGood (alS (k + 1)) (8 + 8 * k + 8) := by
    have h6 := al_stop (k := k) (by omega)
    rw [h6]
    exact h.more (by omega)
   rwa [show 8 + 8 * (k + 1) = 8 + 8 * k + 8 by omega]
set_option maxRecDepth 100000 in
set_option maxHeartbeats 8000000 in
theorem alive15_any (w : World) (hmx : MaxL w) : Calls Tryz.prog 11 #[] w fun r w' => r = .returned (.bool true) ∧ Below w.heap.size w w' := by
 have g0 : StGood al0 0 := al0_good
 have g1 : StGood al1 8 := al1_good
 have g2 := fun k => alS_good k
 have G1 := Lib.hid g1
 have G2 := Lib.hid g2
 have HMX := Lib.hid hmx
 have HNw : Hid (Calls Tryz.prog 12 #[.int .i64 100, .string { data := #[112, 111, 108, 105, 99, 121, 32, 119, 101, 98, 10, 116, 105, 101, 114, 32, 114, 97, 119, 32, 101, 118, 101, 114, 121, 32, 49, 32, 107, 101, 101, 112, 32, 49, 48, 48, 32, 115, 104, 97, 114, 100, 115, 32, 50, 10, 116, 105, 101, 114, 32, 116, 101, 110, 115, 32, 101, 118, 101, 114, 121, 32, 49, 48, 32, 107, 101, 101, 112, 32, 49, 48, 48, 48, 32, 115, 104, 97, 114, 100, 115, 32, 49, 10] }] w fun r w' => (∃ g, r = .returned (.tuple #[.pointer (some ⟨g, 0, none⟩), .int .i64 0]) ∧ StP w' g w.heap.size al0 0) ∧ Below w.heap.size w w') := by
  refine (sp_new 100 web8 (by decide) w hmx w.heap.size (Nat.le_refl _)).mono ?_
  rintro r w' ⟨⟨h1, _⟩, hb⟩
  exact ⟨h1 al_new, hb⟩
 have HPt : Hid (∀ W g, StP W g w.heap.size al0 0 → Calls Tryz.prog 15 #[.pointer (some ⟨g, 0, none⟩), .slice (some ⟨W.heap.size, 0, none⟩) 1 1] (W.alloc (.cells #[.string { data := #[97] }, .int .i64 0, .int .i64 4] 44)) fun r w' => r = .returned (.int .i64 0) ∧ StP w' g w.heap.size al1 8 ∧ Below w.heap.size W w') := fun W g h => by
  have := sp_put1 g0 (by decide) h ⟨{ data := #[97] }, 0, 4⟩ 1 (by unfold SampV.wf in64 maxLen; decide)
  rw [show stPutE al0 [⟨{ data := #[97] }, 0, 4⟩] = 0 from al_put] at this
  exact this
 have HCh : Hid (∀ W g, StP W g w.heap.size al1 8 → Below w.heap.size w W → Calls Tryz.prog 17 #[.pointer (some ⟨g, 0, none⟩), .string { data := #[112, 111, 108, 105, 99, 121, 32, 119, 101, 98, 10, 116, 105, 101, 114, 32, 114, 97, 119, 32, 101, 118, 101, 114, 121, 32, 49, 32, 107, 101, 101, 112, 32, 49, 48, 48, 32, 115, 104, 97, 114, 100, 115, 32, 50, 10, 116, 105, 101, 114, 32, 116, 101, 110, 115, 32, 101, 118, 101, 114, 121, 32, 49, 48, 32, 107, 101, 101, 112, 32, 49, 48, 48, 48, 32, 115, 104, 97, 114, 100, 115, 32, 49, 10] }] W fun r w' => r = .returned (.tuple #[.int .i64 0, .int .i64 0]) ∧ StP w' g w.heap.size (alS 0) 8 ∧ Below w.heap.size W w') := fun W g h hb => by
  refine (sp_change G1.out (by decide) h web8 (by decide) (hmx.below hb)).mono ?_
  rintro r w' ⟨⟨k, hr, hk⟩, h1, h2⟩
  have e : stChangeE al1 (readV web8) = 0 := al_change
  obtain rfl := hk (.inr e)
  rw [e] at hr
  exact ⟨hr, h1, h2⟩
 have HSt : Hid (∀ W g k, k ≤ 5 → StP W g w.heap.size (alS k) (8 + 8 * k) → Calls Tryz.prog 23 #[.pointer (some ⟨g, 0, none⟩)] W fun r w' => r = .returned (.tuple #[.agg #[.int .i64 (stStepR (alS k)).1.1, .int .i64 (stStepR (alS k)).1.2.1, .int .i64 (stStepR (alS k)).1.2.2], .int .i64 (stStepR (alS k)).2]) ∧ StP w' g w.heap.size (alS (k + 1)) (8 + 8 * (k + 1)) ∧ Below w.heap.size W w') := fun W g k hk h => by
  refine (sp_step (G2.out k) (by omega) h).mono ?_
  rintro r w' ⟨hr, h1, h2⟩
  exact ⟨hr, h1.more (by omega), h2⟩
 have HPe : Hid (∀ W g k, StP W g w.heap.size (alS k) (8 + 8 * k) → Calls Tryz.prog 21 #[.pointer (some ⟨g, 0, none⟩)] W fun r w' => r = .returned (.bool (alS k).ch.isSome) ∧ W = w') := fun W g k h => sp_pend h
 have HAk : Hid (∀ W g, StP W g w.heap.size (alS 6) (8 + 8 * 6) → Calls Tryz.prog 33 #[.pointer (some ⟨g, 0, none⟩), .string { data := #[97] }, .int .i64 0, .int .i64 5] W fun r w' => (∃ T A c, r = .returned (.tuple #[.agg #[.int .i64 T, .slice A 1 c], .int .i64 0])) ∧ Below W.heap.size W w') := fun W g h => by
  refine (sp_ask (G2.out 6) (by decide) h { data := #[97] } (by unfold maxLen; decide) 0 5).mono ?_
  rintro r w' ⟨⟨h1, _⟩, hb⟩
  obtain ⟨A, c, hr, _⟩ := h1 al_ask
  rw [al_six, al_len] at hr
  exact ⟨⟨_, A, c, hr⟩, hb⟩
 have HNe : Hid (∀ W g, StP W g w.heap.size (alS 6) (8 + 8 * 6) → Calls Tryz.prog 19 #[.pointer (some ⟨g, 0, none⟩)] W fun r w' => r = .returned (.int .i64 2) ∧ Below W.heap.size W w') := fun W g h => by
  have := sp_need (G2.out 6) (by decide) h
  rw [al_six, al_need] at this
  exact this
 have HRo : Hid (∀ W g, StP W g w.heap.size (alS 6) (8 + 8 * 6) → Calls Tryz.prog 20 #[.pointer (some ⟨g, 0, none⟩)] W fun r w' => r = .returned (.int .i64 100) ∧ W = w') := fun W g h => by
  have := sp_room h
  rw [al_six, al_room] at this
  exact this
 have hoff : (alS 6).ch.isSome = false := by rw [al_six]; exact al_off
 have HOff := Lib.hid hoff
 have hend := al_end
 have HEnd := Lib.hid hend
 have his : (alS 0).ch.isSome = true := al_is
 have HIs := Lib.hid his
 clear g0 g1 g2 hmx hoff hend his
 go_enter Tryz.func11, Tryz.ntmps11
 go_wp2_with fail
 refine HNw.out.mono ?_
 rintro r w1 ⟨⟨g, rfl, h1⟩, b1⟩
 have H1 := Lib.hid h1
 have B1 := Lib.hid b1
 clear h1 b1 HNw
 go_wp2_with fail
 refine (HPt.out w1 g H1.out).mono ?_
 rintro r w2 ⟨rfl, h2, b2⟩
 have H2 := Lib.hid h2
 have B2 := Lib.hid (B1.out.trans b2)
 clear h2 b2 H1 B1
 go_wp2_with fail
 refine (HCh.out w2 g H2.out B2.out).mono ?_
 rintro r w3 ⟨rfl, h3, b3⟩
 have H3 := Lib.hid h3
 have B3 := Lib.hid (B2.out.trans b3)
 have HP3 := Lib.hid (HPe.out w3 g 0 h3)
 rw [HIs.out] at HP3
 clear h3 b3 H2 B2
 go_wp2_with fail
 refine HP3.out.mono ?_
 rintro r w4 ⟨rfl, rfl⟩
 go_wp2_with fail
 go_loopw [5] (fun i wr => ∃ j : Nat, j ≤ 5 ∧ i = .int .i64 j ∧ StP wr g w.heap.size (alS j) (8 + 8 * j) ∧ Below w.heap.size w wr) (fun i _ => 5 - (intOf i).toNat)
 case atStart => exact ⟨0, by omega, rfl, H3.out, B3.out⟩
 case round =>
  obtain ⟨j, hj, rfl, hs, hb⟩ := hrel
  have Hs := Lib.hid hs
  have Hb := Lib.hid hb
  have hlo := hs.lt
  clear hs hb
  by_cases hlt : j < 5
  ·have hjd : decide ((j : Int) < 5) = true := decide_eq_true (by omega)
   have hji : (j : Int) < 5 := by omega
   have HS1 := Lib.hid (HSt.out wr g j (by omega) Hs.out)
   have hk := al_steps j hlt
   obtain ⟨⟨⟨a, b, q⟩, e⟩, hat⟩ : ∃ x, stStepR (alS j) = x := ⟨_, rfl⟩
   rw [hat] at HS1 hk
   obtain ⟨he, hki⟩ := hk
   dsimp only at HS1 he hki
   subst he
   have HK : ∀ W' : World, (W'.alloc (.cells #[.int .i64 1, .int .i64 1, .int .i64 1, .int .i64 2, .int .i64 3] 3)).cell? ⟨W'.heap.size, j, none⟩ = some (.int .i64 a) := fun W' => by
    rw [(Blk.new W' 3 #[.int .i64 1, .int .i64 1, .int .i64 1, .int .i64 2, .int .i64 3]).cell]
    have e1 : (#[.int .i64 1, .int .i64 1, .int .i64 1, .int .i64 2, .int .i64 3] : Array Value) = (kinds15.map (Value.int .i64)).toArray := rfl
    rw [e1]
    simp [List.getElem?_map, hki]
   have hkw : IntKind.i64.wrap ((j : Int) + 1) = (j : Int) + 1 := by simp [IntKind.wrap, IntKind.signed, IntKind.bits]; omega
   have hjr : 0 ≤ (j : Int) ∧ (j : Int) < 5 := by omega
   clear hat hki
   go_wp2_with fail
   refine HS1.out.mono ?_
   rintro r w5 ⟨rfl, h5, b5⟩
   have X5 : Hid (Blk (w5.alloc (.cells #[.int .i64 a, .int .i64 b, .int .i64 q] 54)) w5.heap.size 54 #[.int .i64 a, .int .i64 b, .int .i64 q]) := Blk.new _ _ _
   have H5 := Lib.hid (h5.fr0 (Fr.none_alloc w5 (.cells #[.int .i64 a, .int .i64 b, .int .i64 q] 54)))
   have hs5 : w.heap.size ≤ w5.heap.size := Nat.le_of_lt (Nat.lt_of_le_of_lt h5.lt.1 h5.lt.2)
   have B5 := Lib.hid ((Hb.out.trans b5).trans ((Fr.none_alloc w5 (.cells #[.int .i64 a, .int .i64 b, .int .i64 q] 54)).below_of hs5 (fun _ h => h.elim)))
   have hs6 : w.heap.size ≤ (w5.alloc (.cells #[.int .i64 a, .int .i64 b, .int .i64 q] 54)).heap.size := by simp; omega
   obtain ⟨w6, hw6⟩ : ∃ w6, w6 = w5.alloc (.cells #[.int .i64 a, .int .i64 b, .int .i64 q] 54) := ⟨_, rfl⟩
   obtain ⟨xb, hxb⟩ : ∃ x, w5.heap.size = x := ⟨_, rfl⟩
   rw [← hw6] at X5 H5 B5 hs6
   rw [hxb] at X5
   have HW6 := Lib.hid hw6
   have HXB := Lib.hid hxb
   clear h5 b5 Hs Hb hw6 hxb
   go_wp2_with fail
   try rw [← HW6.out]
   try rw [HXB.out]
   refine wp_region_held_drew (S := fun W' => Fr (fun _ => False) w6 W') (by kernel_rfl) ((Fr.refl _ w6).drew) (fun hHeld => ?_)
   refine tl 0 ?v1 rfl ?q1 ?r1
   case q1 => intro W hSw; go_simp; try rfl
   refine tl 1 ?v2 rfl ?q2 ?r2
   case q2 => intro W hSw; (try have x0 := (X5.out.fr hSw (fun h => h)).cell 0; simp only [List.getElem?_toArray, List.getElem?_cons_zero] at x0); go_simp; try rfl
   refine tq 2 [2,3] ?_
   iterate 2 (refine sk ?_; try simp only [Act.put, sA, sB, sC])
   refine sz ?_
   try simp only [Act.put, sA, sB, sC]
   refine tl 4 ?v5 rfl ?q5 ?r5
   case q5 => intro W hSw; (try have x0 := (X5.out.fr hSw (fun h => h)).cell 0; simp only [List.getElem?_toArray, List.getElem?_cons_zero] at x0); go_simp; try rfl
   try simp only [Act.put, sA, sB, sC]
   refine tl 6 ?v6 rfl ?q6 ?r6
   case q6 => intro W hSw; go_simp; try rfl
   try simp only [Act.put, sA, sB, sC]
   refine rl 5 rfl (fun K hK => ?_)
   go_simp
   refine hK.out _ _ (hHeld.trans (Fr.none_alloc _ _) (fun _ h => h.elim)) (fun hHeld => ?_)
   clear hK K
   try simp only [Act.put, sA, sB, sC]
   refine tl 7 ?v7 rfl ?q7 ?r7
   case q7 => intro W hSw; (try have x0 := (X5.out.fr hSw (fun h => h)).cell 0; simp only [List.getElem?_toArray, List.getElem?_cons_zero] at x0); go_simp; try rfl
   try simp only [Act.put, sA, sB, sC]
   refine rl 8 rfl (fun K hK => ?_)
   go_simp
   refine hK.out _ _ (hHeld) (fun hHeld => ?_)
   clear hK K
   try simp only [Act.put, sA, sB, sC]
   refine tl 9 ?v8 rfl ?q8 ?r8
   case q8 => intro W hSw; (try have x0 := (X5.out.fr hSw (fun h => h)).cell 0; simp only [List.getElem?_toArray, List.getElem?_cons_zero] at x0); go_simp; try rfl
   refine tl 10 ?v9 rfl ?q9 ?r9
   case q9 => intro W hSw; go_simp; try rfl
   try simp only [Act.put, sA, sB, sC]
   refine wpAnyH_done (by kernel_rfl) ?_ _
   go_wp2_with fail
   go_roundw
   case rel => exact ⟨j + 1, by omega, by go_num, H5.out.fr0 hHeld, B5.out.trans (hHeld.below_of hs6 (fun _ h => h.elim))⟩
   case measure => simp [intOf]; omega
  ·obtain rfl : j = 5 := by omega
   have HS1 := Lib.hid (HSt.out wr g 5 (by omega) Hs.out)
   rw [HEnd.out] at HS1
   dsimp only at HS1
   go_wp2_with fail
   refine HS1.out.mono ?_
   rintro r w5 ⟨rfl, h5, b5⟩
   have f6 : Fr (fun _ => False) w5 (w5.alloc (.cells #[.int .i64 0, .int .i64 0, .int .i64 0] 54)) := Fr.none_alloc _ _
   have H6 := Lib.hid (h5.fr0 f6)
   have hs5 : w.heap.size ≤ w5.heap.size := Nat.le_of_lt (Nat.lt_of_le_of_lt h5.lt.1 h5.lt.2)
   have B6 := Lib.hid ((Hb.out.trans b5).trans (f6.below_of hs5 (fun _ h => h.elim)))
   have HA6 := Lib.hid (HAk.out _ g H6.out)
   clear h5 b5 Hs Hb f6
   go_wp2_with fail
   refine HA6.out.mono ?_
   rintro r w7 ⟨⟨T, A, c, rfl⟩, b7⟩
   have H7 := Lib.hid (H6.out.fr0 (Fr.b0 b7))
   have B7 := Lib.hid (B6.out.trans (b7.mono (by simp; omega)))
   have f8 : Fr (fun _ => False) w7 (w7.alloc (.cells #[.int .i64 T, .slice A 1 c] 71)) := Fr.none_alloc _ _
   have H8 := Lib.hid (H7.out.fr0 f8)
   have hs7 : w.heap.size ≤ w7.heap.size := by have := H7.out.lt; omega
   have B8 := Lib.hid (B7.out.trans (f8.below_of hs7 (fun _ h => h.elim)))
   have X8 : Hid (Blk (w7.alloc (.cells #[.int .i64 T, .slice A 1 c] 71)) w7.heap.size 71 #[.int .i64 T, .slice A 1 c]) := Blk.new _ _ _
   have x1 := X8.out.cell 1
   simp only [List.getElem?_toArray, List.getElem?_cons_succ, List.getElem?_cons_zero] at x1
   have HP8 := Lib.hid (HPe.out _ g 6 H8.out)
   rw [HOff.out] at HP8
   have HN8 := Lib.hid (HNe.out _ g H8.out)
   have hs8 : w.heap.size ≤ (w7.alloc (.cells #[.int .i64 T, .slice A 1 c] 71)).heap.size := by simp; omega
   clear b7 f8
   go_wp2_with fail
   refine HP8.out.mono ?_
   rintro r w8 ⟨rfl, rfl⟩
   go_wp2_with fail
   refine HN8.out.mono ?_
   rintro r w9 ⟨rfl, b9⟩
   have HR9 := Lib.hid (HRo.out w9 g (H8.out.fr0 (Fr.b0 b9)))
   have B9 := Lib.hid (B8.out.trans (b9.mono hs8))
   clear b9
   go_wp2_with fail
   refine HR9.out.mono ?_
   rintro r w10 ⟨rfl, rfl⟩
   go_wp2_with fail
   go_ret
   exact ⟨rfl, B9.out⟩
end Go.Proofs.YtkfdgodngbinlaaGreatDoor
