/- Walk of sedimentlaw11.alive. -/
import Derived.Test.YtbblmmneeafhgaaGreatTiersAsk
import Derived.Test.YtbblmmneeafhgaaGreatTk
namespace Go.Proofs.YtbblmmneeafhgaaGreat
set_option linter.all false
open Go.RowKit

def a11N : ByteArray := { data := #[97] }
def a11S : List SampV := [⟨a11N, 21, 4⟩, ⟨a11N, 25, 6⟩]
def a11X0 : TiersX := newX webN webT 25 []
def a11X1 : TiersX := putX a11X0 a11S
def a11L : List RecV := [⟨a11N, 21, ⟨1, 0, 4, 4, 4⟩⟩, ⟨a11N, 25, ⟨1, 0, 6, 6, 6⟩⟩]
theorem a11_new : newE webN webT 25 [] = 0 := by decide +kernel
theorem a11_put : putE a11X0 a11S = 0 := by decide +kernel
theorem a11_askB : askB a11N 20 30 = true := by decide +kernel
theorem a11_askT : askT a11X1 20 = 0 := by decide +kernel
theorem a11_askL : askL a11X1 a11N 20 30 = a11L := by decide +kernel
theorem a11_len : lenX a11X1 = 3 := by decide +kernel
theorem a11_now : a11X1.now = 25 := by decide +kernel
theorem a11_tiers : a11X1.tiers = webT := by unfold a11X1 putX; rw [if_pos a11_put]; rfl
theorem a11_swf : ∀ s ∈ a11S, s.wf := by
 intro s hs
 simp only [a11S, List.mem_cons, List.not_mem_nil, or_false] at hs
 rcases hs with rfl | rfl <;> (unfold SampV.wf in64 maxLen; decide)
theorem a11_short : ∀ l ∈ a11X1.tabs, l.length ≤ 1000 := by decide +kernel
theorem a11_web : ∀ t ∈ webT, t.wf := by
 intro t ht
 simp only [webT, List.mem_cons, List.not_mem_nil, or_false] at ht
 rcases ht with rfl | rfl <;> (unfold TierV.wf i64 maxLen; decide)
theorem a11_aggeq (w : World) : (binOp .eql 98 (.agg #[.int .i64 1, .int .i64 0, .int .u64 6, .int .i64 6, .int .i64 6]) (.agg #[.int .i64 1, .int .i64 0, .int .u64 6, .int .i64 6, .int .i64 6])).run Tryz.prog w = .ok (.bool true) w := by
 have h := run_eqagg 9998 ⟨1, 0, 6, 6, 6⟩ ⟨1, 0, 6, 6, 6⟩ w
 unfold AggV.val at h
 rw [run_eql_struct, h, show aggEq ⟨1, 0, 6, 6, 6⟩ ⟨1, 0, 6, 6, 6⟩ = true by decide]
 rfl

set_option maxRecDepth 100000 in
set_option maxHeartbeats 4000000 in
theorem alive11_any (w : World) : Calls Tryz.prog 7 #[] w fun r w' => r = .returned (.bool true) ∧ Below w.heap.size w w' := by
 have HW := Lib.hid web_any
 have HN : Hid (∀ A c w, 2 ≤ c → Rd w 4 A 2 (tcells webT) → Calls Tryz.prog 9 #[.agg #[.string webN, .slice A 2 c], .int .i64 25, .slice none 0 0] w fun r w' => (∃ t, r = .returned (.tuple #[.pointer (some ⟨t, 0, none⟩), .int .i64 0]) ∧ TiersAt w' t w.heap.size a11X0) ∧ Below w.heap.size w w') := fun A c w hc hr => by
  refine (tnew_any webN (by decide) webT A 2 c 25 (by unfold i64; omega) [] none 0 0 w hr hc a11_web (by omega) Rd.nil_ (by omega)).mono ?_
  rintro r w' ⟨⟨h, _⟩, hb⟩
  exact ⟨h a11_new, hb⟩
 have HP : Hid (∀ t base F w A c, TiersOn w t base a11X0 F → Rd w 3 A 2 (scells a11S) → Calls Tryz.prog 16 #[.pointer (some ⟨t, 0, none⟩), .slice A 2 c] w fun r w' => r = .returned (.int .i64 0) ∧ TiersOn w' t base a11X1 F ∧ Fr F w w') := fun t base F w A c h hr => by
  refine (tput_any t base a11X0 F a11S A 2 c w h (by decide) (by decide) (by decide) (by decide) a11_web hr a11_swf).mono ?_
  rintro r w' ⟨rfl, h1, h2⟩
  exact ⟨by rw [a11_put], h1, h2.mono (fun _ h => .inl h.1)⟩
 have HA : Hid (∀ t base w, TiersAt w t base a11X1 → Calls Tryz.prog 25 #[.pointer (some ⟨t, 0, none⟩), .string a11N, .int .i64 20, .int .i64 30] w fun r w' => (∃ A c, r = .returned (.tuple #[.agg #[.int .i64 0, .slice A 2 c], .int .i64 0]) ∧ Rd w' 7 A 2 (rcells a11L)) ∧ Below w.heap.size w w') := fun t base w h => by
  refine (task_any t base a11X1 a11N (by decide) 20 30 w h (by rw [a11_tiers]; decide) (by rw [a11_tiers]; decide) (fun m hm => Nat.le_trans (a11_short m hm) (by omega)) (by rw [a11_now]; omega) (by rw [a11_tiers]; exact a11_web)).mono ?_
  rintro r w' ⟨⟨h, _⟩, hb⟩
  obtain ⟨A, c, rfl, ho⟩ := h a11_askB
  rw [a11_askL] at ho ⊢
  rw [a11_askT]
  exact ⟨⟨A, c, rfl, (own_any ho).2.2.1⟩, hb⟩
 have HL0 : Hid (∀ t base w, TiersAt w t base a11X1 → Calls Tryz.prog 41 #[.pointer (some ⟨t, 0, none⟩)] w fun r w' => r = .returned (.int .i64 3) ∧ w = w') := fun t base w h => by
  refine (tlen_any t base a11X1 w h (by rw [a11_tiers]; decide) (fun m hm => Nat.le_trans (a11_short m hm) (by omega))).mono ?_
  rintro r w' ⟨rfl, h2⟩
  exact ⟨by rw [a11_len]; rfl, h2⟩
 have HOf : Hid (∀ W A c, Rd W 1 A 1 [.int .i64 6] → Calls Tryz.prog 40 #[.slice A 1 c] W fun r w' => r = .returned (.agg #[.int .i64 1, .int .i64 0, .int .u64 6, .int .i64 6, .int .i64 6]) ∧ Below W.heap.size W w') := fun W A c hrd => ofone_any 6 (by unfold in64; omega) A c W hrd
 unfold polV at HW
 go_enter Tryz.func7, Tryz.ntmps7
 go_wp2_with fail
 refine (HW.out w).mono ?_
 rintro r w1 ⟨⟨A1, c1, rfl, hc1, r1⟩, b1⟩
 have O1 := Lib.hid ((Own.start w).below b1)
 have R1 := Lib.hid r1
 clear b1 r1
 go_wp2_with fail
 refine (HN.out A1 c1 w1 hc1 R1.out).mono ?_
 rintro r w2 ⟨⟨t, rfl, T2⟩, b2⟩
 have O2 := Lib.hid (O1.out.below b2)
 obtain ⟨F, T2⟩ := T2.on
 have HT2 := Lib.hid T2
 clear b2 T2
 go_wp2_with fail
 have HT2b := Lib.hid (HT2.out.fr0 (Fr.none_alloc w2 (.cells #[.string a11N, .int .i64 21, .int .i64 4, .string a11N, .int .i64 25, .int .i64 6] 95)))
 refine (HP.out t _ F _ _ _ HT2b.out (Rd.newS rfl _ _ 2 3 rfl)).mono ?_
 rintro r w3 ⟨rfl, T3, f3⟩
 have O3 : Hid (Below w.heap.size w w3) := (O2.out.skip (Fr.none_alloc _ _)).bel.trans (f3.below_of (Nat.le_trans O2.out.bel.size (by simp)) (fun j hj => Nat.le_trans O1.out.bel.size (HT2.out.ge j hj).1))
 have HT3 := Lib.hid T3
 clear T3 f3 HT2b
 go_wp2_with fail
 refine (HA.out t _ w3 HT3.out.at_).mono ?_
 rintro r w4 ⟨⟨A4, c4, rfl, R4⟩, b4⟩
 have HT4 := Lib.hid (HT3.out.fr0 (Fr.b0 b4))
 have O4 : Hid (Own w w4 (fun _ => False)) := (show Own w w3 (fun _ => False) from ⟨O3.out, fun _ h => h.elim⟩).below b4
 have HR4 := Lib.hid R4
 clear b4 R4
 go_wp2_with fail
 obtain ⟨W1, hW1⟩ : ∃ W1, W1 = w4.alloc (.cells #[.int .i64 0, .slice A4 2 c4] 67) := ⟨_, rfl⟩
 rw [← hW1]
 have B1 : Hid (Blk W1 w4.heap.size 67 #[.int .i64 0, .slice A4 2 c4]) := hW1 ▸ Blk.new w4 67 #[.int .i64 0, .slice A4 2 c4]
 have F1 : Hid (Fr (fun _ => False) w4 W1) := hW1 ▸ Fr.none_alloc _ _
 clear hW1
 obtain ⟨ad, _, rfl, _⟩ := HR4.out.rec_ (k := 0) (by omega)
 have HC : Hid (∀ W, Fr (fun _ => False) W1 W → W.cell? ⟨w4.heap.size, 0, none⟩ = some (.int .i64 0) ∧ W.cell? ⟨w4.heap.size, 1, none⟩ = some (.slice (some ad) 2 c4) ∧ W.cell? ⟨t, 0, none⟩ = some (.int .i64 25) ∧ W.cell? ⟨ad.block, ad.off + 1, none⟩ = some (.int .i64 21) ∧ W.cell? ⟨ad.block, ad.off + 9, none⟩ = some (.int .i64 1) ∧ W.cell? ⟨ad.block, ad.off + 10, none⟩ = some (.int .i64 0) ∧ W.cell? ⟨ad.block, ad.off + 11, none⟩ = some (.int .u64 6) ∧ W.cell? ⟨ad.block, ad.off + 12, none⟩ = some (.int .i64 6) ∧ W.cell? ⟨ad.block, ad.off + 13, none⟩ = some (.int .i64 6)) := fun W f => by
  have R := (HR4.out.fr0 F1.out).fr0 f
  obtain ⟨ad', e, hc⟩ := R.2 (by omega)
  injection e with e
  subst e
  have B2 := B1.out.fr f (fun h => h)
  obtain ⟨A, c, B, d, T, ct, tb, hi⟩ := ((HT4.out.fr0 F1.out).fr0 f).at_
  have k0 := hi.blk.cell 0
  rw [a11_now] at k0
  refine ⟨B2.cell 0, B2.cell 1, k0, ?_, ?_, ?_, ?_, ?_, ?_⟩
  ·exact hc 1 _ rfl
  ·exact hc 9 _ rfl
  ·exact hc 10 _ rfl
  ·exact hc 11 _ rfl
  ·exact hc 12 _ rfl
  ·exact hc 13 _ rfl
 have HL : Hid (∀ W, Fr (fun _ => False) W1 W → Calls Tryz.prog 41 #[.pointer (some ⟨t, 0, none⟩)] W fun r w' => r = .returned (.int .i64 3) ∧ W = w') := fun W f => HL0.out t _ W ((HT4.out.fr0 F1.out).fr0 f).at_
 have hq := a11_aggeq
 clear HW HN HP HA HL0
 refine wp_region_held_drew (S := fun W => Fr (fun _ => False) W1 W) (by kernel_rfl) ((Fr.refl _ W1).drew) (fun hHeld => ?_)
 refine tl 0 ?v1 rfl ?q1 ?r1
 case q1 => intro W hSw; go_simp; try rfl
 refine tl 1 ?v2 rfl ?q2 ?r2
 case q2 => intro W hSw; (try obtain ⟨z0, z1, z2, z3, z4, z5, z6, z7, z8⟩ := HC.out W hSw); go_simp; try rfl
 refine tl 2 ?v3 rfl ?q3 ?r3
 case q3 => intro W hSw; go_simp; try rfl
 try simp only [Act.put, sA, sB, sC]
 refine tl 3 ?v4 rfl ?q4 ?r4
 case q4 => intro W hSw; go_simp; try rfl
 try simp only [Act.put, sA, sB, sC]
 refine tl 4 ?v5 rfl ?q5 ?r5
 case q5 => intro W hSw; (try obtain ⟨z0, z1, z2, z3, z4, z5, z6, z7, z8⟩ := HC.out W hSw); go_simp; try rfl
 try simp only [Act.put, sA, sB, sC]
 refine tl 5 ?v6 rfl ?q6 ?r6
 case q6 => intro W hSw; (try obtain ⟨z0, z1, z2, z3, z4, z5, z6, z7, z8⟩ := HC.out W hSw); go_simp; try rfl
 refine tl 6 ?v7 rfl ?q7 ?r7
 case q7 => intro W hSw; go_simp; try rfl
 refine tl 7 ?v8 rfl ?q8 ?r8
 case q8 => intro W hSw; go_simp; try rfl
 try simp only [Act.put, sA, sB, sC]
 refine tl 8 ?v9 rfl ?q9 ?r9
 case q9 => intro W hSw; go_simp; try rfl
 try simp only [Act.put, sA, sB, sC]
 refine tl 9 ?v10 rfl ?q10 ?r10
 case q10 => intro W hSw; (try obtain ⟨z0, z1, z2, z3, z4, z5, z6, z7, z8⟩ := HC.out W hSw); go_simp; try rfl
 try simp only [Act.put, sA, sB, sC]
 refine tl 10 ?v11 rfl ?q11 ?r11
 case q11 => intro W hSw; (try obtain ⟨z0, z1, z2, z3, z4, z5, z6, z7, z8⟩ := HC.out W hSw); go_simp; try rfl
 try simp only [Act.put, sA, sB, sC]
 refine tl 11 ?v12 rfl ?q12 ?r12
 case q12 => intro W hSw; (try obtain ⟨z0, z1, z2, z3, z4, z5, z6, z7, z8⟩ := HC.out W hSw); go_simp; try rfl
 refine tl 12 ?v13 rfl ?q13 ?r13
 case q13 => intro W hSw; go_simp; try rfl
 refine tl 13 ?v14 rfl ?q14 ?r14
 case q14 => intro W hSw; go_simp; try rfl
 try simp only [Act.put, sA, sB, sC]
 refine tl 14 ?v15 rfl ?q15 ?r15
 case q15 => intro W hSw; go_simp; try rfl
 try simp only [Act.put, sA, sB, sC]
 refine tl 15 ?v16 rfl ?q16 ?r16
 case q16 => intro W hSw; (try obtain ⟨z0, z1, z2, z3, z4, z5, z6, z7, z8⟩ := HC.out W hSw); go_simp; try rfl
 try simp only [Act.put, sA, sB, sC]
 refine tl 16 ?v17 rfl ?q17 ?r17
 case q17 => intro W hSw; (try obtain ⟨z0, z1, z2, z3, z4, z5, z6, z7, z8⟩ := HC.out W hSw); go_simp; try rfl
 try simp only [Act.put, sA, sB, sC]
 refine tl 17 ?v18 rfl ?q18 ?r18
 case q18 => intro W hSw; go_simp; try rfl
 try simp only [Act.put, sA, sB, sC]
 refine tl 18 ?v19 rfl ?q19 ?r19
 case q19 => intro W hSw; (try obtain ⟨z0, z1, z2, z3, z4, z5, z6, z7, z8⟩ := HC.out W hSw); go_simp; try rfl
 try simp only [Act.put, sA, sB, sC]
 refine tl 19 ?v20 rfl ?q20 ?r20
 case q20 => intro W hSw; (try obtain ⟨z0, z1, z2, z3, z4, z5, z6, z7, z8⟩ := HC.out W hSw); go_simp; try rfl
 refine tl 20 ?v21 rfl ?q21 ?r21
 case q21 => intro W hSw; go_simp; try rfl
 refine tl 21 ?v22 rfl ?q22 ?r22
 case q22 => intro W hSw; go_simp; try rfl
 try simp only [Act.put, sA, sB, sC]
 refine tl 22 ?v23 rfl ?q23 ?r23
 case q23 => intro W hSw; go_simp; try rfl
 try simp only [Act.put, sA, sB, sC]
 refine tl 23 ?v24 rfl ?q24 ?r24
 case q24 => intro W hSw; (try obtain ⟨z0, z1, z2, z3, z4, z5, z6, z7, z8⟩ := HC.out W hSw); go_simp; try rfl
 try simp only [Act.put, sA, sB, sC]
 refine tl 24 ?v25 rfl ?q25 ?r25
 case q25 => intro W hSw; (try obtain ⟨z0, z1, z2, z3, z4, z5, z6, z7, z8⟩ := HC.out W hSw); go_simp; try rfl
 try simp only [Act.put, sA, sB, sC]
 refine tl 25 ?v26 rfl ?q26 ?r26
 case q26 => intro W hSw; go_simp; try rfl
 try simp only [Act.put, sA, sB, sC]
 refine tl 26 ?v27 rfl ?q27 ?r27
 case q27 => intro W hSw; (try obtain ⟨z0, z1, z2, z3, z4, z5, z6, z7, z8⟩ := HC.out W hSw); go_simp; try rfl
 try simp only [Act.put, sA, sB, sC]
 refine rl 27 rfl (fun K hK => ?_)
 go_simp
 refine hK.out _ _ ((Fr.none_alloc W1 _).drew) (fun hHeld => ?_)
 clear hK K
 try simp only [Act.put, sA, sB, sC]
 refine rl 28 rfl (fun K hK => ?_)
 go_simp
 go_wp2_with (first | (go_at_call 40; refine (HOf.out _ _ _ (Rd.newS (w := W1) (k := W1.heap.size) rfl _ _ 1 1 rfl).drew).mono ?_; rintro r w6 ⟨rfl, b6⟩))
 refine hK.out _ _ (hHeld.trans (Fr.b0 b6) (fun _ h => h.elim)) (fun hHeld => ?_)
 clear hK K
 try simp only [Act.put, sA, sB, sC]
 refine tl 29 ?v28 rfl ?q28 ?r28
 case q28 => intro W hSw; (try obtain ⟨z0, z1, z2, z3, z4, z5, z6, z7, z8⟩ := HC.out W hSw); go_simp; try rfl
 refine tl 30 ?v29 rfl ?q29 ?r29
 case q29 => intro W hSw; go_simp; try rfl
 refine tl 31 ?v30 rfl ?q30 ?r30
 case q30 => intro W hSw; go_simp; try rfl
 try simp only [Act.put, sA, sB, sC]
 refine tl 32 ?v31 rfl ?q31 ?r31
 case q31 => intro W hSw; go_simp; try rfl
 try simp only [Act.put, sA, sB, sC]
 refine rl 33 rfl (fun K hK => ?_)
 go_simp
 go_wp2_with (first | (go_at_call 41; refine (HL.out _ hHeld).mono ?_; rintro r w7 ⟨rfl, rfl⟩))
 refine hK.out _ _ (hHeld) (fun hHeld => ?_)
 clear hK K
 try simp only [Act.put, sA, sB, sC]
 refine tl 34 ?v32 rfl ?q32 ?r32
 case q32 => intro W hSw; (try obtain ⟨z0, z1, z2, z3, z4, z5, z6, z7, z8⟩ := HC.out W hSw); go_simp; try rfl
 refine tl 35 ?v33 rfl ?q33 ?r33
 case q33 => intro W hSw; go_simp; try rfl
 refine tl 36 ?v34 rfl ?q34 ?r34
 case q34 => intro W hSw; go_simp; try rfl
 try simp only [Act.put, sA, sB, sC]
 refine tl 37 ?v35 rfl ?q35 ?r35
 case q35 => intro W hSw; go_simp; try rfl
 try simp only [Act.put, sA, sB, sC]
 refine tl 38 ?v36 rfl ?q36 ?r36
 case q36 => intro W hSw; go_simp; try rfl
 try simp only [Act.put, sA, sB, sC]
 refine tl 39 ?v37 rfl ?q37 ?r37
 case q37 => intro W hSw; go_simp; try rfl
 try simp only [Act.put, sA, sB, sC]
 refine tl 40 ?v38 rfl ?q38 ?r38
 case q38 => intro W hSw; go_simp; try rfl
 try simp only [Act.put, sA, sB, sC]
 refine tl 41 ?v39 rfl ?q39 ?r39
 case q39 => intro W hSw; (try obtain ⟨z0, z1, z2, z3, z4, z5, z6, z7, z8⟩ := HC.out W hSw); go_simp; try rfl
 try simp only [Act.put, sA, sB, sC]
 refine tl 42 ?v40 rfl ?q40 ?r40
 case q40 => intro W hSw; (try obtain ⟨z0, z1, z2, z3, z4, z5, z6, z7, z8⟩ := HC.out W hSw); go_simp; try rfl
 refine tl 43 ?v41 rfl ?q41 ?r41
 case q41 => intro W hSw; go_simp; try rfl
 refine tl 44 ?v42 rfl ?q42 ?r42
 case q42 => intro W hSw; (try obtain ⟨z0, z1, z2, z3, z4, z5, z6, z7, z8⟩ := HC.out W hSw); go_simp; try rfl
 try simp only [Act.put, sA, sB, sC]
 refine wpAnyH_done (by kernel_rfl) ?_ _
 go_wp2_with fail
 go_ret
 exact ⟨rfl, (O4.out.skip (F1.out.trans hHeld (fun _ h => h.elim))).bel⟩
end Go.Proofs.YtbblmmneeafhgaaGreat
