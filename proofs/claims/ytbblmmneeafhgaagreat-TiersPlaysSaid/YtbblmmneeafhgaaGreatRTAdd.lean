/- Walks of the document: Reach.Cover, Takes. -/
import Derived.Test.YtbblmmneeafhgaaGreatRefView
import Derived.Test.YtbblmmneeafhgaaGreatRefGrid
import Derived.Test.YtbblmmneeafhgaaGreatReachC
import Derived.Test.YtbblmmneeafhgaaGreatRefAdd
import Derived.Test.YtbblmmneeafhgaaGreatTiersAsk
import Derived.Test.YtbblmmneeafhgaaGreatTk
namespace Go.Proofs.YtbblmmneeafhgaaGreat
set_option linter.all false
open Go.RowKit

set_option maxRecDepth 100000 in
set_option maxHeartbeats 4000000 in
theorem rcover_any (now : Int) (hnow : i64 now) (nm : ByteArray) (l : List TierV) (A : Option Addr) (n c : Nat) (fl : List Int) (B : Option Addr) (m d : Nat) (t : Int) (w : World) (hr : Rd w 4 A n (tcells l)) (hf : Rd w 1 B m (ints fl)) (hwf : ∀ t ∈ l, t.wf) (hn : n ≤ 1099511627776) :
  Calls Tryz.prog 72 #[reachV now nm A n c B m d, .int .i64 t] w fun r w' => r = .returned (.int .i64 (coverV now l fl t)) ∧ Below w.heap.size w w' := by
 have HV : Hid (∀ (k : Nat), k < n → ∀ W, Fr (fun _ => False) w W → Calls Tryz.prog 64 #[.agg #[.int .i64 now, .string nm, .slice A n c, .slice B m d], .int .i64 k] W fun r w'' => r = .returned (.int .i64 (fromV now l fl k)) ∧ Below W.heap.size W w'') := fun k hk W h => ref_from_any now hnow nm l A n c fl B m d k W (hr.fr0 h) (hf.fr0 h) hwf hk hn
 unfold reachV
 have Hr := Lib.hid hr
 have Hlen := Lib.hid hr.tiers_len
 have Hwf := Lib.hid hwf
 obtain ⟨W1, hW1⟩ : ∃ W1, W1 = w.alloc (.cells #[.int .i64 now, .string nm, .slice A n c, .slice B m d] 110) := ⟨_, rfl⟩
 have HW1 := Lib.hid hW1
 have B1 : Hid (Blk W1 w.heap.size 110 #[.int .i64 now, .string nm, .slice A n c, .slice B m d]) := hW1 ▸ Blk.new _ _ _
 have F1 : Hid (Fr (fun _ => False) w W1) := by show Fr _ _ _; rw [hW1]; exact Fr.none_alloc _ _
 clear hW1 hr hf hwf
 go_enter Tryz.func72, Tryz.ntmps72
 go_wp2_with fail
 rw [← HW1.out]
 go_loopw [5] (fun i wr => ∃ k : Nat, k ≤ n ∧ i = .int .i64 k ∧ (∀ j, j < k → t < fromV now l fl j) ∧ Fr (fun _ => False) W1 wr) (fun i _ => n - (intOf i).toNat)
 case atStart => exact ⟨0, Nat.zero_le _, rfl, fun j hj => absurd hj (Nat.not_lt_zero _), Fr.refl _ _⟩
 case round =>
  obtain ⟨k, hk, rfl, hb, hfr⟩ := hrel
  have Hb := Lib.hid hb
  have Hfr := Lib.hid hfr
  have B2 := Lib.hid (B1.out.fr hfr (fun h => h))
  clear hb hfr
  have a0 := B2.out.cell 0
  have a1 := B2.out.cell 1
  have a2 := B2.out.cell 2
  have a3 := B2.out.cell 3
  simp only [List.getElem?_toArray, List.getElem?_cons_succ, List.getElem?_cons_zero] at a0 a1 a2 a3
  by_cases hlt : k < n
  ·have HVk := Lib.hid (HV.out k hlt wr (F1.out.trans Hfr.out (fun _ h => h.elim)))
   by_cases hle : fromV now l fl k ≤ t
   ·have hc := cover_first (by rw [Hlen.out]; exact hlt) hle (fun j hj => by have := Hb.out j hj; omega)
    obtain ⟨fv, hfv⟩ : ∃ fv, fromV now l fl k = fv := ⟨_, rfl⟩
    rw [hfv] at HVk hle
    have HCv := Lib.hid hc
    have hled : decide (fv ≤ t) = true := decide_eq_true hle
    clear hfv hc
    go_wp2_with fail
    refine HVk.out.mono ?_
    rintro r w3 ⟨rfl, b3⟩
    have O3 := Lib.hid ((F1.out.trans Hfr.out (fun _ h => h.elim)).trans (Fr.b0 b3) (fun _ h => h.elim))
    clear b3
    go_wp2_with fail
    go_ret
    exact ⟨by rw [HCv.out]; rfl, O3.out.below (fun _ h => h.elim)⟩
   ·have hb2 : ∀ j, j < k + 1 → t < fromV now l fl j := fun j hj => by
     by_cases e : j = k
     ·rw [e]; omega
     ·exact Hb.out j (by omega)
    have Hb2 := Lib.hid hb2
    obtain ⟨fv, hfv⟩ : ∃ fv, fromV now l fl k = fv := ⟨_, rfl⟩
    rw [hfv] at HVk hle
    have hled : decide (fv ≤ t) = false := decide_eq_false hle
    clear hfv hb2
    go_wp2_with fail
    refine HVk.out.mono ?_
    rintro r w3 ⟨rfl, b3⟩
    have O3 := Lib.hid (Hfr.out.trans (Fr.b0 b3) (fun _ h => h.elim))
    clear b3
    go_wp2_with fail
    go_roundw
    case rel => exact ⟨k + 1, by omega, by go_num, Hb2.out, O3.out⟩
    case measure => simp [intOf]; omega
  ·obtain rfl : k = n := by omega
   have hc := cover_none (now := now) (l := l) (fl := fl) (t := t) (fun j hj => by have := Hb.out j (by rw [← Hlen.out]; exact hj); omega)
   rw [Hlen.out] at hc
   have HCv := Lib.hid hc
   have hw : IntKind.i64.wrap ((k : Int) - 1) = (k : Int) - 1 := by simp [IntKind.wrap, IntKind.signed, IntKind.bits]; omega
   clear hc
   go_wp2_with fail
   go_ret
   exact ⟨by rw [HCv.out]; rfl, (F1.out.trans Hfr.out (fun _ h => h.elim)).below (fun _ h => h.elim)⟩

set_option maxRecDepth 100000 in
set_option maxHeartbeats 4000000 in
theorem rtakes_any (now : Int) (hnow : i64 now) (nm : ByteArray) (l : List TierV) (A : Option Addr) (n c : Nat) (fl : List Int) (B : Option Addr) (m d : Nat) (s : SampV) (hs : s.name.size ≤ maxLen) (w : World) (hr : Rd w 4 A n (tcells l)) (hf : Rd w 1 B m (ints fl)) (hwf : ∀ t ∈ l, t.wf) (hn : n ≤ 1099511627776) :
  Calls Tryz.prog 138 #[reachV now nm A n c B m d, s.val] w fun r w' => r = .returned (.int .i64 (takesV now l fl s)) ∧ Below w.heap.size w w' := by
 obtain ⟨sn, st, sv⟩ := s
 have HF0 : Hid (∀ W, Fr (fun _ => False) w W → Calls Tryz.prog 64 #[.agg #[.int .i64 now, .string nm, .slice A n c, .slice B m d], .int .i64 0] W fun r w' => r = .returned (.int .i64 (fromI now l fl 0)) ∧ Below W.heap.size W w') := fun W h => ref_fromI_any now hnow nm l A n c fl B m d 0 W (hr.fr0 h) (hf.fr0 h) hwf hn
 have HNm : Hid (∀ W, Calls Tryz.prog 130 #[.string sn] W fun r w' => r = .returned (.bool (validB sn)) ∧ W = w') := fun W => rvalid_any sn hs W
 have Hlen := Lib.hid hr.tiers_len
 obtain ⟨W1, hW1⟩ : ∃ W1, W1 = (w.alloc (.cells #[.int .i64 now, .string nm, .slice A n c, .slice B m d] 110)).alloc (.cells #[.string sn, .int .i64 st, .int .i64 sv] 95) := ⟨_, rfl⟩
 have HW1 := Lib.hid hW1
 have FW : Hid (Fr (fun _ => False) w W1) := by show Fr _ _ _; rw [hW1]; exact (Fr.none_alloc _ _).trans (Fr.none_alloc _ _) (fun _ h => h.elim)
 have B1 : Blk W1 w.heap.size 110 #[.int .i64 now, .string nm, .slice A n c, .slice B m d] := by rw [hW1]; exact (Blk.new _ _ _).alloc _
 have B2 : Blk W1 (w.heap.size + 1) 95 #[.string sn, .int .i64 st, .int .i64 sv] := by rw [hW1]; exact Blk.new' (by simp) _ _
 have HC : Hid (∀ W, Fr (fun _ => False) W1 W → W.cell? ⟨w.heap.size, 0, none⟩ = some (.int .i64 now) ∧ W.cell? ⟨w.heap.size, 1, none⟩ = some (.string nm) ∧ W.cell? ⟨w.heap.size, 2, none⟩ = some (.slice A n c) ∧ W.cell? ⟨w.heap.size, 3, none⟩ = some (.slice B m d) ∧ W.cell? ⟨w.heap.size + 1, 0, none⟩ = some (.string sn) ∧ W.cell? ⟨w.heap.size + 1, 1, none⟩ = some (.int .i64 st) ∧ W.cell? ⟨w.heap.size + 1, 2, none⟩ = some (.int .i64 sv)) := fun W f => by
  have b := B1.fr f (fun h => h)
  have b2 := B2.fr f (fun h => h)
  exact ⟨b.cell 0, b.cell 1, b.cell 2, b.cell 3, b2.cell 0, b2.cell 1, b2.cell 2⟩
 unfold reachV SampV.val takesV
 rw [Hlen.out]
 dsimp only
 clear hr hf hwf hW1 B1 B2
 cases hv : validB sn with
 | false =>
  rw [hv] at HNm
  rw [if_neg (by simp)]
  clear hv
  obtain ⟨a0, a1, a2, a3, t0, t1, t2⟩ := HC.out W1 (Fr.refl _ _)
  go_enter Tryz.func138, Tryz.ntmps138
  go_wp2_with fail
  rw [← HW1.out]
  refine (HNm.out _).mono ?_
  rintro r w2 ⟨rfl, rfl⟩
  go_wp2_with fail
  go_ret
  exact ⟨rfl, FW.out.below (fun _ h => h.elim)⟩
 | true =>
 rw [hv] at HNm
 clear hv
 by_cases h0 : st < 0
 case pos =>
  rw [if_neg (by simp; omega)]
  have h0d : decide (st < 0) = true := decide_eq_true h0
  obtain ⟨a0, a1, a2, a3, t0, t1, t2⟩ := HC.out W1 (Fr.refl _ _)
  go_enter Tryz.func138, Tryz.ntmps138
  go_wp2_with fail
  rw [← HW1.out]
  refine (HNm.out _).mono ?_
  rintro r w2 ⟨rfl, rfl⟩
  go_wp2_with fail
  go_ret
  exact ⟨rfl, FW.out.below (fun _ h => h.elim)⟩
 case neg =>
 rw [if_pos ⟨rfl, by omega⟩]
 have h0d : decide (st < 0) = false := decide_eq_false h0
 by_cases hnw : now < st
 case pos =>
  rw [if_pos hnw]
  have hnd : decide (now < st) = true := decide_eq_true hnw
  obtain ⟨a0, a1, a2, a3, t0, t1, t2⟩ := HC.out W1 (Fr.refl _ _)
  go_enter Tryz.func138, Tryz.ntmps138
  go_wp2_with fail
  rw [← HW1.out]
  refine (HNm.out _).mono ?_
  rintro r w2 ⟨rfl, rfl⟩
  go_wp2_with fail
  go_ret
  exact ⟨rfl, FW.out.below (fun _ h => h.elim)⟩
 case neg =>
 rw [if_neg hnw]
 have hnd : decide (now < st) = false := decide_eq_false hnw
 by_cases hn0 : n = 0
 case pos =>
  subst hn0
  rw [if_neg (by simp)]
  obtain ⟨a0, a1, a2, a3, t0, t1, t2⟩ := HC.out W1 (Fr.refl _ _)
  go_enter Tryz.func138, Tryz.ntmps138
  go_wp2_with fail
  rw [← HW1.out]
  refine (HNm.out _).mono ?_
  rintro r w2 ⟨rfl, rfl⟩
  go_wp2_with fail
  refine wp_region_held_drew (S := fun W => Fr (fun _ => False) W1 W) (by kernel_rfl) ((Fr.refl _ W1).drew) (fun hHeld => ?_)
  refine tl 0 ?v1 rfl ?q1 ?r1
  case q1 => intro W hSw; go_simp; try rfl
  refine tl 1 ?v2 rfl ?q2 ?r2
  case q2 => intro W hSw; go_simp; try rfl
  refine tl 2 ?v3 rfl ?q3 ?r3
  case q3 => intro W hSw; (try obtain ⟨a0, a1, a2, a3, t0, t1, t2⟩ := HC.out W hSw); go_simp; try rfl
  refine tl 3 ?v4 rfl ?q4 ?r4
  case q4 => intro W hSw; (try obtain ⟨a0, a1, a2, a3, t0, t1, t2⟩ := HC.out W hSw); go_simp; try rfl
  refine tl 4 ?v5 rfl ?q5 ?r5
  case q5 => intro W hSw; (try obtain ⟨a0, a1, a2, a3, t0, t1, t2⟩ := HC.out W hSw); go_simp; try rfl
  refine tl 5 ?v6 rfl ?q6 ?r6
  case q6 => intro W hSw; go_simp; try rfl
  try simp only [Act.put, sA, sB, sC]
  refine tu 6 rfl ?_
  try simp only [Act.put, sA, sB, sC]
  refine tu 7 rfl ?_
  try simp only [Act.put, sA, sB, sC]
  refine tu 8 rfl ?_
  try simp only [Act.put, sA, sB, sC]
  refine tu 9 rfl ?_
  try simp only [Act.put, sA, sB, sC]
  refine tu 10 rfl ?_
  refine tl 11 ?v7 rfl ?q7 ?r7
  case q7 => intro W hSw; go_simp; try rfl
  try simp only [Act.put, sA, sB, sC]
  refine wpAnyH_done (by kernel_rfl) ?_ _
  have Fh := Lib.hid hHeld
  clear hHeld
  go_wp2_with fail
  go_ret
  exact ⟨rfl, (FW.out.trans Fh.out (fun _ h => h.elim)).below (fun _ h => h.elim)⟩
 case neg =>
 have hn1 : ¬ (n : Int) = 0 := by omega
 have hn2 : ((n : Int) == 0) = false := by rw [beq_eq_false_iff_ne]; exact hn1
 obtain ⟨fv, hfv⟩ : ∃ v, fromI now l fl 0 = v := ⟨_, rfl⟩
 rw [hfv] at HF0 ⊢
 clear hfv
 by_cases hle : fv ≤ st
 case pos =>
  rw [if_pos ⟨by omega, hle⟩]
  have hld : decide (st < fv) = false := decide_eq_false (by omega)
  obtain ⟨a0, a1, a2, a3, t0, t1, t2⟩ := HC.out W1 (Fr.refl _ _)
  go_enter Tryz.func138, Tryz.ntmps138
  go_wp2_with fail
  rw [← HW1.out]
  refine (HNm.out _).mono ?_
  rintro r w2 ⟨rfl, rfl⟩
  go_wp2_with fail
  refine wp_region_held_drew (S := fun W => Fr (fun _ => False) W1 W) (by kernel_rfl) ((Fr.refl _ W1).drew) (fun hHeld => ?_)
  refine tl 0 ?v8 rfl ?q8 ?r8
  case q8 => intro W hSw; go_simp; try rfl
  refine tl 1 ?v9 rfl ?q9 ?r9
  case q9 => intro W hSw; go_simp; try rfl
  refine tl 2 ?v10 rfl ?q10 ?r10
  case q10 => intro W hSw; (try obtain ⟨a0, a1, a2, a3, t0, t1, t2⟩ := HC.out W hSw); go_simp; try rfl
  refine tl 3 ?v11 rfl ?q11 ?r11
  case q11 => intro W hSw; (try obtain ⟨a0, a1, a2, a3, t0, t1, t2⟩ := HC.out W hSw); go_simp; try rfl
  refine tl 4 ?v12 rfl ?q12 ?r12
  case q12 => intro W hSw; (try obtain ⟨a0, a1, a2, a3, t0, t1, t2⟩ := HC.out W hSw); go_simp; try rfl
  refine tl 5 ?v13 rfl ?q13 ?r13
  case q13 => intro W hSw; go_simp; try rfl
  try simp only [Act.put, sA, sB, sC]
  refine tl 6 ?v14 rfl ?q14 ?r14
  case q14 => intro W hSw; go_simp; try rfl
  try simp only [Act.put, sA, sB, sC]
  refine tl 7 ?v15 rfl ?q15 ?r15
  case q15 => intro W hSw; (try obtain ⟨a0, a1, a2, a3, t0, t1, t2⟩ := HC.out W hSw); go_simp; try rfl
  try simp only [Act.put, sA, sB, sC]
  refine tl 8 ?v16 rfl ?q16 ?r16
  case q16 => intro W hSw; (try obtain ⟨a0, a1, a2, a3, t0, t1, t2⟩ := HC.out W hSw); go_simp; try rfl
  try simp only [Act.put, sA, sB, sC]
  refine rl 9 rfl (fun K hK => ?_)
  go_simp
  go_wp2_with (first | (go_at_call 64; refine (HF0.out _ (FW.out.trans hHeld (fun _ h => h.elim))).mono ?_; rintro r wa ⟨rfl, ba⟩))
  refine hK.out _ _ (hHeld.trans (Fr.b0 ba) (fun _ h => h.elim)) (fun hHeld => ?_)
  clear hK K
  try simp only [Act.put, sA, sB, sC]
  refine tl 10 ?v17 rfl ?q17 ?r17
  case q17 => intro W hSw; (try obtain ⟨a0, a1, a2, a3, t0, t1, t2⟩ := HC.out W hSw); go_simp; try rfl
  refine tl 11 ?v18 rfl ?q18 ?r18
  case q18 => intro W hSw; go_simp; try rfl
  try simp only [Act.put, sA, sB, sC]
  refine wpAnyH_done (by kernel_rfl) ?_ _
  have Fh := Lib.hid hHeld
  clear hHeld ba
  go_wp2_with fail
  go_ret
  exact ⟨rfl, (FW.out.trans Fh.out (fun _ h => h.elim)).below (fun _ h => h.elim)⟩
 case neg =>
 rw [if_neg (fun h => hle h.2)]
 have hld : decide (st < fv) = true := decide_eq_true (by omega)
 obtain ⟨a0, a1, a2, a3, t0, t1, t2⟩ := HC.out W1 (Fr.refl _ _)
 go_enter Tryz.func138, Tryz.ntmps138
 go_wp2_with fail
 rw [← HW1.out]
 refine (HNm.out _).mono ?_
 rintro r w2 ⟨rfl, rfl⟩
 go_wp2_with fail
 refine wp_region_held_drew (S := fun W => Fr (fun _ => False) W1 W) (by kernel_rfl) ((Fr.refl _ W1).drew) (fun hHeld => ?_)
 refine tl 0 ?v19 rfl ?q19 ?r19
 case q19 => intro W hSw; go_simp; try rfl
 refine tl 1 ?v20 rfl ?q20 ?r20
 case q20 => intro W hSw; go_simp; try rfl
 refine tl 2 ?v21 rfl ?q21 ?r21
 case q21 => intro W hSw; (try obtain ⟨a0, a1, a2, a3, t0, t1, t2⟩ := HC.out W hSw); go_simp; try rfl
 refine tl 3 ?v22 rfl ?q22 ?r22
 case q22 => intro W hSw; (try obtain ⟨a0, a1, a2, a3, t0, t1, t2⟩ := HC.out W hSw); go_simp; try rfl
 refine tl 4 ?v23 rfl ?q23 ?r23
 case q23 => intro W hSw; (try obtain ⟨a0, a1, a2, a3, t0, t1, t2⟩ := HC.out W hSw); go_simp; try rfl
 refine tl 5 ?v24 rfl ?q24 ?r24
 case q24 => intro W hSw; go_simp; try rfl
 try simp only [Act.put, sA, sB, sC]
 refine tl 6 ?v25 rfl ?q25 ?r25
 case q25 => intro W hSw; go_simp; try rfl
 try simp only [Act.put, sA, sB, sC]
 refine tl 7 ?v26 rfl ?q26 ?r26
 case q26 => intro W hSw; (try obtain ⟨a0, a1, a2, a3, t0, t1, t2⟩ := HC.out W hSw); go_simp; try rfl
 try simp only [Act.put, sA, sB, sC]
 refine tl 8 ?v27 rfl ?q27 ?r27
 case q27 => intro W hSw; (try obtain ⟨a0, a1, a2, a3, t0, t1, t2⟩ := HC.out W hSw); go_simp; try rfl
 try simp only [Act.put, sA, sB, sC]
 refine rl 9 rfl (fun K hK => ?_)
 go_simp
 go_wp2_with (first | (go_at_call 64; refine (HF0.out _ (FW.out.trans hHeld (fun _ h => h.elim))).mono ?_; rintro r wa ⟨rfl, ba⟩))
 refine hK.out _ _ (hHeld.trans (Fr.b0 ba) (fun _ h => h.elim)) (fun hHeld => ?_)
 clear hK K
 try simp only [Act.put, sA, sB, sC]
 refine tl 10 ?v28 rfl ?q28 ?r28
 case q28 => intro W hSw; (try obtain ⟨a0, a1, a2, a3, t0, t1, t2⟩ := HC.out W hSw); go_simp; try rfl
 refine tl 11 ?v29 rfl ?q29 ?r29
 case q29 => intro W hSw; go_simp; try rfl
 try simp only [Act.put, sA, sB, sC]
 refine wpAnyH_done (by kernel_rfl) ?_ _
 have Fh := Lib.hid hHeld
 clear hHeld ba
 go_wp2_with fail
 go_ret
 exact ⟨rfl, (FW.out.trans Fh.out (fun _ h => h.elim)).below (fun _ h => h.elim)⟩
end Go.Proofs.YtbblmmneeafhgaaGreat
namespace Go.Proofs.YtbblmmneeafhgaaGreat
set_option linter.all false
open Go.RowKit

def uptoL {α : Type} (n : Nat) (f g : Nat → α) (i : Nat) : List α := (List.range n).map fun k => if k < i then f k else g k
section
variable {α : Type} {n i : Nat} {f g : Nat → α}
theorem uptoL_len : (uptoL n f g i).length = n := by unfold uptoL; simp
theorem uptoL_zero : uptoL n f g 0 = (List.range n).map g := by unfold uptoL; simp
theorem uptoL_all : uptoL n f g n = (List.range n).map f := by
 unfold uptoL
 refine List.map_congr_left fun k hk => ?_
 rw [if_pos (List.mem_range.1 hk)]
theorem uptoL_get (h : i < n) : (uptoL n f g i)[i]? = some (g i) := by
 unfold uptoL
 rw [List.getElem?_map, List.getElem?_range h]
 simp
theorem uptoL_set (h : i < n) : (uptoL n f g i).set i (f i) = uptoL n f g (i + 1) := by
 apply List.ext_getElem?
 intro j
 by_cases e : i = j
 ·subst e
  rw [List.getElem?_set_self (by rw [uptoL_len]; exact h)]
  unfold uptoL
  rw [List.getElem?_map, List.getElem?_range h]
  simp
 ·rw [List.getElem?_set_ne e]
  unfold uptoL
  rw [List.getElem?_map, List.getElem?_map]
  by_cases hj : j < n
  ·rw [List.getElem?_range hj]
   simp only [Option.map_some]
   by_cases h1 : j < i
   ·rw [if_pos h1, if_pos (by omega)]
   ·rw [if_neg h1, if_neg (by omega)]
  ·rw [List.getElem?_eq_none (by simpa using hj)]
   rfl
end
theorem getD_all {tabs : List (List RecV)} {n : Nat} (h : tabs.length = n) : (List.range n).map (fun k => tabs.getD k []) = tabs := by
 apply List.ext_getElem?
 intro j
 rw [List.getElem?_map]
 by_cases hj : j < n
 ·rw [List.getElem?_range hj, List.getElem?_eq_getElem (by omega)]
  simp [List.getD_eq_getElem?_getD, List.getElem?_eq_getElem (show j < tabs.length by omega)]
 ·rw [List.getElem?_eq_none (by simpa using hj), List.getElem?_eq_none (by omega)]
  rfl

section
variable {W W' : World} {p lo : Nat} {F F' G : Nat → Prop} {every : Int} {l : List RecV}
theorem RTabF.mono (h : RTabF W p lo F every l) (hm : ∀ j, F j → j < W.heap.size → F' j) : RTabF W p lo F' every l := by
 obtain ⟨⟨A, c, h1, h2, h3⟩, h4, h5, h6⟩ := h
 exact ⟨⟨A, c, h1, h2, fun j hj => hm j (h3 j hj) (h2.lt j hj).2⟩, h4, h5, h6⟩
theorem RTabF.fr (h : RTabF W p lo F every l) (f : Fr G W W') (hp : ¬ G p) (hG : ∀ j, F j → ¬ G j) : RTabF W' p lo F every l := by
 obtain ⟨⟨A, c, h1, h2, h3⟩, h4, h5, h6⟩ := h
 exact ⟨⟨A, c, h1.fr f hp, own_fr h2 f (fun j hj => hG j (h3 j hj)), h3⟩, h4, h5, h6⟩
theorem RTabF.other {q : Nat} {cs : Array Value} (h : RTabF W p lo F every l) (hq : Blk W q 116 cs) (f : Fr (fun j => j = q) W W') (hp : p ≠ q) : RTabF W' p lo F every l := by
 obtain ⟨⟨A, c, h1, h2, h3⟩, h4, h5, h6⟩ := h
 exact ⟨⟨A, c, h1.fr f hp, own_fr h2 f (fun j hj e => own_blk_ne h2 hq (by decide) (by rw [← e]; exact hj)), h3⟩, h4, h5, h6⟩
end

def rptrs (P : List Nat) : List Value := P.map fun p => .pointer (some ⟨p, 0, none⟩)
structure RTiersOn (W : World) (g lo : Nat) (F : Nat → Prop) (X : TiersX) (A : Option Addr) (c : Nat) (B : Option Addr) (d : Nat) (T : Option Addr) (ct : Nat) (P : List Nat) : Prop where
 blk : Blk W g 113 #[.int .i64 X.now, .string X.name, .slice A X.tiers.length c, .slice B X.floors.length d, .slice T X.tiers.length ct]
 row : W.ownsRow lo 114 1 (.slice T X.tiers.length ct) X.tiers.length (rptrs P)
 tlen : X.tabs.length = X.tiers.length
 tab : ∀ (i p : Nat) (x : TierV) (l : List RecV), P[i]? = some p → X.tiers[i]? = some x → X.tabs[i]? = some l → RTabF W p lo F x.every l
 inj : P.Nodup
 fg : F g
 fp : ∀ p ∈ P, F p
 ft : ∀ j, rowF (.slice T X.tiers.length ct) j → F j
 ge : ∀ j, F j → lo ≤ j ∧ j < W.heap.size
 rt : ∀ W', Fr (fun j => lo ≤ j) W W' → Rd W' 4 A X.tiers.length (tcells X.tiers)
 rf : ∀ W', Fr (fun j => lo ≤ j) W W' → Rd W' 1 B X.floors.length (ints X.floors)
section
variable {W W' : World} {g lo : Nat} {F G : Nat → Prop} {X : TiersX} {A B T : Option Addr} {c d ct : Nat} {P : List Nat}
theorem RTiersOn.len (h : RTiersOn W g lo F X A c B d T ct P) : P.length = X.tiers.length := by
 have := h.row.1
 unfold rptrs at this
 rw [List.length_map] at this
 omega
theorem RTiersOn.fr (h : RTiersOn W g lo F X A c B d T ct P) (f : Fr G W W') (hG : ∀ j, G j → lo ≤ j ∧ ¬ F j) : RTiersOn W' g lo F X A c B d T ct P :=
 have hn : ∀ j, F j → ¬ G j := fun j hj hg => (hG j hg).2 hj
 ⟨h.blk.fr f (hn _ h.fg), own_fr h.row f (fun j hj => hn j (h.ft j hj)), h.tlen, fun i p x l h1 h2 h3 => (h.tab i p x l h1 h2 h3).fr f (hn _ (h.fp p (List.mem_of_getElem? h1))) hn, h.inj, h.fg, h.fp, h.ft,
  fun j hj => ⟨(h.ge j hj).1, Nat.lt_of_lt_of_le (h.ge j hj).2 f.size⟩, fun W2 f2 => h.rt W2 ((f.mono (fun i hi => .inl (hG i hi).1)).trans f2 (fun _ h => .inl h)), fun W2 f2 => h.rf W2 ((f.mono (fun i hi => .inl (hG i hi).1)).trans f2 (fun _ h => .inl h))⟩
theorem RTiersOn.fr0 (h : RTiersOn W g lo F X A c B d T ct P) (f : Fr (fun _ => False) W W') : RTiersOn W' g lo F X A c B d T ct P := h.fr f (fun _ h => h.elim)
theorem RTiersOn.at_ (h : RTiersOn W g lo F X A c B d T ct P) {k : Nat} (hk : k < X.tiers.length) : ∃ p x l, P[k]? = some p ∧ X.tiers[k]? = some x ∧ X.tabs[k]? = some l :=
 ⟨_, _, _, List.getElem?_eq_getElem (by rw [h.len]; exact hk), List.getElem?_eq_getElem hk, List.getElem?_eq_getElem (by rw [h.tlen]; exact hk)⟩
theorem RTiersOn.rd (h : RTiersOn W g lo F X A c B d T ct P) : Rd W 4 A X.tiers.length (tcells X.tiers) ∧ Rd W 1 B X.floors.length (ints X.floors) := ⟨h.rt W (Fr.refl _ W), h.rf W (Fr.refl _ W)⟩
theorem RTiersOn.lo_le (h : RTiersOn W g lo F X A c B d T ct P) : lo ≤ W.heap.size := by have := h.ge g h.fg; omega
theorem RTiersOn.put (h : RTiersOn W g lo F X A c B d T ct P) {k p : Nat} {x : TierV} {l l' : List RecV} (hp : P[k]? = some p) (hx : X.tiers[k]? = some x) (hl : X.tabs[k]? = some l) (ht : RTabF W' p lo (fun j => F j ∨ W.heap.size ≤ j) x.every l') (f : Fr (fun j => j = p) W W') :
  RTiersOn W' g lo (fun j => F j ∨ (W.heap.size ≤ j ∧ j < W'.heap.size)) { X with tabs := X.tabs.set k l' } A c B d T ct P := by
 obtain ⟨⟨A1, c1, b1, _, _⟩, _, _, _⟩ := h.tab k p x l hp hx hl
 have hlo := h.lo_le
 have hpm := List.mem_of_getElem? hp
 have hfp : Fr (fun j => lo ≤ j) W W' := f.mono (fun i hi => .inl (by rw [hi]; exact (h.ge p (h.fp p hpm)).1))
 refine ⟨h.blk.fr f (h.blk.ne_ b1 (by decide)), own_fr h.row f (fun j hj e => own_blk_ne h.row b1 (by decide) (by rw [← e]; exact hj)), by simpa using h.tlen, fun i q y m h1 h2 h3 => ?_, h.inj, .inl h.fg, fun q hq => .inl (h.fp q hq), fun j hj => .inl (h.ft j hj), fun j hj => ?_, fun W2 f2 => h.rt W2 (hfp.trans f2 (fun _ h => .inl h)), fun W2 f2 => h.rf W2 (hfp.trans f2 (fun _ h => .inl h))⟩
 ·by_cases e : k = i
  ·subst e
   obtain rfl : p = q := Option.some.inj (hp.symm.trans h1)
   obtain rfl : x = y := Option.some.inj (hx.symm.trans h2)
   have hk : k < X.tabs.length := (List.getElem?_eq_some_iff.1 hl).1
   have h3' : (X.tabs.set k l')[k]? = some m := h3
   rw [List.getElem?_set_self hk] at h3'
   obtain rfl : l' = m := Option.some.inj h3'
   exact ht.mono (fun j hj hlt => hj.imp id (fun h => ⟨h, hlt⟩))
  ·have h3' : (X.tabs.set k l')[i]? = some m := h3
   rw [List.getElem?_set_ne e] at h3'
   have hne : q ≠ p := fun e2 => by
    subst e2
    exact e ((List.getElem?_inj (List.getElem?_eq_some_iff.1 hp).1 h.inj).1 (hp.trans h1.symm))
   exact ((h.tab i q y m h1 h2 h3').other b1 f hne).mono (fun j hj _ => .inl hj)
 ·have := f.size
  rcases hj with hj | hj
  ·have := h.ge j hj; omega
  ·omega
end
end Go.Proofs.YtbblmmneeafhgaaGreat
namespace Go.Proofs.YtbblmmneeafhgaaGreat
set_option linter.all false
open Go.RowKit

def RtAt (w W : World) (g lo : Nat) (F : Nat → Prop) (X : TiersX) (A : Option Addr) (c : Nat) (B : Option Addr) (d : Nat) (T : Option Addr) (ct : Nat) (P : List Nat) : Prop := ∃ F', RTiersOn W g lo F' X A c B d T ct P ∧ Mv F F' w W
set_option maxRecDepth 100000 in
set_option maxHeartbeats 6000000 in
theorem rtadd_any (g lo : Nat) (F : Nat → Prop) (X : TiersX) (A : Option Addr) (c : Nat) (B : Option Addr) (d : Nat) (T : Option Addr) (ct : Nat) (P : List Nat) (s : SampV) (hs : s.wf) (w : World) (h : RTiersOn w g lo F X A c B d T ct P) (hn : X.tiers.length ≤ 1000) (hl : ∀ m ∈ X.tabs, m.length ≤ 1000000) (hnow : i64 X.now) (hwf : ∀ x ∈ X.tiers, x.wf) :
  Calls Tryz.prog 60 #[.pointer (some ⟨g, 0, none⟩), s.val] w fun r w' => r = .returned (.tuple #[]) ∧ RtAt w w' g lo F { X with tabs := addT X X.tabs s } A c B d T ct P := by
 obtain ⟨s0, s1, s2⟩ := s
 obtain ⟨hs1, hs2, hs0⟩ := hs
 obtain ⟨n, hn0⟩ : ∃ n, X.tiers.length = n := ⟨_, rfl⟩
 obtain ⟨mf, hmf⟩ : ∃ m, X.floors.length = m := ⟨_, rfl⟩
 obtain ⟨now, hnw0⟩ : ∃ v, X.now = v := ⟨_, rfl⟩
 obtain ⟨nm, hnm0⟩ : ∃ v, X.name = v := ⟨_, rfl⟩
 have Hn := Lib.hid hn0
 have Hmf := Lib.hid hmf
 have Hnw := Lib.hid hnw0
 have Hnm := Lib.hid hnm0
 rw [hn0] at hn
 have HWf := Lib.hid hwf
 have HL := Lib.hid hl
 have H := Lib.hid h
 have hgs : g ≠ w.heap.size := by have := (h.ge g h.fg).2; omega
 obtain ⟨sb, hsb⟩ : ∃ v, w.heap.size = v := ⟨_, rfl⟩
 rw [hsb] at hgs
 obtain ⟨W1, hW1⟩ : ∃ W1, W1 = w.alloc (.cells #[.string s0, .int .i64 s1, .int .i64 s2] 95) := ⟨_, rfl⟩
 have F1 : Hid (Fr (fun _ => False) w W1) := by show Fr _ _ _; rw [hW1]; exact Fr.none_alloc _ _
 have B1 : Hid (Blk W1 sb 95 #[.string s0, .int .i64 s1, .int .i64 s2]) := by show Blk _ _ _ _; rw [hW1, ← hsb]; exact Blk.new _ _ _
 have HsF : Hid (∀ j, F j → j ≠ sb) := fun j hj e => by have := (H.out.ge j hj).2; omega
 have Htl : Hid (X.tabs.length = n) := by show _ = _; rw [h.tlen, hn0]
 have H1 := Lib.hid (H.out.fr0 F1.out)
 have e0 : uptoL n (fun k => stepL X ⟨s0, s1, s2⟩ k (X.tabs.getD k [])) (fun k => X.tabs.getD k []) 0 = X.tabs := by rw [uptoL_zero]; exact getD_all Htl.out
 have eN : uptoL n (fun k => stepL X ⟨s0, s1, s2⟩ k (X.tabs.getD k [])) (fun k => X.tabs.getD k []) n = addT X X.tabs ⟨s0, s1, s2⟩ := by rw [uptoL_all]; unfold addT; rw [hn0]
 have H0 : Hid (RtAt W1 W1 g lo F { X with tabs := uptoL n (fun k => stepL X ⟨s0, s1, s2⟩ k (X.tabs.getD k [])) (fun k => X.tabs.getD k []) 0 } A c B d T ct P) := by
  show RtAt _ _ _ _ _ _ _ _ _ _ _ _ _
  rw [e0]
  exact ⟨F, H1.out, Mv.refl _ _⟩
 rw [← eN]
 unfold SampV.val
 simp only
 have HfIn : Hid (∀ k x, X.tiers[k]? = some x → ∀ a, stepL X ⟨s0, s1, s2⟩ k a = if (startV X.now X.tiers X.floors k s1).2 then addV x.every a ⟨s0, (startV X.now X.tiers X.floors k s1).1, aggOne s2⟩ else a) := fun k x hx a => by unfold stepL; rw [hx]
 have HgLen : Hid (∀ k, (X.tabs.getD k []).length ≤ 1000000) := fun k => getD_len HL.out k
 obtain ⟨f, hf⟩ : ∃ f : Nat → List RecV, (fun k => stepL X ⟨s0, s1, s2⟩ k (X.tabs.getD k [])) = f := ⟨_, rfl⟩
 obtain ⟨gg, hgg⟩ : ∃ f : Nat → List RecV, (fun k => X.tabs.getD k []) = f := ⟨_, rfl⟩
 have Hf : Hid (∀ k, f k = stepL X ⟨s0, s1, s2⟩ k (gg k)) := fun k => by rw [← hf, ← hgg]
 have Hgl : Hid (∀ k, (gg k).length ≤ 1000000) := fun k => by rw [← hgg]; exact HgLen.out k
 rw [hf, hgg] at H0 ⊢
 clear hf hgg e0 eN h hl hwf hn0 hmf hnw0 hnm0 HgLen HL
 have HW1 := Lib.hid hW1
 clear hW1
 have Hsb := Lib.hid hsb
 clear hsb
 have Fw : Hid (∀ wr, Mv F F W1 wr → True) := fun _ _ => trivial
 clear Fw
 go_enter Tryz.func60, Tryz.ntmps60
 go_wp2_with fail
 rw [← HW1.out]
 try rw [Hsb.out]
 go_loopw [4] (fun s4 wr => ∃ k : Nat, k ≤ n ∧ s4 = .int .i64 k ∧ RtAt W1 wr g lo F { X with tabs := uptoL n f gg k } A c B d T ct P) (fun s4 _ => n - (intOf s4).toNat)
 case atStart => exact ⟨0, Nat.zero_le _, rfl, H0.out⟩
 case round =>
  obtain ⟨k, hk, rfl, ⟨F', ht, hmv⟩⟩ := hrel
  have HT := Lib.hid ht
  have HM := Lib.hid hmv
  clear ht hmv H0
  have hb := HT.out.blk
  have hgt : Hid (∀ {W : World}, Fr (fun _ => False) wr W → Blk W g 113 #[.int .i64 now, .string nm, .slice A n c, .slice B mf d, .slice T n ct]) := fun f => by
   have := hb.fr f (fun h => h)
   simp only at this
   rw [Hn.out, Hmf.out, Hnw.out, Hnm.out] at this
   exact this
  have c4 := (hgt.out (Fr.refl _ wr)).cell 4
  simp only [List.getElem?_toArray, List.getElem?_cons_succ, List.getElem?_cons_zero] at c4
  by_cases hlt : k < n
  ·obtain ⟨p, x, l0, hp, hx, hl0⟩ := HT.out.at_ (k := k) (by show _ < X.tiers.length; rw [Hn.out]; exact hlt)
   have hl1 : l0 = gg k := by
    have h2 : (uptoL n f gg k)[k]? = some l0 := hl0
    rw [uptoL_get hlt] at h2
    exact (Option.some.inj h2).symm
   subst hl1
   have hx' : X.tiers[k]? = some x := hx
   have hrow := (own_any HT.out.row).2.2.1
   simp only at hrow
   rw [Hn.out] at hrow
   obtain ⟨ad, p', rfl, hp', cp⟩ := hrow.at_map hlt
   obtain rfl : p = p' := Option.some.inj (hp.symm.trans hp')
   have hTb := HT.out.tab k p x (gg k) hp hx hl0
   obtain ⟨⟨A9, c9, b9, _, _⟩, _, _, _⟩ := hTb
   have hpg : p ≠ g := b9.ne_ hb (by decide)
   have hps : p ≠ sb := by
    have hpF' := HT.out.fp p (List.mem_of_getElem? hp)
    have bs := B1.out.fr HM.out.fr (fun h => HsF.out _ h rfl)
    exact b9.ne_ bs (by decide)
   have hpa : p ≠ (ad.add k).block := fun e => by
    rw [block_of_add] at e
    exact own_blk_ne HT.out.row b9 (by decide) (by rw [e]; rfl)
   have HCp : Hid (∀ W, Fr (fun j => j = p) wr W → W.cell? ⟨g, 0, none⟩ = some (.int .i64 now) ∧ W.cell? ⟨g, 1, none⟩ = some (.string nm) ∧ W.cell? ⟨g, 2, none⟩ = some (.slice A n c) ∧ W.cell? ⟨g, 3, none⟩ = some (.slice B mf d) ∧ W.cell? ⟨g, 4, none⟩ = some (.slice (some ad) n ct) ∧ W.cell? ⟨sb, 0, none⟩ = some (.string s0) ∧ W.cell? ⟨sb, 1, none⟩ = some (.int .i64 s1) ∧ W.cell? ⟨sb, 2, none⟩ = some (.int .i64 s2) ∧ W.cell? (ad.add k) = some (.pointer (some ⟨p, 0, none⟩))) := fun W f => by
    have b := (hgt.out (Fr.refl _ wr)).fr f hpg.symm
    have bs := (B1.out.fr HM.out.fr (fun h => HsF.out _ h rfl)).fr f hps.symm
    exact ⟨b.cell 0, b.cell 1, b.cell 2, b.cell 3, b.cell 4, bs.cell 0, bs.cell 1, bs.cell 2, f.cell cp hpa.symm⟩
   have HC : Hid (∀ W, Fr (fun _ => False) wr W → W.cell? ⟨g, 0, none⟩ = some (.int .i64 now) ∧ W.cell? ⟨g, 1, none⟩ = some (.string nm) ∧ W.cell? ⟨g, 2, none⟩ = some (.slice A n c) ∧ W.cell? ⟨g, 3, none⟩ = some (.slice B mf d) ∧ W.cell? ⟨g, 4, none⟩ = some (.slice (some ad) n ct) ∧ W.cell? ⟨sb, 0, none⟩ = some (.string s0) ∧ W.cell? ⟨sb, 1, none⟩ = some (.int .i64 s1) ∧ W.cell? ⟨sb, 2, none⟩ = some (.int .i64 s2) ∧ W.cell? (ad.add k) = some (.pointer (some ⟨p, 0, none⟩))) := fun W f => HCp.out W (f.mono (fun _ h => h.elim))
   have HSt : Hid (∀ W, Fr (fun _ => False) wr W → Calls Tryz.prog 139 #[.agg #[.int .i64 now, .string nm, .slice A n c, .slice B mf d], .int .i64 k, .int .i64 s1] W fun r w' => r = .returned (.tuple #[.int .i64 (startV X.now X.tiers X.floors k s1).1, .bool (startV X.now X.tiers X.floors k s1).2]) ∧ Below W.heap.size W w') := fun W f => by
    obtain ⟨r1, r2⟩ := (HT.out.fr0 f).rd
    simp only at r1 r2
    rw [Hn.out] at r1
    rw [Hmf.out] at r2
    have := rstart_any now (by rw [← Hnw.out]; exact hnow) nm X.tiers A n c X.floors B mf d k s1 hs1 W r1 r2 HWf.out (by omega)
    rw [Hnw.out]
    exact this
   have HOn : Hid (∀ W, Calls Tryz.prog 140 #[.int .i64 s2] W fun r w' => r = .returned (aggOne s2).val ∧ Below W.heap.size W w') := fun W => rone_any s2 hs2 W
   have Hfk := Hf.out k
   rw [HfIn.out k x hx'] at Hfk
   have hsin : in64 (startV X.now X.tiers X.floors k s1).1 := by
    unfold startV
    split
    ·split
     ·exact floor_in hs1.1 hs1.2
     ·simp [in64]
    ·simp [in64]
   have hag := aggOne_wf hs2
   have Hnx : Hid ((uptoL n f gg k).set k (f k) = uptoL n f gg (k + 1)) := uptoL_set hlt
   have Hsame : Hid (f k = gg k → uptoL n f gg (k + 1) = uptoL n f gg k) := fun e => by rw [← Hnx.out, e]; exact set_same (uptoL_get hlt)
   obtain ⟨sv, hsv⟩ : ∃ v, (startV X.now X.tiers X.floors k s1).1 = v := ⟨_, rfl⟩
   obtain ⟨bv, hbv⟩ : ∃ v, (startV X.now X.tiers X.floors k s1).2 = v := ⟨_, rfl⟩
   rw [hsv, hbv] at HSt Hfk
   rw [hsv] at hsin
   have HAd : Hid (bv = true → ∀ W, Fr (fun _ => False) wr W → Calls Tryz.prog 66 #[.pointer (some ⟨p, 0, none⟩), (⟨s0, sv, aggOne s2⟩ : RecV).val] W fun r' w' => r' = .returned (.bool (rightR x.every ⟨s0, sv, aggOne s2⟩)) ∧ RtAt W1 w' g lo F { X with tabs := uptoL n f gg (k + 1) } A c B d (some ad) ct P ∧ Fr (fun j => j = p) W w') := fun hb W fw => by
    rw [hb, if_pos rfl] at Hfk
    have hT := HT.out.fr0 fw
    refine (radd_anyF p lo F' x.every (gg k) ⟨s0, sv, aggOne s2⟩ ⟨hsin, hag, hs0⟩ W (hT.tab k p x (gg k) hp hx hl0) hT.lo_le (by have := Hgl.out k; omega)).mono ?_
    rintro r' w' ⟨rfl, t2, f2⟩
    rw [← Hfk] at t2
    have h2 := hT.put hp hx hl0 t2 f2
    simp only at h2
    rw [Hnx.out] at h2
    refine ⟨rfl, ⟨_, h2, HM.out.trans ⟨fw.mono (fun _ h => h.elim) |>.trans f2 (fun i hi => .inl (by rw [hi]; exact HT.out.fp p (List.mem_of_getElem? hp))), fun j hj => ?_⟩⟩, f2⟩
    rcases hj with hj | hj
    ·exact .inl hj
    ·exact .inr (Nat.le_trans fw.size hj.1)
   have HNo : Hid (bv = false → ∀ W, Fr (fun _ => False) wr W → RtAt W1 W g lo F { X with tabs := uptoL n f gg (k + 1) } A c B d (some ad) ct P) := fun hb W fw => by
    rw [hb, if_neg (by simp)] at Hfk
    rw [Hsame.out Hfk]
    exact ⟨F', HT.out.fr0 fw, HM.out.skip fw⟩
   obtain ⟨ag, hag2⟩ : ∃ v, aggOne s2 = v := ⟨_, rfl⟩
   rw [hag2] at HAd HOn
   obtain ⟨a1, a2, a3, a4, a5⟩ := ag
   unfold RecV.val at HAd
   unfold AggV.val at HOn
   simp only at HAd HOn
   have d1 : decide ((k : Int) < (n : Int)) = true := decide_eq_true (by omega)
   have d5 : 0 ≤ (k : Int) ∧ (k : Int) < (n : Int) := by omega
   have hqw : IntKind.i64.wrap ((k : Int) + 1) = (k : Int) + 1 := by simp [IntKind.wrap, IntKind.signed, IntKind.bits]; omega
   have Hps := Lib.hid (And.intro hps (And.intro hpg hpa))
   clear hsv hbv hag hag2 hsin Hfk hp hx hl0 hx' hp' cp b9 hb hpa hps hrow
   go_wp2_with fail
   refine wp_region_held_drew (S := fun W => Fr (fun _ => False) wr W) (by kernel_rfl) ((Fr.refl _ wr).drew) (fun hHeld => ?_)
   refine tl 0 ?v1 rfl ?q1 ?r1
   case q1 => intro W hSw; go_simp; try rfl
   refine tl 1 ?v2 rfl ?q2 ?r2
   case q2 => intro W hSw; go_simp; try rfl
   refine tl 2 ?v3 rfl ?q3 ?r3
   case q3 => intro W hSw; go_simp; try rfl
   refine tl 3 ?v4 rfl ?q4 ?r4
   case q4 => intro W hSw; (try obtain ⟨q0, q1, q2, q3, q4, y0, y1, y2, z0⟩ := HC.out W hSw); go_simp; try rfl
   refine tl 4 ?v5 rfl ?q5 ?r5
   case q5 => intro W hSw; go_simp; try rfl
   refine tl 5 ?v6 rfl ?q6 ?r6
   case q6 => intro W hSw; go_simp; try rfl
   refine tl 6 ?v7 rfl ?q7 ?r7
   case q7 => intro W hSw; (try obtain ⟨q0, q1, q2, q3, q4, y0, y1, y2, z0⟩ := HC.out W hSw); go_simp; try rfl
   try simp only [Act.put, sA, sB, sC]
   refine rl 7 rfl (fun K hK => ?_)
   go_simp
   go_wp2_with (first | (go_at_call 139; refine (HSt.out _ hHeld).mono ?_; rintro r wa ⟨rfl, ba⟩))
   refine hK.out _ _ (hHeld.trans (Fr.b0 ba) (fun _ h => h.elim)) (fun hHeld => ?_)
   clear hK K
   refine tl 8 ?v8 rfl ?q8 ?r8
   case q8 => intro W hSw; go_simp; try rfl
   refine tl 9 ?v9 rfl ?q9 ?r9
   case q9 => intro W hSw; (try obtain ⟨q0, q1, q2, q3, q4, y0, y1, y2, z0⟩ := HC.out W hSw); go_simp; try rfl
   refine tl 10 ?v10 rfl ?q10 ?r10
   case q10 => intro W hSw; (try obtain ⟨q0, q1, q2, q3, q4, y0, y1, y2, z0⟩ := HC.out W hSw); go_simp; try rfl
   refine tl 11 ?v11 rfl ?q11 ?r11
   case q11 => intro W hSw; (try obtain ⟨q0, q1, q2, q3, q4, y0, y1, y2, z0⟩ := HC.out W hSw); go_simp; try rfl
   refine tl 12 ?v12 rfl ?q12 ?r12
   case q12 => intro W hSw; (try obtain ⟨q0, q1, q2, q3, q4, y0, y1, y2, z0⟩ := HC.out W hSw); go_simp; try rfl
   try simp only [Act.put, sA, sB, sC]
   refine wpAnyH_done (by kernel_rfl) ?_ _
   have F8 : Hid (Fr (fun _ => False) wr wa) := hHeld
   clear hHeld ba
   cases bv with
   | false =>
    have HNt := Lib.hid (HNo.out rfl)
    clear HAd HNo
    go_wp2_with fail
    go_roundw
    case rel => exact ⟨k + 1, by omega, by go_num, HNt.out _ F8.out⟩
    case measure => simp [intOf]; omega
   | true =>
    have HAt := Lib.hid (HAd.out rfl)
    clear HNo HAd
    go_wp2_with fail
    obtain ⟨wA, hwA⟩ : ∃ wA, wA = wa := ⟨_, rfl⟩
    rw [← hwA] at F8 ⊢
    clear hwA
    have HC2 : Hid (∀ W, Fr (fun j => j = p) wA W → W.cell? ⟨g, 0, none⟩ = some (.int .i64 now) ∧ W.cell? ⟨g, 1, none⟩ = some (.string nm) ∧ W.cell? ⟨g, 2, none⟩ = some (.slice A n c) ∧ W.cell? ⟨g, 3, none⟩ = some (.slice B mf d) ∧ W.cell? ⟨g, 4, none⟩ = some (.slice (some ad) n ct) ∧ W.cell? ⟨sb, 0, none⟩ = some (.string s0) ∧ W.cell? ⟨sb, 1, none⟩ = some (.int .i64 s1) ∧ W.cell? ⟨sb, 2, none⟩ = some (.int .i64 s2) ∧ W.cell? (ad.add k) = some (.pointer (some ⟨p, 0, none⟩))) := fun W f => HCp.out W ((F8.out.mono (fun _ h => h.elim)).trans f (fun _ h => .inl h))
    refine wp_region_held_drew (S := fun W => Fr (fun j => j = p) wA W) (by kernel_rfl) ((Fr.refl _ wA).drew) (fun hHeld => ?_)
    refine tl 0 ?v13 rfl ?q13 ?r13
    case q13 => intro W hSw; go_simp; try rfl
    refine tl 1 ?v14 rfl ?q14 ?r14
    case q14 => intro W hSw; go_simp; try rfl
    refine tl 2 ?v15 rfl ?q15 ?r15
    case q15 => intro W hSw; go_simp; try rfl
    refine tl 3 ?v16 rfl ?q16 ?r16
    case q16 => intro W hSw; (try obtain ⟨q0, q1, q2, q3, q4, y0, y1, y2, z0⟩ := HC2.out W hSw); go_simp; try rfl
    refine tl 4 ?v17 rfl ?q17 ?r17
    case q17 => intro W hSw; go_simp; try rfl
    refine tl 5 ?v18 rfl ?q18 ?r18
    case q18 => intro W hSw; (try obtain ⟨q0, q1, q2, q3, q4, y0, y1, y2, z0⟩ := HC2.out W hSw); go_simp; try rfl
    refine tl 6 ?v19 rfl ?q19 ?r19
    case q19 => intro W hSw; (try obtain ⟨q0, q1, q2, q3, q4, y0, y1, y2, z0⟩ := HC2.out W hSw); go_simp; try rfl
    refine tl 7 ?v20 rfl ?q20 ?r20
    case q20 => intro W hSw; go_simp; try rfl
    refine tl 8 ?v21 rfl ?q21 ?r21
    case q21 => intro W hSw; (try obtain ⟨q0, q1, q2, q3, q4, y0, y1, y2, z0⟩ := HC2.out W hSw); go_simp; try rfl
    refine tl 9 ?v22 rfl ?q22 ?r22
    case q22 => intro W hSw; go_simp; try rfl
    refine tl 10 ?v23 rfl ?q23 ?r23
    case q23 => intro W hSw; go_simp; try rfl
    refine tl 11 ?v24 rfl ?q24 ?r24
    case q24 => intro W hSw; (try obtain ⟨q0, q1, q2, q3, q4, y0, y1, y2, z0⟩ := HC2.out W hSw); go_simp; try rfl
    try simp only [Act.put, sA, sB, sC]
    refine rl 12 rfl (fun K hK => ?_)
    go_simp
    go_wp2_with (first | (go_at_call 140; refine (HOn.out _).mono ?_; rintro r wb ⟨rfl, bb⟩))
    have fb : Fr (fun _ => False) wA wb := (Fr.refl _ wA).drew.trans (Fr.b0 bb) (fun _ h => h.elim)
    refine hK.out _ _ (hHeld.trans (Fr.b0 bb) (fun _ h => h.elim)) (fun hHeld => ?_)
    clear hK K
    refine tl 13 ?v25 rfl ?q25 ?r25
    case q25 => intro W hSw; (try obtain ⟨q0, q1, q2, q3, q4, y0, y1, y2, z0⟩ := HC2.out W hSw); go_simp; try rfl
    try simp only [Act.put, sA, sB, sC]
    refine rl 14 rfl (fun K hK => ?_)
    go_simp
    go_wp2_with (first | (go_at_call 66; refine (HAt.out _ (F8.out.trans fb (fun _ h => h.elim))).mono ?_; rintro r wc ⟨rfl, tc2, fc⟩))
    have tc2 := Lib.hid tc2
    refine hK.out _ _ (hHeld.trans fc (fun _ h => .inl h)) (fun hHeld => ?_)
    clear hK K
    try simp only [Act.put, sA, sB, sC]
    refine wpAnyH_done (by kernel_rfl) ?_ _
    clear hHeld fc bb
    go_wp2_with fail
    go_roundw
    case rel => exact ⟨k + 1, by omega, by go_num, tc2.out⟩
    case measure => simp [intOf]; omega
  ·obtain rfl : k = n := by omega
   have d1 : decide ((k : Int) < (k : Int)) = false := decide_eq_false (by omega)
   obtain ⟨h1, h2⟩ := (show _ ∧ _ from ⟨HT.out, HM.out⟩)
   have HE : Hid (RtAt w wr g lo F { X with tabs := uptoL k f gg k } A c B d T ct P) := ⟨F', h1, (Mv.of_none F F1.out).trans h2⟩
   clear h1 h2 hb
   go_wp2_with fail
   go_end0
   exact ⟨rfl, HE.out⟩
end Go.Proofs.YtbblmmneeafhgaaGreat
