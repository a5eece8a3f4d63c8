/- Walk of sedimentlaw15.run: steps of one state, others beside it. -/
import Derived.Test.YtkfdgodngbinlaaGreatDoorSts
namespace Go.Proofs.YtkfdgodngbinlaaGreatDoor
set_option linter.all false
open Go.RowKit

theorem set_at {α : Type} {L : List α} {i : Nat} {a : α} (x : α) (hi : L[i]? = some a) : (L.set i x)[i]? = some x := List.getElem?_set_self (List.getElem?_eq_some_iff.1 hi).1
theorem set_same_ {α : Type} : ∀ {L : List α} {i : Nat} {a : α}, L[i]? = some a → L.set i a = L
 | [], _, _, h => by cases h
 | x :: L, 0, a, h => by cases h; rfl
 | x :: L, i + 1, a, h => by
  rw [List.set_cons_succ, set_same_ (L := L) h]
set_option maxRecDepth 100000 in
set_option maxHeartbeats 8000000 in
theorem ss_run {w0 W : World} {lo c g i : Nat} {L : List (Nat × StX)} {Q : StX} (h : Sts W lo L c) (hi : L[i]? = some (g, Q)) (hb0 : Below w0.heap.size w0 W) (hlo : w0.heap.size ≤ lo) (l : List OpS) (A : Option Addr) (n d : Nat) (hr : Rd w0 4 A n (opscells l)) (hok : ∀ o ∈ l, o.ok w0) (htx : ∀ o ∈ l, o.text.size ≤ 4100) (hn : n ≤ 1000) (hc : c + 8 * n ≤ 1000000) (hmx : MaxL w0) :
  Calls Tryz.prog 30 #[.pointer (some ⟨g, 0, none⟩), .slice A n d] W fun r w' => r = .returned (.tuple #[]) ∧ Sts w' lo (L.set i (g, stRun Q l)) (c + 8 * n) ∧ Below lo W w' := by
 have hln : l.length = n := hr.opsS_len
 have HR : Hid (∀ W', Below w0.heap.size w0 W' → Rd W' 4 A n (opscells l)) := fun W' b => hr.below b
 have HO : Hid (∀ W' o, o ∈ l → Below w0.heap.size w0 W' → o.ok W' ∧ (∀ j, adF o.sa o.sn j → j < lo)) := fun W' o ho b => ⟨(hok o ho).below b, fun j hj => Nat.lt_of_lt_of_le ((hok o ho).s.adlt (by decide) j hj) hlo⟩
 have HM : Hid (∀ W', Below w0.heap.size w0 W' → MaxL W') := fun W' b => hmx.below b
 have Htx := Lib.hid htx
 have Hi := Lib.hid hi
 have H0 := Lib.hid h
 have HB0 := Lib.hid hb0
 have Hlo := Lib.hid hlo
 clear hr hok hmx htx hb0 hlo
 go_enter Tryz.func30, Tryz.ntmps30
 go_wp2_with fail
 go_loopw [4] (fun i' wr => ∃ k : Nat, k ≤ n ∧ i' = .int .i64 k ∧ Sts wr lo (L.set i (g, stRun Q (l.take k))) (c + 8 * k) ∧ Below lo W wr) (fun i' _ => n - (intOf i').toNat)
 case atStart =>
  refine ⟨0, Nat.zero_le _, rfl, ?_, Below.refl _ _⟩
  have e : L.set i (g, stRun Q (l.take 0)) = L := set_same_ Hi.out
  rw [e]
  exact H0.out
 case round =>
  obtain ⟨k, hk, rfl, hs, hb⟩ := hrel
  have Hs := Lib.hid hs
  have Hb := Lib.hid hb
  by_cases hlt : k < n
  ·have hbw : Below w0.heap.size w0 wr := HB0.out.trans (hb.mono Hlo.out)
   obtain ⟨ad, o, rfl, ho, a0, a1, a2, a3⟩ := (HR.out wr hbw).opS hlt
   have hom := mem_of_get ho
   have HOk := Lib.hid (HO.out wr o hom hbw)
   have HMx := Lib.hid (HM.out wr hbw)
   have Ht := Lib.hid (Htx.out o hom)
   have hiQ := set_at (g, stRun Q (l.take k)) Hi.out
   have HN : Hid (∀ W', Sts W' lo ((L.set i (g, stRun Q (l.take k))).set i (g, stOp (stRun Q (l.take k)) o)) (c + 8 * k + 8) → Sts W' lo (L.set i (g, stRun Q (l.take (k + 1)))) (c + 8 * (k + 1))) := fun W' h => by
    rw [List.set_set, ← stRun_snoc, ← take_snoc ho] at h
    exact h
   obtain ⟨Qk, hQk⟩ : ∃ v, stRun Q (l.take k) = v := ⟨_, rfl⟩
   rw [hQk] at Hs hiQ HN
   have HiQ := Lib.hid hiQ
   have hkw : IntKind.i64.wrap ((k : Int) + 1) = (k : Int) + 1 := by simp [IntKind.wrap, IntKind.signed, IntKind.bits]; omega
   clear hs hb hbw ho hom hQk hiQ
   by_cases e1 : o.kind = 1
   ·have hd1 : (o.kind == 1) = true := by simpa using e1
    have hop : stOp Qk o = stPut Qk o.sl := by unfold stOp; simp [e1]
    have Hop := Lib.hid hop
    clear hop e1
    have HC := Lib.hid (ss_put Hs.out HiQ.out (by omega) o.sl o.sa o.sn o.sc HOk.out.1.s HOk.out.1.swf HOk.out.2)
    go_wp2_with fail
    refine HC.out.mono ?_
    rintro r w8 ⟨hv, h8, b8⟩
    subst hv
    go_wp2_with fail
    go_roundw
    case rel => exact ⟨k + 1, by omega, by go_num, HN.out w8 (Hop.out ▸ (by first | exact h8 | (have h9 := h8.more (show _ ≤ c + 8 * k + 8 by omega); exact h9))), Hb.out.trans b8⟩
    case measure => simp [intOf]; omega
   by_cases e2 : o.kind = 2
   ·have hd1 : (o.kind == 1) = false := by simpa using e1
    have hd2 : (o.kind == 2) = true := by simpa using e2
    have hop : stOp Qk o = stTick Qk o.n := by unfold stOp; simp [e1, e2]
    have Hop := Lib.hid hop
    clear hop e1 e2
    have HC := Lib.hid (ss_tick Hs.out HiQ.out (by omega) o.n HOk.out.1.n)
    go_wp2_with fail
    refine HC.out.mono ?_
    rintro r w8 ⟨hv, h8, b8⟩
    subst hv
    go_wp2_with fail
    go_roundw
    case rel => exact ⟨k + 1, by omega, by go_num, HN.out w8 (Hop.out ▸ (by first | exact h8 | (have h9 := h8.more (show _ ≤ c + 8 * k + 8 by omega); exact h9))), Hb.out.trans b8⟩
    case measure => simp [intOf]; omega
   by_cases e3 : o.kind = 3
   ·have hd1 : (o.kind == 1) = false := by simpa using e1
    have hd2 : (o.kind == 2) = false := by simpa using e2
    have hd3 : (o.kind == 3) = true := by simpa using e3
    have hop : stOp Qk o = stChange Qk (readV o.text) := by unfold stOp; simp [e1, e2, e3]
    have Hop := Lib.hid hop
    clear hop e1 e2 e3
    have HC := Lib.hid (ss_change Hs.out HiQ.out (by omega) o.text (by have := Ht.out; omega) HMx.out)
    go_wp2_with fail
    refine HC.out.mono ?_
    rintro r w8 ⟨hv, h8, b8⟩
    obtain ⟨kk, rfl, _⟩ := hv
    go_wp2_with fail
    go_roundw
    case rel => exact ⟨k + 1, by omega, by go_num, HN.out w8 (Hop.out ▸ (by first | exact h8 | (have h9 := h8.more (show _ ≤ c + 8 * k + 8 by omega); exact h9))), Hb.out.trans b8⟩
    case measure => simp [intOf]; omega
   by_cases e4 : o.kind = 4
   ·have hd1 : (o.kind == 1) = false := by simpa using e1
    have hd2 : (o.kind == 2) = false := by simpa using e2
    have hd3 : (o.kind == 3) = false := by simpa using e3
    have hd4 : (o.kind == 4) = true := by simpa using e4
    have hop : stOp Qk o = stStep Qk := by unfold stOp; simp [e1, e2, e3, e4]
    have Hop := Lib.hid hop
    clear hop e1 e2 e3 e4
    have HC := Lib.hid (ss_step Hs.out HiQ.out (by omega))
    go_wp2_with fail
    refine HC.out.mono ?_
    rintro r w8 ⟨hv, h8, b8⟩
    subst hv
    go_wp2_with fail
    go_roundw
    case rel => exact ⟨k + 1, by omega, by go_num, HN.out w8 (Hop.out ▸ (by first | exact h8 | (have h9 := h8.more (show _ ≤ c + 8 * k + 8 by omega); exact h9))), Hb.out.trans b8⟩
    case measure => simp [intOf]; omega
   by_cases e5 : o.kind = 5
   ·have hd1 : (o.kind == 1) = false := by simpa using e1
    have hd2 : (o.kind == 2) = false := by simpa using e2
    have hd3 : (o.kind == 3) = false := by simpa using e3
    have hd4 : (o.kind == 4) = false := by simpa using e4
    have hd5 : (o.kind == 5) = true := by simpa using e5
    have hop : stOp Qk o = stAbort Qk := by unfold stOp; simp [e1, e2, e3, e4, e5]
    have Hop := Lib.hid hop
    clear hop e1 e2 e3 e4 e5
    have HC := Lib.hid (ss_abort Hs.out HiQ.out)
    go_wp2_with fail
    refine HC.out.mono ?_
    rintro r w8 ⟨hv, h8, b8⟩
    subst hv
    go_wp2_with fail
    go_roundw
    case rel => exact ⟨k + 1, by omega, by go_num, HN.out w8 (Hop.out ▸ (by first | exact h8 | (have h9 := h8.more (show _ ≤ c + 8 * k + 8 by omega); exact h9))), Hb.out.trans b8⟩
    case measure => simp [intOf]; omega
   ·have hd1 : (o.kind == 1) = false := by simpa using e1
    have hd2 : (o.kind == 2) = false := by simpa using e2
    have hd3 : (o.kind == 3) = false := by simpa using e3
    have hd4 : (o.kind == 4) = false := by simpa using e4
    have hd5 : (o.kind == 5) = false := by simpa using e5
    have hop : stOp Qk o = Qk := by unfold stOp; simp [e1, e2, e3, e4, e5]
    have Hop := Lib.hid hop
    clear hop e1 e2 e3 e4 e5
    go_wp2_with fail
    go_roundw
    case rel => exact ⟨k + 1, by omega, by go_num, HN.out wr (by rw [Hop.out, List.set_set]; exact Hs.out.more (by omega)), Hb.out⟩
    case measure => simp [intOf]; omega
  ·obtain rfl : k = n := by omega
   have e : l.take k = l := take_all (Nat.le_of_eq hln)
   rw [e] at Hs
   clear hs hb e
   go_wp2_with fail
   go_end0
   exact ⟨rfl, Hs.out, Hb.out⟩
end Go.Proofs.YtkfdgodngbinlaaGreatDoor
