/- Walks of oplog.one, oplog.Apply: of one state, others and what is kept beside it. -/
import Derived.Test.YtkfdgodngbinlaaGreatDoorOpAp
namespace Go.Proofs.YtkfdgodngbinlaaGreatDoor
set_option linter.all false
open Go.RowKit

theorem set_at2 {α : Type} {L : List α} {i : Nat} {a : α} (x : α) (hi : L[i]? = some a) : (L.set i x)[i]? = some x := List.getElem?_set_self (List.getElem?_eq_some_iff.1 hi).1
theorem set_same2 {α : Type} : ∀ {L : List α} {i : Nat} {a : α}, L[i]? = some a → L.set i a = L
 | [], _, _, h => by cases h
 | x :: L, 0, a, h => by cases h; rfl
 | x :: L, i + 1, a, h => by
  rw [List.set_cons_succ, set_same2 (L := L) h]
section
variable {W : World} {lo : Nat} {K : Nat → Prop} {L : List (Nat × StX)} {c g i : Nat} {Q : StX}
set_option maxRecDepth 100000 in
set_option maxHeartbeats 8000000 in
theorem opone_any (h : StsK W lo K L c) (hi : L[i]? = some (g, Q)) (hc : c + 8 ≤ 1000000) (o : OpL) (hok : o.ok W) (hA : ∀ j, adF o.sa o.sn j → j < lo ∨ K j) :
  Calls Tryz.prog 69 #[.pointer (some ⟨g, 0, none⟩), .agg #[.int .i64 o.kind, .int .i64 o.n, .slice o.sa o.sn o.sc]] W fun r w' => r = .returned (.int .i64 (one1 Q o.kind o.n o.sl).1) ∧ StsK w' lo K (L.set i (g, (one1 Q o.kind o.n o.sl).2)) (c + 8) ∧ Below lo W w' ∧ Fr (fun j => lo ≤ j ∧ ¬ K j) W w' := by
 have hll := h.lo_le hi
 have f0 : Fr (fun _ => False) W (W.alloc (.cells #[.int .i64 o.kind, .int .i64 o.n, .slice o.sa o.sn o.sc] 80)) := Fr.none_alloc _ _
 have F0 := Lib.hid f0
 have B0 : Hid (Below lo W (W.alloc (.cells #[.int .i64 o.kind, .int .i64 o.n, .slice o.sa o.sn o.sc] 80))) := f0.below_of hll (fun _ h => h.elim)
 have X0 : Blk (W.alloc (.cells #[.int .i64 o.kind, .int .i64 o.n, .slice o.sa o.sn o.sc] 80)) W.heap.size 80 #[.int .i64 o.kind, .int .i64 o.n, .slice o.sa o.sn o.sc] := Blk.new _ _ _
 have x0 := X0.cell 0
 have x1 := X0.cell 1
 have x2 := X0.cell 2
 simp only [List.getElem?_toArray, List.getElem?_cons_succ, List.getElem?_cons_zero] at x0 x1 x2
 have H0 := Lib.hid (h.fr0 f0)
 have HO := Lib.hid (hok.below (f0.below (fun _ h => h.elim)))
 clear h hok f0 X0
 by_cases e1 : o.kind = 1
 ·have hk : (o.kind == 1) = true := by simpa using e1
  have HP := Lib.hid (ssk_put H0.out hi hc o.sl o.sa o.sn o.sc HO.out.s HO.out.swf hA)
  unfold one1
  simp only [if_pos e1]
  clear e1
  go_enter Tryz.func69, Tryz.ntmps69
  go_wp2_with fail
  refine HP.out.mono ?_
  rintro r w1 ⟨rfl, h1, b1, f1⟩
  have HE := Lib.hid (⟨h1, b1, f1⟩ : _ ∧ _ ∧ _)
  clear h1 b1 f1
  go_wp2_with fail
  go_ret
  exact ⟨rfl, HE.out.1, B0.out.trans HE.out.2.1, (F0.out.mono (fun _ h => h.elim)).trans HE.out.2.2 (fun _ h => .inl h)⟩
 ·have hk : (o.kind == 1) = false := by simpa using e1
  have HP := Lib.hid (ssk_tick H0.out hi (by omega) o.n HO.out.n)
  unfold one1
  simp only [if_neg e1]
  clear e1
  go_enter Tryz.func69, Tryz.ntmps69
  go_wp2_with fail
  refine HP.out.mono ?_
  rintro r w1 ⟨rfl, h1, b1, f1⟩
  have HE := Lib.hid (⟨h1, b1, f1⟩ : _ ∧ _ ∧ _)
  clear h1 b1 f1
  go_wp2_with fail
  go_ret
  exact ⟨rfl, HE.out.1.more (by omega), B0.out.trans HE.out.2.1, (F0.out.mono (fun _ h => h.elim)).trans HE.out.2.2 (fun _ h => .inl h)⟩
set_option maxRecDepth 100000 in
set_option maxHeartbeats 8000000 in
theorem opapply_any (h : StsK W lo K L c) (hi : L[i]? = some (g, Q)) (l : List OpL) (A : Option Addr) (n d : Nat) (hR : ∀ W', Fr (fun j => lo ≤ j ∧ ¬ K j) W W' → Rd W' 3 A n (olcells l) ∧ ∀ o ∈ l, o.ok W') (hA : ∀ o ∈ l, o.sn ≤ 1000000 ∧ ∀ j, adF o.sa o.sn j → j < lo ∨ K j) (hn : n ≤ 1000) (hc : c + 8 * n ≤ 1000000) :
  Calls Tryz.prog 37 #[.pointer (some ⟨g, 0, none⟩), .slice A n d] W fun r w' => r = .returned (.tuple #[.int .i64 ((apL l Q).1 : Nat), .int .i64 (apL l Q).2.1]) ∧ StsK w' lo K (L.set i (g, (apL l Q).2.2)) (c + 8 * n) ∧ Below lo W w' ∧ Fr (fun j => lo ≤ j ∧ ¬ K j) W w' := by
 have hln : l.length = n := (hR W (Fr.refl _ _)).1.opL_len
 have HR := Lib.hid hR
 have HA := Lib.hid hA
 have H0 := Lib.hid h
 have Hi := Lib.hid hi
 have HAll : Hid ((apL l Q).2.1 = 0 → (apL l Q).1 = n) := fun h => by rw [apL_all h, hln]
 clear h hR hA
 go_enter Tryz.func37, Tryz.ntmps37
 go_wp2_with fail
 go_loopw [11] (fun s11 wr => ∃ k : Nat, k ≤ n ∧ s11 = .int .i64 k ∧ Hid ((apL (l.take k) Q).2.1 = 0) ∧ StsK wr lo K (L.set i (g, (apL (l.take k) Q).2.2)) (c + 8 * k) ∧ Below lo W wr ∧ Fr (fun j => lo ≤ j ∧ ¬ K j) W wr) (fun s _ => n - (intOf s).toNat)
 case atStart =>
  refine ⟨0, Nat.zero_le _, rfl, rfl, ?_, Below.refl _ _, Fr.refl _ _⟩
  have e : L.set i (g, (apL (l.take 0) Q).2.2) = L := set_same2 Hi.out
  rw [e]
  exact H0.out
 case round =>
  obtain ⟨k, hk, rfl, he0, hs, hb, hf⟩ := hrel
  have He0 := he0
  have Hb := Lib.hid hb
  have Hf := Lib.hid hf
  by_cases hlt : k < n
  ·obtain ⟨ad, o, rfl, ho, a0, a1, a2⟩ := (HR.out wr hf).1.opL hlt
   have hom := mem_of_get ho
   have hkw : IntKind.i64.wrap ((k : Int) + 1) = (k : Int) + 1 := by simp [IntKind.wrap, IntKind.signed, IntKind.bits]; omega
   have hlo := hs.lo_le (set_at2 _ Hi.out)
   have f1 : Fr (fun _ => False) wr (wr.alloc (.cells #[.int .i64 o.kind, .int .i64 o.n, .slice o.sa o.sn o.sc] 80)) := Fr.none_alloc _ _
   have X1 : Hid (Blk (wr.alloc (.cells #[.int .i64 o.kind, .int .i64 o.n, .slice o.sa o.sn o.sc] 80)) wr.heap.size 80 #[.int .i64 o.kind, .int .i64 o.n, .slice o.sa o.sn o.sc]) := Blk.new _ _ _
   have x0 := X1.out.cell 0
   have x1 := X1.out.cell 1
   have x2 := X1.out.cell 2
   simp only [List.getElem?_toArray, List.getElem?_cons_succ, List.getElem?_cons_zero] at x0 x1 x2
   have F1 := Lib.hid (Hf.out.trans f1 (fun _ h => h.elim))
   have B1 := Lib.hid (Hb.out.trans (f1.below_of hlo (fun _ h => h.elim)))
   have S1 := Lib.hid (hs.fr0 f1)
   have HOk : Hid (∀ W', Fr (fun j => lo ≤ j ∧ ¬ K j) W W' → o.ok W') := fun W' f => (HR.out W' f).2 o hom
   have HV := Lib.hid (opvalid_any o.kind o.n o.sl (HOk.out _ F1.out).swf o.sa o.sn o.sc _ (HOk.out _ F1.out).s (HA.out o hom).1)
   have hsn := apL_snoc ho he0.out
   have hst := fun h => apL_stop (Q := Q) ho he0.out h
   have HAo := Lib.hid (HA.out o hom).2
   obtain ⟨Qk, hQk⟩ : ∃ v, (apL (l.take k) Q).2.2 = v := ⟨_, rfl⟩
   rw [hQk] at S1 hsn hst
   have Hsn := Lib.hid hsn
   have Hst := Lib.hid hst
   have hlo1 := S1.out.lo_le (set_at2 _ Hi.out)
   cases hv : opOk o.kind o.n o.sl with
   | false =>
    have e1 : op1 Qk o = (1, Qk) := by unfold op1; rw [hv]; rfl
    have HS := Lib.hid (Hst.out (by rw [e1]; show (1 : Int) ≠ 0; decide))
    rw [e1] at HS
    rw [hv] at HV
    clear hs hb hf f1 ho hom hsn hst hQk hv he0 e1
    go_wp2_with fail
    refine HV.out.mono ?_
    rintro r w2 ⟨rfl, b2⟩
    have HS2 := Lib.hid (S1.out.fr0 (Fr.b0 b2))
    have B2 := Lib.hid (B1.out.trans (b2.mono hlo1))
    have F2 := Lib.hid (F1.out.trans (Fr.b0 b2) (fun _ h => h.elim))
    clear b2 HV x0 x1 x2
    go_wp2_with fail
    go_ret2
    refine ⟨by rw [HS.out]; rfl, ?_, B2.out, F2.out⟩
    rw [HS.out]
    exact HS2.out.more (by omega)
   | true =>
    have e1 : op1 Qk o = one1 Qk o.kind o.n o.sl := by unfold op1; rw [hv]; rfl
    rw [hv] at HV
    rw [e1] at Hsn Hst
    clear hs hb hf f1 ho hsn hst hQk hv he0 e1
    go_wp2_with fail
    refine HV.out.mono ?_
    rintro r w2 ⟨rfl, b2⟩
    have S2 := Lib.hid (S1.out.fr0 (Fr.b0 b2))
    have B2 := Lib.hid (B1.out.trans (b2.mono hlo1))
    have F2 := Lib.hid (F1.out.trans (Fr.b0 b2) (fun _ h => h.elim))
    have X2 := Lib.hid (X1.out.below b2)
    clear x0 x1 x2 a0 a1 a2
    have x0 := X2.out.cell 0
    have x1 := X2.out.cell 1
    have x2 := X2.out.cell 2
    simp only [List.getElem?_toArray, List.getElem?_cons_succ, List.getElem?_cons_zero] at x0 x1 x2
    have HO := Lib.hid (opone_any S2.out (set_at2 _ Hi.out) (by omega) o (HOk.out _ F2.out) HAo.out)
    obtain ⟨E, hE⟩ : ∃ v, (one1 Qk o.kind o.n o.sl).1 = v := ⟨_, rfl⟩
    obtain ⟨Q2, hQ2⟩ : ∃ v, (one1 Qk o.kind o.n o.sl).2 = v := ⟨_, rfl⟩
    rw [hE] at HO Hsn Hst
    rw [hQ2, List.set_set] at HO
    rw [hQ2] at Hsn
    have HSt : Hid (E ≠ 0 → apL l Q = (k, E, Q2)) := fun h => by rw [Hst.out h, ← hE, ← hQ2]
    clear b2 HV hE hQ2 S1 B1 F1 X1 Hst
    go_wp2_with fail
    refine HO.out.mono ?_
    rintro r w3 ⟨rfl, h3, b3, f3⟩
    have S3 := Lib.hid h3
    have B3 := Lib.hid (B2.out.trans b3)
    have F3 := Lib.hid (F2.out.trans f3 (fun _ h => .inl h))
    clear h3 b3 f3 HO x0 x1 x2
    by_cases hE0 : E = 0
    ·subst hE0
     have Hn := Hsn.out
     rw [if_pos rfl] at Hn
     have HN := Lib.hid Hn
     clear Hn Hsn
     go_wp2_with fail
     go_roundw
     case rel => exact ⟨k + 1, by omega, by go_num, (show (apL (l.take (k + 1)) Q).2.1 = 0 by rw [HN.out]), (by rw [HN.out]; exact S3.out), B3.out, F3.out⟩
     case measure => simp [intOf]; omega
    ·have hE1 : (E != 0) = true := by simpa using hE0
     have HS := Lib.hid (HSt.out hE0)
     clear HSt Hsn
     go_wp2_with fail
     go_ret2
     refine ⟨by rw [HS.out]; rfl, ?_, B3.out, F3.out⟩
     rw [HS.out]
     exact S3.out.more (by omega)
  ·obtain rfl : k = n := by omega
   have e : l.take k = l := take_all (Nat.le_of_eq hln)
   rw [e] at hs
   have He : Hid ((apL l Q).2.1 = 0) := by
    have h := he0.out
    rw [e] at h
    exact h
   have Hs := Lib.hid hs
   have HN := Lib.hid (HAll.out He.out)
   clear hs hb hf e he0
   go_wp2_with fail
   go_ret2
   exact ⟨by rw [HN.out, He.out]; rfl, Hs.out, Hb.out, Hf.out⟩
end
end Go.Proofs.YtkfdgodngbinlaaGreatDoor
