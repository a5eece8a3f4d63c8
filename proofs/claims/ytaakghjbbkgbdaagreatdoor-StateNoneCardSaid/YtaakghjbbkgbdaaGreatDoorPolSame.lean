/- Tiers and ints compared: walks of sedimentbook.SameTiers, SameInts. -/
import Derived.Test.YtaakghjbbkgbdaaGreatDoorSame
import Derived.Test.YtaakghjbbkgbdaaGreatDoorFrom
import Derived.Test.YtaakghjbbkgbdaaGreatDoorTiersCopy
import Derived.Test.YtaakghjbbkgbdaaGreatDoorTioA
import Derived.Test.YtaakghjbbkgbdaaGreatDoorTk
namespace Go.Proofs.YtaakghjbbkgbdaaGreatDoor
set_option linter.all false
open Go.RowKit

def tierEq (x y : TierV) : Bool := (x.name.toList == y.name.toList) && ((x.every == y.every) && ((x.keep == y.keep) && (x.shards == y.shards)))
theorem tierEq_iff (x y : TierV) : tierEq x y = true ↔ x = y := by
 obtain ⟨a, b, c, d⟩ := x
 obtain ⟨a', b', c', d'⟩ := y
 unfold tierEq
 simp only [Bool.and_eq_true, beq_iff_eq, TierV.mk.injEq]
 exact ⟨fun h => ⟨toList_inj h.1, h.2⟩, fun h => ⟨by rw [h.1], h.2⟩⟩
instance tierDec : DecidableEq TierV := fun x y => if h : tierEq x y = true then isTrue ((tierEq_iff x y).1 h) else isFalse fun e => h ((tierEq_iff x y).2 e)
theorem tcells_append (a b : List TierV) : tcells (a ++ b) = tcells a ++ tcells b := by simp [tcells]
end Go.Proofs.YtaakghjbbkgbdaaGreatDoor
namespace Go.Proofs.YtaakghjbbkgbdaaGreatDoor
set_option linter.all false
open Go.RowKit

theorem eqrec_inS (x y : RecV) (w : World) : (Op.equalIn 10000 208 x.val y.val).run Tryz.prog w = .ok (recEq x y) w := by
 have hu : Tryz.prog.underlying 208 = some (.struct (Tryz.prog.fieldsOf 208)) := by kernel_rfl
 have hp : Tryz.prog.stoodInHeld 208 = false := by kernel_rfl
 have hf : (Tryz.prog.fieldsOf 208).toList = [⟨"Name", 9, 0, false, "", "", 0⟩, ⟨"Start", 3, 1, false, "", "", 16⟩, ⟨"Agg", 206, 2, false, "", "", 24⟩] := by kernel_rfl
 have hA := run_eqagg 9997 x.agg y.agg
 unfold AggV.val at hA
 unfold RecV.val recEq
 rw [run_equalIn_struct (P := Tryz.prog) w 9999 _ _ _ hu hp, hf]
 simp [Op.eqFields, hA, eqs_string 9998, eqs_int 9998, part]
 by_cases h1 : x.name.toList = y.name.toList <;> by_cases h2 : x.start = y.start <;> cases aggEq x.agg y.agg <;> simp [h1, h2]
theorem recNeS_true {x y : RecV} (h : x = y) (w : World) : (binOp .neq 208 x.val y.val).run Tryz.prog w = .ok (.bool false) w := by
 have h2 := eqrec_inS x y w
 unfold RecV.val at h2 ⊢
 rw [run_neq_struct, h2, (recEq_iff x y).2 h]
 rfl
theorem recNeS_false {x y : RecV} (h : x ≠ y) (w : World) : (binOp .neq 208 x.val y.val).run Tryz.prog w = .ok (.bool true) w := by
 have h2 := eqrec_inS x y w
 unfold RecV.val at h2 ⊢
 rw [run_neq_struct, h2]
 cases hb : recEq x y
 ·rfl
 ·exact absurd ((recEq_iff x y).1 hb) h
set_option maxRecDepth 100000 in
set_option maxHeartbeats 4000000 in
theorem eqrecs_any (la lb : List RecV) (A : Option Addr) (n c : Nat) (B : Option Addr) (m d : Nat) (w : World) (ha : Rd w 7 A n (rcells la)) (hb : Rd w 7 B m (rcells lb)) (hn : n ≤ 1099511627776) (hm : m ≤ 1099511627776) :
  Calls Tryz.prog 165 #[.slice A n c, .slice B m d] w fun r w' => r = .returned (.bool (decide (la = lb))) ∧ Below w.heap.size w w' := by
 have Ha := Lib.hid ha
 have Hb := Lib.hid hb
 have hla := Lib.hid ha.recs_len
 have hlb := Lib.hid hb.recs_len
 clear ha hb
 by_cases hnm : n = m
 ·subst hnm
  go_enter Tryz.func165, Tryz.ntmps165
  go_wp2_with fail
  go_loopw [13] (fun i wr => ∃ k : Nat, k ≤ n ∧ i = .int .i64 k ∧ Hid (la.take k = lb.take k) ∧ Fr (fun _ => False) w wr) (fun i _ => n - (intOf i).toNat)
  case atStart => exact ⟨0, Nat.zero_le _, rfl, rfl, Fr.refl _ _⟩
  case round =>
   obtain ⟨k, hk, rfl, htk, ho⟩ := hrel
   have Ho := Lib.hid ho
   clear ho
   by_cases hlt : k < n
   ·obtain ⟨ad, x, rfl, hx, a0, a1, a2, a3, a4, a5, a6⟩ := (Ha.out.fr0 Ho.out).rec_ hlt
    obtain ⟨bd, y, rfl, hy, b0, b1, b2, b3, b4, b5, b6⟩ := (Hb.out.fr0 Ho.out).rec_ hlt
    have kn : 0 ≤ (k : Int) ∧ (k : Int) < (n : Int) := by omega
    have Hx := Lib.hid hx
    have Hy := Lib.hid hy
    have HC : Hid (∀ W, Fr (fun _ => False) wr W → W.cell? (ad.add (k * 7)) = some (.string x.name) ∧ W.cell? (⟨(ad.add (k * 7)).block, (ad.add (k * 7)).off + 1, none⟩) = some (.int .i64 x.start) ∧ W.cell? (⟨(ad.add (k * 7)).block, (ad.add (k * 7)).off + 2, none⟩) = some (.int .i64 x.agg.count) ∧ W.cell? (⟨(ad.add (k * 7)).block, (ad.add (k * 7)).off + 3, none⟩) = some (.int .i64 x.agg.hi) ∧ W.cell? (⟨(ad.add (k * 7)).block, (ad.add (k * 7)).off + 4, none⟩) = some (.int .u64 x.agg.lo) ∧ W.cell? (⟨(ad.add (k * 7)).block, (ad.add (k * 7)).off + 5, none⟩) = some (.int .i64 x.agg.min) ∧ W.cell? (⟨(ad.add (k * 7)).block, (ad.add (k * 7)).off + 6, none⟩) = some (.int .i64 x.agg.max) ∧ W.cell? (bd.add (k * 7)) = some (.string y.name) ∧ W.cell? (⟨(bd.add (k * 7)).block, (bd.add (k * 7)).off + 1, none⟩) = some (.int .i64 y.start) ∧ W.cell? (⟨(bd.add (k * 7)).block, (bd.add (k * 7)).off + 2, none⟩) = some (.int .i64 y.agg.count) ∧ W.cell? (⟨(bd.add (k * 7)).block, (bd.add (k * 7)).off + 3, none⟩) = some (.int .i64 y.agg.hi) ∧ W.cell? (⟨(bd.add (k * 7)).block, (bd.add (k * 7)).off + 4, none⟩) = some (.int .u64 y.agg.lo) ∧ W.cell? (⟨(bd.add (k * 7)).block, (bd.add (k * 7)).off + 5, none⟩) = some (.int .i64 y.agg.min) ∧ W.cell? (⟨(bd.add (k * 7)).block, (bd.add (k * 7)).off + 6, none⟩) = some (.int .i64 y.agg.max)) := fun W f => ⟨f.cell a0 (fun h => h), f.cell a1 (fun h => h), f.cell a2 (fun h => h), f.cell a3 (fun h => h), f.cell a4 (fun h => h), f.cell a5 (fun h => h), f.cell a6 (fun h => h), f.cell b0 (fun h => h), f.cell b1 (fun h => h), f.cell b2 (fun h => h), f.cell b3 (fun h => h), f.cell b4 (fun h => h), f.cell b5 (fun h => h), f.cell b6 (fun h => h)⟩
    by_cases heq : x = y
    ·have htk2 : Hid (la.take (k + 1) = lb.take (k + 1)) := by show _ = _; rw [take_snoc Hx.out, take_snoc Hy.out, htk.out, heq]
     have q := recNeS_true heq
     unfold RecV.val at q
     clear hx hy a0 a1 a2 a3 a4 a5 a6 b0 b1 b2 b3 b4 b5 b6
     go_wp2_with fail
     refine wp_region_held_drew (S := fun W => Fr (fun _ => False) wr W) (by kernel_rfl) ((Fr.refl _ wr).drew) (fun hHeld => ?_)
     refine tl 0 ?v1 rfl ?q1 ?r1
     case q1 => intro W hSw; go_simp; try rfl
     refine tl 1 ?v2 rfl ?q2 ?r2
     case q2 => intro W hSw; go_simp; try rfl
     refine tl 2 ?v3 rfl ?q3 ?r3
     case q3 => intro W hSw; (try obtain ⟨a0, a1, a2, a3, a4, a5, a6, b0, b1, b2, b3, b4, b5, b6⟩ := HC.out W hSw); go_simp; try rfl
     refine tl 3 ?v4 rfl ?q4 ?r4
     case q4 => intro W hSw; (try obtain ⟨a0, a1, a2, a3, a4, a5, a6, b0, b1, b2, b3, b4, b5, b6⟩ := HC.out W hSw); go_simp; try rfl
     refine tl 4 ?v5 rfl ?q5 ?r5
     case q5 => intro W hSw; go_simp; try rfl
     refine tl 5 ?v6 rfl ?q6 ?r6
     case q6 => intro W hSw; go_simp; try rfl
     refine tl 6 ?v7 rfl ?q7 ?r7
     case q7 => intro W hSw; (try obtain ⟨a0, a1, a2, a3, a4, a5, a6, b0, b1, b2, b3, b4, b5, b6⟩ := HC.out W hSw); go_simp; try rfl
     refine tl 7 ?v8 rfl ?q8 ?r8
     case q8 => intro W hSw; (try obtain ⟨a0, a1, a2, a3, a4, a5, a6, b0, b1, b2, b3, b4, b5, b6⟩ := HC.out W hSw); go_simp; try rfl
     refine tl 8 ?v9 rfl ?q9 ?r9
     case q9 => intro W hSw; (try obtain ⟨a0, a1, a2, a3, a4, a5, a6, b0, b1, b2, b3, b4, b5, b6⟩ := HC.out W hSw); go_simp; try rfl
     try simp only [Act.put, sA, sB, sC]
     refine wpAnyH_done (by kernel_rfl) ?_ _
     go_wp2_with fail
     go_roundw
     case rel => exact ⟨k + 1, by omega, by go_num, htk2.out, Ho.out.trans hHeld (fun _ h => h.elim)⟩
     case measure => simp [intOf]; omega
    ·have hne : Hid (decide (la = lb) = false) := by
      refine decide_eq_false fun h => ?_
      have h1 := Hx.out
      have h2 := Hy.out
      rw [h] at h1
      rw [h1] at h2
      exact heq (Option.some.inj h2)
     have q := recNeS_false heq
     unfold RecV.val at q
     clear hx hy a0 a1 a2 a3 a4 a5 a6 b0 b1 b2 b3 b4 b5 b6
     go_wp2_with fail
     refine wp_region_held_drew (S := fun W => Fr (fun _ => False) wr W) (by kernel_rfl) ((Fr.refl _ wr).drew) (fun hHeld => ?_)
     refine tl 0 ?v10 rfl ?q10 ?r10
     case q10 => intro W hSw; go_simp; try rfl
     refine tl 1 ?v11 rfl ?q11 ?r11
     case q11 => intro W hSw; go_simp; try rfl
     refine tl 2 ?v12 rfl ?q12 ?r12
     case q12 => intro W hSw; (try obtain ⟨a0, a1, a2, a3, a4, a5, a6, b0, b1, b2, b3, b4, b5, b6⟩ := HC.out W hSw); go_simp; try rfl
     refine tl 3 ?v13 rfl ?q13 ?r13
     case q13 => intro W hSw; (try obtain ⟨a0, a1, a2, a3, a4, a5, a6, b0, b1, b2, b3, b4, b5, b6⟩ := HC.out W hSw); go_simp; try rfl
     refine tl 4 ?v14 rfl ?q14 ?r14
     case q14 => intro W hSw; go_simp; try rfl
     refine tl 5 ?v15 rfl ?q15 ?r15
     case q15 => intro W hSw; go_simp; try rfl
     refine tl 6 ?v16 rfl ?q16 ?r16
     case q16 => intro W hSw; (try obtain ⟨a0, a1, a2, a3, a4, a5, a6, b0, b1, b2, b3, b4, b5, b6⟩ := HC.out W hSw); go_simp; try rfl
     refine tl 7 ?v17 rfl ?q17 ?r17
     case q17 => intro W hSw; (try obtain ⟨a0, a1, a2, a3, a4, a5, a6, b0, b1, b2, b3, b4, b5, b6⟩ := HC.out W hSw); go_simp; try rfl
     refine tl 8 ?v18 rfl ?q18 ?r18
     case q18 => intro W hSw; (try obtain ⟨a0, a1, a2, a3, a4, a5, a6, b0, b1, b2, b3, b4, b5, b6⟩ := HC.out W hSw); go_simp; try rfl
     try simp only [Act.put, sA, sB, sC]
     refine wpAnyH_done (by kernel_rfl) ?_ _
     go_wp2_with fail
     go_ret
     exact ⟨by rw [hne.out]; rfl, (Ho.out.trans hHeld (fun _ h => h.elim)).below (fun _ h => h.elim)⟩
   ·obtain rfl : k = n := by omega
    have hE : Hid (decide (la = lb) = true) := by
     refine decide_eq_true ?_
     have h := htk.out
     rwa [take_all (by rw [hla.out]; exact Nat.le_refl _), take_all (by rw [hlb.out]; exact Nat.le_refl _)] at h
    go_wp2_with fail
    go_ret
    exact ⟨by rw [hE.out]; rfl, Ho.out.below (fun _ h => h.elim)⟩
 ·have hne : Hid (decide (la = lb) = false) := by
   refine decide_eq_false fun h => hnm ?_
   have h1 := hla.out
   have h2 := hlb.out
   rw [h] at h1
   omega
  have hnm2 : ((n : Int) != (m : Int)) = true := by simpa using (show (n : Int) ≠ (m : Int) by omega)
  have hnm3 : ((n : Int) == (m : Int)) = false := by simpa using (show (n : Int) ≠ (m : Int) by omega)
  go_enter Tryz.func165, Tryz.ntmps165
  go_wp2_with fail
  go_ret
  exact ⟨by rw [hne.out]; rfl, Below.refl _ _⟩
end Go.Proofs.YtaakghjbbkgbdaaGreatDoor
namespace Go.Proofs.YtaakghjbbkgbdaaGreatDoor
set_option linter.all false
open Go.RowKit

end Go.Proofs.YtaakghjbbkgbdaaGreatDoor
namespace Go.Proofs.YtaakghjbbkgbdaaGreatDoor
set_option linter.all false
open Go.RowKit

end Go.Proofs.YtaakghjbbkgbdaaGreatDoor
namespace Go.Proofs.YtaakghjbbkgbdaaGreatDoor
set_option linter.all false
open Go.RowKit

end Go.Proofs.YtaakghjbbkgbdaaGreatDoor
namespace Go.Proofs.YtaakghjbbkgbdaaGreatDoor
set_option linter.all false
open Go.RowKit

section
variable {nm : ByteArray} {l : List TierV} {fl : List Int} {lo : Nat} {W W' : World} {t : Nat} {X : TiersX} {F : Nat → Prop} {c : Nat}
theorem tio_ask (p : PolOk nm l) (h : Tio nm l fl lo W t X F c) (hc : c ≤ 1000000) (s : ByteArray) (hs : s.size ≤ maxLen) (fr tt : Int) :
  Calls Tryz.prog 159 #[.pointer (some ⟨t, 0, none⟩), .string s, .int .i64 fr, .int .i64 tt] W fun r w' => ((askB s fr tt = true → ∃ A c, r = .returned (.tuple #[.agg #[.int .i64 (askT X fr), .slice A (askL X s fr tt).length c], .int .i64 0]) ∧ w'.ownsRow W.heap.size 208 7 (.slice A (askL X s fr tt).length c) (askL X s fr tt).length (rcells (askL X s fr tt))) ∧ (askB s fr tt = false → r = .returned (.tuple #[.agg #[.int .i64 0, .slice none 0 0], .int .i64 1]))) ∧ Below W.heap.size W w' := by
 obtain ⟨base, hb, ho⟩ := h.on
 exact task_any t base X s hs fr tt W ho.at_ (h.pos p) (h.five p) (h.short (Nat.le_trans hc (by omega))) h.good.now (h.wf p)
end
end Go.Proofs.YtaakghjbbkgbdaaGreatDoor
