/- Tiers and ints compared: walks of sedimentbook.SameTiers, SameInts. -/
import Derived.Test.YteajonicnkpbbaaGreatDoorSame
import Derived.Test.YteajonicnkpbbaaGreatDoorFrom
import Derived.Test.YteajonicnkpbbaaGreatDoorTiersCopy
import Derived.Test.YteajonicnkpbbaaGreatDoorBase
import Derived.Test.YteajonicnkpbbaaGreatDoorGoodX
import Derived.Test.YteajonicnkpbbaaGreatDoorTioA
import Derived.Test.YteajonicnkpbbaaGreatDoorTk
namespace Go.Proofs.YteajonicnkpbbaaGreatDoor
set_option linter.all false
open Go.RowKit

def tierEq (x y : TierV) : Bool := (x.name.toList == y.name.toList) && ((x.every == y.every) && ((x.keep == y.keep) && (x.shards == y.shards)))
theorem tierEq_iff (x y : TierV) : tierEq x y = true ↔ x = y := by
 obtain ⟨a, b, c, d⟩ := x
 obtain ⟨a', b', c', d'⟩ := y
 unfold tierEq
 simp only [Bool.and_eq_true, beq_iff_eq, TierV.mk.injEq]
 exact ⟨fun h => ⟨toList_inj h.1, h.2⟩, fun h => ⟨by rw [h.1], h.2⟩⟩
instance tierDec : DecidableEq TierV := fun x y => if h : tierEq x y = true then isTrue ((tierEq_iff x y).1 h) else isFalse fun e => h ((tierEq_iff x y).2 e)
theorem tcells_append (a b : List TierV) : tcells (a ++ b) = tcells a ++ tcells b := by simp [tcells]
def icell (x : Int) : List Value := [.int .i64 x]
def icells (l : List Int) : List Value := l.flatMap icell
theorem icells_is (l : List Int) : icells l = l.map (Value.int .i64) := by
 induction l with
 | nil => rfl
 | cons a l ih => unfold icells at ih ⊢; rw [List.flatMap_cons, ih]; rfl
theorem Rd.icell_ {w : World} {n k : Nat} {A : Option Addr} {l : List Int} (h : Rd w 1 A n (icells l)) (hk : k < n) : ∃ ad x, A = some ad ∧ l[k]? = some x ∧ w.cell? (ad.add k) = some (.int .i64 x) := by
 rw [icells_is] at h
 exact h.at_map hk
theorem Rd.icells_len {w : World} {n : Nat} {A : Option Addr} {l : List Int} (h : Rd w 1 A n (icells l)) : l.length = n := by
 rw [icells_is] at h
 exact h.len_map
set_option maxHeartbeats 1000000 in
theorem sameints_any (la lb : List Int) (A : Option Addr) (n c : Nat) (B : Option Addr) (m d : Nat) (w : World) (ha : Rd w 1 A n (icells la)) (hb : Rd w 1 B m (icells lb)) (hn : n ≤ 1099511627776) (hm : m ≤ 1099511627776) :
  Calls Tryz.prog 32 #[.slice A n c, .slice B m d] w fun r w' => r = .returned (.bool (decide (la = lb))) ∧ Below w.heap.size w w' := by
 have Ha := Lib.hid ha
 have Hb := Lib.hid hb
 have hla := Lib.hid ha.icells_len
 have hlb := Lib.hid hb.icells_len
 clear ha hb
 by_cases hnm : n = m
 ·subst hnm
  go_enter Tryz.func32, Tryz.ntmps32
  go_wp2_with fail
  go_loopw [5] (fun i wr => ∃ k : Nat, k ≤ n ∧ i = .int .i64 k ∧ Hid (la.take k = lb.take k) ∧ Own w wr (fun _ => False)) (fun i _ => n - (intOf i).toNat)
  case atStart => exact ⟨0, Nat.zero_le _, rfl, rfl, Own.start w⟩
  case round =>
   obtain ⟨k, hk, rfl, htk, ho⟩ := hrel
   have Ho := Lib.hid ho
   by_cases hlt : k < n
   ·obtain ⟨ad, x, rfl, hx, a0⟩ := (Ha.out.fr0 (Fr.b0 ho.bel)).icell_ hlt
    obtain ⟨bd, y, rfl, hy, b0⟩ := (Hb.out.fr0 (Fr.b0 ho.bel)).icell_ hlt
    have Hx := Lib.hid hx
    have Hy := Lib.hid hy
    by_cases heq : x = y
    ·have htk2 : Hid (la.take (k + 1) = lb.take (k + 1)) := by show _ = _; rw [take_snoc Hx.out, take_snoc Hy.out, htk.out, heq]
     have q : (x == y) = true := by simpa using heq
     have q2 : x = y := heq
     clear hx hy ho
     go_wp2
     go_quiet (fail)
     go_wp2
     go_roundw
     case rel => exact ⟨k + 1, by omega, by go_num, htk2.out, Ho.out.skip (Fr.none_drewN _ _)⟩
     case measure => simp [intOf]; omega
    ·have hne : Hid (decide (la = lb) = false) := by
      refine decide_eq_false fun h => ?_
      have h1 := Hx.out
      have h2 := Hy.out
      rw [h] at h1
      rw [h1] at h2
      exact heq (Option.some.inj h2)
     have q : (x == y) = false := by simpa using heq
     have q2 : decide (x = y) = false := decide_eq_false heq
     have q3 : ¬ x = y := heq
     clear hx hy ho heq
     go_wp2
     go_quiet (fail)
     go_wp2
     go_ret
     exact ⟨by rw [hne.out]; rfl, (Ho.out.skip (Fr.none_drewN _ _)).bel⟩
   ·obtain rfl : k = n := by omega
    have hE : Hid (decide (la = lb) = true) := by
     refine decide_eq_true ?_
     have h := htk.out
     rwa [take_all (by rw [hla.out]; exact Nat.le_refl _), take_all (by rw [hlb.out]; exact Nat.le_refl _)] at h
    clear ho
    go_wp2_with fail
    go_ret
    exact ⟨by rw [hE.out]; rfl, Ho.out.bel⟩
 ·have hne : Hid (decide (la = lb) = false) := by
   refine decide_eq_false fun h => hnm ?_
   have h1 := hla.out
   have h2 := hlb.out
   rw [h] at h1
   omega
  have hnm2 : ((n : Int) != (m : Int)) = true := by simpa using (show (n : Int) ≠ (m : Int) by omega)
  go_enter Tryz.func32, Tryz.ntmps32
  go_wp2_with fail
  go_ret
  exact ⟨by rw [hne.out]; rfl, Below.refl _ _⟩

end Go.Proofs.YteajonicnkpbbaaGreatDoor
namespace Go.Proofs.YteajonicnkpbbaaGreatDoor
set_option linter.all false
open Go.RowKit

end Go.Proofs.YteajonicnkpbbaaGreatDoor
namespace Go.Proofs.YteajonicnkpbbaaGreatDoor
set_option linter.all false
open Go.RowKit

end Go.Proofs.YteajonicnkpbbaaGreatDoor
namespace Go.Proofs.YteajonicnkpbbaaGreatDoor
set_option linter.all false
open Go.RowKit

end Go.Proofs.YteajonicnkpbbaaGreatDoor
namespace Go.Proofs.YteajonicnkpbbaaGreatDoor
set_option linter.all false
open Go.RowKit

theorem icells_ints (l : List Int) : icells l = ints l := by
 unfold icells ints icell
 induction l with
 | nil => rfl
 | cons x t ih => simp only [List.flatMap_cons, List.map_cons, ih, List.singleton_append]
end Go.Proofs.YteajonicnkpbbaaGreatDoor
namespace Go.Proofs.YteajonicnkpbbaaGreatDoor
set_option linter.all false
open Go.RowKit

theorem eqtier_in (d : Nat) (x y : TierV) (w : World) : (Op.equalIn (d + 2) 99 x.val y.val).run Tryz.prog w = .ok (tierEq x y) w := by
 have hu : Tryz.prog.underlying 99 = some (.struct (Tryz.prog.fieldsOf 99)) := by kernel_rfl
 have hp : Tryz.prog.stoodInHeld 99 = false := by kernel_rfl
 have hf : (Tryz.prog.fieldsOf 99).toList = [⟨"Name", 9, 0, false, "", "", 0⟩, ⟨"Every", 3, 1, false, "", "", 16⟩, ⟨"Keep", 3, 2, false, "", "", 24⟩, ⟨"Shards", 3, 3, false, "", "", 32⟩] := by kernel_rfl
 unfold TierV.val tierEq
 rw [run_equalIn_struct (P := Tryz.prog) w (d + 1) _ _ _ hu hp, hf]
 simp [Op.eqFields, part, eqs_string d, eqs_int d]
 by_cases h1 : x.name.toList = y.name.toList <;> by_cases h2 : x.every = y.every <;> by_cases h3 : x.keep = y.keep <;> by_cases h4 : x.shards = y.shards <;> simp [h1, h2, h3, h4]
theorem run_neqtier (x y : TierV) (w : World) : (binOp .neq 99 x.val y.val).run Tryz.prog w = .ok (.bool (!tierEq x y)) w := by
 have h := eqtier_in 9998 x y w
 unfold TierV.val at h ⊢
 rw [run_neq_struct, h]
 rfl
theorem tierNe_true {x y : TierV} (h : x = y) (w : World) : (binOp .neq 99 x.val y.val).run Tryz.prog w = .ok (.bool false) w := by rw [run_neqtier, ((tierEq_iff x y).2 h)]; rfl
theorem tierNe_false {x y : TierV} (h : x ≠ y) (w : World) : (binOp .neq 99 x.val y.val).run Tryz.prog w = .ok (.bool true) w := by
 rw [run_neqtier]
 cases hb : tierEq x y
 ·rfl
 ·exact absurd ((tierEq_iff x y).1 hb) h

set_option maxRecDepth 100000 in
set_option maxHeartbeats 1000000 in
theorem ref_same_any (na nb : ByteArray) (la lb : List TierV) (A : Option Addr) (n c : Nat) (B : Option Addr) (m d : Nat) (w : World) (ha : Rd w 4 A n (tcells la)) (hb : Rd w 4 B m (tcells lb)) (hn : n ≤ 1099511627776) (hm : m ≤ 1099511627776) :
  Calls Tryz.prog 31 #[polV na A n c, polV nb B m d] w fun r w' => r = .returned (.bool (decide (na = nb) && decide (la = lb))) ∧ Below w.heap.size w w' := by
 have Ha := Lib.hid ha
 have Hb := Lib.hid hb
 have hla := Lib.hid ha.tiers_len
 have hlb := Lib.hid hb.tiers_len
 clear ha hb
 have B0 := Lib.hid ((Blk.new w 25 #[.string na, .slice A n c]).alloc (.cells #[.string nb, .slice B m d] 25))
 have B1 := Lib.hid (Blk.new' (w := w.alloc (.cells #[.string na, .slice A n c] 25)) (k := w.heap.size + 1) (by simp) 25 #[.string nb, .slice B m d])
 have O := Lib.hid (((Own.start w).skip (Fr.none_alloc w (.cells #[.string na, .slice A n c] 25))).skip (Fr.none_alloc _ (.cells #[.string nb, .slice B m d] 25)))
 unfold polV
 by_cases hnn : na = nb
 ·subst hnn
  by_cases hnm : n = m
  ·subst hnm
   have s2 : (na.toList == na.toList) = true := by simp
   have s3 : (na.toList != na.toList) = false := by simp
   go_enter Tryz.func31, Tryz.ntmps31
   go_wp2_with fail
   go_loopw [5] (fun i wr => ∃ k : Nat, k ≤ n ∧ i = .int .i64 k ∧ Hid (la.take k = lb.take k) ∧ Blk wr w.heap.size 25 #[.string na, .slice A n c] ∧ Blk wr (w.heap.size + 1) 25 #[.string na, .slice B n d] ∧ Own w wr (fun _ => False)) (fun i _ => n - (intOf i).toNat)
   case atStart => exact ⟨0, Nat.zero_le _, rfl, rfl, B0.out, B1.out, O.out⟩
   case round =>
    obtain ⟨k, hk, rfl, htk, hb0, hb1, ho⟩ := hrel
    have Ho := Lib.hid ho
    have Hb0 := Lib.hid hb0
    have Hb1 := Lib.hid hb1
    have p1 := hb0.cell 1
    have q1 := hb1.cell 1
    simp only [List.getElem?_toArray, List.getElem?_cons_succ, List.getElem?_cons_zero] at p1 q1
    clear hb0 hb1
    by_cases hlt : k < n
    ·obtain ⟨ad, x, rfl, hx, a0, a1, a2, a3⟩ := (Ha.out.fr0 (Fr.b0 ho.bel)).tier hlt
     obtain ⟨bd, y, rfl, hy, b0, b1, b2, b3⟩ := (Hb.out.fr0 (Fr.b0 ho.bel)).tier hlt
     have Hx := Lib.hid hx
     have Hy := Lib.hid hy
     have kn : 0 ≤ (k : Int) ∧ (k : Int) < (n : Int) := by omega
     by_cases heq : x = y
     ·have htk2 : Hid (la.take (k + 1) = lb.take (k + 1)) := by show _ = _; rw [take_snoc Hx.out, take_snoc Hy.out, htk.out, heq]
      have q := tierNe_true heq
      unfold TierV.val at q
      clear hx hy ho heq
      go_wp2
      go_quiet (fail)
      go_wp2
      go_roundw
      case rel => exact ⟨k + 1, by omega, by go_num, htk2.out, Hb0.out.drewN _, Hb1.out.drewN _, Ho.out.skip (Fr.none_drewN _ _)⟩
      case measure => simp [intOf]; omega
     ·have hne : Hid (decide (la = lb) = false) := by
       refine decide_eq_false fun h => ?_
       have h1 := Hx.out
       have h2 := Hy.out
       rw [h] at h1
       rw [h1] at h2
       exact heq (Option.some.inj h2)
      have q := tierNe_false heq
      unfold TierV.val at q
      clear hx hy ho heq
      go_wp2
      go_quiet (fail)
      go_wp2
      go_ret
      exact ⟨by rw [hne.out, Bool.and_false]; rfl, (Ho.out.skip (Fr.none_drewN _ _)).bel⟩
    ·obtain rfl : k = n := by omega
     have hE : Hid (decide (la = lb) = true) := by
      refine decide_eq_true ?_
      have h := htk.out
      rwa [take_all (by rw [hla.out]; exact Nat.le_refl _), take_all (by rw [hlb.out]; exact Nat.le_refl _)] at h
     clear ho
     go_wp2_with fail
     go_ret
     exact ⟨by simp [hE.out], Ho.out.bel⟩
  ·have hne : Hid (decide (la = lb) = false) := by
    refine decide_eq_false fun h => hnm ?_
    have h1 := hla.out
    rw [h] at h1
    have h2 := hlb.out
    omega
   have s2 : (na.toList == na.toList) = true := by simp
   have s3 : (na.toList != na.toList) = false := by simp
   have g1 : ((n : Int) != (m : Int)) = true := by simp; omega
   have g2 : (n != m) = true := by simpa using hnm
   go_enter Tryz.func31, Tryz.ntmps31
   go_wp2_with fail
   go_ret
   exact ⟨by rw [hne.out, Bool.and_false]; rfl, O.out.bel⟩
 ·have hnl : na.toList ≠ nb.toList := fun h => hnn (toList_inj h)
  have s2 : (na.toList == nb.toList) = false := by simpa using hnl
  have s3 : (na.toList != nb.toList) = true := by simpa using hnl
  have s4 : decide (na.toList = nb.toList) = false := decide_eq_false hnl
  go_enter Tryz.func31, Tryz.ntmps31
  go_wp2_with fail
  go_ret
  exact ⟨by rw [decide_eq_false hnn]; rfl, O.out.bel⟩
end Go.Proofs.YteajonicnkpbbaaGreatDoor
namespace Go.Proofs.YteajonicnkpbbaaGreatDoor
set_option linter.all false
open Go.RowKit

end Go.Proofs.YteajonicnkpbbaaGreatDoor
namespace Go.Proofs.YteajonicnkpbbaaGreatDoor
set_option linter.all false
open Go.RowKit

end Go.Proofs.YteajonicnkpbbaaGreatDoor
namespace Go.Proofs.YteajonicnkpbbaaGreatDoor
set_option linter.all false
open Go.RowKit

section
variable {nm : ByteArray} {l : List TierV} {fl : List Int} {lo : Nat} {W W' : World} {t : Nat} {X : TiersX} {F : Nat → Prop} {c : Nat}
end
end Go.Proofs.YteajonicnkpbbaaGreatDoor
