/- Walks of package table: Len, Copy, Drop. -/
import Derived.Test.YteajonicnkpbbaaGreatDoorTabAddL
import Derived.Maps.OwnSet
import Derived.Test.YteajonicnkpbbaaGreatDoorFrom
import Derived.Test.YteajonicnkpbbaaGreatDoorTk
namespace Go.Proofs.YteajonicnkpbbaaGreatDoor
set_option linter.all false
open Go.RowKit
open Go.Maps (Keyed)

set_option maxRecDepth 100000 in
set_option maxHeartbeats 4000000 in
theorem tabcopy_any (g : Nat) (every : Int) (b : Nat) (l : List RecV) (w : World) (h : TabAt w g every b l) :
  Calls Tryz.prog 143 #[.pointer (some ⟨g, 0, none⟩)] w fun r w' => (∃ g' b', r = .returned (.pointer (some ⟨g', 0, none⟩)) ∧ TabAt w' g' every b' l ∧ w.heap.size ≤ g' ∧ w.heap.size ≤ b') ∧ Below w.heap.size w w' := by
 have HC : Hid (∀ W, Fr (fun _ => False) w W → W.cell? ⟨g, 0, none⟩ = some (.int .i64 every) ∧ W.cell? ⟨g, 1, none⟩ = some (.map (some b))) := fun W f => ⟨(h.blk.fr f (fun h => h)).cell 0, (h.blk.fr f (fun h => h)).cell 1⟩
 have HCl : Hid (∀ W, Fr (fun _ => False) w W → Calls Tryz.prog 180 #[.map (some b)] W fun r w'' => r = .returned (.map (some W.heap.size)) ∧ OwnsT w'' W.heap.size l ∧ Fr (fun _ => False) w w'') := fun W f => by
  obtain ⟨D, ⟨es, ck, hb, hfit, hs, hD⟩, ht⟩ := (h.own.fr f (fun h => h))
  refine (show Calls Tryz.prog 180 _ _ _ from AnyW.maps_Clone Tryz.cloneM b es ck W hb).mono ?_
  rintro r w'' ⟨e, rfl⟩
  exact ⟨e, ⟨D, ⟨es, ck, (MapKept.heap_alloc W _).1, hfit, hs, hD⟩, ht⟩, f.trans (Fr.none_alloc _ _) (fun _ h => h.elim)⟩
 clear h
 go_enter Tryz.func143, Tryz.ntmps143
 go_wp2_with fail
 refine wp_region_held_drew (S := fun W => Fr (fun _ => False) w W) (by kernel_rfl) ((Fr.refl _ w).drew) (fun hHeld => ?_)
 refine tq 8 [0,1,2,3,4,5,6,7] ?_
 iterate 7 refine sf HC.out ?_
 refine sf HC.out ?_
 try simp only [Act.put, sA, sB, sC]
 refine sz ?_
 try simp only [Act.put, sA, sB, sC]
 refine rl 8 rfl (fun K hK => ?_)
 go_simp
 go_wp2_with (first | (go_at_call 180; refine (HCl.out _ hHeld).mono ?_; rintro r w5 ⟨rfl, ho5, f5⟩))
 refine hK.out _ _ (f5) (fun hHeld => ?_)
 clear hK K
 refine tl 9 ?v9 rfl ?q9 ?r9
 case q9 => intro W hSw; (try obtain ⟨c0, c1⟩ := HC.out W hSw); go_simp; try rfl
 try simp only [Act.put, sA, sB, sC]
 refine rl 10 rfl (fun K hK => ?_)
 go_simp
 refine hK.out _ _ (hHeld.trans (Fr.none_alloc _ _) (fun _ h => h.elim)) (fun hHeld => ?_)
 clear hK K
 refine tl 11 ?v10 rfl ?q10 ?r10
 case q10 => intro W hSw; (try obtain ⟨c0, c1⟩ := HC.out W hSw); go_simp; try rfl
 try simp only [Act.put, sA, sB, sC]
 refine wpAnyH_done (by kernel_rfl) ?_ _
 go_wp2_with fail
 go_ret
 refine ⟨⟨w5.heap.size, w.heap.size, rfl, ⟨Blk.new _ _ _, ho5.fr (Fr.none_alloc _ _) (fun h => h)⟩, f5.size, Nat.le_refl _⟩, hHeld.below (fun _ h => h.elim)⟩

def keepT (so : RecV → Bool) (l : List RecV) : List RecV := l.filter fun r => !so r
theorem OwnsT.len {w : World} {b : Nat} {l : List RecV} (h : OwnsT w b l) (ty : TypeId) : (Builtin.len_ #[242] ty #[.map (some b)]).run Tryz.prog w = .ok (.int .i64 (l.length : Nat)) w := by
 obtain ⟨D, ho, ht⟩ := h
 have hl := ho.len Tryz.underlying242 ty
 rwa [ht.size] at hl
end Go.Proofs.YteajonicnkpbbaaGreatDoor
namespace Go.Proofs.YteajonicnkpbbaaGreatDoor
set_option linter.all false
open Go.RowKit

end Go.Proofs.YteajonicnkpbbaaGreatDoor
namespace Go.Proofs.YteajonicnkpbbaaGreatDoor
set_option linter.all false
open Go.RowKit

end Go.Proofs.YteajonicnkpbbaaGreatDoor
namespace Go.Proofs.YteajonicnkpbbaaGreatDoor
set_option linter.all false
open Go.RowKit

end Go.Proofs.YteajonicnkpbbaaGreatDoor
namespace Go.Proofs.YteajonicnkpbbaaGreatDoor
set_option linter.all false
open Go.RowKit

def rollL (e fr : Int) (l : List RecV) : List RecV := (l.map fun r => (⟨r.name, floorV r.start e, r.agg⟩ : RecV)).filter fun r => decide (fr ≤ r.start)
def rollV (every e fr : Int) (l : List RecV) : List RecV := if dividesB every e then addsV e [] (rollL e fr l) else []
end Go.Proofs.YteajonicnkpbbaaGreatDoor
namespace Go.Proofs.YteajonicnkpbbaaGreatDoor
set_option linter.all false
open Go.RowKit
open Go.Maps (Keyed int_keyed keyOf_int_mk)

def cntS (M : Int) (l : List RecV) (k : Nat) : Nat := (l.filter fun r => decide (shardV r.name M = (k : Int))).length
def needV (M : Int) (l : List RecV) : Nat := ((List.range M.toNat).map fun k => (cntS M l k + 2) / 3).sum
structure CntD (M : Int) (l : List RecV) (D : DataW Unit) : Prop where
 isMap : Maps.IsMap D
 key : ∀ z, Maps.has D z = true → ∃ j : Nat, (j : Int) < M ∧ z = .int .i64 j ∧ 0 < cntS M l j
 at_ : ∀ j : Nat, D.atKey (.int .i64 j) (.lit (.int .i64 0)) = .lit (.int .i64 (cntS M l j : Nat))
 pos : ∀ j : Nat, 0 < cntS M l j → Maps.has D (.int .i64 j) = true
theorem CntD.nil (M : Int) : CntD M [] (.map []) := ⟨Maps.isMap_empty, fun z h => (by simp [Maps.has_eq] at h), fun j => rfl, fun j h => absurd h (Nat.lt_irrefl 0)⟩
end Go.Proofs.YteajonicnkpbbaaGreatDoor
