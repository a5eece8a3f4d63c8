/- Tiers under a policy that may be: what their calls answer, and what stays true. -/
import Derived.Test.YteajonicnkpbbaaGreatDoorGoodX
import Derived.Test.YteajonicnkpbbaaGreatDoorTiersCopy
namespace Go.Proofs.YteajonicnkpbbaaGreatDoor
set_option linter.all false
open Go.RowKit

structure PolOk (nm : ByteArray) (l : List TierV) : Prop where
 ck : checkB nm l = true
 wf : ∀ t ∈ l, t.wf
structure Tio (nm : ByteArray) (l : List TierV) (fl : List Int) (lo : Nat) (W : World) (t : Nat) (X : TiersX) (F : Nat → Prop) (c : Nat) : Prop where
 on : ∃ base, lo ≤ base ∧ TiersOn W t base X F
 good : GoodX nm l fl X c
section
variable {nm : ByteArray} {l : List TierV} {fl : List Int} {lo : Nat} {W W' : World} {t : Nat} {X : TiersX} {F : Nat → Prop} {c : Nat}
theorem PolOk.pos (p : PolOk nm l) : 0 < l.length := by have := (check_len p.ck).1; omega
theorem PolOk.five (p : PolOk nm l) : l.length ≤ 5 := (check_len p.ck).2
theorem Tio.pos (h : Tio nm l fl lo W t X F c) (p : PolOk nm l) : 0 < X.tiers.length := by rw [h.good.tiers]; exact p.pos
theorem Tio.five (h : Tio nm l fl lo W t X F c) (p : PolOk nm l) : X.tiers.length ≤ 1000 := by rw [h.good.tiers]; have := p.five; omega
theorem Tio.fr0 (h : Tio nm l fl lo W t X F c) (f : Fr (fun _ => False) W W') : Tio nm l fl lo W' t X F c := by
 obtain ⟨base, hb, ho⟩ := h.on
 exact ⟨⟨base, hb, ho.fr0 f⟩, h.good⟩
theorem Tio.ge (h : Tio nm l fl lo W t X F c) : ∀ j, F j → lo ≤ j ∧ j < W.heap.size := fun j hj => by
 obtain ⟨base, hb, ho⟩ := h.on
 have := ho.ge j hj
 omega
theorem Tio.below (h : Tio nm l fl lo W t X F c) (hlo : lo ≤ W.heap.size) (f : Fr F W W') : Below lo W W' := f.below_of hlo (fun j hj => (h.ge j hj).1)
theorem newE_check {now : Int} (h : newE nm l now fl = 0) : checkB nm l = true := by
 unfold newE at h
 split at h
 ·assumption
 ·omega
theorem tio_new (hnm : nm.size ≤ maxLen) (hwf : ∀ t ∈ l, t.wf) (A : Option Addr) (n c : Nat) (now : Int) (hnow : -9223372036854775808 ≤ now ∧ now ≤ 9223372036854775807) (lo : Nat) (w : World) (hlo : lo ≤ w.heap.size) (hr : Rd w 4 A n (tcells l)) (hnc : n ≤ c) (hn : n ≤ 1099511627776) :
  Calls Tryz.prog 95 #[.agg #[.string nm, .slice A n c], .int .i64 now, .slice none 0 0] w fun r w' => ((newE nm l now [] = 0 → PolOk nm l ∧ ∃ t F, r = .returned (.tuple #[.pointer (some ⟨t, 0, none⟩), .int .i64 0]) ∧ Tio nm l [] lo w' t (newX nm l now []) F 0 ∧ ∀ j, F j → w.heap.size ≤ j) ∧ (newE nm l now [] ≠ 0 → r = .returned (.tuple #[.pointer none, .int .i64 (newE nm l now [])]))) ∧ Below w.heap.size w w' := by
 refine (tnew_any nm hnm l A n c now hnow [] none 0 0 w hr hnc hwf hn Rd.nil_ (by omega)).mono ?_
 rintro r w' ⟨⟨h1, h2⟩, hb⟩
 refine ⟨⟨fun h => ⟨⟨newE_check h, hwf⟩, ?_⟩, h2⟩, hb⟩
 obtain ⟨t, rfl, ha⟩ := h1 h
 obtain ⟨F, ho⟩ := ha.on
 exact ⟨t, F, rfl, ⟨⟨_, hlo, ho⟩, GoodX.new h⟩, fun j hj => (ho.ge j hj).1⟩
theorem tio_copy (p : PolOk nm l) (h : Tio nm l fl lo W t X F c) (hfl : fl.length ≤ 1099511627776) (lo2 : Nat) (hlo : lo2 ≤ W.heap.size) :
  Calls Tryz.prog 97 #[.pointer (some ⟨t, 0, none⟩)] W fun r w' => (∃ t' F', r = .returned (.pointer (some ⟨t', 0, none⟩)) ∧ Tio nm l fl lo2 w' t' X F' c ∧ ∀ j, F' j → W.heap.size ≤ j) ∧ Below W.heap.size W w' := by
 obtain ⟨base, hb, ho⟩ := h.on
 refine (tcopy_any t base X W ho.at_ (Nat.le_trans (h.five p) (by omega)) (by rw [h.good.floors]; exact hfl)).mono ?_
 rintro r w' ⟨⟨t', rfl, ha⟩, h2⟩
 obtain ⟨F', ho'⟩ := ha.on
 exact ⟨⟨t', F', rfl, ⟨⟨_, hlo, ho'⟩, h.good⟩, fun j hj => (ho'.ge j hj).1⟩, h2⟩
end
end Go.Proofs.YteajonicnkpbbaaGreatDoor
