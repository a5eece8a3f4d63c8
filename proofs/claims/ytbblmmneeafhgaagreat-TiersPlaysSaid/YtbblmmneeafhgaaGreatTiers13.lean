/- The real tiers and the document's, side by side: their blocks have unlike types. -/
import Derived.Test.YtbblmmneeafhgaaGreatRTNew
import Derived.Test.YtbblmmneeafhgaaGreatRTLoad
import Derived.Test.YtbblmmneeafhgaaGreatGoodLoad
import Derived.Test.YtbblmmneeafhgaaGreatTioA
import Derived.Test.YtbblmmneeafhgaaGreatTk
namespace Go.Proofs.YtbblmmneeafhgaaGreat
set_option linter.all false
open Go.RowKit

def rTy (ty : TypeId) : Prop := ty = 113 ∨ ty = 116 ∨ ty = 114 ∨ ty = 100
def RKind (W : World) (F : Nat → Prop) : Prop := ∀ j, F j → ∃ cs fz ty, W.heap[j]? = some (.cells cs ty fz) ∧ rTy ty
section
variable {W W' w w' : World} {g lo : Nat} {F G : Nat → Prop} {X Y : TiersX} {A B T : Option Addr} {c d ct : Nat} {P : List Nat} {nm : ByteArray} {l : List TierV} {fl : List Int} {t : Nat} {base cc : Nat}
theorem RKind.fr0 (h : RKind W F) (f : Fr (fun _ => False) W W') : RKind W' F := fun j hj => by
 obtain ⟨cs, fz, ty, h1, h2⟩ := h j hj
 have hlt : j < W.heap.size := (Array.getElem?_eq_some_iff.1 h1).1
 exact ⟨cs, fz, ty, by rw [f.block j hlt (fun h => h)]; exact h1, h2⟩
theorem RTiersOn.exact (h : RTiersOn W g lo F X A c B d T ct P) : ∃ F0, RTiersOn W g lo F0 X A c B d T ct P ∧ (∀ j, F0 j → F j) ∧ RKind W F0 := by
 refine ⟨fun j => F j ∧ ∃ cs fz ty, W.heap[j]? = some (.cells cs ty fz) ∧ rTy ty, ⟨h.blk, h.row, h.tlen, fun i p x l h1 h2 h3 => ?_, h.inj, ⟨h.fg, _, _, _, h.blk, .inl rfl⟩, fun p hp => ⟨h.fp p hp, ?_⟩, fun j hj => ⟨h.ft j hj, ?_⟩, fun j hj => h.ge j hj.1, h.rt, h.rf⟩, fun j hj => hj.1, fun j hj => hj.2⟩
 ·obtain ⟨⟨A1, c1, b1, o1, f1⟩, h4, h5, h6⟩ := h.tab i p x l h1 h2 h3
  exact ⟨⟨A1, c1, b1, o1, fun j hj => ⟨f1 j hj, by
   obtain ⟨cs, fz, e⟩ := own_ty o1 hj
   exact ⟨cs, fz, _, e, .inr (.inr (.inr rfl))⟩⟩⟩, h4, h5, h6⟩
 ·obtain ⟨i, hi⟩ := List.getElem?_of_mem hp
  have hil : i < X.tiers.length := by have := (List.getElem?_eq_some_iff.1 hi).1; rw [h.len] at this; exact this
  obtain ⟨p', x, l, e1, e2, e3⟩ := h.at_ hil
  rw [hi] at e1
  cases e1
  obtain ⟨⟨A1, c1, b1, _, _⟩, _⟩ := h.tab i p x l hi e2 e3
  exact ⟨_, _, _, b1, .inr (.inl rfl)⟩
 ·obtain ⟨cs, fz, e⟩ := own_ty h.row hj
  exact ⟨cs, fz, _, e, .inr (.inr (.inl rfl))⟩
theorem TiersOn.frR {t : Nat} (h : TiersOn w t base X F) (hf : Fr G w w') (hG : RKind w G) : TiersOn w' t base X F := by
 obtain ⟨A, c, B, d, T, ct, tb, hi, rfl⟩ := h
 have hrow : ∀ {e : TypeId} {size n base' : Nat} {v : Value} {xs : List Value}, w.ownsRow base' e size v n xs → ¬ rTy e → ∀ j, rowF v j → ¬ G j := fun ho hne j hj hg => by
  obtain ⟨cs', fz', hc⟩ := own_ty ho hj
  obtain ⟨cs, fz, ty, hb, hty⟩ := hG j hg
  rw [hb] at hc
  injection hc with hc
  injection hc with _ hc _
  exact hne (hc ▸ hty)
 have hblk : ∀ {g' : Nat} {ty : TypeId} {cs : Array Value}, Blk w g' ty cs → ¬ rTy ty → ¬ G g' := fun {g' ty cs} hB hne hg => by
  have hb0 : w.heap[g']? = some (Obj.cells cs ty (0, 0)) := hB
  obtain ⟨cs, fz, ty', hb, hty⟩ := hG g' hg
  rw [hb] at hb0
  injection hb0 with hc
  injection hc with _ hc _
  exact hne (hc ▸ hty)
 have hmap : ∀ j, tM tb j → ¬ G j := fun j hj hg => by
  obtain ⟨_, _, es, ck, hbm⟩ := hi.map_ hj
  obtain ⟨cs, fz, ty, hb, _⟩ := hG j hg
  rw [hb] at hbm
  cases hbm
 refine ⟨A, c, B, d, T, ct, tb, ⟨hi.blk.fr hf (hblk hi.blk (by unfold rTy; decide)), own_fr hi.tiers hf (hrow hi.tiers (by unfold rTy; decide)), own_fr hi.floors hf (hrow hi.floors (by unfold rTy; decide)), own_fr hi.row hf (hrow hi.row (by unfold rTy; decide)), hi.tlen, fun i p x l h1 h2 h3 => ?_, hi.nodup, hi.ge, hi.tge⟩, rfl⟩
 have hT := hi.tab i p x l h1 h2 h3
 exact hT.fr hf (hblk hT.blk (by unfold rTy; decide)) (hmap p.2 ⟨p, List.mem_of_getElem? h1, rfl⟩)
theorem TiersOn.offR {t : Nat} (h : TiersOn w t base X F) (hG : RKind w G) : ∀ j, G j → ¬ F j := fun j hg hj => by
 obtain ⟨cs, fz, ty, hb, hty⟩ := hG j hg
 rcases h.kind j hj with ⟨es, ck, hm⟩ | ⟨cs', fz', hm⟩
 ·rw [hm] at hb; cases hb
 ·rw [hm] at hb
  injection hb with hb
  injection hb with _ hb _
  subst hb
  exact absurd hty (by unfold rTy; decide)
structure Duo (nm : ByteArray) (l : List TierV) (fl : List Int) (lo : Nat) (W : World) (t g : Nat) (X Y : TiersX) (F : Nat → Prop) (cc : Nat) : Prop where
 tio : Tio nm l fl lo W t X F cc
 ref : ∃ F0 A c B d T ct P, RTiersOn W g lo F0 Y A c B d T ct P ∧ RKind W F0
 good : GoodX nm l fl Y cc
theorem Duo.fr0 (h : Duo nm l fl lo W t g X Y F cc) (f : Fr (fun _ => False) W W') : Duo nm l fl lo W' t g X Y F cc := by
 obtain ⟨h1, ⟨F0, A, c, B, d, T, ct, P, h2, h3⟩, h4⟩ := h
 exact ⟨h1.fr0 f, ⟨F0, A, c, B, d, T, ct, P, h2.fr0 f, h3.fr0 f⟩, h4⟩
theorem Duo.more {cc2 : Nat} (h : Duo nm l fl lo W t g X Y F cc) (hc : cc ≤ cc2) : Duo nm l fl lo W t g X Y F cc2 := ⟨h.tio.more hc, h.ref, h.good.more hc⟩
theorem Duo.lo_le (h : Duo nm l fl lo W t g X Y F cc) : lo ≤ W.heap.size := by
 obtain ⟨_, ⟨F0, A, c, B, d, T, ct, P, h2, _⟩, _⟩ := h
 exact h2.lo_le
theorem Tio.frR (h : Tio nm l fl lo W t X F cc) (hf : Fr G W W') (hG : RKind W G) : Tio nm l fl lo W' t X F cc := by
 obtain ⟨base, hb, ho⟩ := h.on
 exact ⟨⟨base, hb, ho.frR hf hG⟩, h.good⟩
theorem Tio.offR (h : Tio nm l fl lo W t X F cc) (hG : RKind W G) : ∀ j, G j → ¬ F j := by
 obtain ⟨base, hb, ho⟩ := h.on
 exact ho.offR hG
theorem Duo.real {X' : TiersX} {cc2 : Nat} (h : Duo nm l fl lo W t g X Y F cc) (h2 : Tio nm l fl lo W' t X' F cc2) (f : Fr F W W') (hc : cc ≤ cc2) : Duo nm l fl lo W' t g X' Y F cc2 ∧ Below lo W W' := by
 obtain ⟨h1, ⟨F0, A, c, B, d, T, ct, P, h3, h4⟩, h5⟩ := h
 have hoff := h1.offR h4
 refine ⟨⟨h2, ⟨F0, A, c, B, d, T, ct, P, h3.fr f (fun j hj => ⟨(h1.ge j hj).1, fun hj2 => hoff j hj2 hj⟩), fun j hj => ?_⟩, h5.more hc⟩, h1.below h3.lo_le f⟩
 obtain ⟨cs, fz, ty, e1, e2⟩ := h4 j hj
 exact ⟨cs, fz, ty, by rw [f.block j (Array.getElem?_eq_some_iff.1 e1).1 (hoff j hj)]; exact e1, e2⟩
theorem Duo.doc {Y' : TiersX} {cc2 : Nat} {F0 : Nat → Prop} (h : Duo nm l fl lo W t g X Y F cc) (h3 : RTiersOn W g lo F0 Y A c B d T ct P) (hk : RKind W F0) (h2 : RtAt W W' g lo F0 Y' A c B d T ct P) (hg : GoodX nm l fl Y' cc2) (hc : cc ≤ cc2) : Duo nm l fl lo W' t g X Y' F cc2 ∧ Below lo W W' := by
 obtain ⟨F1, h4, hm⟩ := h2
 obtain ⟨F2, h5, _, h6⟩ := h4.exact
 exact ⟨⟨(h.tio.frR hm.fr hk).more hc, ⟨F2, A, c, B, d, T, ct, P, h5, h6⟩, hg⟩, hm.fr.below_of h3.lo_le (fun j hj => (h3.ge j hj).1)⟩
section
variable (p : PolOk nm l) (h : Duo nm l fl lo W t g X Y F cc)
include p h
end
end
end Go.Proofs.YtbblmmneeafhgaaGreat
namespace Go.Proofs.YtbblmmneeafhgaaGreat
set_option linter.all false
open Go.RowKit

end Go.Proofs.YtbblmmneeafhgaaGreat
