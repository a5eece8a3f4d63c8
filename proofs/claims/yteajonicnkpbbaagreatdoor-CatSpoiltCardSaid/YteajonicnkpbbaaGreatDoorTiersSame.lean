/- Walk of tiers: Same. -/
import Derived.Test.YteajonicnkpbbaaGreatDoorPolSame
import Derived.Test.YteajonicnkpbbaaGreatDoorTiersCopy
import Derived.Test.YteajonicnkpbbaaGreatDoorGoodX
import Derived.Test.YteajonicnkpbbaaGreatDoorTioA
import Derived.Test.YteajonicnkpbbaaGreatDoorRollLaw
import Derived.Test.YteajonicnkpbbaaGreatDoorTiersLoad
import Derived.Test.YteajonicnkpbbaaGreatDoorSegC
import Derived.Test.YteajonicnkpbbaaGreatDoorTiersP
import Derived.Test.YteajonicnkpbbaaGreatDoorFills
import Derived.Test.YteajonicnkpbbaaGreatDoorSame
import Derived.Test.YteajonicnkpbbaaGreatDoorRefGrid
import Derived.Test.YteajonicnkpbbaaGreatDoorTabAddL
import Derived.Deep.DeepCutAuto
import Derived.Deep.CutBlock
import Derived.Test.YteajonicnkpbbaaGreatDoorFrom
import Derived.Test.YteajonicnkpbbaaGreatDoorBases
import Derived.Test.YteajonicnkpbbaaGreatDoorReachC
namespace Go.Proofs.YteajonicnkpbbaaGreatDoor
set_option linter.all false
open Go.RowKit

end Go.Proofs.YteajonicnkpbbaaGreatDoor
namespace Go.Proofs.YteajonicnkpbbaaGreatDoor
set_option linter.all false
open Go.RowKit

end Go.Proofs.YteajonicnkpbbaaGreatDoor
namespace Go.Proofs.YteajonicnkpbbaaGreatDoor
set_option linter.all false
open Go.RowKit

section
variable {nm : ByteArray} {l : List TierV} {fl : List Int} {lo : Nat} {W W' : World} {t : Nat} {X : TiersX} {F : Nat → Prop} {c : Nat}
end
end Go.Proofs.YteajonicnkpbbaaGreatDoor
namespace Go.Proofs.YteajonicnkpbbaaGreatDoor
set_option linter.all false
open Go.RowKit

end Go.Proofs.YteajonicnkpbbaaGreatDoor
namespace Go.Proofs.YteajonicnkpbbaaGreatDoor
set_option linter.all false
open Go.RowKit

structure ShX where
 name : ByteArray
 tiers : List TierV
 srcs : List Int
 bound : Int
 done : Int
 tabs : List (List RecV)
structure ShIn (w : World) (t base : Nat) (X : ShX) (A : Option Addr) (c : Nat) (B : Option Addr) (d : Nat) (T : Option Addr) (ct : Nat) (tb : List (Nat × Nat)) : Prop where
 blk : Blk w t 93 #[.string X.name, .slice A X.tiers.length c, .slice B X.srcs.length d, .int .i64 X.bound, .int .i64 X.done, .slice T X.tiers.length ct]
 tiers : w.ownsRow base 99 4 (.slice A X.tiers.length c) X.tiers.length (tcells X.tiers)
 srcs : w.ownsRow base 3 1 (.slice B X.srcs.length d) X.srcs.length (ints X.srcs)
 row : w.ownsRow base 208 1 (.slice T X.tiers.length ct) X.tiers.length (ptrs tb)
 tlen : X.tabs.length = X.tiers.length
 tab : ∀ (i : Nat) (p : Nat × Nat) (x : TierV) (l : List RecV), tb[i]? = some p → X.tiers[i]? = some x → X.tabs[i]? = some l → TabAt w p.1 x.every p.2 l
 nodup : (tb.map Prod.snd).Nodup
 ge : ∀ p ∈ tb, base ≤ p.1 ∧ base ≤ p.2
 tge : base ≤ t
def ShAt (w : World) (t base : Nat) (X : ShX) : Prop := ∃ A c B d T ct tb, ShIn w t base X A c B d T ct tb
theorem ShIn.len {w : World} {t base : Nat} {X : ShX} {A B T : Option Addr} {c d ct : Nat} {tb : List (Nat × Nat)} (h : ShIn w t base X A c B d T ct tb) : tb.length = X.tiers.length := by
 have := h.row.1
 unfold ptrs at this
 rw [List.length_map] at this
 omega
theorem ShIn.tabAt {w : World} {t base : Nat} {X : ShX} {A B T : Option Addr} {c d ct : Nat} {tb : List (Nat × Nat)} (h : ShIn w t base X A c B d T ct tb) {k : Nat} (hk : k < X.tiers.length) :
  ∃ g b x l, tb[k]? = some (g, b) ∧ X.tiers[k]? = some x ∧ X.tabs[k]? = some l ∧ TabAt w g x.every b l := by
 have h1 : k < tb.length := by rw [h.len]; exact hk
 have h2 : k < X.tabs.length := by rw [h.tlen]; exact hk
 exact ⟨tb[k].1, tb[k].2, X.tiers[k], X.tabs[k], List.getElem?_eq_getElem h1, List.getElem?_eq_getElem hk, List.getElem?_eq_getElem h2, h.tab k _ _ _ (List.getElem?_eq_getElem h1) (List.getElem?_eq_getElem hk) (List.getElem?_eq_getElem h2)⟩
theorem ShIn.fr0 {w w' : World} {t base : Nat} {X : ShX} {A B T : Option Addr} {c d ct : Nat} {tb : List (Nat × Nat)} (h : ShIn w t base X A c B d T ct tb) (hf : Fr (fun _ => False) w w') : ShIn w' t base X A c B d T ct tb :=
 ⟨h.blk.fr hf (fun h => h), own_fr0 h.tiers hf, own_fr0 h.srcs hf, own_fr0 h.row hf, h.tlen, fun i p x l h1 h2 h3 => (h.tab i p x l h1 h2 h3).fr0 hf, h.nodup, h.ge, h.tge⟩
theorem ShIn.set {w w' : World} {t base : Nat} {X : ShX} {A B T : Option Addr} {c d ct : Nat} {tb : List (Nat × Nat)} (h : ShIn w t base X A c B d T ct tb) {k g b : Nat} {x : TierV} {l' : List RecV} (hk : tb[k]? = some (g, b)) (hx : X.tiers[k]? = some x)
  (ht : TabAt w' g x.every b l') (hf : Fr (fun j => j = b) w w') : ShIn w' t base { X with tabs := X.tabs.set k l' } A c B d T ct tb := by
 have hkl : k < X.tiers.length := (List.getElem?_eq_some_iff.1 hx).1
 obtain ⟨l, hl⟩ : ∃ l, X.tabs[k]? = some l := ⟨_, List.getElem?_eq_getElem (by rw [h.tlen]; exact hkl)⟩
 obtain ⟨es, ck, hbm⟩ := (h.tab k (g, b) x l hk hx hl).own.isMap
 simp only at hbm
 have hrow : ∀ {e : TypeId} {size n base' : Nat} {v : Value} {xs : List Value}, w.ownsRow base' e size v n xs → ∀ j, rowF v j → ¬ j = b := fun ho j hj e => by
  obtain ⟨cs', fz, hc⟩ := own_ty ho hj
  rw [e, hbm] at hc
  cases hc
 have hblk : ∀ {g' : Nat} {ty : TypeId} {cs : Array Value}, Blk w g' ty cs → g' ≠ b := fun {g' ty cs} hb e => by
  have hb0 : w.heap[g']? = some (Obj.cells cs ty (0, 0)) := hb
  rw [e, hbm] at hb0
  cases hb0
 refine ⟨h.blk.fr hf (hblk h.blk), own_fr h.tiers hf (hrow h.tiers), own_fr h.srcs hf (hrow h.srcs), own_fr h.row hf (hrow h.row), by simp [h.tlen], fun i p y l1 h1 h2 h3 => ?_, h.nodup, h.ge, h.tge⟩
 by_cases e : i = k
 ·subst e
  rw [hk] at h1
  cases h1
  rw [hx] at h2
  cases h2
  rw [List.getElem?_set_self (by rw [h.tlen]; exact hkl)] at h3
  cases h3
  exact ht
 ·rw [List.getElem?_set_ne (fun e' => e e'.symm)] at h3
  have hT := h.tab i p y l1 h1 h2 h3
  refine hT.fr hf (hblk hT.blk) (fun e' => ?_)
  have hi : (tb.map Prod.snd)[i]? = some b := by rw [List.getElem?_map, h1]; simp [e']
  have hk2 : (tb.map Prod.snd)[k]? = some b := by rw [List.getElem?_map, hk]; rfl
  have hil := (List.getElem?_eq_some_iff.1 hi).1
  exact e ((List.getElem?_inj hil h.nodup).1 (hi.trans hk2.symm))

def ShOn (w : World) (t base : Nat) (X : ShX) (F : Nat → Prop) : Prop := ∃ A c B d T ct tb, ShIn w t base X A c B d T ct tb ∧ F = tF t tb
theorem ShOn.at_ {w : World} {t base : Nat} {X : ShX} {F : Nat → Prop} (h : ShOn w t base X F) : ShAt w t base X := by
 obtain ⟨A, c, B, d, T, ct, tb, hi, _⟩ := h
 exact ⟨A, c, B, d, T, ct, tb, hi⟩
theorem ShAt.on {w : World} {t base : Nat} {X : ShX} (h : ShAt w t base X) : ∃ F, ShOn w t base X F := by
 obtain ⟨A, c, B, d, T, ct, tb, hi⟩ := h
 exact ⟨_, A, c, B, d, T, ct, tb, hi, rfl⟩
theorem ShOn.fr0 {w w' : World} {t base : Nat} {X : ShX} {F : Nat → Prop} (h : ShOn w t base X F) (hf : Fr (fun _ => False) w w') : ShOn w' t base X F := by
 obtain ⟨A, c, B, d, T, ct, tb, hi, e⟩ := h
 exact ⟨A, c, B, d, T, ct, tb, hi.fr0 hf, e⟩
theorem ShAt.fr0 {w w' : World} {t base : Nat} {X : ShX} (h : ShAt w t base X) (hf : Fr (fun _ => False) w w') : ShAt w' t base X := by
 obtain ⟨F, h⟩ := h.on
 exact (h.fr0 hf).at_
theorem ShIn.map_ {w : World} {t base : Nat} {X : ShX} {A B T : Option Addr} {c d ct : Nat} {tb : List (Nat × Nat)} (h : ShIn w t base X A c B d T ct tb) {j : Nat} (hj : tM tb j) : base ≤ j ∧ j < w.heap.size ∧ ∃ es ck, w.heap[j]? = some (.map es ck) := by
 obtain ⟨p, hp, rfl⟩ := hj
 obtain ⟨k, hk⟩ := List.getElem?_of_mem hp
 have hkl : k < X.tiers.length := by have := (List.getElem?_eq_some_iff.1 hk).1; rw [h.len] at this; exact this
 obtain ⟨g, b, x, l, h1, h2, h3, hT⟩ := h.tabAt hkl
 rw [hk] at h1
 cases h1
 exact ⟨(h.ge _ hp).2, hT.own.lt, hT.own.isMap⟩
theorem ShOn.ge {w : World} {t base : Nat} {X : ShX} {F : Nat → Prop} (h : ShOn w t base X F) : ∀ j, F j → base ≤ j ∧ j < w.heap.size := by
 obtain ⟨A, c, B, d, T, ct, tb, hi, rfl⟩ := h
 rintro j (rfl | hj)
 ·exact ⟨hi.tge, hi.blk.lt⟩
 ·exact ⟨(hi.map_ hj).1, (hi.map_ hj).2.1⟩
theorem ShOn.fr {w w' : World} {t base : Nat} {X : ShX} {F G : Nat → Prop} (h : ShOn w t base X F) (hf : Fr G w w') (hG : ∀ j, G j → (∃ es ck, w.heap[j]? = some (.map es ck)) ∨ (∃ cs fz ty, w.heap[j]? = some (.cells cs ty fz) ∧ ty ≠ 99 ∧ ty ≠ 3 ∧ ty ≠ 208 ∧ ty ≠ 244)) (hd : ∀ j, F j → ¬ G j) : ShOn w' t base X F := by
 obtain ⟨A, c, B, d, T, ct, tb, hi, rfl⟩ := h
 have hrow : ∀ {e : TypeId} {size n base' : Nat} {v : Value} {xs : List Value}, w.ownsRow base' e size v n xs → (e = 99 ∨ e = 3 ∨ e = 208) → ∀ j, rowF v j → ¬ G j := fun ho hne j hj hg => by
  obtain ⟨cs', fz', hc⟩ := own_ty ho hj
  rcases hG j hg with ⟨es, ck, hbm⟩ | ⟨cs, fz, ty, hb, h1, h2, h3, h4⟩
  ·rw [hbm] at hc; cases hc
  ·rw [hb] at hc
   injection hc with hc
   injection hc with _ hc _
   subst hc
   rcases hne with e | e | e
   ·exact h1 e
   ·exact h2 e
   ·exact h3 e
 have hblk : ∀ {g' : Nat} {cs : Array Value}, Blk w g' 244 cs → ¬ G g' := fun {g' cs} hB hg => by
  have hb0 : w.heap[g']? = some (Obj.cells cs 244 (0, 0)) := hB
  rcases hG g' hg with ⟨es, ck, hbm⟩ | ⟨cs, fz, ty, hb, h1, h2, h3, h4⟩
  ·rw [hbm] at hb0; cases hb0
  ·rw [hb] at hb0
   injection hb0 with hc
   injection hc with _ hc _
   exact h4 hc
 refine ⟨A, c, B, d, T, ct, tb, ⟨hi.blk.fr hf (hd t (.inl rfl)), own_fr hi.tiers hf (hrow hi.tiers (.inl rfl)), own_fr hi.srcs hf (hrow hi.srcs (.inr (.inl rfl))), own_fr hi.row hf (hrow hi.row (.inr (.inr rfl))), hi.tlen, fun i p x l h1 h2 h3 => ?_, hi.nodup, hi.ge, hi.tge⟩, rfl⟩
 have hT := hi.tab i p x l h1 h2 h3
 exact hT.fr hf (hblk hT.blk) (hd p.2 (.inr ⟨p, List.mem_of_getElem? h1, rfl⟩))
theorem ShOn.kind {w : World} {t base : Nat} {X : ShX} {F : Nat → Prop} (h : ShOn w t base X F) : ∀ j, F j → (∃ es ck, w.heap[j]? = some (.map es ck)) ∨ (∃ cs fz, w.heap[j]? = some (.cells cs 93 fz)) := by
 obtain ⟨A, c, B, d, T, ct, tb, hi, rfl⟩ := h
 rintro j (rfl | hj)
 ·exact .inr ⟨_, _, hi.blk⟩
 ·exact .inl (hi.map_ hj).2.2
structure ShP (w : World) (t base : Nat) (X : ShX) (A : Option Addr) (c : Nat) (B : Option Addr) (d : Nat) (T : Option Addr) (ct : Nat) (tb : List (Nat × Nat)) (k : Nat) : Prop where
 blk : Blk w t 93 #[.string X.name, .slice A X.tiers.length c, .slice B X.srcs.length d, .int .i64 X.bound, .int .i64 X.done, .slice T k ct]
 tiers : w.ownsRow base 99 4 (.slice A X.tiers.length c) X.tiers.length (tcells X.tiers)
 srcs : w.ownsRow base 3 1 (.slice B X.srcs.length d) X.srcs.length (ints X.srcs)
 row : w.ownsRow base 208 1 (.slice T k ct) k (ptrs tb)
 tab : ∀ (i : Nat) (p : Nat × Nat) (x : TierV) (l : List RecV), tb[i]? = some p → X.tiers[i]? = some x → X.tabs[i]? = some l → TabAt w p.1 x.every p.2 l
 lt : ∀ p ∈ tb, p.1 < w.heap.size ∧ p.2 < w.heap.size
 nodup : (tb.map Prod.snd).Nodup
 ge : ∀ p ∈ tb, base ≤ p.1 ∧ base ≤ p.2
 tge : base ≤ t
theorem ShP.len {w : World} {t base k : Nat} {X : ShX} {A B T : Option Addr} {c d ct : Nat} {tb : List (Nat × Nat)} (h : ShP w t base X A c B d T ct tb k) : tb.length = k := by
 have := h.row.1
 unfold ptrs at this
 rw [List.length_map] at this
 omega
theorem ShP.fr0 {w w' : World} {t base k : Nat} {X : ShX} {A B T : Option Addr} {c d ct : Nat} {tb : List (Nat × Nat)} (h : ShP w t base X A c B d T ct tb k) (hf : Fr (fun _ => False) w w') : ShP w' t base X A c B d T ct tb k :=
 ⟨h.blk.fr hf (fun h => h), own_fr0 h.tiers hf, own_fr0 h.srcs hf, own_fr0 h.row hf, fun i p x l h1 h2 h3 => (h.tab i p x l h1 h2 h3).fr0 hf, fun p hp => ⟨Nat.lt_of_lt_of_le (h.lt p hp).1 hf.size, Nat.lt_of_lt_of_le (h.lt p hp).2 hf.size⟩, h.nodup, h.ge, h.tge⟩
theorem ShP.done {w : World} {t base : Nat} {X : ShX} {A B T : Option Addr} {c d ct : Nat} {tb : List (Nat × Nat)} (h : ShP w t base X A c B d T ct tb X.tiers.length) (hl : X.tabs.length = X.tiers.length) : ShAt w t base X :=
 ⟨A, c, B, d, T, ct, tb, h.blk, h.tiers, h.srcs, h.row, hl, h.tab, h.nodup, h.ge, h.tge⟩
theorem ShP.snoc {w w5 w6 : World} {t base k g b : Nat} {X : ShX} {A B T T' : Option Addr} {c d ct ct' : Nat} {tb : List (Nat × Nat)} {x : TierV} {l : List RecV} (h : ShP w t base X A c B d T ct tb k)
  (hf : Fr (fun _ => False) w w5) (hbs : base ≤ w.heap.size) (hg : w.heap.size ≤ g) (hb : w.heap.size ≤ b) (hx : X.tiers[k]? = some x) (hl : X.tabs[k]? = some l) (ht : TabAt w5 g x.every b l) (o : Obj)
  (ho : w6.ownsRow base 208 1 (.slice T' (k + 1) ct') (k + 1) (ptrs tb ++ [.pointer (some ⟨g, 0, none⟩)])) (hm : Mv (rowF (.slice T k ct)) (rowF (.slice T' (k + 1) ct')) (w5.alloc o) w6) :
  ShP (w6.setCell ⟨t, 5, none⟩ (.slice T' (k + 1) ct')) t base X A c B d T' ct' (tb ++ [(g, b)]) (k + 1) ∧ Fr (fun j => base ≤ j) w (w6.setCell ⟨t, 5, none⟩ (.slice T' (k + 1) ct')) := by
 have h5 := h.fr0 (hf.trans (Fr.none_alloc w5 o) (fun _ h => h.elim))
 have ht5 : TabAt (w5.alloc o) g x.every b l := ht.fr0 (Fr.none_alloc _ _)
 have hblk : ∀ {g' : Nat} {ty : TypeId} {cs : Array Value}, Blk (w5.alloc o) g' ty cs → ty ≠ 208 → ¬ rowF (.slice T k ct) g' := fun {g' ty cs} hB hne hj => own_blk_ne h5.row hB (fun e => hne e.symm) hj
 have hmap : ∀ {b' : Nat} {m : List RecV}, OwnsT (w5.alloc o) b' m → ¬ rowF (.slice T k ct) b' := fun {b' m} hB hj => by
  obtain ⟨es, ck, hbm⟩ := hB.isMap
  obtain ⟨cs', fz, hc⟩ := own_ty h5.row hj
  rw [hbm] at hc
  cases hc
 have b6 : Blk w6 t 93 #[.string X.name, .slice A X.tiers.length c, .slice B X.srcs.length d, .int .i64 X.bound, .int .i64 X.done, .slice T k ct] := h5.blk.fr hm.fr (hblk h5.blk (by decide))
 have t6 : w6.ownsRow base 99 4 (.slice A X.tiers.length c) X.tiers.length (tcells X.tiers) := own_fr h5.tiers hm.fr (own_ty_ne h5.tiers h5.row (by decide))
 have f6 : w6.ownsRow base 3 1 (.slice B X.srcs.length d) X.srcs.length (ints X.srcs) := own_fr h5.srcs hm.fr (own_ty_ne h5.srcs h5.row (by decide))
 have hs : Fr (fun j => j = t) w6 (w6.setCell ⟨t, 5, none⟩ (.slice T' (k + 1) ct')) := (Fr.refl (fun j => j = t) w6).setCell (p := ⟨t, 5, none⟩) (.inl rfl) _
 have hlen := h.len
 have hkl : k < X.tiers.length := (List.getElem?_eq_some_iff.1 hx).1
 have tab6 : ∀ {g' b' : Nat} {e : Int} {m : List RecV}, TabAt (w5.alloc o) g' e b' m → TabAt (w6.setCell ⟨t, 5, none⟩ (.slice T' (k + 1) ct')) g' e b' m := fun {g' b' e m} hT => by
  have hT6 : TabAt w6 g' e b' m := hT.fr hm.fr (hblk hT.blk (by decide)) (hmap hT.own)
  refine hT6.fr hs (blk_ne_ty hT6.blk b6 (by decide)) (fun e' => ?_)
  obtain ⟨es, ck, hbm⟩ := hT6.own.isMap
  have hb0 : w6.heap[t]? = some (Obj.cells _ _ (0, 0)) := b6
  rw [← e', hbm] at hb0
  cases hb0
 have hsz : w.heap.size ≤ (w6.setCell ⟨t, 5, none⟩ (.slice T' (k + 1) ct')).heap.size := Nat.le_trans (Nat.le_trans (hf.trans (Fr.none_alloc w5 o) (fun _ h => h.elim)).size hm.fr.size) hs.size
 refine ⟨⟨b6.set_ 5 _, own_fr t6 hs (fun j hj e => own_blk_ne t6 b6 (by decide) (by rw [← e]; exact hj)), own_fr f6 hs (fun j hj e => own_blk_ne f6 b6 (by decide) (by rw [← e]; exact hj)), ?_, fun i p y m h1 h2 h3 => ?_, fun p hp => ?_, ?_, fun p hp => ?_, h.tge⟩, ?_⟩
 ·have : ptrs (tb ++ [(g, b)]) = ptrs tb ++ [.pointer (some ⟨g, 0, none⟩)] := by unfold ptrs; rw [List.map_append]; rfl
  rw [this]
  exact own_fr ho hs (fun j hj e => own_blk_ne ho b6 (by decide) (by rw [← e]; exact hj))
 ·by_cases hi : i < tb.length
  ·rw [List.getElem?_append_left hi] at h1
   exact tab6 (h5.tab i p y m h1 h2 h3)
  ·rw [List.getElem?_append_right (by omega)] at h1
   have hik : i = k := by
    have := (List.getElem?_eq_some_iff.1 h1).1
    simp at this
    omega
   subst hik
   rw [hlen, Nat.sub_self] at h1
   cases h1
   rw [hx] at h2
   cases h2
   rw [hl] at h3
   cases h3
   exact tab6 ht5
 ·rcases List.mem_append.1 hp with hp | hp
  ·exact ⟨Nat.lt_of_lt_of_le (h.lt p hp).1 hsz, Nat.lt_of_lt_of_le (h.lt p hp).2 hsz⟩
  ·rw [List.mem_singleton] at hp
   subst hp
   exact ⟨(tab6 ht5).blk.lt, (tab6 ht5).own.lt⟩
 ·rw [List.map_append, List.nodup_append]
  refine ⟨h.nodup, by simp, fun a ha b' hb' => ?_⟩
  obtain ⟨p, hp, rfl⟩ := List.mem_map.1 ha
  simp at hb'
  subst hb'
  have := (h.lt p hp).2
  omega
 ·rcases List.mem_append.1 hp with hp | hp
  ·exact h.ge p hp
  ·rw [List.mem_singleton] at hp
   subst hp
   exact ⟨by omega, by omega⟩
 ·have q1 : Fr (fun j => base ≤ j) w (w5.alloc o) := (hf.trans (Fr.none_alloc w5 o) (fun _ h => h.elim)).mono (fun _ h => h.elim)
  have q2 : Fr (fun j => base ≤ j) w w6 := q1.trans hm.fr (fun j hj => .inl (h5.row.lt j hj).1)
  exact q2.trans hs (fun j hj => .inl (by rw [hj]; exact h.tge))
theorem TiersOn.frSh {w w' : World} {t base : Nat} {X : TiersX} {F G : Nat → Prop} (h : TiersOn w t base X F) (hf : Fr G w w') (hG : ∀ j, G j → (∃ es ck, w.heap[j]? = some (.map es ck)) ∨ (∃ cs fz ty, w.heap[j]? = some (.cells cs ty fz) ∧ ty ≠ 99 ∧ ty ≠ 3 ∧ ty ≠ 208 ∧ ty ≠ 244)) (hd : ∀ j, F j → ¬ G j) : TiersOn w' t base X F := by
 obtain ⟨A, c, B, d, T, ct, tb, hi, rfl⟩ := h
 have hrow : ∀ {e : TypeId} {size n base' : Nat} {v : Value} {xs : List Value}, w.ownsRow base' e size v n xs → (e = 99 ∨ e = 3 ∨ e = 208) → ∀ j, rowF v j → ¬ G j := fun ho hne j hj hg => by
  obtain ⟨cs', fz', hc⟩ := own_ty ho hj
  rcases hG j hg with ⟨es, ck, hbm⟩ | ⟨cs, fz, ty, hb, h1, h2, h3, h4⟩
  ·rw [hbm] at hc; cases hc
  ·rw [hb] at hc
   injection hc with hc
   injection hc with _ hc _
   subst hc
   rcases hne with e | e | e
   ·exact h1 e
   ·exact h2 e
   ·exact h3 e
 have hblk : ∀ {g' : Nat} {cs : Array Value}, Blk w g' 244 cs → ¬ G g' := fun {g' cs} hB hg => by
  have hb0 : w.heap[g']? = some (Obj.cells cs 244 (0, 0)) := hB
  rcases hG g' hg with ⟨es, ck, hbm⟩ | ⟨cs, fz, ty, hb, h1, h2, h3, h4⟩
  ·rw [hbm] at hb0; cases hb0
  ·rw [hb] at hb0
   injection hb0 with hc
   injection hc with _ hc _
   exact h4 hc
 refine ⟨A, c, B, d, T, ct, tb, ⟨hi.blk.fr hf (hd t (.inl rfl)), own_fr hi.tiers hf (hrow hi.tiers (.inl rfl)), own_fr hi.floors hf (hrow hi.floors (.inr (.inl rfl))), own_fr hi.row hf (hrow hi.row (.inr (.inr rfl))), hi.tlen, fun i p x l h1 h2 h3 => ?_, hi.nodup, hi.ge, hi.tge⟩, rfl⟩
 have hT := hi.tab i p x l h1 h2 h3
 exact hT.fr hf (hblk hT.blk) (hd p.2 (.inr ⟨p, List.mem_of_getElem? h1, rfl⟩))
theorem ShOn.kind2 {w : World} {t base : Nat} {X : ShX} {F : Nat → Prop} (h : ShOn w t base X F) : ∀ j, F j → (∃ es ck, w.heap[j]? = some (.map es ck)) ∨ (∃ cs fz ty, w.heap[j]? = some (.cells cs ty fz) ∧ ty ≠ 99 ∧ ty ≠ 3 ∧ ty ≠ 208 ∧ ty ≠ 244) := fun j hj => by
 rcases h.kind j hj with h | ⟨cs, fz, h⟩
 ·exact .inl h
 ·exact .inr ⟨cs, fz, _, h, by decide, by decide, by decide, by decide⟩
theorem TiersOn.kind2 {w : World} {t base : Nat} {X : TiersX} {F : Nat → Prop} (h : TiersOn w t base X F) : ∀ j, F j → (∃ es ck, w.heap[j]? = some (.map es ck)) ∨ (∃ cs fz ty, w.heap[j]? = some (.cells cs ty fz) ∧ ty ≠ 99 ∧ ty ≠ 3 ∧ ty ≠ 208 ∧ ty ≠ 244) := fun j hj => by
 rcases h.kind j hj with h | ⟨cs, fz, h⟩
 ·exact .inl h
 ·exact .inr ⟨cs, fz, _, h, by decide, by decide, by decide, by decide⟩
end Go.Proofs.YteajonicnkpbbaaGreatDoor
namespace Go.Proofs.YteajonicnkpbbaaGreatDoor
set_option linter.all false
open Go.RowKit

section
variable {nm nm2 : ByteArray} {l l2 : List TierV} {fl fl2 : List Int} {lo lo2 : Nat} {W W' : World} {t t2 s s2 base base2 : Nat} {X Y : TiersX} {S S2 : ShX} {F F2 G : Nat → Prop} {c c2 : Nat}
theorem Tio.frSh (h : Tio nm l fl lo W t X F c) (hf : Fr G W W') (hS : ShOn W s base S G) (hd : ∀ j, F j → ¬ G j) : Tio nm l fl lo W' t X F c := by
 obtain ⟨b, hb, ho⟩ := h.on
 exact ⟨⟨b, hb, ho.frSh hf hS.kind2 hd⟩, h.good⟩
end
end Go.Proofs.YteajonicnkpbbaaGreatDoor
namespace Go.Proofs.YteajonicnkpbbaaGreatDoor
set_option linter.all false
open Go.RowKit

section
variable {w w' : World} {t base : Nat} {X : ShX} {F : Nat → Prop}
theorem ShIn.cells {A B T : Option Addr} {c d ct : Nat} {tb : List (Nat × Nat)} (h : ShIn w t base X A c B d T ct tb) {G : Nat → Prop} {W : World} (f : Fr G w W) (hg : ¬ G t) :
  W.cell? ⟨t, 0, none⟩ = some (.string X.name) ∧ W.cell? ⟨t, 1, none⟩ = some (.slice A X.tiers.length c) ∧ W.cell? ⟨t, 2, none⟩ = some (.slice B X.srcs.length d) ∧ W.cell? ⟨t, 3, none⟩ = some (.int .i64 X.bound) ∧ W.cell? ⟨t, 4, none⟩ = some (.int .i64 X.done) ∧ W.cell? ⟨t, 5, none⟩ = some (.slice T X.tiers.length ct) :=
 have b := h.blk.fr f hg
 ⟨b.cell 0, b.cell 1, b.cell 2, b.cell 3, b.cell 4, b.cell 5⟩
end
theorem sbound_any (t base : Nat) (X : ShX) (w : World) (h : ShAt w t base X) :
  Calls Tryz.prog 34 #[.pointer (some ⟨t, 0, none⟩)] w fun r w' => r = .returned (.int .i64 X.bound) ∧ w = w' := by
 obtain ⟨A, c, B, d, T, ct, tb, hi⟩ := h
 obtain ⟨_, _, _, c3, _, _⟩ := hi.cells (Fr.refl (fun _ => False) w) (fun h => h)
 clear hi
 go_enter Tryz.func34, Tryz.ntmps34
 go_wp2_with fail
 go_ret
 exact ⟨rfl, rfl⟩
theorem sdone_any (t base : Nat) (X : ShX) (w : World) (h : ShAt w t base X) :
  Calls Tryz.prog 35 #[.pointer (some ⟨t, 0, none⟩)] w fun r w' => r = .returned (.int .i64 X.done) ∧ w = w' := by
 obtain ⟨A, c, B, d, T, ct, tb, hi⟩ := h
 obtain ⟨_, _, _, _, c4, _⟩ := hi.cells (Fr.refl (fun _ => False) w) (fun h => h)
 clear hi
 go_enter Tryz.func35, Tryz.ntmps35
 go_wp2_with fail
 go_ret
 exact ⟨rfl, rfl⟩
theorem scopy_nil (w : World) : Calls Tryz.prog 109 #[.pointer none] w fun r w' => r = .returned (.pointer none) ∧ w = w' := by
 go_enter Tryz.func109, Tryz.ntmps109
 go_wp2_with fail
 go_ret
 exact ⟨rfl, rfl⟩
end Go.Proofs.YteajonicnkpbbaaGreatDoor
namespace Go.Proofs.YteajonicnkpbbaaGreatDoor
set_option linter.all false
open Go.RowKit

end Go.Proofs.YteajonicnkpbbaaGreatDoor
namespace Go.Proofs.YteajonicnkpbbaaGreatDoor
set_option linter.all false
open Go.RowKit

end Go.Proofs.YteajonicnkpbbaaGreatDoor
namespace Go.Proofs.YteajonicnkpbbaaGreatDoor
set_option linter.all false
open Go.RowKit

end Go.Proofs.YteajonicnkpbbaaGreatDoor
namespace Go.Proofs.YteajonicnkpbbaaGreatDoor
set_option linter.all false
open Go.RowKit

end Go.Proofs.YteajonicnkpbbaaGreatDoor
namespace Go.Proofs.YteajonicnkpbbaaGreatDoor
set_option linter.all false
open Go.RowKit

end Go.Proofs.YteajonicnkpbbaaGreatDoor
namespace Go.Proofs.YteajonicnkpbbaaGreatDoor
set_option linter.all false
open Go.RowKit

theorem Blk.five {w : World} {g : Nat} {t : TypeId} {a0 a1 b0 c0 d0 e0 f0 a b c d e : Value} (h : Blk w g t #[a0, a1, b0, c0, d0, e0, f0]) : Blk (((((w.setCell ⟨g, 2, none⟩ a).setCell ⟨g, 3, none⟩ b).setCell ⟨g, 4, none⟩ c).setCell ⟨g, 5, none⟩ d).setCell ⟨g, 6, none⟩ e) g t #[a0, a1, a, b, c, d, e] := by
 have := ((((h.set_ 2 a).set_ 3 b).set_ 4 c).set_ 5 d).set_ 6 e
 simpa using this
theorem Fr.five {w1 w : World} {F : Nat → Prop} (h : Fr F w1 w) {g : Nat} (hg : F g) (a b c d e : Value) : Fr F w1 (((((w.setCell ⟨g, 2, none⟩ a).setCell ⟨g, 3, none⟩ b).setCell ⟨g, 4, none⟩ c).setCell ⟨g, 5, none⟩ d).setCell ⟨g, 6, none⟩ e) :=
 ((((h.setCell (p := ⟨g, 2, none⟩) (.inl hg) a).setCell (p := ⟨g, 3, none⟩) (.inl hg) b).setCell (p := ⟨g, 4, none⟩) (.inl hg) c).setCell (p := ⟨g, 5, none⟩) (.inl hg) d).setCell (p := ⟨g, 6, none⟩) (.inl hg) e
end Go.Proofs.YteajonicnkpbbaaGreatDoor
namespace Go.Proofs.YteajonicnkpbbaaGreatDoor
set_option linter.all false
open Go.RowKit

end Go.Proofs.YteajonicnkpbbaaGreatDoor
namespace Go.Proofs.YteajonicnkpbbaaGreatDoor
set_option linter.all false
open Go.RowKit

end Go.Proofs.YteajonicnkpbbaaGreatDoor
namespace Go.Proofs.YteajonicnkpbbaaGreatDoor
set_option linter.all false
open Go.RowKit

end Go.Proofs.YteajonicnkpbbaaGreatDoor
namespace Go.Proofs.YteajonicnkpbbaaGreatDoor
set_option linter.all false
open Go.RowKit

end Go.Proofs.YteajonicnkpbbaaGreatDoor
namespace Go.Proofs.YteajonicnkpbbaaGreatDoor
set_option linter.all false
open Go.RowKit

def uptoL {α : Type} (n : Nat) (f g : Nat → α) (i : Nat) : List α := (List.range n).map fun k => if k < i then f k else g k
section
variable {α : Type} {n i : Nat} {f g : Nat → α}
theorem uptoL_len : (uptoL n f g i).length = n := by unfold uptoL; simp
theorem uptoL_zero : uptoL n f g 0 = (List.range n).map g := by unfold uptoL; simp
theorem uptoL_all : uptoL n f g n = (List.range n).map f := by
 unfold uptoL
 refine List.map_congr_left fun k hk => ?_
 rw [if_pos (List.mem_range.1 hk)]
theorem uptoL_set (h : i < n) : (uptoL n f g i).set i (f i) = uptoL n f g (i + 1) := by
 apply List.ext_getElem?
 intro j
 by_cases e : i = j
 ·subst e
  rw [List.getElem?_set_self (by rw [uptoL_len]; exact h)]
  unfold uptoL
  rw [List.getElem?_map, List.getElem?_range h]
  simp
 ·rw [List.getElem?_set_ne e]
  unfold uptoL
  rw [List.getElem?_map, List.getElem?_map]
  by_cases hj : j < n
  ·rw [List.getElem?_range hj]
   simp only [Option.map_some]
   by_cases h1 : j < i
   ·rw [if_pos h1, if_pos (by omega)]
   ·rw [if_neg h1, if_neg (by omega)]
  ·rw [List.getElem?_eq_none (by simpa using hj)]
   rfl
end
theorem getD_all {tabs : List (List RecV)} {n : Nat} (h : tabs.length = n) : (List.range n).map (fun k => tabs.getD k []) = tabs := by
 apply List.ext_getElem?
 intro j
 rw [List.getElem?_map]
 by_cases hj : j < n
 ·rw [List.getElem?_range hj, List.getElem?_eq_getElem (by omega)]
  simp [List.getD_eq_getElem?_getD, List.getElem?_eq_getElem (show j < tabs.length by omega)]
 ·rw [List.getElem?_eq_none (by simpa using hj), List.getElem?_eq_none (by omega)]
  rfl

section
variable {W W' : World} {p lo : Nat} {F F' G : Nat → Prop} {every : Int} {l : List RecV}
end

section
variable {W W' : World} {g lo : Nat} {F G : Nat → Prop} {X : TiersX} {A B T : Option Addr} {c d ct : Nat} {P : List Nat}
end
end Go.Proofs.YteajonicnkpbbaaGreatDoor
namespace Go.Proofs.YteajonicnkpbbaaGreatDoor
set_option linter.all false
open Go.RowKit

end Go.Proofs.YteajonicnkpbbaaGreatDoor
