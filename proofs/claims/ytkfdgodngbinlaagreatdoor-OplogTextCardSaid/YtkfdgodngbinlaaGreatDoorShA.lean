/- The shadow in memory: its struct, its tables; frames; while it is made. -/
import Derived.Test.YtkfdgodngbinlaaGreatDoorTiersP
import Derived.Test.YtkfdgodngbinlaaGreatDoorGoodX
import Derived.Test.YtkfdgodngbinlaaGreatDoorFills
import Derived.Test.YtkfdgodngbinlaaGreatDoorSame
import Derived.Test.YtkfdgodngbinlaaGreatDoorRefGrid
import Derived.Test.YtkfdgodngbinlaaGreatDoorTabAddL
import Derived.Deep.DeepCutAuto
import Derived.Deep.CutBlock
import Derived.Test.YtkfdgodngbinlaaGreatDoorFrom
import Derived.Test.YtkfdgodngbinlaaGreatDoorBases
import Derived.Test.YtkfdgodngbinlaaGreatDoorRollLaw
import Derived.Test.YtkfdgodngbinlaaGreatDoorReachC
import Derived.Test.YtkfdgodngbinlaaGreatDoorTiersCopy
import Derived.Test.YtkfdgodngbinlaaGreatDoorTiersLoad
import Derived.Test.YtkfdgodngbinlaaGreatDoorOpenRec
import Derived.Test.YtkfdgodngbinlaaGreatDoorTk
namespace Go.Proofs.YtkfdgodngbinlaaGreatDoor
set_option linter.all false
open Go.RowKit

structure ShX where
 name : ByteArray
 tiers : List TierV
 srcs : List Int
 bound : Int
 done : Int
 tabs : List (List RecV)
structure ShIn (w : World) (t base : Nat) (X : ShX) (A : Option Addr) (c : Nat) (B : Option Addr) (d : Nat) (T : Option Addr) (ct : Nat) (tb : List (Nat × Nat)) : Prop where
 blk : Blk w t 63 #[.string X.name, .slice A X.tiers.length c, .slice B X.srcs.length d, .int .i64 X.bound, .int .i64 X.done, .slice T X.tiers.length ct]
 tiers : w.ownsRow base 109 4 (.slice A X.tiers.length c) X.tiers.length (tcells X.tiers)
 srcs : w.ownsRow base 3 1 (.slice B X.srcs.length d) X.srcs.length (ints X.srcs)
 row : w.ownsRow base 107 1 (.slice T X.tiers.length ct) X.tiers.length (ptrs tb)
 tlen : X.tabs.length = X.tiers.length
 tab : ∀ (i : Nat) (p : Nat × Nat) (x : TierV) (l : List RecV), tb[i]? = some p → X.tiers[i]? = some x → X.tabs[i]? = some l → TabAt w p.1 x.every p.2 l
 nodup : (tb.map Prod.snd).Nodup
 ge : ∀ p ∈ tb, base ≤ p.1 ∧ base ≤ p.2
 tge : base ≤ t
def ShAt (w : World) (t base : Nat) (X : ShX) : Prop := ∃ A c B d T ct tb, ShIn w t base X A c B d T ct tb
theorem ShIn.len {w : World} {t base : Nat} {X : ShX} {A B T : Option Addr} {c d ct : Nat} {tb : List (Nat × Nat)} (h : ShIn w t base X A c B d T ct tb) : tb.length = X.tiers.length := by
 have := h.row.1
 unfold ptrs at this
 rw [List.length_map] at this
 omega
theorem ShIn.tabAt {w : World} {t base : Nat} {X : ShX} {A B T : Option Addr} {c d ct : Nat} {tb : List (Nat × Nat)} (h : ShIn w t base X A c B d T ct tb) {k : Nat} (hk : k < X.tiers.length) :
  ∃ g b x l, tb[k]? = some (g, b) ∧ X.tiers[k]? = some x ∧ X.tabs[k]? = some l ∧ TabAt w g x.every b l := by
 have h1 : k < tb.length := by rw [h.len]; exact hk
 have h2 : k < X.tabs.length := by rw [h.tlen]; exact hk
 exact ⟨tb[k].1, tb[k].2, X.tiers[k], X.tabs[k], List.getElem?_eq_getElem h1, List.getElem?_eq_getElem hk, List.getElem?_eq_getElem h2, h.tab k _ _ _ (List.getElem?_eq_getElem h1) (List.getElem?_eq_getElem hk) (List.getElem?_eq_getElem h2)⟩
theorem ShIn.fr0 {w w' : World} {t base : Nat} {X : ShX} {A B T : Option Addr} {c d ct : Nat} {tb : List (Nat × Nat)} (h : ShIn w t base X A c B d T ct tb) (hf : Fr (fun _ => False) w w') : ShIn w' t base X A c B d T ct tb :=
 ⟨h.blk.fr hf (fun h => h), own_fr0 h.tiers hf, own_fr0 h.srcs hf, own_fr0 h.row hf, h.tlen, fun i p x l h1 h2 h3 => (h.tab i p x l h1 h2 h3).fr0 hf, h.nodup, h.ge, h.tge⟩
theorem ShIn.set {w w' : World} {t base : Nat} {X : ShX} {A B T : Option Addr} {c d ct : Nat} {tb : List (Nat × Nat)} (h : ShIn w t base X A c B d T ct tb) {k g b : Nat} {x : TierV} {l' : List RecV} (hk : tb[k]? = some (g, b)) (hx : X.tiers[k]? = some x)
  (ht : TabAt w' g x.every b l') (hf : Fr (fun j => j = b) w w') : ShIn w' t base { X with tabs := X.tabs.set k l' } A c B d T ct tb := by
 have hkl : k < X.tiers.length := (List.getElem?_eq_some_iff.1 hx).1
 obtain ⟨l, hl⟩ : ∃ l, X.tabs[k]? = some l := ⟨_, List.getElem?_eq_getElem (by rw [h.tlen]; exact hkl)⟩
 obtain ⟨es, ck, hbm⟩ := (h.tab k (g, b) x l hk hx hl).own.isMap
 simp only at hbm
 have hrow : ∀ {e : TypeId} {size n base' : Nat} {v : Value} {xs : List Value}, w.ownsRow base' e size v n xs → ∀ j, rowF v j → ¬ j = b := fun ho j hj e => by
  obtain ⟨cs', fz, hc⟩ := own_ty ho hj
  rw [e, hbm] at hc
  cases hc
 have hblk : ∀ {g' : Nat} {ty : TypeId} {cs : Array Value}, Blk w g' ty cs → g' ≠ b := fun {g' ty cs} hb e => by
  have hb0 : w.heap[g']? = some (Obj.cells cs ty (0, 0)) := hb
  rw [e, hbm] at hb0
  cases hb0
 refine ⟨h.blk.fr hf (hblk h.blk), own_fr h.tiers hf (hrow h.tiers), own_fr h.srcs hf (hrow h.srcs), own_fr h.row hf (hrow h.row), by simp [h.tlen], fun i p y l1 h1 h2 h3 => ?_, h.nodup, h.ge, h.tge⟩
 by_cases e : i = k
 ·subst e
  rw [hk] at h1
  cases h1
  rw [hx] at h2
  cases h2
  rw [List.getElem?_set_self (by rw [h.tlen]; exact hkl)] at h3
  cases h3
  exact ht
 ·rw [List.getElem?_set_ne (fun e' => e e'.symm)] at h3
  have hT := h.tab i p y l1 h1 h2 h3
  refine hT.fr hf (hblk hT.blk) (fun e' => ?_)
  have hi : (tb.map Prod.snd)[i]? = some b := by rw [List.getElem?_map, h1]; simp [e']
  have hk2 : (tb.map Prod.snd)[k]? = some b := by rw [List.getElem?_map, hk]; rfl
  have hil := (List.getElem?_eq_some_iff.1 hi).1
  exact e ((List.getElem?_inj hil h.nodup).1 (hi.trans hk2.symm))

def ShOn (w : World) (t base : Nat) (X : ShX) (F : Nat → Prop) : Prop := ∃ A c B d T ct tb, ShIn w t base X A c B d T ct tb ∧ F = tF t tb
theorem ShOn.at_ {w : World} {t base : Nat} {X : ShX} {F : Nat → Prop} (h : ShOn w t base X F) : ShAt w t base X := by
 obtain ⟨A, c, B, d, T, ct, tb, hi, _⟩ := h
 exact ⟨A, c, B, d, T, ct, tb, hi⟩
theorem ShAt.on {w : World} {t base : Nat} {X : ShX} (h : ShAt w t base X) : ∃ F, ShOn w t base X F := by
 obtain ⟨A, c, B, d, T, ct, tb, hi⟩ := h
 exact ⟨_, A, c, B, d, T, ct, tb, hi, rfl⟩
theorem ShOn.fr0 {w w' : World} {t base : Nat} {X : ShX} {F : Nat → Prop} (h : ShOn w t base X F) (hf : Fr (fun _ => False) w w') : ShOn w' t base X F := by
 obtain ⟨A, c, B, d, T, ct, tb, hi, e⟩ := h
 exact ⟨A, c, B, d, T, ct, tb, hi.fr0 hf, e⟩
theorem ShAt.fr0 {w w' : World} {t base : Nat} {X : ShX} (h : ShAt w t base X) (hf : Fr (fun _ => False) w w') : ShAt w' t base X := by
 obtain ⟨F, h⟩ := h.on
 exact (h.fr0 hf).at_
theorem ShIn.map_ {w : World} {t base : Nat} {X : ShX} {A B T : Option Addr} {c d ct : Nat} {tb : List (Nat × Nat)} (h : ShIn w t base X A c B d T ct tb) {j : Nat} (hj : tM tb j) : base ≤ j ∧ j < w.heap.size ∧ ∃ es ck, w.heap[j]? = some (.map es ck) := by
 obtain ⟨p, hp, rfl⟩ := hj
 obtain ⟨k, hk⟩ := List.getElem?_of_mem hp
 have hkl : k < X.tiers.length := by have := (List.getElem?_eq_some_iff.1 hk).1; rw [h.len] at this; exact this
 obtain ⟨g, b, x, l, h1, h2, h3, hT⟩ := h.tabAt hkl
 rw [hk] at h1
 cases h1
 exact ⟨(h.ge _ hp).2, hT.own.lt, hT.own.isMap⟩
theorem ShOn.ge {w : World} {t base : Nat} {X : ShX} {F : Nat → Prop} (h : ShOn w t base X F) : ∀ j, F j → base ≤ j ∧ j < w.heap.size := by
 obtain ⟨A, c, B, d, T, ct, tb, hi, rfl⟩ := h
 rintro j (rfl | hj)
 ·exact ⟨hi.tge, hi.blk.lt⟩
 ·exact ⟨(hi.map_ hj).1, (hi.map_ hj).2.1⟩
theorem ShOn.fr {w w' : World} {t base : Nat} {X : ShX} {F G : Nat → Prop} (h : ShOn w t base X F) (hf : Fr G w w') (hG : ∀ j, G j → (∃ es ck, w.heap[j]? = some (.map es ck)) ∨ (∃ cs fz ty, w.heap[j]? = some (.cells cs ty fz) ∧ ty ≠ 109 ∧ ty ≠ 3 ∧ ty ≠ 107 ∧ ty ≠ 189)) (hd : ∀ j, F j → ¬ G j) : ShOn w' t base X F := by
 obtain ⟨A, c, B, d, T, ct, tb, hi, rfl⟩ := h
 have hrow : ∀ {e : TypeId} {size n base' : Nat} {v : Value} {xs : List Value}, w.ownsRow base' e size v n xs → (e = 109 ∨ e = 3 ∨ e = 107) → ∀ j, rowF v j → ¬ G j := fun ho hne j hj hg => by
  obtain ⟨cs', fz', hc⟩ := own_ty ho hj
  rcases hG j hg with ⟨es, ck, hbm⟩ | ⟨cs, fz, ty, hb, h1, h2, h3, h4⟩
  ·rw [hbm] at hc; cases hc
  ·rw [hb] at hc
   injection hc with hc
   injection hc with _ hc _
   subst hc
   rcases hne with e | e | e
   ·exact h1 e
   ·exact h2 e
   ·exact h3 e
 have hblk : ∀ {g' : Nat} {cs : Array Value}, Blk w g' 189 cs → ¬ G g' := fun {g' cs} hB hg => by
  have hb0 : w.heap[g']? = some (Obj.cells cs 189 (0, 0)) := hB
  rcases hG g' hg with ⟨es, ck, hbm⟩ | ⟨cs, fz, ty, hb, h1, h2, h3, h4⟩
  ·rw [hbm] at hb0; cases hb0
  ·rw [hb] at hb0
   injection hb0 with hc
   injection hc with _ hc _
   exact h4 hc
 refine ⟨A, c, B, d, T, ct, tb, ⟨hi.blk.fr hf (hd t (.inl rfl)), own_fr hi.tiers hf (hrow hi.tiers (.inl rfl)), own_fr hi.srcs hf (hrow hi.srcs (.inr (.inl rfl))), own_fr hi.row hf (hrow hi.row (.inr (.inr rfl))), hi.tlen, fun i p x l h1 h2 h3 => ?_, hi.nodup, hi.ge, hi.tge⟩, rfl⟩
 have hT := hi.tab i p x l h1 h2 h3
 exact hT.fr hf (hblk hT.blk) (hd p.2 (.inr ⟨p, List.mem_of_getElem? h1, rfl⟩))
theorem ShOn.kind {w : World} {t base : Nat} {X : ShX} {F : Nat → Prop} (h : ShOn w t base X F) : ∀ j, F j → (∃ es ck, w.heap[j]? = some (.map es ck)) ∨ (∃ cs fz, w.heap[j]? = some (.cells cs 63 fz)) := by
 obtain ⟨A, c, B, d, T, ct, tb, hi, rfl⟩ := h
 rintro j (rfl | hj)
 ·exact .inr ⟨_, _, hi.blk⟩
 ·exact .inl (hi.map_ hj).2.2
structure ShP (w : World) (t base : Nat) (X : ShX) (A : Option Addr) (c : Nat) (B : Option Addr) (d : Nat) (T : Option Addr) (ct : Nat) (tb : List (Nat × Nat)) (k : Nat) : Prop where
 blk : Blk w t 63 #[.string X.name, .slice A X.tiers.length c, .slice B X.srcs.length d, .int .i64 X.bound, .int .i64 X.done, .slice T k ct]
 tiers : w.ownsRow base 109 4 (.slice A X.tiers.length c) X.tiers.length (tcells X.tiers)
 srcs : w.ownsRow base 3 1 (.slice B X.srcs.length d) X.srcs.length (ints X.srcs)
 row : w.ownsRow base 107 1 (.slice T k ct) k (ptrs tb)
 tab : ∀ (i : Nat) (p : Nat × Nat) (x : TierV) (l : List RecV), tb[i]? = some p → X.tiers[i]? = some x → X.tabs[i]? = some l → TabAt w p.1 x.every p.2 l
 lt : ∀ p ∈ tb, p.1 < w.heap.size ∧ p.2 < w.heap.size
 nodup : (tb.map Prod.snd).Nodup
 ge : ∀ p ∈ tb, base ≤ p.1 ∧ base ≤ p.2
 tge : base ≤ t
theorem ShP.len {w : World} {t base k : Nat} {X : ShX} {A B T : Option Addr} {c d ct : Nat} {tb : List (Nat × Nat)} (h : ShP w t base X A c B d T ct tb k) : tb.length = k := by
 have := h.row.1
 unfold ptrs at this
 rw [List.length_map] at this
 omega
theorem ShP.fr0 {w w' : World} {t base k : Nat} {X : ShX} {A B T : Option Addr} {c d ct : Nat} {tb : List (Nat × Nat)} (h : ShP w t base X A c B d T ct tb k) (hf : Fr (fun _ => False) w w') : ShP w' t base X A c B d T ct tb k :=
 ⟨h.blk.fr hf (fun h => h), own_fr0 h.tiers hf, own_fr0 h.srcs hf, own_fr0 h.row hf, fun i p x l h1 h2 h3 => (h.tab i p x l h1 h2 h3).fr0 hf, fun p hp => ⟨Nat.lt_of_lt_of_le (h.lt p hp).1 hf.size, Nat.lt_of_lt_of_le (h.lt p hp).2 hf.size⟩, h.nodup, h.ge, h.tge⟩
theorem ShP.done {w : World} {t base : Nat} {X : ShX} {A B T : Option Addr} {c d ct : Nat} {tb : List (Nat × Nat)} (h : ShP w t base X A c B d T ct tb X.tiers.length) (hl : X.tabs.length = X.tiers.length) : ShAt w t base X :=
 ⟨A, c, B, d, T, ct, tb, h.blk, h.tiers, h.srcs, h.row, hl, h.tab, h.nodup, h.ge, h.tge⟩
theorem ShP.snoc {w w5 w6 : World} {t base k g b : Nat} {X : ShX} {A B T T' : Option Addr} {c d ct ct' : Nat} {tb : List (Nat × Nat)} {x : TierV} {l : List RecV} (h : ShP w t base X A c B d T ct tb k)
  (hf : Fr (fun _ => False) w w5) (hbs : base ≤ w.heap.size) (hg : w.heap.size ≤ g) (hb : w.heap.size ≤ b) (hx : X.tiers[k]? = some x) (hl : X.tabs[k]? = some l) (ht : TabAt w5 g x.every b l) (o : Obj)
  (ho : w6.ownsRow base 107 1 (.slice T' (k + 1) ct') (k + 1) (ptrs tb ++ [.pointer (some ⟨g, 0, none⟩)])) (hm : Mv (rowF (.slice T k ct)) (rowF (.slice T' (k + 1) ct')) (w5.alloc o) w6) :
  ShP (w6.setCell ⟨t, 5, none⟩ (.slice T' (k + 1) ct')) t base X A c B d T' ct' (tb ++ [(g, b)]) (k + 1) ∧ Fr (fun j => base ≤ j) w (w6.setCell ⟨t, 5, none⟩ (.slice T' (k + 1) ct')) := by
 have h5 := h.fr0 (hf.trans (Fr.none_alloc w5 o) (fun _ h => h.elim))
 have ht5 : TabAt (w5.alloc o) g x.every b l := ht.fr0 (Fr.none_alloc _ _)
 have hblk : ∀ {g' : Nat} {ty : TypeId} {cs : Array Value}, Blk (w5.alloc o) g' ty cs → ty ≠ 107 → ¬ rowF (.slice T k ct) g' := fun {g' ty cs} hB hne hj => own_blk_ne h5.row hB (fun e => hne e.symm) hj
 have hmap : ∀ {b' : Nat} {m : List RecV}, OwnsT (w5.alloc o) b' m → ¬ rowF (.slice T k ct) b' := fun {b' m} hB hj => by
  obtain ⟨es, ck, hbm⟩ := hB.isMap
  obtain ⟨cs', fz, hc⟩ := own_ty h5.row hj
  rw [hbm] at hc
  cases hc
 have b6 : Blk w6 t 63 #[.string X.name, .slice A X.tiers.length c, .slice B X.srcs.length d, .int .i64 X.bound, .int .i64 X.done, .slice T k ct] := h5.blk.fr hm.fr (hblk h5.blk (by decide))
 have t6 : w6.ownsRow base 109 4 (.slice A X.tiers.length c) X.tiers.length (tcells X.tiers) := own_fr h5.tiers hm.fr (own_ty_ne h5.tiers h5.row (by decide))
 have f6 : w6.ownsRow base 3 1 (.slice B X.srcs.length d) X.srcs.length (ints X.srcs) := own_fr h5.srcs hm.fr (own_ty_ne h5.srcs h5.row (by decide))
 have hs : Fr (fun j => j = t) w6 (w6.setCell ⟨t, 5, none⟩ (.slice T' (k + 1) ct')) := (Fr.refl (fun j => j = t) w6).setCell (p := ⟨t, 5, none⟩) (.inl rfl) _
 have hlen := h.len
 have hkl : k < X.tiers.length := (List.getElem?_eq_some_iff.1 hx).1
 have tab6 : ∀ {g' b' : Nat} {e : Int} {m : List RecV}, TabAt (w5.alloc o) g' e b' m → TabAt (w6.setCell ⟨t, 5, none⟩ (.slice T' (k + 1) ct')) g' e b' m := fun {g' b' e m} hT => by
  have hT6 : TabAt w6 g' e b' m := hT.fr hm.fr (hblk hT.blk (by decide)) (hmap hT.own)
  refine hT6.fr hs (blk_ne_ty hT6.blk b6 (by decide)) (fun e' => ?_)
  obtain ⟨es, ck, hbm⟩ := hT6.own.isMap
  have hb0 : w6.heap[t]? = some (Obj.cells _ _ (0, 0)) := b6
  rw [← e', hbm] at hb0
  cases hb0
 have hsz : w.heap.size ≤ (w6.setCell ⟨t, 5, none⟩ (.slice T' (k + 1) ct')).heap.size := Nat.le_trans (Nat.le_trans (hf.trans (Fr.none_alloc w5 o) (fun _ h => h.elim)).size hm.fr.size) hs.size
 refine ⟨⟨b6.set_ 5 _, own_fr t6 hs (fun j hj e => own_blk_ne t6 b6 (by decide) (by rw [← e]; exact hj)), own_fr f6 hs (fun j hj e => own_blk_ne f6 b6 (by decide) (by rw [← e]; exact hj)), ?_, fun i p y m h1 h2 h3 => ?_, fun p hp => ?_, ?_, fun p hp => ?_, h.tge⟩, ?_⟩
 ·have : ptrs (tb ++ [(g, b)]) = ptrs tb ++ [.pointer (some ⟨g, 0, none⟩)] := by unfold ptrs; rw [List.map_append]; rfl
  rw [this]
  exact own_fr ho hs (fun j hj e => own_blk_ne ho b6 (by decide) (by rw [← e]; exact hj))
 ·by_cases hi : i < tb.length
  ·rw [List.getElem?_append_left hi] at h1
   exact tab6 (h5.tab i p y m h1 h2 h3)
  ·rw [List.getElem?_append_right (by omega)] at h1
   have hik : i = k := by
    have := (List.getElem?_eq_some_iff.1 h1).1
    simp at this
    omega
   subst hik
   rw [hlen, Nat.sub_self] at h1
   cases h1
   rw [hx] at h2
   cases h2
   rw [hl] at h3
   cases h3
   exact tab6 ht5
 ·rcases List.mem_append.1 hp with hp | hp
  ·exact ⟨Nat.lt_of_lt_of_le (h.lt p hp).1 hsz, Nat.lt_of_lt_of_le (h.lt p hp).2 hsz⟩
  ·rw [List.mem_singleton] at hp
   subst hp
   exact ⟨(tab6 ht5).blk.lt, (tab6 ht5).own.lt⟩
 ·rw [List.map_append, List.nodup_append]
  refine ⟨h.nodup, by simp, fun a ha b' hb' => ?_⟩
  obtain ⟨p, hp, rfl⟩ := List.mem_map.1 ha
  simp at hb'
  subst hb'
  have := (h.lt p hp).2
  omega
 ·rcases List.mem_append.1 hp with hp | hp
  ·exact h.ge p hp
  ·rw [List.mem_singleton] at hp
   subst hp
   exact ⟨by omega, by omega⟩
 ·have q1 : Fr (fun j => base ≤ j) w (w5.alloc o) := (hf.trans (Fr.none_alloc w5 o) (fun _ h => h.elim)).mono (fun _ h => h.elim)
  have q2 : Fr (fun j => base ≤ j) w w6 := q1.trans hm.fr (fun j hj => .inl (h5.row.lt j hj).1)
  exact q2.trans hs (fun j hj => .inl (by rw [hj]; exact h.tge))
theorem TiersOn.frSh {w w' : World} {t base : Nat} {X : TiersX} {F G : Nat → Prop} (h : TiersOn w t base X F) (hf : Fr G w w') (hG : ∀ j, G j → (∃ es ck, w.heap[j]? = some (.map es ck)) ∨ (∃ cs fz ty, w.heap[j]? = some (.cells cs ty fz) ∧ ty ≠ 109 ∧ ty ≠ 3 ∧ ty ≠ 107 ∧ ty ≠ 189)) (hd : ∀ j, F j → ¬ G j) : TiersOn w' t base X F := by
 obtain ⟨A, c, B, d, T, ct, tb, hi, rfl⟩ := h
 have hrow : ∀ {e : TypeId} {size n base' : Nat} {v : Value} {xs : List Value}, w.ownsRow base' e size v n xs → (e = 109 ∨ e = 3 ∨ e = 107) → ∀ j, rowF v j → ¬ G j := fun ho hne j hj hg => by
  obtain ⟨cs', fz', hc⟩ := own_ty ho hj
  rcases hG j hg with ⟨es, ck, hbm⟩ | ⟨cs, fz, ty, hb, h1, h2, h3, h4⟩
  ·rw [hbm] at hc; cases hc
  ·rw [hb] at hc
   injection hc with hc
   injection hc with _ hc _
   subst hc
   rcases hne with e | e | e
   ·exact h1 e
   ·exact h2 e
   ·exact h3 e
 have hblk : ∀ {g' : Nat} {cs : Array Value}, Blk w g' 189 cs → ¬ G g' := fun {g' cs} hB hg => by
  have hb0 : w.heap[g']? = some (Obj.cells cs 189 (0, 0)) := hB
  rcases hG g' hg with ⟨es, ck, hbm⟩ | ⟨cs, fz, ty, hb, h1, h2, h3, h4⟩
  ·rw [hbm] at hb0; cases hb0
  ·rw [hb] at hb0
   injection hb0 with hc
   injection hc with _ hc _
   exact h4 hc
 refine ⟨A, c, B, d, T, ct, tb, ⟨hi.blk.fr hf (hd t (.inl rfl)), own_fr hi.tiers hf (hrow hi.tiers (.inl rfl)), own_fr hi.floors hf (hrow hi.floors (.inr (.inl rfl))), own_fr hi.row hf (hrow hi.row (.inr (.inr rfl))), hi.tlen, fun i p x l h1 h2 h3 => ?_, hi.nodup, hi.ge, hi.tge⟩, rfl⟩
 have hT := hi.tab i p x l h1 h2 h3
 exact hT.fr hf (hblk hT.blk) (hd p.2 (.inr ⟨p, List.mem_of_getElem? h1, rfl⟩))
theorem ShOn.kind2 {w : World} {t base : Nat} {X : ShX} {F : Nat → Prop} (h : ShOn w t base X F) : ∀ j, F j → (∃ es ck, w.heap[j]? = some (.map es ck)) ∨ (∃ cs fz ty, w.heap[j]? = some (.cells cs ty fz) ∧ ty ≠ 109 ∧ ty ≠ 3 ∧ ty ≠ 107 ∧ ty ≠ 189) := fun j hj => by
 rcases h.kind j hj with h | ⟨cs, fz, h⟩
 ·exact .inl h
 ·exact .inr ⟨cs, fz, _, h, by decide, by decide, by decide, by decide⟩
theorem TiersOn.kind2 {w : World} {t base : Nat} {X : TiersX} {F : Nat → Prop} (h : TiersOn w t base X F) : ∀ j, F j → (∃ es ck, w.heap[j]? = some (.map es ck)) ∨ (∃ cs fz ty, w.heap[j]? = some (.cells cs ty fz) ∧ ty ≠ 109 ∧ ty ≠ 3 ∧ ty ≠ 107 ∧ ty ≠ 189) := fun j hj => by
 rcases h.kind j hj with h | ⟨cs, fz, h⟩
 ·exact .inl h
 ·exact .inr ⟨cs, fz, _, h, by decide, by decide, by decide, by decide⟩
end Go.Proofs.YtkfdgodngbinlaaGreatDoor
namespace Go.Proofs.YtkfdgodngbinlaaGreatDoor
set_option linter.all false
open Go.RowKit

section
variable {nm nm2 : ByteArray} {l l2 : List TierV} {fl fl2 : List Int} {lo lo2 : Nat} {W W' : World} {t t2 s s2 base base2 : Nat} {X Y : TiersX} {S S2 : ShX} {F F2 G : Nat → Prop} {c c2 : Nat}
theorem Tio.frSh (h : Tio nm l fl lo W t X F c) (hf : Fr G W W') (hS : ShOn W s base S G) (hd : ∀ j, F j → ¬ G j) : Tio nm l fl lo W' t X F c := by
 obtain ⟨b, hb, ho⟩ := h.on
 exact ⟨⟨b, hb, ho.frSh hf hS.kind2 hd⟩, h.good⟩
end
end Go.Proofs.YtkfdgodngbinlaaGreatDoor
namespace Go.Proofs.YtkfdgodngbinlaaGreatDoor
set_option linter.all false
open Go.RowKit

section
variable {w w' : World} {t base : Nat} {X : ShX} {F : Nat → Prop}
theorem ShIn.cells {A B T : Option Addr} {c d ct : Nat} {tb : List (Nat × Nat)} (h : ShIn w t base X A c B d T ct tb) {G : Nat → Prop} {W : World} (f : Fr G w W) (hg : ¬ G t) :
  W.cell? ⟨t, 0, none⟩ = some (.string X.name) ∧ W.cell? ⟨t, 1, none⟩ = some (.slice A X.tiers.length c) ∧ W.cell? ⟨t, 2, none⟩ = some (.slice B X.srcs.length d) ∧ W.cell? ⟨t, 3, none⟩ = some (.int .i64 X.bound) ∧ W.cell? ⟨t, 4, none⟩ = some (.int .i64 X.done) ∧ W.cell? ⟨t, 5, none⟩ = some (.slice T X.tiers.length ct) :=
 have b := h.blk.fr f hg
 ⟨b.cell 0, b.cell 1, b.cell 2, b.cell 3, b.cell 4, b.cell 5⟩
end
def recI (tabs : List (List RecV)) (i : Int) : List RecV := if 0 ≤ i then tabs.getD i.toNat [] else []
theorem sis_any (t base : Nat) (X : ShX) (i : Int) (w : World) (h : ShAt w t base X) :
  Calls Tryz.prog 152 #[.pointer (some ⟨t, 0, none⟩), .int .i64 i] w fun r w' => r = .returned (.bool (decide (0 ≤ i) && decide (i < (X.tiers.length : Int)))) ∧ w = w' := by
 obtain ⟨A, c, B, d, T, ct, tb, hi⟩ := h
 obtain ⟨_, _, _, _, _, c5⟩ := hi.cells (Fr.refl (fun _ => False) w) (fun h => h)
 clear hi
 by_cases hi0 : 0 ≤ i
 ·have hd : decide (0 ≤ i) = true := decide_eq_true hi0
  go_enter Tryz.func152, Tryz.ntmps152
  go_wp2_with fail
  go_ret
  exact ⟨by first | rfl | simp [hd], rfl⟩
 ·have hd : decide (0 ≤ i) = false := decide_eq_false hi0
  go_enter Tryz.func152, Tryz.ntmps152
  go_wp2_with fail
  go_ret
  exact ⟨by first | rfl | simp [hd], rfl⟩
theorem sbound_any (t base : Nat) (X : ShX) (w : World) (h : ShAt w t base X) :
  Calls Tryz.prog 27 #[.pointer (some ⟨t, 0, none⟩)] w fun r w' => r = .returned (.int .i64 X.bound) ∧ w = w' := by
 obtain ⟨A, c, B, d, T, ct, tb, hi⟩ := h
 obtain ⟨_, _, _, c3, _, _⟩ := hi.cells (Fr.refl (fun _ => False) w) (fun h => h)
 clear hi
 go_enter Tryz.func27, Tryz.ntmps27
 go_wp2_with fail
 go_ret
 exact ⟨rfl, rfl⟩
theorem sbound_nil (w : World) : Calls Tryz.prog 27 #[.pointer none] w fun r w' => r = .returned (.int .i64 0) ∧ w = w' := by
 go_enter Tryz.func27, Tryz.ntmps27
 go_wp2_with fail
 go_ret
 exact ⟨rfl, rfl⟩
theorem sdone_any (t base : Nat) (X : ShX) (w : World) (h : ShAt w t base X) :
  Calls Tryz.prog 28 #[.pointer (some ⟨t, 0, none⟩)] w fun r w' => r = .returned (.int .i64 X.done) ∧ w = w' := by
 obtain ⟨A, c, B, d, T, ct, tb, hi⟩ := h
 obtain ⟨_, _, _, _, c4, _⟩ := hi.cells (Fr.refl (fun _ => False) w) (fun h => h)
 clear hi
 go_enter Tryz.func28, Tryz.ntmps28
 go_wp2_with fail
 go_ret
 exact ⟨rfl, rfl⟩
theorem strim_nil (p : Value) (w : World) : Calls Tryz.prog 45 #[.pointer none, p] w fun r w' => r = .returned (.int .i64 0) ∧ w = w' := by
 go_enter Tryz.func45, Tryz.ntmps45
 go_wp2_with fail
 go_ret
 exact ⟨rfl, rfl⟩
theorem snote_nil (p v : Value) (w : World) : Calls Tryz.prog 51 #[.pointer none, p, v] w fun r w' => r = .returned (.tuple #[]) ∧ w = w' := by
 go_enter Tryz.func51, Tryz.ntmps51
 go_wp2_with fail
 refine bodyPost_ret (v := .tuple #[]) ?_ rfl ⟨rfl, rfl⟩
 simp [results, Tryz.results51, go_sem]
theorem srecords_any (t base : Nat) (X : ShX) (i : Int) (w : World) (h : ShAt w t base X) (hl : ∀ m ∈ X.tabs, m.length ≤ 1000000000) :
  Calls Tryz.prog 107 #[.pointer (some ⟨t, 0, none⟩), .int .i64 i] w fun r w' => (∃ A c, r = .returned (.slice A (recI X.tabs i).length c) ∧ w'.ownsRow w.heap.size 115 7 (.slice A (recI X.tabs i).length c) (recI X.tabs i).length (rcells (recI X.tabs i))) ∧ Below w.heap.size w w' := by
 have H := Lib.hid (sis_any t base X i w h)
 obtain ⟨A, c, B, d, T, ct, tb, hi⟩ := h
 obtain ⟨_, _, _, _, _, c5⟩ := hi.cells (Fr.refl (fun _ => False) w) (fun h => h)
 by_cases hin : 0 ≤ i ∧ i < (X.tiers.length : Int)
 ·obtain ⟨k, rfl⟩ : ∃ k : Nat, i = k := ⟨i.toNat, by omega⟩
  obtain ⟨g, b, x, l, h1, h2, h3, hT⟩ := hi.tabAt (k := k) (by omega)
  have e : recI X.tabs (k : Int) = l := by unfold recI; rw [if_pos (by omega)]; simp only [Int.toNat_natCast]; rw [List.getD_eq_getElem?_getD, h3]; rfl
  have HA := Lib.hid (taball_any g x.every b l w hT (hl l (mem_of_get h3)))
  have hib : (decide (0 ≤ (k : Int)) && decide ((k : Int) < (X.tiers.length : Int))) = true := by simp; omega
  rw [hib] at H
  rw [e]
  obtain ⟨ad, rfl, hc⟩ := (own_any hi.row).2.2.1.2 (show 0 < X.tiers.length by omega)
  have p0 := hc k _ (ptrs_get h1)
  have kn : 0 ≤ (k : Int) ∧ (k : Int) < (X.tiers.length : Int) := hin
  obtain ⟨n, hn⟩ : ∃ n, X.tiers.length = n := ⟨_, rfl⟩
  rw [hn] at c5 kn
  clear hi hT h1 h2 h3 e hib hl hc
  go_enter Tryz.func107, Tryz.ntmps107
  go_wp2_with fail
  refine H.out.mono ?_
  rintro r w' ⟨rfl, rfl⟩
  go_wp2_with fail
  refine HA.out.mono ?_
  rintro r w6 ⟨⟨A, c, rfl, ho⟩, b6⟩
  have Ho := Lib.hid ho
  have B6 := Lib.hid b6
  clear ho b6
  go_wp2_with fail
  go_ret
  exact ⟨⟨A, c, rfl, Ho.out⟩, B6.out⟩
 ·have hib : (decide (0 ≤ i) && decide (i < (X.tiers.length : Int))) = false := by
   rw [Bool.and_eq_false_iff, decide_eq_false_iff_not, decide_eq_false_iff_not]
   omega
  have e : recI X.tabs i = [] := by
   unfold recI
   split
   ·rw [List.getD_eq_getElem?_getD, List.getElem?_eq_none (by rw [hi.tlen]; omega)]; rfl
   ·rfl
  rw [hib] at H
  rw [e]
  clear hi c5
  go_enter Tryz.func107, Tryz.ntmps107
  go_wp2_with fail
  refine H.out.mono ?_
  rintro r w' ⟨rfl, rfl⟩
  go_wp2_with fail
  go_ret
  exact ⟨⟨none, 0, rfl, World.ownsRow_nil _ _ _ _⟩, Below.refl _ _⟩
end Go.Proofs.YtkfdgodngbinlaaGreatDoor
namespace Go.Proofs.YtkfdgodngbinlaaGreatDoor
set_option linter.all false
open Go.RowKit

end Go.Proofs.YtkfdgodngbinlaaGreatDoor
namespace Go.Proofs.YtkfdgodngbinlaaGreatDoor
set_option linter.all false
open Go.RowKit

end Go.Proofs.YtkfdgodngbinlaaGreatDoor
namespace Go.Proofs.YtkfdgodngbinlaaGreatDoor
set_option linter.all false
open Go.RowKit

end Go.Proofs.YtkfdgodngbinlaaGreatDoor
namespace Go.Proofs.YtkfdgodngbinlaaGreatDoor
set_option linter.all false
open Go.RowKit

end Go.Proofs.YtkfdgodngbinlaaGreatDoor
namespace Go.Proofs.YtkfdgodngbinlaaGreatDoor
set_option linter.all false
open Go.RowKit

end Go.Proofs.YtkfdgodngbinlaaGreatDoor
namespace Go.Proofs.YtkfdgodngbinlaaGreatDoor
set_option linter.all false
open Go.RowKit

theorem Blk.five {w : World} {g : Nat} {t : TypeId} {a0 a1 b0 c0 d0 e0 f0 a b c d e : Value} (h : Blk w g t #[a0, a1, b0, c0, d0, e0, f0]) : Blk (((((w.setCell ⟨g, 2, none⟩ a).setCell ⟨g, 3, none⟩ b).setCell ⟨g, 4, none⟩ c).setCell ⟨g, 5, none⟩ d).setCell ⟨g, 6, none⟩ e) g t #[a0, a1, a, b, c, d, e] := by
 have := ((((h.set_ 2 a).set_ 3 b).set_ 4 c).set_ 5 d).set_ 6 e
 simpa using this
theorem Fr.five {w1 w : World} {F : Nat → Prop} (h : Fr F w1 w) {g : Nat} (hg : F g) (a b c d e : Value) : Fr F w1 (((((w.setCell ⟨g, 2, none⟩ a).setCell ⟨g, 3, none⟩ b).setCell ⟨g, 4, none⟩ c).setCell ⟨g, 5, none⟩ d).setCell ⟨g, 6, none⟩ e) :=
 ((((h.setCell (p := ⟨g, 2, none⟩) (.inl hg) a).setCell (p := ⟨g, 3, none⟩) (.inl hg) b).setCell (p := ⟨g, 4, none⟩) (.inl hg) c).setCell (p := ⟨g, 5, none⟩) (.inl hg) d).setCell (p := ⟨g, 6, none⟩) (.inl hg) e
end Go.Proofs.YtkfdgodngbinlaaGreatDoor
namespace Go.Proofs.YtkfdgodngbinlaaGreatDoor
set_option linter.all false
open Go.RowKit

end Go.Proofs.YtkfdgodngbinlaaGreatDoor
namespace Go.Proofs.YtkfdgodngbinlaaGreatDoor
set_option linter.all false
open Go.RowKit

end Go.Proofs.YtkfdgodngbinlaaGreatDoor
namespace Go.Proofs.YtkfdgodngbinlaaGreatDoor
set_option linter.all false
open Go.RowKit

end Go.Proofs.YtkfdgodngbinlaaGreatDoor
namespace Go.Proofs.YtkfdgodngbinlaaGreatDoor
set_option linter.all false
open Go.RowKit

end Go.Proofs.YtkfdgodngbinlaaGreatDoor
namespace Go.Proofs.YtkfdgodngbinlaaGreatDoor
set_option linter.all false
open Go.RowKit

def uptoL {α : Type} (n : Nat) (f g : Nat → α) (i : Nat) : List α := (List.range n).map fun k => if k < i then f k else g k
section
variable {α : Type} {n i : Nat} {f g : Nat → α}
theorem uptoL_len : (uptoL n f g i).length = n := by unfold uptoL; simp
theorem uptoL_zero : uptoL n f g 0 = (List.range n).map g := by unfold uptoL; simp
theorem uptoL_all : uptoL n f g n = (List.range n).map f := by
 unfold uptoL
 refine List.map_congr_left fun k hk => ?_
 rw [if_pos (List.mem_range.1 hk)]
theorem uptoL_get (h : i < n) : (uptoL n f g i)[i]? = some (g i) := by
 unfold uptoL
 rw [List.getElem?_map, List.getElem?_range h]
 simp
theorem uptoL_set (h : i < n) : (uptoL n f g i).set i (f i) = uptoL n f g (i + 1) := by
 apply List.ext_getElem?
 intro j
 by_cases e : i = j
 ·subst e
  rw [List.getElem?_set_self (by rw [uptoL_len]; exact h)]
  unfold uptoL
  rw [List.getElem?_map, List.getElem?_range h]
  simp
 ·rw [List.getElem?_set_ne e]
  unfold uptoL
  rw [List.getElem?_map, List.getElem?_map]
  by_cases hj : j < n
  ·rw [List.getElem?_range hj]
   simp only [Option.map_some]
   by_cases h1 : j < i
   ·rw [if_pos h1, if_pos (by omega)]
   ·rw [if_neg h1, if_neg (by omega)]
  ·rw [List.getElem?_eq_none (by simpa using hj)]
   rfl
end
theorem getD_all {tabs : List (List RecV)} {n : Nat} (h : tabs.length = n) : (List.range n).map (fun k => tabs.getD k []) = tabs := by
 apply List.ext_getElem?
 intro j
 rw [List.getElem?_map]
 by_cases hj : j < n
 ·rw [List.getElem?_range hj, List.getElem?_eq_getElem (by omega)]
  simp [List.getD_eq_getElem?_getD, List.getElem?_eq_getElem (show j < tabs.length by omega)]
 ·rw [List.getElem?_eq_none (by simpa using hj), List.getElem?_eq_none (by omega)]
  rfl

section
variable {W W' : World} {p lo : Nat} {F F' G : Nat → Prop} {every : Int} {l : List RecV}
end

section
variable {W W' : World} {g lo : Nat} {F G : Nat → Prop} {X : TiersX} {A B T : Option Addr} {c d ct : Nat} {P : List Nat}
end
end Go.Proofs.YtkfdgodngbinlaaGreatDoor
namespace Go.Proofs.YtkfdgodngbinlaaGreatDoor
set_option linter.all false
open Go.RowKit

end Go.Proofs.YtkfdgodngbinlaaGreatDoor
namespace Go.Proofs.YtkfdgodngbinlaaGreatDoor
set_option linter.all false
open Go.RowKit

theorem addsV_grid {e : Int} : ∀ (rs : List RecV) {l : List RecV}, goodL l → (∀ r ∈ l, validB r.name = true ∧ 0 ≤ r.start ∧ onB r.start e = true) → ∀ y ∈ addsV e l rs, validB y.name = true ∧ 0 ≤ y.start ∧ onB y.start e = true
 | [], _, _, h => h
 | r :: rs, l, hg, h => addsV_grid (e := e) rs (addV_good hg r) (addV_grid hg.1 h r)
theorem GoodX.load {nm : ByteArray} {l : List TierV} {fl : List Int} {X : TiersX} {c : Nat} (h : GoodX nm l fl X c) (k : Nat) (rs : List RecV) : GoodX nm l fl (loadX X k rs) (c + rs.length) := by
 unfold loadX
 split
 ·rename_i x m hx hm
  have hkl : k < X.tabs.length := (List.getElem?_eq_some_iff.1 hm).1
  have hmD : X.tabs.getD k [] = m := by rw [List.getD_eq_getElem?_getD, hm]; rfl
  have hgm : goodL m := by rw [← hmD]; exact h.good k
  have hset : ∀ j, (X.tabs.set k (addsV x.every m (rs.filter (ldB X k)))).getD j [] = if j = k then addsV x.every m (rs.filter (ldB X k)) else X.tabs.getD j [] := fun j => by
   rw [List.getD_eq_getElem?_getD, List.getD_eq_getElem?_getD]
   by_cases e : j = k
   ·subst e
    rw [List.getElem?_set_self hkl, if_pos rfl]
    rfl
   ·rw [List.getElem?_set_ne (fun e' => e e'.symm), if_neg e]
  refine ⟨h.name, h.tiers, h.floors, h.now, by simpa using h.tlen, fun y hy => ?_, fun j => ?_, fun j x' hx' r hr => ?_⟩
  ·have hy : y ∈ X.tabs.set k (addsV x.every m (rs.filter (ldB X k))) := hy
   rcases List.mem_or_eq_of_mem_set hy with h1 | rfl
   ·have := h.len y h1; omega
   ·have h1 := addsV_len (every := x.every) (rs.filter (ldB X k)) hgm.1
    have h2 := h.len m (mem_of_get hm)
    have h3 : (rs.filter (ldB X k)).length ≤ rs.length := List.length_filter_le _ _
    omega
  ·show goodL ((X.tabs.set k _).getD j [])
   rw [hset]
   split
   ·exact addsV_good hgm
   ·exact h.good j
  ·have hr : r ∈ (X.tabs.set k (addsV x.every m (rs.filter (ldB X k)))).getD j [] := hr
   rw [hset] at hr
   split at hr
   ·rename_i e
    subst e
    have hxx : x = x' := by rw [h.tiers, hx'] at hx; exact (Option.some.inj hx).symm
    rw [← hxx]
    exact addsV_grid _ hgm (fun y hy => by rw [hxx]; exact h.grid j x' hx' y (by rw [hmD]; exact hy)) r hr
   ·exact h.grid j x' hx' r hr
 ·exact ⟨h.name, h.tiers, h.floors, h.now, h.tlen, fun m hm => Nat.le_trans (h.len m hm) (Nat.le_add_right _ _), h.good, h.grid⟩
theorem GoodX.more {nm : ByteArray} {l : List TierV} {fl : List Int} {X : TiersX} {c d : Nat} (h : GoodX nm l fl X c) (hd : c ≤ d) : GoodX nm l fl X d := ⟨h.name, h.tiers, h.floors, h.now, h.tlen, fun m hm => Nat.le_trans (h.len m hm) hd, h.good, h.grid⟩
def loadI (X : TiersX) (i : Int) (rs : List RecV) : TiersX := if 0 ≤ i ∧ i < (X.tiers.length : Int) then loadX X i.toNat rs else X
theorem GoodX.loadI {nm : ByteArray} {l : List TierV} {fl : List Int} {X : TiersX} {c : Nat} (h : GoodX nm l fl X c) (i : Int) (rs : List RecV) : GoodX nm l fl (loadI X i rs) (c + rs.length) := by
 unfold Proofs.YtkfdgodngbinlaaGreatDoor.loadI
 split
 ·exact h.load _ _
 ·exact h.more (Nat.le_add_right _ _)
def opX (X : TiersX) (o : OpC) : TiersX :=
 if o.kind = 1 then putX X o.sl else if o.kind = 2 then tickX X o.n else if o.kind = 3 then loadI X o.n o.ll else X
theorem GoodX.op {nm : ByteArray} {l : List TierV} {fl : List Int} {X : TiersX} {c : Nat} (h : GoodX nm l fl X c) (o : OpC) (ho : o.ll.length ≤ 20) : GoodX nm l fl (opX X o) (c + 20) := by
 unfold opX
 split
 ·exact (h.put _).more (by omega)
 ·split
  ·exact (h.tick _).more (by omega)
  ·split
   ·exact (h.loadI _ _).more (by omega)
   ·exact h.more (by omega)
end Go.Proofs.YtkfdgodngbinlaaGreatDoor
namespace Go.Proofs.YtkfdgodngbinlaaGreatDoor
set_option linter.all false
open Go.RowKit

def tierEq (x y : TierV) : Bool := (x.name.toList == y.name.toList) && ((x.every == y.every) && ((x.keep == y.keep) && (x.shards == y.shards)))
theorem tierEq_iff (x y : TierV) : tierEq x y = true ↔ x = y := by
 obtain ⟨a, b, c, d⟩ := x
 obtain ⟨a', b', c', d'⟩ := y
 unfold tierEq
 simp only [Bool.and_eq_true, beq_iff_eq, TierV.mk.injEq]
 exact ⟨fun h => ⟨toList_inj h.1, h.2⟩, fun h => ⟨by rw [h.1], h.2⟩⟩
instance tierDec : DecidableEq TierV := fun x y => if h : tierEq x y = true then isTrue ((tierEq_iff x y).1 h) else isFalse fun e => h ((tierEq_iff x y).2 e)
theorem tcells_append (a b : List TierV) : tcells (a ++ b) = tcells a ++ tcells b := by simp [tcells]
def icell (x : Int) : List Value := [.int .i64 x]
def icells (l : List Int) : List Value := l.flatMap icell
theorem icells_is (l : List Int) : icells l = l.map (Value.int .i64) := by
 induction l with
 | nil => rfl
 | cons a l ih => unfold icells at ih ⊢; rw [List.flatMap_cons, ih]; rfl
theorem Rd.icell_ {w : World} {n k : Nat} {A : Option Addr} {l : List Int} (h : Rd w 1 A n (icells l)) (hk : k < n) : ∃ ad x, A = some ad ∧ l[k]? = some x ∧ w.cell? (ad.add k) = some (.int .i64 x) := by
 rw [icells_is] at h
 exact h.at_map hk
theorem Rd.icells_len {w : World} {n : Nat} {A : Option Addr} {l : List Int} (h : Rd w 1 A n (icells l)) : l.length = n := by
 rw [icells_is] at h
 exact h.len_map
end Go.Proofs.YtkfdgodngbinlaaGreatDoor
namespace Go.Proofs.YtkfdgodngbinlaaGreatDoor
set_option linter.all false
open Go.RowKit

theorem eqtier_inS (d : Nat) (x y : TierV) (w : World) : (Op.equalIn (d + 2) 109 x.val y.val).run Tryz.prog w = .ok (tierEq x y) w := by
 have hu : Tryz.prog.underlying 109 = some (.struct (Tryz.prog.fieldsOf 109)) := by kernel_rfl
 have hp : Tryz.prog.stoodInHeld 109 = false := by kernel_rfl
 have hf : (Tryz.prog.fieldsOf 109).toList = [⟨"Name", 9, 0, false, "", "", 0⟩, ⟨"Every", 3, 1, false, "", "", 16⟩, ⟨"Keep", 3, 2, false, "", "", 24⟩, ⟨"Shards", 3, 3, false, "", "", 32⟩] := by kernel_rfl
 unfold TierV.val tierEq
 rw [run_equalIn_struct (P := Tryz.prog) w (d + 1) _ _ _ hu hp, hf]
 simp [Op.eqFields, part, eqs_string d, eqs_int d]
 by_cases h1 : x.name.toList = y.name.toList <;> by_cases h2 : x.every = y.every <;> by_cases h3 : x.keep = y.keep <;> by_cases h4 : x.shards = y.shards <;> simp [h1, h2, h3, h4]
theorem tierNeS_true {x y : TierV} (h : x = y) (w : World) : (binOp .neq 109 x.val y.val).run Tryz.prog w = .ok (.bool false) w := by
 have h2 := eqtier_inS 9998 x y w
 unfold TierV.val at h2 ⊢
 rw [run_neq_struct, h2, (tierEq_iff x y).2 h]
 rfl
theorem tierNeS_false {x y : TierV} (h : x ≠ y) (w : World) : (binOp .neq 109 x.val y.val).run Tryz.prog w = .ok (.bool true) w := by
 have h2 := eqtier_inS 9998 x y w
 unfold TierV.val at h2 ⊢
 rw [run_neq_struct, h2]
 cases hb : tierEq x y
 ·rfl
 ·exact absurd ((tierEq_iff x y).1 hb) h
theorem eqrec_inS (x y : RecV) (w : World) : (Op.equalIn 10000 115 x.val y.val).run Tryz.prog w = .ok (recEq x y) w := by
 have hu : Tryz.prog.underlying 115 = some (.struct (Tryz.prog.fieldsOf 115)) := by kernel_rfl
 have hp : Tryz.prog.stoodInHeld 115 = false := by kernel_rfl
 have hf : (Tryz.prog.fieldsOf 115).toList = [⟨"Name", 9, 0, false, "", "", 0⟩, ⟨"Start", 3, 1, false, "", "", 16⟩, ⟨"Agg", 113, 2, false, "", "", 24⟩] := by kernel_rfl
 have hA := run_eqagg 9997 x.agg y.agg
 unfold AggV.val at hA
 unfold RecV.val recEq
 rw [run_equalIn_struct (P := Tryz.prog) w 9999 _ _ _ hu hp, hf]
 simp [Op.eqFields, hA, eqs_string 9998, eqs_int 9998, part]
 by_cases h1 : x.name.toList = y.name.toList <;> by_cases h2 : x.start = y.start <;> cases aggEq x.agg y.agg <;> simp [h1, h2]
theorem recNeS_true {x y : RecV} (h : x = y) (w : World) : (binOp .neq 115 x.val y.val).run Tryz.prog w = .ok (.bool false) w := by
 have h2 := eqrec_inS x y w
 unfold RecV.val at h2 ⊢
 rw [run_neq_struct, h2, (recEq_iff x y).2 h]
 rfl
theorem recNeS_false {x y : RecV} (h : x ≠ y) (w : World) : (binOp .neq 115 x.val y.val).run Tryz.prog w = .ok (.bool true) w := by
 have h2 := eqrec_inS x y w
 unfold RecV.val at h2 ⊢
 rw [run_neq_struct, h2]
 cases hb : recEq x y
 ·rfl
 ·exact absurd ((recEq_iff x y).1 hb) h
set_option maxRecDepth 100000 in
set_option maxHeartbeats 4000000 in
theorem eqrecs_any (la lb : List RecV) (A : Option Addr) (n c : Nat) (B : Option Addr) (m d : Nat) (w : World) (ha : Rd w 7 A n (rcells la)) (hb : Rd w 7 B m (rcells lb)) (hn : n ≤ 1099511627776) (hm : m ≤ 1099511627776) :
  Calls Tryz.prog 66 #[.slice A n c, .slice B m d] w fun r w' => r = .returned (.bool (decide (la = lb))) ∧ Below w.heap.size w w' := by
 have Ha := Lib.hid ha
 have Hb := Lib.hid hb
 have hla := Lib.hid ha.recs_len
 have hlb := Lib.hid hb.recs_len
 clear ha hb
 by_cases hnm : n = m
 ·subst hnm
  go_enter Tryz.func66, Tryz.ntmps66
  go_wp2_with fail
  go_loopw [13] (fun i wr => ∃ k : Nat, k ≤ n ∧ i = .int .i64 k ∧ Hid (la.take k = lb.take k) ∧ Fr (fun _ => False) w wr) (fun i _ => n - (intOf i).toNat)
  case atStart => exact ⟨0, Nat.zero_le _, rfl, rfl, Fr.refl _ _⟩
  case round =>
   obtain ⟨k, hk, rfl, htk, ho⟩ := hrel
   have Ho := Lib.hid ho
   clear ho
   by_cases hlt : k < n
   ·obtain ⟨ad, x, rfl, hx, a0, a1, a2, a3, a4, a5, a6⟩ := (Ha.out.fr0 Ho.out).rec_ hlt
    obtain ⟨bd, y, rfl, hy, b0, b1, b2, b3, b4, b5, b6⟩ := (Hb.out.fr0 Ho.out).rec_ hlt
    have kn : 0 ≤ (k : Int) ∧ (k : Int) < (n : Int) := by omega
    have Hx := Lib.hid hx
    have Hy := Lib.hid hy
    have HC : Hid (∀ W, Fr (fun _ => False) wr W → W.cell? (ad.add (k * 7)) = some (.string x.name) ∧ W.cell? (⟨(ad.add (k * 7)).block, (ad.add (k * 7)).off + 1, none⟩) = some (.int .i64 x.start) ∧ W.cell? (⟨(ad.add (k * 7)).block, (ad.add (k * 7)).off + 2, none⟩) = some (.int .i64 x.agg.count) ∧ W.cell? (⟨(ad.add (k * 7)).block, (ad.add (k * 7)).off + 3, none⟩) = some (.int .i64 x.agg.hi) ∧ W.cell? (⟨(ad.add (k * 7)).block, (ad.add (k * 7)).off + 4, none⟩) = some (.int .u64 x.agg.lo) ∧ W.cell? (⟨(ad.add (k * 7)).block, (ad.add (k * 7)).off + 5, none⟩) = some (.int .i64 x.agg.min) ∧ W.cell? (⟨(ad.add (k * 7)).block, (ad.add (k * 7)).off + 6, none⟩) = some (.int .i64 x.agg.max) ∧ W.cell? (bd.add (k * 7)) = some (.string y.name) ∧ W.cell? (⟨(bd.add (k * 7)).block, (bd.add (k * 7)).off + 1, none⟩) = some (.int .i64 y.start) ∧ W.cell? (⟨(bd.add (k * 7)).block, (bd.add (k * 7)).off + 2, none⟩) = some (.int .i64 y.agg.count) ∧ W.cell? (⟨(bd.add (k * 7)).block, (bd.add (k * 7)).off + 3, none⟩) = some (.int .i64 y.agg.hi) ∧ W.cell? (⟨(bd.add (k * 7)).block, (bd.add (k * 7)).off + 4, none⟩) = some (.int .u64 y.agg.lo) ∧ W.cell? (⟨(bd.add (k * 7)).block, (bd.add (k * 7)).off + 5, none⟩) = some (.int .i64 y.agg.min) ∧ W.cell? (⟨(bd.add (k * 7)).block, (bd.add (k * 7)).off + 6, none⟩) = some (.int .i64 y.agg.max)) := fun W f => ⟨f.cell a0 (fun h => h), f.cell a1 (fun h => h), f.cell a2 (fun h => h), f.cell a3 (fun h => h), f.cell a4 (fun h => h), f.cell a5 (fun h => h), f.cell a6 (fun h => h), f.cell b0 (fun h => h), f.cell b1 (fun h => h), f.cell b2 (fun h => h), f.cell b3 (fun h => h), f.cell b4 (fun h => h), f.cell b5 (fun h => h), f.cell b6 (fun h => h)⟩
    by_cases heq : x = y
    ·have htk2 : Hid (la.take (k + 1) = lb.take (k + 1)) := by show _ = _; rw [take_snoc Hx.out, take_snoc Hy.out, htk.out, heq]
     have q := recNeS_true heq
     unfold RecV.val at q
     clear hx hy a0 a1 a2 a3 a4 a5 a6 b0 b1 b2 b3 b4 b5 b6
     go_wp2_with fail
     refine wp_region_held_drew (S := fun W => Fr (fun _ => False) wr W) (by kernel_rfl) ((Fr.refl _ wr).drew) (fun hHeld => ?_)
     refine tq 9 [0,1,2,3,4,5,6,7,8] ?_
     iterate 8 refine sf HC.out ?_
     refine sf HC.out ?_
     try simp only [Act.put, sA, sB, sC]
     refine sz ?_
     try simp only [Act.put, sA, sB, sC]
     refine wpAnyH_done (by kernel_rfl) ?_ _
     go_wp2_with fail
     go_roundw
     case rel => exact ⟨k + 1, by omega, by go_num, htk2.out, Ho.out.trans hHeld (fun _ h => h.elim)⟩
     case measure => simp [intOf]; omega
    ·have hne : Hid (decide (la = lb) = false) := by
      refine decide_eq_false fun h => ?_
      have h1 := Hx.out
      have h2 := Hy.out
      rw [h] at h1
      rw [h1] at h2
      exact heq (Option.some.inj h2)
     have q := recNeS_false heq
     unfold RecV.val at q
     clear hx hy a0 a1 a2 a3 a4 a5 a6 b0 b1 b2 b3 b4 b5 b6
     go_wp2_with fail
     refine wp_region_held_drew (S := fun W => Fr (fun _ => False) wr W) (by kernel_rfl) ((Fr.refl _ wr).drew) (fun hHeld => ?_)
     refine tq 9 [0,1,2,3,4,5,6,7,8] ?_
     iterate 8 refine sf HC.out ?_
     refine sf HC.out ?_
     try simp only [Act.put, sA, sB, sC]
     refine sz ?_
     try simp only [Act.put, sA, sB, sC]
     refine wpAnyH_done (by kernel_rfl) ?_ _
     go_wp2_with fail
     go_ret
     exact ⟨by rw [hne.out]; rfl, (Ho.out.trans hHeld (fun _ h => h.elim)).below (fun _ h => h.elim)⟩
   ·obtain rfl : k = n := by omega
    have hE : Hid (decide (la = lb) = true) := by
     refine decide_eq_true ?_
     have h := htk.out
     rwa [take_all (by rw [hla.out]; exact Nat.le_refl _), take_all (by rw [hlb.out]; exact Nat.le_refl _)] at h
    go_wp2_with fail
    go_ret
    exact ⟨by rw [hE.out]; rfl, Ho.out.below (fun _ h => h.elim)⟩
 ·have hne : Hid (decide (la = lb) = false) := by
   refine decide_eq_false fun h => hnm ?_
   have h1 := hla.out
   have h2 := hlb.out
   rw [h] at h1
   omega
  have hnm2 : ((n : Int) != (m : Int)) = true := by simpa using (show (n : Int) ≠ (m : Int) by omega)
  have hnm3 : ((n : Int) == (m : Int)) = false := by simpa using (show (n : Int) ≠ (m : Int) by omega)
  go_enter Tryz.func66, Tryz.ntmps66
  go_wp2_with fail
  go_ret
  exact ⟨by rw [hne.out]; rfl, Below.refl _ _⟩
set_option maxRecDepth 100000 in
set_option maxHeartbeats 4000000 in
theorem eqtiers_any (la lb : List TierV) (A : Option Addr) (n c : Nat) (B : Option Addr) (m d : Nat) (w : World) (ha : Rd w 4 A n (tcells la)) (hb : Rd w 4 B m (tcells lb)) (hn : n ≤ 1099511627776) (hm : m ≤ 1099511627776) :
  Calls Tryz.prog 110 #[.slice A n c, .slice B m d] w fun r w' => r = .returned (.bool (decide (la = lb))) ∧ Below w.heap.size w w' := by
 have Ha := Lib.hid ha
 have Hb := Lib.hid hb
 have hla := Lib.hid ha.tiers_len
 have hlb := Lib.hid hb.tiers_len
 clear ha hb
 by_cases hnm : n = m
 ·subst hnm
  go_enter Tryz.func110, Tryz.ntmps110
  go_wp2_with fail
  go_loopw [13] (fun i wr => ∃ k : Nat, k ≤ n ∧ i = .int .i64 k ∧ Hid (la.take k = lb.take k) ∧ Fr (fun _ => False) w wr) (fun i _ => n - (intOf i).toNat)
  case atStart => exact ⟨0, Nat.zero_le _, rfl, rfl, Fr.refl _ _⟩
  case round =>
   obtain ⟨k, hk, rfl, htk, ho⟩ := hrel
   have Ho := Lib.hid ho
   clear ho
   by_cases hlt : k < n
   ·obtain ⟨ad, x, rfl, hx, a0, a1, a2, a3⟩ := (Ha.out.fr0 Ho.out).tier hlt
    obtain ⟨bd, y, rfl, hy, b0, b1, b2, b3⟩ := (Hb.out.fr0 Ho.out).tier hlt
    have kn : 0 ≤ (k : Int) ∧ (k : Int) < (n : Int) := by omega
    have Hx := Lib.hid hx
    have Hy := Lib.hid hy
    have HC : Hid (∀ W, Fr (fun _ => False) wr W → W.cell? (ad.add (k * 4)) = some (.string x.name) ∧ W.cell? (⟨(ad.add (k * 4)).block, (ad.add (k * 4)).off + 1, none⟩) = some (.int .i64 x.every) ∧ W.cell? (⟨(ad.add (k * 4)).block, (ad.add (k * 4)).off + 2, none⟩) = some (.int .i64 x.keep) ∧ W.cell? (⟨(ad.add (k * 4)).block, (ad.add (k * 4)).off + 3, none⟩) = some (.int .i64 x.shards) ∧ W.cell? (bd.add (k * 4)) = some (.string y.name) ∧ W.cell? (⟨(bd.add (k * 4)).block, (bd.add (k * 4)).off + 1, none⟩) = some (.int .i64 y.every) ∧ W.cell? (⟨(bd.add (k * 4)).block, (bd.add (k * 4)).off + 2, none⟩) = some (.int .i64 y.keep) ∧ W.cell? (⟨(bd.add (k * 4)).block, (bd.add (k * 4)).off + 3, none⟩) = some (.int .i64 y.shards)) := fun W f => ⟨f.cell a0 (fun h => h), f.cell a1 (fun h => h), f.cell a2 (fun h => h), f.cell a3 (fun h => h), f.cell b0 (fun h => h), f.cell b1 (fun h => h), f.cell b2 (fun h => h), f.cell b3 (fun h => h)⟩
    by_cases heq : x = y
    ·have htk2 : Hid (la.take (k + 1) = lb.take (k + 1)) := by show _ = _; rw [take_snoc Hx.out, take_snoc Hy.out, htk.out, heq]
     have q := tierNeS_true heq
     unfold TierV.val at q
     clear hx hy a0 a1 a2 a3 b0 b1 b2 b3
     go_wp2_with fail
     refine wp_region_held_drew (S := fun W => Fr (fun _ => False) wr W) (by kernel_rfl) ((Fr.refl _ wr).drew) (fun hHeld => ?_)
     refine tq 9 [0,1,2,3,4,5,6,7,8] ?_
     iterate 8 refine sf HC.out ?_
     refine sf HC.out ?_
     try simp only [Act.put, sA, sB, sC]
     refine sz ?_
     try simp only [Act.put, sA, sB, sC]
     refine wpAnyH_done (by kernel_rfl) ?_ _
     go_wp2_with fail
     go_roundw
     case rel => exact ⟨k + 1, by omega, by go_num, htk2.out, Ho.out.trans hHeld (fun _ h => h.elim)⟩
     case measure => simp [intOf]; omega
    ·have hne : Hid (decide (la = lb) = false) := by
      refine decide_eq_false fun h => ?_
      have h1 := Hx.out
      have h2 := Hy.out
      rw [h] at h1
      rw [h1] at h2
      exact heq (Option.some.inj h2)
     have q := tierNeS_false heq
     unfold TierV.val at q
     clear hx hy a0 a1 a2 a3 b0 b1 b2 b3
     go_wp2_with fail
     refine wp_region_held_drew (S := fun W => Fr (fun _ => False) wr W) (by kernel_rfl) ((Fr.refl _ wr).drew) (fun hHeld => ?_)
     refine tq 9 [0,1,2,3,4,5,6,7,8] ?_
     iterate 8 refine sf HC.out ?_
     refine sf HC.out ?_
     try simp only [Act.put, sA, sB, sC]
     refine sz ?_
     try simp only [Act.put, sA, sB, sC]
     refine wpAnyH_done (by kernel_rfl) ?_ _
     go_wp2_with fail
     go_ret
     exact ⟨by rw [hne.out]; rfl, (Ho.out.trans hHeld (fun _ h => h.elim)).below (fun _ h => h.elim)⟩
   ·obtain rfl : k = n := by omega
    have hE : Hid (decide (la = lb) = true) := by
     refine decide_eq_true ?_
     have h := htk.out
     rwa [take_all (by rw [hla.out]; exact Nat.le_refl _), take_all (by rw [hlb.out]; exact Nat.le_refl _)] at h
    go_wp2_with fail
    go_ret
    exact ⟨by rw [hE.out]; rfl, Ho.out.below (fun _ h => h.elim)⟩
 ·have hne : Hid (decide (la = lb) = false) := by
   refine decide_eq_false fun h => hnm ?_
   have h1 := hla.out
   have h2 := hlb.out
   rw [h] at h1
   omega
  have hnm2 : ((n : Int) != (m : Int)) = true := by simpa using (show (n : Int) ≠ (m : Int) by omega)
  have hnm3 : ((n : Int) == (m : Int)) = false := by simpa using (show (n : Int) ≠ (m : Int) by omega)
  go_enter Tryz.func110, Tryz.ntmps110
  go_wp2_with fail
  go_ret
  exact ⟨by rw [hne.out]; rfl, Below.refl _ _⟩
set_option maxRecDepth 100000 in
set_option maxHeartbeats 4000000 in
theorem eqints_any (la lb : List Int) (A : Option Addr) (n c : Nat) (B : Option Addr) (m d : Nat) (w : World) (ha : Rd w 1 A n (icells la)) (hb : Rd w 1 B m (icells lb)) (hn : n ≤ 1099511627776) (hm : m ≤ 1099511627776) :
  Calls Tryz.prog 64 #[.slice A n c, .slice B m d] w fun r w' => r = .returned (.bool (decide (la = lb))) ∧ Below w.heap.size w w' := by
 have Ha := Lib.hid ha
 have Hb := Lib.hid hb
 have hla := Lib.hid ha.icells_len
 have hlb := Lib.hid hb.icells_len
 clear ha hb
 by_cases hnm : n = m
 ·subst hnm
  go_enter Tryz.func64, Tryz.ntmps64
  go_wp2_with fail
  go_loopw [13] (fun i wr => ∃ k : Nat, k ≤ n ∧ i = .int .i64 k ∧ Hid (la.take k = lb.take k) ∧ Fr (fun _ => False) w wr) (fun i _ => n - (intOf i).toNat)
  case atStart => exact ⟨0, Nat.zero_le _, rfl, rfl, Fr.refl _ _⟩
  case round =>
   obtain ⟨k, hk, rfl, htk, ho⟩ := hrel
   have Ho := Lib.hid ho
   clear ho
   by_cases hlt : k < n
   ·obtain ⟨ad, x, rfl, hx, a0⟩ := (Ha.out.fr0 Ho.out).icell_ hlt
    obtain ⟨bd, y, rfl, hy, b0⟩ := (Hb.out.fr0 Ho.out).icell_ hlt
    have kn : 0 ≤ (k : Int) ∧ (k : Int) < (n : Int) := by omega
    have Hx := Lib.hid hx
    have Hy := Lib.hid hy
    have HC : Hid (∀ W, Fr (fun _ => False) wr W → W.cell? (ad.add k) = some (.int .i64 x) ∧ W.cell? (bd.add k) = some (.int .i64 y)) := fun W f => ⟨f.cell a0 (fun h => h), f.cell b0 (fun h => h)⟩
    by_cases heq : x = y
    ·have htk2 : Hid (la.take (k + 1) = lb.take (k + 1)) := by show _ = _; rw [take_snoc Hx.out, take_snoc Hy.out, htk.out, heq]
     have q : (x == y) = true := by simpa using heq
     have q2 : decide (x = y) = true := decide_eq_true heq
     clear hx hy a0 b0
     go_wp2_with fail
     refine wp_region_held_drew (S := fun W => Fr (fun _ => False) wr W) (by kernel_rfl) ((Fr.refl _ wr).drew) (fun hHeld => ?_)
     refine tq 9 [0,1,2,3,4,5,6,7,8] ?_
     iterate 8 refine sf HC.out ?_
     refine sf HC.out ?_
     try simp only [Act.put, sA, sB, sC]
     refine sz ?_
     try simp only [Act.put, sA, sB, sC]
     refine wpAnyH_done (by kernel_rfl) ?_ _
     go_wp2_with fail
     go_roundw
     case rel => exact ⟨k + 1, by omega, by go_num, htk2.out, Ho.out.trans hHeld (fun _ h => h.elim)⟩
     case measure => simp [intOf]; omega
    ·have hne : Hid (decide (la = lb) = false) := by
      refine decide_eq_false fun h => ?_
      have h1 := Hx.out
      have h2 := Hy.out
      rw [h] at h1
      rw [h1] at h2
      exact heq (Option.some.inj h2)
     have q : (x == y) = false := by simpa using heq
     have q2 : decide (x = y) = false := decide_eq_false heq
     have q3 : ¬ x = y := heq
     clear hx hy a0 b0
     go_wp2_with fail
     refine wp_region_held_drew (S := fun W => Fr (fun _ => False) wr W) (by kernel_rfl) ((Fr.refl _ wr).drew) (fun hHeld => ?_)
     refine tq 9 [0,1,2,3,4,5,6,7,8] ?_
     iterate 8 refine sf HC.out ?_
     refine sf HC.out ?_
     try simp only [Act.put, sA, sB, sC]
     refine sz ?_
     try simp only [Act.put, sA, sB, sC]
     refine wpAnyH_done (by kernel_rfl) ?_ _
     go_wp2_with fail
     go_ret
     exact ⟨by rw [hne.out]; rfl, (Ho.out.trans hHeld (fun _ h => h.elim)).below (fun _ h => h.elim)⟩
   ·obtain rfl : k = n := by omega
    have hE : Hid (decide (la = lb) = true) := by
     refine decide_eq_true ?_
     have h := htk.out
     rwa [take_all (by rw [hla.out]; exact Nat.le_refl _), take_all (by rw [hlb.out]; exact Nat.le_refl _)] at h
    go_wp2_with fail
    go_ret
    exact ⟨by rw [hE.out]; rfl, Ho.out.below (fun _ h => h.elim)⟩
 ·have hne : Hid (decide (la = lb) = false) := by
   refine decide_eq_false fun h => hnm ?_
   have h1 := hla.out
   have h2 := hlb.out
   rw [h] at h1
   omega
  have hnm2 : ((n : Int) != (m : Int)) = true := by simpa using (show (n : Int) ≠ (m : Int) by omega)
  have hnm3 : ((n : Int) == (m : Int)) = false := by simpa using (show (n : Int) ≠ (m : Int) by omega)
  go_enter Tryz.func64, Tryz.ntmps64
  go_wp2_with fail
  go_ret
  exact ⟨by rw [hne.out]; rfl, Below.refl _ _⟩
end Go.Proofs.YtkfdgodngbinlaaGreatDoor
namespace Go.Proofs.YtkfdgodngbinlaaGreatDoor
set_option linter.all false
open Go.RowKit

set_option maxRecDepth 100000 in
set_option maxHeartbeats 4000000 in
theorem polsame_any (na nb : ByteArray) (la lb : List TierV) (A : Option Addr) (n c : Nat) (B : Option Addr) (m d : Nat) (w : World) (ha : Rd w 4 A n (tcells la)) (hb : Rd w 4 B m (tcells lb)) (hn : n ≤ 1099511627776) (hm : m ≤ 1099511627776) :
  Calls Tryz.prog 63 #[polV na A n c, polV nb B m d] w fun r w' => r = .returned (.bool (decide (na = nb) && decide (la = lb))) ∧ Below w.heap.size w w' := by
 unfold polV
 have F0 : Hid (Fr (fun _ => False) w ((w.alloc (.cells #[.string na, .slice A n c] 36)).alloc (.cells #[.string nb, .slice B m d] 36))) := (Fr.none_alloc _ _).trans (Fr.none_alloc _ _) (fun _ h => h.elim)
 have B1 : Hid (Blk ((w.alloc (.cells #[.string na, .slice A n c] 36)).alloc (.cells #[.string nb, .slice B m d] 36)) w.heap.size 36 #[.string na, .slice A n c]) := (Blk.new w 36 #[.string na, .slice A n c]).fr (Fr.none_alloc _ _) (fun h => h)
 have B2 : Hid (Blk ((w.alloc (.cells #[.string na, .slice A n c] 36)).alloc (.cells #[.string nb, .slice B m d] 36)) (w.heap.size + 1) 36 #[.string nb, .slice B m d]) := by
  have := Blk.new (w.alloc (.cells #[.string na, .slice A n c] 36)) 36 #[.string nb, .slice B m d]
  show Blk _ _ _ _
  simpa using this
 have Ha := Lib.hid ha
 have Hb := Lib.hid hb
 clear ha hb
 have HQ0 : Hid (∀ W, Fr (fun _ => False) ((w.alloc (.cells #[.string na, .slice A n c] 36)).alloc (.cells #[.string nb, .slice B m d] 36)) W → Calls Tryz.prog 110 #[.slice A n c, .slice B m d] W fun r w' => r = .returned (.bool (decide (la = lb))) ∧ Below W.heap.size W w') := fun W f => eqtiers_any la lb A n c B m d W ((Ha.out.fr0 F0.out).fr0 f) ((Hb.out.fr0 F0.out).fr0 f) hn hm
 obtain ⟨E, hE⟩ : ∃ E, decide (la = lb) = E := ⟨_, rfl⟩
 rw [hE] at HQ0 ⊢
 by_cases hab : na = nb
 ·subst hab
  have hd : Hid (decide (na = na) = true) := decide_eq_true rfl
  go_enter Tryz.func63, Tryz.ntmps63
  go_wp2_with fail
  refine (HQ0.out _ (Fr.refl _ _)).mono ?_
  rintro r w5 ⟨rfl, b5⟩
  go_wp2_with fail
  go_ret
  exact ⟨by rw [hd.out]; rfl, (F0.out.trans (Fr.b0 b5) (fun _ h => h.elim)).below (fun _ h => h.elim)⟩
 ·have hd : Hid (decide (na = nb) = false) := decide_eq_false hab
  have hab3 : ¬ na.toList = nb.toList := fun e => hab (toList_inj e)
  have hab4 : decide (na = nb) = false := decide_eq_false hab
  go_enter Tryz.func63, Tryz.ntmps63
  go_wp2_with fail
  go_ret
  exact ⟨by rw [hd.out]; rfl, F0.out.below (fun _ h => h.elim)⟩
end Go.Proofs.YtkfdgodngbinlaaGreatDoor
