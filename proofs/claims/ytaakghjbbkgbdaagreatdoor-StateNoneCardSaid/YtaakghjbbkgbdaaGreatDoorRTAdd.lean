/- Walks of the document: Reach.Cover, Takes. -/
import Derived.Test.YtaakghjbbkgbdaaGreatDoorShA
import Derived.Test.YtaakghjbbkgbdaaGreatDoorRefGrid
import Derived.Test.YtaakghjbbkgbdaaGreatDoorReachC
import Derived.Test.YtaakghjbbkgbdaaGreatDoorRefAdd
import Derived.Test.YtaakghjbbkgbdaaGreatDoorTiersCopy
import Derived.Test.YtaakghjbbkgbdaaGreatDoorTk
namespace Go.Proofs.YtaakghjbbkgbdaaGreatDoor
set_option linter.all false
open Go.RowKit

end Go.Proofs.YtaakghjbbkgbdaaGreatDoor
namespace Go.Proofs.YtaakghjbbkgbdaaGreatDoor
set_option linter.all false
open Go.RowKit

def uptoL {α : Type} (n : Nat) (f g : Nat → α) (i : Nat) : List α := (List.range n).map fun k => if k < i then f k else g k
section
variable {α : Type} {n i : Nat} {f g : Nat → α}
theorem uptoL_len : (uptoL n f g i).length = n := by unfold uptoL; simp
theorem uptoL_zero : uptoL n f g 0 = (List.range n).map g := by unfold uptoL; simp
theorem uptoL_all : uptoL n f g n = (List.range n).map f := by
 unfold uptoL
 refine List.map_congr_left fun k hk => ?_
 rw [if_pos (List.mem_range.1 hk)]
theorem uptoL_get (h : i < n) : (uptoL n f g i)[i]? = some (g i) := by
 unfold uptoL
 rw [List.getElem?_map, List.getElem?_range h]
 simp
theorem uptoL_set (h : i < n) : (uptoL n f g i).set i (f i) = uptoL n f g (i + 1) := by
 apply List.ext_getElem?
 intro j
 by_cases e : i = j
 ·subst e
  rw [List.getElem?_set_self (by rw [uptoL_len]; exact h)]
  unfold uptoL
  rw [List.getElem?_map, List.getElem?_range h]
  simp
 ·rw [List.getElem?_set_ne e]
  unfold uptoL
  rw [List.getElem?_map, List.getElem?_map]
  by_cases hj : j < n
  ·rw [List.getElem?_range hj]
   simp only [Option.map_some]
   by_cases h1 : j < i
   ·rw [if_pos h1, if_pos (by omega)]
   ·rw [if_neg h1, if_neg (by omega)]
  ·rw [List.getElem?_eq_none (by simpa using hj)]
   rfl
end
theorem getD_all {tabs : List (List RecV)} {n : Nat} (h : tabs.length = n) : (List.range n).map (fun k => tabs.getD k []) = tabs := by
 apply List.ext_getElem?
 intro j
 rw [List.getElem?_map]
 by_cases hj : j < n
 ·rw [List.getElem?_range hj, List.getElem?_eq_getElem (by omega)]
  simp [List.getD_eq_getElem?_getD, List.getElem?_eq_getElem (show j < tabs.length by omega)]
 ·rw [List.getElem?_eq_none (by simpa using hj), List.getElem?_eq_none (by omega)]
  rfl

section
variable {W W' : World} {p lo : Nat} {F F' G : Nat → Prop} {every : Int} {l : List RecV}
theorem RTabF.mono (h : RTabF W p lo F every l) (hm : ∀ j, F j → j < W.heap.size → F' j) : RTabF W p lo F' every l := by
 obtain ⟨⟨A, c, h1, h2, h3⟩, h4, h5, h6⟩ := h
 exact ⟨⟨A, c, h1, h2, fun j hj => hm j (h3 j hj) (h2.lt j hj).2⟩, h4, h5, h6⟩
theorem RTabF.fr (h : RTabF W p lo F every l) (f : Fr G W W') (hp : ¬ G p) (hG : ∀ j, F j → ¬ G j) : RTabF W' p lo F every l := by
 obtain ⟨⟨A, c, h1, h2, h3⟩, h4, h5, h6⟩ := h
 exact ⟨⟨A, c, h1.fr f hp, own_fr h2 f (fun j hj => hG j (h3 j hj)), h3⟩, h4, h5, h6⟩
theorem RTabF.other {q : Nat} {cs : Array Value} (h : RTabF W p lo F every l) (hq : Blk W q 214 cs) (f : Fr (fun j => j = q) W W') (hp : p ≠ q) : RTabF W' p lo F every l := by
 obtain ⟨⟨A, c, h1, h2, h3⟩, h4, h5, h6⟩ := h
 exact ⟨⟨A, c, h1.fr f hp, own_fr h2 f (fun j hj e => own_blk_ne h2 hq (by decide) (by rw [← e]; exact hj)), h3⟩, h4, h5, h6⟩
end

def rptrs (P : List Nat) : List Value := P.map fun p => .pointer (some ⟨p, 0, none⟩)
structure RTiersOn (W : World) (g lo : Nat) (F : Nat → Prop) (X : TiersX) (A : Option Addr) (c : Nat) (B : Option Addr) (d : Nat) (T : Option Addr) (ct : Nat) (P : List Nat) : Prop where
 blk : Blk W g 238 #[.int .i64 X.now, .string X.name, .slice A X.tiers.length c, .slice B X.floors.length d, .slice T X.tiers.length ct]
 row : W.ownsRow lo 212 1 (.slice T X.tiers.length ct) X.tiers.length (rptrs P)
 tlen : X.tabs.length = X.tiers.length
 tab : ∀ (i p : Nat) (x : TierV) (l : List RecV), P[i]? = some p → X.tiers[i]? = some x → X.tabs[i]? = some l → RTabF W p lo F x.every l
 inj : P.Nodup
 fg : F g
 fp : ∀ p ∈ P, F p
 ft : ∀ j, rowF (.slice T X.tiers.length ct) j → F j
 ge : ∀ j, F j → lo ≤ j ∧ j < W.heap.size
 rt : ∀ W', Fr (fun j => lo ≤ j) W W' → Rd W' 4 A X.tiers.length (tcells X.tiers)
 rf : ∀ W', Fr (fun j => lo ≤ j) W W' → Rd W' 1 B X.floors.length (ints X.floors)
section
variable {W W' : World} {g lo : Nat} {F G : Nat → Prop} {X : TiersX} {A B T : Option Addr} {c d ct : Nat} {P : List Nat}
theorem RTiersOn.len (h : RTiersOn W g lo F X A c B d T ct P) : P.length = X.tiers.length := by
 have := h.row.1
 unfold rptrs at this
 rw [List.length_map] at this
 omega
theorem RTiersOn.fr (h : RTiersOn W g lo F X A c B d T ct P) (f : Fr G W W') (hG : ∀ j, G j → lo ≤ j ∧ ¬ F j) : RTiersOn W' g lo F X A c B d T ct P :=
 have hn : ∀ j, F j → ¬ G j := fun j hj hg => (hG j hg).2 hj
 ⟨h.blk.fr f (hn _ h.fg), own_fr h.row f (fun j hj => hn j (h.ft j hj)), h.tlen, fun i p x l h1 h2 h3 => (h.tab i p x l h1 h2 h3).fr f (hn _ (h.fp p (List.mem_of_getElem? h1))) hn, h.inj, h.fg, h.fp, h.ft,
  fun j hj => ⟨(h.ge j hj).1, Nat.lt_of_lt_of_le (h.ge j hj).2 f.size⟩, fun W2 f2 => h.rt W2 ((f.mono (fun i hi => .inl (hG i hi).1)).trans f2 (fun _ h => .inl h)), fun W2 f2 => h.rf W2 ((f.mono (fun i hi => .inl (hG i hi).1)).trans f2 (fun _ h => .inl h))⟩
theorem RTiersOn.fr0 (h : RTiersOn W g lo F X A c B d T ct P) (f : Fr (fun _ => False) W W') : RTiersOn W' g lo F X A c B d T ct P := h.fr f (fun _ h => h.elim)
theorem RTiersOn.at_ (h : RTiersOn W g lo F X A c B d T ct P) {k : Nat} (hk : k < X.tiers.length) : ∃ p x l, P[k]? = some p ∧ X.tiers[k]? = some x ∧ X.tabs[k]? = some l :=
 ⟨_, _, _, List.getElem?_eq_getElem (by rw [h.len]; exact hk), List.getElem?_eq_getElem hk, List.getElem?_eq_getElem (by rw [h.tlen]; exact hk)⟩
theorem RTiersOn.lo_le (h : RTiersOn W g lo F X A c B d T ct P) : lo ≤ W.heap.size := by have := h.ge g h.fg; omega
theorem RTiersOn.put (h : RTiersOn W g lo F X A c B d T ct P) {k p : Nat} {x : TierV} {l l' : List RecV} (hp : P[k]? = some p) (hx : X.tiers[k]? = some x) (hl : X.tabs[k]? = some l) (ht : RTabF W' p lo (fun j => F j ∨ W.heap.size ≤ j) x.every l') (f : Fr (fun j => j = p) W W') :
  RTiersOn W' g lo (fun j => F j ∨ (W.heap.size ≤ j ∧ j < W'.heap.size)) { X with tabs := X.tabs.set k l' } A c B d T ct P := by
 obtain ⟨⟨A1, c1, b1, _, _⟩, _, _, _⟩ := h.tab k p x l hp hx hl
 have hlo := h.lo_le
 have hpm := List.mem_of_getElem? hp
 have hfp : Fr (fun j => lo ≤ j) W W' := f.mono (fun i hi => .inl (by rw [hi]; exact (h.ge p (h.fp p hpm)).1))
 refine ⟨h.blk.fr f (h.blk.ne_ b1 (by decide)), own_fr h.row f (fun j hj e => own_blk_ne h.row b1 (by decide) (by rw [← e]; exact hj)), by simpa using h.tlen, fun i q y m h1 h2 h3 => ?_, h.inj, .inl h.fg, fun q hq => .inl (h.fp q hq), fun j hj => .inl (h.ft j hj), fun j hj => ?_, fun W2 f2 => h.rt W2 (hfp.trans f2 (fun _ h => .inl h)), fun W2 f2 => h.rf W2 (hfp.trans f2 (fun _ h => .inl h))⟩
 ·by_cases e : k = i
  ·subst e
   obtain rfl : p = q := Option.some.inj (hp.symm.trans h1)
   obtain rfl : x = y := Option.some.inj (hx.symm.trans h2)
   have hk : k < X.tabs.length := (List.getElem?_eq_some_iff.1 hl).1
   have h3' : (X.tabs.set k l')[k]? = some m := h3
   rw [List.getElem?_set_self hk] at h3'
   obtain rfl : l' = m := Option.some.inj h3'
   exact ht.mono (fun j hj hlt => hj.imp id (fun h => ⟨h, hlt⟩))
  ·have h3' : (X.tabs.set k l')[i]? = some m := h3
   rw [List.getElem?_set_ne e] at h3'
   have hne : q ≠ p := fun e2 => by
    subst e2
    exact e ((List.getElem?_inj (List.getElem?_eq_some_iff.1 hp).1 h.inj).1 (hp.trans h1.symm))
   exact ((h.tab i q y m h1 h2 h3').other b1 f hne).mono (fun j hj _ => .inl hj)
 ·have := f.size
  rcases hj with hj | hj
  ·have := h.ge j hj; omega
  ·omega
end
end Go.Proofs.YtaakghjbbkgbdaaGreatDoor
namespace Go.Proofs.YtaakghjbbkgbdaaGreatDoor
set_option linter.all false
open Go.RowKit

end Go.Proofs.YtaakghjbbkgbdaaGreatDoor
