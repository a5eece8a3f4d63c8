/- A row's element is set; words about rows. -/
import Derived.Test.YtbblmmneeafhgaaGreatTiersP
import Derived.Test.YtbblmmneeafhgaaGreatBookKR
namespace Go.Proofs.YtbblmmneeafhgaaGreat
set_option linter.all false
open Go.RowKit

theorem TiersOn.frK {w w' : World} {t base : Nat} {X : TiersX} {F G : Nat → Prop} (h : TiersOn w t base X F) (hf : Fr G w w') (hG : ∀ j, G j → (∃ es ck, w.heap[j]? = some (.map es ck)) ∨ (∃ cs fz ty, w.heap[j]? = some (.cells cs ty fz) ∧ ty ≠ 90 ∧ ty ≠ 3 ∧ ty ≠ 107 ∧ ty ≠ 165)) (hd : ∀ j, F j → ¬ G j) : TiersOn w' t base X F := by
 obtain ⟨A, c, B, d, T, ct, tb, hi, rfl⟩ := h
 have hrow : ∀ {e : TypeId} {size n base' : Nat} {v : Value} {xs : List Value}, w.ownsRow base' e size v n xs → (e = 90 ∨ e = 3 ∨ e = 107) → ∀ j, rowF v j → ¬ G j := fun ho hne j hj hg => by
  obtain ⟨cs', fz', hc⟩ := own_ty ho hj
  rcases hG j hg with ⟨es, ck, hbm⟩ | ⟨cs, fz, ty, hb, h1, h2, h3, h4⟩
  ·rw [hbm] at hc; cases hc
  ·rw [hb] at hc
   injection hc with hc
   injection hc with _ hc _
   subst hc
   rcases hne with e | e | e
   ·exact h1 e
   ·exact h2 e
   ·exact h3 e
 have hblk : ∀ {g' : Nat} {cs : Array Value}, Blk w g' 165 cs → ¬ G g' := fun {g' cs} hB hg => by
  have hb0 : w.heap[g']? = some (Obj.cells cs 165 (0, 0)) := hB
  rcases hG g' hg with ⟨es, ck, hbm⟩ | ⟨cs, fz, ty, hb, h1, h2, h3, h4⟩
  ·rw [hbm] at hb0; cases hb0
  ·rw [hb] at hb0
   injection hb0 with hc
   injection hc with _ hc _
   exact h4 hc
 refine ⟨A, c, B, d, T, ct, tb, ⟨hi.blk.fr hf (hd t (.inl rfl)), own_fr hi.tiers hf (hrow hi.tiers (.inl rfl)), own_fr hi.floors hf (hrow hi.floors (.inr (.inl rfl))), own_fr hi.row hf (hrow hi.row (.inr (.inr rfl))), hi.tlen, fun i p x l h1 h2 h3 => ?_, hi.nodup, hi.ge, hi.tge⟩, rfl⟩
 have hT := hi.tab i p x l h1 h2 h3
 exact hT.fr hf (hblk hT.blk) (hd p.2 (.inr ⟨p, List.mem_of_getElem? h1, rfl⟩))
end Go.Proofs.YtbblmmneeafhgaaGreat
namespace Go.Proofs.YtbblmmneeafhgaaGreat
set_option linter.all false
open Go.RowKit

def BookG (w : World) (g k : Nat) (G L : Nat → Prop) : Prop :=
 ∃ (cs : Array Value) (V U : Value) (hs us : List (HV RecV)), Blk w g 49 cs ∧ cs[4]? = some V ∧ cs[5]? = some U ∧ (∀ j, j < 16 → j ≠ 4 → j ≠ 5 → cs[j]? = some (.slice none 0 0)) ∧
  Kind RecV.cells w 0 51 100 7 V U hs us ∧ hs.length = k ∧ k ≤ 250 ∧ (∀ h ∈ hs, h.l.length ≤ 100000) ∧ (∀ j, G j ↔ j = g ∨ rowF V j ∨ rowF U j) ∧ (∀ j, L j ↔ listsF hs j ∨ listsF us j)
section
variable {w w' : World} {g k : Nat} {G L F : Nat → Prop}
theorem BookG.fr (h : BookG w g k G L) (f : Fr F w w') (hG : ∀ j, G j → ¬ F j) (hL : ∀ j, L j → ¬ F j) : BookG w' g k G L := by
 obtain ⟨cs, V, U, hs, us, h1, h2, h3, h4, h5, h6, h7, h8, h9, h10⟩ := h
 refine ⟨cs, V, U, hs, us, h1.fr f (hG g ((h9 g).2 (.inl rfl))), h2, h3, h4, ⟨⟨fun x hx => own_fr (h5.lists.own x hx) f (fun j hj => hL j ((h10 j).2 (.inl ⟨x, hx, hj⟩))), h5.lists.apart⟩, own_fr h5.row f (fun j hj => hG j ((h9 j).2 (.inr (.inl hj)))), own_fr h5.wrow f (fun j hj => hG j ((h9 j).2 (.inr (.inr hj)))), h5.uv, fun x hx => own_fr (h5.was x hx) f (fun j hj => hL j ((h10 j).2 (.inr ⟨x, hx, hj⟩))), h5.same⟩, h6, h7, h8, h9, h10⟩
theorem BookG.fr0 (h : BookG w g k G L) (f : Fr (fun _ => False) w w') : BookG w' g k G L := h.fr f (fun _ _ h => h) (fun _ _ h => h)
theorem BookG.new (w : World) : BookG (w.alloc (.cells #[.slice none 0 0, .slice none 0 0, .slice none 0 0, .slice none 0 0, .slice none 0 0, .slice none 0 0, .slice none 0 0, .slice none 0 0, .slice none 0 0, .slice none 0 0, .slice none 0 0, .slice none 0 0, .slice none 0 0, .slice none 0 0, .slice none 0 0, .slice none 0 0] 49)) w.heap.size 0 (fun j => j = w.heap.size) (fun _ => False) := by
 refine ⟨_, .slice none 0 0, .slice none 0 0, [], [], Blk.new _ _ _, rfl, rfl, fun j hj _ _ => ?_, Kind.nil, rfl, by omega, fun x hx => (by cases hx), fun j => ?_, fun j => ?_⟩
 ·have : j = 0 ∨ j = 1 ∨ j = 2 ∨ j = 3 ∨ j = 4 ∨ j = 5 ∨ j = 6 ∨ j = 7 ∨ j = 8 ∨ j = 9 ∨ j = 10 ∨ j = 11 ∨ j = 12 ∨ j = 13 ∨ j = 14 ∨ j = 15 := by omega
  rcases this with rfl | rfl | rfl | rfl | rfl | rfl | rfl | rfl | rfl | rfl | rfl | rfl | rfl | rfl | rfl | rfl <;> rfl
 ·constructor
  ·exact fun h => .inl h
  ·rintro (h | h | h)
   ·exact h
   ·cases h
   ·cases h
 ·constructor
  ·exact fun h => h.elim
  ·rintro (⟨x, hx, _⟩ | ⟨x, hx, _⟩) <;> cases hx
theorem BookG.own (h : BookG w g k G L) : G g := by
 obtain ⟨cs, V, U, hs, us, h1, h2, h3, h4, h5, h6, h7, h8, h9, h10⟩ := h
 exact (h9 g).2 (.inl rfl)
theorem BookG.kind (h : BookG w g k G L) : ∀ j, G j → ∃ cs fz ty, w.heap[j]? = some (.cells cs ty fz) ∧ (ty = 49 ∨ ty = 51) := by
 obtain ⟨cs, V, U, hs, us, h1, h2, h3, h4, h5, h6, h7, h8, h9, h10⟩ := h
 intro j hj
 rcases (h9 j).1 hj with rfl | hj | hj
 ·exact ⟨_, _, _, h1, .inl rfl⟩
 ·obtain ⟨cs', fz, e⟩ := own_ty h5.row hj
  exact ⟨_, _, _, e, .inr rfl⟩
 ·obtain ⟨cs', fz, e⟩ := own_ty h5.wrow hj
  exact ⟨_, _, _, e, .inr rfl⟩
theorem BookG.lkind (h : BookG w g k G L) : ∀ j, L j → ∃ cs fz, w.heap[j]? = some (.cells cs 100 fz) := by
 obtain ⟨cs, V, U, hs, us, h1, h2, h3, h4, h5, h6, h7, h8, h9, h10⟩ := h
 intro j hj
 rcases (h10 j).1 hj with ⟨x, hx, hj⟩ | ⟨x, hx, hj⟩
 ·exact own_ty (h5.lists.own x hx) hj
 ·exact own_ty (h5.was x hx) hj
theorem BookG.lt (h : BookG w g k G L) : ∀ j, G j ∨ L j → j < w.heap.size := by
 rintro j (hj | hj)
 ·obtain ⟨_, _, _, e, _⟩ := h.kind j hj
  exact (Array.getElem?_eq_some_iff.1 e).1
 ·obtain ⟨_, _, e⟩ := h.lkind j hj
  exact (Array.getElem?_eq_some_iff.1 e).1
end
set_option maxRecDepth 100000 in
set_option maxHeartbeats 2000000 in
theorem bookG_add (w : World) (g k : Nat) (G L : Nat → Prop) (h : BookG w g k G L) (l : List RecV) (A : Option Addr) (n c : Nat) (ho : w.ownsRow 0 100 7 (.slice A n c) n (rcells l)) (hn : n ≤ 100000) (hd : ∀ j, L j → ¬ rowF (.slice A n c) j) :
  Calls Tryz.prog 27 #[.pointer (some ⟨g, 0, none⟩), .slice A n c] w fun r w' => r = .returned (.tuple #[]) ∧ (∃ G' L', BookG w' g (min (k + 1) 250) G' L' ∧ (∀ j, G' j → G j ∨ w.heap.size ≤ j) ∧ ∀ j, L' j → L j ∨ rowF (.slice A n c) j ∨ w.heap.size ≤ j) ∧ Fr G w w' := by
 have H0 := Lib.hid h
 obtain ⟨cs, V, U, hs, us, h1, h2, h3, h4, h5, h6, h7, h8, h9, h10⟩ := h
 have hlen : l.length = n := by have := ho.1; rw [csR_len] at this; omega
 by_cases hk : k < 250
 ·refine (addR_any g cs 0 V U hs us l A n c w h1 h2 h3 h5 (by omega) ho (by omega) (Nat.zero_le _) (fun x hx j hj => hd j ((h10 j).2 (.inl ⟨x, hx, hj⟩)))).mono ?_
  rintro r w' ⟨e, V', U', B, d, b1, k1, f1, s1, s2, s3⟩
  have h16 : cs.size ≥ 6 := by have := (Array.getElem?_eq_some_iff.1 h3).1; omega
  refine ⟨e, ⟨fun j => j = g ∨ rowF V' j ∨ rowF U' j, fun j => listsF (hs ++ [⟨.slice A n c, l⟩]) j ∨ listsF (us ++ [⟨.slice B n d, l⟩]) j, ⟨_, V', U', _, _, b1, ?_, ?_, fun j hj j1 j2 => ?_, k1, by simp; omega, by omega, fun x hx => ?_, fun j => Iff.rfl, fun j => Iff.rfl⟩, fun j hj => ?_, fun j hj => ?_⟩, f1.mono (fun j hj => .inl ((h9 j).2 hj))⟩
  ·rw [Array.getElem?_setIfInBounds_ne (by decide), Array.getElem?_setIfInBounds_self_of_lt (by omega)]
  ·rw [Array.getElem?_setIfInBounds_self_of_lt (by simp; omega)]
  ·rw [Array.getElem?_setIfInBounds_ne (by omega), Array.getElem?_setIfInBounds_ne (by omega), h4 j hj j1 j2]
  ·rcases List.mem_append.1 hx with hx | hx
   ·exact h8 x hx
   ·rw [List.mem_singleton] at hx; subst hx; show l.length ≤ _; omega
  ·rcases hj with rfl | hj | hj
   ·exact .inl ((h9 _).2 (.inl rfl))
   ·exact (s1 j hj).imp (fun h => (h9 j).2 (.inr (.inl h))) id
   ·exact (s2 j hj).imp (fun h => (h9 j).2 (.inr (.inr h))) id
  ·rcases hj with ⟨x, hx, hj⟩ | ⟨x, hx, hj⟩
   ·rcases List.mem_append.1 hx with hx | hx
    ·exact .inl ((h10 j).2 (.inl ⟨x, hx, hj⟩))
    ·rw [List.mem_singleton] at hx; subst hx; exact .inr (.inl hj)
   ·rcases List.mem_append.1 hx with hx | hx
    ·exact .inl ((h10 j).2 (.inr ⟨x, hx, hj⟩))
    ·rw [List.mem_singleton] at hx; subst hx; exact .inr (.inr (s3 j hj))
 ·have hk2 : k = 250 := by omega
  obtain ⟨RA, rc, rfl, _, _, _⟩ := own_slice h5.row
  have c4 := h1.cell 4
  rw [h2, h6, hk2] at c4
  have hm : min (k + 1) 250 = k := by omega
  rw [hm]
  clear h1 h2 h3 h4 h5 h6 h8 h9 h10 ho hd hk hk2 hm
  go_enter Tryz.func27, Tryz.ntmps27
  go_wp2_with fail
  go_end0
  exact ⟨rfl, ⟨G, L, H0.out, fun _ h => .inl h, fun _ h => .inl h⟩, Fr.refl _ _⟩
theorem bookG_apart (w : World) (g k : Nat) (G L : Nat → Prop) (h : BookG w g k G L) :
  Calls Tryz.prog 30 #[.pointer (some ⟨g, 0, none⟩)] w fun r w' => r = .returned (.bool true) ∧ Fr L w w' := by
 obtain ⟨cs, V, U, hs, us, h1, hV, hU, ho, hk, h6, h7, hl, h9, h10⟩ := h
 refine (apart_any g cs 0 V U hs us (.slice none 0 0) (.slice none 0 0) [] [] w h1 (Nat.zero_le _) (ho 0 (by decide) (by decide) (by decide)) (ho 2 (by decide) (by decide) (by decide)) hV hU hk (by omega) hl (ho 6 (by decide) (by decide) (by decide)) (ho 7 (by decide) (by decide) (by decide)) Kind.nil (by simp) (fun _ h => by cases h) (ho 8 (by decide) (by decide) (by decide)) (ho 10 (by decide) (by decide) (by decide)) (ho 12 (by decide) (by decide) (by decide)) (ho 14 (by decide) (by decide) (by decide))).mono ?_
 rintro r w' ⟨e, f⟩
 exact ⟨e, f.mono fun i hi => .inl (by
  rcases hi with hi | ⟨x, hx, hi⟩
  ·exact (h10 i).2 (.inl hi)
  ·cases hx)⟩
end Go.Proofs.YtbblmmneeafhgaaGreat
