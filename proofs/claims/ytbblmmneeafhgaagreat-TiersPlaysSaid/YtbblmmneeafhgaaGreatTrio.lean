/- The plain law of what changes nothing: each record stands at its tier's reach or above it. -/
import Derived.Test.YtbblmmneeafhgaaGreatGoodLoad
import Derived.Test.YtbblmmneeafhgaaGreatRollLaw
import Derived.Test.YtbblmmneeafhgaaGreatShowsG
import Derived.Test.YtbblmmneeafhgaaGreatTio
namespace Go.Proofs.YtbblmmneeafhgaaGreat
set_option linter.all false
open Go.RowKit

def LowX (X : TiersX) : Prop := ∀ (k : Nat) (r : RecV), r ∈ X.tabs.getD k [] → fromV X.now X.tiers X.floors k ≤ r.start
theorem getD_nil_new {nm : ByteArray} {now : Int} {l : List TierV} {fl : List Int} (k : Nat) : (newX nm l now fl).tabs.getD k [] = [] := by
 show (l.map fun _ => []).getD k [] = []
 rw [List.getD_eq_getElem?_getD, List.getElem?_map]
 cases l[k]? <;> rfl
theorem LowX.new {nm : ByteArray} {now : Int} {l : List TierV} {fl : List Int} : LowX (newX nm l now fl) := fun k r hr => by
 rw [getD_nil_new] at hr
 cases hr
theorem addsV_from {e fr : Int} : ∀ {rs l : List RecV}, goodL l → (∀ r ∈ l, fr ≤ r.start) → (∀ r ∈ rs, fr ≤ r.start) → ∀ y ∈ addsV e l rs, fr ≤ y.start
 | [], _, _, h, _ => h
 | r :: rs, l, hg, h, hr => addsV_from (rs := rs) (l := addV e l r) (addV_good hg r) (addV_from hg h (hr r (by simp))) (fun y hy => hr y (List.mem_cons_of_mem _ hy))
theorem step_low {X : TiersX} {s : SampV} {k : Nat} {m : List RecV} (hg : goodL m) (h : ∀ r ∈ m, fromV X.now X.tiers X.floors k ≤ r.start) : goodL (stepL X s k m) ∧ ∀ r ∈ stepL X s k m, fromV X.now X.tiers X.floors k ≤ r.start := by
 unfold stepL
 split
 ·rename_i x hx
  split
  ·rename_i hs
   refine ⟨addV_good hg _, addV_from hg h ?_⟩
   have hk : k < X.tiers.length := (List.getElem?_eq_some_iff.1 hx).1
   unfold startV at hs ⊢
   split at hs
   ·rename_i hc
    rw [if_pos hc]
    simp only [Int.toNat_natCast, hx, decide_eq_true_eq, fromI_nat hk] at hs ⊢
    exact hs
   ·cases hs
  ·exact ⟨hg, h⟩
 ·exact ⟨hg, h⟩
theorem addT_low {X : TiersX} {s : SampV} {tabs : List (List RecV)} (hg : ∀ k, goodL (tabs.getD k [])) (h : ∀ (k : Nat) (r : RecV), r ∈ tabs.getD k [] → fromV X.now X.tiers X.floors k ≤ r.start) : (∀ k, goodL ((addT X tabs s).getD k [])) ∧ ∀ (k : Nat) (r : RecV), r ∈ (addT X tabs s).getD k [] → fromV X.now X.tiers X.floors k ≤ r.start := by
 have hk : ∀ k, (addT X tabs s).getD k [] = if k < X.tiers.length then stepL X s k (tabs.getD k []) else [] := fun k => by
  unfold addT
  rw [List.getD_eq_getElem?_getD, List.getElem?_map]
  by_cases hk : k < X.tiers.length
  ·rw [List.getElem?_range hk, if_pos hk]; rfl
  ·rw [List.getElem?_eq_none (by simpa using hk), if_neg hk]; rfl
 refine ⟨fun k => ?_, fun k r hr => ?_⟩
 ·rw [hk k]
  split
  ·exact (step_low (hg k) (h k)).1
  ·exact good_nil
 ·rw [hk k] at hr
  split at hr
  ·exact (step_low (hg k) (h k)).2 r hr
  ·cases hr
theorem putsT_low {X : TiersX} : ∀ {s : List SampV} {tabs : List (List RecV)}, (∀ k, goodL (tabs.getD k [])) → (∀ (k : Nat) (r : RecV), r ∈ tabs.getD k [] → fromV X.now X.tiers X.floors k ≤ r.start) → ∀ (k : Nat) (r : RecV), r ∈ (putsT X tabs s).getD k [] → fromV X.now X.tiers X.floors k ≤ r.start
 | [], _, _, h => h
 | a :: s, tabs, hg, h => putsT_low (s := s) (tabs := addT X tabs a) (addT_low hg h).1 (addT_low hg h).2
section
variable {nm : ByteArray} {l : List TierV} {fl : List Int} {X : TiersX} {c : Nat}
theorem LowX.put (h : LowX X) (hg : GoodX nm l fl X c) (s : List SampV) : LowX (putX X s) := by
 unfold putX
 split
 ·exact putsT_low hg.good h
 ·exact h
theorem LowX.tick (h : LowX X) (n : Int) : LowX (tickX X n) := by
 unfold tickX
 split
 ·intro k r hr
  have hk : k < X.tiers.length := by
   by_cases hk : k < X.tiers.length
   ·exact hk
   ·exfalso
    have e : (dropL (X.now + n) X).getD k [] = [] := by
     unfold dropL
     rw [List.getD_eq_getElem?_getD, List.getElem?_eq_none (by simpa using hk)]
     rfl
    have hr' : r ∈ (dropL (X.now + n) X).getD k [] := hr
    rw [e] at hr'
    cases hr'
  have hr' : r ∈ (dropL (X.now + n) X).getD k [] := hr
  rw [dropL_getD _ _ _ hk] at hr'
  have := (List.mem_filter.1 hr').2
  unfold startBelow at this
  simp only [Bool.not_eq_true', decide_eq_false_iff_not] at this
  show fromV (X.now + n) X.tiers X.floors k ≤ r.start
  omega
 ·exact h
theorem LowX.load (h : LowX X) (hg : GoodX nm l fl X c) (i : Int) (rs : List RecV) : LowX (loadI X i rs) := by
 unfold loadI
 split
 ·unfold loadX
  split
  ·rename_i x m hx hm
   intro k r hr
   have hr' : r ∈ (X.tabs.set i.toNat (addsV x.every m (rs.filter (ldB X i.toNat)))).getD k [] := hr
   show fromV X.now X.tiers X.floors k ≤ r.start
   by_cases e : i.toNat = k
   ·subst e
    have hl : i.toNat < X.tabs.length := (List.getElem?_eq_some_iff.1 hm).1
    rw [List.getD_eq_getElem?_getD, List.getElem?_set_self hl] at hr'
    have hmd : X.tabs.getD i.toNat [] = m := by rw [List.getD_eq_getElem?_getD, hm]; rfl
    have hgm := hg.good i.toNat
    have hlm := h i.toNat
    rw [hmd] at hgm hlm
    refine addsV_from hgm hlm (fun y hy => ?_) r hr'
    have := (List.mem_filter.1 hy).2
    unfold ldB at this
    exact of_decide_eq_true this
   ·rw [List.getD_eq_getElem?_getD, List.getElem?_set_ne e, ← List.getD_eq_getElem?_getD] at hr'
    exact h k r hr'
  ·exact h
 ·exact h
theorem tick_same (h : LowX X) (hg : GoodX nm l fl X c) : tickX X 0 = X := by
 unfold tickX
 split
 ·have e1 : X.now + 0 = X.now := by omega
  have e2 : dropL (X.now + 0) X = X.tabs := by
   rw [e1]
   unfold dropL
   have hl : X.tabs.length = X.tiers.length := by rw [hg.tlen, hg.tiers]
   apply List.ext_getElem?
   intro k
   rw [List.getElem?_map]
   by_cases hk : k < X.tiers.length
   ·rw [List.getElem?_range hk, List.getElem?_eq_getElem (by omega)]
    simp only [Option.map_some]
    congr 1
    have hd : X.tabs.getD k [] = X.tabs[k] := by rw [List.getD_eq_getElem?_getD, List.getElem?_eq_getElem (by omega)]; rfl
    rw [hd]
    unfold keepT
    rw [List.filter_eq_self]
    intro r hr
    have := h k r (by rw [hd]; exact hr)
    unfold startBelow
    rw [decide_eq_false (by omega)]
    rfl
   ·rw [List.getElem?_eq_none (by simpa using hk), List.getElem?_eq_none (by omega)]
    rfl
  rw [e2, e1]
 ·rfl
theorem adds_none {e : Int} : ∀ {rs m : List RecV}, (∀ r ∈ rs, rightR e r = false) → addsV e m rs = m
 | [], _, _ => rfl
 | r :: rs, m, h => by
  have h1 := h r (by simp)
  show addsV e (addV e m r) rs = m
  have e1 : addV e m r = m := by unfold addV; rw [if_neg (by rw [h1]; simp)]
  rw [e1]
  exact adds_none (fun y hy => h y (List.mem_cons_of_mem _ hy))
theorem load_same {i : Int} {rs : List RecV} (h : loadM X i rs = 0) : loadI X i rs = X := by
 unfold loadM at h
 unfold loadI
 split
 ·rename_i hi
  rw [if_pos hi] at h
  unfold loadN at h
  unfold loadX
  split
  ·rename_i x m hx hm
   rw [hx] at h
   simp only [List.length_eq_zero_iff, List.filter_eq_nil_iff] at h
   have e : addsV x.every m (rs.filter (ldB X i.toNat)) = m := adds_none (fun r hr => by simpa using h r hr)
   rw [e, set_same hm]
  ·rfl
 ·rfl
theorem put_same {s : List SampV} (h : putE X s ≠ 0) : putX X s = X := by unfold putX; rw [if_neg h]
theorem tick_same2 {n : Int} (h : tickE X n ≠ 0) : tickX X n = X := by unfold tickX; rw [if_neg h]
end
end Go.Proofs.YtbblmmneeafhgaaGreat
namespace Go.Proofs.YtbblmmneeafhgaaGreat
set_option linter.all false
open Go.RowKit

def Quad (nm : ByteArray) (l : List TierV) (fl : List Int) (lo : Nat) (W : World) (t u g kb : Nat) (X X2 Y : TiersX) (K : Nat → Prop) (cc : Nat) : Prop :=
 (∃ (F F2 F0 G L : Nat → Prop) (A : Option Addr) (c : Nat) (B : Option Addr) (d : Nat) (T : Option Addr) (ct : Nat) (P : List Nat) (k : Nat), Tio nm l fl lo W t X F cc ∧ Tio nm l fl lo W u X2 F2 cc ∧ (∀ j, F j → ¬ F2 j) ∧ RTiersOn W g lo F0 Y A c B d T ct P ∧ RKind W F0 ∧ BookG W kb k G L ∧ (∀ j, G j → lo ≤ j) ∧ (∀ j, L j → lo ≤ j ∧ ¬ F0 j) ∧ ∀ j, F j ∨ F2 j ∨ F0 j ∨ G j → K j) ∧ GoodX nm l fl Y cc
def Tri (nm : ByteArray) (l : List TierV) (fl : List Int) (lo : Nat) (W : World) (t g kb : Nat) (X Y : TiersX) (K : Nat → Prop) (cc : Nat) : Prop :=
 (∃ (F F0 G L : Nat → Prop) (A : Option Addr) (c : Nat) (B : Option Addr) (d : Nat) (T : Option Addr) (ct : Nat) (P : List Nat) (k : Nat), Tio nm l fl lo W t X F cc ∧ RTiersOn W g lo F0 Y A c B d T ct P ∧ RKind W F0 ∧ BookG W kb k G L ∧ (∀ j, G j → lo ≤ j) ∧ (∀ j, L j → lo ≤ j ∧ ¬ F0 j) ∧ ∀ j, F j ∨ F0 j ∨ G j → K j) ∧ GoodX nm l fl Y cc
section
variable {W W' : World} {g lo t u kb k : Nat} {F F2 F0 G L K : Nat → Prop} {X X2 X' Y : TiersX} {A B T : Option Addr} {c d ct : Nat} {P : List Nat} {nm : ByteArray} {l : List TierV} {fl : List Int} {cc : Nat}
theorem BookG.offT (h : BookG W kb k G L) (h1 : Tio nm l fl lo W t X F cc) : ∀ j, G j ∨ L j → ¬ F j := fun j hj hf => by
 obtain ⟨_, _, ho⟩ := h1.on
 have h2 : ∃ cs fz ty, W.heap[j]? = some (.cells cs ty fz) ∧ ty ≠ 83 := by
  rcases hj with hj | hj
  ·obtain ⟨cs, fz, ty, e, h⟩ := h.kind j hj
   exact ⟨cs, fz, ty, e, by rcases h with rfl | rfl <;> decide⟩
  ·obtain ⟨cs, fz, e⟩ := h.lkind j hj
   exact ⟨cs, fz, _, e, by decide⟩
 obtain ⟨cs, fz, ty, e, hne⟩ := h2
 rcases ho.kind j hf with ⟨es, ck, hm⟩ | ⟨cs', fz', hm⟩
 ·rw [hm] at e; cases e
 ·rw [hm] at e
  injection e with e
  injection e with _ e _
  exact hne e.symm
theorem BookG.offR (h : BookG W kb k G L) (hk : RKind W F0) : ∀ j, G j → ¬ F0 j := fun j hj hf => by
 obtain ⟨cs, fz, ty, e, h⟩ := h.kind j hj
 obtain ⟨cs', fz', ty', e', h'⟩ := hk j hf
 rw [e'] at e
 injection e with e
 injection e with _ e _
 subst e
 unfold rTy at h'
 rcases h with h | h <;> rcases h' with h' | h' | h' | h' <;> rw [h] at h' <;> exact absurd h' (by decide)
theorem BookG.kindK (h : BookG W kb k G L) : ∀ j, G j → (∃ es ck, W.heap[j]? = some (.map es ck)) ∨ (∃ cs fz ty, W.heap[j]? = some (.cells cs ty fz) ∧ ty ≠ 90 ∧ ty ≠ 3 ∧ ty ≠ 107 ∧ ty ≠ 165) := fun j hj => by
 obtain ⟨cs, fz, ty, e, h⟩ := h.kind j hj
 refine .inr ⟨cs, fz, ty, e, ?_⟩
 rcases h with rfl | rfl <;> decide
theorem Tio.frB (h1 : Tio nm l fl lo W t X F cc) (h : BookG W kb k G L) (f : Fr G W W') : Tio nm l fl lo W' t X F cc := by
 obtain ⟨b, hb, ho⟩ := h1.on
 exact ⟨⟨b, hb, ho.frK f h.kindK (fun j hj hg => h.offT h1 j (.inl hg) hj)⟩, h1.good⟩
theorem RKind.fr (hk : RKind W F0) (f : Fr G W W') (hd : ∀ j, F0 j → ¬ G j) : RKind W' F0 := fun j hj => by
 obtain ⟨cs, fz, ty, e1, e2⟩ := hk j hj
 exact ⟨cs, fz, ty, by rw [f.block j (Array.getElem?_eq_some_iff.1 e1).1 (hd j hj)]; exact e1, e2⟩
theorem Quad.fr0 (h : Quad nm l fl lo W t u g kb X X2 Y K cc) (f : Fr (fun _ => False) W W') : Quad nm l fl lo W' t u g kb X X2 Y K cc := by
 obtain ⟨⟨F, F2, F0, G, L, A, c, B, d, T, ct, P, k, h1, h2, h3, h4, h5, h6, h7, h8, h9⟩, hg⟩ := h
 exact ⟨⟨F, F2, F0, G, L, A, c, B, d, T, ct, P, k, h1.fr0 f, h2.fr0 f, h3, h4.fr0 f, h5.fr0 f, h6.fr0 f, h7, h8, h9⟩, hg⟩
theorem Quad.more {cc2 : Nat} (h : Quad nm l fl lo W t u g kb X X2 Y K cc) (hc : cc ≤ cc2) : Quad nm l fl lo W t u g kb X X2 Y K cc2 := by
 obtain ⟨⟨F, F2, F0, G, L, A, c, B, d, T, ct, P, k, h1, h2, h3⟩, hg⟩ := h
 exact ⟨⟨F, F2, F0, G, L, A, c, B, d, T, ct, P, k, h1.more hc, h2.more hc, h3⟩, hg.more hc⟩
theorem Quad.wide {K2 : Nat → Prop} (h : Quad nm l fl lo W t u g kb X X2 Y K cc) (hk : ∀ j, K j → K2 j) : Quad nm l fl lo W t u g kb X X2 Y K2 cc := by
 obtain ⟨⟨F, F2, F0, G, L, A, c, B, d, T, ct, P, k, h1, h2, h3, h4, h5, h6, h7, h8, h9⟩, hg⟩ := h
 exact ⟨⟨F, F2, F0, G, L, A, c, B, d, T, ct, P, k, h1, h2, h3, h4, h5, h6, h7, h8, fun j hj => hk j (h9 j hj)⟩, hg⟩
theorem Quad.tight (h : Quad nm l fl lo W t u g kb X X2 Y K cc) : ∃ K2, Quad nm l fl lo W t u g kb X X2 Y K2 cc ∧ ∀ j, K2 j → lo ≤ j ∧ j < W.heap.size := by
 obtain ⟨⟨F, F2, F0, G, L, A, c, B, d, T, ct, P, k, h1, h2, h3, h4, h5, h6, h7, h8, h9⟩, hg⟩ := h
 refine ⟨fun j => F j ∨ F2 j ∨ F0 j ∨ G j, ⟨⟨F, F2, F0, G, L, A, c, B, d, T, ct, P, k, h1, h2, h3, h4, h5, h6, h7, h8, fun j hj => hj⟩, hg⟩, fun j hj => ?_⟩
 rcases hj with hj | hj | hj | hj
 ·exact h1.ge j hj
 ·exact h2.ge j hj
 ·exact h4.ge j hj
 ·exact ⟨h7 j hj, h6.lt j (.inl hj)⟩
theorem Quad.ref (h : Quad nm l fl lo W t u g kb X X2 Y K cc) : ∃ F0 A c B d T ct P, RTiersOn W g lo F0 Y A c B d T ct P := by
 obtain ⟨⟨F, F2, F0, G, L, A, c, B, d, T, ct, P, k, h1, h2, h3, h4, _⟩, _⟩ := h
 exact ⟨F0, A, c, B, d, T, ct, P, h4⟩
theorem Quad.one (h : Quad nm l fl lo W t u g kb X X2 Y K cc) : ∃ F, Tio nm l fl lo W t X F cc := by
 obtain ⟨⟨F, F2, F0, G, L, A, c, B, d, T, ct, P, k, h1, _⟩, _⟩ := h
 exact ⟨F, h1⟩
theorem Quad.two (h : Quad nm l fl lo W t u g kb X X2 Y K cc) : ∃ F, Tio nm l fl lo W u X2 F cc := by
 obtain ⟨⟨F, F2, F0, G, L, A, c, B, d, T, ct, P, k, h1, h2, _⟩, _⟩ := h
 exact ⟨F2, h2⟩
theorem Quad.swap (h : Quad nm l fl lo W t u g kb X X2 Y K cc) : Quad nm l fl lo W u t g kb X2 X Y K cc := by
 obtain ⟨⟨F, F2, F0, G, L, A, c, B, d, T, ct, P, k, h1, h2, h3, h4, h5, h6, h7, h8, h9⟩, hg⟩ := h
 exact ⟨⟨F2, F, F0, G, L, A, c, B, d, T, ct, P, k, h2, h1, fun j a b => h3 j b a, h4, h5, h6, h7, h8, fun j hj => h9 j (by rcases hj with h | h | h; exact .inr (.inl h); exact .inl h; exact .inr (.inr h))⟩, hg⟩
theorem Quad.lo_le (h : Quad nm l fl lo W t u g kb X X2 Y K cc) : lo ≤ W.heap.size := by
 obtain ⟨⟨F, F2, F0, G, L, A, c, B, d, T, ct, P, k, h1, h2, h3, h4, _⟩, _⟩ := h
 exact h4.lo_le
theorem Quad.real {cc2 : Nat} (h1 : Tio nm l fl lo W t X F cc) (h2 : Tio nm l fl lo W u X2 F2 cc) (h3 : ∀ j, F j → ¬ F2 j) (h4 : RTiersOn W g lo F0 Y A c B d T ct P) (h5 : RKind W F0) (h6 : BookG W kb k G L) (h7 : ∀ j, G j → lo ≤ j) (h8 : ∀ j, L j → lo ≤ j ∧ ¬ F0 j) (h9 : ∀ j, F j ∨ F2 j ∨ F0 j ∨ G j → K j) (hg : GoodX nm l fl Y cc)
  (hT : Tio nm l fl lo W' t X' F cc2) (f : Fr F W W') (hc : cc ≤ cc2) : Quad nm l fl lo W' t u g kb X' X2 Y K cc2 ∧ Fr K W W' := by
 have hoff := h1.offR h5
 refine ⟨⟨⟨F, F2, F0, G, L, A, c, B, d, T, ct, P, k, hT, (h2.apart h1 f (fun _ h => h) (fun j a b => h3 j b a)).more hc, h3, h4.fr f (fun j hj => ⟨(h1.ge j hj).1, fun hj2 => hoff j hj2 hj⟩), h5.fr f hoff, h6.fr f (fun j hj => h6.offT h1 j (.inl hj)) (fun j hj => h6.offT h1 j (.inr hj)), h7, h8, h9⟩, hg.more hc⟩, f.mono (fun j hj => .inl (h9 j (.inl hj)))⟩
theorem Quad.doc {cc2 : Nat} {Y' : TiersX} (h1 : Tio nm l fl lo W t X F cc) (h2 : Tio nm l fl lo W u X2 F2 cc) (h3 : ∀ j, F j → ¬ F2 j) (h4 : RTiersOn W g lo F0 Y A c B d T ct P) (h5 : RKind W F0) (h6 : BookG W kb k G L) (h7 : ∀ j, G j → lo ≤ j) (h8 : ∀ j, L j → lo ≤ j ∧ ¬ F0 j) (h9 : ∀ j, F j ∨ F2 j ∨ F0 j ∨ G j → K j)
  (hT : RtAt W W' g lo F0 Y' A c B d T ct P) (hg : GoodX nm l fl Y' cc2) (hc : cc ≤ cc2) : Quad nm l fl lo W' t u g kb X X2 Y' (fun j => K j ∨ W.heap.size ≤ j) cc2 ∧ Fr K W W' := by
 obtain ⟨F1, q1, hm⟩ := hT
 obtain ⟨F3, q2, q3, q4⟩ := q1.exact
 have hsub : ∀ j, F3 j → F0 j ∨ W.heap.size ≤ j := fun j hj => hm.sub j (q3 j hj)
 refine ⟨⟨⟨F, F2, F3, G, L, A, c, B, d, T, ct, P, k, (h1.frR hm.fr h5).more hc, (h2.frR hm.fr h5).more hc, h3, q2, q4, h6.fr hm.fr (h6.offR h5) (fun j hj => (h8 j hj).2), h7, fun j hj => ⟨(h8 j hj).1, fun hf => ?_⟩, fun j hj => ?_⟩, hg⟩, hm.fr.mono (fun j hj => .inl (h9 j (.inr (.inr (.inl hj)))))⟩
 ·rcases hsub j hf with h | h
  ·exact (h8 j hj).2 h
  ·have := h6.lt j (.inr hj); omega
 ·rcases hj with hj | hj | hj | hj
  ·exact .inl (h9 j (.inl hj))
  ·exact .inl (h9 j (.inr (.inl hj)))
  ·exact (hsub j hj).imp (fun h => h9 j (.inr (.inr (.inl h)))) id
  ·exact .inl (h9 j (.inr (.inr (.inr hj))))
theorem Quad.book {G' L' : Nat → Prop} {k' : Nat} (h1 : Tio nm l fl lo W t X F cc) (h2 : Tio nm l fl lo W u X2 F2 cc) (h3 : ∀ j, F j → ¬ F2 j) (h4 : RTiersOn W g lo F0 Y A c B d T ct P) (h5 : RKind W F0) (h6 : BookG W kb k G L) (h7 : ∀ j, G j → lo ≤ j) (h8 : ∀ j, L j → lo ≤ j ∧ ¬ F0 j) (h9 : ∀ j, F j ∨ F2 j ∨ F0 j ∨ G j → K j) (hg : GoodX nm l fl Y cc)
  (hB : BookG W' kb k' G' L') (hG : ∀ j, G' j → G j ∨ W.heap.size ≤ j) (hL : ∀ j, L' j → L j ∨ lo ≤ j ∧ ¬ F0 j) (f : Fr G W W') : Quad nm l fl lo W' t u g kb X X2 Y (fun j => K j ∨ W.heap.size ≤ j) cc ∧ Fr K W W' := by
 have hlo := h4.lo_le
 have hd : ∀ j, F0 j → ¬ G j := fun j a b => h6.offR h5 j b a
 refine ⟨⟨⟨F, F2, F0, G', L', A, c, B, d, T, ct, P, k', h1.frB h6 f, h2.frB h6 f, h3, h4.fr f (fun j hj => ⟨h7 j hj, h6.offR h5 j hj⟩), h5.fr f hd, hB, fun j hj => ?_, fun j hj => ?_, fun j hj => ?_⟩, hg⟩, f.mono (fun j hj => .inl (h9 j (.inr (.inr (.inr hj)))))⟩
 ·rcases hG j hj with h | h
  ·exact h7 j h
  ·omega
 ·rcases hL j hj with h | h
  ·exact h8 j h
  ·exact h
 ·rcases hj with hj | hj | hj | hj
  ·exact .inl (h9 j (.inl hj))
  ·exact .inl (h9 j (.inr (.inl hj)))
  ·exact .inl (h9 j (.inr (.inr (.inl hj))))
  ·exact (hG j hj).imp (fun h => h9 j (.inr (.inr (.inr h)))) id
theorem quad_putT (p : PolOk nm l) (h : Quad nm l fl lo W t u g kb X X2 Y K cc) (hc : cc ≤ 900000) (s : List SampV) (D : Option Addr) (n e : Nat) (hr : Rd W 3 D n (scells s)) (hsw : ∀ x ∈ s, x.wf) :
  Calls Tryz.prog 16 #[.pointer (some ⟨t, 0, none⟩), .slice D n e] W fun r w' => r = .returned (.int .i64 (putE X s)) ∧ Quad nm l fl lo w' t u g kb (putX X s) X2 Y K (cc + 8) ∧ Fr K W w' := by
 obtain ⟨⟨F, F2, F0, G, L, A, c, B, d, T, ct, P, k, h1, h2, h3, h4, h5, h6, h7, h8, h9⟩, hg⟩ := h
 refine (tio_put p h1 (by omega) s D n e hr hsw).mono ?_
 rintro r w' ⟨rfl, q1, q2⟩
 exact ⟨rfl, Quad.real h1 h2 h3 h4 h5 h6 h7 h8 h9 hg q1 q2 (by omega)⟩
theorem quad_tickT (p : PolOk nm l) (h : Quad nm l fl lo W t u g kb X X2 Y K cc) (hc : cc ≤ 900000) (n : Int) (hn : i64 n) :
  Calls Tryz.prog 18 #[.pointer (some ⟨t, 0, none⟩), .int .i64 n] W fun r w' => r = .returned (.int .i64 (tickE X n)) ∧ Quad nm l fl lo w' t u g kb (tickX X n) X2 Y K cc ∧ Fr K W w' := by
 obtain ⟨⟨F, F2, F0, G, L, A, c, B, d, T, ct, P, k, h1, h2, h3, h4, h5, h6, h7, h8, h9⟩, hg⟩ := h
 refine (tio_tick p h1 (by omega) n hn).mono ?_
 rintro r w' ⟨rfl, q1, q2⟩
 exact ⟨rfl, Quad.real h1 h2 h3 h4 h5 h6 h7 h8 h9 hg q1 q2 (Nat.le_refl _)⟩
theorem quad_loadT (p : PolOk nm l) (h : Quad nm l fl lo W t u g kb X X2 Y K cc) (hc : cc ≤ 800000) (i : Int) (rs : List RecV) (D : Option Addr) (n e : Nat) (hr : Rd W 7 D n (rcells rs)) (hrw : ∀ r ∈ rs, r.wf) (hn : n ≤ 100000) :
  Calls Tryz.prog 20 #[.pointer (some ⟨t, 0, none⟩), .int .i64 i, .slice D n e] W fun r w' => r = .returned (.int .i64 (loadM X i rs : Nat)) ∧ Quad nm l fl lo w' t u g kb (loadI X i rs) X2 Y K (cc + rs.length) ∧ Fr K W w' := by
 have h0 := h
 obtain ⟨⟨F, F2, F0, G, L, A, c, B, d, T, ct, P, k, h1, h2, h3, h4, h5, h6, h7, h8, h9⟩, hg⟩ := h
 obtain ⟨base, hb, ho⟩ := h1.on
 unfold loadM loadI
 by_cases hi : 0 ≤ i ∧ i < (X.tiers.length : Int)
 ·rw [if_pos hi, if_pos hi]
  obtain ⟨k', rfl⟩ : ∃ k : Nat, i = k := ⟨i.toNat, by omega⟩
  have ek : ((k' : Int)).toNat = k' := by omega
  rw [ek]
  refine (tload_in t base X F k' rs D n e W ho (by omega) (h1.five p) (h1.short (by omega)) (by omega) h1.good.now (h1.wf p) hr hrw).mono ?_
  rintro r w' ⟨rfl, q1, q2⟩
  exact ⟨rfl, Quad.real h1 h2 h3 h4 h5 h6 h7 h8 h9 hg ⟨⟨base, hb, q1⟩, h1.good.load k' rs⟩ (q2.mono (fun _ h => .inl h.1)) (by omega)⟩
 ·rw [if_neg hi, if_neg hi]
  refine (tload_out t base X i _ W ho.at_ (h1.pos p) hi).mono ?_
  rintro r w' ⟨rfl, rfl⟩
  exact ⟨rfl, h0.more (by omega), Fr.refl _ _⟩
theorem quad_putR (p : PolOk nm l) (h : Quad nm l fl lo W t u g kb X X2 Y K cc) (hc : cc ≤ 900000) (s : List SampV) (D : Option Addr) (n e : Nat) (hr : Rd W 3 D n (scells s)) (hsw : ∀ x ∈ s, x.wf) (hn : n ≤ 9223372036854775807) (hD : ∀ j, adF D n j → j < lo) :
  Calls Tryz.prog 17 #[.pointer (some ⟨g, 0, none⟩), .slice D n e] W fun r w' => r = .returned (.int .i64 (putE Y s)) ∧ Quad nm l fl lo w' t u g kb X X2 (putX Y s) (fun j => K j ∨ W.heap.size ≤ j) (cc + 8) ∧ Fr K W w' := by
 obtain ⟨⟨F, F2, F0, G, L, A, c, B, d, T, ct, P, k, h1, h2, h3, h4, h5, h6, h7, h8, h9⟩, hg⟩ := h
 have hY : Y.tiers = l := hg.tiers
 refine (rtput_any g lo F0 Y A c B d T ct P s D n e W h4 (by rw [hY]; have := p.five; omega) (by have := hg.now; unfold i64; omega) (by rw [hY]; exact p.wf) hr hsw hn (fun j hj hf => by have := hD j hj; have := (h4.ge j hf).1; omega) (fun y hy => by have := hg.len y hy; omega)).mono ?_
 rintro r w' ⟨rfl, q⟩
 exact ⟨rfl, Quad.doc h1 h2 h3 h4 h5 h6 h7 h8 h9 q (hg.put s) (by omega)⟩
theorem quad_tickR (p : PolOk nm l) (h : Quad nm l fl lo W t u g kb X X2 Y K cc) (hc : cc ≤ 900000) (n : Int) :
  Calls Tryz.prog 19 #[.pointer (some ⟨g, 0, none⟩), .int .i64 n] W fun r w' => r = .returned (.int .i64 (tickE Y n)) ∧ Quad nm l fl lo w' t u g kb X X2 (tickX Y n) (fun j => K j ∨ W.heap.size ≤ j) cc ∧ Fr K W w' := by
 obtain ⟨⟨F, F2, F0, G, L, A, c, B, d, T, ct, P, k, h1, h2, h3, h4, h5, h6, h7, h8, h9⟩, hg⟩ := h
 have hY : Y.tiers = l := hg.tiers
 refine (rttick_any g lo F0 Y A c B d T ct P n W h4 (by rw [hY]; have := p.five; omega) hg.now (by rw [hY]; exact p.wf) (fun y hy => by have := hg.len y hy; omega)).mono ?_
 rintro r w' ⟨rfl, q⟩
 exact ⟨rfl, Quad.doc h1 h2 h3 h4 h5 h6 h7 h8 h9 q (hg.tick n) (Nat.le_refl _)⟩
theorem quad_loadR (p : PolOk nm l) (h : Quad nm l fl lo W t u g kb X X2 Y K cc) (hc : cc ≤ 800000) (i : Int) (rs : List RecV) (D : Option Addr) (n e : Nat) (hr : Rd W 7 D n (rcells rs)) (hrw : ∀ r ∈ rs, r.wf) (hn : n ≤ 100000) (hD : ∀ j, adF D n j → j < lo) :
  Calls Tryz.prog 21 #[.pointer (some ⟨g, 0, none⟩), .int .i64 i, .slice D n e] W fun r w' => r = .returned (.int .i64 (loadM Y i rs : Nat)) ∧ Quad nm l fl lo w' t u g kb X X2 (loadI Y i rs) (fun j => K j ∨ W.heap.size ≤ j) (cc + rs.length) ∧ Fr K W w' := by
 have h0 := h
 obtain ⟨⟨F, F2, F0, G, L, A, c, B, d, T, ct, P, k, h1, h2, h3, h4, h5, h6, h7, h8, h9⟩, hg⟩ := h
 have hY : Y.tiers = l := hg.tiers
 unfold loadM loadI
 by_cases hi : 0 ≤ i ∧ i < (Y.tiers.length : Int)
 ·rw [if_pos hi, if_pos hi]
  obtain ⟨k', rfl⟩ : ∃ k : Nat, i = k := ⟨i.toNat, by omega⟩
  have ek : ((k' : Int)).toNat = k' := by omega
  rw [ek]
  refine (rtload_in g lo F0 Y A c B d T ct P k' rs D n e W h4 (by omega) (by rw [hY]; have := p.five; omega) (by have := hg.now; unfold i64; omega) (by rw [hY]; exact p.wf) (fun y hy => by have := hg.len y hy; omega) hr hrw hn (fun j hj hf => by have := hD j hj; have := (h4.ge j hf).1; omega)).mono ?_
  rintro r w' ⟨rfl, q⟩
  exact ⟨rfl, Quad.doc h1 h2 h3 h4 h5 h6 h7 h8 h9 q (hg.load k' rs) (by omega)⟩
 ·rw [if_neg hi, if_neg hi]
  refine (rtload_out g lo F0 Y A c B d T ct P i D n e W h4 hi (by omega)).mono ?_
  rintro r w' ⟨rfl, rfl⟩
  exact ⟨rfl, (h0.more (by omega)).wide (fun _ h => .inl h), Fr.refl _ _⟩
theorem quad_rec (h : Quad nm l fl lo W t u g kb X X2 Y K cc) (f0 : Fr (fun _ => False) W W') (m : List RecV) (D : Option Addr) (n e : Nat) (ho : W'.ownsRow W.heap.size 100 7 (.slice D n e) n (rcells m)) (hn : n ≤ 100000) :
  Calls Tryz.prog 27 #[.pointer (some ⟨kb, 0, none⟩), .slice D n e] W' fun r w' => r = .returned (.tuple #[]) ∧ Quad nm l fl lo w' t u g kb X X2 Y (fun j => K j ∨ W.heap.size ≤ j) cc ∧ Fr K W' w' := by
 obtain ⟨⟨F, F2, F0, G, L, A, c, B, d, T, ct, P, k, h1, h2, h3, h4, h5, h6, h7, h8, h9⟩, hg⟩ := h
 have hlo := h4.lo_le
 have hsz := f0.size
 refine (bookG_add W' kb k G L (h6.fr0 f0) m D n e (own_le ho (Nat.zero_le _)) hn (fun j hj hr => by have h1 := h6.lt j (.inr hj); have h2 := (ho.lt j hr).1; omega)).mono ?_
 rintro r w' ⟨rfl, ⟨G', L', q1, q2, q3⟩, q4⟩
 have hQ := Quad.book (h1.fr0 f0) (h2.fr0 f0) h3 (h4.fr0 f0) (h5.fr0 f0) (h6.fr0 f0) h7 h8 h9 hg q1 q2 (fun j hj => ?_) q4
 ·exact ⟨rfl, hQ.1.wide (fun j hj => hj.imp id (fun h => by omega)), hQ.2⟩
 ·rcases q3 j hj with h | h | h
  ·exact .inl h
  ·exact .inr ⟨by have := (ho.lt j h).1; omega, fun hf => by have h1 := (h4.ge j hf).2; have h2 := (ho.lt j h).1; omega⟩
  ·exact .inr ⟨by omega, fun hf => by have := (h4.ge j hf).2; omega⟩
theorem quad_shows (p : PolOk nm l) (h : Quad nm l fl lo W t u g kb Y X2 Y K cc) (hc : cc ≤ 100000) :
  Calls Tryz.prog 29 #[.pointer (some ⟨t, 0, none⟩), .pointer (some ⟨g, 0, none⟩), .pointer (some ⟨kb, 0, none⟩)] W fun r w' => r = .returned (.bool true) ∧ Quad nm l fl lo w' t u g kb Y X2 Y (fun j => K j ∨ W.heap.size ≤ j) cc ∧ Fr K W w' := by
 obtain ⟨⟨F, F2, F0, G, L, A, c, B, d, T, ct, P, k, h1, h2, h3, h4, h5, h6, h7, h8, h9⟩, hg⟩ := h
 have hlo := h4.lo_le
 refine (showsG_any p h1 hc h4 h5 h6 h7).mono ?_
 rintro r w' ⟨rfl, ⟨k', G', L', q1, q2, q3⟩, q4⟩
 refine ⟨rfl, Quad.book h1 h2 h3 h4 h5 h6 h7 h8 h9 hg q1 q2 (fun j hj => ?_) q4⟩
 rcases q3 j hj with h | h
 ·exact .inl h
 ·exact .inr ⟨by omega, fun hf => by have := (h4.ge j hf).2; omega⟩
theorem Quad.tri (h : Quad nm l fl lo W t u g kb X X2 Y K cc) : Tri nm l fl lo W t g kb X Y K cc := by
 obtain ⟨⟨F, F2, F0, G, L, A, c, B, d, T, ct, P, k, h1, h2, h3, h4, h5, h6, h7, h8, h9⟩, hg⟩ := h
 exact ⟨⟨F, F0, G, L, A, c, B, d, T, ct, P, k, h1, h4, h5, h6, h7, h8, fun j hj => h9 j (by rcases hj with h | h; exact .inl h; exact .inr (.inr h))⟩, hg⟩
theorem Tri.fr0 (h : Tri nm l fl lo W t g kb X Y K cc) (f : Fr (fun _ => False) W W') : Tri nm l fl lo W' t g kb X Y K cc := by
 obtain ⟨⟨F, F0, G, L, A, c, B, d, T, ct, P, k, h1, h4, h5, h6, h7, h8, h9⟩, hg⟩ := h
 exact ⟨⟨F, F0, G, L, A, c, B, d, T, ct, P, k, h1.fr0 f, h4.fr0 f, h5.fr0 f, h6.fr0 f, h7, h8, h9⟩, hg⟩
theorem Tri.tight (h : Tri nm l fl lo W t g kb X Y K cc) : ∃ K2, Tri nm l fl lo W t g kb X Y K2 cc ∧ ∀ j, K2 j → lo ≤ j ∧ j < W.heap.size := by
 obtain ⟨⟨F, F0, G, L, A, c, B, d, T, ct, P, k, h1, h4, h5, h6, h7, h8, h9⟩, hg⟩ := h
 refine ⟨fun j => F j ∨ F0 j ∨ G j, ⟨⟨F, F0, G, L, A, c, B, d, T, ct, P, k, h1, h4, h5, h6, h7, h8, fun j hj => hj⟩, hg⟩, fun j hj => ?_⟩
 rcases hj with hj | hj | hj
 ·exact h1.ge j hj
 ·exact h4.ge j hj
 ·exact ⟨h7 j hj, h6.lt j (.inl hj)⟩
theorem Tri.one (h : Tri nm l fl lo W t g kb X Y K cc) : ∃ F, Tio nm l fl lo W t X F cc := by
 obtain ⟨⟨F, F0, G, L, A, c, B, d, T, ct, P, k, h1, _⟩, _⟩ := h
 exact ⟨F, h1⟩
theorem Tri.ref (h : Tri nm l fl lo W t g kb X Y K cc) : ∃ F0 A c B d T ct P, RTiersOn W g lo F0 Y A c B d T ct P := by
 obtain ⟨⟨F, F0, G, L, A, c, B, d, T, ct, P, k, h1, h4, _⟩, _⟩ := h
 exact ⟨F0, A, c, B, d, T, ct, P, h4⟩
theorem Tri.more {cc2 : Nat} (h : Tri nm l fl lo W t g kb X Y K cc) (hc : cc ≤ cc2) : Tri nm l fl lo W t g kb X Y K cc2 := by
 obtain ⟨⟨F, F0, G, L, A, c, B, d, T, ct, P, k, h1, h2⟩, hg⟩ := h
 exact ⟨⟨F, F0, G, L, A, c, B, d, T, ct, P, k, h1.more hc, h2⟩, hg.more hc⟩
theorem Tri.lo_le (h : Tri nm l fl lo W t g kb X Y K cc) : lo ≤ W.heap.size := by
 obtain ⟨⟨F, F0, G, L, A, c, B, d, T, ct, P, k, h1, h4, _⟩, _⟩ := h
 exact h4.lo_le
theorem tri_apart (h : Tri nm l fl lo W t g kb X Y K cc) :
  Calls Tryz.prog 30 #[.pointer (some ⟨kb, 0, none⟩)] W fun r w' => r = .returned (.bool true) ∧ Fr (fun j => lo ≤ j) W w' := by
 obtain ⟨⟨F, F0, G, L, A, c, B, d, T, ct, P, k, h1, h4, h5, h6, h7, h8, h9⟩, hg⟩ := h
 refine (bookG_apart W kb k G L h6).mono ?_
 rintro r w' ⟨rfl, f⟩
 exact ⟨rfl, f.mono (fun j hj => .inl (h8 j hj).1)⟩
theorem tri_copy (p : PolOk nm l) (h : Tri nm l fl lo W t g kb X Y K cc) (hfl : fl.length ≤ 1099511627776) :
  Calls Tryz.prog 14 #[.pointer (some ⟨t, 0, none⟩)] W fun r w' => (∃ u, r = .returned (.pointer (some ⟨u, 0, none⟩)) ∧ Quad nm l fl lo w' t u g kb X X Y (fun j => K j ∨ W.heap.size ≤ j) cc) ∧ Fr (fun _ => False) W w' := by
 obtain ⟨⟨F, F0, G, L, A, c, B, d, T, ct, P, k, h1, h4, h5, h6, h7, h8, h9⟩, hg⟩ := h
 refine (tio_copy p h1 hfl lo h4.lo_le).mono ?_
 rintro r w' ⟨⟨u', F', rfl, q1, q2⟩, q3⟩
 have f : Fr (fun _ => False) W w' := Fr.b0 q3
 refine ⟨⟨u', rfl, ⟨F, F', F0, G, L, A, c, B, d, T, ct, P, k, h1.fr0 f, q1, fun j a b => by have h1' := (h1.ge j a).2; have h2' := q2 j b; omega, h4.fr0 f, h5.fr0 f, h6.fr0 f, h7, h8, fun j hj => ?_⟩, hg⟩, f⟩
 rcases hj with hj | hj | hj | hj
 ·exact .inl (h9 j (.inl hj))
 ·exact .inr (q2 j hj)
 ·exact .inl (h9 j (.inr (.inl hj)))
 ·exact .inl (h9 j (.inr (.inr hj)))
theorem quad_copy (p : PolOk nm l) (h : Quad nm l fl lo W t u g kb X X2 Y K cc) (hfl : fl.length ≤ 1099511627776) :
  Calls Tryz.prog 14 #[.pointer (some ⟨t, 0, none⟩)] W fun r w' => (∃ u', r = .returned (.pointer (some ⟨u', 0, none⟩)) ∧ Quad nm l fl lo w' t u' g kb X X Y (fun j => K j ∨ W.heap.size ≤ j) cc) ∧ Fr (fun _ => False) W w' := by
 obtain ⟨⟨F, F2, F0, G, L, A, c, B, d, T, ct, P, k, h1, h2, h3, h4, h5, h6, h7, h8, h9⟩, hg⟩ := h
 refine (tio_copy p h1 hfl lo h4.lo_le).mono ?_
 rintro r w' ⟨⟨u', F', rfl, q1, q2⟩, q3⟩
 have f : Fr (fun _ => False) W w' := Fr.b0 q3
 refine ⟨⟨u', rfl, ⟨F, F', F0, G, L, A, c, B, d, T, ct, P, k, h1.fr0 f, q1, fun j a b => by have h1' := (h1.ge j a).2; have h2' := q2 j b; omega, h4.fr0 f, h5.fr0 f, h6.fr0 f, h7, h8, fun j hj => ?_⟩, hg⟩, f⟩
 rcases hj with hj | hj | hj | hj
 ·exact .inl (h9 j (.inl hj))
 ·exact .inr (q2 j hj)
 ·exact .inl (h9 j (.inr (.inr (.inl hj))))
 ·exact .inl (h9 j (.inr (.inr (.inr hj))))
end
end Go.Proofs.YtbblmmneeafhgaaGreat
