/- Tiers: what they are; walks of none, is, Len. -/
import Derived.Test.YtkfdgodngbinlaaGreatDoorReachC
import Derived.Test.YtkfdgodngbinlaaGreatDoorTabNeed
import Derived.Test.YtkfdgodngbinlaaGreatDoorBase
import Derived.Test.YtkfdgodngbinlaaGreatDoorOpenRec
namespace Go.Proofs.YtkfdgodngbinlaaGreatDoor
set_option linter.all false
open Go.RowKit

structure TiersX where
 now : Int
 name : ByteArray
 tiers : List TierV
 floors : List Int
 tabs : List (List RecV)
def ptrs (tb : List (Nat × Nat)) : List Value := tb.map fun p => .pointer (some ⟨p.1, 0, none⟩)
theorem ptrs_get {tb : List (Nat × Nat)} {k : Nat} {p : Nat × Nat} (h : tb[k]? = some p) : (ptrs tb)[k]? = some (.pointer (some ⟨p.1, 0, none⟩)) := by
 unfold ptrs; rw [List.getElem?_map, h]; rfl
structure TiersIn (w : World) (t base : Nat) (X : TiersX) (A : Option Addr) (c : Nat) (B : Option Addr) (d : Nat) (T : Option Addr) (ct : Nat) (tb : List (Nat × Nat)) : Prop where
 blk : Blk w t 42 #[.int .i64 X.now, .string X.name, .slice A X.tiers.length c, .slice B X.floors.length d, .slice T X.tiers.length ct]
 tiers : w.ownsRow base 109 4 (.slice A X.tiers.length c) X.tiers.length (tcells X.tiers)
 floors : w.ownsRow base 3 1 (.slice B X.floors.length d) X.floors.length (ints X.floors)
 row : w.ownsRow base 107 1 (.slice T X.tiers.length ct) X.tiers.length (ptrs tb)
 tlen : X.tabs.length = X.tiers.length
 tab : ∀ (i : Nat) (p : Nat × Nat) (x : TierV) (l : List RecV), tb[i]? = some p → X.tiers[i]? = some x → X.tabs[i]? = some l → TabAt w p.1 x.every p.2 l
 nodup : (tb.map Prod.snd).Nodup
 ge : ∀ p ∈ tb, base ≤ p.1 ∧ base ≤ p.2
 tge : base ≤ t
def TiersAt (w : World) (t base : Nat) (X : TiersX) : Prop := ∃ A c B d T ct tb, TiersIn w t base X A c B d T ct tb
theorem TiersIn.len {w : World} {t base : Nat} {X : TiersX} {A B T : Option Addr} {c d ct : Nat} {tb : List (Nat × Nat)} (h : TiersIn w t base X A c B d T ct tb) : tb.length = X.tiers.length := by
 have := h.row.1
 unfold ptrs at this
 rw [List.length_map] at this
 omega
theorem TiersIn.tabAt {w : World} {t base : Nat} {X : TiersX} {A B T : Option Addr} {c d ct : Nat} {tb : List (Nat × Nat)} (h : TiersIn w t base X A c B d T ct tb) {k : Nat} (hk : k < X.tiers.length) :
  ∃ g b x l, tb[k]? = some (g, b) ∧ X.tiers[k]? = some x ∧ X.tabs[k]? = some l ∧ TabAt w g x.every b l := by
 have h1 : k < tb.length := by rw [h.len]; exact hk
 have h2 : k < X.tabs.length := by rw [h.tlen]; exact hk
 exact ⟨tb[k].1, tb[k].2, X.tiers[k], X.tabs[k], List.getElem?_eq_getElem h1, List.getElem?_eq_getElem hk, List.getElem?_eq_getElem h2, h.tab k _ _ _ (List.getElem?_eq_getElem h1) (List.getElem?_eq_getElem hk) (List.getElem?_eq_getElem h2)⟩
theorem TiersIn.fr0 {w w' : World} {t base : Nat} {X : TiersX} {A B T : Option Addr} {c d ct : Nat} {tb : List (Nat × Nat)} (h : TiersIn w t base X A c B d T ct tb) (hf : Fr (fun _ => False) w w') : TiersIn w' t base X A c B d T ct tb :=
 ⟨h.blk.fr hf (fun h => h), own_fr0 h.tiers hf, own_fr0 h.floors hf, own_fr0 h.row hf, h.tlen, fun i p x l h1 h2 h3 => (h.tab i p x l h1 h2 h3).fr0 hf, h.nodup, h.ge, h.tge⟩
theorem TiersIn.set {w w' : World} {t base : Nat} {X : TiersX} {A B T : Option Addr} {c d ct : Nat} {tb : List (Nat × Nat)} (h : TiersIn w t base X A c B d T ct tb) {k g b : Nat} {x : TierV} {l' : List RecV} (hk : tb[k]? = some (g, b)) (hx : X.tiers[k]? = some x)
  (ht : TabAt w' g x.every b l') (hf : Fr (fun j => j = b) w w') : TiersIn w' t base { X with tabs := X.tabs.set k l' } A c B d T ct tb := by
 have hkl : k < X.tiers.length := (List.getElem?_eq_some_iff.1 hx).1
 obtain ⟨l, hl⟩ : ∃ l, X.tabs[k]? = some l := ⟨_, List.getElem?_eq_getElem (by rw [h.tlen]; exact hkl)⟩
 obtain ⟨es, ck, hbm⟩ := (h.tab k (g, b) x l hk hx hl).own.isMap
 simp only at hbm
 have hrow : ∀ {e : TypeId} {size n base' : Nat} {v : Value} {xs : List Value}, w.ownsRow base' e size v n xs → ∀ j, rowF v j → ¬ j = b := fun ho j hj e => by
  obtain ⟨cs', fz, hc⟩ := own_ty ho hj
  rw [e, hbm] at hc
  cases hc
 have hblk : ∀ {g' : Nat} {ty : TypeId} {cs : Array Value}, Blk w g' ty cs → g' ≠ b := fun {g' ty cs} hb e => by
  have hb0 : w.heap[g']? = some (Obj.cells cs ty (0, 0)) := hb
  rw [e, hbm] at hb0
  cases hb0
 refine ⟨h.blk.fr hf (hblk h.blk), own_fr h.tiers hf (hrow h.tiers), own_fr h.floors hf (hrow h.floors), own_fr h.row hf (hrow h.row), by simp [h.tlen], fun i p y l1 h1 h2 h3 => ?_, h.nodup, h.ge, h.tge⟩
 by_cases e : i = k
 ·subst e
  rw [hk] at h1
  cases h1
  rw [hx] at h2
  cases h2
  rw [List.getElem?_set_self (by rw [h.tlen]; exact hkl)] at h3
  cases h3
  exact ht
 ·rw [List.getElem?_set_ne (fun e' => e e'.symm)] at h3
  have hT := h.tab i p y l1 h1 h2 h3
  refine hT.fr hf (hblk hT.blk) (fun e' => ?_)
  have hi : (tb.map Prod.snd)[i]? = some b := by rw [List.getElem?_map, h1]; simp [e']
  have hk2 : (tb.map Prod.snd)[k]? = some b := by rw [List.getElem?_map, hk]; rfl
  have hil := (List.getElem?_eq_some_iff.1 hi).1
  exact e ((List.getElem?_inj hil h.nodup).1 (hi.trans hk2.symm))

theorem tnone_any (t base : Nat) (X : TiersX) (w : World) (h : TiersAt w t base X) (hn : 0 < X.tiers.length) :
  Calls Tryz.prog 84 #[.pointer (some ⟨t, 0, none⟩)] w fun r w' => r = .returned (.bool false) ∧ w = w' := by
 obtain ⟨A, c, B, d, T, ct, tb, hi⟩ := h
 have c4 := hi.blk.cell 4
 simp only [List.getElem?_toArray, List.getElem?_cons_succ, List.getElem?_cons_zero] at c4
 have hne : ((X.tiers.length : Int) == 0) = false := by simp; intro e; rw [e] at hn; cases hn
 have hne2 : ¬ X.tiers.length = 0 := by omega
 obtain ⟨n, hn2⟩ : ∃ n, X.tiers.length = n := ⟨_, rfl⟩
 rw [hn2] at c4 hne hne2
 have hnd : decide ((n : Int) = 0) = false := decide_eq_false (by omega)
 clear hi hn2
 go_enter Tryz.func84, Tryz.ntmps84
 go_wp2_with fail
 go_ret
 exact ⟨by first | rfl | simp [*], rfl⟩
end Go.Proofs.YtkfdgodngbinlaaGreatDoor
namespace Go.Proofs.YtkfdgodngbinlaaGreatDoor
set_option linter.all false
open Go.RowKit

theorem wrap_id {x : Int} (h : -9223372036854775808 ≤ x ∧ x ≤ 9223372036854775807) : IntKind.i64.wrap x = x := by simp [IntKind.wrap, IntKind.signed, IntKind.bits]; omega
theorem sum_take_snoc {L : List Nat} {k x : Nat} (h : L[k]? = some x) : (L.take (k + 1)).sum = (L.take k).sum + x := by
 rw [take_snoc h, List.sum_append]; simp
theorem sum_take_le {L : List Nat} {c : Nat} (h : ∀ x ∈ L, x ≤ c) (k : Nat) : (L.take k).sum ≤ k * c := by
 induction k with
 | zero => simp
 | succ k ih =>
  by_cases hk : k < L.length
  ·rw [sum_take_snoc (List.getElem?_eq_getElem hk), Nat.add_mul]
   have := h _ (List.getElem_mem hk)
   omega
  ·rw [List.take_of_length_le (by omega)]
   rw [List.take_of_length_le (by omega)] at ih
   rw [Nat.add_mul]; omega

def needsX (X : TiersX) : List Nat := List.zipWith (fun x l => needV (max x.shards 1) l) X.tiers X.tabs
def needX (X : TiersX) : Nat := (needsX X).sum
theorem needV_le (M : Int) (hM : M ≤ 8) (l : List RecV) : needV M l ≤ 8 * (l.length + 2) := by
 have := partS_le M hM l (fun _ => false)
 rwa [partS_end (fun _ => rfl)] at this

set_option maxRecDepth 100000 in
set_option maxHeartbeats 4000000 in
theorem tneed_any (t base : Nat) (X : TiersX) (w : World) (h : TiersAt w t base X) (h0 : 0 < X.tiers.length) (hn : X.tiers.length ≤ 1000) (hl : ∀ l ∈ X.tabs, l.length ≤ 1000000) (hsh : ∀ x ∈ X.tiers, x.shards ≤ 8) :
  Calls Tryz.prog 49 #[.pointer (some ⟨t, 0, none⟩)] w fun r w' => r = .returned (.int .i64 (needX X : Nat)) ∧ Below w.heap.size w w' := by
 have HN := Lib.hid (tnone_any t base X w h h0)
 obtain ⟨A, c, B, d, T, ct, tb, hi⟩ := h
 have c2 := hi.blk.cell 2
 have c4 := hi.blk.cell 4
 simp only [List.getElem?_toArray, List.getElem?_cons_succ, List.getElem?_cons_zero] at c2 c4
 have Hi := Lib.hid hi
 have Hrow := Lib.hid (own_any hi.row).2.2.1
 have Hti := Lib.hid (own_any hi.tiers).2.2.1
 have Hle := Lib.hid (fun k => sum_take_le (L := needsX X) (c := 9000000) (fun x hx => by
  unfold needsX at hx
  obtain ⟨i, hi1, rfl⟩ := List.mem_iff_getElem.1 hx
  have hi2 : i < X.tiers.length ∧ i < X.tabs.length := by rw [List.length_zipWith] at hi1; omega
  rw [List.getElem_zipWith]
  have h0' := hsh _ (List.getElem_mem hi2.1)
  have h1 := needV_le (max (X.tiers[i]'hi2.1).shards 1) (by omega) (X.tabs[i]'hi2.2)
  have h2 := hl _ (List.getElem_mem hi2.2)
  omega) k)
 have Htl := Lib.hid hi.tlen
 have Hl := Lib.hid hl
 have Hsh := Lib.hid hsh
 clear hi hl hsh
 go_enter Tryz.func49, Tryz.ntmps49
 go_wp2_with fail
 refine HN.out.mono ?_
 rintro r w' ⟨rfl, rfl⟩
 go_wp2_with fail
 clear c2 c4
 go_loopw [3, 13] (fun s i wr => ∃ k : Nat, k ≤ X.tiers.length ∧ i = .int .i64 k ∧ s = .int .i64 (((needsX X).take k).sum : Nat) ∧ Fr (fun _ => False) w wr) (fun _ i _ => X.tiers.length - (intOf i).toNat)
 case atStart => exact ⟨0, Nat.zero_le _, rfl, rfl, Fr.refl _ _⟩
 case round =>
  obtain ⟨k, hk, rfl, rfl, hf⟩ := hrel
  have c2 := (Hi.out.blk.fr hf (fun h => h)).cell 2
  simp only [List.getElem?_toArray, List.getElem?_cons_succ, List.getElem?_cons_zero] at c2
  by_cases hlt : k < X.tiers.length
  ·obtain ⟨g, b, x, l, h1, h2, h3, hT⟩ := (Hi.out.fr0 hf).tabAt hlt
   obtain ⟨ad, e, hc⟩ := (Hrow.out.fr0 hf).2 (by omega)
   subst e
   have p0 := hc k _ (ptrs_get h1)
   obtain ⟨td, y, e, hy, e0, e1, e2, e3⟩ := (Hti.out.fr0 hf).tier hlt
   subst e
   rw [h2] at hy
   cases hy
   have hxs := Hsh.out x (mem_of_get h2)
   have hll := Hl.out l (mem_of_get h3)
   have HL := Lib.hid (tabneed_any g x.every b l x.shards hxs wr hT (by omega))
   have hs := sum_take_snoc (L := needsX X) (k := k) (x := needV (max x.shards 1) l) (by unfold needsX; rw [List.getElem?_zipWith, h2, h3])
   have hs2 := Hle.out (k + 1)
   rw [hs] at hs2
   obtain ⟨sv, hsv⟩ : ∃ sv, ((needsX X).take k).sum = sv := ⟨_, rfl⟩
   obtain ⟨nv, hnv⟩ : ∃ nv, needV (max x.shards 1) l = nv := ⟨_, rfl⟩
   rw [hsv, hnv] at hs hs2
   rw [hnv] at HL
   rw [hsv]
   have Hs := Lib.hid hs
   have hw := wrap_id (x := (sv : Int) + (nv : Int)) (by omega)
   have kn : 0 ≤ (k : Int) ∧ (k : Int) < (X.tiers.length : Int) := by omega
   have Hf := Lib.hid hf
   clear hc hT h1 h2 h3 hs hsv hnv hf e0 e1 e2
   go_wp2_with fail
   refine HL.out.mono ?_
   rintro r w' ⟨rfl, b5⟩
   have F5 := Lib.hid (Hf.out.trans (Fr.b0 b5) (fun _ h => h.elim))
   clear b5 c2 e3 p0
   go_wp2_with fail
   go_roundw
   case rel => exact ⟨k + 1, by omega, by go_num, by rw [Hs.out]; push_cast; rfl, F5.out⟩
   case measure => simp [intOf]; omega
  ·have hkl : k = X.tiers.length := by omega
   have hfin : ((needsX X).take k).sum = needX X := by
    unfold needX
    rw [List.take_of_length_le (by unfold needsX; rw [List.length_zipWith]; omega)]
   rw [hfin]
   have Hf := Lib.hid hf
   clear hfin hf
   go_wp2_with fail
   go_ret
   exact ⟨rfl, Hf.out.below (fun _ h => h.elim)⟩
end Go.Proofs.YtkfdgodngbinlaaGreatDoor
namespace Go.Proofs.YtkfdgodngbinlaaGreatDoor
set_option linter.all false
open Go.RowKit

theorem blk_ne_ty {w : World} {g g' : Nat} {ty ty' : TypeId} {cs cs' : Array Value} (h : Blk w g ty cs) (h' : Blk w g' ty' cs') (hne : ty ≠ ty') : g ≠ g' := fun e => by
 have h1 : w.heap[g]? = some (Obj.cells cs ty (0, 0)) := h
 have h2 : w.heap[g']? = some (Obj.cells cs' ty' (0, 0)) := h'
 rw [e, h2] at h1
 injection h1 with h1
 injection h1 with _ h1 _
 exact hne h1.symm
def tM (tb : List (Nat × Nat)) : Nat → Prop := fun j => ∃ p ∈ tb, j = p.2
def tF (t : Nat) (tb : List (Nat × Nat)) : Nat → Prop := fun j => j = t ∨ tM tb j
def TiersOn (w : World) (t base : Nat) (X : TiersX) (F : Nat → Prop) : Prop := ∃ A c B d T ct tb, TiersIn w t base X A c B d T ct tb ∧ F = tF t tb
theorem TiersOn.at_ {w : World} {t base : Nat} {X : TiersX} {F : Nat → Prop} (h : TiersOn w t base X F) : TiersAt w t base X := by
 obtain ⟨A, c, B, d, T, ct, tb, hi, _⟩ := h
 exact ⟨A, c, B, d, T, ct, tb, hi⟩
theorem TiersAt.on {w : World} {t base : Nat} {X : TiersX} (h : TiersAt w t base X) : ∃ F, TiersOn w t base X F := by
 obtain ⟨A, c, B, d, T, ct, tb, hi⟩ := h
 exact ⟨_, A, c, B, d, T, ct, tb, hi, rfl⟩
theorem TiersOn.fr0 {w w' : World} {t base : Nat} {X : TiersX} {F : Nat → Prop} (h : TiersOn w t base X F) (hf : Fr (fun _ => False) w w') : TiersOn w' t base X F := by
 obtain ⟨A, c, B, d, T, ct, tb, hi, e⟩ := h
 exact ⟨A, c, B, d, T, ct, tb, hi.fr0 hf, e⟩
theorem TiersAt.fr0 {w w' : World} {t base : Nat} {X : TiersX} (h : TiersAt w t base X) (hf : Fr (fun _ => False) w w') : TiersAt w' t base X := by
 obtain ⟨F, h⟩ := h.on
 exact (h.fr0 hf).at_
theorem TiersIn.map_ {w : World} {t base : Nat} {X : TiersX} {A B T : Option Addr} {c d ct : Nat} {tb : List (Nat × Nat)} (h : TiersIn w t base X A c B d T ct tb) {j : Nat} (hj : tM tb j) : base ≤ j ∧ j < w.heap.size ∧ ∃ es ck, w.heap[j]? = some (.map es ck) := by
 obtain ⟨p, hp, rfl⟩ := hj
 obtain ⟨k, hk⟩ := List.getElem?_of_mem hp
 have hkl : k < X.tiers.length := by have := (List.getElem?_eq_some_iff.1 hk).1; rw [h.len] at this; exact this
 obtain ⟨g, b, x, l, h1, h2, h3, hT⟩ := h.tabAt hkl
 rw [hk] at h1
 cases h1
 exact ⟨(h.ge _ hp).2, hT.own.lt, hT.own.isMap⟩
theorem TiersOn.ge {w : World} {t base : Nat} {X : TiersX} {F : Nat → Prop} (h : TiersOn w t base X F) : ∀ j, F j → base ≤ j ∧ j < w.heap.size := by
 obtain ⟨A, c, B, d, T, ct, tb, hi, rfl⟩ := h
 rintro j (rfl | hj)
 ·exact ⟨hi.tge, hi.blk.lt⟩
 ·exact ⟨(hi.map_ hj).1, (hi.map_ hj).2.1⟩
theorem TiersOn.fr {w w' : World} {t base : Nat} {X : TiersX} {F G : Nat → Prop} (h : TiersOn w t base X F) (hf : Fr G w w') (hG : ∀ j, G j → (∃ es ck, w.heap[j]? = some (.map es ck)) ∨ (∃ cs fz, w.heap[j]? = some (.cells cs 42 fz))) (hd : ∀ j, F j → ¬ G j) : TiersOn w' t base X F := by
 obtain ⟨A, c, B, d, T, ct, tb, hi, rfl⟩ := h
 have hrow : ∀ {e : TypeId} {size n base' : Nat} {v : Value} {xs : List Value}, w.ownsRow base' e size v n xs → e ≠ 42 → ∀ j, rowF v j → ¬ G j := fun ho hne j hj hg => by
  obtain ⟨cs', fz', hc⟩ := own_ty ho hj
  rcases hG j hg with ⟨es, ck, hbm⟩ | ⟨cs, fz, hb⟩
  ·rw [hbm] at hc; cases hc
  ·rw [hb] at hc
   injection hc with hc
   injection hc with _ hc _
   exact hne hc.symm
 have hblk : ∀ {g' : Nat} {ty : TypeId} {cs : Array Value}, Blk w g' ty cs → ty ≠ 42 → ¬ G g' := fun {g' ty cs} hB hne hg => by
  have hb0 : w.heap[g']? = some (Obj.cells cs ty (0, 0)) := hB
  rcases hG g' hg with ⟨es, ck, hbm⟩ | ⟨cs, fz, hb⟩
  ·rw [hbm] at hb0; cases hb0
  ·rw [hb] at hb0
   injection hb0 with hc
   injection hc with _ hc _
   exact hne hc.symm
 refine ⟨A, c, B, d, T, ct, tb, ⟨hi.blk.fr hf (hd t (.inl rfl)), own_fr hi.tiers hf (hrow hi.tiers (by decide)), own_fr hi.floors hf (hrow hi.floors (by decide)), own_fr hi.row hf (hrow hi.row (by decide)), hi.tlen, fun i p x l h1 h2 h3 => ?_, hi.nodup, hi.ge, hi.tge⟩, rfl⟩
 have hT := hi.tab i p x l h1 h2 h3
 exact hT.fr hf (hblk hT.blk (by decide)) (hd p.2 (.inr ⟨p, List.mem_of_getElem? h1, rfl⟩))
theorem TiersOn.kind {w : World} {t base : Nat} {X : TiersX} {F : Nat → Prop} (h : TiersOn w t base X F) : ∀ j, F j → (∃ es ck, w.heap[j]? = some (.map es ck)) ∨ (∃ cs fz, w.heap[j]? = some (.cells cs 42 fz)) := by
 obtain ⟨A, c, B, d, T, ct, tb, hi, rfl⟩ := h
 rintro j (rfl | hj)
 ·exact .inr ⟨_, _, hi.blk⟩
 ·exact .inl (hi.map_ hj).2.2
theorem TiersOn.apart {w w' : World} {t base t2 base2 : Nat} {X Y : TiersX} {F F2 G : Nat → Prop} (h : TiersOn w t base X F) (h2 : TiersOn w t2 base2 Y F2) (hf : Fr G w w') (hs : ∀ j, G j → F2 j) (hd : ∀ j, F j → ¬ F2 j) : TiersOn w' t base X F :=
 h.fr hf (fun j hj => h2.kind j (hs j hj)) (fun j hj hg => hd j hj (hs j hg))
end Go.Proofs.YtkfdgodngbinlaaGreatDoor
namespace Go.Proofs.YtkfdgodngbinlaaGreatDoor
set_option linter.all false
open Go.RowKit

theorem TiersIn.tick {w : World} {t base : Nat} {X : TiersX} {A B T : Option Addr} {c d ct : Nat} {tb : List (Nat × Nat)} (h : TiersIn w t base X A c B d T ct tb) (N : Int) :
  TiersIn (w.setCell ⟨t, 0, none⟩ (.int .i64 N)) t base { X with now := N } A c B d T ct tb := by
 have hf : Fr (fun j => j = t) w (w.setCell ⟨t, 0, none⟩ (.int .i64 N)) := (Fr.refl (fun j => j = t) w).setCell (p := ⟨t, 0, none⟩) (.inl rfl) _
 refine ⟨h.blk.set_ 0 _, own_fr h.tiers hf (fun j hj e => own_blk_ne h.tiers h.blk (by decide) (by rw [← e]; exact hj)), own_fr h.floors hf (fun j hj e => own_blk_ne h.floors h.blk (by decide) (by rw [← e]; exact hj)), own_fr h.row hf (fun j hj e => own_blk_ne h.row h.blk (by decide) (by rw [← e]; exact hj)), h.tlen, fun i p x l h1 h2 h3 => ?_, h.nodup, h.ge, h.tge⟩
 have hT := h.tab i p x l h1 h2 h3
 obtain ⟨es, ck, hbm⟩ := hT.own.isMap
 refine hT.fr hf (blk_ne_ty hT.blk h.blk (by decide)) (fun e => ?_)
 have hb0 : w.heap[t]? = some (Obj.cells _ _ (0, 0)) := h.blk
 rw [← e, hbm] at hb0
 cases hb0

def dropL (N : Int) (X : TiersX) : List (List RecV) := (List.range X.tiers.length).map fun k => keepT (startBelow (fromV N X.tiers X.floors k)) (X.tabs.getD k [])
def tickE (X : TiersX) (n : Int) : Int := if n < 0 then 1 else if 1099511627776 - X.now < n then 26 else 0
def tickX (X : TiersX) (n : Int) : TiersX := if tickE X n = 0 then { X with now := X.now + n, tabs := dropL (X.now + n) X } else X
theorem mix_step {α : Type} {D L : List α} {k : Nat} {y : α} (hk : k < L.length) (hy : D[k]? = some y) (hkd : k ≤ D.length) : (D.take k ++ L.drop k).set k y = D.take (k + 1) ++ L.drop (k + 1) := by
 have h1 : (D.take k).length = k := by rw [List.length_take]; omega
 rw [List.set_append_right _ _ (by omega), h1, Nat.sub_self, List.drop_eq_getElem_cons hk, List.set_cons_zero, take_snoc hy, List.append_assoc]
 rfl

set_option maxRecDepth 100000 in
set_option maxHeartbeats 8000000 in
theorem ttick_any (t base : Nat) (X : TiersX) (F : Nat → Prop) (n : Int) (hn64 : i64 n) (w : World) (h : TiersOn w t base X F) (h0 : 0 < X.tiers.length) (hn : X.tiers.length ≤ 1000) (hl : ∀ l ∈ X.tabs, l.length ≤ 1000000) (hnow : 0 ≤ X.now ∧ X.now ≤ 1099511627776) (hwf : ∀ x ∈ X.tiers, x.wf) :
  Calls Tryz.prog 44 #[.pointer (some ⟨t, 0, none⟩), .int .i64 n] w fun r w' => r = .returned (.int .i64 (tickE X n)) ∧ TiersOn w' t base (tickX X n) F ∧ Fr F w w' := by
 have HN := Lib.hid (tnone_any t base X w h.at_ h0)
 have HT := Lib.hid h
 obtain ⟨A, c, B, d, T, ct, tb, hi, rfl⟩ := h
 have c0 := hi.blk.cell 0
 have z0 := hi.blk.frozen 0
 simp only [List.getElem?_toArray, List.getElem?_cons_succ, List.getElem?_cons_zero] at c0
 have Hi := Lib.hid hi
 clear hi
 unfold i64 at hn64
 unfold tickX tickE
 have hw1 := wrap_id (x := 1099511627776 - X.now) (by omega)
 by_cases hneg : n < 0
 ·have hnd : decide (n < 0) = true := decide_eq_true hneg
  rw [if_pos hneg, if_neg (by omega)]
  go_enter Tryz.func44, Tryz.ntmps44
  go_wp2_with fail
  refine HN.out.mono ?_
  rintro r w' ⟨rfl, rfl⟩
  go_wp2_with fail
  go_ret
  exact ⟨rfl, HT.out, Fr.refl _ _⟩
 have hnd : decide (n < 0) = false := decide_eq_false hneg
 rw [if_neg hneg]
 by_cases hbig : 1099511627776 - X.now < n
 ·have hbd : decide (1099511627776 - X.now < n) = true := decide_eq_true hbig
  rw [if_pos hbig, if_neg (by omega)]
  go_enter Tryz.func44, Tryz.ntmps44
  go_wp2_with fail
  refine HN.out.mono ?_
  rintro r w' ⟨rfl, rfl⟩
  go_wp2_with fail
  go_ret
  exact ⟨rfl, HT.out, Fr.refl _ _⟩
 have hbd : decide (1099511627776 - X.now < n) = false := decide_eq_false hbig
 rw [if_neg hbig, if_pos rfl]
 have hw2 := wrap_id (x := X.now + n) (by omega)
 obtain ⟨N, hN⟩ : ∃ N, X.now + n = N := ⟨_, rfl⟩
 have hN64 : i64 N := by unfold i64; omega
 rw [hN] at hw2 ⊢
 obtain ⟨DL, hDL⟩ : ∃ DL, dropL N X = DL := ⟨_, rfl⟩
 have HDg : Hid (∀ k, k < X.tiers.length → DL[k]? = some (keepT (startBelow (fromV N X.tiers X.floors k)) (X.tabs.getD k []))) := fun k hk => by
  rw [← hDL]; unfold dropL
  rw [List.getElem?_map, List.getElem?_range hk]; rfl
 have HDl : Hid (DL.length = X.tiers.length) := by show _ = _; rw [← hDL]; unfold dropL; simp
 rw [hDL]
 have Hi2 := Lib.hid (Hi.out.tick N)
 have Hwf := Lib.hid hwf
 have Hl := Lib.hid hl
 have Htl := Lib.hid Hi.out.tlen
 have htb := Hi.out.tge
 clear hDL hwf hl
 go_enter Tryz.func44, Tryz.ntmps44
 go_wp2_with fail
 refine HN.out.mono ?_
 rintro r w' ⟨rfl, rfl⟩
 have c4 := Hi2.out.blk.cell 4
 simp only [List.getElem?_toArray, List.getElem?_cons_succ, List.getElem?_cons_zero] at c4
 go_wp2_with fail
 obtain ⟨W1, hW1⟩ : ∃ W1, W1 = w.setCell ⟨t, 0, none⟩ (.int .i64 N) := ⟨_, rfl⟩
 have F1 : Hid (Fr (tF t tb) w W1) := by show Fr _ _ _; rw [hW1]; exact (Fr.refl (tF t tb) w).setCell (p := ⟨t, 0, none⟩) (.inl (.inl rfl)) _
 rw [← hW1] at Hi2 ⊢
 clear c0 z0 c4 hW1
 go_loopw [38] (fun i wr => ∃ k : Nat, k ≤ X.tiers.length ∧ i = .int .i64 k ∧ TiersIn wr t base { X with now := N, tabs := DL.take k ++ X.tabs.drop k } A c B d T ct tb ∧ Fr (tF t tb) w wr) (fun i _ => X.tiers.length - (intOf i).toNat)
 case atStart => exact ⟨0, Nat.zero_le _, rfl, Hi2.out, F1.out⟩
 case round =>
  obtain ⟨k, hk, rfl, hik, hf⟩ := hrel
  have Hik := Lib.hid hik
  have Hf := Lib.hid hf
  clear hik hf
  by_cases hlt : k < X.tiers.length
  ·obtain ⟨g, b, x, l, h1, h2, h3, hT⟩ := Hik.out.tabAt (k := k) hlt
   obtain ⟨ad, e, hc⟩ := (own_any Hik.out.row).2.2.1.2 (show 0 < X.tiers.length by omega)
   subst e
   have p0 := hc k _ (ptrs_get h1)
   have a0 := Hik.out.blk.cell 0
   have a1 := Hik.out.blk.cell 1
   have a2 := Hik.out.blk.cell 2
   have a3 := Hik.out.blk.cell 3
   simp only [List.getElem?_toArray, List.getElem?_cons_succ, List.getElem?_cons_zero] at a0 a1 a2 a3
   have h2' : X.tiers[k]? = some x := h2
   have h3' : X.tabs[k]? = some l := by
    have h3'' : (DL.take k ++ X.tabs.drop k)[k]? = some l := h3
    rw [List.getElem?_append_right (by rw [List.length_take]; omega), List.length_take, Nat.min_eq_left (by rw [HDl.out]; omega), Nat.sub_self, List.getElem?_drop] at h3''
    simpa using h3''
   have hll := Hl.out l (mem_of_get h3')
   have HF := Lib.hid (rfrom_any N hN64 X.name X.tiers A X.tiers.length c X.floors B X.floors.length d k wr (own_any Hik.out.tiers).2.2.1 (own_any Hik.out.floors).2.2.1 Hwf.out hlt (by omega))
   obtain ⟨fv, hfv⟩ : ∃ fv, fromV N X.tiers X.floors k = fv := ⟨_, rfl⟩
   have hget := HDg.out k hlt
   rw [hfv] at HF hget
   rw [show X.tabs.getD k [] = l by rw [List.getD_eq_getElem?_getD, h3']; rfl] at hget
   have Hget := Lib.hid hget
   have H1 := Lib.hid h1
   have H2 := Lib.hid h2'
   have H3 := Lib.hid h3'
   have HTk := Lib.hid hT
   have kn : 0 ≤ (k : Int) ∧ (k : Int) < (X.tiers.length : Int) := by omega
   unfold reachV at HF
   clear hc hT h1 h2 h3 h2' h3' hfv hget
   go_wp2_with fail
   refine HF.out.mono ?_
   rintro r w5 ⟨rfl, b5⟩
   have F5 := Lib.hid (Fr.b0 b5)
   have Hi5 := Lib.hid (Hik.out.fr0 F5.out)
   have HD := Lib.hid (tabdrop_any g x.every b l fv w5 (HTk.out.fr0 F5.out) (by omega))
   clear b5 a0 a1 a2 a3 p0
   go_wp2_with fail
   refine HD.out.mono ?_
   rintro r w6 ⟨rfl, t6, f6⟩
   have Hi6 := Lib.hid (Hi5.out.set (k := k) H1.out H2.out t6 f6)
   have F6 := Lib.hid ((Hf.out.trans F5.out (fun _ h => h.elim)).trans f6 (fun i hi => .inl (.inr ⟨_, List.mem_of_getElem? H1.out, hi⟩)))
   clear t6 f6
   go_wp2_with fail
   go_roundw
   case rel =>
    refine ⟨k + 1, by omega, by go_num, ?_, F6.out⟩
    have h := Hi6.out
    have e := mix_step (D := DL) (L := X.tabs) (k := k) (by rw [Htl.out]; exact hlt) Hget.out (by rw [HDl.out]; omega)
    replace h : TiersIn w6 t base { X with now := N, tabs := (DL.take k ++ X.tabs.drop k).set k _ } A c B d (some ad) ct tb := h
    rw [e] at h
    exact h
   case measure => simp [intOf]; omega
  ·have hkl : k = X.tiers.length := by omega
   have h := Hik.out
   rw [hkl, List.take_of_length_le (by rw [HDl.out]; exact Nat.le_refl _), List.drop_eq_nil_of_le (by rw [Htl.out]; exact Nat.le_refl _), List.append_nil] at h
   have Hfin := Lib.hid h
   clear h
   go_wp2_with fail
   go_ret
   exact ⟨rfl, ⟨A, c, B, d, T, ct, tb, Hfin.out, rfl⟩, Hf.out⟩
end Go.Proofs.YtkfdgodngbinlaaGreatDoor
namespace Go.Proofs.YtkfdgodngbinlaaGreatDoor
set_option linter.all false
open Go.RowKit

theorem tis_any (t base : Nat) (X : TiersX) (i : Int) (w : World) (h : TiersAt w t base X) (h0 : 0 < X.tiers.length) :
  Calls Tryz.prog 145 #[.pointer (some ⟨t, 0, none⟩), .int .i64 i] w fun r w' => r = .returned (.bool (decide (0 ≤ i) && decide (i < (X.tiers.length : Int)))) ∧ w = w' := by
 have HN := Lib.hid (tnone_any t base X w h h0)
 obtain ⟨A, c, B, d, T, ct, tb, hi⟩ := h
 have c4 := hi.blk.cell 4
 simp only [List.getElem?_toArray, List.getElem?_cons_succ, List.getElem?_cons_zero] at c4
 clear hi
 by_cases hi0 : 0 ≤ i
 ·have hd : decide (0 ≤ i) = true := decide_eq_true hi0
  go_enter Tryz.func145, Tryz.ntmps145
  go_wp2_with fail
  refine HN.out.mono ?_
  rintro r w' ⟨rfl, rfl⟩
  go_wp2_with fail
  go_ret
  exact ⟨by first | rfl | simp [hd], rfl⟩
 ·have hd : decide (0 ≤ i) = false := decide_eq_false hi0
  go_enter Tryz.func145, Tryz.ntmps145
  go_wp2_with fail
  refine HN.out.mono ?_
  rintro r w' ⟨rfl, rfl⟩
  go_wp2_with fail
  go_ret
  exact ⟨by first | rfl | simp [hd], rfl⟩
theorem ttable_in (t base : Nat) (X : TiersX) (k : Nat) (x : TierV) (l : List RecV) (w : World) (h : TiersAt w t base X) (hx : X.tiers[k]? = some x) (hl : X.tabs[k]? = some l) :
  Calls Tryz.prog 101 #[.pointer (some ⟨t, 0, none⟩), .int .i64 k] w fun r w' => (∃ g' b', r = .returned (.pointer (some ⟨g', 0, none⟩)) ∧ TabAt w' g' x.every b' l ∧ w.heap.size ≤ g' ∧ w.heap.size ≤ b') ∧ Below w.heap.size w w' := by
 have hk : k < X.tiers.length := (List.getElem?_eq_some_iff.1 hx).1
 have H := Lib.hid (tis_any t base X k w h (by omega))
 have hib : (decide (0 ≤ (k : Int)) && decide ((k : Int) < (X.tiers.length : Int))) = true := by simp; omega
 rw [hib] at H
 obtain ⟨A, c, B, d, T, ct, tb, hi⟩ := h
 obtain ⟨g, b, y, l', h1, h2, h3, hT⟩ := hi.tabAt hk
 rw [hx] at h2
 cases h2
 rw [hl] at h3
 cases h3
 obtain ⟨ad, e, hc⟩ := (own_any hi.row).2.2.1.2 (show 0 < X.tiers.length by omega)
 subst e
 have p0 := hc k _ (ptrs_get h1)
 have c4 := hi.blk.cell 4
 simp only [List.getElem?_toArray, List.getElem?_cons_succ, List.getElem?_cons_zero] at c4
 have HC := Lib.hid (tabcopy_any g x.every b l w hT)
 have kn : 0 ≤ (k : Int) ∧ (k : Int) < (X.tiers.length : Int) := by omega
 clear hc hi hT h1
 go_enter Tryz.func101, Tryz.ntmps101
 go_wp2_with fail
 refine H.out.mono ?_
 rintro r w' ⟨rfl, rfl⟩
 go_wp2_with fail
 refine HC.out.mono ?_
 rintro r w5 ⟨⟨g', b', rfl, hr⟩, b5⟩
 have Hr := Lib.hid hr
 have B5 := Lib.hid b5
 clear hr b5
 go_wp2_with fail
 go_ret
 exact ⟨⟨g', b', rfl, Hr.out⟩, B5.out⟩
theorem trecords_in (t base : Nat) (X : TiersX) (k : Nat) (x : TierV) (l : List RecV) (w : World) (h : TiersAt w t base X) (hx : X.tiers[k]? = some x) (hl : X.tabs[k]? = some l) (hll : l.length ≤ 1000000000) :
  Calls Tryz.prog 67 #[.pointer (some ⟨t, 0, none⟩), .int .i64 k] w fun r w' => (∃ A c, r = .returned (.slice A l.length c) ∧ w'.ownsRow w.heap.size 115 7 (.slice A l.length c) l.length (rcells l)) ∧ Below w.heap.size w w' := by
 have H := Lib.hid (ttable_in t base X k x l w h hx hl)
 go_enter Tryz.func67, Tryz.ntmps67
 go_wp2_with fail
 refine H.out.mono ?_
 rintro r w5 ⟨⟨g', b', rfl, hT, _, _⟩, b5⟩
 have HA := Lib.hid (taball_any g' x.every b' l w5 hT hll)
 have B5 := Lib.hid b5
 have hs := b5.size
 clear hT b5
 go_wp2_with fail
 refine HA.out.mono ?_
 rintro r w6 ⟨⟨A, c, rfl, ho⟩, b6⟩
 have Ho := Lib.hid (own_le ho hs)
 have B6 := Lib.hid (B5.out.trans (b6.mono hs))
 clear ho b6
 go_wp2_with fail
 go_ret
 exact ⟨⟨A, c, rfl, Ho.out⟩, B6.out⟩
end Go.Proofs.YtkfdgodngbinlaaGreatDoor
namespace Go.Proofs.YtkfdgodngbinlaaGreatDoor
set_option linter.all false
open Go.RowKit

end Go.Proofs.YtkfdgodngbinlaaGreatDoor
namespace Go.Proofs.YtkfdgodngbinlaaGreatDoor
set_option linter.all false
open Go.RowKit

section
variable {P : Program} {w : World}
theorem op_app3 {o : Oper} {a : Act} {next : Act → World → Prop} {Q : Exit → Act → World → Prop} (s x : Operand) (t : TypeId)
  (ho : o.op = .call { callee := .builtin .append, args := #[s, x], argTypes := #[t, t] })
  (e : TypeId) (i : TypeInfo) (z : Value) (size bytes : Nat) (ht : P.underlying t = some (.slice e)) (hi : P.info? e = some i) (hz : i.zero = some z)
  (hsize : i.size = size) (hby : i.bytes = bytes) (hzs : z.cells.size = size) (hsz : 0 < size)
  (v : Value) (n : Nat) (xs : List Value) (hs : a.eval s = v) (base : Nat) (hbase : base ≤ w.heap.size) (hown : w.ownsRow base e size v n xs)
  (A : Option Addr) (m c : Nat) (news : List Value) (hx : a.eval x = .slice A m c) (hr : Rd w size A m news) (h1 : ∀ u ∈ news, u.oneCell' = true)
  (h63 : n + m ≤ maxLen) (hbytes : (n + m) * bytes ≤ 140737488355328)
  (h : ∀ A' c' w', w'.ownsRow base e size (.slice A' (n + m) c') (n + m) (xs ++ news) → Mv (rowF v) (rowF (.slice A' (n + m) c')) w w' → (∀ A0 c0, v = .slice A0 n c0 → Rd w' size A0 n xs) → next (a.put o.dst (.slice A' (n + m) c')) w') : Oper.wp P o a w next Q := by
 obtain ⟨v', w', hrun, h2, h3, h4⟩ := run_app2 (P := P) t o.type e i z size bytes ht hi hz hsize hby hzs hsz v n xs base hbase hown A m c news hr h1 h63 hbytes
 obtain ⟨A', c', rfl, _⟩ := own_slice h2
 unfold Oper.wp execOp
 simp only [ho, resolve, invoke, builtin, Sem.run_bind, Sem.run_pure, Result.andThen_ok, List.map_toArray, List.map_cons, List.map_nil, hs, hx, hrun]
 exact h A' c' w' h2 h3 h4
end
end Go.Proofs.YtkfdgodngbinlaaGreatDoor
namespace Go.Proofs.YtkfdgodngbinlaaGreatDoor
set_option linter.all false
open Go.RowKit

structure TiersP (w : World) (t base : Nat) (X : TiersX) (A : Option Addr) (c : Nat) (B : Option Addr) (d : Nat) (T : Option Addr) (ct : Nat) (tb : List (Nat × Nat)) (k : Nat) : Prop where
 blk : Blk w t 42 #[.int .i64 X.now, .string X.name, .slice A X.tiers.length c, .slice B X.floors.length d, .slice T k ct]
 tiers : w.ownsRow base 109 4 (.slice A X.tiers.length c) X.tiers.length (tcells X.tiers)
 floors : w.ownsRow base 3 1 (.slice B X.floors.length d) X.floors.length (ints X.floors)
 row : w.ownsRow base 107 1 (.slice T k ct) k (ptrs tb)
 tab : ∀ (i : Nat) (p : Nat × Nat) (x : TierV) (l : List RecV), tb[i]? = some p → X.tiers[i]? = some x → X.tabs[i]? = some l → TabAt w p.1 x.every p.2 l
 lt : ∀ p ∈ tb, p.1 < w.heap.size ∧ p.2 < w.heap.size
 nodup : (tb.map Prod.snd).Nodup
 ge : ∀ p ∈ tb, base ≤ p.1 ∧ base ≤ p.2
 tge : base ≤ t
theorem TiersP.len {w : World} {t base k : Nat} {X : TiersX} {A B T : Option Addr} {c d ct : Nat} {tb : List (Nat × Nat)} (h : TiersP w t base X A c B d T ct tb k) : tb.length = k := by
 have := h.row.1
 unfold ptrs at this
 rw [List.length_map] at this
 omega
theorem TiersP.fr0 {w w' : World} {t base k : Nat} {X : TiersX} {A B T : Option Addr} {c d ct : Nat} {tb : List (Nat × Nat)} (h : TiersP w t base X A c B d T ct tb k) (hf : Fr (fun _ => False) w w') : TiersP w' t base X A c B d T ct tb k :=
 ⟨h.blk.fr hf (fun h => h), own_fr0 h.tiers hf, own_fr0 h.floors hf, own_fr0 h.row hf, fun i p x l h1 h2 h3 => (h.tab i p x l h1 h2 h3).fr0 hf, fun p hp => ⟨Nat.lt_of_lt_of_le (h.lt p hp).1 hf.size, Nat.lt_of_lt_of_le (h.lt p hp).2 hf.size⟩, h.nodup, h.ge, h.tge⟩
theorem TiersP.done {w : World} {t base : Nat} {X : TiersX} {A B T : Option Addr} {c d ct : Nat} {tb : List (Nat × Nat)} (h : TiersP w t base X A c B d T ct tb X.tiers.length) (hl : X.tabs.length = X.tiers.length) : TiersAt w t base X :=
 ⟨A, c, B, d, T, ct, tb, h.blk, h.tiers, h.floors, h.row, hl, h.tab, h.nodup, h.ge, h.tge⟩
theorem own_ty_ne {w : World} {base base' n n' size size' : Nat} {e e' : TypeId} {v v' : Value} {xs xs' : List Value} (h : w.ownsRow base e size v n xs) (h' : w.ownsRow base' e' size' v' n' xs') (hne : e ≠ e') : ∀ j, rowF v j → ¬ rowF v' j := fun j hj hj' => by
 obtain ⟨cs, fz, h1⟩ := own_ty h hj
 obtain ⟨cs', fz', h2⟩ := own_ty h' hj'
 rw [h1] at h2
 injection h2 with h2
 injection h2 with _ h2 _
 exact hne h2
theorem TiersP.snoc {w w5 w6 : World} {t base k g b : Nat} {X : TiersX} {A B T T' : Option Addr} {c d ct ct' : Nat} {tb : List (Nat × Nat)} {x : TierV} {l : List RecV} (h : TiersP w t base X A c B d T ct tb k)
  (hf : Fr (fun _ => False) w w5) (hbs : base ≤ w.heap.size) (hg : w.heap.size ≤ g) (hb : w.heap.size ≤ b) (hx : X.tiers[k]? = some x) (hl : X.tabs[k]? = some l) (ht : TabAt w5 g x.every b l) (o : Obj)
  (ho : w6.ownsRow base 107 1 (.slice T' (k + 1) ct') (k + 1) (ptrs tb ++ [.pointer (some ⟨g, 0, none⟩)])) (hm : Mv (rowF (.slice T k ct)) (rowF (.slice T' (k + 1) ct')) (w5.alloc o) w6) :
  TiersP (w6.setCell ⟨t, 4, none⟩ (.slice T' (k + 1) ct')) t base X A c B d T' ct' (tb ++ [(g, b)]) (k + 1) ∧ Fr (fun j => base ≤ j) w (w6.setCell ⟨t, 4, none⟩ (.slice T' (k + 1) ct')) := by
 have h5 := h.fr0 (hf.trans (Fr.none_alloc w5 o) (fun _ h => h.elim))
 have ht5 : TabAt (w5.alloc o) g x.every b l := ht.fr0 (Fr.none_alloc _ _)
 have hblk : ∀ {g' : Nat} {ty : TypeId} {cs : Array Value}, Blk (w5.alloc o) g' ty cs → ty ≠ 107 → ¬ rowF (.slice T k ct) g' := fun {g' ty cs} hB hne hj => own_blk_ne h5.row hB (fun e => hne e.symm) hj
 have hmap : ∀ {b' : Nat} {m : List RecV}, OwnsT (w5.alloc o) b' m → ¬ rowF (.slice T k ct) b' := fun {b' m} hB hj => by
  obtain ⟨es, ck, hbm⟩ := hB.isMap
  obtain ⟨cs', fz, hc⟩ := own_ty h5.row hj
  rw [hbm] at hc
  cases hc
 have b6 : Blk w6 t 42 #[.int .i64 X.now, .string X.name, .slice A X.tiers.length c, .slice B X.floors.length d, .slice T k ct] := h5.blk.fr hm.fr (hblk h5.blk (by decide))
 have t6 : w6.ownsRow base 109 4 (.slice A X.tiers.length c) X.tiers.length (tcells X.tiers) := own_fr h5.tiers hm.fr (own_ty_ne h5.tiers h5.row (by decide))
 have f6 : w6.ownsRow base 3 1 (.slice B X.floors.length d) X.floors.length (ints X.floors) := own_fr h5.floors hm.fr (own_ty_ne h5.floors h5.row (by decide))
 have hs : Fr (fun j => j = t) w6 (w6.setCell ⟨t, 4, none⟩ (.slice T' (k + 1) ct')) := (Fr.refl (fun j => j = t) w6).setCell (p := ⟨t, 4, none⟩) (.inl rfl) _
 have hlen := h.len
 have hkl : k < X.tiers.length := (List.getElem?_eq_some_iff.1 hx).1
 have tab6 : ∀ {g' b' : Nat} {e : Int} {m : List RecV}, TabAt (w5.alloc o) g' e b' m → TabAt (w6.setCell ⟨t, 4, none⟩ (.slice T' (k + 1) ct')) g' e b' m := fun {g' b' e m} hT => by
  have hT6 : TabAt w6 g' e b' m := hT.fr hm.fr (hblk hT.blk (by decide)) (hmap hT.own)
  refine hT6.fr hs (blk_ne_ty hT6.blk b6 (by decide)) (fun e' => ?_)
  obtain ⟨es, ck, hbm⟩ := hT6.own.isMap
  have hb0 : w6.heap[t]? = some (Obj.cells _ _ (0, 0)) := b6
  rw [← e', hbm] at hb0
  cases hb0
 have hsz : w.heap.size ≤ (w6.setCell ⟨t, 4, none⟩ (.slice T' (k + 1) ct')).heap.size := Nat.le_trans (Nat.le_trans (hf.trans (Fr.none_alloc w5 o) (fun _ h => h.elim)).size hm.fr.size) hs.size
 refine ⟨⟨b6.set_ 4 _, own_fr t6 hs (fun j hj e => own_blk_ne t6 b6 (by decide) (by rw [← e]; exact hj)), own_fr f6 hs (fun j hj e => own_blk_ne f6 b6 (by decide) (by rw [← e]; exact hj)), ?_, fun i p y m h1 h2 h3 => ?_, fun p hp => ?_, ?_, fun p hp => ?_, h.tge⟩, ?_⟩
 ·have : ptrs (tb ++ [(g, b)]) = ptrs tb ++ [.pointer (some ⟨g, 0, none⟩)] := by unfold ptrs; rw [List.map_append]; rfl
  rw [this]
  exact own_fr ho hs (fun j hj e => own_blk_ne ho b6 (by decide) (by rw [← e]; exact hj))
 ·by_cases hi : i < tb.length
  ·rw [List.getElem?_append_left hi] at h1
   exact tab6 (h5.tab i p y m h1 h2 h3)
  ·rw [List.getElem?_append_right (by omega)] at h1
   have hik : i = k := by
    have := (List.getElem?_eq_some_iff.1 h1).1
    simp at this
    omega
   subst hik
   rw [hlen, Nat.sub_self] at h1
   cases h1
   rw [hx] at h2
   cases h2
   rw [hl] at h3
   cases h3
   exact tab6 ht5
 ·rcases List.mem_append.1 hp with hp | hp
  ·exact ⟨Nat.lt_of_lt_of_le (h.lt p hp).1 hsz, Nat.lt_of_lt_of_le (h.lt p hp).2 hsz⟩
  ·rw [List.mem_singleton] at hp
   subst hp
   exact ⟨(tab6 ht5).blk.lt, (tab6 ht5).own.lt⟩
 ·rw [List.map_append, List.nodup_append]
  refine ⟨h.nodup, by simp, fun a ha b' hb' => ?_⟩
  obtain ⟨p, hp, rfl⟩ := List.mem_map.1 ha
  simp at hb'
  subst hb'
  have := (h.lt p hp).2
  omega
 ·rcases List.mem_append.1 hp with hp | hp
  ·exact h.ge p hp
  ·rw [List.mem_singleton] at hp
   subst hp
   exact ⟨by omega, by omega⟩
 ·have q1 : Fr (fun j => base ≤ j) w (w5.alloc o) := (hf.trans (Fr.none_alloc w5 o) (fun _ h => h.elim)).mono (fun _ h => h.elim)
  have q2 : Fr (fun j => base ≤ j) w w6 := q1.trans hm.fr (fun j hj => .inl (h5.row.lt j hj).1)
  exact q2.trans hs (fun j hj => .inl (by rw [hj]; exact h.tge))
end Go.Proofs.YtkfdgodngbinlaaGreatDoor
namespace Go.Proofs.YtkfdgodngbinlaaGreatDoor
set_option linter.all false
open Go.RowKit

end Go.Proofs.YtkfdgodngbinlaaGreatDoor
namespace Go.Proofs.YtkfdgodngbinlaaGreatDoor
set_option linter.all false
open Go.RowKit

section
variable {w w' : World} {g k : Nat} {G L F : Nat → Prop}
end
end Go.Proofs.YtkfdgodngbinlaaGreatDoor
