/- Tiers: what they are; walks of none, is, Len. -/
import Derived.Test.YteajonicnkpbbaaGreatDoorReachC
import Derived.Test.YteajonicnkpbbaaGreatDoorTabNeed
import Derived.Test.YteajonicnkpbbaaGreatDoorBase
namespace Go.Proofs.YteajonicnkpbbaaGreatDoor
set_option linter.all false
open Go.RowKit

structure TiersX where
 now : Int
 name : ByteArray
 tiers : List TierV
 floors : List Int
 tabs : List (List RecV)
def ptrs (tb : List (Nat × Nat)) : List Value := tb.map fun p => .pointer (some ⟨p.1, 0, none⟩)
theorem ptrs_get {tb : List (Nat × Nat)} {k : Nat} {p : Nat × Nat} (h : tb[k]? = some p) : (ptrs tb)[k]? = some (.pointer (some ⟨p.1, 0, none⟩)) := by
 unfold ptrs; rw [List.getElem?_map, h]; rfl
structure TiersIn (w : World) (t base : Nat) (X : TiersX) (A : Option Addr) (c : Nat) (B : Option Addr) (d : Nat) (T : Option Addr) (ct : Nat) (tb : List (Nat × Nat)) : Prop where
 blk : Blk w t 87 #[.int .i64 X.now, .string X.name, .slice A X.tiers.length c, .slice B X.floors.length d, .slice T X.tiers.length ct]
 tiers : w.ownsRow base 99 4 (.slice A X.tiers.length c) X.tiers.length (tcells X.tiers)
 floors : w.ownsRow base 3 1 (.slice B X.floors.length d) X.floors.length (ints X.floors)
 row : w.ownsRow base 208 1 (.slice T X.tiers.length ct) X.tiers.length (ptrs tb)
 tlen : X.tabs.length = X.tiers.length
 tab : ∀ (i : Nat) (p : Nat × Nat) (x : TierV) (l : List RecV), tb[i]? = some p → X.tiers[i]? = some x → X.tabs[i]? = some l → TabAt w p.1 x.every p.2 l
 nodup : (tb.map Prod.snd).Nodup
 ge : ∀ p ∈ tb, base ≤ p.1 ∧ base ≤ p.2
 tge : base ≤ t
def TiersAt (w : World) (t base : Nat) (X : TiersX) : Prop := ∃ A c B d T ct tb, TiersIn w t base X A c B d T ct tb
theorem TiersIn.len {w : World} {t base : Nat} {X : TiersX} {A B T : Option Addr} {c d ct : Nat} {tb : List (Nat × Nat)} (h : TiersIn w t base X A c B d T ct tb) : tb.length = X.tiers.length := by
 have := h.row.1
 unfold ptrs at this
 rw [List.length_map] at this
 omega
theorem TiersIn.tabAt {w : World} {t base : Nat} {X : TiersX} {A B T : Option Addr} {c d ct : Nat} {tb : List (Nat × Nat)} (h : TiersIn w t base X A c B d T ct tb) {k : Nat} (hk : k < X.tiers.length) :
  ∃ g b x l, tb[k]? = some (g, b) ∧ X.tiers[k]? = some x ∧ X.tabs[k]? = some l ∧ TabAt w g x.every b l := by
 have h1 : k < tb.length := by rw [h.len]; exact hk
 have h2 : k < X.tabs.length := by rw [h.tlen]; exact hk
 exact ⟨tb[k].1, tb[k].2, X.tiers[k], X.tabs[k], List.getElem?_eq_getElem h1, List.getElem?_eq_getElem hk, List.getElem?_eq_getElem h2, h.tab k _ _ _ (List.getElem?_eq_getElem h1) (List.getElem?_eq_getElem hk) (List.getElem?_eq_getElem h2)⟩
theorem TiersIn.fr0 {w w' : World} {t base : Nat} {X : TiersX} {A B T : Option Addr} {c d ct : Nat} {tb : List (Nat × Nat)} (h : TiersIn w t base X A c B d T ct tb) (hf : Fr (fun _ => False) w w') : TiersIn w' t base X A c B d T ct tb :=
 ⟨h.blk.fr hf (fun h => h), own_fr0 h.tiers hf, own_fr0 h.floors hf, own_fr0 h.row hf, h.tlen, fun i p x l h1 h2 h3 => (h.tab i p x l h1 h2 h3).fr0 hf, h.nodup, h.ge, h.tge⟩
theorem TiersIn.set {w w' : World} {t base : Nat} {X : TiersX} {A B T : Option Addr} {c d ct : Nat} {tb : List (Nat × Nat)} (h : TiersIn w t base X A c B d T ct tb) {k g b : Nat} {x : TierV} {l' : List RecV} (hk : tb[k]? = some (g, b)) (hx : X.tiers[k]? = some x)
  (ht : TabAt w' g x.every b l') (hf : Fr (fun j => j = b) w w') : TiersIn w' t base { X with tabs := X.tabs.set k l' } A c B d T ct tb := by
 have hkl : k < X.tiers.length := (List.getElem?_eq_some_iff.1 hx).1
 obtain ⟨l, hl⟩ : ∃ l, X.tabs[k]? = some l := ⟨_, List.getElem?_eq_getElem (by rw [h.tlen]; exact hkl)⟩
 obtain ⟨es, ck, hbm⟩ := (h.tab k (g, b) x l hk hx hl).own.isMap
 simp only at hbm
 have hrow : ∀ {e : TypeId} {size n base' : Nat} {v : Value} {xs : List Value}, w.ownsRow base' e size v n xs → ∀ j, rowF v j → ¬ j = b := fun ho j hj e => by
  obtain ⟨cs', fz, hc⟩ := own_ty ho hj
  rw [e, hbm] at hc
  cases hc
 have hblk : ∀ {g' : Nat} {ty : TypeId} {cs : Array Value}, Blk w g' ty cs → g' ≠ b := fun {g' ty cs} hb e => by
  have hb0 : w.heap[g']? = some (Obj.cells cs ty (0, 0)) := hb
  rw [e, hbm] at hb0
  cases hb0
 refine ⟨h.blk.fr hf (hblk h.blk), own_fr h.tiers hf (hrow h.tiers), own_fr h.floors hf (hrow h.floors), own_fr h.row hf (hrow h.row), by simp [h.tlen], fun i p y l1 h1 h2 h3 => ?_, h.nodup, h.ge, h.tge⟩
 by_cases e : i = k
 ·subst e
  rw [hk] at h1
  cases h1
  rw [hx] at h2
  cases h2
  rw [List.getElem?_set_self (by rw [h.tlen]; exact hkl)] at h3
  cases h3
  exact ht
 ·rw [List.getElem?_set_ne (fun e' => e e'.symm)] at h3
  have hT := h.tab i p y l1 h1 h2 h3
  refine hT.fr hf (hblk hT.blk) (fun e' => ?_)
  have hi : (tb.map Prod.snd)[i]? = some b := by rw [List.getElem?_map, h1]; simp [e']
  have hk2 : (tb.map Prod.snd)[k]? = some b := by rw [List.getElem?_map, hk]; rfl
  have hil := (List.getElem?_eq_some_iff.1 hi).1
  exact e ((List.getElem?_inj hil h.nodup).1 (hi.trans hk2.symm))

end Go.Proofs.YteajonicnkpbbaaGreatDoor
namespace Go.Proofs.YteajonicnkpbbaaGreatDoor
set_option linter.all false
open Go.RowKit

def needsX (X : TiersX) : List Nat := List.zipWith (fun x l => needV (max x.shards 1) l) X.tiers X.tabs
def needX (X : TiersX) : Nat := (needsX X).sum
end Go.Proofs.YteajonicnkpbbaaGreatDoor
namespace Go.Proofs.YteajonicnkpbbaaGreatDoor
set_option linter.all false
open Go.RowKit

theorem blk_ne_ty {w : World} {g g' : Nat} {ty ty' : TypeId} {cs cs' : Array Value} (h : Blk w g ty cs) (h' : Blk w g' ty' cs') (hne : ty ≠ ty') : g ≠ g' := fun e => by
 have h1 : w.heap[g]? = some (Obj.cells cs ty (0, 0)) := h
 have h2 : w.heap[g']? = some (Obj.cells cs' ty' (0, 0)) := h'
 rw [e, h2] at h1
 injection h1 with h1
 injection h1 with _ h1 _
 exact hne h1.symm
def tM (tb : List (Nat × Nat)) : Nat → Prop := fun j => ∃ p ∈ tb, j = p.2
def tF (t : Nat) (tb : List (Nat × Nat)) : Nat → Prop := fun j => j = t ∨ tM tb j
def TiersOn (w : World) (t base : Nat) (X : TiersX) (F : Nat → Prop) : Prop := ∃ A c B d T ct tb, TiersIn w t base X A c B d T ct tb ∧ F = tF t tb
theorem TiersOn.at_ {w : World} {t base : Nat} {X : TiersX} {F : Nat → Prop} (h : TiersOn w t base X F) : TiersAt w t base X := by
 obtain ⟨A, c, B, d, T, ct, tb, hi, _⟩ := h
 exact ⟨A, c, B, d, T, ct, tb, hi⟩
theorem TiersAt.on {w : World} {t base : Nat} {X : TiersX} (h : TiersAt w t base X) : ∃ F, TiersOn w t base X F := by
 obtain ⟨A, c, B, d, T, ct, tb, hi⟩ := h
 exact ⟨_, A, c, B, d, T, ct, tb, hi, rfl⟩
theorem TiersOn.fr0 {w w' : World} {t base : Nat} {X : TiersX} {F : Nat → Prop} (h : TiersOn w t base X F) (hf : Fr (fun _ => False) w w') : TiersOn w' t base X F := by
 obtain ⟨A, c, B, d, T, ct, tb, hi, e⟩ := h
 exact ⟨A, c, B, d, T, ct, tb, hi.fr0 hf, e⟩
theorem TiersAt.fr0 {w w' : World} {t base : Nat} {X : TiersX} (h : TiersAt w t base X) (hf : Fr (fun _ => False) w w') : TiersAt w' t base X := by
 obtain ⟨F, h⟩ := h.on
 exact (h.fr0 hf).at_
theorem TiersIn.map_ {w : World} {t base : Nat} {X : TiersX} {A B T : Option Addr} {c d ct : Nat} {tb : List (Nat × Nat)} (h : TiersIn w t base X A c B d T ct tb) {j : Nat} (hj : tM tb j) : base ≤ j ∧ j < w.heap.size ∧ ∃ es ck, w.heap[j]? = some (.map es ck) := by
 obtain ⟨p, hp, rfl⟩ := hj
 obtain ⟨k, hk⟩ := List.getElem?_of_mem hp
 have hkl : k < X.tiers.length := by have := (List.getElem?_eq_some_iff.1 hk).1; rw [h.len] at this; exact this
 obtain ⟨g, b, x, l, h1, h2, h3, hT⟩ := h.tabAt hkl
 rw [hk] at h1
 cases h1
 exact ⟨(h.ge _ hp).2, hT.own.lt, hT.own.isMap⟩
theorem TiersOn.ge {w : World} {t base : Nat} {X : TiersX} {F : Nat → Prop} (h : TiersOn w t base X F) : ∀ j, F j → base ≤ j ∧ j < w.heap.size := by
 obtain ⟨A, c, B, d, T, ct, tb, hi, rfl⟩ := h
 rintro j (rfl | hj)
 ·exact ⟨hi.tge, hi.blk.lt⟩
 ·exact ⟨(hi.map_ hj).1, (hi.map_ hj).2.1⟩
theorem TiersOn.fr {w w' : World} {t base : Nat} {X : TiersX} {F G : Nat → Prop} (h : TiersOn w t base X F) (hf : Fr G w w') (hG : ∀ j, G j → (∃ es ck, w.heap[j]? = some (.map es ck)) ∨ (∃ cs fz, w.heap[j]? = some (.cells cs 87 fz))) (hd : ∀ j, F j → ¬ G j) : TiersOn w' t base X F := by
 obtain ⟨A, c, B, d, T, ct, tb, hi, rfl⟩ := h
 have hrow : ∀ {e : TypeId} {size n base' : Nat} {v : Value} {xs : List Value}, w.ownsRow base' e size v n xs → e ≠ 87 → ∀ j, rowF v j → ¬ G j := fun ho hne j hj hg => by
  obtain ⟨cs', fz', hc⟩ := own_ty ho hj
  rcases hG j hg with ⟨es, ck, hbm⟩ | ⟨cs, fz, hb⟩
  ·rw [hbm] at hc; cases hc
  ·rw [hb] at hc
   injection hc with hc
   injection hc with _ hc _
   exact hne hc.symm
 have hblk : ∀ {g' : Nat} {ty : TypeId} {cs : Array Value}, Blk w g' ty cs → ty ≠ 87 → ¬ G g' := fun {g' ty cs} hB hne hg => by
  have hb0 : w.heap[g']? = some (Obj.cells cs ty (0, 0)) := hB
  rcases hG g' hg with ⟨es, ck, hbm⟩ | ⟨cs, fz, hb⟩
  ·rw [hbm] at hb0; cases hb0
  ·rw [hb] at hb0
   injection hb0 with hc
   injection hc with _ hc _
   exact hne hc.symm
 refine ⟨A, c, B, d, T, ct, tb, ⟨hi.blk.fr hf (hd t (.inl rfl)), own_fr hi.tiers hf (hrow hi.tiers (by decide)), own_fr hi.floors hf (hrow hi.floors (by decide)), own_fr hi.row hf (hrow hi.row (by decide)), hi.tlen, fun i p x l h1 h2 h3 => ?_, hi.nodup, hi.ge, hi.tge⟩, rfl⟩
 have hT := hi.tab i p x l h1 h2 h3
 exact hT.fr hf (hblk hT.blk (by decide)) (hd p.2 (.inr ⟨p, List.mem_of_getElem? h1, rfl⟩))
theorem TiersOn.kind {w : World} {t base : Nat} {X : TiersX} {F : Nat → Prop} (h : TiersOn w t base X F) : ∀ j, F j → (∃ es ck, w.heap[j]? = some (.map es ck)) ∨ (∃ cs fz, w.heap[j]? = some (.cells cs 87 fz)) := by
 obtain ⟨A, c, B, d, T, ct, tb, hi, rfl⟩ := h
 rintro j (rfl | hj)
 ·exact .inr ⟨_, _, hi.blk⟩
 ·exact .inl (hi.map_ hj).2.2
theorem TiersOn.apart {w w' : World} {t base t2 base2 : Nat} {X Y : TiersX} {F F2 G : Nat → Prop} (h : TiersOn w t base X F) (h2 : TiersOn w t2 base2 Y F2) (hf : Fr G w w') (hs : ∀ j, G j → F2 j) (hd : ∀ j, F j → ¬ F2 j) : TiersOn w' t base X F :=
 h.fr hf (fun j hj => h2.kind j (hs j hj)) (fun j hj hg => hd j hj (hs j hg))
end Go.Proofs.YteajonicnkpbbaaGreatDoor
namespace Go.Proofs.YteajonicnkpbbaaGreatDoor
set_option linter.all false
open Go.RowKit

end Go.Proofs.YteajonicnkpbbaaGreatDoor
namespace Go.Proofs.YteajonicnkpbbaaGreatDoor
set_option linter.all false
open Go.RowKit

end Go.Proofs.YteajonicnkpbbaaGreatDoor
namespace Go.Proofs.YteajonicnkpbbaaGreatDoor
set_option linter.all false
open Go.RowKit

end Go.Proofs.YteajonicnkpbbaaGreatDoor
namespace Go.Proofs.YteajonicnkpbbaaGreatDoor
set_option linter.all false
open Go.RowKit

section
variable {P : Program} {w : World}
theorem op_app3 {o : Oper} {a : Act} {next : Act → World → Prop} {Q : Exit → Act → World → Prop} (s x : Operand) (t : TypeId)
  (ho : o.op = .call { callee := .builtin .append, args := #[s, x], argTypes := #[t, t] })
  (e : TypeId) (i : TypeInfo) (z : Value) (size bytes : Nat) (ht : P.underlying t = some (.slice e)) (hi : P.info? e = some i) (hz : i.zero = some z)
  (hsize : i.size = size) (hby : i.bytes = bytes) (hzs : z.cells.size = size) (hsz : 0 < size)
  (v : Value) (n : Nat) (xs : List Value) (hs : a.eval s = v) (base : Nat) (hbase : base ≤ w.heap.size) (hown : w.ownsRow base e size v n xs)
  (A : Option Addr) (m c : Nat) (news : List Value) (hx : a.eval x = .slice A m c) (hr : Rd w size A m news) (h1 : ∀ u ∈ news, u.oneCell' = true)
  (h63 : n + m ≤ maxLen) (hbytes : (n + m) * bytes ≤ 140737488355328)
  (h : ∀ A' c' w', w'.ownsRow base e size (.slice A' (n + m) c') (n + m) (xs ++ news) → Mv (rowF v) (rowF (.slice A' (n + m) c')) w w' → (∀ A0 c0, v = .slice A0 n c0 → Rd w' size A0 n xs) → next (a.put o.dst (.slice A' (n + m) c')) w') : Oper.wp P o a w next Q := by
 obtain ⟨v', w', hrun, h2, h3, h4⟩ := run_app2 (P := P) t o.type e i z size bytes ht hi hz hsize hby hzs hsz v n xs base hbase hown A m c news hr h1 h63 hbytes
 obtain ⟨A', c', rfl, _⟩ := own_slice h2
 unfold Oper.wp execOp
 simp only [ho, resolve, invoke, builtin, Sem.run_bind, Sem.run_pure, Result.andThen_ok, List.map_toArray, List.map_cons, List.map_nil, hs, hx, hrun]
 exact h A' c' w' h2 h3 h4
end
end Go.Proofs.YteajonicnkpbbaaGreatDoor
namespace Go.Proofs.YteajonicnkpbbaaGreatDoor
set_option linter.all false
open Go.RowKit

structure TiersP (w : World) (t base : Nat) (X : TiersX) (A : Option Addr) (c : Nat) (B : Option Addr) (d : Nat) (T : Option Addr) (ct : Nat) (tb : List (Nat × Nat)) (k : Nat) : Prop where
 blk : Blk w t 87 #[.int .i64 X.now, .string X.name, .slice A X.tiers.length c, .slice B X.floors.length d, .slice T k ct]
 tiers : w.ownsRow base 99 4 (.slice A X.tiers.length c) X.tiers.length (tcells X.tiers)
 floors : w.ownsRow base 3 1 (.slice B X.floors.length d) X.floors.length (ints X.floors)
 row : w.ownsRow base 208 1 (.slice T k ct) k (ptrs tb)
 tab : ∀ (i : Nat) (p : Nat × Nat) (x : TierV) (l : List RecV), tb[i]? = some p → X.tiers[i]? = some x → X.tabs[i]? = some l → TabAt w p.1 x.every p.2 l
 lt : ∀ p ∈ tb, p.1 < w.heap.size ∧ p.2 < w.heap.size
 nodup : (tb.map Prod.snd).Nodup
 ge : ∀ p ∈ tb, base ≤ p.1 ∧ base ≤ p.2
 tge : base ≤ t
theorem TiersP.len {w : World} {t base k : Nat} {X : TiersX} {A B T : Option Addr} {c d ct : Nat} {tb : List (Nat × Nat)} (h : TiersP w t base X A c B d T ct tb k) : tb.length = k := by
 have := h.row.1
 unfold ptrs at this
 rw [List.length_map] at this
 omega
theorem TiersP.fr0 {w w' : World} {t base k : Nat} {X : TiersX} {A B T : Option Addr} {c d ct : Nat} {tb : List (Nat × Nat)} (h : TiersP w t base X A c B d T ct tb k) (hf : Fr (fun _ => False) w w') : TiersP w' t base X A c B d T ct tb k :=
 ⟨h.blk.fr hf (fun h => h), own_fr0 h.tiers hf, own_fr0 h.floors hf, own_fr0 h.row hf, fun i p x l h1 h2 h3 => (h.tab i p x l h1 h2 h3).fr0 hf, fun p hp => ⟨Nat.lt_of_lt_of_le (h.lt p hp).1 hf.size, Nat.lt_of_lt_of_le (h.lt p hp).2 hf.size⟩, h.nodup, h.ge, h.tge⟩
theorem TiersP.done {w : World} {t base : Nat} {X : TiersX} {A B T : Option Addr} {c d ct : Nat} {tb : List (Nat × Nat)} (h : TiersP w t base X A c B d T ct tb X.tiers.length) (hl : X.tabs.length = X.tiers.length) : TiersAt w t base X :=
 ⟨A, c, B, d, T, ct, tb, h.blk, h.tiers, h.floors, h.row, hl, h.tab, h.nodup, h.ge, h.tge⟩
theorem own_ty_ne {w : World} {base base' n n' size size' : Nat} {e e' : TypeId} {v v' : Value} {xs xs' : List Value} (h : w.ownsRow base e size v n xs) (h' : w.ownsRow base' e' size' v' n' xs') (hne : e ≠ e') : ∀ j, rowF v j → ¬ rowF v' j := fun j hj hj' => by
 obtain ⟨cs, fz, h1⟩ := own_ty h hj
 obtain ⟨cs', fz', h2⟩ := own_ty h' hj'
 rw [h1] at h2
 injection h2 with h2
 injection h2 with _ h2 _
 exact hne h2
theorem TiersP.snoc {w w5 w6 : World} {t base k g b : Nat} {X : TiersX} {A B T T' : Option Addr} {c d ct ct' : Nat} {tb : List (Nat × Nat)} {x : TierV} {l : List RecV} (h : TiersP w t base X A c B d T ct tb k)
  (hf : Fr (fun _ => False) w w5) (hbs : base ≤ w.heap.size) (hg : w.heap.size ≤ g) (hb : w.heap.size ≤ b) (hx : X.tiers[k]? = some x) (hl : X.tabs[k]? = some l) (ht : TabAt w5 g x.every b l) (o : Obj)
  (ho : w6.ownsRow base 208 1 (.slice T' (k + 1) ct') (k + 1) (ptrs tb ++ [.pointer (some ⟨g, 0, none⟩)])) (hm : Mv (rowF (.slice T k ct)) (rowF (.slice T' (k + 1) ct')) (w5.alloc o) w6) :
  TiersP (w6.setCell ⟨t, 4, none⟩ (.slice T' (k + 1) ct')) t base X A c B d T' ct' (tb ++ [(g, b)]) (k + 1) ∧ Fr (fun j => base ≤ j) w (w6.setCell ⟨t, 4, none⟩ (.slice T' (k + 1) ct')) := by
 have h5 := h.fr0 (hf.trans (Fr.none_alloc w5 o) (fun _ h => h.elim))
 have ht5 : TabAt (w5.alloc o) g x.every b l := ht.fr0 (Fr.none_alloc _ _)
 have hblk : ∀ {g' : Nat} {ty : TypeId} {cs : Array Value}, Blk (w5.alloc o) g' ty cs → ty ≠ 208 → ¬ rowF (.slice T k ct) g' := fun {g' ty cs} hB hne hj => own_blk_ne h5.row hB (fun e => hne e.symm) hj
 have hmap : ∀ {b' : Nat} {m : List RecV}, OwnsT (w5.alloc o) b' m → ¬ rowF (.slice T k ct) b' := fun {b' m} hB hj => by
  obtain ⟨es, ck, hbm⟩ := hB.isMap
  obtain ⟨cs', fz, hc⟩ := own_ty h5.row hj
  rw [hbm] at hc
  cases hc
 have b6 : Blk w6 t 87 #[.int .i64 X.now, .string X.name, .slice A X.tiers.length c, .slice B X.floors.length d, .slice T k ct] := h5.blk.fr hm.fr (hblk h5.blk (by decide))
 have t6 : w6.ownsRow base 99 4 (.slice A X.tiers.length c) X.tiers.length (tcells X.tiers) := own_fr h5.tiers hm.fr (own_ty_ne h5.tiers h5.row (by decide))
 have f6 : w6.ownsRow base 3 1 (.slice B X.floors.length d) X.floors.length (ints X.floors) := own_fr h5.floors hm.fr (own_ty_ne h5.floors h5.row (by decide))
 have hs : Fr (fun j => j = t) w6 (w6.setCell ⟨t, 4, none⟩ (.slice T' (k + 1) ct')) := (Fr.refl (fun j => j = t) w6).setCell (p := ⟨t, 4, none⟩) (.inl rfl) _
 have hlen := h.len
 have hkl : k < X.tiers.length := (List.getElem?_eq_some_iff.1 hx).1
 have tab6 : ∀ {g' b' : Nat} {e : Int} {m : List RecV}, TabAt (w5.alloc o) g' e b' m → TabAt (w6.setCell ⟨t, 4, none⟩ (.slice T' (k + 1) ct')) g' e b' m := fun {g' b' e m} hT => by
  have hT6 : TabAt w6 g' e b' m := hT.fr hm.fr (hblk hT.blk (by decide)) (hmap hT.own)
  refine hT6.fr hs (blk_ne_ty hT6.blk b6 (by decide)) (fun e' => ?_)
  obtain ⟨es, ck, hbm⟩ := hT6.own.isMap
  have hb0 : w6.heap[t]? = some (Obj.cells _ _ (0, 0)) := b6
  rw [← e', hbm] at hb0
  cases hb0
 have hsz : w.heap.size ≤ (w6.setCell ⟨t, 4, none⟩ (.slice T' (k + 1) ct')).heap.size := Nat.le_trans (Nat.le_trans (hf.trans (Fr.none_alloc w5 o) (fun _ h => h.elim)).size hm.fr.size) hs.size
 refine ⟨⟨b6.set_ 4 _, own_fr t6 hs (fun j hj e => own_blk_ne t6 b6 (by decide) (by rw [← e]; exact hj)), own_fr f6 hs (fun j hj e => own_blk_ne f6 b6 (by decide) (by rw [← e]; exact hj)), ?_, fun i p y m h1 h2 h3 => ?_, fun p hp => ?_, ?_, fun p hp => ?_, h.tge⟩, ?_⟩
 ·have : ptrs (tb ++ [(g, b)]) = ptrs tb ++ [.pointer (some ⟨g, 0, none⟩)] := by unfold ptrs; rw [List.map_append]; rfl
  rw [this]
  exact own_fr ho hs (fun j hj e => own_blk_ne ho b6 (by decide) (by rw [← e]; exact hj))
 ·by_cases hi : i < tb.length
  ·rw [List.getElem?_append_left hi] at h1
   exact tab6 (h5.tab i p y m h1 h2 h3)
  ·rw [List.getElem?_append_right (by omega)] at h1
   have hik : i = k := by
    have := (List.getElem?_eq_some_iff.1 h1).1
    simp at this
    omega
   subst hik
   rw [hlen, Nat.sub_self] at h1
   cases h1
   rw [hx] at h2
   cases h2
   rw [hl] at h3
   cases h3
   exact tab6 ht5
 ·rcases List.mem_append.1 hp with hp | hp
  ·exact ⟨Nat.lt_of_lt_of_le (h.lt p hp).1 hsz, Nat.lt_of_lt_of_le (h.lt p hp).2 hsz⟩
  ·rw [List.mem_singleton] at hp
   subst hp
   exact ⟨(tab6 ht5).blk.lt, (tab6 ht5).own.lt⟩
 ·rw [List.map_append, List.nodup_append]
  refine ⟨h.nodup, by simp, fun a ha b' hb' => ?_⟩
  obtain ⟨p, hp, rfl⟩ := List.mem_map.1 ha
  simp at hb'
  subst hb'
  have := (h.lt p hp).2
  omega
 ·rcases List.mem_append.1 hp with hp | hp
  ·exact h.ge p hp
  ·rw [List.mem_singleton] at hp
   subst hp
   exact ⟨by omega, by omega⟩
 ·have q1 : Fr (fun j => base ≤ j) w (w5.alloc o) := (hf.trans (Fr.none_alloc w5 o) (fun _ h => h.elim)).mono (fun _ h => h.elim)
  have q2 : Fr (fun j => base ≤ j) w w6 := q1.trans hm.fr (fun j hj => .inl (h5.row.lt j hj).1)
  exact q2.trans hs (fun j hj => .inl (by rw [hj]; exact h.tge))
end Go.Proofs.YteajonicnkpbbaaGreatDoor
