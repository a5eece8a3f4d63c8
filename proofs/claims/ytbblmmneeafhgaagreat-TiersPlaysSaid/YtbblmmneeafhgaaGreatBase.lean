/- Words for memory that the texts of this seat share: frames with footprints ('Fr', 'Mv'), blocks known whole ('Blk'), slices that read as lists ('Rd'), owned rows. No program in sight. -/
import Derived.Handy
import Derived.WalkSpells
import Derived.WalkLawsBesides
import Derived.BigQuiet
import Derived.Deep.QuietTactic
import Derived.Deep.Draws
import Derived.Deep.AppendLies
import Derived.Maps.AppendAt
import Derived.Laws.OwnMore
import Derived.Below
import Derived.StillTailTactics
import Derived.Deep.RegionHeld3
import Derived.Lib.Hide
import Derived.Lib.AppendStr
import Derived.Lib.LaidTab
import Derived.WalkSmall
import Derived.Lib.ConvBytes
import Derived.Lib.Strings
import Derived.Deep.RegionWith
import Derived.Deep.DeepCutAuto
import Derived.Deep.RegionLaw
namespace Go.Proofs.YtbblmmneeafhgaaGreat
set_option linter.all false
open Go.RowKit

theorem block_of_add (a : Addr) (n : Nat) : (a.add n).block = a.block := by unfold Addr.add; split <;> rfl
theorem add_of_add (a : Addr) (i j : Nat) : (a.add i).add j = a.add (i + j) := by
 unfold Addr.add
 by_cases hi : i = 0 <;> by_cases hj : j = 0 <;> simp [hi, hj, Nat.add_assoc]
theorem add_lit (b o n : Nat) : (⟨b, o, none⟩ : Addr).add n = ⟨b, o + n, none⟩ := by
 unfold Addr.add
 by_cases hn : n = 0 <;> simp [hn]

structure Fr (F : Nat → Prop) (w w' : World) : Prop where
 os : w'.os = w.os
 tape : w'.tape = w.tape
 output : w'.output = w.output
 size : w.heap.size ≤ w'.heap.size
 block : ∀ k, k < w.heap.size → ¬ F k → w'.heap[k]? = w.heap[k]?

structure Mv (F F' : Nat → Prop) (w w' : World) : Prop where
 fr : Fr F w w'
 sub : ∀ k, F' k → F k ∨ w.heap.size ≤ k

section
variable {F F' G G' : Nat → Prop} {a b c w w' : World}
theorem Fr.refl (F : Nat → Prop) (w : World) : Fr F w w := ⟨rfl, rfl, rfl, Nat.le_refl _, fun _ _ _ => rfl⟩
theorem Fr.trans (h : Fr F a b) (k : Fr G b c) (hs : ∀ i, G i → F i ∨ a.heap.size ≤ i) : Fr F a c :=
 ⟨k.os.trans h.os, k.tape.trans h.tape, k.output.trans h.output, Nat.le_trans h.size k.size, fun i hi hn => by
  refine (k.block i (Nat.lt_of_lt_of_le hi h.size) ?_).trans (h.block i hi hn)
  intro hg
  rcases hs i hg with h1 | h1
  ·exact hn h1
  ·omega⟩
theorem Fr.mono (h : Fr F a b) (hs : ∀ i, F i → G i ∨ a.heap.size ≤ i) : Fr G a b :=
 ⟨h.os, h.tape, h.output, h.size, fun i hi hn => h.block i hi fun hf => by
  rcases hs i hf with h1 | h1
  ·exact hn h1
  ·omega⟩
theorem Fr.alloc (h : Fr F a b) (o : Obj) : Fr F a (b.alloc o) :=
 h.trans (G := fun _ => False) ⟨rfl, rfl, rfl, by simp, fun i hi _ => Below.heap_alloc _ _ _ hi⟩ (fun _ hf => hf.elim)
theorem Fr.drew (h : Fr F a b) : Fr F a b.drew := ⟨h.os, h.tape, h.output, h.size, h.block⟩
theorem Fr.drewN (h : Fr F a b) (n : Nat) : Fr F a (b.drewN n) := ⟨h.os, h.tape, h.output, h.size, h.block⟩
theorem Fr.setCell (h : Fr F a b) {p : Addr} (hp : F p.block ∨ a.heap.size ≤ p.block) (u : Value) : Fr F a (b.setCell p u) :=
 h.trans (G := fun i => i = p.block) ⟨rfl, rfl, rfl, by simp [World.setCell], fun i _ hn => Below.heap_setCell _ _ _ _ hn⟩ (fun i hi => by subst hi; exact hp)
theorem Fr.of_grown {row : Option Nat} (h : a.grownBy b row) : Fr (fun k => row = some k) a b :=
 ⟨h.os, h.tape, h.output, h.size, fun k hk hn => h.block k hk (fun e => hn e.symm)⟩
theorem Fr.of_below (h : Below a.heap.size a b) : Fr F a b := ⟨h.os, h.tape, h.output, h.size, fun k hk _ => h.block k hk⟩
theorem Fr.below (h : Fr F a b) (hF : ∀ k, F k → a.heap.size ≤ k) : Below a.heap.size a b :=
 ⟨h.os, h.tape, h.output, h.size, fun k hk => h.block k hk fun hf => by have := hF k hf; omega⟩
theorem Fr.below_of {B : Nat} (h : Fr F a b) (hB : B ≤ a.heap.size) (hF : ∀ k, F k → B ≤ k) : Below B a b :=
 ⟨h.os, h.tape, h.output, h.size, fun k hk => h.block k (by omega) fun hf => by have := hF k hf; omega⟩
theorem Fr.cell (h : Fr F a b) {p : Addr} {v : Value} (hc : a.cell? p = some v) (hn : ¬ F p.block) : b.cell? p = some v :=
 (World.cell?_of_block (h.block p.block (World.block_lt_of_cell? a p hc) hn)).trans hc
theorem Mv.refl (F : Nat → Prop) (w : World) : Mv F F w w := ⟨.refl F w, fun _ h => .inl h⟩
theorem Mv.trans {F'' : Nat → Prop} (h : Mv F F' a b) (k : Mv F' F'' b c) : Mv F F'' a c :=
 ⟨h.fr.trans k.fr h.sub, fun i hi => by
  rcases k.sub i hi with h1 | h1
  ·exact h.sub i h1
  ·exact .inr (Nat.le_trans h.fr.size h1)⟩
theorem Mv.size (h : Mv F F' a b) : a.heap.size ≤ b.heap.size := h.fr.size
theorem Mv.skip (h : Mv F F' a b) (k : Fr (fun _ => False) b c) : Mv F F' a c := ⟨h.fr.trans k (fun _ hf => hf.elim), h.sub⟩
theorem Mv.below (h : Mv F F' a b) (hF : ∀ k, F k → a.heap.size ≤ k) : Below a.heap.size a b := h.fr.below hF
theorem Mv.none_alloc (F : Nat → Prop) (w : World) (o : Obj) : Mv F F w (w.alloc o) := ⟨(Fr.refl _ w).alloc o, fun _ h => .inl h⟩
theorem Mv.of_none (F : Nat → Prop) {a b : World} (h : Fr (fun _ => False) a b) : Mv F F a b := ⟨h.mono (fun _ hf => hf.elim), fun _ h => .inl h⟩
theorem Fr.none_alloc (w : World) (o : Obj) : Fr (fun _ => False) w (w.alloc o) := (Fr.refl _ w).alloc o
theorem Fr.none_drewN (w : World) (n : Nat) : Fr (fun _ => False) w (w.drewN n) := (Fr.refl _ w).drewN n
end

def Blk (w : World) (g : Nat) (t : TypeId) (cs : Array Value) : Prop := w.heap[g]? = some (.cells cs t (0, 0))
section
variable {w w' : World} {g : Nat} {t : TypeId} {cs : Array Value}
theorem Blk.lt (h : Blk w g t cs) : g < w.heap.size := by
 rcases Nat.lt_or_ge g w.heap.size with hlt | hge
 ·exact hlt
 ·unfold Blk at h; rw [Array.getElem?_eq_none hge] at h; cases h
theorem Blk.cell (h : Blk w g t cs) (i : Nat) : w.cell? ⟨g, i, none⟩ = cs[i]? := cell_of_row w g i cs t (0, 0) h
theorem Blk.frozen (h : Blk w g t cs) (i : Nat) : w.frozen? ⟨g, i, none⟩ = false := by
 unfold Blk at h
 simp [World.frozen?, h]
theorem Blk.new (w : World) (t : TypeId) (cs : Array Value) : Blk (w.alloc (.cells cs t)) w.heap.size t cs := heap_alloc_new w _
theorem Blk.drew (h : Blk w g t cs) : Blk w.drew g t cs := h
theorem Blk.drewN (h : Blk w g t cs) (n : Nat) : Blk (w.drewN n) g t cs := h
theorem Blk.alloc (h : Blk w g t cs) (o : Obj) : Blk (w.alloc o) g t cs := (Below.heap_alloc w o g h.lt).trans h
theorem Blk.set_ (h : Blk w g t cs) (i : Nat) (u : Value) : Blk (w.setCell ⟨g, i, none⟩ u) g t (cs.setIfInBounds i u) := by
 unfold Blk at h ⊢
 simp [World.setCell, Array.getElem?_modify, h]
theorem Blk.far (h : Blk w g t cs) {p : Addr} (hp : g ≠ p.block) (u : Value) : Blk (w.setCell p u) g t cs := (Below.heap_setCell w p u g hp).trans h
theorem Blk.fr {F : Nat → Prop} (h : Blk w g t cs) (hf : Fr F w w') (hg : ¬ F g) : Blk w' g t cs := (hf.block g h.lt hg).trans h
theorem Blk.ne_ {g' : Nat} {t' : TypeId} {cs' : Array Value} (h : Blk w g t cs) (h' : Blk w g' t' cs') (hne : t ≠ t') : g ≠ g' := by
 rintro rfl
 unfold Blk at h h'
 rw [h] at h'
 injection h' with h'
 injection h' with _ ht
 exact hne ht
theorem own_blk_ne {base : Nat} {e : TypeId} {size n : Nat} {v : Value} {xs : List Value} (h : w.ownsRow base e size v n xs) (hg : Blk w g t cs) (hne : e ≠ t) : v.ownBlock ≠ some g := by
 rcases h.2 with ⟨rfl, _⟩ | ⟨g', cap, cur, rfl, _, hh, _⟩
 ·simp [Value.ownBlock]
 ·intro he
  have : g' = g := by simpa [Value.ownBlock] using he
  subst this
  exact Blk.ne_ (t := e) hh hg hne rfl
end

theorem take_snoc {α : Type} {l : List α} {k : Nat} {x : α} (h : l[k]? = some x) : l.take (k + 1) = l.take k ++ [x] := by
 rw [List.take_add_one, h]; rfl
theorem take_all {α : Type} {l : List α} {k : Nat} (h : l.length ≤ k) : l.take k = l := List.take_of_length_le h
theorem mem_of_get {α : Type} {l : List α} {k : Nat} {x : α} (h : l[k]? = some x) : x ∈ l := List.mem_of_getElem? h

def Rd (w : World) (size : Nat) (A : Option Addr) (n : Nat) (xs : List Value) : Prop :=
 xs.length = n * size ∧ (0 < n → ∃ ad, A = some ad ∧ ∀ j u, xs[j]? = some u → w.cell? (ad.add j) = some u)
def adF (A : Option Addr) (n : Nat) : Nat → Prop := fun k => 0 < n ∧ ∃ ad, A = some ad ∧ ad.block = k

section
variable {w w' : World} {size n : Nat} {A : Option Addr} {xs : List Value} {F : Nat → Prop}
theorem Rd.nil_ : Rd w size A 0 [] := ⟨by simp, fun h => absurd h (by omega)⟩
theorem Rd.fr (h : Rd w size A n xs) (hf : Fr F w w') (hn : ∀ k, adF A n k → ¬ F k) : Rd w' size A n xs :=
 ⟨h.1, fun h0 => by
  obtain ⟨ad, e, hc⟩ := h.2 h0
  exact ⟨ad, e, fun j u hu => hf.cell (hc j u hu) (by rw [block_of_add]; exact hn _ ⟨h0, ad, e, rfl⟩)⟩⟩
theorem Rd.fr0 (h : Rd w size A n xs) (hf : Fr (fun _ => False) w w') : Rd w' size A n xs := h.fr hf (fun _ _ h => h)
theorem Rd.alloc (h : Rd w size A n xs) (o : Obj) : Rd (w.alloc o) size A n xs := h.fr0 (Fr.none_alloc w o)
theorem Rd.drew (h : Rd w size A n xs) : Rd w.drew size A n xs := h
theorem Rd.drewN (h : Rd w size A n xs) (k : Nat) : Rd (w.drewN k) size A n xs := h
theorem Rd.below (h : Rd w size A n xs) (hb : Below w.heap.size w w') : Rd w' size A n xs := h.fr0 (.of_below hb)
theorem Rd.at_ {k : Nat} (h : Rd w 1 A n xs) (hk : k < n) : ∃ ad u, A = some ad ∧ xs[k]? = some u ∧ w.cell? (ad.add k) = some u := by
 obtain ⟨ad, e, hc⟩ := h.2 (by omega)
 have hl : k < xs.length := by have := h.1; omega
 exact ⟨ad, xs[k], e, List.getElem?_eq_getElem hl, hc k _ (List.getElem?_eq_getElem hl)⟩
theorem Rd.at_map {α : Type} {f : α → Value} {l : List α} {k : Nat} (h : Rd w 1 A n (l.map f)) (hk : k < n) : ∃ ad x, A = some ad ∧ l[k]? = some x ∧ w.cell? (ad.add k) = some (f x) := by
 obtain ⟨ad, u, hA, hu, hc⟩ := h.at_ hk
 rw [List.getElem?_map, Option.map_eq_some_iff] at hu
 obtain ⟨x, hx, rfl⟩ := hu
 exact ⟨ad, x, hA, hx, hc⟩
theorem Rd.len_map {α : Type} {f : α → Value} {l : List α} (h : Rd w 1 A n (l.map f)) : l.length = n := by have := h.1; simpa using this
theorem Rd.cut (h : Rd w size A n xs) {k cap : Nat} (hk : k ≤ n) (hc : n ≤ cap) :
  Rd w size (if cap = k then A else A.map (·.add (k * size))) (n - k) (xs.drop (k * size)) := by
 refine ⟨by rw [List.length_drop, h.1, Nat.sub_mul], fun hn => ?_⟩
 obtain ⟨ad, rfl, hcell⟩ := h.2 (by omega)
 rw [if_neg (by omega)]
 refine ⟨ad.add (k * size), rfl, fun j u hu => ?_⟩
 rw [add_of_add]
 exact hcell _ u (by rw [← hu, List.getElem?_drop])
theorem Rd.of_own {base : Nat} {e : TypeId} {c : Nat} (h : w.ownsRow base e size (.slice A n c) n xs) : Rd w size A n xs := by
 refine ⟨h.1, fun hn => ?_⟩
 obtain ⟨g, cap, hv, _, hlt⟩ := h.form hn
 have hA : A = some ⟨g, 0, none⟩ := by injection hv
 subst hA
 exact ⟨_, rfl, h.cells (g := g) rfl⟩
end

theorem Rd.adlt {w : World} {size n : Nat} {A : Option Addr} {xs : List Value} (h : Rd w size A n xs) (hs : 0 < size) : ∀ k, adF A n k → k < w.heap.size := by
 rintro k ⟨h0, ad, rfl, hb⟩
 obtain ⟨ad', e, hc⟩ := h.2 h0
 injection e with e
 subst e
 have hl : 0 < xs.length := by rw [h.1]; exact Nat.mul_pos h0 hs
 have := World.block_lt_of_cell? w _ (hc 0 _ (List.getElem?_eq_getElem hl))
 rw [block_of_add] at this
 omega
theorem Rd.apart {w : World} {size n : Nat} {A : Option Addr} {xs : List Value} {F : Nat → Prop} (h : Rd w size A n xs) (hs : 0 < size) (hF : ∀ k, F k → w.heap.size ≤ k) : ∀ k, adF A n k → ¬ F k := fun k hk hf => by
 have := h.adlt hs k hk
 have := hF k hf
 omega
theorem Rd.new (w : World) (xs : List Value) (t : TypeId) (n : Nat) (hn : xs.length = n) : Rd (w.alloc (.cells xs.toArray t)) 1 (some ⟨w.heap.size, 0, none⟩) n xs := by
 refine ⟨by omega, fun _ => ⟨_, rfl, fun j u hu => ?_⟩⟩
 rw [add_lit, Nat.zero_add, (Blk.new w t xs.toArray).cell]
 simpa using hu
theorem Rd.new' {w : World} {k : Nat} (hk : k = w.heap.size) (xs : List Value) (t : TypeId) (n : Nat) (hn : xs.length = n) : Rd (w.alloc (.cells xs.toArray t)) 1 (some ⟨k, 0, none⟩) n xs := hk ▸ Rd.new w xs t n hn
def rowF (v : Value) : Nat → Prop := fun k => v.ownBlock = some k
section
variable {w w' : World} {F : Nat → Prop} {base : Nat} {e : TypeId} {size n : Nat} {v : Value} {xs : List Value}
theorem own_lt (h : w.ownsRow base e size v n xs) : ∀ k, rowF v k → k < w.heap.size := fun k hk => (h.lt k hk).2
theorem own_fr (h : w.ownsRow base e size v n xs) (hf : Fr F w w') (hn : ∀ k, rowF v k → ¬ F k) : w'.ownsRow base e size v n xs := by
 refine ⟨h.1, ?_⟩
 rcases h.2 with h2 | ⟨g, cap, cur, rfl, hb, hg, r⟩
 ·exact .inl h2
 ·exact .inr ⟨g, cap, cur, rfl, hb, (hf.block g (Array.getElem?_eq_some_iff.1 hg).1 (hn g rfl)).trans hg, r⟩
theorem own_fr0 (h : w.ownsRow base e size v n xs) (hf : Fr (fun _ => False) w w') : w'.ownsRow base e size v n xs := own_fr h hf (fun _ _ h => h)
theorem own_slice (h : w.ownsRow base e size v n xs) : ∃ A c, v = .slice A n c ∧ n ≤ c ∧ c ≤ maxLen ∧ Rd w size A n xs := by
 rcases h.2 with ⟨rfl, rfl⟩ | ⟨g, cap, cur, rfl, hb, hg, h1, h2, _⟩
 ·exact ⟨none, 0, rfl, Nat.le_refl _, Nat.zero_le _, by have := h.1; simp at this; subst this; exact Rd.nil_⟩
 ·exact ⟨_, cap, rfl, h1, h2, Rd.of_own h⟩
end

section
variable {P : Program} {w : World}
theorem run_app (t ty e : TypeId) (i : TypeInfo) (z : Value) (size bytes : Nat) (ht : P.underlying t = some (.slice e)) (hi : P.info? e = some i) (hz : i.zero = some z)
  (hsize : i.size = size) (hby : i.bytes = bytes) (hzs : z.cells.size = size) (hsz : 0 < size)
  (v : Value) (n : Nat) (xs : List Value) (hown : w.ownsRow 0 e size v n xs)
  (A : Option Addr) (m c : Nat) (news : List Value) (hr : Rd w size A m news) (h1 : ∀ u ∈ news, u.oneCell' = true)
  (h63 : n + m ≤ maxLen) (hbytes : (n + m) * bytes ≤ 140737488355328) :
  ∃ v' w', (Builtin.append_ #[t, t] ty #[v, .slice A m c]).run P w = .ok v' w' ∧ w'.ownsRow 0 e size v' (n + m) (xs ++ news) ∧ Mv (rowF v) (rowF v') w w' := by
 rcases A with _ | ad
 ·have hm : m = 0 := by
   rcases Nat.eq_zero_or_pos m with h0 | h0
   ·exact h0
   ·obtain ⟨ad, h, _⟩ := hr.2 h0
    cases h
  subst hm
  have hn : news = [] := List.eq_nil_of_length_eq_zero (by simpa using hr.1)
  subst hn
  refine ⟨v, w, ?_, by simpa using hown, Mv.refl _ _⟩
  rcases hown.2 with ⟨rfl, rfl⟩ | ⟨g, cap, cur, rfl, _, _, hnc, _⟩
  ·simp [Builtin.append_, run_underlying ht, sizeOf, typeInfo, hi, Builtin.lenOf, Builtin.firstCells]
  ·simp [Builtin.append_, run_underlying ht, sizeOf, typeInfo, hi, Builtin.lenOf, Builtin.firstCells, hnc, storeCells]
 ·have hcells : ∀ j u, news[j]? = some u → w.cell? (ad.add j) = some u := by
   intro j u hu
   rcases Nat.eq_zero_or_pos m with h0 | h0
   ·subst h0
    have hn : news = [] := List.eq_nil_of_length_eq_zero (by simpa using hr.1)
    subst hn
    simp at hu
   ·obtain ⟨ad', h, hc⟩ := hr.2 h0
    injection h with h
    subst h
    exact hc j u hu
  obtain ⟨v', w', hrun, h2, h3, _, h5⟩ := run_append_own_at (P := P) w 0 t ty e i z size bytes ht hi hz hsize hby hzs hsz v n xs hown ad m c news hr.1 hcells h1 h63 hbytes (Nat.zero_le _)
  refine ⟨v', w', hrun, h2, ⟨Fr.of_grown h3, fun k hk => ?_⟩⟩
  rcases h5 with h5 | h5
  ·exact .inl (h5.symm.trans hk)
  ·have hk' : v'.ownBlock = some k := hk
   rw [h5] at hk'
   injection hk' with hk'
   exact .inr (by omega)

theorem wpList_app {ops : Array Oper} {rest : List Oper} {o : Oper} {a : Act} {Q : Exit → Act → World → Prop} (hgd : o.guard = none) (s x : Operand) (t : TypeId)
  (ho : o.op = .call { callee := .builtin .append, args := #[s, x], argTypes := #[t, t] })
  (e : TypeId) (i : TypeInfo) (z : Value) (size bytes : Nat) (ht : P.underlying t = some (.slice e)) (hi : P.info? e = some i) (hz : i.zero = some z)
  (hsize : i.size = size) (hby : i.bytes = bytes) (hzs : z.cells.size = size) (hsz : 0 < size)
  (v : Value) (n : Nat) (xs : List Value) (hs : a.eval s = v) (hown : w.ownsRow 0 e size v n xs)
  (A : Option Addr) (m c : Nat) (news : List Value) (hx : a.eval x = .slice A m c) (hr : Rd w size A m news) (h1 : ∀ u ∈ news, u.oneCell' = true)
  (h63 : n + m ≤ maxLen) (hbytes : (n + m) * bytes ≤ 140737488355328)
  (h : ∀ A' c' w', w'.ownsRow 0 e size (.slice A' (n + m) c') (n + m) (xs ++ news) → Mv (rowF v) (rowF (.slice A' (n + m) c')) w w' → wpList P ops Q rest (a.put o.dst (.slice A' (n + m) c')) w') : wpList P ops Q (o :: rest) a w :=
 wpList_plain hgd fun K hK => by
  obtain ⟨v', w', hrun, h2, h3⟩ := run_app (P := P) t o.type e i z size bytes ht hi hz hsize hby hzs hsz v n xs hown A m c news hr h1 h63 hbytes
  obtain ⟨A', c', rfl, _⟩ := own_slice h2
  unfold Oper.wp execOp
  simp only [ho, resolve, invoke, builtin, Sem.run_bind, Sem.run_pure, Result.andThen_ok, List.map_toArray, List.map_cons, List.map_nil, hs, hx, hrun]
  exact hK _ _ (h A' c' w' h2 h3)

end

theorem str_len (s : ByteArray) : s.data.toList.length = s.size := by rw [Array.length_toList]; rfl
/- A contract that says 'w = w'' in a region that draws. -/
section
variable {P : Program} {f : FuncId} {args : Array Value} {w : World}
theorem quiet_left {n : Nat} {v : Value} (h : Calls P f args (w.drewN n) fun e w' => e = .returned v ∧ w.drewN n = w') : Calls P f args (w.drewN n) fun e w'' => e = .returned v ∧ ∃ m, w'' = w.drewN m :=
 h.mono fun _ _ ⟨he, hm⟩ => ⟨he, n, hm.symm⟩
theorem still_left {v : Value} (h : Calls P f args w fun e w' => e = .returned v ∧ w = w') : Calls P f args w fun e w'' => e = .returned v ∧ w'' = w :=
 h.mono fun _ _ ⟨he, hm⟩ => ⟨he, hm.symm⟩
end
theorem setCell_same {w : World} {g i : Nat} {v : Value} (h : w.cell? ⟨g, i, none⟩ = some v) : w.setCell ⟨g, i, none⟩ v = w := by
 obtain ⟨heap, tape, drawn, os, output⟩ := w
 simp only [World.setCell, World.mk.injEq, and_true]
 apply Array.ext_getElem?
 intro k
 rw [Array.getElem?_modify]
 split
 ·subst k
  simp only [World.cell?] at h
  cases hg : heap[g]? with
  | none => rfl
  | some o =>
   rw [hg] at h
   cases o <;> simp at h
   rename_i c t fz
   simp only [Option.map_some, Option.isSome_none, Bool.false_eq_true, if_false, Option.some.injEq, Obj.cells.injEq, and_true]
   apply Array.ext_getElem?
   intro j
   rw [Array.getElem?_setIfInBounds]
   split
   ·subst j
    rw [h]
    have : i < c.size := by
     rcases Nat.lt_or_ge i c.size with h1 | h1
     ·exact h1
     ·rw [Array.getElem?_eq_none h1] at h; cases h
    simp [this]
   ·rfl
 ·rfl

structure Own (w : World) (a : World) (F : Nat → Prop) : Prop where
 bel : Below w.heap.size w a
 new : ∀ k, F k → w.heap.size ≤ k
section
variable {w a b : World} {F F' : Nat → Prop}
theorem Own.mv (h : Own w a F) (m : Mv F F' a b) : Own w b F' :=
 ⟨h.bel.trans (m.fr.below_of h.bel.size h.new), fun k hk => by
  rcases m.sub k hk with h1 | h1
  ·exact h.new k h1
  ·exact Nat.le_trans h.bel.size h1⟩
theorem Own.fr (h : Own w a F) (m : Fr F a b) : Own w b F := ⟨h.bel.trans (m.below_of h.bel.size h.new), h.new⟩
theorem Own.skip (h : Own w a F) (m : Fr (fun _ => False) a b) : Own w b F := ⟨h.bel.trans (m.below_of h.bel.size (fun _ hf => hf.elim)), h.new⟩
theorem Own.below (h : Own w a F) (m : Below a.heap.size a b) : Own w b F := h.skip (Fr.of_below m)
theorem Own.also {G : Nat → Prop} (h : Own w a F) (hg : ∀ k, G k → w.heap.size ≤ k) : Own w a G := ⟨h.bel, hg⟩
theorem Own.start (w : World) : Own w w (fun _ => False) := ⟨Below.refl _ _, fun _ h => h.elim⟩
end
theorem Blk.new' {w : World} {k : Nat} (hk : k = w.heap.size) (t : TypeId) (cs : Array Value) : Blk (w.alloc (.cells cs t)) k t cs := hk ▸ Blk.new w t cs
theorem Fr.b0 {w w' : World} (h : Below w.heap.size w w') : Fr (fun _ => False) w w' := Fr.of_below h
theorem Blk.below {w w' : World} {g : Nat} {t : TypeId} {cs : Array Value} (h : Blk w g t cs) (hb : Below w.heap.size w w') : Blk w' g t cs := h.fr (F := fun _ => False) (Fr.of_below hb) (fun h => h)
theorem cell_2 {w : World} {p : Addr} {v : Value} (h : w.cell? p = some v) : ∀ o1 o2, ((w.alloc o1).alloc o2).cell? p = some v := fun _ _ =>
 (Fr.none_alloc _ _).cell ((Fr.none_alloc _ _).cell h (fun h => h)) (fun h => h)
theorem cell_head (w : World) (v : Value) (t : TypeId) : (w.alloc (.cells #[v] t)).cell? ⟨w.heap.size, 0, none⟩ = some v := (Blk.new w t #[v]).cell 0
theorem Rd.newS {w : World} {k : Nat} (hk : k = w.heap.size) (xs : List Value) (t : TypeId) (n size : Nat) (hn : xs.length = n * size) : Rd (w.alloc (.cells xs.toArray t)) size (some ⟨k, 0, none⟩) n xs := by
 subst hk
 refine ⟨hn, fun _ => ⟨_, rfl, fun j u hu => ?_⟩⟩
 rw [add_lit, Nat.zero_add, (Blk.new w t xs.toArray).cell]
 simpa using hu
theorem add_pos (a : Addr) (n : Nat) (h : n ≠ 0) : a.add n = ⟨a.block, a.off + n, none⟩ := by simp [Addr.add, h]
theorem Rd.take {w : World} {size n : Nat} {A : Option Addr} {xs : List Value} (h : Rd w size A n xs) {k : Nat} (hk : k ≤ n) : Rd w size A k (xs.take (k * size)) := by
 refine ⟨by rw [List.length_take, h.1]; exact Nat.min_eq_left (Nat.mul_le_mul_right _ hk), fun h0 => ?_⟩
 obtain ⟨ad, rfl, hc⟩ := h.2 (by omega)
 refine ⟨ad, rfl, fun j u hu => hc j u ?_⟩
 rw [List.getElem?_take] at hu
 split at hu
 ·exact hu
 ·cases hu
theorem Blk.set3 {w : World} {g : Nat} {t : TypeId} {a0 b0 c0 a b c : Value} (h : Blk w g t #[a0, b0, c0]) : Blk (((w.setCell ⟨g, 0, none⟩ a).setCell ⟨g, 1, none⟩ b).setCell ⟨g, 2, none⟩ c) g t #[a, b, c] := by
 have := ((h.set_ 0 a).set_ 1 b).set_ 2 c
 simpa using this
theorem Fr.set3 {w1 w : World} {F : Nat → Prop} (h : Fr F w1 w) {g : Nat} (hg : F g ∨ w1.heap.size ≤ g) (a b c : Value) : Fr F w1 (((w.setCell ⟨g, 0, none⟩ a).setCell ⟨g, 1, none⟩ b).setCell ⟨g, 2, none⟩ c) :=
 ((h.setCell (p := ⟨g, 0, none⟩) hg a).setCell (p := ⟨g, 1, none⟩) hg b).setCell (p := ⟨g, 2, none⟩) hg c
theorem Blk.set5 {w : World} {g : Nat} {t : TypeId} {a0 b0 c0 d0 e0 a b c d e : Value} (h : Blk w g t #[a0, b0, c0, d0, e0]) : Blk (((((w.setCell ⟨g, 0, none⟩ a).setCell ⟨g, 1, none⟩ b).setCell ⟨g, 2, none⟩ c).setCell ⟨g, 3, none⟩ d).setCell ⟨g, 4, none⟩ e) g t #[a, b, c, d, e] := by
 have := ((((h.set_ 0 a).set_ 1 b).set_ 2 c).set_ 3 d).set_ 4 e
 simpa using this
theorem Fr.set5 {w1 w : World} {F : Nat → Prop} (h : Fr F w1 w) {g : Nat} (hg : F g ∨ w1.heap.size ≤ g) (a b c d e : Value) : Fr F w1 (((((w.setCell ⟨g, 0, none⟩ a).setCell ⟨g, 1, none⟩ b).setCell ⟨g, 2, none⟩ c).setCell ⟨g, 3, none⟩ d).setCell ⟨g, 4, none⟩ e) :=
 ((h.set3 hg a b c).setCell (p := ⟨g, 3, none⟩) hg d).setCell (p := ⟨g, 4, none⟩) hg e
theorem vflat_len {α : Type} {f : α → List Value} {size : Nat} (hf : ∀ x, (f x).length = size) (l : List α) : (l.flatMap f).length = l.length * size := by
 induction l with
 | nil => simp
 | cons a l ih => rw [List.flatMap_cons, List.length_append, ih, hf, List.length_cons, Nat.succ_mul, Nat.add_comm]
theorem vflat_get {α : Type} {f : α → List Value} {size : Nat} (hf : ∀ x, (f x).length = size) {l : List α} {k : Nat} {x : α} (h : l[k]? = some x) (j : Nat) (hj : j < size) : (l.flatMap f)[k * size + j]? = (f x)[j]? := by
 induction l generalizing k with
 | nil => simp at h
 | cons a l ih =>
  rw [List.flatMap_cons]
  rcases k with _ | k
  ·simp only [List.getElem?_cons_zero, Option.some.injEq] at h
   subst h
   rw [Nat.zero_mul, Nat.zero_add, List.getElem?_append_left (by rw [hf]; exact hj)]
  ·simp only [List.getElem?_cons_succ] at h
   rw [List.getElem?_append_right (by rw [hf, Nat.succ_mul]; omega), hf, show (k + 1) * size + j - size = k * size + j by rw [Nat.succ_mul]; omega]
   exact ih h
theorem Rd.elem {α : Type} {f : α → List Value} {w : World} {size n k : Nat} {A : Option Addr} {l : List α} (hf : ∀ x, (f x).length = size) (h : Rd w size A n (l.flatMap f)) (hk : k < n) (hs : 0 < size) :
  ∃ ad x, A = some ad ∧ l[k]? = some x ∧ ∀ j u, (f x)[j]? = some u → w.cell? ((ad.add (k * size)).add j) = some u := by
 have hl : l.length = n := by
  have := h.1
  rw [vflat_len hf] at this
  exact Nat.eq_of_mul_eq_mul_right hs this
 obtain ⟨ad, e, hc⟩ := h.2 (by omega)
 refine ⟨ad, l[k], e, List.getElem?_eq_getElem (by omega), fun j u hu => ?_⟩
 have hj : j < size := by rw [← hf l[k]]; exact (List.getElem?_eq_some_iff.1 hu).1
 rw [add_of_add]
 exact hc _ u (by rw [vflat_get hf (List.getElem?_eq_getElem (show k < l.length by omega)) j hj]; exact hu)
theorem Rd.elems_len {α : Type} {f : α → List Value} {w : World} {size n : Nat} {A : Option Addr} {l : List α} (hf : ∀ x, (f x).length = size) (hs : 0 < size) (h : Rd w size A n (l.flatMap f)) : l.length = n := by
 have := h.1
 rw [vflat_len hf] at this
 exact Nat.eq_of_mul_eq_mul_right hs this
theorem addr_zero (a : Addr) : a.add 0 = a := by simp [Addr.add]
end Go.Proofs.YtbblmmneeafhgaaGreat
