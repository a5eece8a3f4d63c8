/- Words for lists of lists that are kept (sedimentbook.Book): appends that leave the elder list readable, kinds of kept lists. No program in sight. -/
import Derived.Test.YtbblmmneeafhgaaGreatBase
namespace Go.Proofs.YtbblmmneeafhgaaGreat
set_option linter.all false
open Go.RowKit

section
variable {P : Program} {w : World}
theorem run_app2 (t ty e : TypeId) (i : TypeInfo) (z : Value) (size bytes : Nat) (ht : P.underlying t = some (.slice e)) (hi : P.info? e = some i) (hz : i.zero = some z)
  (hsize : i.size = size) (hby : i.bytes = bytes) (hzs : z.cells.size = size) (hsz : 0 < size)
  (v : Value) (n : Nat) (xs : List Value) (base : Nat) (hbase : base ≤ w.heap.size) (hown : w.ownsRow base e size v n xs)
  (A : Option Addr) (m c : Nat) (news : List Value) (hr : Rd w size A m news) (h1 : ∀ u ∈ news, u.oneCell' = true)
  (h63 : n + m ≤ maxLen) (hbytes : (n + m) * bytes ≤ 140737488355328) :
  ∃ v' w', (Builtin.append_ #[t, t] ty #[v, .slice A m c]).run P w = .ok v' w' ∧ w'.ownsRow base e size v' (n + m) (xs ++ news) ∧ Mv (rowF v) (rowF v') w w' ∧ ∀ A0 c0, v = .slice A0 n c0 → Rd w' size A0 n xs := by
 rcases A with _ | ad
 ·have hm : m = 0 := by
   rcases Nat.eq_zero_or_pos m with h0 | h0
   ·exact h0
   ·obtain ⟨ad, h, _⟩ := hr.2 h0
    cases h
  subst hm
  have hn : news = [] := List.eq_nil_of_length_eq_zero (by simpa using hr.1)
  subst hn
  refine ⟨v, w, ?_, by simpa using hown, Mv.refl _ _, fun A0 c0 e0 => by subst e0; exact Rd.of_own hown⟩
  rcases hown.2 with ⟨rfl, rfl⟩ | ⟨g, cap, cur, rfl, _, _, hnc, _⟩
  ·simp [Builtin.append_, run_underlying ht, sizeOf, typeInfo, hi, Builtin.lenOf, Builtin.firstCells]
  ·simp [Builtin.append_, run_underlying ht, sizeOf, typeInfo, hi, Builtin.lenOf, Builtin.firstCells, hnc, storeCells]
 ·have hcells : ∀ j u, news[j]? = some u → w.cell? (ad.add j) = some u := by
   intro j u hu
   rcases Nat.eq_zero_or_pos m with h0 | h0
   ·subst h0
    have hn : news = [] := List.eq_nil_of_length_eq_zero (by simpa using hr.1)
    subst hn
    simp at hu
   ·obtain ⟨ad', h, hc⟩ := hr.2 h0
    injection h with h
    subst h
    exact hc j u hu
  obtain ⟨v', w', hrun, h2, h3, _, h5⟩ := run_append_own_at (P := P) w base t ty e i z size bytes ht hi hz hsize hby hzs hsz v n xs hown ad m c news hr.1 hcells h1 h63 hbytes hbase
  refine ⟨v', w', hrun, h2, ⟨Fr.of_grown h3, fun k hk => ?_⟩, ?_⟩
  ·rcases h5 with h5 | h5
   ·exact .inl (h5.symm.trans hk)
   ·have hk' : v'.ownBlock = some k := hk
    rw [h5] at hk'
    injection hk' with hk'
    exact .inr (by omega)
  ·intro A0 c0 e0
   rcases hown.2 with ⟨hv, rfl⟩ | ⟨g, cap, cur, hv, hbg, hg, hnc, hcm, hcs, htake⟩
   ·rw [hv] at e0
    injection e0 with e1 e2 e3
    subst e1
    have hx : xs = [] := List.eq_nil_of_length_eq_zero (by simpa using hown.1)
    subst hx
    exact Rd.nil_
   ·rw [hv] at e0
    injection e0 with e1 e2 e3
    subst e1
    subst hv
    by_cases hroom : n + m ≤ cap
    ·have hl : news.length = m * i.size := by rw [hsize]; exact hr.1
     have hr2 := run_append_room (P := P) w t ty e i ht hi g n cap cur hg ad m c news hl hcells h1 hroom (by rw [hl, ← Nat.add_mul, hsize, hcs]; exact Nat.mul_le_mul_right _ hroom)
     rw [hrun] at hr2
     injection hr2 with f1 f2
     subst f1
     have := (Rd.of_own h2).take (k := n) (by omega)
     rwa [show n * size = xs.length by rw [hown.1], List.take_left' rfl] at this
    ·have hxl : xs.length = n * size := hown.1
     have holds : ∀ j u, xs[j]? = some u → w.cell? ((⟨g, 0, none⟩ : Addr).add j) = some u := hown.cells (g := g) rfl
     have hr2 := run_append_grow (P := P) w t ty e i z ht hi hz ⟨g, 0, none⟩ n cap xs (by rw [hsize]; exact hxl) holds ad m c news (by rw [hsize]; exact hr.1) hcells (by omega) (by unfold maxLen at h63; omega) (by rw [hby]; exact growslice_fits (by omega) hbytes)
     rw [hrun] at hr2
     injection hr2 with f1 f2
     subst f2
     exact ((Rd.of_own hown).drew).alloc _

theorem wpList_app2 {ops : Array Oper} {rest : List Oper} {o : Oper} {a : Act} {Q : Exit → Act → World → Prop} (hgd : o.guard = none) (s x : Operand) (t : TypeId)
  (ho : o.op = .call { callee := .builtin .append, args := #[s, x], argTypes := #[t, t] })
  (e : TypeId) (i : TypeInfo) (z : Value) (size bytes : Nat) (ht : P.underlying t = some (.slice e)) (hi : P.info? e = some i) (hz : i.zero = some z)
  (hsize : i.size = size) (hby : i.bytes = bytes) (hzs : z.cells.size = size) (hsz : 0 < size)
  (v : Value) (n : Nat) (xs : List Value) (hs : a.eval s = v) (base : Nat) (hbase : base ≤ w.heap.size) (hown : w.ownsRow base e size v n xs)
  (A : Option Addr) (m c : Nat) (news : List Value) (hx : a.eval x = .slice A m c) (hr : Rd w size A m news) (h1 : ∀ u ∈ news, u.oneCell' = true)
  (h63 : n + m ≤ maxLen) (hbytes : (n + m) * bytes ≤ 140737488355328)
  (h : ∀ A' c' w', w'.ownsRow base e size (.slice A' (n + m) c') (n + m) (xs ++ news) → Mv (rowF v) (rowF (.slice A' (n + m) c')) w w' → (∀ A0 c0, v = .slice A0 n c0 → Rd w' size A0 n xs) → wpList P ops Q rest (a.put o.dst (.slice A' (n + m) c')) w') : wpList P ops Q (o :: rest) a w :=
 wpList_plain hgd fun K hK => by
  obtain ⟨v', w', hrun, h2, h3, h4⟩ := run_app2 (P := P) t o.type e i z size bytes ht hi hz hsize hby hzs hsz v n xs base hbase hown A m c news hr h1 h63 hbytes
  obtain ⟨A', c', rfl, _⟩ := own_slice h2
  unfold Oper.wp execOp
  simp only [ho, resolve, invoke, builtin, Sem.run_bind, Sem.run_pure, Result.andThen_ok, List.map_toArray, List.map_cons, List.map_nil, hs, hx, hrun]
  exact hK _ _ (h A' c' w' h2 h3 h4)
end
theorem own_ty {w : World} {base n size k : Nat} {e : TypeId} {v : Value} {xs : List Value} (h : w.ownsRow base e size v n xs) (hk : rowF v k) : ∃ cs fz, w.heap[k]? = some (.cells cs e fz) := by
 rcases h.2 with ⟨rfl, _⟩ | ⟨g, cap, cur, rfl, _, hg, _⟩
 ·cases hk
 ·have hk' : some g = some k := hk
  injection hk' with hk'
  subst hk'
  exact ⟨_, _, hg⟩
theorem own_le {w : World} {base base' size n : Nat} {e : TypeId} {v : Value} {xs : List Value} (h : w.ownsRow base e size v n xs) (hb : base' ≤ base) : w.ownsRow base' e size v n xs := by
 refine ⟨h.1, ?_⟩
 rcases h.2 with h2 | ⟨g, cap, cur, hv, hg, r⟩
 ·exact .inl h2
 ·exact .inr ⟨g, cap, cur, hv, Nat.le_trans hb hg, r⟩
def Off (w : World) (F : Nat → Prop) (ts : List TypeId) : Prop := ∀ k, F k → ∀ cs t fz, w.heap[k]? = some (.cells cs t fz) → t ∉ ts
theorem Off.none (w : World) (ts : List TypeId) : Off w (fun _ => False) ts := fun _ h => h.elim
theorem Off.row {w : World} {base n size : Nat} {e : TypeId} {v : Value} {xs : List Value} {ts : List TypeId} (h : w.ownsRow base e size v n xs) (hn : e ∉ ts) : Off w (rowF v) ts := fun k hk cs t fz hg => by
 obtain ⟨cs', fz', hg'⟩ := own_ty h hk
 rw [hg] at hg'
 injection hg' with hg'
 injection hg' with _ ht
 subst ht
 exact hn
theorem Off.blk {w : World} {g : Nat} {t : TypeId} {cs : Array Value} {ts : List TypeId} (h : Blk w g t cs) (hn : t ∉ ts) : Off w (fun k => k = g) ts := fun k hk cs' t' fz hg => by
 subst hk
 unfold Blk at h
 rw [h] at hg
 injection hg with hg
 injection hg with _ ht
 subst ht
 exact hn
theorem Off.or {w : World} {F G : Nat → Prop} {ts : List TypeId} (h : Off w F ts) (k : Off w G ts) : Off w (fun i => F i ∨ G i) ts := fun i hi => hi.elim (h i) (k i)
theorem Off.own {w w' : World} {F : Nat → Prop} {ts : List TypeId} {base n size : Nat} {e : TypeId} {v : Value} {xs : List Value} (ho : Off w F ts) (h : w.ownsRow base e size v n xs) (he : e ∈ ts) (hf : Fr F w w') : w'.ownsRow base e size v n xs :=
 own_fr h hf fun k hk hF => by
  obtain ⟨cs, fz, hg⟩ := own_ty h hk
  exact ho k hF _ _ _ hg he
theorem Off.blkf {w w' : World} {F : Nat → Prop} {ts : List TypeId} {g : Nat} {t : TypeId} {cs : Array Value} (ho : Off w F ts) (h : Blk w g t cs) (ht : t ∈ ts) (hf : Fr F w w') : Blk w' g t cs :=
 h.fr hf fun hF => ho g hF _ _ _ h ht

structure HV (α : Type) where
 v : Value
 l : List α
structure Lists {α : Type} (f : α → List Value) (w : World) (base : Nat) (e : TypeId) (size : Nat) (hs : List (HV α)) : Prop where
 own : ∀ h ∈ hs, w.ownsRow base e size h.v h.l.length (h.l.flatMap f)
 apart : hs.Pairwise fun a b => ∀ k, rowF a.v k → ¬ rowF b.v k
def listsF {α : Type} (hs : List (HV α)) : Nat → Prop := fun k => ∃ h ∈ hs, rowF h.v k
structure Kind {α : Type} (f : α → List Value) (w : World) (base : Nat) (E e : TypeId) (size : Nat) (V U : Value) (hs us : List (HV α)) : Prop where
 lists : Lists f w base e size hs
 row : w.ownsRow base E 1 V hs.length (hs.map HV.v)
 wrow : w.ownsRow base E 1 U us.length (us.map HV.v)
 uv : ∀ k, rowF V k → ¬ rowF U k
 was : ∀ h ∈ us, w.ownsRow base e size h.v h.l.length (h.l.flatMap f)
 same : us.map HV.l = hs.map HV.l
section
variable {α : Type} {f : α → List Value} {w w' : World} {base : Nat} {E e : TypeId} {size : Nat} {V U : Value} {hs us : List (HV α)} {F : Nat → Prop}
theorem Off.lists (h : Lists f w base e size hs) {ts : List TypeId} (hn : e ∉ ts) : Off w (listsF hs) ts := fun k ⟨x, hx, hk⟩ => Off.row (h.own x hx) hn k hk
theorem Lists.fr (h : Lists f w base e size hs) (hf : Fr F w w') {ts : List TypeId} (ho : Off w F ts) (he : e ∈ ts) : Lists f w' base e size hs := ⟨fun x hx => ho.own (h.own x hx) he hf, h.apart⟩
theorem Lists.fr0 (h : Lists f w base e size hs) (hf : Fr (fun _ => False) w w') : Lists f w' base e size hs := h.fr hf (Off.none w [e]) (by simp)
theorem Kind.fr (h : Kind f w base E e size V U hs us) (hf : Fr F w w') {ts : List TypeId} (ho : Off w F ts) (hE : E ∈ ts) (he : e ∈ ts) : Kind f w' base E e size V U hs us :=
 ⟨h.lists.fr hf ho he, ho.own h.row hE hf, ho.own h.wrow hE hf, h.uv, fun x hx => ho.own (h.was x hx) he hf, h.same⟩
theorem Kind.fr0 (h : Kind f w base E e size V U hs us) (hf : Fr (fun _ => False) w w') : Kind f w' base E e size V U hs us := h.fr hf (Off.none w [E, e]) (by simp) (by simp)
theorem Kind.nil : Kind f w base E e size (.slice none 0 0) (.slice none 0 0) ([] : List (HV α)) [] :=
 ⟨⟨fun x hx => (by cases hx), List.Pairwise.nil⟩, World.ownsRow_nil _ _ _ _, World.ownsRow_nil _ _ _ _, fun k hk => (by cases hk), fun x hx => (by cases hx), rfl⟩
theorem Kind.len (h : Kind f w base E e size V U hs us) : us.length = hs.length := by have := congrArg List.length h.same; simpa using this
theorem Kind.new (h : Kind f w base E e size V U hs us) : ∀ k, listsF hs k → base ≤ k ∧ k < w.heap.size := fun k ⟨x, hx, hk⟩ => (h.lists.own x hx).lt k hk
end
def setRun (w : World) (g : Nat) : Nat → List Value → World
 | _, [] => w
 | p, u :: us => setRun (w.setCell ⟨g, p, none⟩ u) g (p + 1) us
def setsAt (xs : List Value) : Nat → List Value → List Value
 | _, [] => xs
 | p, u :: us => setsAt (xs.set p u) (p + 1) us
theorem setsAt_mid : ∀ (us A B C : List Value), us.length = B.length → setsAt (A ++ (B ++ C)) A.length us = A ++ (us ++ C)
 | [], A, B, C, h => by
  have : B = [] := List.eq_nil_of_length_eq_zero (by simpa using h.symm)
  subst this
  rfl
 | u :: us, A, [], C, h => by simp at h
 | u :: us, A, b :: B, C, h => by
  have := setsAt_mid us (A ++ [u]) B C (by simpa using h)
  simp only [setsAt]
  rw [show (A ++ (b :: B ++ C)).set A.length u = (A ++ [u]) ++ (B ++ C) by simp, show A.length + 1 = (A ++ [u]).length by simp, this]
  simp
theorem setRun_own {base size n g cap : Nat} {e : TypeId} : ∀ (us : List Value) (p : Nat) (w : World) (xs : List Value) (_ : w.ownsRow base e size (.slice (some ⟨g, 0, none⟩) n cap) n xs),
  (setRun w g p us).ownsRow base e size (.slice (some ⟨g, 0, none⟩) n cap) n (setsAt xs p us)
 | [], _, _, _, h => h
 | u :: us, p, w, xs, h => setRun_own us (p + 1) _ _ (h.stored p u).1
theorem setRun_fr {g : Nat} : ∀ (us : List Value) (p : Nat) (w : World), Fr (fun k => k = g) w (setRun w g p us)
 | [], _, w => Fr.refl _ w
 | u :: us, p, w => ((Fr.refl (fun k => k = g) w).setCell (p := ⟨g, p, none⟩) (.inl rfl) u).trans (setRun_fr us (p + 1) _) (fun _ h => .inl h)
theorem flat_put {α : Type} {f : α → List Value} {size : Nat} (hf : ∀ x, (f x).length = size) (ms l : List α) {j : Nat} {x y : α} (hm : ms[j]? = some y) (hx : l[j]? = some x) :
  setsAt ((ms.take j ++ l.drop j).flatMap f) (j * size) (f y) = (ms.take (j + 1) ++ l.drop (j + 1)).flatMap f := by
 have hjl : j < ms.length := (List.getElem?_eq_some_iff.1 hm).1
 have h1 : l.drop j = x :: l.drop (j + 1) := by
  have hj : j < l.length := (List.getElem?_eq_some_iff.1 hx).1
  rw [List.drop_eq_getElem_cons hj, (List.getElem?_eq_some_iff.1 hx).2]
 have h2 : (ms.take j).flatMap f = (ms.take j).flatMap f := rfl
 have hl : ((ms.take j).flatMap f).length = j * size := by rw [vflat_len hf, List.length_take, Nat.min_eq_left (by omega)]
 rw [h1, List.flatMap_append, List.flatMap_cons, ← hl, setsAt_mid _ _ _ _ (by rw [hf, hf]), take_snoc hm]
 simp

def markedTo {α : Type} (mk : Nat → Nat → List α) (k : Nat) (hs : List (HV α)) : List (HV α) := hs.mapIdx fun i h => if i < k then ⟨h.v, mk i h.l.length⟩ else h
section
variable {α : Type} {f : α → List Value} {mk : Nat → Nat → List α} {w w' : World} {base : Nat} {e : TypeId} {size : Nat} {hs : List (HV α)}
theorem markedTo_len (k : Nat) : (markedTo mk k hs).length = hs.length := by simp [markedTo]
theorem markedTo_get {k i : Nat} {h : HV α} (hi : hs[i]? = some h) : (markedTo mk k hs)[i]? = some (if i < k then ⟨h.v, mk i h.l.length⟩ else h) := by
 unfold markedTo; rw [List.getElem?_mapIdx, hi]; rfl
theorem markedTo_zero : markedTo mk 0 hs = hs := by
 apply List.ext_getElem?
 intro i
 cases hi : hs[i]? with
 | none => unfold markedTo; rw [List.getElem?_mapIdx, hi]; rfl
 | some h => rw [markedTo_get hi]; rfl
theorem markedTo_vs (k : Nat) : (markedTo mk k hs).map HV.v = hs.map HV.v := by
 apply List.ext_getElem?
 intro i
 rw [List.getElem?_map, List.getElem?_map]
 cases hi : hs[i]? with
 | none => unfold markedTo; rw [List.getElem?_mapIdx, hi]; rfl
 | some h =>
  rw [markedTo_get hi]
  simp only [Option.map_some]
  congr 1
  split <;> rfl
theorem apart_of_vs {ps bs : List (HV α)} (h : ps.map HV.v = bs.map HV.v) (ha : ps.Pairwise fun a b => ∀ k, rowF a.v k → ¬ rowF b.v k) : bs.Pairwise fun a b => ∀ k, rowF a.v k → ¬ rowF b.v k := by
 have h1 : (ps.map HV.v).Pairwise fun a b => ∀ k, rowF a k → ¬ rowF b k := List.pairwise_map.2 ha
 rw [h] at h1
 exact List.pairwise_map.1 h1
theorem apart_ne {i j : Nat} {a b : HV α} (h : hs.Pairwise fun a b => ∀ k, rowF a.v k → ¬ rowF b.v k) (ha : hs[i]? = some a) (hb : hs[j]? = some b) (hij : i ≠ j) : ∀ k, rowF a.v k → ¬ rowF b.v k := by
 intro k hka hkb
 obtain ⟨hi, rfl⟩ := List.getElem?_eq_some_iff.1 ha
 obtain ⟨hj, rfl⟩ := List.getElem?_eq_some_iff.1 hb
 rcases Nat.lt_or_ge i j with h1 | h1
 ·exact (List.pairwise_iff_getElem.1 h) i j hi hj h1 k hka hkb
 ·exact (List.pairwise_iff_getElem.1 h) j i hj hi (by omega) k hkb hka
theorem Lists.mark {k : Nat} {h : HV α} (hL : Lists f w base e size (markedTo mk k hs)) (hk : hs[k]? = some h) (hml : ∀ i n, (mk i n).length = n)
  (hf : Fr (rowF h.v) w w') (ho : w'.ownsRow base e size h.v h.l.length ((mk k h.l.length).flatMap f)) : Lists f w' base e size (markedTo mk (k + 1) hs) := by
 refine ⟨fun x hx => ?_, apart_of_vs (by rw [markedTo_vs, markedTo_vs]) hL.apart⟩
 obtain ⟨i, hi⟩ := List.getElem?_of_mem hx
 cases hh : hs[i]? with
 | none => unfold markedTo at hi; rw [List.getElem?_mapIdx, hh] at hi; cases hi
 | some y =>
  rw [markedTo_get hh] at hi
  injection hi with hi
  by_cases hik : i = k
  ·subst hik
   rw [hk] at hh
   injection hh with hh
   subst hh
   rw [if_pos (by omega)] at hi
   subst hi
   simp only [hml]
   exact ho
  ·have hg := markedTo_get (mk := mk) (k := k) hh
   have he : (if i < k + 1 then (⟨y.v, mk i y.l.length⟩ : HV α) else y) = if i < k then ⟨y.v, mk i y.l.length⟩ else y := by
    by_cases h1 : i < k
    ·rw [if_pos (by omega), if_pos h1]
    ·rw [if_neg (by omega), if_neg h1]
   rw [he] at hi
   rw [hi] at hg
   have hk2 := markedTo_get (mk := mk) (k := k) hk
   rw [if_neg (Nat.lt_irrefl k)] at hk2
   refine own_fr (hL.own x (mem_of_get hg)) hf (apart_ne hL.apart hg hk2 hik)
end
section
variable {P : Program} {w : World}
theorem step_app2 {ops : Array Oper} {o : Oper} {a : Act} {K : Act → World → Prop} {Q : Exit → Act → World → Prop} {X : Prop} (hgd : o.guard = none) (s x : Operand) (t : TypeId)
  (ho : o.op = .call { callee := .builtin .append, args := #[s, x], argTypes := #[t, t] })
  (e : TypeId) (i : TypeInfo) (z : Value) (size bytes : Nat) (ht : P.underlying t = some (.slice e)) (hi : P.info? e = some i) (hz : i.zero = some z)
  (hsize : i.size = size) (hby : i.bytes = bytes) (hzs : z.cells.size = size) (hsz : 0 < size)
  (v : Value) (n : Nat) (xs : List Value) (hs : a.eval s = v) (base : Nat) (hbase : base ≤ w.heap.size) (hown : w.ownsRow base e size v n xs)
  (A : Option Addr) (m c : Nat) (news : List Value) (hx : a.eval x = .slice A m c) (hr : Rd w size A m news) (h1 : ∀ u ∈ news, u.oneCell' = true)
  (h63 : n + m ≤ maxLen) (hbytes : (n + m) * bytes ≤ 140737488355328)
  (h : ∀ A' c' w', w'.ownsRow base e size (.slice A' (n + m) c') (n + m) (xs ++ news) → Mv (rowF v) (rowF (.slice A' (n + m) c')) w w' → (∀ A0 c0, v = .slice A0 n c0 → Rd w' size A0 n xs) → K (a.put o.dst (.slice A' (n + m) c')) w') :
  if Region.wanted o (yielded ops a.tmps) = true then Oper.wp P o a w K Q else X := by
 have hw : Region.wanted o (yielded ops a.tmps) = true := by simp [Region.wanted, hgd]
 rw [if_pos hw]
 obtain ⟨v', w', hrun, h2, h3, h4⟩ := run_app2 (P := P) t o.type e i z size bytes ht hi hz hsize hby hzs hsz v n xs base hbase hown A m c news hr h1 h63 hbytes
 obtain ⟨A', c', rfl, _⟩ := own_slice h2
 unfold Oper.wp execOp
 simp only [ho, resolve, invoke, builtin, Sem.run_bind, Sem.run_pure, Result.andThen_ok, List.map_toArray, List.map_cons, List.map_nil, hs, hx, hrun]
 exact h A' c' w' h2 h3 h4
end
theorem Kind.add {α : Type} {f : α → List Value} {w w' : World} {base : Nat} {E e : TypeId} {size : Nat} {V U V' U' v vb : Value} {hs us : List (HV α)} {l : List α} {F : Nat → Prop} (hk : Kind f w base E e size V U hs us)
  (hrow : w'.ownsRow base E 1 V' (hs.length + 1) (hs.map HV.v ++ [v])) (hwrow : w'.ownsRow base E 1 U' (us.length + 1) (us.map HV.v ++ [vb])) (huv : ∀ k, rowF V' k → ¬ rowF U' k)
  (hv : w'.ownsRow base e size v l.length (l.flatMap f)) (hb : w'.ownsRow base e size vb l.length (l.flatMap f)) (hf : Fr F w w') (ho : Off w F [e]) (hd : ∀ h ∈ hs, ∀ k, rowF h.v k → ¬ rowF v k) :
  Kind f w' base E e size V' U' (hs ++ [⟨v, l⟩]) (us ++ [⟨vb, l⟩]) := by
 have hL := hk.lists.fr hf ho (List.mem_singleton.2 rfl)
 refine ⟨⟨fun x hx => ?_, ?_⟩, by simpa using hrow, by simpa using hwrow, huv, fun x hx => ?_, by simp [hk.same]⟩
 ·rcases List.mem_append.1 hx with h | h
  ·exact hL.own x h
  ·rw [List.mem_singleton] at h; subst h; exact hv
 ·rw [List.pairwise_append]
  refine ⟨hL.apart, List.pairwise_singleton _ _, fun a ha b hb' => ?_⟩
  rw [List.mem_singleton] at hb'
  subst hb'
  exact hd a ha
 ·rcases List.mem_append.1 hx with h | h
  ·exact ho.own (hk.was x h) (List.mem_singleton.2 rfl) hf
  ·rw [List.mem_singleton] at h; subst h; exact hb
def Reads {α : Type} (f : α → List Value) (w : World) (size : Nat) (h : HV α) : Prop := ∃ A c, h.v = .slice A h.l.length c ∧ Rd w size A h.l.length (h.l.flatMap f) ∧ (A = none ∨ ∃ g, A = some ⟨g, 0, none⟩)
theorem own_head {w : World} {base n m size c : Nat} {e : TypeId} {A : Option Addr} {xs : List Value} (h : w.ownsRow base e size (.slice A n c) m xs) : A = none ∨ ∃ g, A = some ⟨g, 0, none⟩ := by
 rcases h.2 with ⟨h1, _⟩ | ⟨g, cap, cur, h1, _⟩
 ·injection h1 with h1; exact .inl h1
 ·injection h1 with h1; exact .inr ⟨g, h1⟩
theorem head_sep {A B : Option Addr} {n m c d : Nat} (hA : A = none ∨ ∃ g, A = some ⟨g, 0, none⟩) (hB : B = none ∨ ∃ g, B = some ⟨g, 0, none⟩) (hne : A ≠ B) : ∀ i, rowF (.slice A n c) i → ¬ rowF (.slice B m d) i := by
 intro i h1 h2
 rcases hA with rfl | ⟨g, rfl⟩
 ·cases h1
 ·rcases hB with rfl | ⟨g', rfl⟩
  ·cases h2
  ·have e1 : some g = some i := h1
   have e2 : some g' = some i := h2
   injection e1 with e1
   injection e2 with e2
   subst e1
   subst e2
   exact hne rfl
theorem adF_head {A : Option Addr} {n c : Nat} (k : Nat) (h : adF A n k) : rowF (.slice A n c) k := by
 obtain ⟨_, ad, rfl, rfl⟩ := h
 rfl
section
variable {α : Type} {f : α → List Value} {w w' : World} {base : Nat} {e : TypeId} {size : Nat} {F : Nat → Prop}
theorem Reads.of_own {h : HV α} (ho : w.ownsRow base e size h.v h.l.length (h.l.flatMap f)) : Reads f w size h := by
 obtain ⟨A, c, hv, _, _, hr⟩ := own_slice ho
 refine ⟨A, c, hv, hr, ?_⟩
 rw [hv] at ho
 exact own_head ho
theorem Reads.fr {h : HV α} (hr : Reads f w size h) (hf : Fr F w w') (hn : ∀ k, rowF h.v k → ¬ F k) : Reads f w' size h := by
 obtain ⟨A, c, hv, hr, hh⟩ := hr
 exact ⟨A, c, hv, hr.fr hf (fun k hk => hn k (by rw [hv]; exact adF_head k hk)), hh⟩
theorem Reads.fr0 {h : HV α} (hr : Reads f w size h) (hf : Fr (fun _ => False) w w') : Reads f w' size h := hr.fr hf (fun _ _ h => h)
theorem keep_head {A B : Option Addr} {n m c : Nat} {xs ys : List Value} (hA : A = none ∨ ∃ g, A = some ⟨g, 0, none⟩) (hx : Rd w size A n xs) (hB : B = none ∨ ∃ g, B = some ⟨g, 0, none⟩)
  (hf : Fr (rowF (.slice B m c)) w w') (hk : Rd w' size B m ys) (hnm : n ≤ m) (hp : ys.take (n * size) = xs) : Rd w' size A n xs := by
 by_cases h : A = B
 ·subst h
  have := hk.take hnm
  rwa [hp] at this
 ·exact hx.fr hf fun k hk' => head_sep (n := n) (c := 0) hA hB h k (adF_head k hk')
end
def Grown {α : Type} (f : α → List Value) (w : World) (base : Nat) (e : TypeId) (size : Nat) (mk : Nat → Nat → List α) (B : Nat) (hs gs : List (HV α)) : Prop :=
 (∀ h ∈ hs, Reads f w size h) ∧ (∀ h ∈ gs, w.ownsRow base e size h.v h.l.length (h.l.flatMap f)) ∧ ((∀ h ∈ hs, h.l.length ≤ 1000000) → ∀ h ∈ gs, h.l.length ≤ 1000072) ∧ (∀ (i : Nat) (h : HV α), gs[i]? = some h → h.l = mk i h.l.length) ∧
 ∀ (i : Nat) (h x : HV α), gs[i]? = some h → hs[i]? = some x → ∀ b, rowF h.v b → rowF x.v b ∨ B ≤ b
section
variable {α : Type} {f : α → List Value} {w w' : World} {base B : Nat} {e : TypeId} {size : Nat} {mk : Nat → Nat → List α} {hs gs : List (HV α)} {F : Nat → Prop}
theorem Grown.start (h : ∀ h ∈ hs, Reads f w size h) : Grown f w base e size mk B hs [] :=
 ⟨h, fun x hx => (by cases hx), fun _ x hx => (by cases hx), fun i x hx => by simp at hx, fun i x y hx => by simp at hx⟩
theorem Grown.fr (hg : Grown f w base e size mk B hs gs) (hf : Fr F w w') (ho : Off w F [e]) (hB : ∀ k, F k → B ≤ k) (hlt : ∀ k, listsF hs k → k < B) : Grown f w' base e size mk B hs gs :=
 ⟨fun h hh => (hg.1 h hh).fr hf fun k hk hF => by have := hlt k ⟨h, hh, hk⟩; have := hB k hF; omega, fun h hh => ho.own (hg.2.1 h hh) (by simp) hf, hg.2.2⟩
theorem Grown.whence (hg : Grown f w base e size mk B hs gs) (hl : gs.length = hs.length) : ∀ h ∈ gs, ∀ b, rowF h.v b → listsF hs b ∨ B ≤ b := fun h hh b hb => by
 obtain ⟨i, hi⟩ := List.getElem?_of_mem hh
 have hil : i < gs.length := (List.getElem?_eq_some_iff.1 hi).1
 have hx : hs[i]? = some hs[i] := List.getElem?_eq_getElem (by omega)
 rcases hg.2.2.2.2 i h _ hi hx b hb with h6 | h6
 ·exact .inl ⟨_, mem_of_get hx, h6⟩
 ·exact .inr h6
theorem Grown.step {k : Nat} {x y : HV α} (hg : Grown f w base e size mk B hs gs) (hk : hs[k]? = some x) (hgl : gs.length = k) (hap : hs.Pairwise fun a b => ∀ i, rowF a.v i → ¬ rowF b.v i)
  (hlt : ∀ i, rowF x.v i → i < B) (hb : B ≤ w.heap.size) (hm : Mv (rowF x.v) (rowF y.v) w w') (hx : Reads f w' size x) (hy : w'.ownsRow base e size y.v y.l.length (y.l.flatMap f)) (hyl : y.l.length = x.l.length + 72) (hym : y.l = mk k y.l.length) :
  Grown f w' base e size mk B hs (gs ++ [y]) := by
 obtain ⟨h1, h2, h3, h4, h5⟩ := hg
 have hlast : ∀ (i : Nat) (h : HV α), (gs ++ [y])[i]? = some h → gs[i]? = some h ∨ (i = k ∧ h = y) := by
  intro i h hi
  rcases Nat.lt_or_ge i gs.length with hlt' | hge
  ·rw [List.getElem?_append_left hlt'] at hi; exact .inl hi
  ·rw [List.getElem?_append_right hge] at hi
   have : i - gs.length = 0 := by
    rcases Nat.eq_zero_or_pos (i - gs.length) with h0 | h0
    ·exact h0
    ·rw [List.getElem?_eq_none (by simp; omega)] at hi; cases hi
   rw [this] at hi
   simp only [List.getElem?_cons_zero, Option.some.injEq] at hi
   exact .inr ⟨by omega, hi.symm⟩
 refine ⟨fun h hh => ?_, fun h hh => ?_, fun hall h hh => ?_, fun i h hi => ?_, fun i h x' hi hx' b hb' => ?_⟩
 ·obtain ⟨i, hi⟩ := List.getElem?_of_mem hh
  by_cases hik : i = k
  ·subst hik
   rw [hk] at hi
   injection hi with hi
   subst hi
   exact hx
  ·exact (h1 h hh).fr hm.fr (apart_ne hap hi hk hik)
 ·rcases List.mem_append.1 hh with hh | hh
  ·obtain ⟨i, hi⟩ := List.getElem?_of_mem hh
   have hil : i < gs.length := (List.getElem?_eq_some_iff.1 hi).1
   have hkl : k < hs.length := (List.getElem?_eq_some_iff.1 hk).1
   refine own_fr (h2 h hh) hm.fr fun b hb1 hb2 => ?_
   have hx' : hs[i]? = some hs[i] := List.getElem?_eq_getElem (by omega)
   rcases h5 i h _ hi hx' b hb1 with h6 | h6
   ·exact apart_ne hap hx' hk (by omega) b h6 hb2
   ·have := hlt b hb2; omega
  ·rw [List.mem_singleton] at hh; subst hh; exact hy
 ·rcases List.mem_append.1 hh with hh | hh
  ·exact h3 hall h hh
  ·rw [List.mem_singleton] at hh; subst hh; have := hall x (mem_of_get hk); omega
 ·rcases hlast i h hi with hi | ⟨rfl, rfl⟩
  ·exact h4 i h hi
  ·exact hym
 ·rcases hlast i h hi with hi | ⟨rfl, rfl⟩
  ·exact h5 i h x' hi hx' b hb'
  ·rw [hk] at hx'
   injection hx' with hx'
   subst hx'
   rcases hm.sub b hb' with h6 | h6
   ·exact .inl h6
   ·exact .inr (by omega)
end
theorem Off.apart {w : World} {F G : Nat → Prop} {e : TypeId} (h : Off w F [e]) (hg : ∀ k, G k → ∃ cs fz, w.heap[k]? = some (.cells cs e fz)) : ∀ k, G k → ¬ F k := fun k hk hF => by
 obtain ⟨cs, fz, hh⟩ := hg k hk
 exact h k hF _ _ _ hh (by simp)
theorem Lists.ty {α : Type} {f : α → List Value} {w : World} {base : Nat} {e : TypeId} {size : Nat} {hs : List (HV α)} (h : Lists f w base e size hs) : ∀ k, listsF hs k → ∃ cs fz, w.heap[k]? = some (.cells cs e fz) := fun k ⟨x, hx, hk⟩ => own_ty (h.own x hx) hk
theorem Lists.lt {α : Type} {f : α → List Value} {w : World} {base : Nat} {e : TypeId} {size : Nat} {hs : List (HV α)} (h : Lists f w base e size hs) : ∀ k, listsF hs k → k < w.heap.size := fun k ⟨x, hx, hk⟩ => own_lt (h.own x hx) k hk
theorem listsF_marked {α : Type} {mk : Nat → Nat → List α} {hs : List (HV α)} (m k : Nat) : listsF (markedTo mk m hs) k → listsF hs k := by
 rintro ⟨x, hx, hk⟩
 obtain ⟨i, hi⟩ := List.getElem?_of_mem hx
 cases hh : hs[i]? with
 | none => unfold markedTo at hi; rw [List.getElem?_mapIdx, hh] at hi; cases hi
 | some y =>
  rw [markedTo_get hh] at hi
  injection hi with hi
  refine ⟨y, mem_of_get hh, ?_⟩
  subst hi
  split at hk <;> exact hk
theorem marked_mem {α : Type} {mk : Nat → Nat → List α} {hs : List (HV α)} (hml : ∀ i n, (mk i n).length = n) {P : Nat → Prop} (hl : ∀ h ∈ hs, P h.l.length) : ∀ h ∈ markedTo mk hs.length hs, P h.l.length := by
 intro x hx
 obtain ⟨i, hi⟩ := List.getElem?_of_mem hx
 cases hh : hs[i]? with
 | none => unfold markedTo at hi; rw [List.getElem?_mapIdx, hh] at hi; cases hi
 | some y =>
  rw [markedTo_get hh, if_pos (List.getElem?_eq_some_iff.1 hh).1] at hi
  injection hi with hi
  subst hi
  simp only [hml]
  exact hl y (mem_of_get hh)
theorem marked_at {α : Type} {mk : Nat → Nat → List α} {hs : List (HV α)} (hml : ∀ i n, (mk i n).length = n) : ∀ (i : Nat) (h : HV α), (markedTo mk hs.length hs)[i]? = some h → h.l = mk i h.l.length := by
 intro i x hi
 cases hh : hs[i]? with
 | none => unfold markedTo at hi; rw [List.getElem?_mapIdx, hh] at hi; cases hi
 | some y =>
  rw [markedTo_get hh, if_pos (List.getElem?_eq_some_iff.1 hh).1] at hi
  injection hi with hi
  subst hi
  simp only [hml]
end Go.Proofs.YtbblmmneeafhgaaGreat
