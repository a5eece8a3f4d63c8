/- Words for lists of lists that are kept (sedimentbook.Book): appends that leave the elder list readable, kinds of kept lists. No program in sight. -/
import Derived.Test.YtkickdmiilmkoaaDoorBase
namespace Go.Proofs.YtkickdmiilmkoaaDoor
open Go.RowKit

section
variable {P : Program} {w : World}
/-- As run_app; and the elder slice reads on as it did. -/
theorem run_app2 (t ty e : TypeId) (i : TypeInfo) (z : Value) (size bytes : Nat) (ht : P.underlying t = some (.slice e)) (hi : P.info? e = some i) (hz : i.zero = some z)
    (hsize : i.size = size) (hby : i.bytes = bytes) (hzs : z.cells.size = size) (hsz : 0 < size)
    (v : Value) (n : Nat) (xs : List Value) (base : Nat) (hbase : base ≤ w.heap.size) (hown : w.ownsRow base e size v n xs)
    (A : Option Addr) (m c : Nat) (news : List Value) (hr : Rd w size A m news) (h1 : ∀ u ∈ news, u.oneCell' = true)
    (h63 : n + m ≤ maxLen) (hbytes : (n + m) * bytes ≤ 140737488355328) :
    ∃ v' w', (Builtin.append_ #[t, t] ty #[v, .slice A m c]).run P w = .ok v' w' ∧ w'.ownsRow base e size v' (n + m) (xs ++ news) ∧ Mv (rowF v) (rowF v') w w' ∧ ∀ A0 c0, v = .slice A0 n c0 → Rd w' size A0 n xs := by
  rcases A with _ | ad
  · have hm : m = 0 := by
      rcases Nat.eq_zero_or_pos m with h0 | h0
      · exact h0
      · obtain ⟨ad, h, _⟩ := hr.2 h0
        cases h
    subst hm
    have hn : news = [] := List.eq_nil_of_length_eq_zero (by simpa using hr.1)
    subst hn
    refine ⟨v, w, ?_, by simpa using hown, Mv.refl _ _, fun A0 c0 e0 => by subst e0; exact Rd.of_own hown⟩
    rcases hown.2 with ⟨rfl, rfl⟩ | ⟨g, cap, cur, rfl, _, _, hnc, _⟩
    · simp [Builtin.append_, run_underlying ht, sizeOf, typeInfo, hi, Builtin.lenOf, Builtin.firstCells]
    · simp [Builtin.append_, run_underlying ht, sizeOf, typeInfo, hi, Builtin.lenOf, Builtin.firstCells, hnc, storeCells]
  · have hcells : ∀ j u, news[j]? = some u → w.cell? (ad.add j) = some u := by
      intro j u hu
      rcases Nat.eq_zero_or_pos m with h0 | h0
      · subst h0
        have hn : news = [] := List.eq_nil_of_length_eq_zero (by simpa using hr.1)
        subst hn
        simp at hu
      · obtain ⟨ad', h, hc⟩ := hr.2 h0
        injection h with h
        subst h
        exact hc j u hu
    obtain ⟨v', w', hrun, h2, h3, _, h5⟩ := run_append_own_at (P := P) w base t ty e i z size bytes ht hi hz hsize hby hzs hsz v n xs hown ad m c news hr.1 hcells h1 h63 hbytes hbase
    refine ⟨v', w', hrun, h2, ⟨Fr.of_grown h3, fun k hk => ?_⟩, ?_⟩
    · rcases h5 with h5 | h5
      · exact .inl (h5.symm.trans hk)
      · have hk' : v'.ownBlock = some k := hk
        rw [h5] at hk'
        injection hk' with hk'
        exact .inr (by omega)
    · intro A0 c0 e0
      rcases hown.2 with ⟨hv, rfl⟩ | ⟨g, cap, cur, hv, hbg, hg, hnc, hcm, hcs, htake⟩
      · rw [hv] at e0
        injection e0 with e1 e2 e3
        subst e1
        have hx : xs = [] := List.eq_nil_of_length_eq_zero (by simpa using hown.1)
        subst hx
        exact Rd.nil_
      · rw [hv] at e0
        injection e0 with e1 e2 e3
        subst e1
        subst hv
        by_cases hroom : n + m ≤ cap
        · have hl : news.length = m * i.size := by rw [hsize]; exact hr.1
          have hr2 := run_append_room (P := P) w t ty e i ht hi g n cap cur hg ad m c news hl hcells h1 hroom (by rw [hl, ← Nat.add_mul, hsize, hcs]; exact Nat.mul_le_mul_right _ hroom)
          rw [hrun] at hr2
          injection hr2 with f1 f2
          subst f1
          have := (Rd.of_own h2).take (k := n) (by omega)
          rwa [show n * size = xs.length by rw [hown.1], List.take_left' rfl] at this
        · have hxl : xs.length = n * size := hown.1
          have holds : ∀ j u, xs[j]? = some u → w.cell? ((⟨g, 0, none⟩ : Addr).add j) = some u := hown.cells (g := g) rfl
          have hr2 := run_append_grow (P := P) w t ty e i z ht hi hz ⟨g, 0, none⟩ n cap xs (by rw [hsize]; exact hxl) holds ad m c news (by rw [hsize]; exact hr.1) hcells (by omega) (by unfold maxLen at h63; omega) (by rw [hby]; exact growslice_fits (by omega) hbytes)
          rw [hrun] at hr2
          injection hr2 with f1 f2
          subst f2
          exact ((Rd.of_own hown).drew).alloc _

theorem wpList_app2 {ops : Array Oper} {rest : List Oper} {o : Oper} {a : Act} {Q : Exit → Act → World → Prop} (hgd : o.guard = none) (s x : Operand) (t : TypeId)
    (ho : o.op = .call { callee := .builtin .append, args := #[s, x], argTypes := #[t, t] })
    (e : TypeId) (i : TypeInfo) (z : Value) (size bytes : Nat) (ht : P.underlying t = some (.slice e)) (hi : P.info? e = some i) (hz : i.zero = some z)
    (hsize : i.size = size) (hby : i.bytes = bytes) (hzs : z.cells.size = size) (hsz : 0 < size)
    (v : Value) (n : Nat) (xs : List Value) (hs : a.eval s = v) (base : Nat) (hbase : base ≤ w.heap.size) (hown : w.ownsRow base e size v n xs)
    (A : Option Addr) (m c : Nat) (news : List Value) (hx : a.eval x = .slice A m c) (hr : Rd w size A m news) (h1 : ∀ u ∈ news, u.oneCell' = true)
    (h63 : n + m ≤ maxLen) (hbytes : (n + m) * bytes ≤ 140737488355328)
    (h : ∀ A' c' w', w'.ownsRow base e size (.slice A' (n + m) c') (n + m) (xs ++ news) → Mv (rowF v) (rowF (.slice A' (n + m) c')) w w' → (∀ A0 c0, v = .slice A0 n c0 → Rd w' size A0 n xs) → wpList P ops Q rest (a.put o.dst (.slice A' (n + m) c')) w') : wpList P ops Q (o :: rest) a w :=
  wpList_plain hgd fun K hK => by
    obtain ⟨v', w', hrun, h2, h3, h4⟩ := run_app2 (P := P) t o.type e i z size bytes ht hi hz hsize hby hzs hsz v n xs base hbase hown A m c news hr h1 h63 hbytes
    obtain ⟨A', c', rfl, _⟩ := own_slice h2
    unfold Oper.wp execOp
    simp only [ho, resolve, invoke, builtin, Sem.run_bind, Sem.run_pure, Result.andThen_ok, List.map_toArray, List.map_cons, List.map_nil, hs, hx, hrun]
    exact hK _ _ (h A' c' w' h2 h3 h4)
end
theorem own_ty {w : World} {base n size k : Nat} {e : TypeId} {v : Value} {xs : List Value} (h : w.ownsRow base e size v n xs) (hk : rowF v k) : ∃ cs fz, w.heap[k]? = some (.cells cs e fz) := by
  rcases h.2 with ⟨rfl, _⟩ | ⟨g, cap, cur, rfl, _, hg, _⟩
  · cases hk
  · have hk' : some g = some k := hk
    injection hk' with hk'
    subst hk'
    exact ⟨_, _, hg⟩
/-- No block of F has one of these element types. -/
def Off (w : World) (F : Nat → Prop) (ts : List TypeId) : Prop := ∀ k, F k → ∀ cs t fz, w.heap[k]? = some (.cells cs t fz) → t ∉ ts
theorem Off.none (w : World) (ts : List TypeId) : Off w (fun _ => False) ts := fun _ h => h.elim
theorem Off.row {w : World} {base n size : Nat} {e : TypeId} {v : Value} {xs : List Value} {ts : List TypeId} (h : w.ownsRow base e size v n xs) (hn : e ∉ ts) : Off w (rowF v) ts := fun k hk cs t fz hg => by
  obtain ⟨cs', fz', hg'⟩ := own_ty h hk
  rw [hg] at hg'
  injection hg' with hg'
  injection hg' with _ ht
  subst ht
  exact hn
theorem Off.blk {w : World} {g : Nat} {t : TypeId} {cs : Array Value} {ts : List TypeId} (h : Blk w g t cs) (hn : t ∉ ts) : Off w (fun k => k = g) ts := fun k hk cs' t' fz hg => by
  subst hk
  unfold Blk at h
  rw [h] at hg
  injection hg with hg
  injection hg with _ ht
  subst ht
  exact hn
theorem Off.or {w : World} {F G : Nat → Prop} {ts : List TypeId} (h : Off w F ts) (k : Off w G ts) : Off w (fun i => F i ∨ G i) ts := fun i hi => hi.elim (h i) (k i)
theorem Off.own {w w' : World} {F : Nat → Prop} {ts : List TypeId} {base n size : Nat} {e : TypeId} {v : Value} {xs : List Value} (ho : Off w F ts) (h : w.ownsRow base e size v n xs) (he : e ∈ ts) (hf : Fr F w w') : w'.ownsRow base e size v n xs :=
  own_fr h hf fun k hk hF => by
    obtain ⟨cs, fz, hg⟩ := own_ty h hk
    exact ho k hF _ _ _ hg he
theorem Off.blkf {w w' : World} {F : Nat → Prop} {ts : List TypeId} {g : Nat} {t : TypeId} {cs : Array Value} (ho : Off w F ts) (h : Blk w g t cs) (ht : t ∈ ts) (hf : Fr F w w') : Blk w' g t cs :=
  h.fr hf fun hF => ho g hF _ _ _ h ht

/-- A list that is kept. -/
structure HV (α : Type) where
  v : Value
  l : List α
/-- Lists, each in a row of its own. -/
structure Lists {α : Type} (f : α → List Value) (w : World) (base : Nat) (e : TypeId) (size : Nat) (hs : List (HV α)) : Prop where
  own : ∀ h ∈ hs, w.ownsRow base e size h.v h.l.length (h.l.flatMap f)
  apart : hs.Pairwise fun a b => ∀ k, rowF a.v k → ¬ rowF b.v k
/-- The blocks of lists. -/
def listsF {α : Type} (hs : List (HV α)) : Nat → Prop := fun k => ∃ h ∈ hs, rowF h.v k
/-- The lists of a kind in a book, and what they were. -/
structure Kind {α : Type} (f : α → List Value) (w : World) (base : Nat) (E e : TypeId) (size : Nat) (V U : Value) (hs us : List (HV α)) : Prop where
  lists : Lists f w base e size hs
  row : w.ownsRow base E 1 V hs.length (hs.map HV.v)
  wrow : w.ownsRow base E 1 U us.length (us.map HV.v)
  uv : ∀ k, rowF V k → ¬ rowF U k
  was : ∀ h ∈ us, w.ownsRow base e size h.v h.l.length (h.l.flatMap f)
  same : us.map HV.l = hs.map HV.l
section
variable {α : Type} {f : α → List Value} {w w' : World} {base : Nat} {E e : TypeId} {size : Nat} {V U : Value} {hs us : List (HV α)} {F : Nat → Prop}
theorem Off.lists (h : Lists f w base e size hs) {ts : List TypeId} (hn : e ∉ ts) : Off w (listsF hs) ts := fun k ⟨x, hx, hk⟩ => Off.row (h.own x hx) hn k hk
theorem Lists.fr (h : Lists f w base e size hs) (hf : Fr F w w') {ts : List TypeId} (ho : Off w F ts) (he : e ∈ ts) : Lists f w' base e size hs := ⟨fun x hx => ho.own (h.own x hx) he hf, h.apart⟩
theorem Lists.fr0 (h : Lists f w base e size hs) (hf : Fr (fun _ => False) w w') : Lists f w' base e size hs := h.fr hf (Off.none w [e]) (by simp)
theorem Kind.fr (h : Kind f w base E e size V U hs us) (hf : Fr F w w') {ts : List TypeId} (ho : Off w F ts) (hE : E ∈ ts) (he : e ∈ ts) : Kind f w' base E e size V U hs us :=
  ⟨h.lists.fr hf ho he, ho.own h.row hE hf, ho.own h.wrow hE hf, h.uv, fun x hx => ho.own (h.was x hx) he hf, h.same⟩
theorem Kind.fr0 (h : Kind f w base E e size V U hs us) (hf : Fr (fun _ => False) w w') : Kind f w' base E e size V U hs us := h.fr hf (Off.none w [E, e]) (by simp) (by simp)
theorem Kind.nil : Kind f w base E e size (.slice none 0 0) (.slice none 0 0) ([] : List (HV α)) [] :=
  ⟨⟨fun x hx => (by cases hx), List.Pairwise.nil⟩, World.ownsRow_nil _ _ _ _, World.ownsRow_nil _ _ _ _, fun k hk => (by cases hk), fun x hx => (by cases hx), rfl⟩
theorem Kind.len (h : Kind f w base E e size V U hs us) : us.length = hs.length := by have := congrArg List.length h.same; simpa using this
theorem Kind.new (h : Kind f w base E e size V U hs us) : ∀ k, listsF hs k → base ≤ k ∧ k < w.heap.size := fun k ⟨x, hx, hk⟩ => (h.lists.own x hx).lt k hk
end
end Go.Proofs.YtkickdmiilmkoaaDoor
