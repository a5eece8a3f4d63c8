/- The plain law of a table: records in order, one a place. -/
import Derived.Test.YteajonicnkpbbaaGreatDoorSame
import Derived.Laws.Externs
import Derived.Maps.RangeWalk
import Derived.Maps.Views
import Derived.Maps.Ext
import Derived.DeepKeys5
import Derived.Test.YteajonicnkpbbaaGreatDoorShelf
import Derived.Shelf.SlSortCmp.NoneTotal
import Derived.StillTailTactics
namespace Go.Proofs.YteajonicnkpbbaaGreatDoor
set_option linter.all false
open Go.RowKit

def klt (a b : RecV) : Prop := a.name.toList < b.name.toList ∨ (a.name = b.name ∧ a.start < b.start)
def skey (a b : RecV) : Prop := a.name = b.name ∧ a.start = b.start
instance (a b : RecV) : Decidable (klt a b) := by unfold klt; infer_instance
instance (a b : RecV) : Decidable (skey a b) := by unfold skey; infer_instance

theorem klt_irrefl (a : RecV) : ¬ klt a a := by
 rintro (h | ⟨_, h⟩)
 ·exact absurd h (List.lt_irrefl _)
 ·omega
theorem klt_trans {a b c : RecV} (h : klt a b) (k : klt b c) : klt a c := by
 rcases h with h | ⟨h1, h2⟩ <;> rcases k with k | ⟨k1, k2⟩
 ·exact .inl (List.lt_trans h k)
 ·exact .inl (k1 ▸ h)
 ·exact .inl (h1 ▸ k)
 ·exact .inr ⟨h1.trans k1, by omega⟩
theorem klt_tri (a b : RecV) : klt a b ∨ skey a b ∨ klt b a := by
 by_cases h : a.name.toList < b.name.toList
 ·exact .inl (.inl h)
 ·by_cases h2 : b.name.toList < a.name.toList
  ·exact .inr (.inr (.inl h2))
  ·have hn : a.name = b.name := toList_inj (List.le_antisymm (List.not_lt.1 h2) (List.not_lt.1 h))
   rcases Int.lt_trichotomy a.start b.start with h3 | h3 | h3
   ·exact .inl (.inr ⟨hn, h3⟩)
   ·exact .inr (.inl ⟨hn, h3⟩)
   ·exact .inr (.inr (.inr ⟨hn.symm, h3⟩))
theorem klt_key {a b c : RecV} (h : skey a b) : klt a c ↔ klt b c := by
 unfold klt; rw [h.1, h.2]
theorem klt_key' {a b c : RecV} (h : skey a b) : klt c a ↔ klt c b := by
 unfold klt; rw [h.1, h.2]
theorem klt_ne {a b : RecV} (h : klt a b) : ¬ skey a b := fun k => klt_irrefl b ((klt_key k).1 h)

def Sorted (l : List RecV) : Prop := l.Pairwise klt
theorem Sorted.nil : Sorted [] := List.Pairwise.nil
theorem Sorted.tail {a : RecV} {l : List RecV} (h : Sorted (a :: l)) : Sorted l := (List.pairwise_cons.1 h).2
theorem Sorted.filter {l : List RecV} (h : Sorted l) (p : RecV → Bool) : Sorted (l.filter p) := List.Pairwise.filter p h
theorem Sorted.inj {l : List RecV} (h : Sorted l) {a b : RecV} (ha : a ∈ l) (hb : b ∈ l) (hk : skey a b) : a = b := by
 induction l with
 | nil => cases ha
 | cons x t ih =>
  obtain ⟨h1, h2⟩ := List.pairwise_cons.1 h
  rcases List.mem_cons.1 ha with rfl | ha' <;> rcases List.mem_cons.1 hb with rfl | hb'
  ·rfl
  ·exact absurd hk (klt_ne (h1 b hb'))
  ·exact absurd ⟨hk.1.symm, hk.2.symm⟩ (klt_ne (h1 a ha'))
  ·exact ih h2 ha' hb'
def findA (l : List RecV) (r : RecV) : Option AggV := (l.find? fun x => decide (skey x r)).map (·.agg)
def insR (mg : Option AggV → AggV → AggV) : List RecV → RecV → List RecV
 | [], r => [⟨r.name, r.start, mg none r.agg⟩]
 | x :: l, r => if klt x r then x :: insR mg l r else if skey x r then ⟨r.name, r.start, mg (some x.agg) r.agg⟩ :: l else ⟨r.name, r.start, mg none r.agg⟩ :: x :: l
theorem findA_none {l : List RecV} {r : RecV} (h : ∀ x ∈ l, ¬ skey x r) : findA l r = none := by
 unfold findA
 rw [List.find?_eq_none.2 (fun x hx => by simpa using h x hx)]
 rfl
theorem findA_some {l : List RecV} (hs : Sorted l) {x r : RecV} (hx : x ∈ l) (hk : skey x r) : findA l r = some x.agg := by
 unfold findA
 cases hf : l.find? fun x => decide (skey x r) with
 | none =>
  have := List.find?_eq_none.1 hf x hx
  simp [hk] at this
 | some y =>
  have h1 := List.mem_of_find?_eq_some hf
  have h2 : skey y r := by simpa using List.find?_some hf
  rw [hs.inj h1 hx ⟨h2.1.trans hk.1.symm, h2.2.trans hk.2.symm⟩]
  rfl
def newR (mg : Option AggV → AggV → AggV) (l : List RecV) (r : RecV) : RecV := ⟨r.name, r.start, mg (findA l r) r.agg⟩
theorem newR_key (mg : Option AggV → AggV → AggV) (l : List RecV) (r : RecV) : skey (newR mg l r) r := ⟨rfl, rfl⟩
theorem mem_insR (mg : Option AggV → AggV → AggV) : ∀ {l : List RecV} {r : RecV}, Sorted l → ∀ y, y ∈ insR mg l r ↔ y = newR mg l r ∨ (y ∈ l ∧ ¬ skey y r)
 | [], r, _, y => by simp [insR, newR, findA]
 | x :: l, r, hs, y => by
  obtain ⟨h1, h2⟩ := List.pairwise_cons.1 hs
  unfold insR
  by_cases c1 : klt x r
  ·have e : findA (x :: l) r = findA l r := by
    unfold findA
    rw [List.find?_cons_of_neg (by simpa using klt_ne c1)]
   rw [if_pos c1]
   have ih := mem_insR mg (r := r) h2 y
   have en : newR mg (x :: l) r = newR mg l r := by unfold newR; rw [e]
   rw [en, List.mem_cons, ih, List.mem_cons]
   have hne := klt_ne c1
   constructor
   ·rintro (rfl | h | ⟨h, k⟩)
    ·exact .inr ⟨.inl rfl, hne⟩
    ·exact .inl h
    ·exact .inr ⟨.inr h, k⟩
   ·rintro (h | ⟨rfl | h, k⟩)
    ·exact .inr (.inl h)
    ·exact .inl rfl
    ·exact .inr (.inr ⟨h, k⟩)
  ·rw [if_neg c1]
   by_cases c2 : skey x r
   ·rw [if_pos c2]
    have e : findA (x :: l) r = some x.agg := findA_some hs (by simp) c2
    have en : newR mg (x :: l) r = ⟨r.name, r.start, mg (some x.agg) r.agg⟩ := by unfold newR; rw [e]
    rw [en, List.mem_cons]
    constructor
    ·rintro (h | h)
     ·exact .inl h
     ·exact .inr ⟨List.mem_cons_of_mem _ h, fun k => klt_ne (h1 y h) ⟨c2.1.trans k.1.symm, c2.2.trans k.2.symm⟩⟩
    ·rintro (h | ⟨h, k⟩)
     ·exact .inl h
     ·rcases List.mem_cons.1 h with rfl | h
      ·exact absurd c2 k
      ·exact .inr h
   ·rw [if_neg c2]
    have hr : klt r x := by
     rcases klt_tri x r with h | h | h
     ·exact absurd h c1
     ·exact absurd h c2
     ·exact h
    have hall : ∀ z ∈ x :: l, ¬ skey z r := by
     intro z hz
     rcases List.mem_cons.1 hz with rfl | hz
     ·exact c2
     ·exact fun k => klt_ne (klt_trans hr (h1 z hz)) ⟨k.1.symm, k.2.symm⟩
    have en : newR mg (x :: l) r = ⟨r.name, r.start, mg none r.agg⟩ := by unfold newR; rw [findA_none hall]
    rw [en, List.mem_cons]
    constructor
    ·rintro (h | h)
     ·exact .inl h
     ·exact .inr ⟨h, hall y h⟩
    ·rintro (h | ⟨h, _⟩)
     ·exact .inl h
     ·exact .inr h
theorem insR_sorted (mg : Option AggV → AggV → AggV) : ∀ {l : List RecV} {r : RecV}, Sorted l → Sorted (insR mg l r)
 | [], r, _ => by simp [insR, Sorted]
 | x :: l, r, hs => by
  obtain ⟨h1, h2⟩ := List.pairwise_cons.1 hs
  unfold insR
  by_cases c1 : klt x r
  ·rw [if_pos c1]
   refine List.pairwise_cons.2 ⟨fun y hy => ?_, insR_sorted mg h2⟩
   rcases (mem_insR mg h2 y).1 hy with rfl | ⟨hy, _⟩
   ·exact (klt_key' (newR_key mg l r)).2 c1
   ·exact h1 y hy
  ·rw [if_neg c1]
   by_cases c2 : skey x r
   ·rw [if_pos c2]
    exact List.pairwise_cons.2 ⟨fun y hy => (klt_key (a := ⟨r.name, r.start, mg (some x.agg) r.agg⟩) (b := x) ⟨c2.1.symm, c2.2.symm⟩).2 (h1 y hy), h2⟩
   ·rw [if_neg c2]
    have hr : klt r x := by
     rcases klt_tri x r with h | h | h
     ·exact absurd h c1
     ·exact absurd h c2
     ·exact h
    refine List.pairwise_cons.2 ⟨fun y hy => ?_, hs⟩
    rcases List.mem_cons.1 hy with rfl | hy
    ·exact hr
    ·exact klt_trans hr (h1 y hy)
end Go.Proofs.YteajonicnkpbbaaGreatDoor
namespace Go.Proofs.YteajonicnkpbbaaGreatDoor
set_option linter.all false
open Go.RowKit

def bothV (a b : AggV) : AggV :=
 if a.count = 0 then b else
 ⟨if a.count < 4611686018427387904 - b.count then a.count + b.count else 4611686018427387904, wrap64 (a.hi + b.hi + (a.lo + b.lo) / 18446744073709551616), (a.lo + b.lo) % 18446744073709551616,
  min a.min b.min, max a.max b.max⟩

def mergeL (l : List AggV) : AggV := l.foldl (fun s x => if aggOk x then bothV s x else s) agg0
end Go.Proofs.YteajonicnkpbbaaGreatDoor
namespace Go.Proofs.YteajonicnkpbbaaGreatDoor
set_option linter.all false
open Go.RowKit
open Go.Maps (Keyed)

def placeV (n : ByteArray) (s : Int) : Value := .agg #[.string n, .int .i64 s]
def encA (a : AggV) : DataW Unit := .agg [.lit (.int .i64 a.count), .lit (.int .i64 a.hi), .lit (.int .u64 a.lo), .lit (.int .i64 a.min), .lit (.int .i64 a.max)]
def aggR : Value → Option (DataW Unit × List MemPlace)
 | .agg ⟨[.int .i64 c, .int .i64 h, .int .u64 l, .int .i64 m, .int .i64 x]⟩ => some (encA ⟨c, h, l, m, x⟩, [])
 | _ => none
theorem laidOutT : laidOutB Tryz.prog = true := by kernel_rfl
theorem placeKeyed : Keyed Tryz.prog 247 := Keyed.of_law (deep_law_gate laidOutT (of_decide_eq_true (by kernel_rfl)) (of_decide_eq_true (by kernel_rfl)) (by kernel_rfl) (by kernel_rfl))

theorem key_place {n : ByteArray} {s : Int} (hn : n.size ≤ maxLen) (hs : in64 s) : keyOf Tryz.prog 247 (placeV n s) = some (.string (keyBytes [.string n.data.toList, .int .i64 s])) := by
 have hk : Tryz.prog.keyType 247 = true := by kernel_rfl
 have hc : Tryz.prog.cellsOf 247 = 2 := by kernel_rfl
 have hcs : Tryz.prog.cellsOf 9 = 1 := by kernel_rfl
 have hci : Tryz.prog.cellsOf 3 = 1 := by kernel_rfl
 have h0 : 0 < Tryz.prog.types.size := of_decide_eq_true (by kernel_rfl)
 obtain ⟨m, hm⟩ : ∃ m, Tryz.prog.types.size = m + 1 := ⟨Tryz.prog.types.size - 1, by omega⟩
 have hw : (Lit.int .i64 s).wf = true := by
  obtain ⟨h1, h2⟩ := hs
  simp [Lit.wf, IntKind.min, IntKind.max, IntKind.bits, IntKind.signed]
  omega
 have hf : (placeV n s).formed Tryz.prog 247 = true := by simp [placeV, Value.formed, Tryz.underlying247, hc]
 unfold keyOf
 rw [Tryz.underlying247]
 simp only
 rw [if_pos (by rw [hk, hf]; rfl), hm]
 simp [placeV, Value.cells, Program.keyLits, Tryz.underlying247, Tryz.underlying9, Tryz.underlying3, hc, hcs, hci, hn, hw]

def kl (r : RecV) : Lit := .string (keyBytes [.string r.name.data.toList, .int .i64 r.start])
theorem kl_some {r : RecV} (h : r.wf) : keyOf Tryz.prog 247 (placeV r.name r.start) = some (kl r) := key_place h.2.2 h.1
theorem kl_key {a b : RecV} (h : skey a b) : kl a = kl b := by unfold kl; rw [h.1, h.2]
theorem kl_inj {a b : RecV} (ha : a.wf) (hb : b.wf) (h : kl a = kl b) : skey a b := by
 have h2 := kl_some hb
 rw [← h] at h2
 have h1 := placeKeyed.inj (kl_some ha) h2
 clear h2
 simp [placeV] at h1
 exact h1
theorem kl_isKey (a : RecV) : WideAt.IsKeyLit (kl a) := trivial

theorem insR_len (mg : Option AggV → AggV → AggV) : ∀ {l : List RecV} {r : RecV}, Sorted l → (insR mg l r).length = if (findA l r).isSome then l.length else l.length + 1
 | [], r, _ => by simp [insR, findA]
 | x :: l, r, hs => by
  obtain ⟨h1, h2⟩ := List.pairwise_cons.1 hs
  unfold insR
  by_cases c1 : klt x r
  ·have e : findA (x :: l) r = findA l r := by
    unfold findA
    rw [List.find?_cons_of_neg (by simpa using klt_ne c1)]
   rw [if_pos c1, e, List.length_cons, insR_len mg h2, List.length_cons]
   split <;> rfl
  ·rw [if_neg c1]
   by_cases c2 : skey x r
   ·rw [if_pos c2, findA_some hs (by simp) c2]
    simp
   ·rw [if_neg c2]
    have hr : klt r x := by
     rcases klt_tri x r with h | h | h
     ·exact absurd h c1
     ·exact absurd h c2
     ·exact h
    rw [findA_none]
    ·simp
    ·intro z hz
     rcases List.mem_cons.1 hz with rfl | hz
     ·exact c2
     ·exact fun k => klt_ne (klt_trans hr (h1 z hz)) ⟨k.1.symm, k.2.symm⟩
structure TabD (l : List RecV) (D : DataW Unit) : Prop where
 tidy : Maps.Tidy D
 sorted : Sorted l
 wf : ∀ r ∈ l, r.wf
 at_ : ∀ r ∈ l, ∀ z, D.atKey (kl r) z = encA r.agg
 has : ∀ k, Maps.has D k = true → ∃ r ∈ l, k = kl r
 size : Maps.size D = l.length
theorem TabD.nil : TabD [] (.map []) := ⟨Maps.tidy_empty, Sorted.nil, fun _ h => (by cases h), fun _ h => (by cases h), fun k h => (by simp [Maps.has_eq] at h), rfl⟩
theorem TabD.hasNo {l : List RecV} {D : DataW Unit} (h : TabD l D) {r : RecV} (hr : r.wf) (hn : ∀ x ∈ l, ¬ skey x r) : Maps.has D (kl r) = false := by
 cases hb : Maps.has D (kl r)
 ·rfl
 ·obtain ⟨x, hx, e⟩ := h.has _ hb
  exact absurd (kl_inj (h.wf x hx) hr e.symm) (hn x hx)
theorem TabD.hasYes {l : List RecV} {D : DataW Unit} (h : TabD l D) {x : RecV} (hx : x ∈ l) : Maps.has D (kl x) = true := Maps.has_true_of_atKey (h.at_ x hx)
theorem findA_isSome {l : List RecV} (hs : Sorted l) {r : RecV} : (findA l r).isSome = true ↔ ∃ x ∈ l, skey x r := by
 constructor
 ·intro h
  refine Classical.byContradiction fun hn => ?_
  rw [findA_none (fun x hx hk => hn ⟨x, hx, hk⟩)] at h
  cases h
 ·rintro ⟨x, hx, hk⟩
  rw [findA_some hs hx hk]; rfl
theorem TabD.put {l : List RecV} {D : DataW Unit} (h : TabD l D) {r : RecV} (hr : r.wf) (mg : Option AggV → AggV → AggV) (hw : (newR mg l r).wf) : TabD (insR mg l r) (D.put (kl r) (encA (newR mg l r).agg)) := by
 have hk := newR_key mg l r
 refine ⟨h.tidy.put (kl_isKey r) _, insR_sorted mg h.sorted, fun x hx => ?_, fun x hx z => ?_, fun k hk' => ?_, ?_⟩
 ·rcases (mem_insR mg h.sorted x).1 hx with rfl | ⟨hx, _⟩
  ·exact hw
  ·exact h.wf x hx
 ·rcases (mem_insR mg h.sorted x).1 hx with rfl | ⟨hx, hne⟩
  ·rw [kl_key hk, Maps.atKey_put_same h.tidy.isMap (kl_isKey r)]
  ·rw [Maps.atKey_put_other (fun e => hne (kl_inj (h.wf x hx) hr e)), h.at_ x hx]
 ·by_cases e : k = kl r
  ·exact ⟨_, (mem_insR mg h.sorted _).2 (.inl rfl), e.trans (kl_key hk).symm⟩
  ·rw [Maps.has_put_other e] at hk'
   obtain ⟨x, hx, rfl⟩ := h.has k hk'
   exact ⟨x, (mem_insR mg h.sorted x).2 (.inr ⟨hx, fun hs => e (kl_key hs)⟩), rfl⟩
 ·rw [Maps.size_put h.tidy, insR_len mg h.sorted, h.size]
  by_cases hx : ∃ x ∈ l, skey x r
  ·rw [if_pos ((findA_isSome h.sorted).2 hx)]
   obtain ⟨x, hx, hs⟩ := hx
   rw [if_pos (by rw [← kl_key hs]; exact h.hasYes hx)]
  ·have hn : ∀ x ∈ l, ¬ skey x r := fun x hx' hk => hx ⟨x, hx', hk⟩
   rw [findA_none hn, if_neg (by rw [h.hasNo hr hn]; simp)]
   rfl
def OwnsT (w : World) (b : Nat) (l : List RecV) : Prop := ∃ D, w.ownsMap Tryz.prog 247 aggR b l.length D ∧ TabD l D
theorem ownsMap_len {w : World} {b n : Nat} {D : DataW Unit} (h : w.ownsMap Tryz.prog 247 aggR b n D) : w.ownsMap Tryz.prog 247 aggR b (Maps.size D) D := by
 obtain ⟨es, clock, hb, hf, _, rfl⟩ := h
 exact ⟨es, clock, hb, hf, by rw [Maps.size_eq, length_sorted]; simp, rfl⟩
theorem OwnsT.of {w : World} {b n : Nat} {l : List RecV} {D : DataW Unit} (h : w.ownsMap Tryz.prog 247 aggR b n D) (ht : TabD l D) : OwnsT w b l := ⟨D, by have := ownsMap_len h; rwa [ht.size] at this, ht⟩
theorem OwnsT.fr {w w' : World} {F : Nat → Prop} {b : Nat} {l : List RecV} (h : OwnsT w b l) (hf : Fr F w w') (hn : ¬ F b) : OwnsT w' b l := by
 obtain ⟨D, ho, ht⟩ := h
 have hlt := ho.lt
 obtain ⟨es, clock, hb, hfit, hs, hD⟩ := ho
 exact ⟨D, ⟨es, clock, (hf.block b hlt hn).trans hb, hfit, hs, hD⟩, ht⟩
theorem OwnsT.lt {w : World} {b : Nat} {l : List RecV} (h : OwnsT w b l) : b < w.heap.size := by obtain ⟨D, ho, _⟩ := h; exact ho.lt
theorem OwnsT.sorted {w : World} {b : Nat} {l : List RecV} (h : OwnsT w b l) : Sorted l := by obtain ⟨D, _, ht⟩ := h; exact ht.sorted
theorem OwnsT.wf {w : World} {b : Nat} {l : List RecV} (h : OwnsT w b l) : ∀ r ∈ l, r.wf := by obtain ⟨D, _, ht⟩ := h; exact ht.wf
end Go.Proofs.YteajonicnkpbbaaGreatDoor
namespace Go.Proofs.YteajonicnkpbbaaGreatDoor
set_option linter.all false
open Go.RowKit

instance : Inhabited RecV := ⟨⟨ByteArray.empty, 0, agg0⟩⟩
end Go.Proofs.YteajonicnkpbbaaGreatDoor
