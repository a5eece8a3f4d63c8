/- A catalogue: what is in it, how it lies, whether it may be. -/
import Derived.Test.YteajonicnkpbbaaGreatDoorPolB
import Derived.Test.YteajonicnkpbbaaGreatDoorSegC
import Derived.Test.YteajonicnkpbbaaGreatDoorReachC
import Derived.Test.YteajonicnkpbbaaGreatDoorTabM
import Derived.Maps.OwnSet
namespace Go.Proofs.YteajonicnkpbbaaGreatDoor
set_option linter.all false
open Go.RowKit

structure EntV where
 id : Int
 tier : Int
 shard : Int
 place : Int
 of_ : Int
 ba : Option Addr
 bn : Nat
 bc : Nat
 bl : List Int
def EntV.cells (x : EntV) : List Value := [.int .u64 x.id, .int .i64 x.tier, .int .i64 x.shard, .int .i64 x.place, .int .i64 x.of_, .slice x.ba x.bn x.bc]
def EntV.val (x : EntV) : Value := .agg #[.int .u64 x.id, .int .i64 x.tier, .int .i64 x.shard, .int .i64 x.place, .int .i64 x.of_, .slice x.ba x.bn x.bc]
def encells (l : List EntV) : List Value := l.flatMap EntV.cells
theorem ent_len (x : EntV) : x.cells.length = 6 := rfl
structure EntV.ok (w : World) (x : EntV) : Prop where
 id : 0 ≤ x.id ∧ x.id < 18446744073709551616
 tier : in64 x.tier
 shard : in64 x.shard
 place : in64 x.place
 of_ : in64 x.of_
 b : Rd w 1 x.ba x.bn (ints x.bl)
 blen : x.bl.length = x.bn
 ble : x.bn ≤ x.bc
 bmax : x.bc ≤ maxLen
 bwf : ∀ y ∈ x.bl, in64 y
theorem EntV.ok.fr0 {w w' : World} {x : EntV} (h : x.ok w) (f : Fr (fun _ => False) w w') : x.ok w' := ⟨h.id, h.tier, h.shard, h.place, h.of_, h.b.fr0 f, h.blen, h.ble, h.bmax, h.bwf⟩
theorem Rd.ent {w : World} {n k : Nat} {A : Option Addr} {l : List EntV} (h : Rd w 6 A n (encells l)) (hk : k < n) :
  ∃ ad x, A = some ad ∧ l[k]? = some x ∧ w.cell? (ad.add (k * 6)) = some (.int .u64 x.id) ∧ w.cell? ⟨(ad.add (k * 6)).block, (ad.add (k * 6)).off + 1, none⟩ = some (.int .i64 x.tier) ∧ w.cell? ⟨(ad.add (k * 6)).block, (ad.add (k * 6)).off + 2, none⟩ = some (.int .i64 x.shard) ∧ w.cell? ⟨(ad.add (k * 6)).block, (ad.add (k * 6)).off + 3, none⟩ = some (.int .i64 x.place) ∧ w.cell? ⟨(ad.add (k * 6)).block, (ad.add (k * 6)).off + 4, none⟩ = some (.int .i64 x.of_) ∧ w.cell? ⟨(ad.add (k * 6)).block, (ad.add (k * 6)).off + 5, none⟩ = some (.slice x.ba x.bn x.bc) := by
 obtain ⟨ad, s, e, hr, hc⟩ := Rd.elem ent_len h hk (by decide)
 refine ⟨ad, s, e, hr, ?_, ?_, ?_, ?_, ?_, ?_⟩
 ·have := hc 0 _ rfl; rwa [addr_zero] at this
 ·have := hc 1 _ rfl; rwa [add_pos _ _ (by decide)] at this
 ·have := hc 2 _ rfl; rwa [add_pos _ _ (by decide)] at this
 ·have := hc 3 _ rfl; rwa [add_pos _ _ (by decide)] at this
 ·have := hc 4 _ rfl; rwa [add_pos _ _ (by decide)] at this
 ·have := hc 5 _ rfl; rwa [add_pos _ _ (by decide)] at this
structure CatV where
 gen : Int
 id : Int
 now : Int
 nm : ByteArray
 pl : List TierV
 fl : List Int
 nm2 : ByteArray
 pl2 : List TierV
 src : List Int
 bound : Int
 done : Int
 es : List EntV
structure CatA where
 pA : Option Addr
 pn : Nat
 pc : Nat
 fA : Option Addr
 fn : Nat
 fc : Nat
 tA : Option Addr
 tn : Nat
 tc : Nat
 sA : Option Addr
 sn : Nat
 sc : Nat
 eA : Option Addr
 en : Nat
 ec : Nat
def catCells (c : CatV) (a : CatA) : Array Value := #[.int .u64 c.gen, .int .u64 c.id, .int .i64 c.now, .string c.nm, .slice a.pA a.pn a.pc, .slice a.fA a.fn a.fc, .string c.nm2, .slice a.tA a.tn a.tc, .slice a.sA a.sn a.sc, .int .i64 c.bound, .int .i64 c.done, .slice a.eA a.en a.ec]
structure CatIn (w : World) (c : CatV) (a : CatA) : Prop where
 gen : 0 ≤ c.gen ∧ c.gen < 18446744073709551616
 id : 0 ≤ c.id ∧ c.id < 18446744073709551616
 now : in64 c.now
 bound : in64 c.bound
 done : in64 c.done
 nm : c.nm.size ≤ maxLen
 nm2 : c.nm2.size ≤ maxLen
 rp : Rd w 4 a.pA a.pn (tcells c.pl)
 rf : Rd w 1 a.fA a.fn (ints c.fl)
 rt : Rd w 4 a.tA a.tn (tcells c.pl2)
 rs : Rd w 1 a.sA a.sn (ints c.src)
 re : Rd w 6 a.eA a.en (encells c.es)
 lp : c.pl.length = a.pn
 lf : c.fl.length = a.fn
 lt : c.pl2.length = a.tn
 ls : c.src.length = a.sn
 le : c.es.length = a.en
 cp : a.pn ≤ a.pc ∧ a.pc ≤ maxLen
 cf : a.fn ≤ a.fc ∧ a.fc ≤ maxLen
 ct : a.tn ≤ a.tc ∧ a.tc ≤ maxLen
 cs : a.sn ≤ a.sc ∧ a.sc ≤ maxLen
 ce : a.en ≤ a.ec ∧ a.ec ≤ maxLen
 wp : ∀ t ∈ c.pl, t.wf
 wt : ∀ t ∈ c.pl2, t.wf
 wf : ∀ x ∈ c.fl, in64 x
 ws : ∀ x ∈ c.src, in64 x
 we : ∀ x ∈ c.es, x.ok w
theorem CatIn.fr0 {w w' : World} {c : CatV} {a : CatA} (h : CatIn w c a) (f : Fr (fun _ => False) w w') : CatIn w' c a :=
 ⟨h.gen, h.id, h.now, h.bound, h.done, h.nm, h.nm2, h.rp.fr0 f, h.rf.fr0 f, h.rt.fr0 f, h.rs.fr0 f, h.re.fr0 f, h.lp, h.lf, h.lt, h.ls, h.le, h.cp, h.cf, h.ct, h.cs, h.ce, h.wp, h.wt, h.wf, h.ws, fun x hx => (h.we x hx).fr0 f⟩
def inB (n most : Int) : Bool := decide (0 ≤ n) && decide (n ≤ most)
def pendB (c : CatV) : Bool := !decide (c.nm2.size = 0) || decide (0 < c.pl2.length)
def plainB (c : CatV) : Bool := (!decide (c.gen = 0) && (inB c.now 1099511627776 && (checkB c.nm c.pl && decide (c.fl.length = c.pl.length)))) && c.fl.all (fun f => inB f 4611686018427387904)
def changeB (c : CatV) : Bool :=
 if pendB c = true then c.src.all (fun s => inB s ((c.pl.length : Int) - 1)) && (checkB c.nm2 c.pl2 && (decide (c.src.length = c.pl2.length) && (inB c.bound 4096 && inB c.done 100)))
 else decide (c.bound = 0) && (decide (c.done = 0) && decide (c.src.length = 0))
def entryB (cid : Int) (x : EntV) : Bool :=
 x.bl.all (fun b => inB b 4095) && ((inB x.tier 9 && (inB x.shard 7 && (decide (1 ≤ x.id) && decide (x.id ≤ cid)))) && (decide (x.place = 0) && (decide (x.of_ = x.bl.length) && (decide (1 ≤ x.of_) && decide (x.of_ ≤ 4096)))))
def placesOf (l : List EntV) : List (Int × Int) := l.map fun x => (x.tier, x.shard)
def blocksOf (l : List EntV) : List Int := l.flatMap EntV.bl
def catB (c : CatV) : Bool := plainB c && (changeB c && (decide (c.es.length ≤ 90) && (c.es.all (entryB c.id) && (decide (placesOf c.es).Nodup && decide (blocksOf c.es).Nodup))))
end Go.Proofs.YteajonicnkpbbaaGreatDoor
namespace Go.Proofs.YteajonicnkpbbaaGreatDoor
set_option linter.all false
open Go.RowKit
open Go.Maps (Keyed int_keyed keyOf_int_mk)

theorem lawI23 : Keyed Tryz.prog 3 := int_keyed Tryz.underlying3
theorem pairKeyed : Keyed Tryz.prog 116 := Keyed.of_law (deep_law_gate laidOutT (of_decide_eq_true (by kernel_rfl)) (of_decide_eq_true (by kernel_rfl)) (by kernel_rfl) (by kernel_rfl))
def pairV (a b : Int) : Value := .agg #[.int .i64 a, .int .i64 b]
def pairL (a b : Int) : Lit := .string (keyBytes [.int .i64 a, .int .i64 b])
theorem wf64 {x : Int} (h : in64 x) : (Lit.int .i64 x).wf = true := by
 obtain ⟨h1, h2⟩ := h
 simp [Lit.wf, IntKind.min, IntKind.max, IntKind.bits, IntKind.signed]
 omega
theorem key_pair {a b : Int} (ha : in64 a) (hb : in64 b) : keyOf Tryz.prog 116 (pairV a b) = some (pairL a b) := by
 have hk : Tryz.prog.keyType 116 = true := by kernel_rfl
 have hc : Tryz.prog.cellsOf 116 = 2 := by kernel_rfl
 have hci : Tryz.prog.cellsOf 3 = 1 := by kernel_rfl
 have h0 : 1 < Tryz.prog.types.size := of_decide_eq_true (by kernel_rfl)
 obtain ⟨m, hm⟩ : ∃ m, Tryz.prog.types.size = m + 1 := ⟨Tryz.prog.types.size - 1, by omega⟩
 have hwa := wf64 ha
 have hwb := wf64 hb
 have hf : (pairV a b).formed Tryz.prog 116 = true := by simp [pairV, Value.formed, Tryz.underlying116, hc]
 unfold keyOf pairL
 rw [Tryz.underlying116]
 simp only
 rw [if_pos (by rw [hk, hf]; rfl), hm]
 simp [pairV, Value.cells, Program.keyLits, Tryz.underlying116, Tryz.underlying3, hc, hci, hwa, hwb]
 refine ⟨[[.int .i64 a], [.int .i64 b]], ?_, rfl⟩
 rw [show List.range 2 = [0, 1] from rfl]
 simp [hwa, hwb]
theorem pair_inj {a b c d : Int} (ha : in64 a) (hb : in64 b) (hc : in64 c) (hd : in64 d) (h : pairL a b = pairL c d) : a = c ∧ b = d := by
 have h2 := key_pair hc hd
 rw [← h] at h2
 have h1 := pairKeyed.inj (key_pair ha hb) h2
 simp [pairV] at h1
 exact h1
theorem addKey_len : ∀ (xs acc : List Lit), (xs.foldl Maps.addKey acc).length ≤ acc.length + xs.length
 | [], acc => by simp
 | x :: xs, acc => by
  have h := addKey_len xs (Maps.addKey acc x)
  have h2 : (Maps.addKey acc x).length ≤ acc.length + 1 := by
   unfold Maps.addKey
   split <;> simp
  simp only [List.foldl_cons, List.length_cons]
  omega
theorem same_eq {a b : Lit} (ha : WideAt.IsKeyLit a) : a.sameKey b = true ↔ a = b := by
 constructor
 ·intro h
  by_cases e : a = b
  ·exact e
  ·rw [Maps.sameKey_ne e] at h
   cases h
 ·rintro rfl
  exact WideAt.sameKey_self ha
theorem addKey_full : ∀ (xs acc : List Lit), (∀ x ∈ xs, WideAt.IsKeyLit x) → (∀ x ∈ acc, WideAt.IsKeyLit x) → acc.Nodup → ((xs.foldl Maps.addKey acc).length = acc.length + xs.length ↔ (acc ++ xs).Nodup)
 | [], acc, _, _, hn => by simp [hn]
 | x :: xs, acc, hx, ha, hn => by
  have hxx := hx x (by simp)
  by_cases hm : x ∈ acc
  ·have h1 : Maps.addKey acc x = acc := by
    unfold Maps.addKey
    rw [if_pos]
    rw [List.any_eq_true]
    exact ⟨x, hm, WideAt.sameKey_self hxx⟩
   have h2 := addKey_len xs acc
   simp only [List.foldl_cons, List.length_cons, h1]
   constructor
   ·intro h; omega
   ·intro h
    exact absurd hm (fun hm => (List.nodup_append.1 h).2.2 x hm x (by simp) rfl)
  ·have h1 : Maps.addKey acc x = acc ++ [x] ∨ Maps.addKey acc x = x :: acc := by
    unfold Maps.addKey
    rw [if_neg]
    ·first | exact .inl rfl | exact .inr rfl
    ·rw [List.any_eq_true]
     rintro ⟨y, hy, h⟩
     rw [same_eq (ha y hy)] at h
     exact hm (h ▸ hy)
   rcases h1 with h1 | h1
   ·have := addKey_full xs (acc ++ [x]) (fun y hy => hx y (List.mem_cons_of_mem _ hy)) (fun y hy => by
     rcases List.mem_append.1 hy with h | h
     ·exact ha y h
     ·rw [List.mem_singleton] at h; rw [h]; exact hxx) (by
     rw [List.nodup_append]
     exact ⟨hn, by simp, fun a ha b hb => by rw [List.mem_singleton] at hb; rw [hb]; exact fun e => hm (e ▸ ha)⟩)
    simp only [List.foldl_cons, List.length_cons, h1]
    rw [List.append_assoc, List.length_append] at this
    simp only [List.length_singleton, List.singleton_append] at this
    rw [← this]
    omega
   ·have := addKey_full xs (x :: acc) (fun y hy => hx y (List.mem_cons_of_mem _ hy)) (fun y hy => by
     rcases List.mem_cons.1 hy with h | h
     ·rw [h]; exact hxx
     ·exact ha y h) (by rw [List.nodup_cons]; exact ⟨hm, hn⟩)
    simp only [List.foldl_cons, List.length_cons, h1]
    rw [List.length_cons] at this
    have hp : (acc ++ x :: xs).Nodup ↔ (x :: acc ++ xs).Nodup := List.Perm.nodup_iff List.perm_middle
    rw [hp, ← this]
    omega
theorem set_full (u : DataW Unit) (xs : List Lit) (h : ∀ x ∈ xs, WideAt.IsKeyLit x) : Maps.size (Maps.setOf u xs) = xs.length ↔ xs.Nodup := by
 rw [Maps.size_setOf u xs h]
 have := addKey_full xs [] h (fun _ h => by cases h) List.nodup_nil
 simpa using this
def intL (x : Int) : Lit := .int .i64 x
theorem nodup_map {α β : Type} {f : α → β} : ∀ {l : List α}, (∀ a ∈ l, ∀ b ∈ l, f a = f b → a = b) → ((l.map f).Nodup ↔ l.Nodup)
 | [], _ => by simp
 | a :: l, h => by
  rw [List.map_cons, List.nodup_cons, List.nodup_cons, nodup_map (fun x hx y hy => h x (List.mem_cons_of_mem _ hx) y (List.mem_cons_of_mem _ hy))]
  have : f a ∈ l.map f ↔ a ∈ l := by
   rw [List.mem_map]
   constructor
   ·rintro ⟨b, hb, e⟩
    rw [h a (by simp) b (List.mem_cons_of_mem _ hb) e.symm]
    exact hb
   ·exact fun ha => ⟨a, ha, rfl⟩
  rw [this]
def SetI (w : World) (b : Nat) (l : List Int) : Prop := w.ownsMap Tryz.prog 3 unitElem b l.length (Maps.setOf (.agg []) (l.map intL) : DataW Unit)
def SetP (w : World) (b : Nat) (l : List (Int × Int)) : Prop := w.ownsMap Tryz.prog 116 unitElem b l.length (Maps.setOf (.agg []) (l.map fun p => pairL p.1 p.2) : DataW Unit)
theorem ownsMap_fr {k : TypeId} {R : Value → Option (DataW Unit × List MemPlace)} {w w' : World} {F : Nat → Prop} {b n : Nat} {D : DataW Unit} (h : w.ownsMap Tryz.prog k R b n D) (f : Fr F w w') (hn : ¬ F b) : w'.ownsMap Tryz.prog k R b n D := by
 have hlt := h.lt
 obtain ⟨es, clock, hb, r⟩ := h
 exact ⟨es, clock, (f.block b hlt hn).trans hb, r⟩
theorem SetI.made (w : World) : SetI (w.alloc (.map #[] 0)) w.heap.size [] := World.ownsMap_made _ _ _ _
theorem SetP.made (w : World) : SetP (w.alloc (.map #[] 0)) w.heap.size [] := World.ownsMap_made _ _ _ _
theorem SetI.fr {w w' : World} {F : Nat → Prop} {b : Nat} {l : List Int} (h : SetI w b l) (f : Fr F w w') (hn : ¬ F b) : SetI w' b l := ownsMap_fr h f hn
theorem SetP.fr {w w' : World} {F : Nat → Prop} {b : Nat} {l : List (Int × Int)} (h : SetP w b l) (f : Fr F w w') (hn : ¬ F b) : SetP w' b l := ownsMap_fr h f hn
theorem SetI.snoc {w : World} {b : Nat} {l : List Int} {x : Int} (h : w.ownsMap Tryz.prog 3 unitElem b (l.length + 1) ((Maps.setOf (.agg []) (l.map intL) : DataW Unit).put (intL x) (.agg []))) : SetI w b (l ++ [x]) := by
 unfold SetI
 rw [List.map_append, List.map_singleton, Maps.setOf_snoc, List.length_append]
 exact h
theorem SetP.snoc {w : World} {b : Nat} {l : List (Int × Int)} {x : Int × Int} (h : w.ownsMap Tryz.prog 116 unitElem b (l.length + 1) ((Maps.setOf (.agg []) (l.map fun p => pairL p.1 p.2) : DataW Unit).put (pairL x.1 x.2) (.agg []))) : SetP w b (l ++ [x]) := by
 unfold SetP
 rw [List.map_append, List.map_singleton, Maps.setOf_snoc, List.length_append]
 exact h
theorem SetI.len {w : World} {b : Nat} {l : List Int} (h : SetI w b l) (hl : ∀ x ∈ l, in64 x) : ∃ s : Nat, (s = l.length ↔ l.Nodup) ∧ ∀ ty, (Builtin.len_ #[112] ty #[.map (some b)]).run Tryz.prog w = .ok (.int .i64 s) w := by
 refine ⟨_, ?_, fun ty => World.ownsMap.len h Tryz.underlying112 ty⟩
 have hk : ∀ x ∈ l.map intL, WideAt.IsKeyLit x := fun x hx => by
  obtain ⟨y, hy, rfl⟩ := List.mem_map.1 hx
  exact trivial
 rw [← nodup_map (f := intL) (fun a _ b _ e => by unfold intL at e; cases e; rfl), ← set_full _ _ hk, List.length_map]
theorem SetP.len {w : World} {b : Nat} {l : List (Int × Int)} (h : SetP w b l) (hl : ∀ x ∈ l, in64 x.1 ∧ in64 x.2) : ∃ s : Nat, (s = l.length ↔ l.Nodup) ∧ ∀ ty, (Builtin.len_ #[113] ty #[.map (some b)]).run Tryz.prog w = .ok (.int .i64 s) w := by
 refine ⟨_, ?_, fun ty => World.ownsMap.len h Tryz.underlying113 ty⟩
 have hk : ∀ x ∈ l.map (fun p => pairL p.1 p.2), WideAt.IsKeyLit x := fun x hx => by
  obtain ⟨y, hy, rfl⟩ := List.mem_map.1 hx
  exact trivial
 rw [← nodup_map (f := fun p : Int × Int => pairL p.1 p.2) (fun a ha b hb e => by
  obtain ⟨h1, h2⟩ := pair_inj (hl a ha).1 (hl a ha).2 (hl b hb).1 (hl b hb).2 e
  exact Prod.ext h1 h2), ← set_full _ _ hk, List.length_map]
end Go.Proofs.YteajonicnkpbbaaGreatDoor
