/- An api.Policy that came in. -/
import Derived.Test.YteajonicnkpbbaaGreatDoorSegC
import Derived.Test.YteajonicnkpbbaaGreatDoorFills
import Derived.Test.YteajonicnkpbbaaGreatDoorReachC
import Derived.Test.YteajonicnkpbbaaGreatDoorTiersP
import Derived.Test.YteajonicnkpbbaaGreatDoorBookKR
import Derived.Test.YteajonicnkpbbaaGreatDoorTabM
import Derived.Maps.OwnSet
namespace Go.Proofs.YteajonicnkpbbaaGreatDoor
set_option linter.all false
open Go.ChangeShapes Go.WideShapes Go.ChangeAt Go.RowKit

set_option maxRecDepth 100000 in
theorem dat_tier {w : World} {cs : List Value} (h : Dat Tryz.prog w 99 cs) : ∃ t : TierV, cs = t.cells ∧ t.wf := by
 have hl := h.len_ Tryz.underlying99 (show Tryz.prog.cellsOf 99 = 4 by kernel_rfl)
 match cs, hl with
 | [c0, c1, c2, c3], _ =>
  obtain ⟨s, h0, w0⟩ := (h.field_ Tryz.underlying99 0 0 1 rfl rfl (by kernel_rfl)).str_ Tryz.underlying9
  obtain ⟨a, h1, w1⟩ := (h.field_ Tryz.underlying99 1 1 1 rfl rfl (by kernel_rfl)).i64_ Tryz.underlying3
  obtain ⟨b, h2, w2⟩ := (h.field_ Tryz.underlying99 2 2 1 rfl rfl (by kernel_rfl)).i64_ Tryz.underlying3
  obtain ⟨c, h3, w3⟩ := (h.field_ Tryz.underlying99 3 3 1 rfl rfl (by kernel_rfl)).i64_ Tryz.underlying3
  simp at h0 h1 h2 h3
  subst h0 h1 h2 h3
  exact ⟨⟨s, a, b, c⟩, rfl, w1, w2, w3, w0⟩
theorem dat_tiers {w : World} {cs : List Value} (h : Dat Tryz.prog w 23 cs) : ∃ A n c, ∃ l : List TierV, cs = [.slice A n c] ∧ Rd w 4 A n (tcells l) ∧ l.length = n ∧ n ≤ c ∧ c ≤ maxLen ∧ ∀ t ∈ l, t.wf :=
 h.rows_ TierV.cells TierV.wf Tryz.underlying23 (by kernel_rfl) (fun _ h => dat_tier h)
end Go.Proofs.YteajonicnkpbbaaGreatDoor
namespace Go.Proofs.YteajonicnkpbbaaGreatDoor
set_option linter.all false
open Go.ChangeShapes Go.WideShapes Go.ChangeAt Go.RowKit

end Go.Proofs.YteajonicnkpbbaaGreatDoor
namespace Go.Proofs.YteajonicnkpbbaaGreatDoor
set_option linter.all false
open Go.RowKit

end Go.Proofs.YteajonicnkpbbaaGreatDoor
namespace Go.Proofs.YteajonicnkpbbaaGreatDoor
set_option linter.all false
open Go.ChangeShapes Go.WideShapes Go.ChangeAt Go.RowKit

theorem dat_int23 {w : World} {cs : List Value} (h : Dat Tryz.prog w 3 cs) : ∃ x : Int, cs = [.int .i64 x] ∧ in64 x := by
 obtain ⟨x, h1, h2⟩ := h.i64_ Tryz.underlying3
 exact ⟨x, h1, h2⟩
theorem dat_ints23 {w : World} {cs : List Value} (h : Dat Tryz.prog w 26 cs) : ∃ A n c, ∃ l : List Int, cs = [.slice A n c] ∧ Rd w 1 A n (ints l) ∧ l.length = n ∧ n ≤ c ∧ c ≤ maxLen ∧ ∀ t ∈ l, in64 t := by
 obtain ⟨A, n, c, l, e, r, h1⟩ := h.rows_ (fun x : Int => [Value.int .i64 x]) in64 Tryz.underlying26 (show Tryz.prog.cellsOf 3 = 1 by kernel_rfl) (fun _ h => dat_int23 h)
 refine ⟨A, n, c, l, e, ?_, h1⟩
 have e2 : ∀ l : List Int, l.flatMap (fun x : Int => [Value.int .i64 x]) = ints l := fun l => by
  unfold ints
  induction l with
  | nil => rfl
  | cons a l ih => rw [List.flatMap_cons, ih]; rfl
 rwa [e2] at r
set_option maxRecDepth 100000 in
theorem dat_head23 {w : World} {cs : List Value} (h : Dat Tryz.prog w 54 cs) : ∃ id t s p o : Int, cs = [.int .u64 id, .int .i64 t, .int .i64 s, .int .i64 p, .int .i64 o] ∧ (0 ≤ id ∧ id < 18446744073709551616) ∧ in64 t ∧ in64 s ∧ in64 p ∧ in64 o := by
 have hl := h.len_ Tryz.underlying54 (show Tryz.prog.cellsOf 54 = 5 by kernel_rfl)
 match cs, hl with
 | [c0, c1, c2, c3, c4], _ =>
  obtain ⟨a, h0, w0, w0'⟩ := (h.field_ Tryz.underlying54 0 0 1 rfl rfl (by kernel_rfl)).u64_ Tryz.underlying22
  obtain ⟨b, h1, w1⟩ := (h.field_ Tryz.underlying54 1 1 1 rfl rfl (by kernel_rfl)).i64_ Tryz.underlying3
  obtain ⟨c, h2, w2⟩ := (h.field_ Tryz.underlying54 2 2 1 rfl rfl (by kernel_rfl)).i64_ Tryz.underlying3
  obtain ⟨d, h3, w3⟩ := (h.field_ Tryz.underlying54 3 3 1 rfl rfl (by kernel_rfl)).i64_ Tryz.underlying3
  obtain ⟨e, h4, w4⟩ := (h.field_ Tryz.underlying54 4 4 1 rfl rfl (by kernel_rfl)).i64_ Tryz.underlying3
  simp at h0 h1 h2 h3 h4
  subst h0 h1 h2 h3 h4
  exact ⟨a, b, c, d, e, rfl, ⟨w0, by omega⟩, w1, w2, w3, w4⟩
set_option maxRecDepth 100000 in
theorem dat_ent23 {w : World} {cs : List Value} (h : Dat Tryz.prog w 56 cs) : ∃ x : EntV, cs = x.cells ∧ x.ok w := by
 have hl := h.len_ Tryz.underlying56 (show Tryz.prog.cellsOf 56 = 6 by kernel_rfl)
 match cs, hl with
 | [c0, c1, c2, c3, c4, c5], _ =>
  obtain ⟨id, t, s, p, o, h0, w0, w1, w2, w3, w4⟩ := dat_head23 (h.field_ Tryz.underlying56 0 0 5 rfl rfl (by kernel_rfl))
  obtain ⟨A, n, c, l, h1, r1, r2, r3, r4, r5⟩ := dat_ints23 (h.field_ Tryz.underlying56 1 5 1 rfl rfl (by kernel_rfl))
  simp at h0 h1
  obtain ⟨e0, e1, e2, e3, e4⟩ := h0
  subst e0 e1 e2 e3 e4 h1
  exact ⟨⟨id, t, s, p, o, A, n, c, l⟩, rfl, ⟨w0, w1, w2, w3, w4, r1, r2, r3, r4, r5⟩⟩
theorem dat_ents23 {w : World} {cs : List Value} (h : Dat Tryz.prog w 27 cs) : ∃ A n c, ∃ l : List EntV, cs = [.slice A n c] ∧ Rd w 6 A n (encells l) ∧ l.length = n ∧ n ≤ c ∧ c ≤ maxLen ∧ ∀ t ∈ l, t.ok w :=
 h.rows_ EntV.cells (EntV.ok w) Tryz.underlying27 (show Tryz.prog.cellsOf 56 = 6 by kernel_rfl) (fun _ h => dat_ent23 h)
set_option maxRecDepth 100000 in
theorem dat_pol23 {w : World} {cs : List Value} (h : Dat Tryz.prog w 25 cs) : ∃ nm A n c, ∃ l : List TierV, cs = [.string nm, .slice A n c] ∧ nm.size ≤ maxLen ∧ Rd w 4 A n (tcells l) ∧ l.length = n ∧ n ≤ c ∧ c ≤ maxLen ∧ ∀ t ∈ l, t.wf := by
 have hl := h.len_ Tryz.underlying25 (show Tryz.prog.cellsOf 25 = 2 by kernel_rfl)
 match cs, hl with
 | [c0, c1], _ =>
  obtain ⟨s, h0, w0⟩ := (h.field_ Tryz.underlying25 0 0 1 rfl rfl (by kernel_rfl)).str_ Tryz.underlying9
  obtain ⟨A, n, c, l, h1, r1, r2, r3, r4, r5⟩ := dat_tiers (h.field_ Tryz.underlying25 1 1 1 rfl rfl (by kernel_rfl))
  simp at h0 h1
  subst h0 h1
  exact ⟨s, A, n, c, l, rfl, w0, r1, r2, r3, r4, r5⟩
set_option maxRecDepth 100000 in
theorem in_cat {H : Type} {enc : TypeId × Value → H} {w : World} {r : Reach} {b0 : Nat} {v : Value} {d : DataW H} {ps : List MemPlace} (hv : Value.okWide Tryz.prog w r b0 29 v) (h : DataW.Trod enc Tryz.prog w 0 (fun _ => true) true 29 v d ps) :
  ∃ (c : CatV) (a : CatA), v = .agg (catCells c a) ∧ CatIn w c a := by
 obtain ⟨cs, rfl, hcs⟩ := okWide_agg Tryz.underlying29 hv
 have h := Dat.of h
 rw [hcs] at h
 have hl := h.len_ Tryz.underlying29 (show Tryz.prog.cellsOf 29 = 12 by kernel_rfl)
 clear hcs hv
 match cs, hl with
 | [c0, c1, c2, c3, c4, c5, c6, c7, c8, c9, c10, c11], _ =>
  obtain ⟨gen, h0, w0, w0'⟩ := (h.field_ Tryz.underlying29 0 0 1 rfl rfl (by kernel_rfl)).u64_ Tryz.underlying22
  obtain ⟨id, h1, w1, w1'⟩ := (h.field_ Tryz.underlying29 1 1 1 rfl rfl (by kernel_rfl)).u64_ Tryz.underlying22
  obtain ⟨now, h2, w2⟩ := (h.field_ Tryz.underlying29 2 2 1 rfl rfl (by kernel_rfl)).i64_ Tryz.underlying3
  obtain ⟨nm, pA, pn, pc, pl, h3, p0, p1, p2, p3, p4, p5⟩ := dat_pol23 (h.field_ Tryz.underlying29 3 3 2 rfl rfl (by kernel_rfl))
  obtain ⟨fA, fn, fc, fl, h4, f1, f2, f3, f4, f5⟩ := dat_ints23 (h.field_ Tryz.underlying29 4 5 1 rfl rfl (by kernel_rfl))
  obtain ⟨nm2, tA, tn, tc, tl, h5, t0, t1, t2, t3, t4, t5⟩ := dat_pol23 (h.field_ Tryz.underlying29 5 6 2 rfl rfl (by kernel_rfl))
  obtain ⟨sA, sn, sc, sl, h6, s1, s2, s3, s4, s5⟩ := dat_ints23 (h.field_ Tryz.underlying29 6 8 1 rfl rfl (by kernel_rfl))
  obtain ⟨bound, h7, w7⟩ := (h.field_ Tryz.underlying29 7 9 1 rfl rfl (by kernel_rfl)).i64_ Tryz.underlying3
  obtain ⟨done, h8, w8⟩ := (h.field_ Tryz.underlying29 8 10 1 rfl rfl (by kernel_rfl)).i64_ Tryz.underlying3
  obtain ⟨eA, en, ec, el, h9, e1, e2, e3, e4, e5⟩ := dat_ents23 (h.field_ Tryz.underlying29 9 11 1 rfl rfl (by kernel_rfl))
  simp at h0 h1 h2 h3 h4 h5 h6 h7 h8 h9
  obtain ⟨h3, h3'⟩ := h3
  obtain ⟨h5, h5'⟩ := h5
  subst h0 h1 h2 h3 h3' h4 h5 h5' h6 h7 h8 h9
  exact ⟨⟨gen, id, now, nm, pl, fl, nm2, tl, sl, bound, done, el⟩, ⟨pA, pn, pc, fA, fn, fc, tA, tn, tc, sA, sn, sc, eA, en, ec⟩, rfl, ⟨⟨w0, by show gen < _; omega⟩, ⟨w1, by show id < _; omega⟩, w2, w7, w8, p0, t0, p1, f1, t1, s1, e1, p2, f2, t2, s2, e2, ⟨p3, p4⟩, ⟨f3, f4⟩, ⟨t3, t4⟩, ⟨s3, s4⟩, ⟨e3, e4⟩, p5, t5, f5, s5, e5⟩⟩
end Go.Proofs.YteajonicnkpbbaaGreatDoor
namespace Go.Proofs.YteajonicnkpbbaaGreatDoor
set_option linter.all false
open Go.RowKit

theorem own_len {w : World} {base n c g : Nat} {e : TypeId} {xs : List Value} {cs : Array Value} (h : w.ownsRow base e 1 (.slice (some ⟨g, 0, none⟩) n c) n xs) (hB : Blk w g e cs) : n ≤ cs.size := by
 rcases h.2 with ⟨h2, _⟩ | ⟨g', cap, cur, hv, hb, hg, h3, h4, h5, h6⟩
 ·cases h2
 ·injection hv with e1 _ e3
  injection e1 with e1
  injection e1 with e1
  subst e1
  have hB' : w.heap[g]? = some (Obj.cells cs e (0, 0)) := hB
  rw [hg] at hB'
  injection hB' with hB'
  injection hB' with hc _ _
  subst hc
  have h1 := h.1
  have := congrArg List.length h6
  rw [List.length_take, h1, Array.length_toList] at this
  omega
theorem own_set1 {w : World} {base n c g k : Nat} {e : TypeId} {xs : List Value} {v : Value} (h : w.ownsRow base e 1 (.slice (some ⟨g, 0, none⟩) n c) n xs) : (w.setCell ⟨g, k, none⟩ v).ownsRow base e 1 (.slice (some ⟨g, 0, none⟩) n c) n (xs.set k v) := by
 obtain ⟨h1, h2⟩ := h
 refine ⟨by rw [List.length_set]; exact h1, ?_⟩
 rcases h2 with ⟨h2, _⟩ | ⟨g', cap, cur, hv, hb, hg, h3, h4, h5, h6⟩
 ·cases h2
 ·injection hv with e1 _ e3
  injection e1 with e1
  injection e1 with e1
  subst e1 e3
  refine .inr ⟨g, c, cur.setIfInBounds k v, rfl, hb, ?_, h3, h4, by simp [h5], ?_⟩
  ·rw [Sort.setCell_eq]
   unfold Sort.mapBlock
   rw [Array.getElem?_modify, if_pos rfl, hg]
   rfl
  ·rw [← h6, Array.toList_setIfInBounds, List.take_set]
theorem nodup_set {L : List Nat} {k b : Nat} (h : L.Nodup) (hb : b ∉ L) : (L.set k b).Nodup := by
 unfold List.Nodup at h ⊢
 rw [List.pairwise_iff_getElem] at h ⊢
 intro i j hi hj hij
 rw [List.length_set] at hi hj
 rw [List.getElem_set, List.getElem_set]
 split
 ·split
  ·omega
  ·exact fun e => hb (e ▸ List.getElem_mem hj)
 ·split
  ·exact fun e => hb (e ▸ List.getElem_mem hi)
  ·exact h i j hi hj hij
end Go.Proofs.YteajonicnkpbbaaGreatDoor
namespace Go.Proofs.YteajonicnkpbbaaGreatDoor
set_option linter.all false
open Go.RowKit

def BookG (w : World) (g k : Nat) (G L : Nat → Prop) : Prop :=
 ∃ (cs : Array Value) (V U : Value) (hs us : List (HV RecV)), Blk w g 42 cs ∧ cs[4]? = some V ∧ cs[5]? = some U ∧ (∀ j, j < 16 → j ≠ 4 → j ≠ 5 → cs[j]? = some (.slice none 0 0)) ∧
  Kind RecV.cells w 0 181 198 7 V U hs us ∧ hs.length = k ∧ k ≤ 250 ∧ (∀ h ∈ hs, h.l.length ≤ 100000) ∧ (∀ j, G j ↔ j = g ∨ rowF V j ∨ rowF U j) ∧ (∀ j, L j ↔ listsF hs j ∨ listsF us j)
section
variable {w w' : World} {g k : Nat} {G L F : Nat → Prop}
theorem BookG.fr (h : BookG w g k G L) (f : Fr F w w') (hG : ∀ j, G j → ¬ F j) (hL : ∀ j, L j → ¬ F j) : BookG w' g k G L := by
 obtain ⟨cs, V, U, hs, us, h1, h2, h3, h4, h5, h6, h7, h8, h9, h10⟩ := h
 refine ⟨cs, V, U, hs, us, h1.fr f (hG g ((h9 g).2 (.inl rfl))), h2, h3, h4, ⟨⟨fun x hx => own_fr (h5.lists.own x hx) f (fun j hj => hL j ((h10 j).2 (.inl ⟨x, hx, hj⟩))), h5.lists.apart⟩, own_fr h5.row f (fun j hj => hG j ((h9 j).2 (.inr (.inl hj)))), own_fr h5.wrow f (fun j hj => hG j ((h9 j).2 (.inr (.inr hj)))), h5.uv, fun x hx => own_fr (h5.was x hx) f (fun j hj => hL j ((h10 j).2 (.inr ⟨x, hx, hj⟩))), h5.same⟩, h6, h7, h8, h9, h10⟩
theorem BookG.fr0 (h : BookG w g k G L) (f : Fr (fun _ => False) w w') : BookG w' g k G L := h.fr f (fun _ _ h => h) (fun _ _ h => h)
theorem BookG.kind (h : BookG w g k G L) : ∀ j, G j → ∃ cs fz ty, w.heap[j]? = some (.cells cs ty fz) ∧ (ty = 42 ∨ ty = 181) := by
 obtain ⟨cs, V, U, hs, us, h1, h2, h3, h4, h5, h6, h7, h8, h9, h10⟩ := h
 intro j hj
 rcases (h9 j).1 hj with rfl | hj | hj
 ·exact ⟨_, _, _, h1, .inl rfl⟩
 ·obtain ⟨cs', fz, e⟩ := own_ty h5.row hj
  exact ⟨_, _, _, e, .inr rfl⟩
 ·obtain ⟨cs', fz, e⟩ := own_ty h5.wrow hj
  exact ⟨_, _, _, e, .inr rfl⟩
end
end Go.Proofs.YteajonicnkpbbaaGreatDoor
namespace Go.Proofs.YteajonicnkpbbaaGreatDoor
set_option linter.all false
open Go.RowKit
open Go.Maps (Keyed int_keyed keyOf_int_mk)

theorem lawI23 : Keyed Tryz.prog 3 := int_keyed Tryz.underlying3
theorem pairKeyed : Keyed Tryz.prog 116 := Keyed.of_law (deep_law_gate laidOutT (of_decide_eq_true (by kernel_rfl)) (of_decide_eq_true (by kernel_rfl)) (by kernel_rfl) (by kernel_rfl))
def pairV (a b : Int) : Value := .agg #[.int .i64 a, .int .i64 b]
def pairL (a b : Int) : Lit := .string (keyBytes [.int .i64 a, .int .i64 b])
theorem wf64 {x : Int} (h : in64 x) : (Lit.int .i64 x).wf = true := by
 obtain ⟨h1, h2⟩ := h
 simp [Lit.wf, IntKind.min, IntKind.max, IntKind.bits, IntKind.signed]
 omega
theorem key_pair {a b : Int} (ha : in64 a) (hb : in64 b) : keyOf Tryz.prog 116 (pairV a b) = some (pairL a b) := by
 have hk : Tryz.prog.keyType 116 = true := by kernel_rfl
 have hc : Tryz.prog.cellsOf 116 = 2 := by kernel_rfl
 have hci : Tryz.prog.cellsOf 3 = 1 := by kernel_rfl
 have h0 : 1 < Tryz.prog.types.size := of_decide_eq_true (by kernel_rfl)
 obtain ⟨m, hm⟩ : ∃ m, Tryz.prog.types.size = m + 1 := ⟨Tryz.prog.types.size - 1, by omega⟩
 have hwa := wf64 ha
 have hwb := wf64 hb
 have hf : (pairV a b).formed Tryz.prog 116 = true := by simp [pairV, Value.formed, Tryz.underlying116, hc]
 unfold keyOf pairL
 rw [Tryz.underlying116]
 simp only
 rw [if_pos (by rw [hk, hf]; rfl), hm]
 simp [pairV, Value.cells, Program.keyLits, Tryz.underlying116, Tryz.underlying3, hc, hci, hwa, hwb]
 refine ⟨[[.int .i64 a], [.int .i64 b]], ?_, rfl⟩
 rw [show List.range 2 = [0, 1] from rfl]
 simp [hwa, hwb]
theorem pair_inj {a b c d : Int} (ha : in64 a) (hb : in64 b) (hc : in64 c) (hd : in64 d) (h : pairL a b = pairL c d) : a = c ∧ b = d := by
 have h2 := key_pair hc hd
 rw [← h] at h2
 have h1 := pairKeyed.inj (key_pair ha hb) h2
 simp [pairV] at h1
 exact h1
theorem addKey_len : ∀ (xs acc : List Lit), (xs.foldl Maps.addKey acc).length ≤ acc.length + xs.length
 | [], acc => by simp
 | x :: xs, acc => by
  have h := addKey_len xs (Maps.addKey acc x)
  have h2 : (Maps.addKey acc x).length ≤ acc.length + 1 := by
   unfold Maps.addKey
   split <;> simp
  simp only [List.foldl_cons, List.length_cons]
  omega
theorem same_eq {a b : Lit} (ha : WideAt.IsKeyLit a) : a.sameKey b = true ↔ a = b := by
 constructor
 ·intro h
  by_cases e : a = b
  ·exact e
  ·rw [Maps.sameKey_ne e] at h
   cases h
 ·rintro rfl
  exact WideAt.sameKey_self ha
theorem addKey_full : ∀ (xs acc : List Lit), (∀ x ∈ xs, WideAt.IsKeyLit x) → (∀ x ∈ acc, WideAt.IsKeyLit x) → acc.Nodup → ((xs.foldl Maps.addKey acc).length = acc.length + xs.length ↔ (acc ++ xs).Nodup)
 | [], acc, _, _, hn => by simp [hn]
 | x :: xs, acc, hx, ha, hn => by
  have hxx := hx x (by simp)
  by_cases hm : x ∈ acc
  ·have h1 : Maps.addKey acc x = acc := by
    unfold Maps.addKey
    rw [if_pos]
    rw [List.any_eq_true]
    exact ⟨x, hm, WideAt.sameKey_self hxx⟩
   have h2 := addKey_len xs acc
   simp only [List.foldl_cons, List.length_cons, h1]
   constructor
   ·intro h; omega
   ·intro h
    exact absurd hm (fun hm => (List.nodup_append.1 h).2.2 x hm x (by simp) rfl)
  ·have h1 : Maps.addKey acc x = acc ++ [x] ∨ Maps.addKey acc x = x :: acc := by
    unfold Maps.addKey
    rw [if_neg]
    ·first | exact .inl rfl | exact .inr rfl
    ·rw [List.any_eq_true]
     rintro ⟨y, hy, h⟩
     rw [same_eq (ha y hy)] at h
     exact hm (h ▸ hy)
   rcases h1 with h1 | h1
   ·have := addKey_full xs (acc ++ [x]) (fun y hy => hx y (List.mem_cons_of_mem _ hy)) (fun y hy => by
     rcases List.mem_append.1 hy with h | h
     ·exact ha y h
     ·rw [List.mem_singleton] at h; rw [h]; exact hxx) (by
     rw [List.nodup_append]
     exact ⟨hn, by simp, fun a ha b hb => by rw [List.mem_singleton] at hb; rw [hb]; exact fun e => hm (e ▸ ha)⟩)
    simp only [List.foldl_cons, List.length_cons, h1]
    rw [List.append_assoc, List.length_append] at this
    simp only [List.length_singleton, List.singleton_append] at this
    rw [← this]
    omega
   ·have := addKey_full xs (x :: acc) (fun y hy => hx y (List.mem_cons_of_mem _ hy)) (fun y hy => by
     rcases List.mem_cons.1 hy with h | h
     ·rw [h]; exact hxx
     ·exact ha y h) (by rw [List.nodup_cons]; exact ⟨hm, hn⟩)
    simp only [List.foldl_cons, List.length_cons, h1]
    rw [List.length_cons] at this
    have hp : (acc ++ x :: xs).Nodup ↔ (x :: acc ++ xs).Nodup := List.Perm.nodup_iff List.perm_middle
    rw [hp, ← this]
    omega
theorem set_full (u : DataW Unit) (xs : List Lit) (h : ∀ x ∈ xs, WideAt.IsKeyLit x) : Maps.size (Maps.setOf u xs) = xs.length ↔ xs.Nodup := by
 rw [Maps.size_setOf u xs h]
 have := addKey_full xs [] h (fun _ h => by cases h) List.nodup_nil
 simpa using this
def intL (x : Int) : Lit := .int .i64 x
theorem nodup_map {α β : Type} {f : α → β} : ∀ {l : List α}, (∀ a ∈ l, ∀ b ∈ l, f a = f b → a = b) → ((l.map f).Nodup ↔ l.Nodup)
 | [], _ => by simp
 | a :: l, h => by
  rw [List.map_cons, List.nodup_cons, List.nodup_cons, nodup_map (fun x hx y hy => h x (List.mem_cons_of_mem _ hx) y (List.mem_cons_of_mem _ hy))]
  have : f a ∈ l.map f ↔ a ∈ l := by
   rw [List.mem_map]
   constructor
   ·rintro ⟨b, hb, e⟩
    rw [h a (by simp) b (List.mem_cons_of_mem _ hb) e.symm]
    exact hb
   ·exact fun ha => ⟨a, ha, rfl⟩
  rw [this]
def SetI (w : World) (b : Nat) (l : List Int) : Prop := w.ownsMap Tryz.prog 3 unitElem b l.length (Maps.setOf (.agg []) (l.map intL) : DataW Unit)
def SetP (w : World) (b : Nat) (l : List (Int × Int)) : Prop := w.ownsMap Tryz.prog 116 unitElem b l.length (Maps.setOf (.agg []) (l.map fun p => pairL p.1 p.2) : DataW Unit)
theorem ownsMap_fr {k : TypeId} {R : Value → Option (DataW Unit × List MemPlace)} {w w' : World} {F : Nat → Prop} {b n : Nat} {D : DataW Unit} (h : w.ownsMap Tryz.prog k R b n D) (f : Fr F w w') (hn : ¬ F b) : w'.ownsMap Tryz.prog k R b n D := by
 have hlt := h.lt
 obtain ⟨es, clock, hb, r⟩ := h
 exact ⟨es, clock, (f.block b hlt hn).trans hb, r⟩
theorem SetI.made (w : World) : SetI (w.alloc (.map #[] 0)) w.heap.size [] := World.ownsMap_made _ _ _ _
theorem SetP.made (w : World) : SetP (w.alloc (.map #[] 0)) w.heap.size [] := World.ownsMap_made _ _ _ _
theorem SetI.fr {w w' : World} {F : Nat → Prop} {b : Nat} {l : List Int} (h : SetI w b l) (f : Fr F w w') (hn : ¬ F b) : SetI w' b l := ownsMap_fr h f hn
theorem SetP.fr {w w' : World} {F : Nat → Prop} {b : Nat} {l : List (Int × Int)} (h : SetP w b l) (f : Fr F w w') (hn : ¬ F b) : SetP w' b l := ownsMap_fr h f hn
theorem SetI.snoc {w : World} {b : Nat} {l : List Int} {x : Int} (h : w.ownsMap Tryz.prog 3 unitElem b (l.length + 1) ((Maps.setOf (.agg []) (l.map intL) : DataW Unit).put (intL x) (.agg []))) : SetI w b (l ++ [x]) := by
 unfold SetI
 rw [List.map_append, List.map_singleton, Maps.setOf_snoc, List.length_append]
 exact h
theorem SetP.snoc {w : World} {b : Nat} {l : List (Int × Int)} {x : Int × Int} (h : w.ownsMap Tryz.prog 116 unitElem b (l.length + 1) ((Maps.setOf (.agg []) (l.map fun p => pairL p.1 p.2) : DataW Unit).put (pairL x.1 x.2) (.agg []))) : SetP w b (l ++ [x]) := by
 unfold SetP
 rw [List.map_append, List.map_singleton, Maps.setOf_snoc, List.length_append]
 exact h
theorem SetI.len {w : World} {b : Nat} {l : List Int} (h : SetI w b l) (hl : ∀ x ∈ l, in64 x) : ∃ s : Nat, (s = l.length ↔ l.Nodup) ∧ ∀ ty, (Builtin.len_ #[112] ty #[.map (some b)]).run Tryz.prog w = .ok (.int .i64 s) w := by
 refine ⟨_, ?_, fun ty => World.ownsMap.len h Tryz.underlying112 ty⟩
 have hk : ∀ x ∈ l.map intL, WideAt.IsKeyLit x := fun x hx => by
  obtain ⟨y, hy, rfl⟩ := List.mem_map.1 hx
  exact trivial
 rw [← nodup_map (f := intL) (fun a _ b _ e => by unfold intL at e; cases e; rfl), ← set_full _ _ hk, List.length_map]
theorem SetP.len {w : World} {b : Nat} {l : List (Int × Int)} (h : SetP w b l) (hl : ∀ x ∈ l, in64 x.1 ∧ in64 x.2) : ∃ s : Nat, (s = l.length ↔ l.Nodup) ∧ ∀ ty, (Builtin.len_ #[113] ty #[.map (some b)]).run Tryz.prog w = .ok (.int .i64 s) w := by
 refine ⟨_, ?_, fun ty => World.ownsMap.len h Tryz.underlying113 ty⟩
 have hk : ∀ x ∈ l.map (fun p => pairL p.1 p.2), WideAt.IsKeyLit x := fun x hx => by
  obtain ⟨y, hy, rfl⟩ := List.mem_map.1 hx
  exact trivial
 rw [← nodup_map (f := fun p : Int × Int => pairL p.1 p.2) (fun a ha b hb e => by
  obtain ⟨h1, h2⟩ := pair_inj (hl a ha).1 (hl a ha).2 (hl b hb).1 (hl b hb).2 e
  exact Prod.ext h1 h2), ← set_full _ _ hk, List.length_map]
end Go.Proofs.YteajonicnkpbbaaGreatDoor
