/- Walk of sedimentlaw23.CatSpoilt. -/
import Derived.Test.YteajonicnkpbbaaGreatDoorCatO
import Derived.Test.YteajonicnkpbbaaGreatDoorCatA
import Derived.Test.YteajonicnkpbbaaGreatDoorTiersP
import Derived.Test.YteajonicnkpbbaaGreatDoorTk
namespace Go.Proofs.YteajonicnkpbbaaGreatDoor
set_option linter.all false
open Go.RowKit

section
variable {P : Program} {w : World} {ops : Array Oper} {rest : List Oper} {o : Oper} {a : Act} {Q : Exit → Act → World → Prop}
theorem wpList_loadRowG (hw : Region.wanted o (yielded ops a.tmps) = true) (p : Operand) (t : TypeId) (ho : o.op = .load t p) (g : Nat) (vs : Array Value) (hp : a.eval p = .pointer (some ⟨g, 0, none⟩))
  (hrun : (Instr.loadAt t (.pointer (some ⟨g, 0, none⟩))).run P w = .ok (.agg vs) w) (h : wpList P ops Q rest (a.put o.dst (.agg vs)) w) : wpList P ops Q (o :: rest) a w :=
 wpList_step fun K hK => by
  rw [if_pos hw]
  unfold Oper.wp execOp
  simp only [ho, Sem.run_bind, hp, hrun, Result.andThen_ok, Sem.run_pure]
  exact hK _ _ h
end
theorem op_storeMid {P : Program} {w : World} {o : Oper} {a : Act} {next : Act → World → Prop} {Q : Exit → Act → World → Prop} (p x : Operand) (t : TypeId) (ho : o.op = .store t p x) (g q : Nat) (vs : Array Value)
  (hp : a.eval p = .pointer (some ⟨g, q, none⟩)) (hx : a.eval x = .agg vs) (ht : w.there g q vs.size) (hi : (P.info? t).map (·.size) = some vs.size) (h1 : vs.all (·.oneCell') = true)
  (h : next (a.put o.dst undef) (w.setCells g q vs.toList)) : Oper.wp P o a w next Q := by
 have h0 := run_storeVar_mid w g q t vs ht hi h1
 have hrun : (Instr.storeAt t (.pointer (some ⟨g, q, none⟩)) (.agg vs)).run P w = .ok () (w.setCells g q vs.toList) := by
  simp only [Instr.storeAt, Instr.sureAddr, Sem.run_bind, Sem.run_pure, Result.andThen]
  exact h0
 unfold Oper.wp execOp
 simp only [ho, Sem.run_bind, hp, hx, hrun, Result.andThen_ok, Sem.run_pure]
 exact h
theorem tmod_nat {k : Int} {n : Nat} (hk : 0 ≤ k) (hn : 0 < n) : ∃ i : Nat, k.tmod (n : Int) = (i : Int) ∧ i < n := by
 refine ⟨(k % (n : Int)).toNat, ?_, ?_⟩
 ·rw [Int.tmod_eq_emod_of_nonneg hk]
  have := Int.emod_nonneg k (show (n : Int) ≠ 0 by omega)
  omega
 ·have h1 := Int.emod_lt_of_pos k (show (0 : Int) < n by omega)
  have h2 := Int.emod_nonneg k (show (n : Int) ≠ 0 by omega)
  omega
theorem own_cell1 {w : World} {base n c g : Nat} {e : TypeId} {size : Nat} {xs : List Value} (h : w.ownsRow base e size (.slice (some ⟨g, 0, none⟩) n c) n xs) {j : Nat} {u : Value} (hu : xs[j]? = some u) : w.cell? ⟨g, j, none⟩ = some u := by
 have := h.cells (g := g) rfl j u hu
 rwa [show (⟨g, 0, none⟩ : Addr).add j = ⟨g, j, none⟩ by unfold Addr.add; split <;> simp_all] at this
theorem own_frozen {w : World} {base n c g : Nat} {e : TypeId} {size : Nat} {xs : List Value} (h : w.ownsRow base e size (.slice (some ⟨g, 0, none⟩) n c) n xs) (j : Nat) : w.frozen? ⟨g, j, none⟩ = false := by
 rcases h.2 with ⟨hv, _⟩ | ⟨g', cap, cur, hv, _, hg, _⟩
 ·cases hv
 ·injection hv with h1 _ _
  injection h1 with h1
  injection h1 with h1
  subst h1
  simp [World.frozen?, hg]
theorem cat_top {c : CatV} (h : catB c = true) : plainB c = true ∧ changeB c = true ∧ c.es.length ≤ 90 ∧ c.es.all (entryB c.id) = true ∧ (placesOf c.es).Nodup ∧ (blocksOf c.es).Nodup := by
 unfold catB at h
 simpa only [Bool.and_eq_true, decide_eq_true_eq] using h
theorem plain_parts {c : CatV} (h : plainB c = true) : c.gen ≠ 0 ∧ inB c.now 1099511627776 = true ∧ c.fl.length = c.pl.length := by
 unfold plainB at h
 simp only [Bool.and_eq_true, decide_eq_true_eq, Bool.not_eq_true', decide_eq_false_iff_not] at h
 exact ⟨h.1.1, h.1.2.1, h.1.2.2.2⟩
theorem not_cat {c : CatV} (h : catB c = true → False) : catB c = false := by
 cases e : catB c
 ·rfl
 ·exact (h e).elim
theorem spoil_fl {c : CatV} (h : catB c = true) {x : Int} : catB { c with fl := c.fl ++ [x] } = false := not_cat fun e => by
 have h1 := (plain_parts (cat_top h).1).2.2
 have h2 : (c.fl ++ [x]).length = c.pl.length := (plain_parts (cat_top e).1).2.2
 rw [List.length_append, List.length_singleton] at h2
 omega
theorem spoil_now {c : CatV} {x : Int} (hx : x < 0) : catB { c with now := x } = false := not_cat fun e => by
 have h2 : inB x 1099511627776 = true := (plain_parts (cat_top e).1).2.1
 unfold inB at h2
 simp only [Bool.and_eq_true, decide_eq_true_eq] at h2
 omega
theorem change_parts {c : CatV} (h : changeB c = true) (hp : 0 < c.pl2.length) : c.src.length = c.pl2.length ∧ c.src.all (fun s => inB s ((c.pl.length : Int) - 1)) = true := by
 unfold changeB at h
 have e : pendB c = true := by unfold pendB; rw [decide_eq_true hp, Bool.or_true]
 rw [if_pos e] at h
 simp only [Bool.and_eq_true, decide_eq_true_eq] at h
 exact ⟨h.2.2.1, h.1⟩
theorem spoil_src {c : CatV} (hp : 0 < c.pl2.length) {i : Nat} (hi : i < c.src.length) : catB { c with src := c.src.set i (c.pl.length : Nat) } = false := not_cat fun e => by
 have h := (change_parts (cat_top e).2.1 hp).2
 have hm : ((c.pl.length : Nat) : Int) ∈ c.src.set i (c.pl.length : Nat) := List.mem_set hi _
 have h2 := List.all_eq_true.1 h _ hm
 unfold inB at h2
 simp only [Bool.and_eq_true, decide_eq_true_eq] at h2
 have h3 : ((c.pl.length : Nat) : Int) ≤ (c.pl.length : Int) - 1 := h2.2
 omega
theorem ent_addr {w : World} {n : Nat} {A : Option Addr} {l : List EntV} (h : Rd w 6 A n (encells l)) (hn : 0 < n) : ∃ ad, A = some ad := by
 obtain ⟨ad, hA, _⟩ := h.2 hn
 exact ⟨ad, hA⟩
theorem ent_at {w : World} {n k : Nat} {ad : Addr} {l : List EntV} {x : EntV} (h : Rd w 6 (some ad) n (encells l)) (hk : k < n) (hx : l[k]? = some x) :
  w.cell? (ad.add (k * 6)) = some (.int .u64 x.id) ∧ w.cell? ⟨(ad.add (k * 6)).block, (ad.add (k * 6)).off + 1, none⟩ = some (.int .i64 x.tier) ∧ w.cell? ⟨(ad.add (k * 6)).block, (ad.add (k * 6)).off + 2, none⟩ = some (.int .i64 x.shard) ∧ w.cell? ⟨(ad.add (k * 6)).block, (ad.add (k * 6)).off + 3, none⟩ = some (.int .i64 x.place) ∧ w.cell? ⟨(ad.add (k * 6)).block, (ad.add (k * 6)).off + 4, none⟩ = some (.int .i64 x.of_) ∧ w.cell? ⟨(ad.add (k * 6)).block, (ad.add (k * 6)).off + 5, none⟩ = some (.slice x.ba x.bn x.bc) := by
 obtain ⟨ad', e', hA, hl, hc⟩ := Rd.ent h hk
 injection hA with hA
 subst hA
 rw [hx] at hl
 injection hl with hl
 subst hl
 exact hc
theorem encells_one (l : List EntV) : ∀ u ∈ encells l, u.oneCell' = true := by
 intro u hu
 obtain ⟨x, _, hx⟩ := List.mem_flatMap.1 hu
 simp only [EntV.cells, List.mem_cons, List.not_mem_nil, or_false] at hx
 rcases hx with rfl | rfl | rfl | rfl | rfl | rfl <;> rfl
theorem spoil_u {c : CatV} {i : Nat} {e : EntV} (he : c.es[i]? = some e) : catB { c with es := c.es ++ [e] } = false := not_cat fun h => by
 have h1 : (placesOf (c.es ++ [e])).Nodup := (cat_top h).2.2.2.2.1
 unfold placesOf at h1
 rw [List.map_append, List.nodup_append] at h1
 exact h1.2.2 _ (List.mem_map.2 ⟨e, List.mem_of_getElem? he, rfl⟩) _ (List.mem_singleton.2 rfl) rfl
theorem spoil_v {c : CatV} {i : Nat} {e : EntV} {b : Int} (hi : i < c.es.length) (hb : b ∈ e.bl) {e2 : EntV} (h2 : e2.bl = e.bl ++ [b]) : catB { c with es := c.es.set i e2 } = false := not_cat fun h => by
 have h1 : (blocksOf (c.es.set i e2)).Nodup := (cat_top h).2.2.2.2.2
 unfold blocksOf List.Nodup at h1
 have h3 := (List.pairwise_flatMap.1 h1).1 e2 (List.mem_set hi _)
 rw [h2] at h3
 have h4 : (e.bl ++ [b]).Nodup := h3
 rw [List.nodup_append] at h4
 exact h4.2.2 _ hb _ (List.mem_singleton.2 rfl) rfl
theorem entry_bl {c : CatV} {i : Nat} {e : EntV} (h : catB c = true) (he : c.es[i]? = some e) : 0 < e.bl.length ∧ e.bl.length ≤ 4096 := by
 have h1 := List.all_eq_true.1 (cat_top h).2.2.2.1 e (List.mem_of_getElem? he)
 unfold entryB at h1
 simp only [Bool.and_eq_true, decide_eq_true_eq] at h1
 have := h1.2.2.2.1
 have := h1.2.2.2.2
 omega
theorem set6at {w1 w : World} {F : Nat → Prop} (h : Fr F w1 w) {g : Nat} (hg : F g ∨ w1.heap.size ≤ g) (p : Nat) (a b c d e f : Value) : Fr F w1 ((((((w.setCell ⟨g, p, none⟩ a).setCell ⟨g, p + 1, none⟩ b).setCell ⟨g, p + 2, none⟩ c).setCell ⟨g, p + 3, none⟩ d).setCell ⟨g, p + 4, none⟩ e).setCell ⟨g, p + 5, none⟩ f) :=
 (((((h.setCell (p := ⟨g, p, none⟩) hg a).setCell (p := ⟨g, p + 1, none⟩) hg b).setCell (p := ⟨g, p + 2, none⟩) hg c).setCell (p := ⟨g, p + 3, none⟩) hg d).setCell (p := ⟨g, p + 4, none⟩) hg e).setCell (p := ⟨g, p + 5, none⟩) hg f
theorem set6l (A C : List Value) (b0 b1 b2 b3 b4 b5 a0 a1 a2 a3 a4 a5 : Value) {p : Nat} (hp : A.length = p) :
  ((((((A ++ (b0 :: b1 :: b2 :: b3 :: b4 :: b5 :: C)).set p a0).set (p + 1) a1).set (p + 2) a2).set (p + 3) a3).set (p + 4) a4).set (p + 5) a5 = A ++ (a0 :: a1 :: a2 :: a3 :: a4 :: a5 :: C) := by
 subst hp
 induction A with
 | nil => rfl
 | cons x A ih =>
  simp only [List.cons_append, List.length_cons, Nat.add_right_comm _ 1, List.set_cons_succ]
  rw [ih]
theorem encells_len (l : List EntV) : (encells l).length = l.length * 6 := by
 induction l with
 | nil => rfl
 | cons x l ih =>
  unfold encells at ih ⊢
  rw [List.flatMap_cons, List.length_append, ih, ent_len, List.length_cons]
  omega
theorem ent_put {l : List EntV} {i : Nat} {e : EntV} (he : l[i]? = some e) (x : EntV) :
  ((((((encells l).set (i * 6) (.int .u64 x.id)).set (i * 6 + 1) (.int .i64 x.tier)).set (i * 6 + 2) (.int .i64 x.shard)).set (i * 6 + 3) (.int .i64 x.place)).set (i * 6 + 4) (.int .i64 x.of_)).set (i * 6 + 5) (.slice x.ba x.bn x.bc) = encells (l.set i x) := by
 obtain ⟨hi, hx⟩ := List.getElem?_eq_some_iff.1 he
 have h1 : l = l.take i ++ e :: l.drop (i + 1) := by rw [← hx, List.getElem_cons_drop, List.take_append_drop]
 have h2 : l.set i x = l.take i ++ x :: l.drop (i + 1) := by rw [List.set_eq_take_append_cons_drop, if_pos hi]
 have h3 : (encells (l.take i)).length = i * 6 := by rw [encells_len, List.length_take, Nat.min_eq_left (Nat.le_of_lt hi)]
 have h4 : encells l = encells (l.take i) ++ (.int .u64 e.id :: .int .i64 e.tier :: .int .i64 e.shard :: .int .i64 e.place :: .int .i64 e.of_ :: .slice e.ba e.bn e.bc :: encells (l.drop (i + 1))) := by
  conv => lhs; rw [h1]
  unfold encells
  rw [List.flatMap_append, List.flatMap_cons]
  rfl
 rw [h4, set6l _ _ _ _ _ _ _ _ _ _ _ _ _ _ h3, h2]
 unfold encells
 rw [List.flatMap_append, List.flatMap_cons]
 rfl
theorem spoil_gen {c : CatV} : catB { c with gen := 0 } = false := not_cat fun e => (plain_parts (cat_top e).1).1 rfl
section
variable {w : World} {c : CatV} {a : CatA}
set_option maxRecDepth 100000 in
set_option maxHeartbeats 16000000 in
theorem spoilt_walk (h : CatIn w c a) (k : Int) (hk : in64 k) (hmx : MaxL w) (htab : Tab w) : Calls Tryz.prog 4 #[.agg #[.int .u64 c.gen, .int .u64 c.id, .int .i64 c.now, .string c.nm, .slice a.pA a.pn a.pc, .slice a.fA a.fn a.fc, .string c.nm2, .slice a.tA a.tn a.tc, .slice a.sA a.sn a.sc, .int .i64 c.bound, .int .i64 c.done, .slice a.eA a.en a.ec], .int .i64 k] w fun r w' => r = .returned (.bool true) ∧ Below w.heap.size w w' := by
 obtain ⟨W1, hW1⟩ : ∃ W1, W1 = w.alloc (.cells #[.int .u64 c.gen, .int .u64 c.id, .int .i64 c.now, .string c.nm, .slice a.pA a.pn a.pc, .slice a.fA a.fn a.fc, .string c.nm2, .slice a.tA a.tn a.tc, .slice a.sA a.sn a.sc, .int .i64 c.bound, .int .i64 c.done, .slice a.eA a.en a.ec] 29) := ⟨_, rfl⟩
 have HW1 := Lib.hid hW1
 have F1 : Hid (Fr (fun _ => False) w W1) := by show Fr _ _ _; rw [hW1]; exact Fr.none_alloc _ _
 have X1 : Hid (Blk W1 w.heap.size 29 #[.int .u64 c.gen, .int .u64 c.id, .int .i64 c.now, .string c.nm, .slice a.pA a.pn a.pc, .slice a.fA a.fn a.fc, .string c.nm2, .slice a.tA a.tn a.tc, .slice a.sA a.sn a.sc, .int .i64 c.bound, .int .i64 c.done, .slice a.eA a.en a.ec]) := by show Blk _ _ _ _; rw [hW1]; exact Blk.new _ _ _
 have HC : Hid (∀ W, Fr (fun _ => False) W1 W → W.cell? ⟨w.heap.size, 0, none⟩ = some (.int .u64 c.gen) ∧ W.cell? ⟨w.heap.size, 1, none⟩ = some (.int .u64 c.id) ∧ W.cell? ⟨w.heap.size, 2, none⟩ = some (.int .i64 c.now) ∧ W.cell? ⟨w.heap.size, 3, none⟩ = some (.string c.nm) ∧ W.cell? ⟨w.heap.size, 4, none⟩ = some (.slice a.pA a.pn a.pc) ∧ W.cell? ⟨w.heap.size, 5, none⟩ = some (.slice a.fA a.fn a.fc) ∧ W.cell? ⟨w.heap.size, 6, none⟩ = some (.string c.nm2) ∧ W.cell? ⟨w.heap.size, 7, none⟩ = some (.slice a.tA a.tn a.tc) ∧ W.cell? ⟨w.heap.size, 8, none⟩ = some (.slice a.sA a.sn a.sc) ∧ W.cell? ⟨w.heap.size, 9, none⟩ = some (.int .i64 c.bound) ∧ W.cell? ⟨w.heap.size, 10, none⟩ = some (.int .i64 c.done) ∧ W.cell? ⟨w.heap.size, 11, none⟩ = some (.slice a.eA a.en a.ec)) := fun W f => by
  have b := X1.out.fr f (fun h => h)
  exact ⟨b.cell 0, b.cell 1, b.cell 2, b.cell 3, b.cell 4, b.cell 5, b.cell 6, b.cell 7, b.cell 8, b.cell 9, b.cell 10, b.cell 11⟩
 have Hle := Lib.hid h.le
 have HLf := Lib.hid h.lf
 have HLp := Lib.hid h.lp
 have HLs := Lib.hid h.ls
 have HLt := Lib.hid h.lt
 have HIn := Lib.hid (fun (W : World) (f : Fr (fun _ => False) W1 W) => (h.fr0 F1.out).fr0 f)
 have HSm := Lib.hid (fun (W : World) (f : Fr (fun _ => False) W1 W) => csmall_any ((h.fr0 F1.out).fr0 f))
 have HVa := Lib.hid (fun (W : World) (f : Fr (fun _ => False) W1 W) => cvalid_any ((h.fr0 F1.out).fr0 f))
 have HTB := Lib.hid (fun (W : World) (f : Fr (fun _ => False) W1 W) => htab.below ((F1.out.trans f (fun _ h => h.elim)).below (fun _ h => h.elim)))
 have HAl := Lib.hid (fun (W : World) (f : Fr (fun _ => False) W1 W) => alive23_any W ((hmx.fr F1.out (fun h => h)).fr f (fun h => h)) (HTB.out W f))
 have HLc := Lib.hid (fun (W : World) (f : Fr (fun _ => False) W1 W) => (load_row (P := Tryz.prog) (X1.out.fr f (fun h => h)) 12 rfl Tryz.underlying29 cat_info).2.1)
 have HKi := Lib.hid hk
 obtain ⟨vb, hvb⟩ : ∃ b, catB c = b := ⟨_, rfl⟩
 rw [hvb] at HVa
 have Hvb := Lib.hid hvb
 have hw1 : w.heap.size < W1.heap.size := X1.out.lt
 clear h hW1 hmx htab hvb
 obtain ⟨i0, hi, hz0, hz1, hz2⟩ := info_parts info_int
 obtain ⟨j0, hjj, hy0, hy1, hy2⟩ := info_parts info_ent
 go_enter Tryz.func4, Tryz.ntmps4
 go_upto_region 1 with fail
 rw [← HW1.out]
 have FW1 : Fr (fun _ => False) W1 W1 := Fr.refl _ _
 go_wp2_with (first | (with_reducible refine wpList_loadRowG (by kernel_rfl) _ 29 rfl w.heap.size #[.int .u64 c.gen, .int .u64 c.id, .int .i64 c.now, .string c.nm, .slice a.pA a.pn a.pc, .slice a.fA a.fn a.fc, .string c.nm2, .slice a.tA a.tn a.tc, .slice a.sA a.sn a.sc, .int .i64 c.bound, .int .i64 c.done, .slice a.eA a.en a.ec] (by kernel_rfl) (HLc.out _ (by assumption)) ?_))
 refine (HSm.out _ FW1).mono ?_
 rintro r w2 ⟨⟨b1, rfl, hs1⟩, bb⟩
 have FW2 : Fr (fun _ => False) W1 w2 := FW1.trans (Fr.b0 bb) (fun _ h => h.elim)
 clear bb
 clear FW1
 have Hs1 := Lib.hid hs1
 clear hs1
 cases b1
 ·go_wp2_with fail
  refine (HAl.out _ (by assumption)).mono ?_
  rintro r u9 ⟨rfl, bb⟩
  have Fu9 : Fr (fun _ => False) W1 u9 := Fr.trans (by assumption) (Fr.b0 bb) (fun _ h => h.elim)
  clear bb
  go_wp2_with fail
  go_ret
  exact ⟨rfl, (F1.out.trans Fu9 (fun _ h => h.elim)).below (fun _ h => h.elim)⟩
 have HsA := Lib.hid (Hs1.out rfl)
 clear Hs1
 go_wp2_with (first | (with_reducible refine wpList_loadRowG (by kernel_rfl) _ 29 rfl w.heap.size #[.int .u64 c.gen, .int .u64 c.id, .int .i64 c.now, .string c.nm, .slice a.pA a.pn a.pc, .slice a.fA a.fn a.fc, .string c.nm2, .slice a.tA a.tn a.tc, .slice a.sA a.sn a.sc, .int .i64 c.bound, .int .i64 c.done, .slice a.eA a.en a.ec] (by kernel_rfl) (HLc.out _ (by assumption)) ?_))
 refine (HVa.out _ FW2).mono ?_
 rintro r w3 ⟨rfl, bb⟩
 have FW3 : Fr (fun _ => False) W1 w3 := FW2.trans (Fr.b0 bb) (fun _ h => h.elim)
 clear bb
 clear FW2
 cases vb
 ·go_wp2_with fail
  refine (HAl.out _ (by assumption)).mono ?_
  rintro r u9 ⟨rfl, bb⟩
  have Fu9 : Fr (fun _ => False) W1 u9 := Fr.trans (by assumption) (Fr.b0 bb) (fun _ h => h.elim)
  clear bb
  go_wp2_with fail
  go_ret
  exact ⟨rfl, (F1.out.trans Fu9 (fun _ h => h.elim)).below (fun _ h => h.elim)⟩
 by_cases hk0 : k < 0
 ·go_wp2_with fail
  refine (HAl.out _ (by assumption)).mono ?_
  rintro r u9 ⟨rfl, bb⟩
  have Fu9 : Fr (fun _ => False) W1 u9 := Fr.trans (by assumption) (Fr.b0 bb) (fun _ h => h.elim)
  clear bb
  go_wp2_with fail
  go_ret
  exact ⟨rfl, (F1.out.trans Fu9 (fun _ h => h.elim)).below (fun _ h => h.elim)⟩
 have hk1 : 0 ≤ k := by omega
 clear hk0
 have hfn : a.fn ≤ 20 := by have := HsA.out; have h2 := HLf.out; unfold SmallC at this; omega
 have hsn : a.sn ≤ 20 := by have := HsA.out; have h2 := HLs.out; unfold SmallC at this; omega
 have hen : a.en ≤ 95 := by have := HsA.out; have h2 := Hle.out; unfold SmallC at this; omega
 have hw3 := FW3.size
 go_upto_region 4 with (first | (with_reducible refine wpList_loadRowG (by kernel_rfl) _ 29 rfl w.heap.size #[.int .u64 c.gen, .int .u64 c.id, .int .i64 c.now, .string c.nm, .slice a.pA a.pn a.pc, .slice a.fA a.fn a.fc, .string c.nm2, .slice a.tA a.tn a.tc, .slice a.sA a.sn a.sc, .int .i64 c.bound, .int .i64 c.done, .slice a.eA a.en a.ec] (by kernel_rfl) (HLc.out _ (by assumption)) ?_))
 obtain ⟨W4, hW_⟩ : ∃ W, W = w3.alloc (.cells #[.int .u64 c.gen, .int .u64 c.id, .int .i64 c.now, .string c.nm, .slice a.pA a.pn a.pc, .slice a.fA a.fn a.fc, .string c.nm2, .slice a.tA a.tn a.tc, .slice a.sA a.sn a.sc, .int .i64 c.bound, .int .i64 c.done, .slice a.eA a.en a.ec] 29) := ⟨_, rfl⟩
 rw [← hW_]
 obtain ⟨xb, hx_⟩ : ∃ x, x = w3.heap.size := ⟨_, rfl⟩
 rw [← hx_]
 have X4 : Hid (Blk W4 xb 29 #[.int .u64 c.gen, .int .u64 c.id, .int .i64 c.now, .string c.nm, .slice a.pA a.pn a.pc, .slice a.fA a.fn a.fc, .string c.nm2, .slice a.tA a.tn a.tc, .slice a.sA a.sn a.sc, .int .i64 c.bound, .int .i64 c.done, .slice a.eA a.en a.ec]) := by show Blk _ _ _ _; rw [hW_, hx_]; exact Blk.new _ _ _
 have FW4 : Fr (fun _ => False) W1 W4 := by rw [hW_]; exact FW3.alloc _
 have fpW4 : Fr (fun _ => False) w3 W4 := by rw [hW_]; exact Fr.none_alloc _ _
 have hbxb : W1.heap.size ≤ xb := by rw [hx_]; exact FW3.size
 have hnxb : w3.heap.size ≤ xb := by rw [hx_]; exact Nat.le_refl _
 clear hW_ hx_ FW3
 have x5 : W4.cell? ⟨w.heap.size, 5, none⟩ = some (.slice a.fA a.fn a.fc) := (X1.out.fr FW4 (fun h => h)).cell 5
 have hs4 := FW4.size
 go_wp2_with (at_builtin; refine wpList_app2 rfl _ _ 26 rfl 3 i0 (.int .i64 0) 1 8 Tryz.underlying26 hi hz0 hz1 hz2 rfl (by decide) (.slice none 0 0) 0 [] rfl W1.heap.size (by first | assumption | (simp; omega)) (World.ownsRow_nil _ _ _ _) a.fA a.fn a.fc (ints c.fl) rfl ((HIn.out _ FW4).rf) (by first | exact ints_one _ | simp [Value.oneCell']) ?q1 ?q2 ?_)
 case q1 => unfold maxLen; omega
 case q2 => omega
 intro A1 c1 w5 h5 m5 _
 have X5 : Hid (Blk w5 xb 29 #[.int .u64 c.gen, .int .u64 c.id, .int .i64 c.now, .string c.nm, .slice a.pA a.pn a.pc, .slice a.fA a.fn a.fc, .string c.nm2, .slice a.tA a.tn a.tc, .slice a.sA a.sn a.sc, .int .i64 c.bound, .int .i64 c.done, .slice a.eA a.en a.ec]) := X4.out.fr m5.fr (fun h => by cases h)
 have FW5 : Fr (fun _ => False) W1 w5 := FW4.trans m5.fr (fun k hk => by cases hk)
 have H5 := Lib.hid h5
 clear h5 m5 x5 FW4 hs4
 have hs5 := FW5.size
 go_wp2_with (at_builtin; refine wpList_app2 rfl _ _ 26 rfl 3 i0 (.int .i64 0) 1 8 Tryz.underlying26 hi hz0 hz1 hz2 rfl (by decide) (.slice A1 a.fn c1) a.fn _ rfl W1.heap.size (by first | assumption | (simp; omega)) (own_fr0 H5.out (Fr.none_alloc _ _)) (some ⟨w5.heap.size, 0, none⟩) 1 1 [.int .i64 0] rfl (Rd.new w5 [.int .i64 0] _ 1 rfl) (by first | exact ints_one _ | simp [Value.oneCell']) ?q1 ?q2 ?_)
 case q1 => unfold maxLen; omega
 case q2 => omega
 intro A2 c2 w6 h6 m6 _
 have X6 : Hid (Blk w6 xb 29 #[.int .u64 c.gen, .int .u64 c.id, .int .i64 c.now, .string c.nm, .slice a.pA a.pn a.pc, .slice a.fA a.fn a.fc, .string c.nm2, .slice a.tA a.tn a.tc, .slice a.sA a.sn a.sc, .int .i64 c.bound, .int .i64 c.done, .slice a.eA a.en a.ec]) := Blk.fr (X5.out.alloc (.cells #[.int .i64 0] 3)) m6.fr (own_blk_ne H5.out X5.out (by decide))
 have FW6 : Fr (fun _ => False) W1 w6 := (FW5.alloc _).trans m6.fr (fun k hk => .inr (H5.out.lt k hk).1)
 have H6 := Lib.hid h6
 have x5 : w6.cell? ⟨xb, 5, none⟩ = some (.slice a.fA a.fn a.fc) := X6.out.cell 5
 have z5 := X6.out.frozen 5
 clear h6 m6 FW5 hs5 X5 H5
 go_upto_region 5 with fail
 obtain ⟨W7, hW7⟩ : ∃ W, W = w6.setCell ⟨xb, 5, none⟩ (.slice A2 (a.fn + 1) c2) := ⟨_, rfl⟩
 rw [← hW7]
 have X7 : Hid (Blk W7 xb 29 #[.int .u64 c.gen, .int .u64 c.id, .int .i64 c.now, .string c.nm, .slice a.pA a.pn a.pc, .slice A2 (a.fn + 1) c2, .string c.nm2, .slice a.tA a.tn a.tc, .slice a.sA a.sn a.sc, .int .i64 c.bound, .int .i64 c.done, .slice a.eA a.en a.ec]) := by
  show Blk _ _ _ _
  rw [hW7]
  have := X6.out.set_ 5 (.slice A2 (a.fn + 1) c2)
  simpa using this
 have f67 : Fr (fun i => i = xb) w6 W7 := by rw [hW7]; exact (Fr.refl (fun i => i = xb) w6).setCell (p := ⟨xb, 5, none⟩) (.inl rfl) _
 have FW7 : Fr (fun _ => False) W1 W7 := FW6.trans f67 (fun k hk => .inr (by omega))
 have H7 := Lib.hid (own_fr H6.out f67 (fun k hk e => own_blk_ne H6.out X6.out (by decide) (by rw [← e]; exact hk)))
 clear hW7 f67 x5 z5 FW6 X6 H6
 have HInx : Hid (∀ W, Fr (fun _ => False) W7 W → CatIn W { c with fl := c.fl ++ [0] } { a with fA := A2, fn := a.fn + 1, fc := c2 }) := fun W f =>
  { HIn.out W (FW7.trans f (fun _ h => h.elim)) with
   rf := by have := Rd.of_own (own_fr0 H7.out f); show Rd W 1 A2 (a.fn + 1) (ints (c.fl ++ [0])); unfold ints at this ⊢; rw [List.map_append]; exact this
   lf := by show (c.fl ++ [0]).length = a.fn + 1; rw [List.length_append, HLf.out]; rfl
   cf := own_caps (own_fr0 H7.out f)
   wf := fun x hx => by
    rcases List.mem_append.1 hx with hx | hx
    ·exact (HIn.out W (FW7.trans f (fun _ h => h.elim))).wf x hx
    ·rw [List.mem_singleton] at hx; rw [hx]; exact ⟨by decide, by decide⟩ }
 have HVx : Hid (∀ W, Fr (fun _ => False) W7 W → Calls Tryz.prog 13 #[.agg #[.int .u64 c.gen, .int .u64 c.id, .int .i64 c.now, .string c.nm, .slice a.pA a.pn a.pc, .slice A2 (a.fn + 1) c2, .string c.nm2, .slice a.tA a.tn a.tc, .slice a.sA a.sn a.sc, .int .i64 c.bound, .int .i64 c.done, .slice a.eA a.en a.ec]] W fun r w' => r = .returned (.bool false) ∧ Below W.heap.size W w') := fun W f => by
  have := cvalid_any (HInx.out W f)
  rw [spoil_fl Hvb.out] at this
  exact this
 have HLx := Lib.hid (fun (W : World) (f : Fr (fun _ => False) W7 W) => (load_row (P := Tryz.prog) (X7.out.fr f (fun h => h)) 12 rfl Tryz.underlying29 cat_info).2.1)
 clear HInx H7 X7
 go_upto_region 6 with (first | (with_reducible refine wpList_loadRowG (by kernel_rfl) _ 29 rfl w.heap.size #[.int .u64 c.gen, .int .u64 c.id, .int .i64 c.now, .string c.nm, .slice a.pA a.pn a.pc, .slice a.fA a.fn a.fc, .string c.nm2, .slice a.tA a.tn a.tc, .slice a.sA a.sn a.sc, .int .i64 c.bound, .int .i64 c.done, .slice a.eA a.en a.ec] (by kernel_rfl) (HLc.out _ (by assumption)) ?_))
 obtain ⟨W8, hW_⟩ : ∃ W, W = W7.alloc (.cells #[.int .u64 c.gen, .int .u64 c.id, .int .i64 c.now, .string c.nm, .slice a.pA a.pn a.pc, .slice a.fA a.fn a.fc, .string c.nm2, .slice a.tA a.tn a.tc, .slice a.sA a.sn a.sc, .int .i64 c.bound, .int .i64 c.done, .slice a.eA a.en a.ec] 29) := ⟨_, rfl⟩
 rw [← hW_]
 obtain ⟨yb, hx_⟩ : ∃ x, x = W7.heap.size := ⟨_, rfl⟩
 rw [← hx_]
 have Y8 : Hid (Blk W8 yb 29 #[.int .u64 c.gen, .int .u64 c.id, .int .i64 c.now, .string c.nm, .slice a.pA a.pn a.pc, .slice a.fA a.fn a.fc, .string c.nm2, .slice a.tA a.tn a.tc, .slice a.sA a.sn a.sc, .int .i64 c.bound, .int .i64 c.done, .slice a.eA a.en a.ec]) := by show Blk _ _ _ _; rw [hW_, hx_]; exact Blk.new _ _ _
 have FW8 : Fr (fun _ => False) W1 W8 := by rw [hW_]; exact FW7.alloc _
 have fpW8 : Fr (fun _ => False) W7 W8 := by rw [hW_]; exact Fr.none_alloc _ _
 have hbyb : W1.heap.size ≤ yb := by rw [hx_]; exact FW7.size
 have hnyb : W7.heap.size ≤ yb := by rw [hx_]; exact Nat.le_refl _
 clear hW_ hx_
 have hkw : IntKind.i64.wrap (-1 - k) = -1 - k := by have := HKi.out; unfold in64 at this; simp [IntKind.wrap, IntKind.signed, IntKind.bits]; omega
 have x2 : W8.cell? ⟨yb, 2, none⟩ = some (.int .i64 c.now) := Y8.out.cell 2
 have z2 := Y8.out.frozen 2
 go_upto_region 7 with fail
 obtain ⟨W9, hW_⟩ : ∃ W, W = W8.setCell ⟨yb, 2, none⟩ (.int .i64 (-1 - k)) := ⟨_, rfl⟩
 rw [← hW_]
 have Y9 : Hid (Blk W9 yb 29 #[.int .u64 c.gen, .int .u64 c.id, .int .i64 (-1 - k), .string c.nm, .slice a.pA a.pn a.pc, .slice a.fA a.fn a.fc, .string c.nm2, .slice a.tA a.tn a.tc, .slice a.sA a.sn a.sc, .int .i64 c.bound, .int .i64 c.done, .slice a.eA a.en a.ec]) := by
  show Blk _ _ _ _
  rw [hW_]
  have := Y8.out.set_ 2 (.int .i64 (-1 - k))
  simpa using this
 have f89 : Fr (fun i => i = yb) W8 W9 := by rw [hW_]; exact (Fr.refl (fun i => i = yb) W8).setCell (p := ⟨yb, 2, none⟩) (.inl rfl) _
 have FW9 : Fr (fun _ => False) W1 W9 := FW8.trans f89 (fun k hk => .inr (by omega))
 clear hW_ x2 z2 Y8 FW8
 have G79 : Fr (fun _ => False) W7 W9 := fpW8.trans f89 (fun i hi => .inr (by omega))
 clear hkw f89 fpW8
 have HVy : Hid (∀ W, Fr (fun _ => False) W9 W → Calls Tryz.prog 13 #[.agg #[.int .u64 c.gen, .int .u64 c.id, .int .i64 (-1 - k), .string c.nm, .slice a.pA a.pn a.pc, .slice a.fA a.fn a.fc, .string c.nm2, .slice a.tA a.tn a.tc, .slice a.sA a.sn a.sc, .int .i64 c.bound, .int .i64 c.done, .slice a.eA a.en a.ec]] W fun r w' => r = .returned (.bool false) ∧ Below W.heap.size W w') := fun W f => by
  have hI : CatIn W { c with now := -1 - k } a := { HIn.out W (FW9.trans f (fun _ h => h.elim)) with now := ⟨by have := HKi.out; unfold in64 at this; show _ ≤ -1 - k; omega, by show -1 - k ≤ _; omega⟩ }
  have := cvalid_any hI
  rw [spoil_now (by omega)] at this
  exact this
 have HLy := Lib.hid (fun (W : World) (f : Fr (fun _ => False) W9 W) => (load_row (P := Tryz.prog) (Y9.out.fr f (fun h => h)) 12 rfl Tryz.underlying29 cat_info).2.1)
 clear Y9
 go_upto_region 8 with (first | (with_reducible refine wpList_loadRowG (by kernel_rfl) _ 29 rfl w.heap.size #[.int .u64 c.gen, .int .u64 c.id, .int .i64 c.now, .string c.nm, .slice a.pA a.pn a.pc, .slice a.fA a.fn a.fc, .string c.nm2, .slice a.tA a.tn a.tc, .slice a.sA a.sn a.sc, .int .i64 c.bound, .int .i64 c.done, .slice a.eA a.en a.ec] (by kernel_rfl) (HLc.out _ (by assumption)) ?_))
 obtain ⟨W10, hW_⟩ : ∃ W, W = W9.alloc (.cells #[.int .u64 c.gen, .int .u64 c.id, .int .i64 c.now, .string c.nm, .slice a.pA a.pn a.pc, .slice a.fA a.fn a.fc, .string c.nm2, .slice a.tA a.tn a.tc, .slice a.sA a.sn a.sc, .int .i64 c.bound, .int .i64 c.done, .slice a.eA a.en a.ec] 29) := ⟨_, rfl⟩
 rw [← hW_]
 obtain ⟨zb, hx_⟩ : ∃ x, x = W9.heap.size := ⟨_, rfl⟩
 rw [← hx_]
 have Z10 : Hid (Blk W10 zb 29 #[.int .u64 c.gen, .int .u64 c.id, .int .i64 c.now, .string c.nm, .slice a.pA a.pn a.pc, .slice a.fA a.fn a.fc, .string c.nm2, .slice a.tA a.tn a.tc, .slice a.sA a.sn a.sc, .int .i64 c.bound, .int .i64 c.done, .slice a.eA a.en a.ec]) := by show Blk _ _ _ _; rw [hW_, hx_]; exact Blk.new _ _ _
 have FW10 : Fr (fun _ => False) W1 W10 := by rw [hW_]; exact FW9.alloc _
 have fpW10 : Fr (fun _ => False) W9 W10 := by rw [hW_]; exact Fr.none_alloc _ _
 have hbzb : W1.heap.size ≤ zb := by rw [hx_]; exact FW9.size
 have hnzb : W9.heap.size ≤ zb := by rw [hx_]; exact Nat.le_refl _
 clear hW_ hx_
 have x0 : W10.cell? ⟨zb, 0, none⟩ = some (.int .u64 c.gen) := Z10.out.cell 0
 have z0 := Z10.out.frozen 0
 go_upto_region 9 with fail
 obtain ⟨W11, hW_⟩ : ∃ W, W = W10.setCell ⟨zb, 0, none⟩ (.int .u64 0) := ⟨_, rfl⟩
 rw [← hW_]
 have Z11 : Hid (Blk W11 zb 29 #[.int .u64 0, .int .u64 c.id, .int .i64 c.now, .string c.nm, .slice a.pA a.pn a.pc, .slice a.fA a.fn a.fc, .string c.nm2, .slice a.tA a.tn a.tc, .slice a.sA a.sn a.sc, .int .i64 c.bound, .int .i64 c.done, .slice a.eA a.en a.ec]) := by
  show Blk _ _ _ _
  rw [hW_]
  have := Z10.out.set_ 0 (.int .u64 0)
  simpa using this
 have f1011 : Fr (fun i => i = zb) W10 W11 := by rw [hW_]; exact (Fr.refl (fun i => i = zb) W10).setCell (p := ⟨zb, 0, none⟩) (.inl rfl) _
 have FW11 : Fr (fun _ => False) W1 W11 := FW10.trans f1011 (fun k hk => .inr (by omega))
 clear hW_ x0 z0 Z10 FW10
 have G911 : Fr (fun _ => False) W9 W11 := fpW10.trans f1011 (fun i hi => .inr (by omega))
 have G711 : Fr (fun _ => False) W7 W11 := G79.trans G911 (fun _ h => h.elim)
 have G11 : Fr (fun _ => False) W11 W11 := Fr.refl _ _
 clear f1011 fpW10 G79 FW9 FW7
 have HVz : Hid (∀ W, Fr (fun _ => False) W11 W → Calls Tryz.prog 13 #[.agg #[.int .u64 0, .int .u64 c.id, .int .i64 c.now, .string c.nm, .slice a.pA a.pn a.pc, .slice a.fA a.fn a.fc, .string c.nm2, .slice a.tA a.tn a.tc, .slice a.sA a.sn a.sc, .int .i64 c.bound, .int .i64 c.done, .slice a.eA a.en a.ec]] W fun r w' => r = .returned (.bool false) ∧ Below W.heap.size W w') := fun W f => by
  have hI : CatIn W { c with gen := 0 } a := { HIn.out W (FW11.trans f (fun _ h => h.elim)) with gen := ⟨Int.le_refl _, by show (0 : Int) < 18446744073709551616; decide⟩ }
  have := cvalid_any hI
  rw [spoil_gen] at this
  exact this
 have HLz := Lib.hid (fun (W : World) (f : Fr (fun _ => False) W11 W) => (load_row (P := Tryz.prog) (Z11.out.fr f (fun h => h)) 12 rfl Tryz.underlying29 cat_info).2.1)
 clear Z11
 go_wp2_with (first | (with_reducible refine wpList_loadRowG (by kernel_rfl) _ 29 rfl xb #[.int .u64 c.gen, .int .u64 c.id, .int .i64 c.now, .string c.nm, .slice a.pA a.pn a.pc, .slice A2 (a.fn + 1) c2, .string c.nm2, .slice a.tA a.tn a.tc, .slice a.sA a.sn a.sc, .int .i64 c.bound, .int .i64 c.done, .slice a.eA a.en a.ec] (by kernel_rfl) (HLx.out _ (by assumption)) ?_))
 refine (HVx.out _ G711).mono ?_
 rintro r u1 ⟨rfl, bb⟩
 have FWu1 : Fr (fun _ => False) W1 u1 := FW11.trans (Fr.b0 bb) (fun _ h => h.elim)
 have Gxu1 : Fr (fun _ => False) W7 u1 := G711.trans (Fr.b0 bb) (fun _ h => h.elim)
 have Gyu1 : Fr (fun _ => False) W9 u1 := G911.trans (Fr.b0 bb) (fun _ h => h.elim)
 have Gzu1 : Fr (fun _ => False) W11 u1 := G11.trans (Fr.b0 bb) (fun _ h => h.elim)
 clear bb FW11 G711 G911 G11
 go_wp2_with (first | (with_reducible refine wpList_loadRowG (by kernel_rfl) _ 29 rfl yb #[.int .u64 c.gen, .int .u64 c.id, .int .i64 (-1 - k), .string c.nm, .slice a.pA a.pn a.pc, .slice a.fA a.fn a.fc, .string c.nm2, .slice a.tA a.tn a.tc, .slice a.sA a.sn a.sc, .int .i64 c.bound, .int .i64 c.done, .slice a.eA a.en a.ec] (by kernel_rfl) (HLy.out _ (by assumption)) ?_))
 refine (HVy.out _ Gyu1).mono ?_
 rintro r u2 ⟨rfl, bb⟩
 have FWu2 : Fr (fun _ => False) W1 u2 := FWu1.trans (Fr.b0 bb) (fun _ h => h.elim)
 have Gxu2 : Fr (fun _ => False) W7 u2 := Gxu1.trans (Fr.b0 bb) (fun _ h => h.elim)
 have Gyu2 : Fr (fun _ => False) W9 u2 := Gyu1.trans (Fr.b0 bb) (fun _ h => h.elim)
 have Gzu2 : Fr (fun _ => False) W11 u2 := Gzu1.trans (Fr.b0 bb) (fun _ h => h.elim)
 clear bb FWu1 Gxu1 Gyu1 Gzu1
 go_wp2_with (first | (with_reducible refine wpList_loadRowG (by kernel_rfl) _ 29 rfl zb #[.int .u64 0, .int .u64 c.id, .int .i64 c.now, .string c.nm, .slice a.pA a.pn a.pc, .slice a.fA a.fn a.fc, .string c.nm2, .slice a.tA a.tn a.tc, .slice a.sA a.sn a.sc, .int .i64 c.bound, .int .i64 c.done, .slice a.eA a.en a.ec] (by kernel_rfl) (HLz.out _ (by assumption)) ?_))
 refine (HVz.out _ Gzu2).mono ?_
 rintro r u3 ⟨rfl, bb⟩
 have FWu3 : Fr (fun _ => False) W1 u3 := FWu2.trans (Fr.b0 bb) (fun _ h => h.elim)
 clear bb Gxu2 Gyu2 Gzu2 FWu2 HVx HVy HVz HLx HLy HLz
 go_upto_region 11 with fail
 have x7 : u3.cell? ⟨w.heap.size, 7, none⟩ = some (.slice a.tA a.tn a.tc) := (X1.out.fr FWu3 (fun h => h)).cell 7
 obtain ⟨tb, htb⟩ : ∃ b, decide (0 < a.tn) = b := ⟨_, rfl⟩
 have htb2 : decide ((0 : Int) < (a.tn : Int)) = tb := by rw [← htb]; simp
 go_upto_if 52 with fail
 have Htb := Lib.hid htb
 clear htb htb2 x7
 go_cut [8] (fun _ wx => ∃ W, W = wx ∧ Fr (fun _ => False) W1 W)
 case first =>
  cases tb
  ·go_wp2_with fail
   try go_meet
   exact ⟨_, rfl, FWu3⟩
  ·have htn : 0 < a.tn := of_decide_eq_true Htb.out
   have hst := (change_parts (cat_top Hvb.out).2.1 (by rw [HLt.out]; exact htn)).1
   have hsn0 : 0 < a.sn := by rw [← HLs.out, hst, HLt.out]; exact htn
   clear hst
   go_upto_region 13 with (first | (with_reducible refine wpList_loadRowG (by kernel_rfl) _ 29 rfl w.heap.size #[.int .u64 c.gen, .int .u64 c.id, .int .i64 c.now, .string c.nm, .slice a.pA a.pn a.pc, .slice a.fA a.fn a.fc, .string c.nm2, .slice a.tA a.tn a.tc, .slice a.sA a.sn a.sc, .int .i64 c.bound, .int .i64 c.done, .slice a.eA a.en a.ec] (by kernel_rfl) (HLc.out _ (by assumption)) ?_))
   obtain ⟨W12, hW_⟩ : ∃ W, W = u3.alloc (.cells #[.int .u64 c.gen, .int .u64 c.id, .int .i64 c.now, .string c.nm, .slice a.pA a.pn a.pc, .slice a.fA a.fn a.fc, .string c.nm2, .slice a.tA a.tn a.tc, .slice a.sA a.sn a.sc, .int .i64 c.bound, .int .i64 c.done, .slice a.eA a.en a.ec] 29) := ⟨_, rfl⟩
   rw [← hW_]
   obtain ⟨sb, hx_⟩ : ∃ x, x = u3.heap.size := ⟨_, rfl⟩
   rw [← hx_]
   have S12 : Hid (Blk W12 sb 29 #[.int .u64 c.gen, .int .u64 c.id, .int .i64 c.now, .string c.nm, .slice a.pA a.pn a.pc, .slice a.fA a.fn a.fc, .string c.nm2, .slice a.tA a.tn a.tc, .slice a.sA a.sn a.sc, .int .i64 c.bound, .int .i64 c.done, .slice a.eA a.en a.ec]) := by show Blk _ _ _ _; rw [hW_, hx_]; exact Blk.new _ _ _
   have FW12 : Fr (fun _ => False) W1 W12 := by rw [hW_]; exact FWu3.alloc _
   have fpW12 : Fr (fun _ => False) u3 W12 := by rw [hW_]; exact Fr.none_alloc _ _
   have hbsb : W1.heap.size ≤ sb := by rw [hx_]; exact FWu3.size
   have hnsb : u3.heap.size ≤ sb := by rw [hx_]; exact Nat.le_refl _
   clear hW_ hx_ FWu3
   have x8 : W12.cell? ⟨w.heap.size, 8, none⟩ = some (.slice a.sA a.sn a.sc) := (X1.out.fr FW12 (fun h => h)).cell 8
   have hs12 := FW12.size
   go_wp2_with (at_builtin; refine wpList_app2 rfl _ _ 26 rfl 3 i0 (.int .i64 0) 1 8 Tryz.underlying26 hi hz0 hz1 hz2 rfl (by decide) (.slice none 0 0) 0 [] rfl W1.heap.size (by first | assumption | (simp; omega)) (World.ownsRow_nil _ _ _ _) a.sA a.sn a.sc (ints c.src) rfl ((HIn.out _ FW12).rs) (by first | exact ints_one _ | simp [Value.oneCell']) ?q1 ?q2 ?_)
   case q1 => unfold maxLen; omega
   case q2 => omega
   intro A3 c3 w13 h13 m13 _
   have S13 : Hid (Blk w13 sb 29 #[.int .u64 c.gen, .int .u64 c.id, .int .i64 c.now, .string c.nm, .slice a.pA a.pn a.pc, .slice a.fA a.fn a.fc, .string c.nm2, .slice a.tA a.tn a.tc, .slice a.sA a.sn a.sc, .int .i64 c.bound, .int .i64 c.done, .slice a.eA a.en a.ec]) := S12.out.fr m13.fr (fun h => by cases h)
   have FW13 : Fr (fun _ => False) W1 w13 := FW12.trans m13.fr (fun k hk => by cases hk)
   have h13b : w13.ownsRow W1.heap.size 3 1 (.slice A3 a.sn c3) a.sn (ints c.src) := by simpa using h13
   obtain ⟨g3, rfl⟩ := own_addr h13b hsn0
   have H13 := Lib.hid h13b
   clear h13 h13b m13 FW12 S12 hs12 x8 fpW12
   have x8 : w13.cell? ⟨sb, 8, none⟩ = some (.slice a.sA a.sn a.sc) := S13.out.cell 8
   have z8 := S13.out.frozen 8
   go_upto_region 14 with fail
   obtain ⟨W14, hW14⟩ : ∃ W, W = w13.setCell ⟨sb, 8, none⟩ (.slice (some ⟨g3, 0, none⟩) a.sn c3) := ⟨_, rfl⟩
   rw [← hW14]
   have S14 : Hid (Blk W14 sb 29 #[.int .u64 c.gen, .int .u64 c.id, .int .i64 c.now, .string c.nm, .slice a.pA a.pn a.pc, .slice a.fA a.fn a.fc, .string c.nm2, .slice a.tA a.tn a.tc, .slice (some ⟨g3, 0, none⟩) a.sn c3, .int .i64 c.bound, .int .i64 c.done, .slice a.eA a.en a.ec]) := by
    show Blk _ _ _ _
    rw [hW14]
    have := S13.out.set_ 8 (.slice (some ⟨g3, 0, none⟩) a.sn c3)
    simpa using this
   have f1314 : Fr (fun i => i = sb) w13 W14 := by rw [hW14]; exact (Fr.refl (fun i => i = sb) w13).setCell (p := ⟨sb, 8, none⟩) (.inl rfl) _
   have FW14 : Fr (fun _ => False) W1 W14 := FW13.trans f1314 (fun k hk => .inr (by omega))
   have H14 := Lib.hid (own_fr H13.out f1314 (fun k hk e => own_blk_ne H13.out S13.out (by decide) (by rw [← e]; exact hk)))
   clear hW14 f1314 x8 z8 FW13 S13 H13
   have hg3 : W1.heap.size ≤ g3 := (H14.out.lt g3 rfl).1
   have hgs : sb ≠ g3 := fun e => own_blk_ne H14.out S14.out (by decide) (by rw [e]; rfl)
   obtain ⟨i, hri, hi3⟩ : ∃ i : Nat, k.tmod (a.sn : Int) = (i : Int) ∧ i < a.sn := tmod_nat hk1 hsn0
   obtain ⟨ov, hov⟩ : ∃ v : Int, c.src[i]? = some v := ⟨_, List.getElem?_eq_getElem (by rw [HLs.out]; exact hi3)⟩
   have HC14 : Hid (∀ W, Fr (fun j => j = g3) W14 W → W.cell? ⟨sb, 8, none⟩ = some (.slice (some ⟨g3, 0, none⟩) a.sn c3) ∧ W.cell? ⟨w.heap.size, 4, none⟩ = some (.slice a.pA a.pn a.pc)) := fun W f => ⟨(S14.out.fr f hgs).cell 8, (((X1.out.fr FW14 (fun h => h)).fr f (by omega))).cell 4⟩
   have x14 : W14.cell? ⟨g3, i, none⟩ = some (.int .i64 ov) := by
    have := own_cell1 H14.out (j := i) (u := .int .i64 ov) (by unfold ints; rw [List.getElem?_map, hov]; rfl)
    exact this
   have z14 : W14.frozen? ⟨g3, i, none⟩ = false := own_frozen H14.out i
   have hsI : ¬ (a.sn : Int) = 0 := by omega
   have hsI2 : ((a.sn : Int) == 0) = false := by simp; omega
   have hsN : ¬ a.sn = 0 := by omega
   have hiI : 0 ≤ (i : Int) ∧ (i : Int) < (a.sn : Int) := by omega
   have hiw : IntKind.i64.wrap (i : Int) = (i : Int) := by simp [IntKind.wrap, IntKind.signed, IntKind.bits]; omega
   clear hov
   go_wp2_with fail
   refine wp_region_held_drew (S := fun W => Fr (fun j => j = g3) W14 W) (by kernel_rfl) ((Fr.refl _ W14).drew) (fun hHeld => ?_)
   refine tq 12 [0,1,2,3,4,5,6,7,8,9,10,11] ?_
   iterate 11 refine sf HC14.out ?_
   refine sf HC14.out ?_
   try simp only [Act.put, sA, sB, sC]
   refine sz ?_
   try simp only [Act.put, sA, sB, sC]
   refine rl 12 rfl (fun K hK => ?_)
   go_simp
   refine hK.out _ _ (hHeld.setCell (p := ⟨g3, i, none⟩) (.inl rfl) _) (fun hHeld => ?_)
   clear hK K
   try simp only [Act.put, sA, sB, sC]
   refine wpAnyH_done (by kernel_rfl) ?_ _
   clear hHeld x14 z14
   obtain ⟨W15, hW_⟩ : ∃ W, W = (W14.setCell ⟨g3, i, none⟩ (.int .i64 a.pn)).drew := ⟨_, rfl⟩
   rw [← hW_]
   have f15 : Fr (fun j => j = g3) W14 W15 := by rw [hW_]; exact ((Fr.refl (fun j => j = g3) W14).setCell (p := ⟨g3, i, none⟩) (.inl rfl) _).drew
   have FW15 : Fr (fun _ => False) W1 W15 := FW14.trans f15 (fun k hk => .inr (by omega))
   have G15 : Fr (fun _ => False) W15 W15 := Fr.refl _ _
   have S15 : Hid (Blk W15 sb 29 #[.int .u64 c.gen, .int .u64 c.id, .int .i64 c.now, .string c.nm, .slice a.pA a.pn a.pc, .slice a.fA a.fn a.fc, .string c.nm2, .slice a.tA a.tn a.tc, .slice (some ⟨g3, 0, none⟩) a.sn c3, .int .i64 c.bound, .int .i64 c.done, .slice a.eA a.en a.ec]) := S14.out.fr f15 hgs
   have H15 : Hid (W15.ownsRow W1.heap.size 3 1 (.slice (some ⟨g3, 0, none⟩) a.sn c3) a.sn (ints (c.src.set i (c.pl.length : Nat)))) := by
    show World.ownsRow _ _ _ _ _ _ _
    have h1 := (H14.out.stored i (.int .i64 a.pn)).1
    have h2 := own_fr0 h1 ((Fr.refl (fun _ => False) _).drew)
    rw [← hW_] at h2
    unfold ints at h2 ⊢
    rw [List.map_set, HLp.out]
    exact h2
   clear hW_ f15 S14 H14 HC14 FW14
   have HVs : Hid (∀ W, Fr (fun _ => False) W15 W → Calls Tryz.prog 13 #[.agg #[.int .u64 c.gen, .int .u64 c.id, .int .i64 c.now, .string c.nm, .slice a.pA a.pn a.pc, .slice a.fA a.fn a.fc, .string c.nm2, .slice a.tA a.tn a.tc, .slice (some ⟨g3, 0, none⟩) a.sn c3, .int .i64 c.bound, .int .i64 c.done, .slice a.eA a.en a.ec]] W fun r w' => r = .returned (.bool false) ∧ Below W.heap.size W w') := fun W f => by
    have hI : CatIn W { c with src := c.src.set i (c.pl.length : Nat) } { a with sA := some ⟨g3, 0, none⟩, sc := c3 } := { HIn.out W (FW15.trans f (fun _ h => h.elim)) with
     rs := Rd.of_own (own_fr0 H15.out f)
     ls := by show (c.src.set i _).length = a.sn; rw [List.length_set]; exact HLs.out
     cs := own_caps (own_fr0 H15.out f)
     ws := fun x hx => by
      rcases List.mem_or_eq_of_mem_set hx with hx | hx
      ·exact (HIn.out W (FW15.trans f (fun _ h => h.elim))).ws x hx
      ·have h1 : c.pl.length ≤ 10 := by have := HsA.out; unfold SmallC at this; omega
       rw [hx]; exact ⟨by omega, by omega⟩ }
    have := cvalid_any hI
    rw [spoil_src (by rw [HLt.out]; exact htn) (by rw [HLs.out]; exact hi3)] at this
    exact this
   have HLs2 := Lib.hid (fun (W : World) (f : Fr (fun _ => False) W15 W) => (load_row (P := Tryz.prog) (S15.out.fr f (fun h => h)) 12 rfl Tryz.underlying29 cat_info).2.1)
   clear S15 H15
   go_wp2_with (first | (with_reducible refine wpList_loadRowG (by kernel_rfl) _ 29 rfl sb #[.int .u64 c.gen, .int .u64 c.id, .int .i64 c.now, .string c.nm, .slice a.pA a.pn a.pc, .slice a.fA a.fn a.fc, .string c.nm2, .slice a.tA a.tn a.tc, .slice (some ⟨g3, 0, none⟩) a.sn c3, .int .i64 c.bound, .int .i64 c.done, .slice a.eA a.en a.ec] (by kernel_rfl) (HLs2.out _ (by assumption)) ?_))
   refine (HVs.out _ G15).mono ?_
   rintro r u4 ⟨rfl, bb⟩
   have FWu4 : Fr (fun _ => False) W1 u4 := FW15.trans (Fr.b0 bb) (fun _ h => h.elim)
   clear bb G15 HVs HLs2 FW15
   go_wp2_with fail
   try go_meet
   exact ⟨_, rfl, FWu4⟩
 case rest =>
 obtain ⟨W16, rfl, FW16⟩ := hcut
 have x11 : W16.cell? ⟨w.heap.size, 11, none⟩ = some (.slice a.eA a.en a.ec) := (X1.out.fr FW16 (fun h => h)).cell 11
 by_cases hE0 : a.en = 0
 ·have e1 : ((a.en : Int) == 0) = true := by simp [hE0]
  go_wp2_with fail
  refine (HAl.out _ (by assumption)).mono ?_
  rintro r u9 ⟨rfl, bb⟩
  have Fu9 : Fr (fun _ => False) W1 u9 := Fr.trans (by assumption) (Fr.b0 bb) (fun _ h => h.elim)
  clear bb
  go_wp2_with fail
  go_ret
  exact ⟨rfl, (F1.out.trans Fu9 (fun _ h => h.elim)).below (fun _ h => h.elim)⟩
 have e1 : ((a.en : Int) == 0) = false := by simp [hE0]
 by_cases hE8 : 80 < a.en
 ·have e2 : (80 : Int) < (a.en : Int) := by omega
  go_wp2_with fail
  refine (HAl.out _ (by assumption)).mono ?_
  rintro r u9 ⟨rfl, bb⟩
  have Fu9 : Fr (fun _ => False) W1 u9 := Fr.trans (by assumption) (Fr.b0 bb) (fun _ h => h.elim)
  clear bb
  go_wp2_with fail
  go_ret
  exact ⟨rfl, (F1.out.trans Fu9 (fun _ h => h.elim)).below (fun _ h => h.elim)⟩
 have e2 : ¬ (80 : Int) < (a.en : Int) := by omega
 go_upto_region 19 with fail
 clear e1 e2 x11
 have hen0 : 0 < a.en := by omega
 obtain ⟨i, hri, hi3⟩ : ∃ i : Nat, k.tmod (a.en : Int) = (i : Int) ∧ i < a.en := tmod_nat hk1 hen0
 obtain ⟨ad, had⟩ : ∃ ad, a.eA = some ad := ent_addr (HIn.out _ FW16).re hen0
 obtain ⟨e, he⟩ : ∃ e, c.es[i]? = some e := ⟨_, List.getElem?_eq_getElem (by rw [Hle.out]; exact hi3)⟩
 have HE : Hid (∀ W, Fr (fun _ => False) W1 W → W.cell? ⟨w.heap.size, 11, none⟩ = some (.slice (some ad) a.en a.ec) ∧ W.cell? (ad.add (i * 6)) = some (.int .u64 e.id) ∧ W.cell? ⟨(ad.add (i * 6)).block, (ad.add (i * 6)).off + 1, none⟩ = some (.int .i64 e.tier) ∧ W.cell? ⟨(ad.add (i * 6)).block, (ad.add (i * 6)).off + 2, none⟩ = some (.int .i64 e.shard) ∧ W.cell? ⟨(ad.add (i * 6)).block, (ad.add (i * 6)).off + 3, none⟩ = some (.int .i64 e.place) ∧ W.cell? ⟨(ad.add (i * 6)).block, (ad.add (i * 6)).off + 4, none⟩ = some (.int .i64 e.of_) ∧ W.cell? ⟨(ad.add (i * 6)).block, (ad.add (i * 6)).off + 5, none⟩ = some (.slice e.ba e.bn e.bc)) := fun W f => by
  have h1 := (X1.out.fr f (fun h => h)).cell 11
  have h2 := (HIn.out W f).re
  rw [had] at h2
  refine ⟨?_, ent_at h2 hi3 he⟩
  rw [← had]
  exact h1
 have Hhe := Lib.hid he
 have Had := Lib.hid had
 have hsI : ¬ (a.en : Int) = 0 := by omega
 have hsI2 : ((a.en : Int) == 0) = false := by simp; omega
 have hsN : ¬ a.en = 0 := by omega
 have hiI : 0 ≤ (i : Int) ∧ (i : Int) < (a.en : Int) := by omega
 have hiw : IntKind.i64.wrap (i : Int) = (i : Int) := by simp [IntKind.wrap, IntKind.signed, IntKind.bits]; omega
 clear he had
 go_wp2_with fail
 refine wp_region_held_drew (S := fun W => Fr (fun _ => False) W16 W) (by kernel_rfl) ((Fr.refl _ W16).drew) (fun hHeld => ?_)
 refine tq 9 [0,1,2,3,4,5,6,7,8] ?_
 iterate 8 refine sf (fun W hSw => HE.out W (FW16.trans hSw (fun _ h => h.elim))) ?_
 refine sf (fun W hSw => HE.out W (FW16.trans hSw (fun _ h => h.elim))) ?_
 try simp only [Act.put, sA, sB, sC]
 refine sz ?_
 try simp only [Act.put, sA, sB, sC]
 refine rl 9 rfl (fun K hK => ?_)
 go_simp
 have hHm := hHeld
 refine hK.out _ _ (hHm.trans (Fr.none_alloc _ _) (fun _ h => h.elim)) (fun hHeld => ?_)
 clear hK K
 try simp only [Act.put, sA, sB, sC]
 refine rl 10 rfl (fun K hK => ?_)
 go_simp
 refine hK.out _ _ (hHm.trans (Fr.none_alloc _ _) (fun _ h => h.elim)) (fun hHeld => ?_)
 clear hK K
 try simp only [Act.put, sA, sB, sC]
 refine wpAnyH_done (by kernel_rfl) ?_ _
 clear hHeld
 go_upto_region 20 with fail
 obtain ⟨W19, hW_⟩ : ∃ W, W = (W16.alloc (.cells #[.int .u64 e.id, .int .i64 e.tier, .int .i64 e.shard, .int .i64 e.place, .int .i64 e.of_, .slice e.ba e.bn e.bc] 56)).drew := ⟨_, rfl⟩
 rw [← hW_]
 obtain ⟨eb, hx_⟩ : ∃ x, x = W16.heap.size := ⟨_, rfl⟩
 rw [← hx_]
 have E19 : Hid (Blk W19 eb 56 #[.int .u64 e.id, .int .i64 e.tier, .int .i64 e.shard, .int .i64 e.place, .int .i64 e.of_, .slice e.ba e.bn e.bc]) := by show Blk _ _ _ _; rw [hW_, hx_]; exact (Blk.new _ _ _).drew
 have FW19 : Fr (fun _ => False) W1 W19 := by rw [hW_]; exact (FW16.alloc _).drew
 have hbeb : W1.heap.size ≤ eb := by rw [hx_]; exact FW16.size
 clear hW_ hx_ FW16
 go_upto_region 21 with (first | (with_reducible refine wpList_loadRowG (by kernel_rfl) _ 29 rfl w.heap.size #[.int .u64 c.gen, .int .u64 c.id, .int .i64 c.now, .string c.nm, .slice a.pA a.pn a.pc, .slice a.fA a.fn a.fc, .string c.nm2, .slice a.tA a.tn a.tc, .slice a.sA a.sn a.sc, .int .i64 c.bound, .int .i64 c.done, .slice a.eA a.en a.ec] (by kernel_rfl) (HLc.out _ (by assumption)) ?_))
 obtain ⟨W20, hW_⟩ : ∃ W, W = W19.alloc (.cells #[.int .u64 c.gen, .int .u64 c.id, .int .i64 c.now, .string c.nm, .slice a.pA a.pn a.pc, .slice a.fA a.fn a.fc, .string c.nm2, .slice a.tA a.tn a.tc, .slice a.sA a.sn a.sc, .int .i64 c.bound, .int .i64 c.done, .slice a.eA a.en a.ec] 29) := ⟨_, rfl⟩
 rw [← hW_]
 obtain ⟨ub, hx_⟩ : ∃ x, x = W19.heap.size := ⟨_, rfl⟩
 rw [← hx_]
 have U20 : Hid (Blk W20 ub 29 #[.int .u64 c.gen, .int .u64 c.id, .int .i64 c.now, .string c.nm, .slice a.pA a.pn a.pc, .slice a.fA a.fn a.fc, .string c.nm2, .slice a.tA a.tn a.tc, .slice a.sA a.sn a.sc, .int .i64 c.bound, .int .i64 c.done, .slice a.eA a.en a.ec]) := by show Blk _ _ _ _; rw [hW_, hx_]; exact Blk.new _ _ _
 have FW20 : Fr (fun _ => False) W1 W20 := by rw [hW_]; exact FW19.alloc _
 have fpW20 : Fr (fun _ => False) W19 W20 := by rw [hW_]; exact Fr.none_alloc _ _
 have hbub : W1.heap.size ≤ ub := by rw [hx_]; exact FW19.size
 have hnub : W19.heap.size ≤ ub := by rw [hx_]; exact Nat.le_refl _
 clear hW_ hx_ FW19
 have E20 : Hid (Blk W20 eb 56 #[.int .u64 e.id, .int .i64 e.tier, .int .i64 e.shard, .int .i64 e.place, .int .i64 e.of_, .slice e.ba e.bn e.bc]) := E19.out.fr fpW20 (fun h => h)
 have heu : eb < ub := Nat.lt_of_lt_of_le E19.out.lt hnub
 have HC21 : Hid (∀ W, Fr (fun j => j = ub) W20 W → W.cell? ⟨w.heap.size, 11, none⟩ = some (.slice (some ad) a.en a.ec) ∧ W.cell? ⟨eb, 0, none⟩ = some (.int .u64 e.id) ∧ W.cell? ⟨eb, 1, none⟩ = some (.int .i64 e.tier) ∧ W.cell? ⟨eb, 2, none⟩ = some (.int .i64 e.shard) ∧ W.cell? ⟨eb, 3, none⟩ = some (.int .i64 e.place) ∧ W.cell? ⟨eb, 4, none⟩ = some (.int .i64 e.of_) ∧ W.cell? ⟨eb, 5, none⟩ = some (.slice e.ba e.bn e.bc)) := fun W f => by
  have b := E20.out.fr f (by omega)
  exact ⟨(HE.out W (FW20.trans f (fun k hk => .inr (by omega)))).1, b.cell 0, b.cell 1, b.cell 2, b.cell 3, b.cell 4, b.cell 5⟩
 have HRE : Hid (∀ W, Fr (fun j => j = ub) W20 W → Rd W 6 (some ad) a.en (encells c.es)) := fun W f => by
  have h2 := (HIn.out W (FW20.trans f (fun k hk => .inr (by omega)))).re
  rw [Had.out] at h2
  exact h2
 clear E19 fpW20
 go_cut [10] (fun s10 wx => ∃ (W : World) (A2 : Option Addr) (c2 : Nat), W = wx ∧ s10 = .pointer (some ⟨ub, 0, none⟩) ∧ Blk wx ub 29 #[.int .u64 c.gen, .int .u64 c.id, .int .i64 c.now, .string c.nm, .slice a.pA a.pn a.pc, .slice a.fA a.fn a.fc, .string c.nm2, .slice a.tA a.tn a.tc, .slice a.sA a.sn a.sc, .int .i64 c.bound, .int .i64 c.done, .slice A2 (a.en + 1) c2] ∧ wx.ownsRow W20.heap.size 56 6 (.slice A2 (a.en + 1) c2) (a.en + 1) (encells c.es ++ [.int .u64 e.id, .int .i64 e.tier, .int .i64 e.shard, .int .i64 e.place, .int .i64 e.of_, .slice e.ba e.bn e.bc]) ∧ Fr (fun j => j = ub) W20 wx)
 case first =>
  refine wp_region_held_drew (S := fun W => Fr (fun j => j = ub) W20 W) (by kernel_rfl) ((Fr.refl _ W20).drew) (fun hHeld => ?_)
  refine tq 3 [0,1,3] ?_
  iterate 2 refine sf HC21.out ?_
  refine sf HC21.out ?_
  try simp only [Act.put, sA, sB, sC]
  refine sz ?_
  try simp only [Act.put, sA, sB, sC]
  refine wpAnyH_ready (rs := [2, 4]) (by kernel_rfl) (by simp) ?_
  refine AllReadyH.cons (dg rfl) (fun K hK => ?_) ?_
  ·rw [if_pos (by rfl)]
   refine op_app3 _ _ 27 rfl 56 j0 _ 6 64 (by kernel_rfl) hjj hy0 hy1 hy2 rfl (by decide) (.slice none 0 0) 0 [] rfl W20.heap.size hHeld.size (World.ownsRow_nil _ _ _ _) _ _ _ (encells c.es) rfl (HRE.out _ hHeld) (encells_one _) (by unfold maxLen; omega) (by omega) (fun A5 c5 u5 ho5 hm5 _ => ?_)
   simp only [Nat.zero_add, List.nil_append] at ho5
   try simp only [Nat.zero_add]
   have ho5 := Lib.hid ho5
   have bgc := Lib.hid (U20.out.drew.fr hm5.fr (fun h => by cases h))
   refine hK.out _ _ (hHeld.trans hm5.fr (fun i hi => by cases hi)) (fun hHeld => ?_)
   clear hK K
   try simp only [Act.put, sA, sB, sC]
   refine rl 4 rfl (fun K hK => ?_)
   go_simp
   have rbx := Lib.hid (Rd.newS (w := u5) (k := u5.heap.size) rfl [.int .u64 e.id, .int .i64 e.tier, .int .i64 e.shard, .int .i64 e.place, .int .i64 e.of_, .slice e.ba e.bn e.bc] 56 1 6 rfl)
   have ho5 := Lib.hid (own_fr0 ho5.out (Fr.none_alloc u5 (.cells #[.int .u64 e.id, .int .i64 e.tier, .int .i64 e.shard, .int .i64 e.place, .int .i64 e.of_, .slice e.ba e.bn e.bc] 56)))
   have bgc := Lib.hid (bgc.out.alloc (.cells #[.int .u64 e.id, .int .i64 e.tier, .int .i64 e.shard, .int .i64 e.place, .int .i64 e.of_, .slice e.ba e.bn e.bc] 56))
   refine hK.out _ _ (hHeld.trans (Fr.none_alloc _ _) (fun _ h => h.elim)) (fun hHeld => ?_)
   clear hK K
   try simp only [Act.put, sA, sB, sC]
   refine rl 5 rfl (fun K hK => ?_)
   rw [if_pos (by rfl)]
   refine op_app3 _ _ 27 rfl 56 j0 _ 6 64 (by kernel_rfl) hjj hy0 hy1 hy2 rfl (by decide) (.slice A5 a.en c5) a.en (encells c.es) rfl W20.heap.size hHeld.size ho5.out (some ⟨u5.heap.size, 0, none⟩) 1 1 [.int .u64 e.id, .int .i64 e.tier, .int .i64 e.shard, .int .i64 e.place, .int .i64 e.of_, .slice e.ba e.bn e.bc] rfl rbx.out (by intro u hu; simp at hu; rcases hu with rfl | rfl | rfl | rfl | rfl | rfl <;> rfl) (by unfold maxLen; omega) (by omega) (fun A6 c6 u6 ho6 hm6 _ => ?_)
   have ho6 := Lib.hid ho6
   have bgc := Lib.hid (bgc.out.fr hm6.fr (fun h => absurd (ho5.out.lt ub h).1 (Nat.not_le.2 U20.out.lt)))
   have z1 := bgc.out.cell 11
   have z2 := bgc.out.frozen 11
   simp only [List.getElem?_toArray, List.getElem?_cons_succ, List.getElem?_cons_zero] at z1
   refine hK.out _ _ (hHeld.trans hm6.fr (fun i hi => .inr (ho5.out.lt i hi).1)) (fun hHeld => ?_)
   clear hK K
   refine tl 6 ?v16 rfl ?q16 ?r16
   case q16 => intro W hSw; go_simp; try rfl
   try simp only [Act.put, sA, sB, sC]
   refine rl 7 rfl (fun K hK => ?_)
   go_simp
   refine hK.out _ _ (hHeld.setCell (.inl rfl) _) (fun hHeld => ?_)
   clear hK K
   try simp only [Act.put, sA, sB, sC]
   refine wpAnyH_done (by kernel_rfl) ?_ _
   have HB7 := bgc.out.set_ 11 (.slice A6 (a.en + 1) c6)
   have HO7 := own_fr (w' := u6.setCell ⟨ub, 11, none⟩ (.slice A6 (a.en + 1) c6)) ho6.out ((Fr.refl (fun j => j = ub) u6).setCell (.inl rfl) _) (fun j hj e => by have h1 := (ho6.out.lt j hj).1; have h2 := U20.out.lt; omega)
   clear z1 z2 bgc
   go_wp2_with fail
   try go_meet
   refine ⟨_, A6, c6, rfl, rfl, ?_, HO7, hHeld⟩
   simpa using HB7
  refine AllReadyH.cons (dg rfl) (fun K hK => ?_) AllReadyH.nil
  go_simp
  have rbx := Lib.hid (Rd.newS (w := W20) (k := W20.heap.size) rfl [.int .u64 e.id, .int .i64 e.tier, .int .i64 e.shard, .int .i64 e.place, .int .i64 e.of_, .slice e.ba e.bn e.bc] 56 1 6 rfl).drew
  have bgc := Lib.hid ((U20.out.alloc (.cells #[.int .u64 e.id, .int .i64 e.tier, .int .i64 e.shard, .int .i64 e.place, .int .i64 e.of_, .slice e.ba e.bn e.bc] 56)).drew)
  refine hK.out _ _ (by first | exact ((Fr.refl _ W20).alloc _).drew | exact hHeld.alloc _) (fun hHeld => ?_)
  clear hK K
  try simp only [Act.put, sA, sB, sC]
  refine rl 2 rfl (fun K hK => ?_)
  rw [if_pos (by rfl)]
  refine op_app3 _ _ 27 rfl 56 j0 _ 6 64 (by kernel_rfl) hjj hy0 hy1 hy2 rfl (by decide) (.slice none 0 0) 0 [] rfl W20.heap.size hHeld.size (World.ownsRow_nil _ _ _ _) _ _ _ (encells c.es) rfl (HRE.out _ hHeld) (encells_one _) (by unfold maxLen; omega) (by omega) (fun A5 c5 u5 ho5 hm5 _ => ?_)
  simp only [Nat.zero_add, List.nil_append] at ho5
  try simp only [Nat.zero_add]
  have ho5 := Lib.hid ho5
  have rbx := Lib.hid (rbx.out.fr hm5.fr (fun _ _ h => by cases h))
  have bgc := Lib.hid (bgc.out.fr hm5.fr (fun h => by cases h))
  refine hK.out _ _ (hHeld.trans hm5.fr (fun i hi => by cases hi)) (fun hHeld => ?_)
  clear hK K
  try simp only [Act.put, sA, sB, sC]
  refine rl 5 rfl (fun K hK => ?_)
  rw [if_pos (by rfl)]
  refine op_app3 _ _ 27 rfl 56 j0 _ 6 64 (by kernel_rfl) hjj hy0 hy1 hy2 rfl (by decide) (.slice A5 a.en c5) a.en (encells c.es) rfl W20.heap.size hHeld.size ho5.out (some ⟨W20.heap.size, 0, none⟩) 1 1 [.int .u64 e.id, .int .i64 e.tier, .int .i64 e.shard, .int .i64 e.place, .int .i64 e.of_, .slice e.ba e.bn e.bc] rfl rbx.out (by intro u hu; simp at hu; rcases hu with rfl | rfl | rfl | rfl | rfl | rfl <;> rfl) (by unfold maxLen; omega) (by omega) (fun A6 c6 u6 ho6 hm6 _ => ?_)
  have ho6 := Lib.hid ho6
  have bgc := Lib.hid (bgc.out.fr hm6.fr (fun h => absurd (ho5.out.lt ub h).1 (Nat.not_le.2 U20.out.lt)))
  have z1 := bgc.out.cell 11
  have z2 := bgc.out.frozen 11
  simp only [List.getElem?_toArray, List.getElem?_cons_succ, List.getElem?_cons_zero] at z1
  refine hK.out _ _ (hHeld.trans hm6.fr (fun i hi => .inr (ho5.out.lt i hi).1)) (fun hHeld => ?_)
  clear hK K
  refine tl 6 ?v17 rfl ?q17 ?r17
  case q17 => intro W hSw; go_simp; try rfl
  try simp only [Act.put, sA, sB, sC]
  refine rl 7 rfl (fun K hK => ?_)
  go_simp
  refine hK.out _ _ (hHeld.setCell (.inl rfl) _) (fun hHeld => ?_)
  clear hK K
  try simp only [Act.put, sA, sB, sC]
  refine wpAnyH_done (by kernel_rfl) ?_ _
  have HB7 := bgc.out.set_ 11 (.slice A6 (a.en + 1) c6)
  have HO7 := own_fr (w' := u6.setCell ⟨ub, 11, none⟩ (.slice A6 (a.en + 1) c6)) ho6.out ((Fr.refl (fun j => j = ub) u6).setCell (.inl rfl) _) (fun j hj e => by have h1 := (ho6.out.lt j hj).1; have h2 := U20.out.lt; omega)
  clear z1 z2 bgc
  go_wp2_with fail
  try go_meet
  refine ⟨_, A6, c6, rfl, rfl, ?_, HO7, hHeld⟩
  simpa using HB7
 case rest =>
 obtain ⟨W21, A7, c7, rfl, rfl, hU, hO, hF⟩ := hcut
 have FW21 : Fr (fun _ => False) W1 W21 := FW20.trans hF (fun k hk => .inr (by omega))
 have U21 := Lib.hid hU
 have O21 := Lib.hid hO
 have E21 : Hid (Blk W21 eb 56 #[.int .u64 e.id, .int .i64 e.tier, .int .i64 e.shard, .int .i64 e.place, .int .i64 e.of_, .slice e.ba e.bn e.bc]) := E20.out.fr hF (by omega)
 have hn21 : W20.heap.size ≤ W21.heap.size := hF.size
 have hub21 : ub < W21.heap.size := hU.lt
 have he20 : eb < W20.heap.size := E20.out.lt
 clear hU hO hF HC21 HRE U20 E20 FW20
 have HVu : Hid (∀ W, Fr (fun j => j = eb) W21 W → Calls Tryz.prog 13 #[.agg #[.int .u64 c.gen, .int .u64 c.id, .int .i64 c.now, .string c.nm, .slice a.pA a.pn a.pc, .slice a.fA a.fn a.fc, .string c.nm2, .slice a.tA a.tn a.tc, .slice a.sA a.sn a.sc, .int .i64 c.bound, .int .i64 c.done, .slice A7 (a.en + 1) c7]] W fun r w' => r = .returned (.bool false) ∧ Below W.heap.size W w') := fun W f => by
  have hq := HIn.out W (FW21.trans f (fun k hk => .inr (by omega)))
  have O := own_fr O21.out f (fun k hk h => by have := (O21.out.lt k hk).1; omega)
  have hI : CatIn W { c with es := c.es ++ [e] } { a with eA := A7, en := a.en + 1, ec := c7 } := { hq with
   re := by
    have h1 := Rd.of_own O
    show Rd W 6 A7 (a.en + 1) (encells (c.es ++ [e]))
    unfold encells at h1 ⊢
    rw [List.flatMap_append]
    exact h1
   le := by show (c.es ++ [e]).length = a.en + 1; rw [List.length_append, Hle.out]; rfl
   ce := own_caps O
   we := fun x hx => by
    rcases List.mem_append.1 hx with hx | hx
    ·exact hq.we x hx
    ·rw [List.mem_singleton] at hx
     rw [hx]
     exact hq.we e (List.mem_of_getElem? Hhe.out) }
  have := cvalid_any hI
  rw [spoil_u Hhe.out] at this
  exact this
 have HLu := Lib.hid (fun (W : World) (f : Fr (fun j => j = eb) W21 W) => (load_row (P := Tryz.prog) (U21.out.fr f (by omega)) 12 rfl Tryz.underlying29 cat_info).2.1)
 clear U21 O21
 go_upto_region 23 with (first | (with_reducible refine wpList_loadRowG (by kernel_rfl) _ 29 rfl w.heap.size #[.int .u64 c.gen, .int .u64 c.id, .int .i64 c.now, .string c.nm, .slice a.pA a.pn a.pc, .slice a.fA a.fn a.fc, .string c.nm2, .slice a.tA a.tn a.tc, .slice a.sA a.sn a.sc, .int .i64 c.bound, .int .i64 c.done, .slice a.eA a.en a.ec] (by kernel_rfl) (HLc.out _ (by assumption)) ?_))
 obtain ⟨W22, hW_⟩ : ∃ W, W = W21.alloc (.cells #[.int .u64 c.gen, .int .u64 c.id, .int .i64 c.now, .string c.nm, .slice a.pA a.pn a.pc, .slice a.fA a.fn a.fc, .string c.nm2, .slice a.tA a.tn a.tc, .slice a.sA a.sn a.sc, .int .i64 c.bound, .int .i64 c.done, .slice a.eA a.en a.ec] 29) := ⟨_, rfl⟩
 rw [← hW_]
 obtain ⟨vb, hx_⟩ : ∃ x, x = W21.heap.size := ⟨_, rfl⟩
 rw [← hx_]
 have V22 : Hid (Blk W22 vb 29 #[.int .u64 c.gen, .int .u64 c.id, .int .i64 c.now, .string c.nm, .slice a.pA a.pn a.pc, .slice a.fA a.fn a.fc, .string c.nm2, .slice a.tA a.tn a.tc, .slice a.sA a.sn a.sc, .int .i64 c.bound, .int .i64 c.done, .slice a.eA a.en a.ec]) := by show Blk _ _ _ _; rw [hW_, hx_]; exact Blk.new _ _ _
 have FW22 : Fr (fun _ => False) W1 W22 := by rw [hW_]; exact FW21.alloc _
 have fpW22 : Fr (fun _ => False) W21 W22 := by rw [hW_]; exact Fr.none_alloc _ _
 have hbvb : W1.heap.size ≤ vb := by rw [hx_]; exact FW21.size
 have hnvb : W21.heap.size ≤ vb := by rw [hx_]; exact Nat.le_refl _
 clear hW_ hx_ FW21
 have x11 : W22.cell? ⟨w.heap.size, 11, none⟩ = some (.slice a.eA a.en a.ec) := (X1.out.fr FW22 (fun h => h)).cell 11
 go_wp2_with (at_builtin; refine wpList_app2 rfl _ _ 27 rfl 56 j0 _ 6 64 (by kernel_rfl) hjj hy0 hy1 hy2 rfl (by decide) (.slice none 0 0) 0 [] rfl W22.heap.size (Nat.le_refl _) (World.ownsRow_nil _ _ _ _) a.eA a.en a.ec (encells c.es) rfl (HIn.out _ FW22).re (encells_one _) ?q1 ?q2 ?_)
 case q1 => unfold maxLen; omega
 case q2 => omega
 intro A8 c8 w23 h23 m23 _
 have V23 : Hid (Blk w23 vb 29 #[.int .u64 c.gen, .int .u64 c.id, .int .i64 c.now, .string c.nm, .slice a.pA a.pn a.pc, .slice a.fA a.fn a.fc, .string c.nm2, .slice a.tA a.tn a.tc, .slice a.sA a.sn a.sc, .int .i64 c.bound, .int .i64 c.done, .slice a.eA a.en a.ec]) := V22.out.fr m23.fr (fun h => by cases h)
 have G23 : Fr (fun _ => False) W21 w23 := fpW22.trans m23.fr (fun k hk => by cases hk)
 have FW23 : Fr (fun _ => False) W1 w23 := FW22.trans m23.fr (fun k hk => by cases hk)
 have h23b : w23.ownsRow W22.heap.size 56 6 (.slice A8 a.en c8) a.en (encells c.es) := by simpa using h23
 obtain ⟨g8, rfl⟩ := own_addr h23b hen0
 have H23 := Lib.hid h23b
 have hvb22 : vb < W22.heap.size := V22.out.lt
 clear h23 h23b m23 FW22 V22 x11 fpW22
 have x11 : w23.cell? ⟨vb, 11, none⟩ = some (.slice a.eA a.en a.ec) := V23.out.cell 11
 have z11 := V23.out.frozen 11
 go_upto_region 24 with fail
 obtain ⟨W24, hW24⟩ : ∃ W, W = w23.setCell ⟨vb, 11, none⟩ (.slice (some ⟨g8, 0, none⟩) a.en c8) := ⟨_, rfl⟩
 rw [← hW24]
 have V24 : Hid (Blk W24 vb 29 #[.int .u64 c.gen, .int .u64 c.id, .int .i64 c.now, .string c.nm, .slice a.pA a.pn a.pc, .slice a.fA a.fn a.fc, .string c.nm2, .slice a.tA a.tn a.tc, .slice a.sA a.sn a.sc, .int .i64 c.bound, .int .i64 c.done, .slice (some ⟨g8, 0, none⟩) a.en c8]) := by
  show Blk _ _ _ _
  rw [hW24]
  have := V23.out.set_ 11 (.slice (some ⟨g8, 0, none⟩) a.en c8)
  simpa using this
 have f2324 : Fr (fun i => i = vb) w23 W24 := by rw [hW24]; exact (Fr.refl (fun i => i = vb) w23).setCell (p := ⟨vb, 11, none⟩) (.inl rfl) _
 have FW24 : Fr (fun _ => False) W1 W24 := FW23.trans f2324 (fun k hk => .inr (by omega))
 have G24 : Fr (fun _ => False) W21 W24 := G23.trans f2324 (fun k hk => .inr (by omega))
 have H24 := Lib.hid (own_fr H23.out f2324 (fun k hk h => by have := (H23.out.lt k hk).1; omega))
 have hg8 : W22.heap.size ≤ g8 := (H23.out.lt g8 rfl).1
 have hg8b : g8 < W24.heap.size := (H24.out.lt g8 rfl).2
 clear hW24 f2324 x11 z11 FW23 G23 V23 H23
 have E24 : Hid (Blk W24 eb 56 #[.int .u64 e.id, .int .i64 e.tier, .int .i64 e.shard, .int .i64 e.place, .int .i64 e.of_, .slice e.ba e.bn e.bc]) := E21.out.fr G24 (fun h => h)
 have he24 : eb < W24.heap.size := E24.out.lt
 clear E21
 have hmem : e ∈ c.es := List.mem_of_getElem? Hhe.out
 obtain ⟨hb0, hb1⟩ := entry_bl Hvb.out Hhe.out
 have hok := (HIn.out _ FW24).we e hmem
 have hbn : e.bn ≤ 4096 := by rw [← hok.blen]; exact hb1
 have hbn0 : 0 < e.bn := by rw [← hok.blen]; exact hb0
 have hbnI : (0 : Int) < (e.bn : Int) := by omega
 obtain ⟨b0, t0, hbl⟩ : ∃ b0 t0, e.bl = b0 :: t0 := by
  cases hq : e.bl with
  | nil => rw [hq] at hb0; simp at hb0
  | cons x l => exact ⟨x, l, rfl⟩
 obtain ⟨bd, hbd, _⟩ := hok.b.2 hbn0
 have HBR : Hid (∀ W, Fr (fun j => j = eb) W24 W → Rd W 1 (some bd) e.bn (ints e.bl)) := fun W f => by
  have h2 := ((HIn.out W (FW24.trans f (fun k hk => .inr (by omega)))).we e hmem).b
  rw [hbd] at h2
  exact h2
 have HB : Hid (∀ W, Fr (fun j => j = eb) W24 W → W.cell? bd = some (.int .i64 b0)) := fun W f => by
  obtain ⟨bd', hA, hc⟩ := (HBR.out W f).2 hbn0
  injection hA with hA
  subst hA
  have := hc 0 (.int .i64 b0) (by rw [hbl]; rfl)
  rwa [addr_zero] at this
 have E24b : Hid (Blk W24 eb 56 #[.int .u64 e.id, .int .i64 e.tier, .int .i64 e.shard, .int .i64 e.place, .int .i64 e.of_, .slice (some bd) e.bn e.bc]) := by have := E24.out; rw [hbd] at this; exact this
 have HXb := Lib.hid (fun (W : World) (f : Fr (fun j => j = eb) W24 W) => HB.out W f)
 have Hbl := Lib.hid hbl
 clear hok hbd hbl hb0 hb1 E24
 obtain ⟨m, hm⟩ : ∃ m, m = e.bn + 1 := ⟨_, rfl⟩
 have Hm := Lib.hid hm
 clear hm
 go_cut [9] (fun s9 wx => ∃ (W : World) (A4 : Option Addr) (c4 : Nat), W = wx ∧ s9 = .pointer (some ⟨eb, 0, none⟩) ∧ Blk wx eb 56 #[.int .u64 e.id, .int .i64 e.tier, .int .i64 e.shard, .int .i64 e.place, .int .i64 e.of_, .slice A4 m c4] ∧ wx.ownsRow W24.heap.size 3 1 (.slice A4 m c4) m (ints e.bl ++ [.int .i64 b0]) ∧ Fr (fun j => j = eb) W24 wx)
 case first =>
  refine wp_region_held_drew (S := fun W => Fr (fun j => j = eb) W24 W) (by kernel_rfl) ((Fr.refl _ W24).drew) (fun hHeld => ?_)
  refine tq 2 [0,3] ?_
  refine sk ?_
  refine sk ?_
  try simp only [Act.put, sA, sB, sC]
  refine sz ?_
  try simp only [Act.put, sA, sB, sC]
  refine wpAnyH_ready (rs := [1, 4]) (by kernel_rfl) (by simp) ?_
  refine AllReadyH.cons (dg rfl) (fun K hK => ?_) ?_
  ·rw [if_pos (by rfl)]
   have bgc := Lib.hid E24b.out.drew
   have y5 := bgc.out.cell 5
   simp only [List.getElem?_toArray, List.getElem?_cons_succ, List.getElem?_cons_zero] at y5
   go_simp
   try clear y5
   refine hK.out _ _ (hHeld) (fun hHeld => ?_)
   clear hK K
   try simp only [Act.put, sA, sB, sC]
   refine wpAnyH_ready (rs := [2, 4]) (by kernel_rfl) (by simp) ?_
   refine AllReadyH.cons (dg rfl) (fun K hK => ?_) ?_
   ·rw [if_pos (by rfl)]
    refine op_app3 _ _ 26 rfl 3 i0 (.int .i64 0) 1 8 Tryz.underlying26 hi hz0 hz1 hz2 rfl (by decide) (.slice none 0 0) 0 [] rfl W24.heap.size hHeld.size (World.ownsRow_nil _ _ _ _) _ _ _ (ints e.bl) rfl (HBR.out _ hHeld) (ints_one _) (by unfold maxLen; omega) (by omega) (fun A5 c5 u5 ho5 hm5 _ => ?_)
    simp only [Nat.zero_add, List.nil_append] at ho5
    try simp only [Nat.zero_add]
    have ho5 := Lib.hid ho5
    have bgc := Lib.hid (bgc.out.fr hm5.fr (fun h => by cases h))
    refine hK.out _ _ (hHeld.trans hm5.fr (fun i hi => by cases hi)) (fun hHeld => ?_)
    clear hK K
    try simp only [Act.put, sA, sB, sC]
    refine rl 4 rfl (fun K hK => ?_)
    rw [if_pos (by rfl)]
    have y5 := bgc.out.cell 5
    simp only [List.getElem?_toArray, List.getElem?_cons_succ, List.getElem?_cons_zero] at y5
    go_simp
    try clear y5
    refine hK.out _ _ (hHeld) (fun hHeld => ?_)
    clear hK K
    refine tq 2 [5,6] ?_
    refine sf HXb.out ?_
    refine sf HXb.out ?_
    try simp only [Act.put, sA, sB, sC]
    refine sz ?_
    try simp only [Act.put, sA, sB, sC]
    refine rl 7 rfl (fun K hK => ?_)
    go_simp
    have rbx := Lib.hid (Rd.newS (w := u5) (k := u5.heap.size) rfl [.int .i64 b0] 3 1 1 rfl)
    have ho5 := Lib.hid (own_fr0 ho5.out (Fr.none_alloc u5 (.cells #[.int .i64 b0] 3)))
    have bgc := Lib.hid (bgc.out.alloc (.cells #[.int .i64 b0] 3))
    refine hK.out _ _ (hHeld.trans (Fr.none_alloc _ _) (fun _ h => h.elim)) (fun hHeld => ?_)
    clear hK K
    try simp only [Act.put, sA, sB, sC]
    refine rl 8 rfl (fun K hK => ?_)
    rw [if_pos (by rfl)]
    refine op_app3 _ _ 26 rfl 3 i0 (.int .i64 0) 1 8 Tryz.underlying26 hi hz0 hz1 hz2 rfl (by decide) (.slice A5 e.bn c5) e.bn (ints e.bl) rfl W24.heap.size hHeld.size ho5.out (some ⟨u5.heap.size, 0, none⟩) 1 1 [.int .i64 b0] rfl rbx.out (by intro u hu; simp at hu; subst hu; rfl) (by unfold maxLen; omega) (by omega) (fun A6 c6 u6 ho6 hm6 _ => ?_)
    have ho6 := Lib.hid ho6
    have bgc := Lib.hid (bgc.out.fr hm6.fr (fun h => absurd (ho5.out.lt eb h).1 (Nat.not_le.2 he24)))
    have z1 := bgc.out.cell 5
    have z2 := bgc.out.frozen 5
    simp only [List.getElem?_toArray, List.getElem?_cons_succ, List.getElem?_cons_zero] at z1
    refine hK.out _ _ (hHeld.trans hm6.fr (fun i hi => .inr (ho5.out.lt i hi).1)) (fun hHeld => ?_)
    clear hK K
    refine tl 9 ?v31 rfl ?q31 ?r31
    case q31 => intro W hSw; go_simp; try rfl
    try simp only [Act.put, sA, sB, sC]
    refine rl 10 rfl (fun K hK => ?_)
    go_simp
    refine hK.out _ _ (hHeld.setCell (.inl rfl) _) (fun hHeld => ?_)
    clear hK K
    try simp only [Act.put, sA, sB, sC]
    refine wpAnyH_done (by kernel_rfl) ?_ _
    have HB7 := bgc.out.set_ 5 (.slice A6 (e.bn + 1) c6)
    have HO7 := own_fr (w' := u6.setCell ⟨eb, 5, none⟩ (.slice A6 (e.bn + 1) c6)) ho6.out ((Fr.refl (fun j => j = eb) u6).setCell (.inl rfl) _) (fun j hj h => by have h1 := (ho6.out.lt j hj).1; omega)
    clear z1 z2 bgc
    go_wp2_with fail
    try go_meet
    refine ⟨_, A6, c6, rfl, rfl, ?_, ?_, hHeld⟩
    ·rw [Hm.out]
     simpa using HB7
    ·rw [Hm.out]
     exact HO7
   refine AllReadyH.cons (dg rfl) (fun K hK => ?_) AllReadyH.nil
   rw [if_pos (by rfl)]
   have y5 := bgc.out.cell 5
   simp only [List.getElem?_toArray, List.getElem?_cons_succ, List.getElem?_cons_zero] at y5
   go_simp
   try clear y5
   refine hK.out _ _ (hHeld) (fun hHeld => ?_)
   clear hK K
   refine tq 2 [5,6] ?_
   refine sf HXb.out ?_
   refine sf HXb.out ?_
   try simp only [Act.put, sA, sB, sC]
   refine sz ?_
   try simp only [Act.put, sA, sB, sC]
   refine wpAnyH_ready (rs := [2, 7]) (by kernel_rfl) (by simp) ?_
   refine AllReadyH.cons (dg rfl) (fun K hK => ?_) ?_
   ·rw [if_pos (by rfl)]
    refine op_app3 _ _ 26 rfl 3 i0 (.int .i64 0) 1 8 Tryz.underlying26 hi hz0 hz1 hz2 rfl (by decide) (.slice none 0 0) 0 [] rfl W24.heap.size hHeld.size (World.ownsRow_nil _ _ _ _) _ _ _ (ints e.bl) rfl (HBR.out _ hHeld) (ints_one _) (by unfold maxLen; omega) (by omega) (fun A5 c5 u5 ho5 hm5 _ => ?_)
    simp only [Nat.zero_add, List.nil_append] at ho5
    try simp only [Nat.zero_add]
    have ho5 := Lib.hid ho5
    have bgc := Lib.hid (bgc.out.fr hm5.fr (fun h => by cases h))
    refine hK.out _ _ (hHeld.trans hm5.fr (fun i hi => by cases hi)) (fun hHeld => ?_)
    clear hK K
    try simp only [Act.put, sA, sB, sC]
    refine rl 7 rfl (fun K hK => ?_)
    go_simp
    have rbx := Lib.hid (Rd.newS (w := u5) (k := u5.heap.size) rfl [.int .i64 b0] 3 1 1 rfl)
    have ho5 := Lib.hid (own_fr0 ho5.out (Fr.none_alloc u5 (.cells #[.int .i64 b0] 3)))
    have bgc := Lib.hid (bgc.out.alloc (.cells #[.int .i64 b0] 3))
    refine hK.out _ _ (hHeld.trans (Fr.none_alloc _ _) (fun _ h => h.elim)) (fun hHeld => ?_)
    clear hK K
    try simp only [Act.put, sA, sB, sC]
    refine rl 8 rfl (fun K hK => ?_)
    rw [if_pos (by rfl)]
    refine op_app3 _ _ 26 rfl 3 i0 (.int .i64 0) 1 8 Tryz.underlying26 hi hz0 hz1 hz2 rfl (by decide) (.slice A5 e.bn c5) e.bn (ints e.bl) rfl W24.heap.size hHeld.size ho5.out (some ⟨u5.heap.size, 0, none⟩) 1 1 [.int .i64 b0] rfl rbx.out (by intro u hu; simp at hu; subst hu; rfl) (by unfold maxLen; omega) (by omega) (fun A6 c6 u6 ho6 hm6 _ => ?_)
    have ho6 := Lib.hid ho6
    have bgc := Lib.hid (bgc.out.fr hm6.fr (fun h => absurd (ho5.out.lt eb h).1 (Nat.not_le.2 he24)))
    have z1 := bgc.out.cell 5
    have z2 := bgc.out.frozen 5
    simp only [List.getElem?_toArray, List.getElem?_cons_succ, List.getElem?_cons_zero] at z1
    refine hK.out _ _ (hHeld.trans hm6.fr (fun i hi => .inr (ho5.out.lt i hi).1)) (fun hHeld => ?_)
    clear hK K
    refine tl 9 ?v34 rfl ?q34 ?r34
    case q34 => intro W hSw; go_simp; try rfl
    try simp only [Act.put, sA, sB, sC]
    refine rl 10 rfl (fun K hK => ?_)
    go_simp
    refine hK.out _ _ (hHeld.setCell (.inl rfl) _) (fun hHeld => ?_)
    clear hK K
    try simp only [Act.put, sA, sB, sC]
    refine wpAnyH_done (by kernel_rfl) ?_ _
    have HB7 := bgc.out.set_ 5 (.slice A6 (e.bn + 1) c6)
    have HO7 := own_fr (w' := u6.setCell ⟨eb, 5, none⟩ (.slice A6 (e.bn + 1) c6)) ho6.out ((Fr.refl (fun j => j = eb) u6).setCell (.inl rfl) _) (fun j hj h => by have h1 := (ho6.out.lt j hj).1; omega)
    clear z1 z2 bgc
    go_wp2_with fail
    try go_meet
    refine ⟨_, A6, c6, rfl, rfl, ?_, ?_, hHeld⟩
    ·rw [Hm.out]
     simpa using HB7
    ·rw [Hm.out]
     exact HO7
   refine AllReadyH.cons (dg rfl) (fun K hK => ?_) AllReadyH.nil
   go_simp
   have rbx := Lib.hid (Rd.newS (w := W24) (k := W24.heap.size) rfl [.int .i64 b0] 3 1 1 rfl).drew
   have bgc := Lib.hid ((E24b.out.alloc (.cells #[.int .i64 b0] 3)).drew)
   refine hK.out _ _ (by first | exact ((Fr.refl _ W24).alloc _).drew | exact hHeld.alloc _) (fun hHeld => ?_)
   clear hK K
   try simp only [Act.put, sA, sB, sC]
   refine rl 2 rfl (fun K hK => ?_)
   rw [if_pos (by rfl)]
   refine op_app3 _ _ 26 rfl 3 i0 (.int .i64 0) 1 8 Tryz.underlying26 hi hz0 hz1 hz2 rfl (by decide) (.slice none 0 0) 0 [] rfl W24.heap.size hHeld.size (World.ownsRow_nil _ _ _ _) _ _ _ (ints e.bl) rfl (HBR.out _ hHeld) (ints_one _) (by unfold maxLen; omega) (by omega) (fun A5 c5 u5 ho5 hm5 _ => ?_)
   simp only [Nat.zero_add, List.nil_append] at ho5
   try simp only [Nat.zero_add]
   have ho5 := Lib.hid ho5
   have rbx := Lib.hid (rbx.out.fr hm5.fr (fun _ _ h => by cases h))
   have bgc := Lib.hid (bgc.out.fr hm5.fr (fun h => by cases h))
   refine hK.out _ _ (hHeld.trans hm5.fr (fun i hi => by cases hi)) (fun hHeld => ?_)
   clear hK K
   try simp only [Act.put, sA, sB, sC]
   refine rl 8 rfl (fun K hK => ?_)
   rw [if_pos (by rfl)]
   refine op_app3 _ _ 26 rfl 3 i0 (.int .i64 0) 1 8 Tryz.underlying26 hi hz0 hz1 hz2 rfl (by decide) (.slice A5 e.bn c5) e.bn (ints e.bl) rfl W24.heap.size hHeld.size ho5.out (some ⟨W24.heap.size, 0, none⟩) 1 1 [.int .i64 b0] rfl rbx.out (by intro u hu; simp at hu; subst hu; rfl) (by unfold maxLen; omega) (by omega) (fun A6 c6 u6 ho6 hm6 _ => ?_)
   have ho6 := Lib.hid ho6
   have bgc := Lib.hid (bgc.out.fr hm6.fr (fun h => absurd (ho5.out.lt eb h).1 (Nat.not_le.2 he24)))
   have z1 := bgc.out.cell 5
   have z2 := bgc.out.frozen 5
   simp only [List.getElem?_toArray, List.getElem?_cons_succ, List.getElem?_cons_zero] at z1
   refine hK.out _ _ (hHeld.trans hm6.fr (fun i hi => .inr (ho5.out.lt i hi).1)) (fun hHeld => ?_)
   clear hK K
   refine tl 9 ?v35 rfl ?q35 ?r35
   case q35 => intro W hSw; go_simp; try rfl
   try simp only [Act.put, sA, sB, sC]
   refine rl 10 rfl (fun K hK => ?_)
   go_simp
   refine hK.out _ _ (hHeld.setCell (.inl rfl) _) (fun hHeld => ?_)
   clear hK K
   try simp only [Act.put, sA, sB, sC]
   refine wpAnyH_done (by kernel_rfl) ?_ _
   have HB7 := bgc.out.set_ 5 (.slice A6 (e.bn + 1) c6)
   have HO7 := own_fr (w' := u6.setCell ⟨eb, 5, none⟩ (.slice A6 (e.bn + 1) c6)) ho6.out ((Fr.refl (fun j => j = eb) u6).setCell (.inl rfl) _) (fun j hj h => by have h1 := (ho6.out.lt j hj).1; omega)
   clear z1 z2 bgc
   go_wp2_with fail
   try go_meet
   refine ⟨_, A6, c6, rfl, rfl, ?_, ?_, hHeld⟩
   ·rw [Hm.out]
    simpa using HB7
   ·rw [Hm.out]
    exact HO7
  refine AllReadyH.cons (dg rfl) (fun K hK => ?_) AllReadyH.nil
  rw [if_pos (by rfl)]
  have bgc := Lib.hid E24b.out.drew
  have y5 := bgc.out.cell 5
  simp only [List.getElem?_toArray, List.getElem?_cons_succ, List.getElem?_cons_zero] at y5
  go_simp
  try clear y5
  refine hK.out _ _ (hHeld) (fun hHeld => ?_)
  clear hK K
  refine tq 2 [5,6] ?_
  refine sf HXb.out ?_
  refine sf HXb.out ?_
  try simp only [Act.put, sA, sB, sC]
  refine sz ?_
  try simp only [Act.put, sA, sB, sC]
  refine wpAnyH_ready (rs := [1, 7]) (by kernel_rfl) (by simp) ?_
  refine AllReadyH.cons (dg rfl) (fun K hK => ?_) ?_
  ·rw [if_pos (by rfl)]
   have y5 := bgc.out.cell 5
   simp only [List.getElem?_toArray, List.getElem?_cons_succ, List.getElem?_cons_zero] at y5
   go_simp
   try clear y5
   refine hK.out _ _ (hHeld) (fun hHeld => ?_)
   clear hK K
   try simp only [Act.put, sA, sB, sC]
   refine wpAnyH_ready (rs := [2, 7]) (by kernel_rfl) (by simp) ?_
   refine AllReadyH.cons (dg rfl) (fun K hK => ?_) ?_
   ·rw [if_pos (by rfl)]
    refine op_app3 _ _ 26 rfl 3 i0 (.int .i64 0) 1 8 Tryz.underlying26 hi hz0 hz1 hz2 rfl (by decide) (.slice none 0 0) 0 [] rfl W24.heap.size hHeld.size (World.ownsRow_nil _ _ _ _) _ _ _ (ints e.bl) rfl (HBR.out _ hHeld) (ints_one _) (by unfold maxLen; omega) (by omega) (fun A5 c5 u5 ho5 hm5 _ => ?_)
    simp only [Nat.zero_add, List.nil_append] at ho5
    try simp only [Nat.zero_add]
    have ho5 := Lib.hid ho5
    have bgc := Lib.hid (bgc.out.fr hm5.fr (fun h => by cases h))
    refine hK.out _ _ (hHeld.trans hm5.fr (fun i hi => by cases hi)) (fun hHeld => ?_)
    clear hK K
    try simp only [Act.put, sA, sB, sC]
    refine rl 7 rfl (fun K hK => ?_)
    go_simp
    have rbx := Lib.hid (Rd.newS (w := u5) (k := u5.heap.size) rfl [.int .i64 b0] 3 1 1 rfl)
    have ho5 := Lib.hid (own_fr0 ho5.out (Fr.none_alloc u5 (.cells #[.int .i64 b0] 3)))
    have bgc := Lib.hid (bgc.out.alloc (.cells #[.int .i64 b0] 3))
    refine hK.out _ _ (hHeld.trans (Fr.none_alloc _ _) (fun _ h => h.elim)) (fun hHeld => ?_)
    clear hK K
    try simp only [Act.put, sA, sB, sC]
    refine rl 8 rfl (fun K hK => ?_)
    rw [if_pos (by rfl)]
    refine op_app3 _ _ 26 rfl 3 i0 (.int .i64 0) 1 8 Tryz.underlying26 hi hz0 hz1 hz2 rfl (by decide) (.slice A5 e.bn c5) e.bn (ints e.bl) rfl W24.heap.size hHeld.size ho5.out (some ⟨u5.heap.size, 0, none⟩) 1 1 [.int .i64 b0] rfl rbx.out (by intro u hu; simp at hu; subst hu; rfl) (by unfold maxLen; omega) (by omega) (fun A6 c6 u6 ho6 hm6 _ => ?_)
    have ho6 := Lib.hid ho6
    have bgc := Lib.hid (bgc.out.fr hm6.fr (fun h => absurd (ho5.out.lt eb h).1 (Nat.not_le.2 he24)))
    have z1 := bgc.out.cell 5
    have z2 := bgc.out.frozen 5
    simp only [List.getElem?_toArray, List.getElem?_cons_succ, List.getElem?_cons_zero] at z1
    refine hK.out _ _ (hHeld.trans hm6.fr (fun i hi => .inr (ho5.out.lt i hi).1)) (fun hHeld => ?_)
    clear hK K
    refine tl 9 ?v38 rfl ?q38 ?r38
    case q38 => intro W hSw; go_simp; try rfl
    try simp only [Act.put, sA, sB, sC]
    refine rl 10 rfl (fun K hK => ?_)
    go_simp
    refine hK.out _ _ (hHeld.setCell (.inl rfl) _) (fun hHeld => ?_)
    clear hK K
    try simp only [Act.put, sA, sB, sC]
    refine wpAnyH_done (by kernel_rfl) ?_ _
    have HB7 := bgc.out.set_ 5 (.slice A6 (e.bn + 1) c6)
    have HO7 := own_fr (w' := u6.setCell ⟨eb, 5, none⟩ (.slice A6 (e.bn + 1) c6)) ho6.out ((Fr.refl (fun j => j = eb) u6).setCell (.inl rfl) _) (fun j hj h => by have h1 := (ho6.out.lt j hj).1; omega)
    clear z1 z2 bgc
    go_wp2_with fail
    try go_meet
    refine ⟨_, A6, c6, rfl, rfl, ?_, ?_, hHeld⟩
    ·rw [Hm.out]
     simpa using HB7
    ·rw [Hm.out]
     exact HO7
   refine AllReadyH.cons (dg rfl) (fun K hK => ?_) AllReadyH.nil
   go_simp
   have rbx := Lib.hid (Rd.newS (w := W24) (k := W24.heap.size) rfl [.int .i64 b0] 3 1 1 rfl).drew
   have bgc := Lib.hid ((E24b.out.alloc (.cells #[.int .i64 b0] 3)).drew)
   refine hK.out _ _ (by first | exact ((Fr.refl _ W24).alloc _).drew | exact hHeld.alloc _) (fun hHeld => ?_)
   clear hK K
   try simp only [Act.put, sA, sB, sC]
   refine rl 2 rfl (fun K hK => ?_)
   rw [if_pos (by rfl)]
   refine op_app3 _ _ 26 rfl 3 i0 (.int .i64 0) 1 8 Tryz.underlying26 hi hz0 hz1 hz2 rfl (by decide) (.slice none 0 0) 0 [] rfl W24.heap.size hHeld.size (World.ownsRow_nil _ _ _ _) _ _ _ (ints e.bl) rfl (HBR.out _ hHeld) (ints_one _) (by unfold maxLen; omega) (by omega) (fun A5 c5 u5 ho5 hm5 _ => ?_)
   simp only [Nat.zero_add, List.nil_append] at ho5
   try simp only [Nat.zero_add]
   have ho5 := Lib.hid ho5
   have rbx := Lib.hid (rbx.out.fr hm5.fr (fun _ _ h => by cases h))
   have bgc := Lib.hid (bgc.out.fr hm5.fr (fun h => by cases h))
   refine hK.out _ _ (hHeld.trans hm5.fr (fun i hi => by cases hi)) (fun hHeld => ?_)
   clear hK K
   try simp only [Act.put, sA, sB, sC]
   refine rl 8 rfl (fun K hK => ?_)
   rw [if_pos (by rfl)]
   refine op_app3 _ _ 26 rfl 3 i0 (.int .i64 0) 1 8 Tryz.underlying26 hi hz0 hz1 hz2 rfl (by decide) (.slice A5 e.bn c5) e.bn (ints e.bl) rfl W24.heap.size hHeld.size ho5.out (some ⟨W24.heap.size, 0, none⟩) 1 1 [.int .i64 b0] rfl rbx.out (by intro u hu; simp at hu; subst hu; rfl) (by unfold maxLen; omega) (by omega) (fun A6 c6 u6 ho6 hm6 _ => ?_)
   have ho6 := Lib.hid ho6
   have bgc := Lib.hid (bgc.out.fr hm6.fr (fun h => absurd (ho5.out.lt eb h).1 (Nat.not_le.2 he24)))
   have z1 := bgc.out.cell 5
   have z2 := bgc.out.frozen 5
   simp only [List.getElem?_toArray, List.getElem?_cons_succ, List.getElem?_cons_zero] at z1
   refine hK.out _ _ (hHeld.trans hm6.fr (fun i hi => .inr (ho5.out.lt i hi).1)) (fun hHeld => ?_)
   clear hK K
   refine tl 9 ?v39 rfl ?q39 ?r39
   case q39 => intro W hSw; go_simp; try rfl
   try simp only [Act.put, sA, sB, sC]
   refine rl 10 rfl (fun K hK => ?_)
   go_simp
   refine hK.out _ _ (hHeld.setCell (.inl rfl) _) (fun hHeld => ?_)
   clear hK K
   try simp only [Act.put, sA, sB, sC]
   refine wpAnyH_done (by kernel_rfl) ?_ _
   have HB7 := bgc.out.set_ 5 (.slice A6 (e.bn + 1) c6)
   have HO7 := own_fr (w' := u6.setCell ⟨eb, 5, none⟩ (.slice A6 (e.bn + 1) c6)) ho6.out ((Fr.refl (fun j => j = eb) u6).setCell (.inl rfl) _) (fun j hj h => by have h1 := (ho6.out.lt j hj).1; omega)
   clear z1 z2 bgc
   go_wp2_with fail
   try go_meet
   refine ⟨_, A6, c6, rfl, rfl, ?_, ?_, hHeld⟩
   ·rw [Hm.out]
    simpa using HB7
   ·rw [Hm.out]
    exact HO7
  refine AllReadyH.cons (dg rfl) (fun K hK => ?_) AllReadyH.nil
  go_simp
  have rbx := Lib.hid (Rd.newS (w := W24) (k := W24.heap.size) rfl [.int .i64 b0] 3 1 1 rfl).drew
  have bgc := Lib.hid ((E24b.out.alloc (.cells #[.int .i64 b0] 3)).drew)
  refine hK.out _ _ (by first | exact ((Fr.refl _ W24).alloc _).drew | exact hHeld.alloc _) (fun hHeld => ?_)
  clear hK K
  try simp only [Act.put, sA, sB, sC]
  refine rl 1 rfl (fun K hK => ?_)
  rw [if_pos (by rfl)]
  have y5 := bgc.out.cell 5
  simp only [List.getElem?_toArray, List.getElem?_cons_succ, List.getElem?_cons_zero] at y5
  go_simp
  try clear y5
  refine hK.out _ _ (hHeld) (fun hHeld => ?_)
  clear hK K
  try simp only [Act.put, sA, sB, sC]
  refine rl 2 rfl (fun K hK => ?_)
  rw [if_pos (by rfl)]
  refine op_app3 _ _ 26 rfl 3 i0 (.int .i64 0) 1 8 Tryz.underlying26 hi hz0 hz1 hz2 rfl (by decide) (.slice none 0 0) 0 [] rfl W24.heap.size hHeld.size (World.ownsRow_nil _ _ _ _) _ _ _ (ints e.bl) rfl (HBR.out _ hHeld) (ints_one _) (by unfold maxLen; omega) (by omega) (fun A5 c5 u5 ho5 hm5 _ => ?_)
  simp only [Nat.zero_add, List.nil_append] at ho5
  try simp only [Nat.zero_add]
  have ho5 := Lib.hid ho5
  have rbx := Lib.hid (rbx.out.fr hm5.fr (fun _ _ h => by cases h))
  have bgc := Lib.hid (bgc.out.fr hm5.fr (fun h => by cases h))
  refine hK.out _ _ (hHeld.trans hm5.fr (fun i hi => by cases hi)) (fun hHeld => ?_)
  clear hK K
  try simp only [Act.put, sA, sB, sC]
  refine rl 8 rfl (fun K hK => ?_)
  rw [if_pos (by rfl)]
  refine op_app3 _ _ 26 rfl 3 i0 (.int .i64 0) 1 8 Tryz.underlying26 hi hz0 hz1 hz2 rfl (by decide) (.slice A5 e.bn c5) e.bn (ints e.bl) rfl W24.heap.size hHeld.size ho5.out (some ⟨W24.heap.size, 0, none⟩) 1 1 [.int .i64 b0] rfl rbx.out (by intro u hu; simp at hu; subst hu; rfl) (by unfold maxLen; omega) (by omega) (fun A6 c6 u6 ho6 hm6 _ => ?_)
  have ho6 := Lib.hid ho6
  have bgc := Lib.hid (bgc.out.fr hm6.fr (fun h => absurd (ho5.out.lt eb h).1 (Nat.not_le.2 he24)))
  have z1 := bgc.out.cell 5
  have z2 := bgc.out.frozen 5
  simp only [List.getElem?_toArray, List.getElem?_cons_succ, List.getElem?_cons_zero] at z1
  refine hK.out _ _ (hHeld.trans hm6.fr (fun i hi => .inr (ho5.out.lt i hi).1)) (fun hHeld => ?_)
  clear hK K
  refine tl 9 ?v40 rfl ?q40 ?r40
  case q40 => intro W hSw; go_simp; try rfl
  try simp only [Act.put, sA, sB, sC]
  refine rl 10 rfl (fun K hK => ?_)
  go_simp
  refine hK.out _ _ (hHeld.setCell (.inl rfl) _) (fun hHeld => ?_)
  clear hK K
  try simp only [Act.put, sA, sB, sC]
  refine wpAnyH_done (by kernel_rfl) ?_ _
  have HB7 := bgc.out.set_ 5 (.slice A6 (e.bn + 1) c6)
  have HO7 := own_fr (w' := u6.setCell ⟨eb, 5, none⟩ (.slice A6 (e.bn + 1) c6)) ho6.out ((Fr.refl (fun j => j = eb) u6).setCell (.inl rfl) _) (fun j hj h => by have h1 := (ho6.out.lt j hj).1; omega)
  clear z1 z2 bgc
  go_wp2_with fail
  try go_meet
  refine ⟨_, A6, c6, rfl, rfl, ?_, ?_, hHeld⟩
  ·rw [Hm.out]
   simpa using HB7
  ·rw [Hm.out]
   exact HO7
 case rest =>
 obtain ⟨W25, A4, c4, rfl, rfl, hE, hO, hF⟩ := hcut
 have FW25 : Fr (fun _ => False) W1 W25 := FW24.trans hF (fun k hk => .inr (by omega))
 have G25 : Fr (fun j => j = eb) W21 W25 := (G24.mono (fun _ h => h.elim)).trans hF (fun k hk => .inl hk)
 have E25 := Lib.hid hE
 have O25 := Lib.hid hO
 have V25 := Lib.hid (V24.out.fr hF (by omega))
 have H25 := Lib.hid (own_fr H24.out hF (fun k hk h => by have := (H24.out.lt k hk).1; omega))
 clear hE hO hF E24b HXb HBR HB V24 H24 FW24 G24
 have hmi : IntKind.i64.wrap (m : Int) = (m : Int) := by have := Hm.out; simp [IntKind.wrap, IntKind.signed, IntKind.bits]; omega
 have y5 : W25.cell? ⟨eb, 5, none⟩ = some (.slice A4 m c4) := E25.out.cell 5
 have y4 : W25.cell? ⟨eb, 4, none⟩ = some (.int .i64 e.of_) := E25.out.cell 4
 have z4 := E25.out.frozen 4
 go_upto_region 26 with fail
 obtain ⟨W26, hW26⟩ : ∃ W, W = W25.setCell ⟨eb, 4, none⟩ (.int .i64 m) := ⟨_, rfl⟩
 rw [← hW26]
 have E26 : Hid (Blk W26 eb 56 #[.int .u64 e.id, .int .i64 e.tier, .int .i64 e.shard, .int .i64 e.place, .int .i64 m, .slice A4 m c4]) := by
  show Blk _ _ _ _
  rw [hW26]
  have := E25.out.set_ 4 (.int .i64 m)
  simpa using this
 have f2526 : Fr (fun j => j = eb) W25 W26 := by rw [hW26]; exact (Fr.refl (fun j => j = eb) W25).setCell (p := ⟨eb, 4, none⟩) (.inl rfl) _
 have FW26 : Fr (fun _ => False) W1 W26 := FW25.trans f2526 (fun k hk => .inr (by omega))
 have G26 : Fr (fun j => j = eb) W21 W26 := G25.trans f2526 (fun k hk => .inl hk)
 have V26 := Lib.hid (V25.out.fr f2526 (by omega))
 have H26 := Lib.hid (own_fr H25.out f2526 (fun k hk h => by have := (H25.out.lt k hk).1; omega))
 have O26 := Lib.hid (own_fr O25.out f2526 (fun k hk h => by have := (O25.out.lt k hk).1; omega))
 clear hW26 f2526 FW25 G25 V25 H25 O25 E25 y5 y4 z4 hmi
 have HC26 : Hid (∀ W, Fr (fun j => j = g8) W26 W → W.cell? ⟨vb, 11, none⟩ = some (.slice (some ⟨g8, 0, none⟩) a.en c8) ∧ W.cell? ⟨eb, 0, none⟩ = some (.int .u64 e.id) ∧ W.cell? ⟨eb, 1, none⟩ = some (.int .i64 e.tier) ∧ W.cell? ⟨eb, 2, none⟩ = some (.int .i64 e.shard) ∧ W.cell? ⟨eb, 3, none⟩ = some (.int .i64 e.place) ∧ W.cell? ⟨eb, 4, none⟩ = some (.int .i64 m) ∧ W.cell? ⟨eb, 5, none⟩ = some (.slice A4 m c4)) := fun W f => by
  have b := E26.out.fr f (by omega)
  exact ⟨(V26.out.fr f (by omega)).cell 11, b.cell 0, b.cell 1, b.cell 2, b.cell 3, b.cell 4, b.cell 5⟩
 have HT26 : ∀ j, j < 6 → (W26.cell? ⟨g8, i * 6 + j, none⟩).isSome = true ∧ W26.frozen? ⟨g8, i * 6 + j, none⟩ = false := fun j hj => by
  have hl : (encells c.es)[i * 6 + j]? = some _ := List.getElem?_eq_getElem (by rw [encells_len, Hle.out]; omega)
  exact ⟨by rw [own_cell1 H26.out (j := i * 6 + j) hl]; rfl, own_frozen H26.out (i * 6 + j)⟩
 have HT26 := Lib.hid HT26
 go_cut [11] (fun s11 wx => ∃ (W : World), W = wx ∧ s11 = .pointer (some ⟨vb, 0, none⟩) ∧ wx.ownsRow W22.heap.size 56 6 (.slice (some ⟨g8, 0, none⟩) a.en c8) a.en (encells (c.es.set i { e with of_ := (m : Int), ba := A4, bn := m, bc := c4, bl := e.bl ++ [b0] })) ∧ Fr (fun j => j = g8) W26 wx)
 case first =>
  refine wp_region_held_drew (S := fun W => Fr (fun j => j = g8) W26 W) (by kernel_rfl) ((Fr.refl _ W26).drew) (fun hHeld => ?_)
  refine tq 9 [0,1,2,3,4,5,6,7,8] ?_
  iterate 8 refine sf HC26.out ?_
  refine sf HC26.out ?_
  try simp only [Act.put, sA, sB, sC]
  refine sz ?_
  try simp only [Act.put, sA, sB, sC]
  refine rl 9 rfl (fun K hK => ?_)
  rw [if_pos (by rfl)]
  refine op_storeMid _ _ 56 rfl g8 _ #[.int .u64 e.id, .int .i64 e.tier, .int .i64 e.shard, .int .i64 e.place, .int .i64 m, .slice A4 m c4] rfl rfl (by intro j hj; simpa using HT26.out j hj) (by kernel_rfl) (by simp [Value.oneCell']) ?_
  refine hK.out _ _ (set6at hHeld (.inl rfl) _ _ _ _ _ _ _) (fun hHeld => ?_)
  clear hK K
  try simp only [Act.put, sA, sB, sC]
  refine wpAnyH_done (by kernel_rfl) ?_ _
  go_wp2_with fail
  try go_meet
  refine ⟨_, rfl, rfl, ?_, hHeld⟩
  have h1 := ent_put Hhe.out { e with of_ := (m : Int), ba := A4, bn := m, bc := c4, bl := e.bl ++ [b0] }
  rw [← h1]
  exact ((((((((own_fr0 H26.out ((Fr.refl (fun _ => False) W26).drew)).stored (i * 6) _).1.stored (i * 6 + 1) _).1.stored (i * 6 + 2) _).1.stored (i * 6 + 3) _).1.stored (i * 6 + 4) _).1.stored (i * 6 + 5) _).1)
 case rest =>
 obtain ⟨W28, rfl, rfl, hO, hF⟩ := hcut
 have FW28 : Fr (fun _ => False) W1 W28 := FW26.trans hF (fun k hk => .inr (by omega))
 have G28 : Fr (fun j => j = eb) W21 W28 := G26.trans hF (fun k hk => .inr (by omega))
 have V28 := Lib.hid (V26.out.fr hF (by omega))
 have R28 := Lib.hid hO
 have O28 := Lib.hid (own_fr O26.out hF (fun k hk h => by have := (O26.out.lt k hk).1; omega))
 have K28 : Fr (fun _ => False) W28 W28 := Fr.refl _ _
 clear hO hF HC26 HT26 V26 H26 O26 FW26 G26 E26
 have HVv : Hid (∀ W, Fr (fun _ => False) W28 W → Calls Tryz.prog 13 #[.agg #[.int .u64 c.gen, .int .u64 c.id, .int .i64 c.now, .string c.nm, .slice a.pA a.pn a.pc, .slice a.fA a.fn a.fc, .string c.nm2, .slice a.tA a.tn a.tc, .slice a.sA a.sn a.sc, .int .i64 c.bound, .int .i64 c.done, .slice (some ⟨g8, 0, none⟩) a.en c8]] W fun r w' => r = .returned (.bool false) ∧ Below W.heap.size W w') := fun W f => by
  have hq := HIn.out W (FW28.trans f (fun _ h => h.elim))
  have O := own_fr0 R28.out f
  have B := own_fr0 O28.out f
  have hk2 : in64 (m : Int) := by have := Hm.out; unfold in64; omega
  have hI : CatIn W { c with es := c.es.set i { e with of_ := (m : Int), ba := A4, bn := m, bc := c4, bl := e.bl ++ [b0] } } { a with eA := some ⟨g8, 0, none⟩, ec := c8 } := { hq with
   re := Rd.of_own O
   le := by show (c.es.set i _).length = a.en; rw [List.length_set]; exact Hle.out
   ce := own_caps O
   we := fun x hx => by
    rcases List.mem_or_eq_of_mem_set hx with hx | hx
    ·exact hq.we x hx
    ·rw [hx]
     exact { hq.we e hmem with
      of_ := hk2
      b := by have h1 := Rd.of_own B; show Rd W 1 A4 m (ints (e.bl ++ [b0])); unfold ints at h1 ⊢; rw [List.map_append]; exact h1
      blen := by show (e.bl ++ [b0]).length = m; rw [List.length_append, (hq.we e hmem).blen, Hm.out]; rfl
      ble := (own_caps B).1
      bmax := (own_caps B).2
      bwf := fun y hy => by
       have hy2 : y ∈ e.bl := by
        rcases List.mem_append.1 hy with hy | hy
        ·exact hy
        ·rw [List.mem_singleton] at hy
         rw [hy, Hbl.out]
         exact List.mem_cons_self
       exact (hq.we e hmem).bwf y hy2 } }
  have := cvalid_any hI
  rw [spoil_v (b := b0) (e := e) (by rw [Hle.out]; exact hi3) (by rw [Hbl.out]; exact List.mem_cons_self) rfl] at this
  exact this
 have HLv := Lib.hid (fun (W : World) (f : Fr (fun _ => False) W28 W) => (load_row (P := Tryz.prog) (V28.out.fr f (fun h => h)) 12 rfl Tryz.underlying29 cat_info).2.1)
 clear V28 R28 O28
 go_wp2_with fail
 refine (HAl.out _ FW28).mono ?_
 rintro r u5 ⟨rfl, bb⟩
 have FWu5 : Fr (fun _ => False) W1 u5 := FW28.trans (Fr.b0 bb) (fun _ h => h.elim)
 have Gu5 : Fr (fun j => j = eb) W21 u5 := G28.trans (Fr.b0 bb) (fun _ h => h.elim)
 have Ku5 : Fr (fun _ => False) W28 u5 := K28.trans (Fr.b0 bb) (fun _ h => h.elim)
 clear bb FW28 G28 K28
 go_wp2_with (first | (with_reducible refine wpList_loadRowG (by kernel_rfl) _ 29 rfl ub #[.int .u64 c.gen, .int .u64 c.id, .int .i64 c.now, .string c.nm, .slice a.pA a.pn a.pc, .slice a.fA a.fn a.fc, .string c.nm2, .slice a.tA a.tn a.tc, .slice a.sA a.sn a.sc, .int .i64 c.bound, .int .i64 c.done, .slice A7 (a.en + 1) c7] (by kernel_rfl) (HLu.out _ (by assumption)) ?_))
 refine (HVu.out _ Gu5).mono ?_
 rintro r u6 ⟨rfl, bb⟩
 have FWu6 : Fr (fun _ => False) W1 u6 := FWu5.trans (Fr.b0 bb) (fun _ h => h.elim)
 have Ku6 : Fr (fun _ => False) W28 u6 := Ku5.trans (Fr.b0 bb) (fun _ h => h.elim)
 clear bb FWu5 Gu5 Ku5
 go_wp2_with (first | (with_reducible refine wpList_loadRowG (by kernel_rfl) _ 29 rfl vb #[.int .u64 c.gen, .int .u64 c.id, .int .i64 c.now, .string c.nm, .slice a.pA a.pn a.pc, .slice a.fA a.fn a.fc, .string c.nm2, .slice a.tA a.tn a.tc, .slice a.sA a.sn a.sc, .int .i64 c.bound, .int .i64 c.done, .slice (some ⟨g8, 0, none⟩) a.en c8] (by kernel_rfl) (HLv.out _ (by assumption)) ?_))
 refine (HVv.out _ Ku6).mono ?_
 rintro r u7 ⟨rfl, bb⟩
 have FWu7 : Fr (fun _ => False) W1 u7 := FWu6.trans (Fr.b0 bb) (fun _ h => h.elim)
 clear bb FWu6 Ku6
 go_wp2_with (first | (with_reducible refine wpList_loadRowG (by kernel_rfl) _ 29 rfl w.heap.size #[.int .u64 c.gen, .int .u64 c.id, .int .i64 c.now, .string c.nm, .slice a.pA a.pn a.pc, .slice a.fA a.fn a.fc, .string c.nm2, .slice a.tA a.tn a.tc, .slice a.sA a.sn a.sc, .int .i64 c.bound, .int .i64 c.done, .slice a.eA a.en a.ec] (by kernel_rfl) (HLc.out _ (by assumption)) ?_))
 refine (HVa.out _ FWu7).mono ?_
 rintro r u8 ⟨rfl, bb⟩
 have FWu8 : Fr (fun _ => False) W1 u8 := FWu7.trans (Fr.b0 bb) (fun _ h => h.elim)
 clear bb FWu7
 go_wp2_with fail
 go_ret
 exact ⟨rfl, (F1.out.trans FWu8 (fun _ h => h.elim)).below (fun _ h => h.elim)⟩
end
end Go.Proofs.YteajonicnkpbbaaGreatDoor
