/- Walks of table's Shard and Clear. -/
import Derived.Test.YtkfdgodngbinlaaGreatDoorTabNeed
import Derived.Test.YtkfdgodngbinlaaGreatDoorShA
import Derived.Test.YtkfdgodngbinlaaGreatDoorPlanBuild
import Derived.Test.YtkfdgodngbinlaaGreatDoorTk
namespace Go.Proofs.YtkfdgodngbinlaaGreatDoor
set_option linter.all false
open Go.RowKit

def inS (k M : Int) (r : RecV) : Bool := decide (shardV r.name M = k)
def notS (k M : Int) (r : RecV) : Bool := !decide (shardV r.name M = k)
set_option maxRecDepth 100000 in
set_option maxHeartbeats 4000000 in
theorem shardso_any (r : RecV) (hn : r.name.size ≤ maxLen) (k M : Int) (p1 p2 : Nat) (W : World) (h1 : W.cell? ⟨p1, 0, none⟩ = some (.int .i64 M)) (h2 : W.cell? ⟨p2, 0, none⟩ = some (.int .i64 k)) :
  Calls Tryz.prog 147 #[r.val, .pointer (some ⟨p1, 0, none⟩), .pointer (some ⟨p2, 0, none⟩)] W fun r' w' => r' = .returned (.bool (notS k M r)) ∧ Below W.heap.size W w' := by
 obtain ⟨nm, st, ⟨c, h, lo, m, x⟩⟩ := r
 unfold RecV.val notS
 simp only at hn ⊢
 obtain ⟨W0, hW0⟩ : ∃ W0, W0 = W.alloc (.cells #[.string nm, .int .i64 st, .int .i64 c, .int .i64 h, .int .u64 lo, .int .i64 m, .int .i64 x] 115) := ⟨_, rfl⟩
 have HW0 := Lib.hid hW0
 have FB : Hid (Fr (fun _ => False) W W0) := by show Fr _ _ _; rw [hW0]; exact Fr.none_alloc _ _
 have B0 : Hid (Blk W0 W.heap.size 115 #[.string nm, .int .i64 st, .int .i64 c, .int .i64 h, .int .u64 lo, .int .i64 m, .int .i64 x]) := by show Blk _ _ _ _; rw [hW0]; exact Blk.new _ _ _
 have HC : Hid (∀ W1, Fr (fun _ => False) W0 W1 → W1.cell? ⟨W.heap.size, 0, none⟩ = some (.string nm) ∧ W1.cell? ⟨p1, 0, none⟩ = some (.int .i64 M) ∧ W1.cell? ⟨p2, 0, none⟩ = some (.int .i64 k)) := fun W1 f =>
  ⟨(B0.out.fr f (fun h => h)).cell 0, (FB.out.trans f (fun _ h => h.elim)).cell h1 (fun h => h), (FB.out.trans f (fun _ h => h.elim)).cell h2 (fun h => h)⟩
 have HSh : Hid (∀ W, Calls Tryz.prog 106 #[.string nm, .int .i64 M] W fun r w' => r = .returned (.int .i64 (shardV nm M)) ∧ W = w') := fun W => shard_any nm hn M W
 clear h1 h2 hW0
 obtain ⟨sv, hsv⟩ : ∃ v, shardV nm M = v := ⟨_, rfl⟩
 rw [hsv] at HSh ⊢
 clear hsv
 by_cases hk : sv = k
 ·subst hk
  have hd : (sv != sv) = false := by simp
  rw [decide_eq_true rfl]
  go_enter Tryz.func147, Tryz.ntmps147
  go_wp2_with fail
  rw [← HW0.out]
  refine wp_region_held_drew (S := fun W1 => Fr (fun _ => False) W0 W1) (by kernel_rfl) ((Fr.refl _ W0).drew) (fun hHeld => ?_)
  refine tq 4 [0,1,2,4] ?_
  iterate 3 refine sf HC.out ?_
  refine sf HC.out ?_
  try simp only [Act.put, sA, sB, sC]
  refine sz ?_
  try simp only [Act.put, sA, sB, sC]
  refine rl 3 rfl (fun K hK => ?_)
  go_simp
  go_wp2_with (first | (go_at_call 106; refine (HSh.out _).mono ?_; rintro r w2 ⟨rfl, rfl⟩))
  refine hK.out _ _ (hHeld) (fun hHeld => ?_)
  clear hK K
  refine tq 2 [5,6] ?_
  refine sf HC.out ?_
  refine sf HC.out ?_
  try simp only [Act.put, sA, sB, sC]
  refine sz ?_
  try simp only [Act.put, sA, sB, sC]
  refine wpAnyH_done (by kernel_rfl) ?_ _
  have Fl := Lib.hid hHeld
  clear hHeld
  go_wp2_with fail
  go_ret
  exact ⟨rfl, (FB.out.trans Fl.out (fun _ h => h.elim)).below (fun _ h => h.elim)⟩
 ·have hd : (sv != k) = true := by simpa using hk
  have hd2 : (sv == k) = false := by simpa using hk
  rw [decide_eq_false hk]
  go_enter Tryz.func147, Tryz.ntmps147
  go_wp2_with fail
  rw [← HW0.out]
  refine wp_region_held_drew (S := fun W1 => Fr (fun _ => False) W0 W1) (by kernel_rfl) ((Fr.refl _ W0).drew) (fun hHeld => ?_)
  refine tq 4 [0,1,2,4] ?_
  iterate 3 refine sf HC.out ?_
  refine sf HC.out ?_
  try simp only [Act.put, sA, sB, sC]
  refine sz ?_
  try simp only [Act.put, sA, sB, sC]
  refine rl 3 rfl (fun K hK => ?_)
  go_simp
  go_wp2_with (first | (go_at_call 106; refine (HSh.out _).mono ?_; rintro r w2 ⟨rfl, rfl⟩))
  refine hK.out _ _ (hHeld) (fun hHeld => ?_)
  clear hK K
  refine tq 2 [5,6] ?_
  refine sf HC.out ?_
  refine sf HC.out ?_
  try simp only [Act.put, sA, sB, sC]
  refine sz ?_
  try simp only [Act.put, sA, sB, sC]
  refine wpAnyH_done (by kernel_rfl) ?_ _
  have Fl := Lib.hid hHeld
  clear hHeld
  go_wp2_with fail
  go_ret
  exact ⟨rfl, (FB.out.trans Fl.out (fun _ h => h.elim)).below (fun _ h => h.elim)⟩
set_option maxRecDepth 100000 in
set_option maxHeartbeats 8000000 in
theorem tabshard_any (g : Nat) (every : Int) (b : Nat) (l : List RecV) (k M : Int) (w : World) (h : TabAt w g every b l) (hl : l.length ≤ 1000000000) (hwf : ∀ r ∈ l, r.wf) :
  Calls Tryz.prog 102 #[.pointer (some ⟨g, 0, none⟩), .int .i64 k, .int .i64 M] w fun r w' => (∃ A c, r = .returned (.slice A (keepT (notS k M) l).length c) ∧ w'.ownsRow w.heap.size 115 7 (.slice A (keepT (notS k M) l).length c) (keepT (notS k M) l).length (rcells (keepT (notS k M) l))) ∧ Below w.heap.size w w' := by
 obtain ⟨W1, hW1⟩ : ∃ W1, W1 = (w.alloc (.cells #[.int .i64 k] 3)).alloc (.cells #[.int .i64 M] 3) := ⟨_, rfl⟩
 have HW1 := Lib.hid hW1
 have T1 : TabAt W1 g every b l := by rw [hW1]; exact (h.fr0 (Fr.none_alloc _ _)).fr0 (Fr.none_alloc _ _)
 have B1 : Blk W1 w.heap.size 3 #[.int .i64 k] := by rw [hW1]; exact (Blk.new _ _ _).alloc _
 have B2 : Blk W1 (w.heap.size + 1) 3 #[.int .i64 M] := by rw [hW1]; exact Blk.new' (by simp) _ _
 have O1 : Hid (Own w W1 (fun _ => False)) := by show Own _ _ _; rw [hW1]; exact ((Own.start w).skip (Fr.none_alloc _ _)).skip (Fr.none_alloc _ _)
 have HA := Lib.hid (taball_any g every b l W1 T1 hl)
 have HB1 := Lib.hid B1
 have HB2 := Lib.hid B2
 clear h hW1 T1 B1 B2
 have eg : ∀ args w, (callFunc 147 args).run Tryz.prog w = .ok (.enter 147 args) w := enters_of Tryz.func147 (by kernel_rfl) rfl
 go_enter Tryz.func102, Tryz.ntmps102
 go_wp2_with fail
 rw [← HW1.out]
 refine HA.out.mono ?_
 rintro r w5 ⟨⟨A, c, rfl, ho5⟩, b5⟩
 have HB15 := HB1.out.below b5
 have HB25 := HB2.out.below b5
 have hge : ∀ j, rowF (.slice A l.length c) j → W1.heap.size ≤ j := fun j hj => (ho5.lt j hj).1
 have n1 : ¬ rowF (.slice A l.length c) w.heap.size := fun hj => by have := hge _ hj; have := HB1.out.lt; omega
 have n2 : ¬ rowF (.slice A l.length c) (w.heap.size + 1) := fun hj => by have := hge _ hj; have := HB2.out.lt; omega
 have HD := Lib.hid (deletefunc_any 147 #[.pointer (some ⟨w.heap.size + 1, 0, none⟩), .pointer (some ⟨w.heap.size, 0, none⟩)] (notS k M) l A l.length c W1.heap.size w5 ho5 hl eg (fun W hf x hx => shardso_any x (hwf x hx).2.2 k M _ _ W ((HB25.fr hf n2).cell 0) ((HB15.fr hf n1).cell 0)))
 have O5 := Lib.hid (O1.out.below b5)
 have Hge := Lib.hid hge
 have hs1 := O1.out.bel.size
 clear ho5 HB15 HB25 hge n1 n2 HB1 HB2 b5
 go_wp2_with fail
 refine HD.out.mono ?_
 rintro r w6 ⟨⟨rfl, ho6⟩, f6⟩
 have Ho6 := Lib.hid (own_le ho6 hs1)
 have O6 := Lib.hid ((O5.out.also (G := rowF (.slice A l.length c)) (fun j hj => by have := Hge.out j hj; omega)).fr f6)
 clear ho6 f6
 go_wp2_with fail
 go_ret
 exact ⟨⟨A, c, rfl, Ho6.out⟩, O6.out.bel⟩

set_option maxRecDepth 100000 in
set_option maxHeartbeats 4000000 in
theorem clearso_any (n : ByteArray) (hn : n.size ≤ maxLen) (s : Int) (k M : Int) (p1 p2 : Nat) (W : World) (h1 : W.cell? ⟨p1, 0, none⟩ = some (.int .i64 M)) (h2 : W.cell? ⟨p2, 0, none⟩ = some (.int .i64 k)) :
  Calls Tryz.prog 144 #[.agg #[.string n, .int .i64 s], .pointer (some ⟨p1, 0, none⟩), .pointer (some ⟨p2, 0, none⟩)] W fun r' w' => r' = .returned (.bool (decide (shardV n M = k))) ∧ Below W.heap.size W w' := by
 obtain ⟨W0, hW0⟩ : ∃ W0, W0 = W.alloc (.cells #[.string n, .int .i64 s] 192) := ⟨_, rfl⟩
 have HW0 := Lib.hid hW0
 have FB : Hid (Fr (fun _ => False) W W0) := by show Fr _ _ _; rw [hW0]; exact Fr.none_alloc _ _
 have B0 : Hid (Blk W0 W.heap.size 192 #[.string n, .int .i64 s]) := by show Blk _ _ _ _; rw [hW0]; exact Blk.new _ _ _
 have HC : Hid (∀ W1, Fr (fun _ => False) W0 W1 → W1.cell? ⟨W.heap.size, 0, none⟩ = some (.string n) ∧ W1.cell? ⟨p1, 0, none⟩ = some (.int .i64 M) ∧ W1.cell? ⟨p2, 0, none⟩ = some (.int .i64 k)) := fun W1 f =>
  ⟨(B0.out.fr f (fun h => h)).cell 0, (FB.out.trans f (fun _ h => h.elim)).cell h1 (fun h => h), (FB.out.trans f (fun _ h => h.elim)).cell h2 (fun h => h)⟩
 have HSh : Hid (∀ W, Calls Tryz.prog 106 #[.string n, .int .i64 M] W fun r w' => r = .returned (.int .i64 (shardV n M)) ∧ W = w') := fun W => shard_any n hn M W
 clear h1 h2 hW0
 obtain ⟨sv, hsv⟩ : ∃ v, shardV n M = v := ⟨_, rfl⟩
 rw [hsv] at HSh ⊢
 clear hsv
 by_cases hk : sv = k
 ·subst hk
  have hd : (sv == sv) = true := by simp
  rw [decide_eq_true rfl]
  go_enter Tryz.func144, Tryz.ntmps144
  go_wp2_with fail
  rw [← HW0.out]
  refine wp_region_held_drew (S := fun W1 => Fr (fun _ => False) W0 W1) (by kernel_rfl) ((Fr.refl _ W0).drew) (fun hHeld => ?_)
  refine tq 4 [0,1,2,4] ?_
  iterate 3 refine sf HC.out ?_
  refine sf HC.out ?_
  try simp only [Act.put, sA, sB, sC]
  refine sz ?_
  try simp only [Act.put, sA, sB, sC]
  refine rl 3 rfl (fun K hK => ?_)
  go_simp
  go_wp2_with (first | (go_at_call 106; refine (HSh.out _).mono ?_; rintro r w2 ⟨rfl, rfl⟩))
  refine hK.out _ _ (hHeld) (fun hHeld => ?_)
  clear hK K
  refine tq 2 [5,6] ?_
  refine sf HC.out ?_
  refine sf HC.out ?_
  try simp only [Act.put, sA, sB, sC]
  refine sz ?_
  try simp only [Act.put, sA, sB, sC]
  refine wpAnyH_done (by kernel_rfl) ?_ _
  have Fl := Lib.hid hHeld
  clear hHeld
  go_wp2_with fail
  go_ret
  exact ⟨rfl, (FB.out.trans Fl.out (fun _ h => h.elim)).below (fun _ h => h.elim)⟩
 ·have hd : (sv == k) = false := by simpa using hk
  have hd2 : (sv == k) = false := by simpa using hk
  rw [decide_eq_false hk]
  go_enter Tryz.func144, Tryz.ntmps144
  go_wp2_with fail
  rw [← HW0.out]
  refine wp_region_held_drew (S := fun W1 => Fr (fun _ => False) W0 W1) (by kernel_rfl) ((Fr.refl _ W0).drew) (fun hHeld => ?_)
  refine tq 4 [0,1,2,4] ?_
  iterate 3 refine sf HC.out ?_
  refine sf HC.out ?_
  try simp only [Act.put, sA, sB, sC]
  refine sz ?_
  try simp only [Act.put, sA, sB, sC]
  refine rl 3 rfl (fun K hK => ?_)
  go_simp
  go_wp2_with (first | (go_at_call 106; refine (HSh.out _).mono ?_; rintro r w2 ⟨rfl, rfl⟩))
  refine hK.out _ _ (hHeld) (fun hHeld => ?_)
  clear hK K
  refine tq 2 [5,6] ?_
  refine sf HC.out ?_
  refine sf HC.out ?_
  try simp only [Act.put, sA, sB, sC]
  refine sz ?_
  try simp only [Act.put, sA, sB, sC]
  refine wpAnyH_done (by kernel_rfl) ?_ _
  have Fl := Lib.hid hHeld
  clear hHeld
  go_wp2_with fail
  go_ret
  exact ⟨rfl, (FB.out.trans Fl.out (fun _ h => h.elim)).below (fun _ h => h.elim)⟩
set_option maxRecDepth 100000 in
theorem cleardel_any (n : ByteArray) (s : Int) (a : AggV) (k M : Int) (p q q2 : Nat) (W : World) (hp : W.cell? ⟨p, 0, none⟩ = some (.func (.func 144) #[] #[.pointer (some ⟨q, 0, none⟩), .pointer (some ⟨q2, 0, none⟩)])) (hn : n.size ≤ maxLen) (hc : W.cell? ⟨q, 0, none⟩ = some (.int .i64 M)) (hc2 : W.cell? ⟨q2, 0, none⟩ = some (.int .i64 k)) :
  Calls Tryz.prog 167 #[.agg #[.string n, .int .i64 s], .agg #[.int .i64 a.count, .int .i64 a.hi, .int .u64 a.lo, .int .i64 a.min, .int .i64 a.max], .pointer (some ⟨p, 0, none⟩)] W fun r w' => r = .returned (.bool (decide (shardV n M = k))) ∧ Below W.heap.size W w' := by
 have c1 := fun o1 o2 => (Fr.none_alloc (W.alloc o1) o2).cell ((Fr.none_alloc W o1).cell hp (fun h => h)) (fun h => h)
 have HD : Hid (∀ W', Fr (fun _ => False) W W' → Calls Tryz.prog 144 #[.agg #[.string n, .int .i64 s], .pointer (some ⟨q, 0, none⟩), .pointer (some ⟨q2, 0, none⟩)] W' fun r w'' => r = .returned (.bool (decide (shardV n M = k))) ∧ Below W'.heap.size W' w'') := fun W' f => clearso_any n hn s k M q q2 W' (f.cell hc (fun h => h)) (f.cell hc2 (fun h => h))
 have F2 : Hid (∀ o1 o2, Fr (fun _ => False) W ((W.alloc o1).alloc o2)) := fun o1 o2 => (Fr.none_alloc W o1).trans (Fr.none_alloc _ o2) (fun _ h => h.elim)
 clear hp hc hc2
 go_enter Tryz.func167, Tryz.ntmps167
 go_wp2_with fail
 refine (HD.out _ (F2.out _ _)).mono ?_
 rintro r w5 ⟨rfl, b5⟩
 have B5 := Lib.hid (((F2.out _ _).trans (Fr.b0 b5) (fun _ h => h.elim)).below (fun _ h => h.elim))
 clear b5
 go_wp2_with fail
 go_ret
 exact ⟨rfl, B5.out⟩

set_option maxRecDepth 100000 in
set_option maxHeartbeats 8000000 in
theorem tabclearso_any (g : Nat) (every : Int) (b : Nat) (l : List RecV) (k M : Int) (q q2 : Nat) (w : World) (h : TabAt w g every b l) (hq : w.cell? ⟨q, 0, none⟩ = some (.int .i64 M)) (hq2 : w.cell? ⟨q2, 0, none⟩ = some (.int .i64 k)) (hwf : ∀ r ∈ l, r.wf) (hl : l.length ≤ 1000000000) :
  Calls Tryz.prog 131 #[.pointer (some ⟨g, 0, none⟩), .func (.func 144) #[] #[.pointer (some ⟨q, 0, none⟩), .pointer (some ⟨q2, 0, none⟩)]] w fun r w' => r = .returned (.int .i64 ((l.length : Int) - ((keepT (inS k M) l).length : Nat))) ∧ TabAt w' g every b (keepT (inS k M) l) ∧ Fr (fun j => j = b) w w' := by
 obtain ⟨es, ck, hbm⟩ := h.own.isMap
 have hqb := cell_ne_map hq hbm
 have hqb2 := cell_ne_map hq2 hbm
 obtain ⟨W1, hW1⟩ : ∃ W1, W1 = w.alloc (.cells #[.func (.func 144) #[] #[.pointer (some ⟨q, 0, none⟩), .pointer (some ⟨q2, 0, none⟩)]] 193) := ⟨_, rfl⟩
 have HW1 := Lib.hid hW1
 have T1 : Hid (TabAt W1 g every b l) := by rw [hW1]; exact h.fr0 (Fr.none_alloc _ _)
 have P1 : Hid (W1.cell? ⟨w.heap.size, 0, none⟩ = some (.func (.func 144) #[] #[.pointer (some ⟨q, 0, none⟩), .pointer (some ⟨q2, 0, none⟩)])) := by show _ = _; rw [hW1]; exact (Blk.new _ _ _).cell 0
 have Q1 : Hid (W1.cell? ⟨q, 0, none⟩ = some (.int .i64 M)) := by show _ = _; rw [hW1]; exact (Fr.none_alloc w _).cell hq (fun h => h)
 have Q2 : Hid (W1.cell? ⟨q2, 0, none⟩ = some (.int .i64 k)) := by show _ = _; rw [hW1]; exact (Fr.none_alloc w _).cell hq2 (fun h => h)
 have F1 : Hid (Fr (fun j => j = b) w W1) := by show Fr _ _ _; rw [hW1]; exact (Fr.none_alloc w _).mono (fun _ h => h.elim)
 have hwb : w.heap.size ≠ b := fun e => by have := h.own.lt; omega
 have HN := Lib.hid (tabnone_any g every b W1 T1.out.blk)
 have hgb := h.ne
 have c1 := T1.out.blk.cell 1
 simp only [List.getElem?_toArray, List.getElem?_cons_succ, List.getElem?_cons_zero] at c1
 have hlen := T1.out.own.len
 have eg : ∀ args w, (callFunc 167 args).run Tryz.prog w = .ok (.enter 167 args) w := enters_of Tryz.func167 (by kernel_rfl) rfl
 have HD := Lib.hid (delfunc_any 167 #[.pointer (some ⟨w.heap.size, 0, none⟩)] (inS k M) (fun x y hk => by unfold inS; rw [hk.1]) b l W1 T1.out.own eg (fun W hf x hx => cleardel_any x.name x.start x.agg k M w.heap.size q q2 W (hf.cell P1.out hwb) hx.2.2 (hf.cell Q1.out hqb) (hf.cell Q2.out hqb2)))
 clear h hq hq2 hbm hW1
 go_enter Tryz.func131, Tryz.ntmps131
 go_wp2_with fail
 rw [← HW1.out]
 refine HN.out.mono ?_
 rintro r w' ⟨rfl, rfl⟩
 go_wp2_with fail
 refine HD.out.mono ?_
 rintro r w5 ⟨rfl, ho5, f5⟩
 have T5 := Lib.hid (TabAt.mk (T1.out.blk.fr f5 hgb) ho5)
 have F5 := Lib.hid (F1.out.trans f5 (fun i hi => .inl hi))
 have hle : (keepT (inS k M) l).length ≤ l.length := List.length_filter_le _ _
 obtain ⟨m, hm⟩ : ∃ m, (keepT (inS k M) l).length = m := ⟨_, rfl⟩
 have hlen5 := T5.out.own.len
 rw [hm] at hlen5 hle
 have hw : IntKind.i64.wrap ((l.length : Int) - (m : Int)) = (l.length : Int) - (m : Int) := by simp [IntKind.wrap, IntKind.signed, IntKind.bits]; omega
 have c5 := T5.out.blk.cell 1
 simp only [List.getElem?_toArray, List.getElem?_cons_succ, List.getElem?_cons_zero] at c5
 clear ho5 f5 c1 hlen
 go_wp2_with fail
 go_ret
 rw [hm]
 exact ⟨rfl, T5.out, F5.out⟩
set_option maxRecDepth 100000 in
set_option maxHeartbeats 8000000 in
theorem tabclear_any (g : Nat) (every : Int) (b : Nat) (l : List RecV) (k M : Int) (w : World) (h : TabAt w g every b l) (hwf : ∀ r ∈ l, r.wf) (hl : l.length ≤ 1000000000) :
  Calls Tryz.prog 100 #[.pointer (some ⟨g, 0, none⟩), .int .i64 k, .int .i64 M] w fun r w' => r = .returned (.int .i64 ((l.length : Int) - ((keepT (inS k M) l).length : Nat))) ∧ TabAt w' g every b (keepT (inS k M) l) ∧ Fr (fun j => j = b) w w' := by
 obtain ⟨W1, hW1⟩ : ∃ W1, W1 = (w.alloc (.cells #[.int .i64 k] 3)).alloc (.cells #[.int .i64 M] 3) := ⟨_, rfl⟩
 have HW1 := Lib.hid hW1
 have T1 : Hid (TabAt W1 g every b l) := by rw [hW1]; exact (h.fr0 (Fr.none_alloc _ _)).fr0 (Fr.none_alloc _ _)
 have Q1 : W1.cell? ⟨w.heap.size, 0, none⟩ = some (.int .i64 k) := by rw [hW1]; exact ((Blk.new _ _ _).alloc _).cell 0
 have Q2 : W1.cell? ⟨w.heap.size + 1, 0, none⟩ = some (.int .i64 M) := by rw [hW1]; exact (Blk.new' (by simp) _ _).cell 0
 have F1 : Hid (Fr (fun j => j = b) w W1) := by show Fr _ _ _; rw [hW1]; exact ((Fr.none_alloc w _).trans (Fr.none_alloc _ _) (fun _ h => h.elim)).mono (fun _ h => h.elim)
 have HD := Lib.hid (tabclearso_any g every b l k M (w.heap.size + 1) w.heap.size W1 T1.out Q2 Q1 hwf hl)
 clear h hW1 Q1 Q2
 go_enter Tryz.func100, Tryz.ntmps100
 go_wp2_with fail
 rw [← HW1.out]
 refine HD.out.mono ?_
 rintro r w5 ⟨rfl, t5, f5⟩
 have T5 := Lib.hid t5
 have F5 := Lib.hid (F1.out.trans f5 (fun i hi => .inl hi))
 clear t5 f5
 go_wp2_with fail
 go_ret
 exact ⟨rfl, T5.out, F5.out⟩
end Go.Proofs.YtkfdgodngbinlaaGreatDoor
namespace Go.Proofs.YtkfdgodngbinlaaGreatDoor
set_option linter.all false
open Go.RowKit

set_option maxRecDepth 100000 in
set_option maxHeartbeats 8000000 in
theorem snext_any (t base : Nat) (X : ShX) (q : (Int × Int × Int) × Bool) (w : World) (h : ShAt w t base X) (hdone : i64 X.done) (hs8 : ∀ t ∈ X.tiers, t.shards ≤ 8) (hn9 : X.tiers.length ≤ 1000) (hq : atV X.tiers X.done = q) :
  Calls Tryz.prog 99 #[.pointer (some ⟨t, 0, none⟩)] w fun r w' => r = .returned (.tuple #[stepVal q.1, .bool q.2]) ∧ Below w.heap.size w w' := by
 obtain ⟨A, c, B, d, T, ct, tb, hi⟩ := h
 obtain ⟨n, hn0⟩ : ∃ n, X.tiers.length = n := ⟨_, rfl⟩
 obtain ⟨m, hm0⟩ : ∃ m, X.srcs.length = m := ⟨_, rfl⟩
 obtain ⟨⟨k1, k2, k3⟩, kb⟩ := q
 have HAt : Hid (∀ W, Fr (fun _ => False) w W → Calls Tryz.prog 143 #[.agg #[.string X.name, .slice A n c, .slice B m d], .int .i64 X.done] W fun r w' => r = .returned (.tuple #[.agg #[.int .i64 k1, .int .i64 k2, .int .i64 k3], .bool kb]) ∧ Below W.heap.size W w') := fun W f => by
  have h1 := (own_any (hi.fr0 f).tiers).2.2.1
  have := at_any X.name X.tiers A X.tiers.length c B X.srcs.length d X.done hdone W h1 (by omega) hs8
  rw [hq, hn0, hm0] at this
  exact this
 have F1 : Hid (Fr (fun _ => False) w (w.alloc (.cells #[.int .i64 0, .int .i64 0, .int .i64 0] 54))) := Fr.none_alloc _ _
 obtain ⟨W1, hW1⟩ : ∃ W1, W1 = w.alloc (.cells #[.int .i64 0, .int .i64 0, .int .i64 0] 54) := ⟨_, rfl⟩
 have HW1 := Lib.hid hW1
 rw [← hW1] at F1
 have B1 : Hid (Blk W1 w.heap.size 54 #[.int .i64 0, .int .i64 0, .int .i64 0]) := by show Blk _ _ _ _; rw [hW1]; exact Blk.new _ _ _
 have htw := hi.blk.lt
 have HC : Hid (∀ W, Fr (fun j => j = w.heap.size) W1 W → W.cell? ⟨t, 0, none⟩ = some (.string X.name) ∧ W.cell? ⟨t, 1, none⟩ = some (.slice A n c) ∧ W.cell? ⟨t, 2, none⟩ = some (.slice B m d) ∧ W.cell? ⟨t, 4, none⟩ = some (.int .i64 X.done)) := fun W f => by
  obtain ⟨c0, c1, c2, c3, c4, c5⟩ := hi.cells (F1.out.trans f (fun i hi => .inr (Nat.le_of_eq hi.symm))) (fun h => h)
  rw [hn0] at c1
  rw [hm0] at c2
  exact ⟨c0, c1, c2, c4⟩
 clear hi hW1 hq
 go_enter Tryz.func99, Tryz.ntmps99
 go_wp2_with fail
 rw [← HW1.out]
 refine wp_region_held_drew (S := fun W => Fr (fun j => j = w.heap.size) W1 W) (by kernel_rfl) ((Fr.refl _ W1).drew) (fun hHeld => ?_)
 refine tq 8 [0,1,2,3,4,5,6,7] ?_
 iterate 7 refine sf HC.out ?_
 refine sf HC.out ?_
 try simp only [Act.put, sA, sB, sC]
 refine sz ?_
 try simp only [Act.put, sA, sB, sC]
 refine rl 8 rfl (fun K hK => ?_)
 go_simp
 go_wp2_with (first | (go_at_call 143; refine (HAt.out _ (F1.out.trans hHeld (fun i hi => .inr (Nat.le_of_eq hi.symm)))).mono ?_; rintro r wa ⟨rfl, ba⟩))
 have Bq := Lib.hid (B1.out.drew.below ba)
 have z0 := Bq.out.frozen 0
 have z1 := Bq.out.frozen 1
 have z2 := Bq.out.frozen 2
 have v0 := Bq.out.cell 0
 have v1 := Bq.out.cell 1
 have v2 := Bq.out.cell 2
 simp only [List.getElem?_toArray, List.getElem?_cons_succ, List.getElem?_cons_zero] at v0 v1 v2
 refine hK.out _ _ (hHeld.trans (Fr.b0 ba) (fun _ h => h.elim)) (fun hHeld => ?_)
 clear hK K
 refine tq 2 [9,10] ?_
 refine sf HC.out ?_
 refine sf HC.out ?_
 try simp only [Act.put, sA, sB, sC]
 refine sz ?_
 try simp only [Act.put, sA, sB, sC]
 refine rl 11 rfl (fun K hK => ?_)
 go_simp
 refine hK.out _ _ (hHeld.set3 (.inl rfl) _ _ _) (fun hHeld => ?_)
 clear hK K
 refine tl 12 ?v11 rfl ?q11 ?r11
 case q11 => intro W hSw; (try obtain ⟨q0, q1, q2, q3⟩ := HC.out W hSw); go_simp; try rfl
 try simp only [Act.put, sA, sB, sC]
 refine wpAnyH_done (by kernel_rfl) ?_ _
 have Fl := Lib.hid ((F1.out.trans hHeld (fun i hi => .inr (Nat.le_of_eq hi.symm))).below (fun _ h => h.elim))
 have Be := Lib.hid (Bq.out.set3 (a := .int .i64 k1) (b := .int .i64 k2) (c := .int .i64 k3))
 have y0 := Be.out.cell 0
 have y1 := Be.out.cell 1
 have y2 := Be.out.cell 2
 simp only [List.getElem?_toArray, List.getElem?_cons_succ, List.getElem?_cons_zero] at y0 y1 y2
 clear hHeld v0 v1 v2 z0 z1 z2 Bq ba
 go_wp2_with fail
 refine bodyPost_ret (v := .tuple #[stepVal (k1, k2, k3), .bool kb]) ?_ rfl ⟨rfl, Fl.out⟩
 simp [results, Tryz.results99, go_sem, stepVal, y0, y1, y2]

theorem fromso_any (r : RecV) (fr : Int) (p : Nat) (W : World) (h1 : W.cell? ⟨p, 0, none⟩ = some (.int .i64 fr)) :
  Calls Tryz.prog 174 #[r.val, .pointer (some ⟨p, 0, none⟩)] W fun r' w' => r' = .returned (.bool (startBelow fr r)) ∧ Below W.heap.size W w' := by
 obtain ⟨nm, st, ⟨c, h, lo, m, x⟩⟩ := r
 unfold RecV.val startBelow
 simp only
 have c1 := fun o => (Fr.none_alloc W o).cell h1 (fun h => h)
 clear h1
 go_enter Tryz.func174, Tryz.ntmps174
 go_wp2_with fail
 go_ret
 exact ⟨rfl, (Fr.none_alloc _ _).below (fun _ h => h.elim)⟩
set_option maxRecDepth 100000 in
set_option maxHeartbeats 8000000 in
theorem sfrom_any (t base : Nat) (X : ShX) (k : Nat) (fr : Int) (w : World) (h : ShAt w t base X) (hk : k < X.tiers.length) (hl : ∀ m ∈ X.tabs, m.length ≤ 1000000000) :
  Calls Tryz.prog 148 #[.pointer (some ⟨t, 0, none⟩), .int .i64 k, .int .i64 fr] w fun r w' => (∃ A c, r = .returned (.slice A (keepT (startBelow fr) (X.tabs.getD k [])).length c) ∧ w'.ownsRow w.heap.size 115 7 (.slice A (keepT (startBelow fr) (X.tabs.getD k [])).length c) (keepT (startBelow fr) (X.tabs.getD k [])).length (rcells (keepT (startBelow fr) (X.tabs.getD k [])))) ∧ Below w.heap.size w w' := by
 obtain ⟨A0, c0, B0, d0, T, ct, tb, hi⟩ := h
 obtain ⟨g, b, x, l, h1, h2, h3, hT⟩ := hi.tabAt hk
 have e : X.tabs.getD k [] = l := by rw [List.getD_eq_getElem?_getD, h3]; rfl
 have hll := hl l (mem_of_get h3)
 rw [e]
 obtain ⟨ad, rfl, hc⟩ := (own_any hi.row).2.2.1.2 (show 0 < X.tiers.length by omega)
 have p0 := hc k _ (ptrs_get h1)
 obtain ⟨n, hn⟩ : ∃ n, X.tiers.length = n := ⟨_, rfl⟩
 have kn : 0 ≤ (k : Int) ∧ (k : Int) < (n : Int) := by omega
 obtain ⟨_, _, _, _, _, c5⟩ := hi.cells (Fr.refl (fun _ => False) w) (fun h => h)
 rw [hn] at c5
 obtain ⟨W1, hW1⟩ : ∃ W1, W1 = w.alloc (.cells #[.int .i64 fr] 3) := ⟨_, rfl⟩
 have HW1 := Lib.hid hW1
 have T1 : TabAt W1 g x.every b l := by rw [hW1]; exact hT.fr0 (Fr.none_alloc _ _)
 have B1 : Blk W1 w.heap.size 3 #[.int .i64 fr] := by rw [hW1]; exact Blk.new _ _ _
 have O1 : Hid (Own w W1 (fun _ => False)) := by show Own _ _ _; rw [hW1]; exact (Own.start w).skip (Fr.none_alloc _ _)
 simp only at p0
 have q5 := fun o => (Fr.none_alloc w o).cell c5 (fun h => h)
 have qp := fun o => (Fr.none_alloc w o).cell p0 (fun h => h)
 have HA := Lib.hid (taball_any g x.every b l W1 T1 hll)
 have HB1 := Lib.hid B1
 clear hi hT h1 h2 h3 e hl hc p0 c5 hW1 T1 B1
 have eg : ∀ args w, (callFunc 174 args).run Tryz.prog w = .ok (.enter 174 args) w := enters_of Tryz.func174 (by kernel_rfl) rfl
 go_enter Tryz.func148, Tryz.ntmps148
 go_wp2_with fail
 rw [← HW1.out]
 refine HA.out.mono ?_
 rintro r w5 ⟨⟨A, c, rfl, ho5⟩, b5⟩
 have HB15 := HB1.out.below b5
 have hge : ∀ j, rowF (.slice A l.length c) j → W1.heap.size ≤ j := fun j hj => (ho5.lt j hj).1
 have n1 : ¬ rowF (.slice A l.length c) w.heap.size := fun hj => by have := hge _ hj; have := HB1.out.lt; omega
 have HD := Lib.hid (deletefunc_any 174 #[.pointer (some ⟨w.heap.size, 0, none⟩)] (startBelow fr) l A l.length c W1.heap.size w5 ho5 hll eg (fun W hf x _ => fromso_any x fr _ W ((HB15.fr hf n1).cell 0)))
 have O5 := Lib.hid (O1.out.below b5)
 have Hge := Lib.hid hge
 have hs1 := O1.out.bel.size
 clear ho5 HB15 hge n1 HB1 b5
 go_wp2_with fail
 refine HD.out.mono ?_
 rintro r w6 ⟨⟨rfl, ho6⟩, f6⟩
 have Ho6 := Lib.hid (own_le ho6 hs1)
 have O6 := Lib.hid ((O5.out.also (G := rowF (.slice A l.length c)) (fun j hj => by have := Hge.out j hj; omega)).fr f6)
 clear ho6 f6
 go_wp2_with fail
 go_ret
 exact ⟨⟨A, c, rfl, Ho6.out⟩, O6.out.bel⟩
def agOne (X : ShX) (Y : TiersX) (i : Nat) : Bool := decide (keepT (startBelow (fromV Y.now Y.tiers Y.floors i)) (X.tabs.getD i []) = Y.tabs.getD i [])
def agreesB (X : ShX) (Y : TiersX) : Bool := (List.range X.tiers.length).all (agOne X Y)
set_option maxRecDepth 100000 in
set_option maxHeartbeats 8000000 in
theorem sagrees_any {nm2 : ByteArray} {lt : List TierV} {bs : List Int} (p2 : PolOk nm2 lt) (t base : Nat) (X : ShX) (u lo : Nat) (Y : TiersX) (F : Nat → Prop) (cc : Nat) (w : World) (h : ShAt w t base X) (hX : X.tiers = lt) (hl : ∀ m ∈ X.tabs, m.length ≤ 1000000) (hY : Tio nm2 lt bs lo w u Y F cc) (hc : cc ≤ 1000000) :
  Calls Tryz.prog 103 #[.pointer (some ⟨t, 0, none⟩), .pointer (some ⟨u, 0, none⟩)] w fun r w' => r = .returned (.bool (agreesB X Y)) ∧ Below w.heap.size w w' := by
 have hnow := hY.good.now
 obtain ⟨tA, tc, tB, td, hR⟩ := hY.reach
 obtain ⟨n, hn⟩ : ∃ n, lt.length = n := ⟨_, rfl⟩
 obtain ⟨mf, hmf⟩ : ∃ n, bs.length = n := ⟨_, rfl⟩
 have hXn : X.tiers.length = n := by rw [hX, hn]
 have h5 := p2.five
 have HFr : Hid (∀ W k, Fr (fun _ => False) w W → k < n → Calls Tryz.prog 54 #[.agg #[.int .i64 Y.now, .string nm2, .slice tA n tc, .slice tB mf td], .int .i64 (k : Nat)] W fun r w' => r = .returned (.int .i64 (fromV Y.now lt bs k)) ∧ Below W.heap.size W w') := fun W k f hk => by
  have := reach_from p2 (hR.fr0 f) hnow k (by omega)
  rw [hn, hmf] at this
  exact this
 have HSf : Hid (∀ W k fr, Fr (fun _ => False) w W → k < n → Calls Tryz.prog 148 #[.pointer (some ⟨t, 0, none⟩), .int .i64 (k : Nat), .int .i64 fr] W fun r w' => (∃ A c, r = .returned (.slice A (keepT (startBelow fr) (X.tabs.getD k [])).length c) ∧ w'.ownsRow W.heap.size 115 7 (.slice A (keepT (startBelow fr) (X.tabs.getD k [])).length c) (keepT (startBelow fr) (X.tabs.getD k [])).length (rcells (keepT (startBelow fr) (X.tabs.getD k [])))) ∧ Below W.heap.size W w') := fun W k fr f hk => sfrom_any t base X k fr W (h.fr0 f) (by omega) (fun m hm => by have := hl m hm; omega)
 have HRc : Hid (∀ W k, Fr (fun _ => False) w W → k < n → Calls Tryz.prog 67 #[.pointer (some ⟨u, 0, none⟩), .int .i64 (k : Nat)] W fun r w' => (∃ A c, r = .returned (.slice A (Y.tabs.getD k []).length c) ∧ w'.ownsRow W.heap.size 115 7 (.slice A (Y.tabs.getD k []).length c) (Y.tabs.getD k []).length (rcells (Y.tabs.getD k []))) ∧ Below W.heap.size W w') := fun W k f hk => tio_records (hY.fr0 f) hc k (by omega)
 have HC : Hid (∀ W, Fr (fun _ => False) w W → W.cell? ⟨u, 0, none⟩ = some (.int .i64 Y.now) ∧ W.cell? ⟨u, 1, none⟩ = some (.string nm2) ∧ W.cell? ⟨u, 2, none⟩ = some (.slice tA n tc) ∧ W.cell? ⟨u, 3, none⟩ = some (.slice tB mf td)) := fun W f => by
  have h := hR.fr0 f
  have h2 := h.c2
  have h3 := h.c3
  rw [hn] at h2
  rw [hmf] at h3
  exact ⟨h.c0, h.c1, h2, h3⟩
 have HXl : Hid (∀ k fr, (keepT (startBelow fr) (X.tabs.getD k [])).length ≤ 1000000) := fun k fr => by
  refine Nat.le_trans (List.length_filter_le _ _) ?_
  rcases getD_mem_or (L := X.tabs) k with h3 | h3
  ·exact hl _ h3
  ·rw [h3]; exact Nat.zero_le _
 have HYl : Hid (∀ k, (Y.tabs.getD k []).length ≤ 1000000) := fun k => by
  rcases getD_mem_or (L := Y.tabs) k with h3 | h3
  ·have := hY.good.len _ h3; omega
  ·rw [h3]; exact Nat.zero_le _
 have HA1 : Hid (∀ k, agOne X Y k = decide (keepT (startBelow (fromV Y.now lt bs k)) (X.tabs.getD k []) = Y.tabs.getD k [])) := fun k => by unfold agOne; rw [hY.good.tiers, hY.good.floors]
 obtain ⟨c5a, c5b, hT5⟩ : ∃ (T : Option Addr) (ct : Nat), ∀ W, Fr (fun _ => False) w W → W.cell? ⟨t, 5, none⟩ = some (.slice T n ct) := by
  obtain ⟨A0, c0, B0, d0, T, ct, tb, hi⟩ := h
  refine ⟨T, ct, fun W f => ?_⟩
  obtain ⟨_, _, _, _, _, c5⟩ := hi.cells f (fun h => h)
  rw [hXn] at c5
  exact c5
 have HT5 := Lib.hid hT5
 have t5 := hT5 w (Fr.refl _ w)
 unfold agreesB
 rw [hXn]
 obtain ⟨nw, hnw⟩ : ∃ v, Y.now = v := ⟨_, rfl⟩
 rw [hnw] at HFr HC HA1
 clear h hR hY hl hX hnow hnw hT5
 go_enter Tryz.func103, Tryz.ntmps103
 go_wp2_with fail
 go_loopw [11] (fun i wr => ∃ k : Nat, k ≤ n ∧ i = .int .i64 k ∧ (∀ j, j < k → agOne X Y j = true) ∧ Fr (fun _ => False) w wr) (fun i _ => n - (intOf i).toNat)
 case atStart => exact ⟨0, Nat.zero_le _, rfl, fun j hj => absurd hj (Nat.not_lt_zero _), Fr.refl _ _⟩
 case round =>
  obtain ⟨k, hk, rfl, hall, hf⟩ := hrel
  have Hall := Lib.hid hall
  have HF := Lib.hid hf
  clear hall hf
  by_cases hlt : k < n
  ·have g0 : decide ((k : Int) < (n : Int)) = true := decide_eq_true (by omega)
   have kn : 0 ≤ (k : Int) ∧ (k : Int) < (n : Int) := by omega
   have hqw : IntKind.i64.wrap ((k : Int) + 1) = (k : Int) + 1 := by simp [IntKind.wrap, IntKind.signed, IntKind.bits]; omega
   obtain ⟨u0, u1, u2, u3⟩ := HC.out wr HF.out
   have hA1 := HA1.out k
   obtain ⟨fv, hfv⟩ : ∃ v, fromV nw lt bs k = v := ⟨_, rfl⟩
   have HF1 := Lib.hid (HFr.out wr k HF.out hlt)
   rw [hfv] at HF1 hA1
   have HXk := HXl.out k fv
   have HYk := HYl.out k
   obtain ⟨LX, hLX⟩ : ∃ v, keepT (startBelow fv) (X.tabs.getD k []) = v := ⟨_, rfl⟩
   obtain ⟨LY, hLY⟩ : ∃ v, Y.tabs.getD k [] = v := ⟨_, rfl⟩
   have HS1 : Hid (∀ W, Fr (fun _ => False) w W → Calls Tryz.prog 148 #[.pointer (some ⟨t, 0, none⟩), .int .i64 (k : Nat), .int .i64 fv] W fun r w' => (∃ A c, r = .returned (.slice A LX.length c) ∧ w'.ownsRow W.heap.size 115 7 (.slice A LX.length c) LX.length (rcells LX)) ∧ Below W.heap.size W w') := fun W f => by have := HSf.out W k fv f hlt; rw [hLX] at this; exact this
   have HR1 : Hid (∀ W, Fr (fun _ => False) w W → Calls Tryz.prog 67 #[.pointer (some ⟨u, 0, none⟩), .int .i64 (k : Nat)] W fun r w' => (∃ A c, r = .returned (.slice A LY.length c) ∧ w'.ownsRow W.heap.size 115 7 (.slice A LY.length c) LY.length (rcells LY)) ∧ Below W.heap.size W w') := fun W f => by have := HRc.out W k f hlt; rw [hLY] at this; exact this
   rw [hLX, hLY] at hA1
   rw [hLX] at HXk
   rw [hLY] at HYk
   have HEq : Hid (∀ A n1 c B n2 d W, Rd W 7 A n1 (rcells LX) → Rd W 7 B n2 (rcells LY) → n1 = LX.length → n2 = LY.length → Calls Tryz.prog 66 #[.slice A n1 c, .slice B n2 d] W fun r w' => r = .returned (.bool (agOne X Y k)) ∧ Below W.heap.size W w') := fun A n1 c B n2 d W ha hb h1 h2 => by
    rw [hA1]
    exact eqrecs_any LX LY A n1 c B n2 d W ha hb (by omega) (by omega)
   obtain ⟨ab, hab⟩ : ∃ b, agOne X Y k = b := ⟨_, rfl⟩
   have Hab := Lib.hid hab
   rw [hab] at HEq
   obtain ⟨nX, hnX⟩ : ∃ v, LX.length = v := ⟨_, rfl⟩
   obtain ⟨nY, hnY⟩ : ∃ v, LY.length = v := ⟨_, rfl⟩
   rw [hnX] at HS1 HEq
   rw [hnY] at HR1 HEq
   clear hfv hA1 hLX hLY hab HXk HYk hnX hnY
   go_wp2_with fail
   refine HF1.out.mono ?_
   rintro r w1 ⟨rfl, b1⟩
   have G1 := Lib.hid (HF.out.trans (Fr.b0 b1) (fun _ h => h.elim))
   have HS2 := Lib.hid (HS1.out w1 G1.out)
   clear b1 u0 u1 u2 u3
   go_wp2_with fail
   refine HS2.out.mono ?_
   rintro r w2 ⟨⟨Aa, ca, rfl, oa⟩, b2⟩
   have G2 := Lib.hid (G1.out.trans (Fr.b0 b2) (fun _ h => h.elim))
   have Oa := Lib.hid oa
   have HR2 := Lib.hid (HR1.out w2 G2.out)
   clear b2 oa
   go_wp2_with fail
   refine HR2.out.mono ?_
   rintro r w3 ⟨⟨Ab, cb, rfl, ob⟩, b3⟩
   have G3 := Lib.hid (G2.out.trans (Fr.b0 b3) (fun _ h => h.elim))
   have HE2 := Lib.hid (HEq.out Aa nX ca Ab nY cb w3 (((own_any Oa.out).2.2.1).below b3) (own_any ob).2.2.1 rfl rfl)
   clear b3 ob
   go_wp2_with fail
   refine HE2.out.mono ?_
   rintro r w4 ⟨rfl, b4⟩
   have G4 := Lib.hid (G3.out.trans (Fr.b0 b4) (fun _ h => h.elim))
   have t5 := HT5.out w4 G4.out
   clear b4
   cases ab with
   | false =>
    go_wp2_with fail
    go_ret
    refine ⟨?_, G4.out.below (fun _ h => h.elim)⟩
    have : (List.range n).all (agOne X Y) = false := by
     rw [List.all_eq_false]
     exact ⟨k, List.mem_range.2 hlt, by rw [Hab.out]; simp⟩
    rw [this]
    rfl
   | true =>
    go_wp2_with fail
    go_roundw
    case rel =>
     refine ⟨k + 1, by omega, by go_num, fun j hj => ?_, G4.out⟩
     by_cases e : j = k
     ·subst e; exact Hab.out
     ·exact Hall.out j (by omega)
    case measure => simp [intOf]; omega
  ·obtain rfl : k = n := by omega
   have g0 : decide ((k : Int) < (k : Int)) = false := decide_eq_false (by omega)
   have ht : (List.range k).all (agOne X Y) = true := List.all_eq_true.2 fun j hj => Hall.out j (List.mem_range.1 hj)
   have Ht := Lib.hid ht
   clear ht
   go_wp2_with fail
   go_ret
   rw [Ht.out]
   exact ⟨rfl, HF.out.below (fun _ h => h.elim)⟩
end Go.Proofs.YtkfdgodngbinlaaGreatDoor
namespace Go.Proofs.YtkfdgodngbinlaaGreatDoor
set_option linter.all false
open Go.RowKit

theorem cell_ne_map' {w : World} {a : Addr} {b : Nat} {v : Value} {es : Array MapEntry} {ck : Nat} (hc : w.cell? a = some v) (hb : w.heap[b]? = some (.map es ck)) : a.block ≠ b := by
 rintro rfl
 unfold World.cell? at hc
 rw [hb] at hc
 cases hc
theorem ShIn.setDone {w : World} {t base : Nat} {X : ShX} {A B T : Option Addr} {c d ct : Nat} {tb : List (Nat × Nat)} (h : ShIn w t base X A c B d T ct tb) (v : Int) : ShIn (w.setCell ⟨t, 4, none⟩ (.int .i64 v)) t base { X with done := v } A c B d T ct tb := by
 have f : Fr (fun j => j = t) w (w.setCell ⟨t, 4, none⟩ (.int .i64 v)) := (Fr.refl (fun j => j = t) w).setCell (p := ⟨t, 4, none⟩) (.inl rfl) _
 have hoff : ∀ {e : TypeId} {size n base' : Nat} {v : Value} {xs : List Value}, w.ownsRow base' e size v n xs → e ≠ 63 → ∀ j, rowF v j → ¬ j = t := fun ho hne j hj e => own_blk_ne ho h.blk hne (by rw [← e]; exact hj)
 refine ⟨by simpa using h.blk.set_ 4 (.int .i64 v), own_fr h.tiers f (hoff h.tiers (by decide)), own_fr h.srcs f (hoff h.srcs (by decide)), own_fr h.row f (hoff h.row (by decide)), h.tlen, fun i p x l h1 h2 h3 => ?_, h.nodup, h.ge, h.tge⟩
 have hT := h.tab i p x l h1 h2 h3
 refine hT.fr f (blk_ne_ty hT.blk h.blk (by decide)) (fun e => ?_)
 obtain ⟨es, ck, hbm⟩ := hT.own.isMap
 have hb0 : w.heap[t]? = some (Obj.cells _ _ (0, 0)) := h.blk
 rw [← e, hbm] at hb0
 cases hb0
set_option maxRecDepth 100000 in
set_option maxHeartbeats 8000000 in
theorem sstep_fill {nm nm2 : ByteArray} {l lt : List TierV} {fl : List Int} {o : Int} {lo : Nat} {W : World} {t s base : Nat} {X : TiersX} {S : ShX} {Ft F : Nat → Prop} {cc : Nat} (p : PolOk nm l) (p2 : PolOk nm2 lt) (hnm2 : nm2.size ≤ maxLen) (h : Tio nm l fl lo W t X Ft cc) (hc : cc ≤ 1000000) (hfl : ∀ f ∈ fl, 0 ≤ f ∧ f ≤ 2199023255552) (hs : ShOn W s base S F) (h1 : S.name = nm2) (h2 : S.tiers = lt) (h3 : S.srcs = srcs o l fl lt) (hd : i64 S.done) (hl : ∀ m ∈ S.tabs, m.length ≤ 1000000) {j : Nat} {y : TierV} {k : Int} (hy : lt[j]? = some y) (hat : atV lt S.done = ((1, (j : Int), k), true)) :
  Calls Tryz.prog 57 #[.pointer (some ⟨s, 0, none⟩), .pointer (some ⟨t, 0, none⟩)] W fun r w' => r = .returned (.tuple #[stepVal (1, (j : Int), k), .pointer none, .int .i64 0]) ∧ ShOn w' s base { S with done := S.done + 1, tabs := S.tabs.set j (addsV y.every (keepT (inS k y.shards) (S.tabs.getD j [])) (keepT (notS k y.shards) ((buildX X nm2 lt (srcs o l fl lt)).tabs.getD j []))) } F ∧ Fr F W w' := by
 obtain ⟨A, c, B, d, T, ct, tb, hi, rfl⟩ := hs
 obtain ⟨n, hn0⟩ : ∃ n, lt.length = n := ⟨_, rfl⟩
 have hSn : S.tiers.length = n := by rw [h2, hn0]
 have hSm : S.srcs.length = n := by rw [h3]; unfold srcs; rw [List.length_map, hn0]
 have hfive := p2.five
 have HI := Lib.hid hi
 have htc : n ≤ c := by have := (own_any hi.tiers).1; omega
 have HBu : Hid (∀ W', Fr (fun _ => False) W W' → Calls Tryz.prog 86 #[.agg #[.string nm2, .slice A n c, .slice B n d], .pointer (some ⟨t, 0, none⟩)] W' fun r w' => (∃ t' F', r = .returned (.tuple #[.pointer (some ⟨t', 0, none⟩), .int .i64 0]) ∧ Tio nm2 lt (basesV X.now l fl (srcs o l fl lt) lt) W.heap.size w' t' (buildX X nm2 lt (srcs o l fl lt)) F' cc ∧ ∀ j, F' j → W'.heap.size ≤ j) ∧ Below W'.heap.size W' w') := fun W' f => by
  have q1 := (own_any (HI.out.fr0 f).tiers).2.2.1
  have q2 := (own_any (HI.out.fr0 f).srcs).2.2.1
  rw [hSn, h2] at q1
  rw [hSm, h3] at q2
  exact tio_build p p2 hnm2 (h.fr0 f) hc hfl A n c B d q1 htc q2 W.heap.size f.size
 have HNx : Hid (∀ W', Fr (fun _ => False) W W' → Calls Tryz.prog 99 #[.pointer (some ⟨s, 0, none⟩)] W' fun r w' => r = .returned (.tuple #[.agg #[.int .i64 1, .int .i64 (j : Nat), .int .i64 k], .bool true]) ∧ Below W'.heap.size W' w') := fun W' f =>
  snext_any s base S ((1, (j : Nat), k), true) W' ⟨A, c, B, d, T, ct, tb, HI.out.fr0 f⟩ hd (by rw [h2]; exact fun x hx => (check_mem p2.ck hx).2.2.2.2.2) (by omega) (by rw [h2]; exact hat)
 have HCs : Hid (∀ {W' : World} {G : Nat → Prop}, Fr G W W' → ¬ G s → W'.cell? ⟨s, 0, none⟩ = some (.string nm2) ∧ W'.cell? ⟨s, 1, none⟩ = some (.slice A n c) ∧ W'.cell? ⟨s, 2, none⟩ = some (.slice B n d) ∧ W'.cell? ⟨s, 4, none⟩ = some (.int .i64 S.done) ∧ W'.cell? ⟨s, 5, none⟩ = some (.slice T n ct)) := fun f hg => by
  obtain ⟨c0, c1, c2, _, c4, c5⟩ := HI.out.cells f hg
  rw [h1] at c0
  rw [hSn] at c1 c5
  rw [hSm] at c2
  exact ⟨c0, c1, c2, c4, c5⟩
 obtain ⟨rb, hrb⟩ : ∃ v, W.heap.size = v := ⟨_, rfl⟩
 obtain ⟨W0, hW0⟩ : ∃ W0, W0 = W.alloc (.cells #[.int .i64 0, .int .i64 0, .int .i64 0] 54) := ⟨_, rfl⟩
 have HW0 := Lib.hid hW0
 have F0 : Hid (Fr (fun _ => False) W W0) := by show Fr _ _ _; rw [hW0]; exact Fr.none_alloc _ _
 have B0 : Hid (Blk W0 rb 54 #[.int .i64 0, .int .i64 0, .int .i64 0]) := by show Blk _ _ _ _; rw [hW0, ← hrb]; exact Blk.new _ _ _
 obtain ⟨bs, hbs⟩ : ∃ v, basesV X.now l fl (srcs o l fl lt) lt = v := ⟨_, rfl⟩
 obtain ⟨Y, hY⟩ : ∃ v, buildX X nm2 lt (srcs o l fl lt) = v := ⟨_, rfl⟩
 have HYt : Hid (Y.tiers = lt) := by show _ = _; rw [← hY]; rfl
 rw [hbs, hY] at HBu
 rw [hY]
 have Hrb := Lib.hid hrb
 have Hn0 := Lib.hid hn0
 have HSn := Lib.hid hSn
 have Ht := Lib.hid h2
 have Hl := Lib.hid hl
 have hsW : s < W.heap.size := hi.blk.lt
 rw [hrb] at hsW HBu
 have c0 := fun o => (HCs.out (Fr.none_alloc W o) (fun h => h)).1
 have c1 := fun o => (HCs.out (Fr.none_alloc W o) (fun h => h)).2.1
 have c2 := fun o => (HCs.out (Fr.none_alloc W o) (fun h => h)).2.2.1
 have HBb : Hid (buildX X nm2 lt (srcs o l fl lt) = Y) := hY
 clear hi hn0 hSm hW0 hbs hY hrb h1 h2 h3 h hl hSn
 go_enter Tryz.func57, Tryz.ntmps57
 go_wp2_with fail
 rw [← HW0.out]
 try rw [Hrb.out]
 refine (HBu.out _ F0.out).mono ?_
 rintro r w1 ⟨⟨u, Fu, rfl, T1, _⟩, b1⟩
 have F1 := Lib.hid (F0.out.trans (Fr.b0 b1) (fun _ h => h.elim))
 have B1 := Lib.hid (B0.out.below b1)
 have HT1 := Lib.hid T1
 clear T1 b1 HBu c0 c1 c2
 go_wp2_with fail
 refine (HNx.out _ F1.out).mono ?_
 rintro r w2 ⟨rfl, b2⟩
 have F2 := Lib.hid (F1.out.trans (Fr.b0 b2) (fun _ h => h.elim))
 have B2 := Lib.hid (B1.out.below b2)
 have HT2 := Lib.hid (HT1.out.fr0 (Fr.b0 b2))
 clear b2 HNx
 obtain ⟨vb, hvb⟩ : ∃ v, w2.heap.size = v := ⟨_, rfl⟩
 obtain ⟨w8, hw8⟩ : ∃ v, v = w2.alloc (.cells #[.int .i64 1, .int .i64 (j : Nat), .int .i64 k] 54) := ⟨_, rfl⟩
 have B8 : Hid (Blk w8 rb 54 #[.int .i64 0, .int .i64 0, .int .i64 0]) := by show Blk _ _ _ _; rw [hw8]; exact B2.out.alloc _
 have V8 : Hid (Blk w8 vb 54 #[.int .i64 1, .int .i64 (j : Nat), .int .i64 k]) := by show Blk _ _ _ _; rw [hw8, ← hvb]; exact Blk.new _ _ _
 have F8 : Hid (Fr (fun _ => False) W w8) := by show Fr _ _ _; rw [hw8]; exact F2.out.trans (Fr.none_alloc _ _) (fun _ h => h.elim)
 have HT8 : Hid (Tio nm2 lt bs rb w8 u Y Fu cc) := by show Tio _ _ _ _ _ _ _ _ _; rw [hw8]; exact HT2.out.fr0 (Fr.none_alloc _ _)
 have hrv : rb < vb := by rw [← hvb]; exact B2.out.lt
 have HW8 := Lib.hid hw8
 clear hw8 HT1 HT2 B1 B2 B0
 go_wp2_with fail
 rw [← HW8.out]
 try rw [hvb]
 have v0 := V8.out.cell 0
 simp only [List.getElem?_toArray, List.getElem?_cons_succ, List.getElem?_cons_zero] at v0
 obtain ⟨g, b, x, Lj, t1, t2, t3, hTj⟩ := HI.out.tabAt (k := j) (by rw [HSn.out, ← Hn0.out]; exact (List.getElem?_eq_some_iff.1 hy).1)
 rw [Ht.out, hy] at t2
 obtain rfl : y = x := Option.some.inj t2
 have hjn : j < n := by rw [← Hn0.out]; exact (List.getElem?_eq_some_iff.1 hy).1
 have hLj : S.tabs.getD j [] = Lj := by rw [List.getD_eq_getElem?_getD, t3]; rfl
 have HTj := Lib.hid hTj
 have hLl := Hl.out Lj (mem_of_get t3)
 obtain ⟨es, ck, hbm⟩ := hTj.own.isMap
 have hbm0 := hbm
 try simp only at hbm
 obtain ⟨ad, rfl, hcr⟩ := (own_any HI.out.row).2.2.1.2 (show 0 < S.tiers.length by rw [HSn.out]; omega)
 have p0 := hcr j _ (ptrs_get t1)
 try simp only at p0
 have hTr := (own_any HI.out.tiers).2.2.1
 rw [HSn.out] at hTr
 have hTr2 : Rd W 4 A n (tcells lt) := by have := hTr; rw [Ht.out] at this; exact this
 obtain ⟨aA, y', rfl, hy', _, _, _, e3⟩ := hTr2.tier hjn
 obtain rfl : y = y' := by rw [hy] at hy'; exact Option.some.inj hy'
 have T1 := Lib.hid t1
 have hj0 : 0 ≤ (j : Int) ∧ (j : Int) < (n : Int) := by omega
 have hbs : b ≠ s := fun e => by have hB0 : W.heap[s]? = some (Obj.cells _ _ (0, 0)) := HI.out.blk; rw [← e, hbm] at hB0; cases hB0
 have hbr : b ≠ rb := fun e => by have := hTj.own.lt; rw [Hrb.out] at this; (try simp only at this); omega
 have hbv : b ≠ vb := fun e => by have := hTj.own.lt; rw [Hrb.out] at this; (try simp only at this); omega
 have hpb : (ad.add j).block ≠ b := cell_ne_map' p0 hbm
 have heb := cell_ne_map' e3 hbm
 have HFb : Hid (∀ W', Fr (fun i => i = b) w8 W' → Fr (fun i => i = b) W W') := fun W' f => (F8.out.mono (G := fun i => i = b) (fun _ h => h.elim)).trans f (fun _ h => .inl h)
 have HC : Hid (∀ W', Fr (fun i => i = b) w8 W' → W'.cell? ⟨s, 1, none⟩ = some (.slice (some aA) n c) ∧ W'.cell? ⟨s, 5, none⟩ = some (.slice (some ad) n ct) ∧ W'.cell? ⟨vb, 1, none⟩ = some (.int .i64 (j : Nat)) ∧ W'.cell? ⟨vb, 2, none⟩ = some (.int .i64 k) ∧ W'.cell? (ad.add j) = some (.pointer (some ⟨g, 0, none⟩)) ∧ W'.cell? ⟨(aA.add (j * 4)).block, (aA.add (j * 4)).off + 3, none⟩ = some (.int .i64 y.shards)) := fun W' f => by
  have q := HCs.out (HFb.out W' f) (fun e => hbs e.symm)
  have bv := V8.out.fr f (fun e => hbv e.symm)
  exact ⟨q.2.1, q.2.2.2.2, bv.cell 1, bv.cell 2, f.cell (F8.out.cell p0 (fun h => h)) hpb, f.cell (F8.out.cell e3 (fun h => h)) heb⟩
 have HM8 : Hid (∃ es ck, w8.heap[b]? = some (.map es ck)) := ⟨es, ck, by have hblt := hTj.own.lt; (try simp only at hblt); rw [F8.out.block b hblt (fun h => h)]; exact hbm⟩
 have HTj8 : Hid (∀ W', Fr (fun _ => False) w8 W' → TabAt W' g y.every b Lj) := fun W' f => (HTj.out.fr0 F8.out).fr0 f
 have HCl : Hid (∀ W', Fr (fun _ => False) w8 W' → Calls Tryz.prog 100 #[.pointer (some ⟨g, 0, none⟩), .int .i64 k, .int .i64 y.shards] W' fun r w' => (∃ v, r = .returned (.int .i64 v)) ∧ TabAt w' g y.every b (keepT (inS k y.shards) Lj) ∧ Fr (fun i => i = b) W' w') := fun W' f => by
  refine (tabclear_any g y.every b Lj k y.shards W' (HTj8.out W' f) (fun r hr => (HTj8.out W' f).own.wf r hr) (by omega)).mono ?_
  rintro r w' ⟨rfl, h1, h2⟩
  exact ⟨⟨_, rfl⟩, h1, h2⟩
 have HYj : Hid ((Y.tabs.getD j []).length ≤ 1000000 ∧ ∃ Yl, Y.tabs[j]? = some Yl ∧ Y.tabs.getD j [] = Yl) := by
  have hlen := HT8.out.good.tlen
  have hjl : j < Y.tabs.length := by rw [hlen, Hn0.out]; exact hjn
  have e : Y.tabs.getD j [] = Y.tabs[j] := by rw [List.getD_eq_getElem?_getD, List.getElem?_eq_getElem hjl]; rfl
  refine ⟨?_, Y.tabs[j], List.getElem?_eq_getElem hjl, e⟩
  rw [e]
  have := HT8.out.good.len _ (List.getElem_mem hjl)
  omega
 obtain ⟨hYl, Yl, hYl1, hYl2⟩ := HYj.out
 have HYl1 := Lib.hid hYl1
 have HBt : Hid (∀ W', Fr (fun i => i = b) w8 W' → TiersAt W' u rb Y) := fun W' f => by
  obtain ⟨base2, hb2, ho⟩ := HT8.out.on
  have := ho.frSh f (fun i hi => .inl (by obtain ⟨es, ck, hm⟩ := HM8.out; exact ⟨es, ck, by rw [hi]; exact hm⟩)) (fun i hi e => by
   have h1 := (ho.ge i hi).1
   have h2 := HTj.out.own.lt
   rw [Hrb.out] at h2
   try simp only at h2
   omega)
  exact (this.down hb2).at_
 have HTa : Hid (∀ W', Fr (fun i => i = b) w8 W' → Calls Tryz.prog 101 #[.pointer (some ⟨u, 0, none⟩), .int .i64 (j : Nat)] W' fun r w' => (∃ g' b', r = .returned (.pointer (some ⟨g', 0, none⟩)) ∧ TabAt w' g' y.every b' Yl) ∧ Below W'.heap.size W' w') := fun W' f => by
  refine (ttable_in u rb Y j y Yl W' (HBt.out W' f) (by rw [HYt.out]; exact hy) HYl1.out).mono ?_
  rintro r w' ⟨⟨g', b', h1, h2, _⟩, h3⟩
  exact ⟨⟨g', b', h1, h2⟩, h3⟩
 rw [hYl2] at hYl
 have hYll : Yl.length ≤ 1000000 := hYl
 obtain ⟨L1, hL1⟩ : ∃ v, keepT (inS k y.shards) Lj = v := ⟨_, rfl⟩
 obtain ⟨L2, hL2⟩ : ∃ v, keepT (notS k y.shards) Yl = v := ⟨_, rfl⟩
 have hL1l : L1.length ≤ 1000000 := by rw [← hL1]; exact Nat.le_trans (List.length_filter_le _ _) hLl
 have hL2l : L2.length ≤ 1000000 := by rw [← hL2]; exact Nat.le_trans (List.length_filter_le _ _) hYll
 rw [hL1] at HCl
 have HSh : Hid (∀ W' (g' b' : Nat), TabAt W' g' y.every b' Yl → Calls Tryz.prog 102 #[.pointer (some ⟨g', 0, none⟩), .int .i64 k, .int .i64 y.shards] W' fun r w' => (∃ A c, r = .returned (.slice A L2.length c) ∧ Rd w' 7 A L2.length (rcells L2) ∧ ∀ r ∈ L2, r.wf) ∧ Below W'.heap.size W' w') := fun W' g' b' hT => by
  have h := tabshard_any g' y.every b' Yl k y.shards W' hT (by omega) (fun r hr => hT.own.wf r hr)
  rw [hL2] at h
  refine h.mono ?_
  rintro r w' ⟨⟨A, c, h1, h2⟩, h3⟩
  exact ⟨⟨A, c, h1, (own_any h2).2.2.1, fun r hr => by rw [← hL2] at hr; exact hT.own.wf r (List.mem_filter.1 hr).1⟩, h3⟩
 have HAd : Hid (∀ W' A c, TabAt W' g y.every b L1 → Rd W' 7 A L2.length (rcells L2) → (∀ r ∈ L2, r.wf) → Calls Tryz.prog 89 #[.pointer (some ⟨g, 0, none⟩), .slice A L2.length c] W' fun r w' => (∃ v, r = .returned (.int .i64 v)) ∧ TabAt w' g y.every b (addsV y.every L1 L2) ∧ Fr (fun i => i = b) W' w') := fun W' A c hT hr hw => by
  refine (add_any g y.every b L1 L2 A L2.length c W' hT hr hw (by omega)).mono ?_
  rintro r w' ⟨rfl, h1, h2⟩
  exact ⟨⟨_, rfl⟩, h1, h2⟩
 obtain ⟨n2, hn2⟩ : ∃ v, L2.length = v := ⟨_, rfl⟩
 rw [hn2] at HSh HAd
 have hdn : 0 ≤ S.done ∧ S.done < 100 := by
  have h8 : ∀ t ∈ lt, t.shards ≤ 8 := fun x hx => (check_mem p2.ck hx).2.2.2.2.2
  have hf := fillsV_in h8
  have hst : stepsV lt ≤ fillsV lt + 2 := by unfold stepsV; split <;> omega
  unfold atV at hat
  split at hat
  ·simp at hat
  ·omega
 have hdw : IntKind.i64.wrap (S.done + 1) = S.done + 1 := by simp [IntKind.wrap, IntKind.signed, IntKind.bits]; omega
 have HEnd : Hid (∀ W', Fr (fun i => i = b) w8 W' → TabAt W' g y.every b (addsV y.every L1 L2) → ShIn W' s base { S with tabs := S.tabs.set j (addsV y.every (keepT (inS k y.shards) (S.tabs.getD j [])) (keepT (notS k y.shards) (Y.tabs.getD j []))) } (some aA) c B d (some ad) ct tb) := fun W' f hT => by
  rw [hLj, hYl2, hL1, hL2]
  exact (HI.out.fr0 F8.out).set T1.out (by rw [Ht.out]; exact hy) hT f
 clear hL1 hL2 hn2 hTj hbm0 hbm hcr hTr hTr2 hy' e3 p0 t1 t3 hYl hYl1 hYl2 hYll hLj HYj hpb heb hat
 go_wp2_with fail
 refine wp_region_held_drew (S := fun W_ => Fr (fun i => i = b) w8 W_) (by kernel_rfl) ((Fr.refl _ w8).drew) (fun hHeld => ?_)
 refine tq 12 [0,1,2,3,4,5,6,7,8,9,10,11] ?_
 iterate 11 refine sf HC.out ?_
 refine sf HC.out ?_
 try simp only [Act.put, sA, sB, sC]
 refine sz ?_
 try simp only [Act.put, sA, sB, sC]
 refine wpAnyH_done (by kernel_rfl) ?_ _
 have G12 := Lib.hid hHeld
 clear hHeld
 go_wp2_with fail
 refine wp_region_held_drew (S := fun W_ => Fr (fun i => i = b) w8 W_) (by kernel_rfl) (G12.out.drew) (fun hHeld => ?_)
 refine tq 11 [0,1,2,3,4,5,6,7,8,9,10] ?_
 iterate 10 refine sf HC.out ?_
 refine sk ?_
 try simp only [Act.put, sA, sB, sC]
 refine sz ?_
 try simp only [Act.put, sA, sB, sC]
 refine rl 11 rfl (fun K hK => ?_)
 go_simp
 go_wp2_with (first | (go_at_call 100; refine (HCl.out _ (by first | exact (Fr.refl _ w8).drew.drew | exact (Fr.refl _ w8).drew)).mono ?_; rintro r w13 ⟨⟨v13, rfl⟩, tc, fc⟩))
 have tc := Lib.hid tc
 refine hK.out _ _ (hHeld.trans fc (fun _ h => .inl h)) (fun hHeld => ?_)
 clear hK K
 try simp only [Act.put, sA, sB, sC]
 refine wpAnyH_done (by kernel_rfl) ?_ _
 have G13 := Lib.hid hHeld
 clear hHeld fc
 go_wp2_with fail
 refine wp_region_held_drew (S := fun W_ => Fr (fun i => i = b) w8 W_) (by kernel_rfl) (G13.out.drew) (fun hHeld => ?_)
 refine tq 14 [0,1,2,3,4,5,6,7,8,9,10,12,13,14] ?_
 iterate 13 refine sf HC.out ?_
 refine sk ?_
 try simp only [Act.put, sA, sB, sC]
 refine sz ?_
 try simp only [Act.put, sA, sB, sC]
 refine rl 11 rfl (fun K hK => ?_)
 go_simp
 go_wp2_with (first | (go_at_call 101; refine (HTa.out _ hHeld).mono ?_; rintro r wa ⟨⟨ga, ba, rfl, ta⟩, bb1⟩))
 have ta := Lib.hid ta
 have tc := Lib.hid ((tc.out.fr0 ((Fr.refl _ w13).drew)).fr0 (Fr.b0 bb1))
 refine hK.out _ _ (hHeld.trans (Fr.b0 bb1) (fun _ h => h.elim)) (fun hHeld => ?_)
 clear hK K
 try simp only [Act.put, sA, sB, sC]
 refine rl 15 rfl (fun K hK => ?_)
 go_simp
 go_wp2_with (first | (go_at_call 102; refine (HSh.out _ _ _ ta.out).mono ?_; rintro r wb ⟨⟨Ab, cb, rfl, rb2, rw2⟩, bb2⟩))
 have rb2 := Lib.hid rb2
 have rw2 := Lib.hid rw2
 have tc := Lib.hid (tc.out.fr0 (Fr.b0 bb2))
 refine hK.out _ _ (hHeld.trans (Fr.b0 bb2) (fun _ h => h.elim)) (fun hHeld => ?_)
 clear hK K
 try simp only [Act.put, sA, sB, sC]
 refine rl 16 rfl (fun K hK => ?_)
 go_simp
 go_wp2_with (first | (go_at_call 89; refine (HAd.out _ _ _ tc.out rb2.out rw2.out).mono ?_; rintro r w14 ⟨⟨v14, rfl⟩, te, fe⟩))
 have te := Lib.hid te
 refine hK.out _ _ (hHeld.trans fe (fun _ h => .inl h)) (fun hHeld => ?_)
 clear hK K
 try simp only [Act.put, sA, sB, sC]
 refine wpAnyH_done (by kernel_rfl) ?_ _
 have G14 := Lib.hid hHeld
 have I14 := Lib.hid (HEnd.out _ G14.out te.out)
 clear hHeld fe
 have B14 := Lib.hid (B8.out.fr G14.out (fun e => hbr e.symm))
 have V14 := Lib.hid (V8.out.fr G14.out (fun e => hbv e.symm))
 obtain ⟨_, _, _, _, z4, _⟩ := I14.out.cells (Fr.refl (fun _ => False) w14) (fun h => h)
 have zf := I14.out.blk.frozen 4
 have fD : Fr (fun i => i = s) w14 (w14.setCell ⟨s, 4, none⟩ (.int .i64 (S.done + 1))) := (Fr.refl (fun i => i = s) w14).setCell (p := ⟨s, 4, none⟩) (.inl rfl) _
 have ID : Hid (ShIn (w14.setCell ⟨s, 4, none⟩ (.int .i64 (S.done + 1))) s base { S with done := S.done + 1, tabs := S.tabs.set j (addsV y.every (keepT (inS k y.shards) (S.tabs.getD j [])) (keepT (notS k y.shards) (Y.tabs.getD j []))) } (some aA) c B d (some ad) ct tb) := I14.out.setDone (S.done + 1)
 have BD := B14.out.fr fD (by omega)
 have VD := V14.out.fr fD (by omega)
 have BE := Lib.hid (BD.set3 (a := .int .i64 1) (b := .int .i64 (j : Nat)) (c := .int .i64 k))
 have FE : Hid (Fr (fun i => i = rb) (w14.setCell ⟨s, 4, none⟩ (.int .i64 (S.done + 1))) (((((w14.setCell ⟨s, 4, none⟩ (.int .i64 (S.done + 1)))).setCell ⟨rb, 0, none⟩ (.int .i64 1)).setCell ⟨rb, 1, none⟩ (.int .i64 (j : Nat))).setCell ⟨rb, 2, none⟩ (.int .i64 k))) := (Fr.refl (fun i => i = rb) (w14.setCell ⟨s, 4, none⟩ (.int .i64 (S.done + 1)))).set3 (.inl rfl) _ _ _
 have IE : Hid (ShOn (((((w14.setCell ⟨s, 4, none⟩ (.int .i64 (S.done + 1)))).setCell ⟨rb, 0, none⟩ (.int .i64 1)).setCell ⟨rb, 1, none⟩ (.int .i64 (j : Nat))).setCell ⟨rb, 2, none⟩ (.int .i64 k)) s base { S with done := S.done + 1, tabs := S.tabs.set j (addsV y.every (keepT (inS k y.shards) (S.tabs.getD j [])) (keepT (notS k y.shards) (Y.tabs.getD j []))) } (tF s tb)) :=
  ShOn.fr ⟨_, _, _, _, _, _, _, ID.out, rfl⟩ FE.out (fun i hi => by subst hi; exact .inr ⟨_, (0, 0), 54, BD, by decide, by decide, by decide, by decide⟩) (fun i hi e => by
   have hK := ShOn.ge (F := tF s tb) (w := W) ⟨_, _, _, _, _, _, _, HI.out, rfl⟩ i hi
   rw [Hrb.out] at hK
   omega)
 have FALL : Hid (Fr (tF s tb) W (((((w14.setCell ⟨s, 4, none⟩ (.int .i64 (S.done + 1)))).setCell ⟨rb, 0, none⟩ (.int .i64 1)).setCell ⟨rb, 1, none⟩ (.int .i64 (j : Nat))).setCell ⟨rb, 2, none⟩ (.int .i64 k))) :=
  (((F8.out.mono (fun _ h => h.elim)).trans G14.out (fun i hi => .inl (.inr ⟨_, List.mem_of_getElem? T1.out, hi⟩))).trans fD (fun i hi => .inl (.inl hi))).trans FE.out (fun i hi => .inr (by rw [hi, Hrb.out]; exact Nat.le_refl _))
 have x0 := VD.cell 0
 have x1 := VD.cell 1
 have x2 := VD.cell 2
 have y0 := BD.cell 0
 have y1 := BD.cell 1
 have y2 := BD.cell 2
 have z0 := BD.frozen 0
 have z1 := BD.frozen 1
 have z2 := BD.frozen 2
 simp only [List.getElem?_toArray, List.getElem?_cons_succ, List.getElem?_cons_zero] at x0 x1 x2 y0 y1 y2
 have e0 := BE.out.cell 0
 have e1 := BE.out.cell 1
 have e2 := BE.out.cell 2
 simp only [List.getElem?_toArray, List.getElem?_cons_succ, List.getElem?_cons_zero] at e0 e1 e2
 clear I14 B14 V14 fD BD VD
 go_wp2_with fail
 refine bodyPost_ret (v := .tuple #[stepVal (1, (j : Nat), k), .pointer none, .int .i64 0]) ?_ rfl ⟨rfl, IE.out, FALL.out⟩
 simp [results, Tryz.results57, go_sem, stepVal, e0, e1, e2]
end Go.Proofs.YtkfdgodngbinlaaGreatDoor
