/- Walks of table's Shard and Clear. -/
import Derived.Test.YtfhhepfkjndkgaaGreatTabNeed
import Derived.Test.YtfhhepfkjndkgaaGreatTk
namespace Go.Proofs.YtfhhepfkjndkgaaGreat
set_option linter.all false
open Go.RowKit

/-- Is a record of a shard? -/
def inS (k M : Int) (r : RecV) : Bool := decide (shardV r.name M = k)
def notS (k M : Int) (r : RecV) : Bool := !decide (shardV r.name M = k)
set_option maxRecDepth 100000 in
set_option maxHeartbeats 4000000 in
theorem shardso_any (r : RecV) (hn : r.name.size ≤ maxLen) (k M : Int) (p1 p2 : Nat) (W : World) (h1 : W.cell? ⟨p1, 0, none⟩ = some (.int .i64 M)) (h2 : W.cell? ⟨p2, 0, none⟩ = some (.int .i64 k)) :
    Calls Tryz.prog 163 #[r.val, .pointer (some ⟨p1, 0, none⟩), .pointer (some ⟨p2, 0, none⟩)] W fun r' w' => r' = .returned (.bool (notS k M r)) ∧ Below W.heap.size W w' := by
  obtain ⟨nm, st, ⟨c, h, lo, m, x⟩⟩ := r
  unfold RecV.val notS
  simp only at hn ⊢
  obtain ⟨W0, hW0⟩ : ∃ W0, W0 = W.alloc (.cells #[.string nm, .int .i64 st, .int .i64 c, .int .i64 h, .int .u64 lo, .int .i64 m, .int .i64 x] 30) := ⟨_, rfl⟩
  have HW0 := Lib.hid hW0
  have FB : Hid (Fr (fun _ => False) W W0) := by show Fr _ _ _; rw [hW0]; exact Fr.none_alloc _ _
  have B0 : Hid (Blk W0 W.heap.size 30 #[.string nm, .int .i64 st, .int .i64 c, .int .i64 h, .int .u64 lo, .int .i64 m, .int .i64 x]) := by show Blk _ _ _ _; rw [hW0]; exact Blk.new _ _ _
  have HC : Hid (∀ W1, Fr (fun _ => False) W0 W1 → W1.cell? ⟨W.heap.size, 0, none⟩ = some (.string nm) ∧ W1.cell? ⟨p1, 0, none⟩ = some (.int .i64 M) ∧ W1.cell? ⟨p2, 0, none⟩ = some (.int .i64 k)) := fun W1 f =>
    ⟨(B0.out.fr f (fun h => h)).cell 0, (FB.out.trans f (fun _ h => h.elim)).cell h1 (fun h => h), (FB.out.trans f (fun _ h => h.elim)).cell h2 (fun h => h)⟩
  have HSh : Hid (∀ W, Calls Tryz.prog 158 #[.string nm, .int .i64 M] W fun r w' => r = .returned (.int .i64 (shardV nm M)) ∧ W = w') := fun W => shard_any nm hn M W
  clear h1 h2 hW0
  obtain ⟨sv, hsv⟩ : ∃ v, shardV nm M = v := ⟨_, rfl⟩
  rw [hsv] at HSh ⊢
  clear hsv
  by_cases hk : sv = k
  · subst hk
    have hd : (sv != sv) = false := by simp
    rw [decide_eq_true rfl]
    go_enter Tryz.func163, Tryz.ntmps163
    go_wp2_with fail
    rw [← HW0.out]
    refine wp_region_held_drew (S := fun W1 => Fr (fun _ => False) W0 W1) (by kernel_rfl) ((Fr.refl _ W0).drew) (fun hHeld => ?_)
    refine tk 0 ⟨some 5, .fieldAddr 30 (.tmp 3) 0, 0, _, _, none⟩ ?vq1 rfl (by kernel_rfl) (.inl ⟨by rfl, ?hq1⟩) ?rq1
    case hq1 => intro W hSw; go_simp; (try with_reducible rfl)
    try simp only [Act.put, List.setIfInBounds_toArray, List.set_cons_zero, List.set_cons_succ]
    refine tk 1 ⟨some 6, .load 9 (.tmp 5), 9, _, _, none⟩ ?vq2 rfl (by kernel_rfl) (.inl ⟨by rfl, ?hq2⟩) ?rq2
    case hq2 => intro W hSw; (try obtain ⟨q0, q1, q2⟩ := HC.out W hSw); go_simp; (try with_reducible rfl)
    try simp only [Act.put, List.setIfInBounds_toArray, List.set_cons_zero, List.set_cons_succ]
    refine tk 2 ⟨some 7, .load 3 (.tmp 1), 3, _, _, none⟩ ?vq3 rfl (by kernel_rfl) (.inl ⟨by rfl, ?hq3⟩) ?rq3
    case hq3 => intro W hSw; (try obtain ⟨q0, q1, q2⟩ := HC.out W hSw); go_simp; (try with_reducible rfl)
    try simp only [Act.put, List.setIfInBounds_toArray, List.set_cons_zero, List.set_cons_succ]
    refine tk 4 ⟨some 9, .load 3 (.tmp 2), 3, _, _, none⟩ ?vq4 rfl (by kernel_rfl) (.inl ⟨by rfl, ?hq4⟩) ?rq4
    case hq4 => intro W hSw; (try obtain ⟨q0, q1, q2⟩ := HC.out W hSw); go_simp; (try with_reducible rfl)
    try simp only [Act.put, List.setIfInBounds_toArray, List.set_cons_zero, List.set_cons_succ]
    refine wpAnyH_ready (rs := [3]) (by kernel_rfl) (by simp) ?_
    refine AllReadyH.cons (o := ⟨some 8, .call ⟨.value (.func 158), #[.tmp 6, .tmp 7], #[9, 3]⟩, 3, _, _, none⟩) rfl (fun K hK => ?_) AllReadyH.nil
    go_simp
    go_wp2_with (first | (go_at_call 158; refine (HSh.out _).mono ?_; rintro r w2 ⟨rfl, rfl⟩))
    refine hK.out _ _ (hHeld) (fun hHeld => ?_)
    clear hK K
    try simp only [Act.put, List.setIfInBounds_toArray, List.set_cons_zero, List.set_cons_succ]
    refine tk 5 ⟨some 10, .binOp .neq 3 (.tmp 8) (.tmp 9) 3, 4, _, _, none⟩ ?vq5 rfl (by kernel_rfl) (.inl ⟨by rfl, ?hq5⟩) ?rq5
    case hq5 => intro W hSw; (try obtain ⟨q0, q1, q2⟩ := HC.out W hSw); go_simp; (try with_reducible rfl)
    try simp only [Act.put, List.setIfInBounds_toArray, List.set_cons_zero, List.set_cons_succ]
    refine tk 6 ⟨some 4, .assign (.tmp 10), 4, _, _, none⟩ ?vq6 rfl (by kernel_rfl) (.inl ⟨by rfl, ?hq6⟩) ?rq6
    case hq6 => intro W hSw; (try obtain ⟨q0, q1, q2⟩ := HC.out W hSw); go_simp; (try with_reducible rfl)
    try simp only [Act.put, List.setIfInBounds_toArray, List.set_cons_zero, List.set_cons_succ]
    refine wpAnyH_done (by kernel_rfl) ?_ _
    have Fl := Lib.hid hHeld
    clear hHeld
    go_wp2_with fail
    go_ret
    exact ⟨rfl, (FB.out.trans Fl.out (fun _ h => h.elim)).below (fun _ h => h.elim)⟩
  · have hd : (sv != k) = true := by simpa using hk
    have hd2 : (sv == k) = false := by simpa using hk
    rw [decide_eq_false hk]
    go_enter Tryz.func163, Tryz.ntmps163
    go_wp2_with fail
    rw [← HW0.out]
    refine wp_region_held_drew (S := fun W1 => Fr (fun _ => False) W0 W1) (by kernel_rfl) ((Fr.refl _ W0).drew) (fun hHeld => ?_)
    refine tk 0 ⟨some 5, .fieldAddr 30 (.tmp 3) 0, 0, _, _, none⟩ ?vq7 rfl (by kernel_rfl) (.inl ⟨by rfl, ?hq7⟩) ?rq7
    case hq7 => intro W hSw; go_simp; (try with_reducible rfl)
    try simp only [Act.put, List.setIfInBounds_toArray, List.set_cons_zero, List.set_cons_succ]
    refine tk 1 ⟨some 6, .load 9 (.tmp 5), 9, _, _, none⟩ ?vq8 rfl (by kernel_rfl) (.inl ⟨by rfl, ?hq8⟩) ?rq8
    case hq8 => intro W hSw; (try obtain ⟨q0, q1, q2⟩ := HC.out W hSw); go_simp; (try with_reducible rfl)
    try simp only [Act.put, List.setIfInBounds_toArray, List.set_cons_zero, List.set_cons_succ]
    refine tk 2 ⟨some 7, .load 3 (.tmp 1), 3, _, _, none⟩ ?vq9 rfl (by kernel_rfl) (.inl ⟨by rfl, ?hq9⟩) ?rq9
    case hq9 => intro W hSw; (try obtain ⟨q0, q1, q2⟩ := HC.out W hSw); go_simp; (try with_reducible rfl)
    try simp only [Act.put, List.setIfInBounds_toArray, List.set_cons_zero, List.set_cons_succ]
    refine tk 4 ⟨some 9, .load 3 (.tmp 2), 3, _, _, none⟩ ?vq10 rfl (by kernel_rfl) (.inl ⟨by rfl, ?hq10⟩) ?rq10
    case hq10 => intro W hSw; (try obtain ⟨q0, q1, q2⟩ := HC.out W hSw); go_simp; (try with_reducible rfl)
    try simp only [Act.put, List.setIfInBounds_toArray, List.set_cons_zero, List.set_cons_succ]
    refine wpAnyH_ready (rs := [3]) (by kernel_rfl) (by simp) ?_
    refine AllReadyH.cons (o := ⟨some 8, .call ⟨.value (.func 158), #[.tmp 6, .tmp 7], #[9, 3]⟩, 3, _, _, none⟩) rfl (fun K hK => ?_) AllReadyH.nil
    go_simp
    go_wp2_with (first | (go_at_call 158; refine (HSh.out _).mono ?_; rintro r w2 ⟨rfl, rfl⟩))
    refine hK.out _ _ (hHeld) (fun hHeld => ?_)
    clear hK K
    try simp only [Act.put, List.setIfInBounds_toArray, List.set_cons_zero, List.set_cons_succ]
    refine tk 5 ⟨some 10, .binOp .neq 3 (.tmp 8) (.tmp 9) 3, 4, _, _, none⟩ ?vq11 rfl (by kernel_rfl) (.inl ⟨by rfl, ?hq11⟩) ?rq11
    case hq11 => intro W hSw; (try obtain ⟨q0, q1, q2⟩ := HC.out W hSw); go_simp; (try with_reducible rfl)
    try simp only [Act.put, List.setIfInBounds_toArray, List.set_cons_zero, List.set_cons_succ]
    refine tk 6 ⟨some 4, .assign (.tmp 10), 4, _, _, none⟩ ?vq12 rfl (by kernel_rfl) (.inl ⟨by rfl, ?hq12⟩) ?rq12
    case hq12 => intro W hSw; (try obtain ⟨q0, q1, q2⟩ := HC.out W hSw); go_simp; (try with_reducible rfl)
    try simp only [Act.put, List.setIfInBounds_toArray, List.set_cons_zero, List.set_cons_succ]
    refine wpAnyH_done (by kernel_rfl) ?_ _
    have Fl := Lib.hid hHeld
    clear hHeld
    go_wp2_with fail
    go_ret
    exact ⟨rfl, (FB.out.trans Fl.out (fun _ h => h.elim)).below (fun _ h => h.elim)⟩
set_option maxRecDepth 100000 in
set_option maxHeartbeats 8000000 in
theorem tabshard_any (g : Nat) (every : Int) (b : Nat) (l : List RecV) (k M : Int) (w : World) (h : TabAt w g every b l) (hl : l.length ≤ 1000000000) (hwf : ∀ r ∈ l, r.wf) :
    Calls Tryz.prog 62 #[.pointer (some ⟨g, 0, none⟩), .int .i64 k, .int .i64 M] w fun r w' => (∃ A c, r = .returned (.slice A (keepT (notS k M) l).length c) ∧ w'.ownsRow w.heap.size 30 7 (.slice A (keepT (notS k M) l).length c) (keepT (notS k M) l).length (rcells (keepT (notS k M) l))) ∧ Below w.heap.size w w' := by
  obtain ⟨W1, hW1⟩ : ∃ W1, W1 = (w.alloc (.cells #[.int .i64 k] 3)).alloc (.cells #[.int .i64 M] 3) := ⟨_, rfl⟩
  have HW1 := Lib.hid hW1
  have T1 : TabAt W1 g every b l := by rw [hW1]; exact (h.fr0 (Fr.none_alloc _ _)).fr0 (Fr.none_alloc _ _)
  have B1 : Blk W1 w.heap.size 3 #[.int .i64 k] := by rw [hW1]; exact (Blk.new _ _ _).alloc _
  have B2 : Blk W1 (w.heap.size + 1) 3 #[.int .i64 M] := by rw [hW1]; exact Blk.new' (by simp) _ _
  have O1 : Hid (Own w W1 (fun _ => False)) := by show Own _ _ _; rw [hW1]; exact ((Own.start w).skip (Fr.none_alloc _ _)).skip (Fr.none_alloc _ _)
  have HA := Lib.hid (taball_any g every b l W1 T1 hl)
  have HB1 := Lib.hid B1
  have HB2 := Lib.hid B2
  clear h hW1 T1 B1 B2
  have eg : ∀ args w, (callFunc 163 args).run Tryz.prog w = .ok (.enter 163 args) w := enters_of Tryz.func163 (by kernel_rfl) rfl
  go_enter Tryz.func62, Tryz.ntmps62
  go_wp2_with fail
  rw [← HW1.out]
  refine HA.out.mono ?_
  rintro r w5 ⟨⟨A, c, rfl, ho5⟩, b5⟩
  have HB15 := HB1.out.below b5
  have HB25 := HB2.out.below b5
  have hge : ∀ j, rowF (.slice A l.length c) j → W1.heap.size ≤ j := fun j hj => (ho5.lt j hj).1
  have n1 : ¬ rowF (.slice A l.length c) w.heap.size := fun hj => by have := hge _ hj; have := HB1.out.lt; omega
  have n2 : ¬ rowF (.slice A l.length c) (w.heap.size + 1) := fun hj => by have := hge _ hj; have := HB2.out.lt; omega
  have HD := Lib.hid (deletefunc_any 163 #[.pointer (some ⟨w.heap.size + 1, 0, none⟩), .pointer (some ⟨w.heap.size, 0, none⟩)] (notS k M) l A l.length c W1.heap.size w5 ho5 hl eg (fun W hf x hx => shardso_any x (hwf x hx).2.2 k M _ _ W ((HB25.fr hf n2).cell 0) ((HB15.fr hf n1).cell 0)))
  have O5 := Lib.hid (O1.out.below b5)
  have Hge := Lib.hid hge
  have hs1 := O1.out.bel.size
  clear ho5 HB15 HB25 hge n1 n2 HB1 HB2 b5
  go_wp2_with fail
  refine HD.out.mono ?_
  rintro r w6 ⟨⟨rfl, ho6⟩, f6⟩
  have Ho6 := Lib.hid (own_le ho6 hs1)
  have O6 := Lib.hid ((O5.out.also (G := rowF (.slice A l.length c)) (fun j hj => by have := Hge.out j hj; omega)).fr f6)
  clear ho6 f6
  go_wp2_with fail
  go_ret
  exact ⟨⟨A, c, rfl, Ho6.out⟩, O6.out.bel⟩

set_option maxRecDepth 100000 in
set_option maxHeartbeats 4000000 in
theorem clearso_any (n : ByteArray) (hn : n.size ≤ maxLen) (s : Int) (k M : Int) (p1 p2 : Nat) (W : World) (h1 : W.cell? ⟨p1, 0, none⟩ = some (.int .i64 M)) (h2 : W.cell? ⟨p2, 0, none⟩ = some (.int .i64 k)) :
    Calls Tryz.prog 157 #[.agg #[.string n, .int .i64 s], .pointer (some ⟨p1, 0, none⟩), .pointer (some ⟨p2, 0, none⟩)] W fun r' w' => r' = .returned (.bool (decide (shardV n M = k))) ∧ Below W.heap.size W w' := by
  obtain ⟨W0, hW0⟩ : ∃ W0, W0 = W.alloc (.cells #[.string n, .int .i64 s] 194) := ⟨_, rfl⟩
  have HW0 := Lib.hid hW0
  have FB : Hid (Fr (fun _ => False) W W0) := by show Fr _ _ _; rw [hW0]; exact Fr.none_alloc _ _
  have B0 : Hid (Blk W0 W.heap.size 194 #[.string n, .int .i64 s]) := by show Blk _ _ _ _; rw [hW0]; exact Blk.new _ _ _
  have HC : Hid (∀ W1, Fr (fun _ => False) W0 W1 → W1.cell? ⟨W.heap.size, 0, none⟩ = some (.string n) ∧ W1.cell? ⟨p1, 0, none⟩ = some (.int .i64 M) ∧ W1.cell? ⟨p2, 0, none⟩ = some (.int .i64 k)) := fun W1 f =>
    ⟨(B0.out.fr f (fun h => h)).cell 0, (FB.out.trans f (fun _ h => h.elim)).cell h1 (fun h => h), (FB.out.trans f (fun _ h => h.elim)).cell h2 (fun h => h)⟩
  have HSh : Hid (∀ W, Calls Tryz.prog 158 #[.string n, .int .i64 M] W fun r w' => r = .returned (.int .i64 (shardV n M)) ∧ W = w') := fun W => shard_any n hn M W
  clear h1 h2 hW0
  obtain ⟨sv, hsv⟩ : ∃ v, shardV n M = v := ⟨_, rfl⟩
  rw [hsv] at HSh ⊢
  clear hsv
  by_cases hk : sv = k
  · subst hk
    have hd : (sv == sv) = true := by simp
    rw [decide_eq_true rfl]
    go_enter Tryz.func157, Tryz.ntmps157
    go_wp2_with fail
    rw [← HW0.out]
    refine wp_region_held_drew (S := fun W1 => Fr (fun _ => False) W0 W1) (by kernel_rfl) ((Fr.refl _ W0).drew) (fun hHeld => ?_)
    refine tk 0 ⟨some 5, .fieldAddr 194 (.tmp 3) 0, 0, _, _, none⟩ ?vq13 rfl (by kernel_rfl) (.inl ⟨by rfl, ?hq13⟩) ?rq13
    case hq13 => intro W hSw; go_simp; (try with_reducible rfl)
    try simp only [Act.put, List.setIfInBounds_toArray, List.set_cons_zero, List.set_cons_succ]
    refine tk 1 ⟨some 6, .load 9 (.tmp 5), 9, _, _, none⟩ ?vq14 rfl (by kernel_rfl) (.inl ⟨by rfl, ?hq14⟩) ?rq14
    case hq14 => intro W hSw; (try obtain ⟨q0, q1, q2⟩ := HC.out W hSw); go_simp; (try with_reducible rfl)
    try simp only [Act.put, List.setIfInBounds_toArray, List.set_cons_zero, List.set_cons_succ]
    refine tk 2 ⟨some 7, .load 3 (.tmp 1), 3, _, _, none⟩ ?vq15 rfl (by kernel_rfl) (.inl ⟨by rfl, ?hq15⟩) ?rq15
    case hq15 => intro W hSw; (try obtain ⟨q0, q1, q2⟩ := HC.out W hSw); go_simp; (try with_reducible rfl)
    try simp only [Act.put, List.setIfInBounds_toArray, List.set_cons_zero, List.set_cons_succ]
    refine tk 4 ⟨some 9, .load 3 (.tmp 2), 3, _, _, none⟩ ?vq16 rfl (by kernel_rfl) (.inl ⟨by rfl, ?hq16⟩) ?rq16
    case hq16 => intro W hSw; (try obtain ⟨q0, q1, q2⟩ := HC.out W hSw); go_simp; (try with_reducible rfl)
    try simp only [Act.put, List.setIfInBounds_toArray, List.set_cons_zero, List.set_cons_succ]
    refine wpAnyH_ready (rs := [3]) (by kernel_rfl) (by simp) ?_
    refine AllReadyH.cons (o := ⟨some 8, .call ⟨.value (.func 158), #[.tmp 6, .tmp 7], #[9, 3]⟩, 3, _, _, none⟩) rfl (fun K hK => ?_) AllReadyH.nil
    go_simp
    go_wp2_with (first | (go_at_call 158; refine (HSh.out _).mono ?_; rintro r w2 ⟨rfl, rfl⟩))
    refine hK.out _ _ (hHeld) (fun hHeld => ?_)
    clear hK K
    try simp only [Act.put, List.setIfInBounds_toArray, List.set_cons_zero, List.set_cons_succ]
    refine tk 5 ⟨some 10, .binOp .eql 3 (.tmp 8) (.tmp 9) 3, 4, _, _, none⟩ ?vq17 rfl (by kernel_rfl) (.inl ⟨by rfl, ?hq17⟩) ?rq17
    case hq17 => intro W hSw; (try obtain ⟨q0, q1, q2⟩ := HC.out W hSw); go_simp; (try with_reducible rfl)
    try simp only [Act.put, List.setIfInBounds_toArray, List.set_cons_zero, List.set_cons_succ]
    refine tk 6 ⟨some 4, .assign (.tmp 10), 4, _, _, none⟩ ?vq18 rfl (by kernel_rfl) (.inl ⟨by rfl, ?hq18⟩) ?rq18
    case hq18 => intro W hSw; (try obtain ⟨q0, q1, q2⟩ := HC.out W hSw); go_simp; (try with_reducible rfl)
    try simp only [Act.put, List.setIfInBounds_toArray, List.set_cons_zero, List.set_cons_succ]
    refine wpAnyH_done (by kernel_rfl) ?_ _
    have Fl := Lib.hid hHeld
    clear hHeld
    go_wp2_with fail
    go_ret
    exact ⟨rfl, (FB.out.trans Fl.out (fun _ h => h.elim)).below (fun _ h => h.elim)⟩
  · have hd : (sv == k) = false := by simpa using hk
    have hd2 : (sv == k) = false := by simpa using hk
    rw [decide_eq_false hk]
    go_enter Tryz.func157, Tryz.ntmps157
    go_wp2_with fail
    rw [← HW0.out]
    refine wp_region_held_drew (S := fun W1 => Fr (fun _ => False) W0 W1) (by kernel_rfl) ((Fr.refl _ W0).drew) (fun hHeld => ?_)
    refine tk 0 ⟨some 5, .fieldAddr 194 (.tmp 3) 0, 0, _, _, none⟩ ?vq19 rfl (by kernel_rfl) (.inl ⟨by rfl, ?hq19⟩) ?rq19
    case hq19 => intro W hSw; go_simp; (try with_reducible rfl)
    try simp only [Act.put, List.setIfInBounds_toArray, List.set_cons_zero, List.set_cons_succ]
    refine tk 1 ⟨some 6, .load 9 (.tmp 5), 9, _, _, none⟩ ?vq20 rfl (by kernel_rfl) (.inl ⟨by rfl, ?hq20⟩) ?rq20
    case hq20 => intro W hSw; (try obtain ⟨q0, q1, q2⟩ := HC.out W hSw); go_simp; (try with_reducible rfl)
    try simp only [Act.put, List.setIfInBounds_toArray, List.set_cons_zero, List.set_cons_succ]
    refine tk 2 ⟨some 7, .load 3 (.tmp 1), 3, _, _, none⟩ ?vq21 rfl (by kernel_rfl) (.inl ⟨by rfl, ?hq21⟩) ?rq21
    case hq21 => intro W hSw; (try obtain ⟨q0, q1, q2⟩ := HC.out W hSw); go_simp; (try with_reducible rfl)
    try simp only [Act.put, List.setIfInBounds_toArray, List.set_cons_zero, List.set_cons_succ]
    refine tk 4 ⟨some 9, .load 3 (.tmp 2), 3, _, _, none⟩ ?vq22 rfl (by kernel_rfl) (.inl ⟨by rfl, ?hq22⟩) ?rq22
    case hq22 => intro W hSw; (try obtain ⟨q0, q1, q2⟩ := HC.out W hSw); go_simp; (try with_reducible rfl)
    try simp only [Act.put, List.setIfInBounds_toArray, List.set_cons_zero, List.set_cons_succ]
    refine wpAnyH_ready (rs := [3]) (by kernel_rfl) (by simp) ?_
    refine AllReadyH.cons (o := ⟨some 8, .call ⟨.value (.func 158), #[.tmp 6, .tmp 7], #[9, 3]⟩, 3, _, _, none⟩) rfl (fun K hK => ?_) AllReadyH.nil
    go_simp
    go_wp2_with (first | (go_at_call 158; refine (HSh.out _).mono ?_; rintro r w2 ⟨rfl, rfl⟩))
    refine hK.out _ _ (hHeld) (fun hHeld => ?_)
    clear hK K
    try simp only [Act.put, List.setIfInBounds_toArray, List.set_cons_zero, List.set_cons_succ]
    refine tk 5 ⟨some 10, .binOp .eql 3 (.tmp 8) (.tmp 9) 3, 4, _, _, none⟩ ?vq23 rfl (by kernel_rfl) (.inl ⟨by rfl, ?hq23⟩) ?rq23
    case hq23 => intro W hSw; (try obtain ⟨q0, q1, q2⟩ := HC.out W hSw); go_simp; (try with_reducible rfl)
    try simp only [Act.put, List.setIfInBounds_toArray, List.set_cons_zero, List.set_cons_succ]
    refine tk 6 ⟨some 4, .assign (.tmp 10), 4, _, _, none⟩ ?vq24 rfl (by kernel_rfl) (.inl ⟨by rfl, ?hq24⟩) ?rq24
    case hq24 => intro W hSw; (try obtain ⟨q0, q1, q2⟩ := HC.out W hSw); go_simp; (try with_reducible rfl)
    try simp only [Act.put, List.setIfInBounds_toArray, List.set_cons_zero, List.set_cons_succ]
    refine wpAnyH_done (by kernel_rfl) ?_ _
    have Fl := Lib.hid hHeld
    clear hHeld
    go_wp2_with fail
    go_ret
    exact ⟨rfl, (FB.out.trans Fl.out (fun _ h => h.elim)).below (fun _ h => h.elim)⟩
set_option maxRecDepth 100000 in
theorem cleardel_any (n : ByteArray) (s : Int) (a : AggV) (k M : Int) (p q q2 : Nat) (W : World) (hp : W.cell? ⟨p, 0, none⟩ = some (.func (.func 157) #[] #[.pointer (some ⟨q, 0, none⟩), .pointer (some ⟨q2, 0, none⟩)])) (hn : n.size ≤ maxLen) (hc : W.cell? ⟨q, 0, none⟩ = some (.int .i64 M)) (hc2 : W.cell? ⟨q2, 0, none⟩ = some (.int .i64 k)) :
    Calls Tryz.prog 203 #[.agg #[.string n, .int .i64 s], .agg #[.int .i64 a.count, .int .i64 a.hi, .int .u64 a.lo, .int .i64 a.min, .int .i64 a.max], .pointer (some ⟨p, 0, none⟩)] W fun r w' => r = .returned (.bool (decide (shardV n M = k))) ∧ Below W.heap.size W w' := by
  have c1 := fun o1 o2 => (Fr.none_alloc (W.alloc o1) o2).cell ((Fr.none_alloc W o1).cell hp (fun h => h)) (fun h => h)
  have HD : Hid (∀ W', Fr (fun _ => False) W W' → Calls Tryz.prog 157 #[.agg #[.string n, .int .i64 s], .pointer (some ⟨q, 0, none⟩), .pointer (some ⟨q2, 0, none⟩)] W' fun r w'' => r = .returned (.bool (decide (shardV n M = k))) ∧ Below W'.heap.size W' w'') := fun W' f => clearso_any n hn s k M q q2 W' (f.cell hc (fun h => h)) (f.cell hc2 (fun h => h))
  have F2 : Hid (∀ o1 o2, Fr (fun _ => False) W ((W.alloc o1).alloc o2)) := fun o1 o2 => (Fr.none_alloc W o1).trans (Fr.none_alloc _ o2) (fun _ h => h.elim)
  clear hp hc hc2
  go_enter Tryz.func203, Tryz.ntmps203
  go_wp2_with fail
  refine (HD.out _ (F2.out _ _)).mono ?_
  rintro r w5 ⟨rfl, b5⟩
  have B5 := Lib.hid (((F2.out _ _).trans (Fr.b0 b5) (fun _ h => h.elim)).below (fun _ h => h.elim))
  clear b5
  go_wp2_with fail
  go_ret
  exact ⟨rfl, B5.out⟩

set_option maxRecDepth 100000 in
set_option maxHeartbeats 8000000 in
theorem tabclearso_any (g : Nat) (every : Int) (b : Nat) (l : List RecV) (k M : Int) (q q2 : Nat) (w : World) (h : TabAt w g every b l) (hq : w.cell? ⟨q, 0, none⟩ = some (.int .i64 M)) (hq2 : w.cell? ⟨q2, 0, none⟩ = some (.int .i64 k)) (hwf : ∀ r ∈ l, r.wf) (hl : l.length ≤ 1000000000) :
    Calls Tryz.prog 156 #[.pointer (some ⟨g, 0, none⟩), .func (.func 157) #[] #[.pointer (some ⟨q, 0, none⟩), .pointer (some ⟨q2, 0, none⟩)]] w fun r w' => r = .returned (.int .i64 ((l.length : Int) - ((keepT (inS k M) l).length : Nat))) ∧ TabAt w' g every b (keepT (inS k M) l) ∧ Fr (fun j => j = b) w w' := by
  obtain ⟨es, ck, hbm⟩ := h.own.isMap
  have hqb := cell_ne_map hq hbm
  have hqb2 := cell_ne_map hq2 hbm
  obtain ⟨W1, hW1⟩ : ∃ W1, W1 = w.alloc (.cells #[.func (.func 157) #[] #[.pointer (some ⟨q, 0, none⟩), .pointer (some ⟨q2, 0, none⟩)]] 196) := ⟨_, rfl⟩
  have HW1 := Lib.hid hW1
  have T1 : Hid (TabAt W1 g every b l) := by rw [hW1]; exact h.fr0 (Fr.none_alloc _ _)
  have P1 : Hid (W1.cell? ⟨w.heap.size, 0, none⟩ = some (.func (.func 157) #[] #[.pointer (some ⟨q, 0, none⟩), .pointer (some ⟨q2, 0, none⟩)])) := by show _ = _; rw [hW1]; exact (Blk.new _ _ _).cell 0
  have Q1 : Hid (W1.cell? ⟨q, 0, none⟩ = some (.int .i64 M)) := by show _ = _; rw [hW1]; exact (Fr.none_alloc w _).cell hq (fun h => h)
  have Q2 : Hid (W1.cell? ⟨q2, 0, none⟩ = some (.int .i64 k)) := by show _ = _; rw [hW1]; exact (Fr.none_alloc w _).cell hq2 (fun h => h)
  have F1 : Hid (Fr (fun j => j = b) w W1) := by show Fr _ _ _; rw [hW1]; exact (Fr.none_alloc w _).mono (fun _ h => h.elim)
  have hwb : w.heap.size ≠ b := fun e => by have := h.own.lt; omega
  have HN := Lib.hid (tabnone_any g every b W1 T1.out.blk)
  have hgb := h.ne
  have c1 := T1.out.blk.cell 1
  simp only [List.getElem?_toArray, List.getElem?_cons_succ, List.getElem?_cons_zero] at c1
  have hlen := T1.out.own.len
  have eg : ∀ args w, (callFunc 203 args).run Tryz.prog w = .ok (.enter 203 args) w := enters_of Tryz.func203 (by kernel_rfl) rfl
  have HD := Lib.hid (delfunc_any 203 #[.pointer (some ⟨w.heap.size, 0, none⟩)] (inS k M) (fun x y hk => by unfold inS; rw [hk.1]) b l W1 T1.out.own eg (fun W hf x hx => cleardel_any x.name x.start x.agg k M w.heap.size q q2 W (hf.cell P1.out hwb) hx.2.2 (hf.cell Q1.out hqb) (hf.cell Q2.out hqb2)))
  clear h hq hq2 hbm hW1
  go_enter Tryz.func156, Tryz.ntmps156
  go_wp2_with fail
  rw [← HW1.out]
  refine HN.out.mono ?_
  rintro r w' ⟨rfl, rfl⟩
  go_wp2_with fail
  refine HD.out.mono ?_
  rintro r w5 ⟨rfl, ho5, f5⟩
  have T5 := Lib.hid (TabAt.mk (T1.out.blk.fr f5 hgb) ho5)
  have F5 := Lib.hid (F1.out.trans f5 (fun i hi => .inl hi))
  have hle : (keepT (inS k M) l).length ≤ l.length := List.length_filter_le _ _
  obtain ⟨m, hm⟩ : ∃ m, (keepT (inS k M) l).length = m := ⟨_, rfl⟩
  have hlen5 := T5.out.own.len
  rw [hm] at hlen5 hle
  have hw : IntKind.i64.wrap ((l.length : Int) - (m : Int)) = (l.length : Int) - (m : Int) := by simp [IntKind.wrap, IntKind.signed, IntKind.bits]; omega
  have c5 := T5.out.blk.cell 1
  simp only [List.getElem?_toArray, List.getElem?_cons_succ, List.getElem?_cons_zero] at c5
  clear ho5 f5 c1 hlen
  go_wp2_with fail
  go_ret
  rw [hm]
  exact ⟨rfl, T5.out, F5.out⟩
set_option maxRecDepth 100000 in
set_option maxHeartbeats 8000000 in
theorem tabclear_any (g : Nat) (every : Int) (b : Nat) (l : List RecV) (k M : Int) (w : World) (h : TabAt w g every b l) (hwf : ∀ r ∈ l, r.wf) (hl : l.length ≤ 1000000000) :
    Calls Tryz.prog 59 #[.pointer (some ⟨g, 0, none⟩), .int .i64 k, .int .i64 M] w fun r w' => r = .returned (.int .i64 ((l.length : Int) - ((keepT (inS k M) l).length : Nat))) ∧ TabAt w' g every b (keepT (inS k M) l) ∧ Fr (fun j => j = b) w w' := by
  obtain ⟨W1, hW1⟩ : ∃ W1, W1 = (w.alloc (.cells #[.int .i64 k] 3)).alloc (.cells #[.int .i64 M] 3) := ⟨_, rfl⟩
  have HW1 := Lib.hid hW1
  have T1 : Hid (TabAt W1 g every b l) := by rw [hW1]; exact (h.fr0 (Fr.none_alloc _ _)).fr0 (Fr.none_alloc _ _)
  have Q1 : W1.cell? ⟨w.heap.size, 0, none⟩ = some (.int .i64 k) := by rw [hW1]; exact ((Blk.new _ _ _).alloc _).cell 0
  have Q2 : W1.cell? ⟨w.heap.size + 1, 0, none⟩ = some (.int .i64 M) := by rw [hW1]; exact (Blk.new' (by simp) _ _).cell 0
  have F1 : Hid (Fr (fun j => j = b) w W1) := by show Fr _ _ _; rw [hW1]; exact ((Fr.none_alloc w _).trans (Fr.none_alloc _ _) (fun _ h => h.elim)).mono (fun _ h => h.elim)
  have HD := Lib.hid (tabclearso_any g every b l k M (w.heap.size + 1) w.heap.size W1 T1.out Q2 Q1 hwf hl)
  clear h hW1 Q1 Q2
  go_enter Tryz.func59, Tryz.ntmps59
  go_wp2_with fail
  rw [← HW1.out]
  refine HD.out.mono ?_
  rintro r w5 ⟨rfl, t5, f5⟩
  have T5 := Lib.hid t5
  have F5 := Lib.hid (F1.out.trans f5 (fun i hi => .inl hi))
  clear t5 f5
  go_wp2_with fail
  go_ret
  exact ⟨rfl, T5.out, F5.out⟩
end Go.Proofs.YtfhhepfkjndkgaaGreat
