/- Walk of the document's table: Add. -/
import Derived.Test.YtlhhcancfgjfkaaGreatRefMerge
import Derived.Test.YtlhhcancfgjfkaaGreatRefName
import Derived.Test.YtlhhcancfgjfkaaGreatTiersP
import Derived.Deep.DeepCutAuto
import Derived.Deep.CutBlock
import Derived.Test.YtlhhcancfgjfkaaGreatTk
namespace Go.Proofs.YtlhhcancfgjfkaaGreat
set_option linter.all false
open Go.RowKit

/-- The document's table. -/
structure RTabOn (w : World) (g lo : Nat) (every : Int) (l : List RecV) : Prop where
  ex : ∃ A c, Blk w g 124 #[.int .i64 every, .slice A l.length c] ∧ w.ownsRow lo 108 7 (.slice A l.length c) l.length (rcells l)
  wf : ∀ r ∈ l, r.wf
  sorted : Sorted l
  ge : lo ≤ g
theorem insR_split {mg : Option AggV → AggV → AggV} {r : RecV} : ∀ {l : List RecV} {k : Nat}, (∀ j, j < k → ∀ x, l[j]? = some x → klt x r) → k ≤ l.length → insR mg l r = l.take k ++ insR mg (l.drop k) r
  | l, 0, _, _ => rfl
  | [], k + 1, _, h => by simp at h
  | x :: l, k + 1, h, hk => by
    have h0 := h 0 (by omega) x rfl
    have ih := insR_split (mg := mg) (l := l) (k := k) (fun j hj y hy => h (j + 1) (by omega) y (by simpa using hy)) (by simpa using hk)
    rw [List.take_succ_cons, List.drop_succ_cons, List.cons_append, ← ih]
    conv => lhs; unfold insR
    rw [if_pos h0]
theorem insR_new {mg : Option AggV → AggV → AggV} {r : RecV} {l : List RecV} {k : Nat} (h : ∀ j, j < k → ∀ x, l[j]? = some x → klt x r) (hk : k ≤ l.length) (h2 : ∀ x, l[k]? = some x → ¬ klt x r ∧ ¬ skey x r) : insR mg l r = l.take k ++ ⟨r.name, r.start, mg none r.agg⟩ :: l.drop k := by
  rw [insR_split h hk]
  congr 1
  cases hd : l.drop k with
  | nil => rfl
  | cons x t =>
    have hx : l[k]? = some x := by
      have := congrArg (fun z => z[0]?) hd
      simpa [List.getElem?_drop] using this
    obtain ⟨e1, e2⟩ := h2 x hx
    unfold insR
    rw [if_neg e1, if_neg e2]
theorem insR_old {mg : Option AggV → AggV → AggV} {r x : RecV} {l : List RecV} {k : Nat} (h : ∀ j, j < k → ∀ x, l[j]? = some x → klt x r) (hx : l[k]? = some x) (h1 : ¬ klt x r) (h2 : skey x r) : insR mg l r = l.take k ++ ⟨r.name, r.start, mg (some x.agg) r.agg⟩ :: l.drop (k + 1) := by
  obtain ⟨hk, e⟩ := List.getElem?_eq_some_iff.1 hx
  rw [insR_split h (Nat.le_of_lt hk), List.drop_eq_getElem_cons hk, e]
  congr 1
  unfold insR
  rw [if_neg h1, if_pos h2]

theorem vflat_dropR : ∀ (l : List RecV) (k : Nat), (rcells l).drop (k * 7) = rcells (l.drop k)
  | [], k => by simp [rcells]
  | a :: l, 0 => by simp
  | a :: l, k + 1 => by
    have ih := vflat_dropR l k
    unfold rcells at ih ⊢
    simp only [List.drop_succ_cons, List.flatMap_cons]
    rw [show (k + 1) * 7 = a.cells.length + k * 7 by rw [rec_len]; omega, List.drop_length_add_append, ih]
theorem vflat_takeR : ∀ (l : List RecV) (k : Nat), (rcells l).take (k * 7) = rcells (l.take k)
  | [], k => by simp [rcells]
  | a :: l, 0 => by simp [rcells]
  | a :: l, k + 1 => by
    have ih := vflat_takeR l k
    unfold rcells at ih ⊢
    simp only [List.take_succ_cons, List.flatMap_cons]
    rw [show (k + 1) * 7 = a.cells.length + k * 7 by rw [rec_len]; omega, List.take_length_add_append, ih]
/-- What is there behind an addition. -/
def AddAt (l : List RecV) (k : Nat) (r : RecV) (rest : List RecV) (y : RecV) : Prop := insR mgM l r = l.take k ++ y :: rest ∧ ∀ x ∈ l.take k ++ y :: rest, x.wf
theorem Blk.five {w : World} {g : Nat} {t : TypeId} {a0 a1 b0 c0 d0 e0 f0 a b c d e : Value} (h : Blk w g t #[a0, a1, b0, c0, d0, e0, f0]) : Blk (((((w.setCell ⟨g, 2, none⟩ a).setCell ⟨g, 3, none⟩ b).setCell ⟨g, 4, none⟩ c).setCell ⟨g, 5, none⟩ d).setCell ⟨g, 6, none⟩ e) g t #[a0, a1, a, b, c, d, e] := by
  have := ((((h.set_ 2 a).set_ 3 b).set_ 4 c).set_ 5 d).set_ 6 e
  simpa using this
theorem Fr.five {w1 w : World} {F : Nat → Prop} (h : Fr F w1 w) {g : Nat} (hg : F g) (a b c d e : Value) : Fr F w1 (((((w.setCell ⟨g, 2, none⟩ a).setCell ⟨g, 3, none⟩ b).setCell ⟨g, 4, none⟩ c).setCell ⟨g, 5, none⟩ d).setCell ⟨g, 6, none⟩ e) :=
  ((((h.setCell (p := ⟨g, 2, none⟩) (.inl hg) a).setCell (p := ⟨g, 3, none⟩) (.inl hg) b).setCell (p := ⟨g, 4, none⟩) (.inl hg) c).setCell (p := ⟨g, 5, none⟩) (.inl hg) d).setCell (p := ⟨g, 6, none⟩) (.inl hg) e
/-- Does a record of that place stand there? -/
def SameAt (l : List RecV) (k : Nat) (r : RecV) (b : Bool) : Prop := b = true ↔ ∃ x, l[k]? = some x ∧ skey x r

set_option maxRecDepth 100000 in
set_option maxHeartbeats 6000000 in
theorem radd_any (g lo : Nat) (every : Int) (l : List RecV) (r : RecV) (hr : r.wf) (w : World) (h : RTabOn w g lo every l) (hlo : lo ≤ w.heap.size) (hl : l.length ≤ 100000000) :
    Calls Tryz.prog 62 #[.pointer (some ⟨g, 0, none⟩), r.val] w fun r' w' => r' = .returned (.bool (rightR every r)) ∧ RTabOn w' g lo every (addV every l r) ∧ Fr (fun j => j = g) w w' := by
  obtain ⟨⟨A, c, hb, ho⟩, hwf, hs, hge⟩ := h
  obtain ⟨rn, rs, ⟨r1, r2, r3, r4, r5⟩⟩ := r
  have HNm : Hid (∀ W, Calls Tryz.prog 60 #[.string rn] W fun r w' => r = .returned (.bool (validB rn)) ∧ W = w') := fun W => rvalid_any rn hr.2.2 W
  have HOn : Hid (∀ W, Calls Tryz.prog 77 #[.int .i64 rs, .int .i64 every] W fun r w' => r = .returned (.bool (onB rs every)) ∧ W = w') := fun W => refon_any rs every W
  have HVa : Hid (∀ W, Calls Tryz.prog 149 #[.agg #[.int .i64 r1, .int .i64 r2, .int .u64 r3, .int .i64 r4, .int .i64 r5]] W fun r w' => r = .returned (.bool (aggOk ⟨r1, r2, r3, r4, r5⟩)) ∧ Below W.heap.size W w') := fun W => raggvalid_any ⟨r1, r2, r3, r4, r5⟩ W
  have Hrr : Hid (rightR every ⟨rn, rs, ⟨r1, r2, r3, r4, r5⟩⟩ = (validB rn && decide (0 ≤ rs) && onB rs every && aggOk ⟨r1, r2, r3, r4, r5⟩)) := rfl
  have HSm0 : Hid (∀ W, Fr (fun _ => False) w W → RTabOn W g lo every l) := fun W f => ⟨⟨A, c, hb.fr f (fun h => h), own_fr0 ho f⟩, hwf, hs, hge⟩
  obtain ⟨n, hn⟩ : ∃ n, l.length = n := ⟨_, rfl⟩
  rw [hn] at hb ho hl
  have Hn := Lib.hid hn
  obtain ⟨hnc, hc9, hrd, _⟩ := own_any ho
  have Ho := Lib.hid ho
  have Hrd := Lib.hid hrd
  have Hb := Lib.hid hb
  have Hwf := Lib.hid hwf
  have Hs := Lib.hid hs
  obtain ⟨hr1, hr2, hr3⟩ := hr
  have hc63 : c ≤ 9223372036854775807 := by unfold maxLen at hc9; omega
  have Hrw : Hid ((⟨rn, rs, ⟨r1, r2, r3, r4, r5⟩⟩ : RecV).wf) := ⟨hr1, hr2, hr3⟩
  clear hn hb ho hrd hwf hs hr1 hr2 hr3
  unfold RecV.val
  simp only
  have F1 := Lib.hid (Fr.none_alloc w (.cells #[.string rn, .int .i64 rs, .int .i64 r1, .int .i64 r2, .int .u64 r3, .int .i64 r4, .int .i64 r5] 108))
  have B1 := Lib.hid (Blk.new w 108 #[.string rn, .int .i64 rs, .int .i64 r1, .int .i64 r2, .int .u64 r3, .int .i64 r4, .int .i64 r5])
  obtain ⟨rb, hrb⟩ : ∃ rb, w.heap.size = rb := ⟨_, rfl⟩
  obtain ⟨W1, hW1⟩ : ∃ W1, W1 = w.alloc (.cells #[.string rn, .int .i64 rs, .int .i64 r1, .int .i64 r2, .int .u64 r3, .int .i64 r4, .int .i64 r5] 108) := ⟨_, rfl⟩
  rw [← hW1] at F1 B1
  rw [hrb] at B1
  have hgr : g ≠ rb := by have := Hb.out.lt; omega
  have HC : Hid (∀ W, Fr (fun _ => False) W1 W → W.cell? ⟨rb, 0, none⟩ = some (.string rn) ∧ W.cell? ⟨rb, 1, none⟩ = some (.int .i64 rs) ∧ W.cell? ⟨rb, 2, none⟩ = some (.int .i64 r1) ∧ W.cell? ⟨rb, 3, none⟩ = some (.int .i64 r2) ∧ W.cell? ⟨rb, 4, none⟩ = some (.int .u64 r3) ∧ W.cell? ⟨rb, 5, none⟩ = some (.int .i64 r4) ∧ W.cell? ⟨rb, 6, none⟩ = some (.int .i64 r5) ∧ W.cell? ⟨g, 0, none⟩ = some (.int .i64 every) ∧ W.cell? ⟨g, 1, none⟩ = some (.slice A n c)) := fun W f => by
    have b := B1.out.fr f (fun h => h)
    have b2 := (Hb.out.fr F1.out (fun h => h)).fr f (fun h => h)
    exact ⟨(b).cell 0, (b).cell 1, (b).cell 2, (b).cell 3, (b).cell 4, (b).cell 5, (b).cell 6, b2.cell 0, b2.cell 1⟩
  have HRd : Hid (∀ W, Fr (fun _ => False) W1 W → Rd W 7 A n (rcells l)) := fun W f => (Hrd.out.fr0 F1.out).fr0 f
  obtain ⟨rr, hrr⟩ : ∃ b, rightR every ⟨rn, rs, ⟨r1, r2, r3, r4, r5⟩⟩ = b := ⟨_, rfl⟩
  have HrR := Lib.hid hrr
  rw [hrr] at Hrr ⊢
  have HSame : Hid (∀ W, Fr (fun _ => False) w W → rr = false → RTabOn W g lo every (addV every l ⟨rn, rs, ⟨r1, r2, r3, r4, r5⟩⟩)) := fun W f h => by
    unfold addV
    rw [HrR.out, h]
    exact HSm0.out W f
  have HIn : Hid (rr = true → addV every l ⟨rn, rs, ⟨r1, r2, r3, r4, r5⟩⟩ = insR mgM l ⟨rn, rs, ⟨r1, r2, r3, r4, r5⟩⟩) := fun h => by
    unfold addV
    rw [HrR.out, h]
    rfl
  obtain ⟨V, hV⟩ : ∃ v, addV every l ⟨rn, rs, ⟨r1, r2, r3, r4, r5⟩⟩ = v := ⟨_, rfl⟩
  rw [hV] at HSame HIn ⊢
  obtain ⟨nb, hnb⟩ : ∃ b, validB rn = b := ⟨_, rfl⟩
  obtain ⟨ob, hob⟩ : ∃ b, onB rs every = b := ⟨_, rfl⟩
  obtain ⟨ab, hab⟩ : ∃ b, aggOk ⟨r1, r2, r3, r4, r5⟩ = b := ⟨_, rfl⟩
  rw [hnb, hob, hab] at Hrr
  rw [hnb] at HNm
  rw [hob] at HOn
  rw [hab] at HVa
  have Hab := Lib.hid hab
  clear hnb hob hab hrr hV
  go_enter Tryz.func62, Tryz.ntmps62
  go_wp2_with fail
  rw [← hW1]
  try rw [hrb]
  have Hrb := Lib.hid hrb
  clear hW1 hrb
  cases nb with
  | false =>
    obtain rfl : rr = false := by rw [Hrr.out]; rfl
    go_wp2_with fail
    refine wp_region_held_drew (S := fun W => Fr (fun _ => False) W1 W) (by kernel_rfl) ((Fr.refl _ W1).drew) (fun hHeld => ?_)
    refine tk 0 ⟨some 7, .fieldAddr 108 (.tmp 3) 0, 0, _, _, none⟩ ?vq1 rfl (by kernel_rfl) (.inl ⟨by rfl, ?hq1⟩) ?rq1
    case hq1 => intro W hSw; go_simp; (try with_reducible rfl)
    try simp only [Act.put, List.setIfInBounds_toArray, List.set_cons_zero, List.set_cons_succ]
    refine tk 1 ⟨some 8, .load 9 (.tmp 7), 9, _, _, none⟩ ?vq2 rfl (by kernel_rfl) (.inl ⟨by rfl, ?hq2⟩) ?rq2
    case hq2 => intro W hSw; (try obtain ⟨q0, q1, q2, q3, q4, q5, q6, p0, p1⟩ := HC.out W hSw); go_simp; (try with_reducible rfl)
    try simp only [Act.put, List.setIfInBounds_toArray, List.set_cons_zero, List.set_cons_succ]
    refine wpAnyH_ready (rs := [2]) (by kernel_rfl) (by simp) ?_
    refine AllReadyH.cons (o := ⟨some 9, .call ⟨.value (.func 60), #[.tmp 8], #[9]⟩, 4, _, _, none⟩) rfl (fun K hK => ?_) AllReadyH.nil
    go_simp
    go_wp2_with (first | (go_at_call 60; refine (HNm.out _).mono ?_; rintro r wa ⟨rfl, rfl⟩))
    refine hK.out _ _ (hHeld) (fun hHeld => ?_)
    clear hK K
    try simp only [Act.put, List.setIfInBounds_toArray, List.set_cons_zero, List.set_cons_succ]
    refine tk 3 ⟨some 10, .unOp .not 4 (.tmp 9), 4, _, _, none⟩ ?vq3 rfl (by kernel_rfl) (.inl ⟨by rfl, ?hq3⟩) ?rq3
    case hq3 => intro W hSw; go_simp; (try with_reducible rfl)
    try simp only [Act.put, List.setIfInBounds_toArray, List.set_cons_zero, List.set_cons_succ]
    refine tk 4 ⟨some 11, .move (.tmp 10), 4, _, _, none⟩ ?vq4 rfl (by kernel_rfl) (.inl ⟨by rfl, ?hq4⟩) ?rq4
    case hq4 => intro W hSw; go_simp; (try with_reducible rfl)
    try simp only [Act.put, List.setIfInBounds_toArray, List.set_cons_zero, List.set_cons_succ]
    refine tu 5 ⟨some 12, .fieldAddr 108 (.tmp 3) 1, 0, _, _, some (4, false)⟩ rfl (by kernel_rfl) (by rfl) ?_
    try simp only [Act.put, List.setIfInBounds_toArray, List.set_cons_zero, List.set_cons_succ]
    refine tu 6 ⟨some 13, .load 3 (.tmp 12), 3, _, _, some (4, false)⟩ rfl (by kernel_rfl) (by rfl) ?_
    try simp only [Act.put, List.setIfInBounds_toArray, List.set_cons_zero, List.set_cons_succ]
    refine tu 7 ⟨some 14, .binOp .lss 3 (.tmp 13) (.const (.int .i64 0)) 3, 4, _, _, some (4, false)⟩ rfl (by kernel_rfl) (by rfl) ?_
    try simp only [Act.put, List.setIfInBounds_toArray, List.set_cons_zero, List.set_cons_succ]
    refine tk 8 ⟨some 15, .pick (.tmp 11) (.const (.bool true)) (.tmp 14), 4, _, _, none⟩ ?vq5 rfl (by kernel_rfl) (.inl ⟨by rfl, ?hq5⟩) ?rq5
    case hq5 => intro W hSw; go_simp; (try with_reducible rfl)
    try simp only [Act.put, List.setIfInBounds_toArray, List.set_cons_zero, List.set_cons_succ]
    refine tk 9 ⟨some 16, .move (.tmp 15), 4, _, _, none⟩ ?vq6 rfl (by kernel_rfl) (.inl ⟨by rfl, ?hq6⟩) ?rq6
    case hq6 => intro W hSw; go_simp; (try with_reducible rfl)
    try simp only [Act.put, List.setIfInBounds_toArray, List.set_cons_zero, List.set_cons_succ]
    refine tu 10 ⟨some 17, .fieldAddr 108 (.tmp 3) 1, 0, _, _, some (9, false)⟩ rfl (by kernel_rfl) (by rfl) ?_
    try simp only [Act.put, List.setIfInBounds_toArray, List.set_cons_zero, List.set_cons_succ]
    refine tu 11 ⟨some 18, .load 3 (.tmp 17), 3, _, _, some (9, false)⟩ rfl (by kernel_rfl) (by rfl) ?_
    try simp only [Act.put, List.setIfInBounds_toArray, List.set_cons_zero, List.set_cons_succ]
    refine tu 12 ⟨some 19, .move (.tmp 0), 122, _, _, some (9, false)⟩ rfl (by kernel_rfl) (by rfl) ?_
    try simp only [Act.put, List.setIfInBounds_toArray, List.set_cons_zero, List.set_cons_succ]
    refine tu 13 ⟨some 20, .nilCheck (.tmp 19), 0, _, _, some (9, false)⟩ rfl (by kernel_rfl) (by rfl) ?_
    try simp only [Act.put, List.setIfInBounds_toArray, List.set_cons_zero, List.set_cons_succ]
    refine tu 14 ⟨some 21, .fieldAddr 124 (.tmp 20) 0, 0, _, _, some (9, false)⟩ rfl (by kernel_rfl) (by rfl) ?_
    try simp only [Act.put, List.setIfInBounds_toArray, List.set_cons_zero, List.set_cons_succ]
    refine tu 15 ⟨some 22, .load 3 (.tmp 21), 3, _, _, some (9, false)⟩ rfl (by kernel_rfl) (by rfl) ?_
    try simp only [Act.put, List.setIfInBounds_toArray, List.set_cons_zero, List.set_cons_succ]
    refine tu 16 ⟨some 23, .call ⟨.value (.func 77), #[.tmp 18, .tmp 22], #[3, 3]⟩, 4, _, _, some (9, false)⟩ rfl (by kernel_rfl) (by rfl) ?_
    try simp only [Act.put, List.setIfInBounds_toArray, List.set_cons_zero, List.set_cons_succ]
    refine tu 17 ⟨some 24, .unOp .not 4 (.tmp 23), 4, _, _, some (9, false)⟩ rfl (by kernel_rfl) (by rfl) ?_
    try simp only [Act.put, List.setIfInBounds_toArray, List.set_cons_zero, List.set_cons_succ]
    refine tk 18 ⟨some 25, .pick (.tmp 16) (.const (.bool true)) (.tmp 24), 4, _, _, none⟩ ?vq7 rfl (by kernel_rfl) (.inl ⟨by rfl, ?hq7⟩) ?rq7
    case hq7 => intro W hSw; go_simp; (try with_reducible rfl)
    try simp only [Act.put, List.setIfInBounds_toArray, List.set_cons_zero, List.set_cons_succ]
    refine tk 19 ⟨some 26, .move (.tmp 25), 4, _, _, none⟩ ?vq8 rfl (by kernel_rfl) (.inl ⟨by rfl, ?hq8⟩) ?rq8
    case hq8 => intro W hSw; go_simp; (try with_reducible rfl)
    try simp only [Act.put, List.setIfInBounds_toArray, List.set_cons_zero, List.set_cons_succ]
    refine tu 20 ⟨some 27, .fieldAddr 108 (.tmp 3) 2, 0, _, _, some (19, false)⟩ rfl (by kernel_rfl) (by rfl) ?_
    try simp only [Act.put, List.setIfInBounds_toArray, List.set_cons_zero, List.set_cons_succ]
    refine tu 21 ⟨some 28, .load 106 (.tmp 27), 106, _, _, some (19, false)⟩ rfl (by kernel_rfl) (by rfl) ?_
    try simp only [Act.put, List.setIfInBounds_toArray, List.set_cons_zero, List.set_cons_succ]
    refine tu 22 ⟨some 29, .call ⟨.value (.func 149), #[.tmp 28], #[106]⟩, 4, _, _, some (19, false)⟩ rfl (by kernel_rfl) (by rfl) ?_
    try simp only [Act.put, List.setIfInBounds_toArray, List.set_cons_zero, List.set_cons_succ]
    refine tu 23 ⟨some 30, .unOp .not 4 (.tmp 29), 4, _, _, some (19, false)⟩ rfl (by kernel_rfl) (by rfl) ?_
    try simp only [Act.put, List.setIfInBounds_toArray, List.set_cons_zero, List.set_cons_succ]
    refine tk 24 ⟨some 31, .pick (.tmp 26) (.const (.bool true)) (.tmp 30), 4, _, _, none⟩ ?vq9 rfl (by kernel_rfl) (.inl ⟨by rfl, ?hq9⟩) ?rq9
    case hq9 => intro W hSw; go_simp; (try with_reducible rfl)
    try simp only [Act.put, List.setIfInBounds_toArray, List.set_cons_zero, List.set_cons_succ]
    refine wpAnyH_done (by kernel_rfl) ?_ _
    have Fh := Lib.hid hHeld
    clear hHeld
    go_wp2_with fail
    go_ret
    exact ⟨rfl, HSame.out _ (F1.out.trans Fh.out (fun _ h => h.elim)) (by trivial), (F1.out.trans Fh.out (fun _ h => h.elim)).mono (fun _ h => h.elim)⟩
  | true =>
  by_cases hst : rs < 0
  case pos =>
    have hd : decide (rs < 0) = true := decide_eq_true hst
    obtain rfl : rr = false := by rw [Hrr.out, decide_eq_false (show ¬ 0 ≤ rs by omega)]; rfl
    go_wp2_with fail
    refine wp_region_held_drew (S := fun W => Fr (fun _ => False) W1 W) (by kernel_rfl) ((Fr.refl _ W1).drew) (fun hHeld => ?_)
    refine tk 0 ⟨some 7, .fieldAddr 108 (.tmp 3) 0, 0, _, _, none⟩ ?vq10 rfl (by kernel_rfl) (.inl ⟨by rfl, ?hq10⟩) ?rq10
    case hq10 => intro W hSw; go_simp; (try with_reducible rfl)
    try simp only [Act.put, List.setIfInBounds_toArray, List.set_cons_zero, List.set_cons_succ]
    refine tk 1 ⟨some 8, .load 9 (.tmp 7), 9, _, _, none⟩ ?vq11 rfl (by kernel_rfl) (.inl ⟨by rfl, ?hq11⟩) ?rq11
    case hq11 => intro W hSw; (try obtain ⟨q0, q1, q2, q3, q4, q5, q6, p0, p1⟩ := HC.out W hSw); go_simp; (try with_reducible rfl)
    try simp only [Act.put, List.setIfInBounds_toArray, List.set_cons_zero, List.set_cons_succ]
    refine wpAnyH_ready (rs := [2]) (by kernel_rfl) (by simp) ?_
    refine AllReadyH.cons (o := ⟨some 9, .call ⟨.value (.func 60), #[.tmp 8], #[9]⟩, 4, _, _, none⟩) rfl (fun K hK => ?_) AllReadyH.nil
    go_simp
    go_wp2_with (first | (go_at_call 60; refine (HNm.out _).mono ?_; rintro r wa ⟨rfl, rfl⟩))
    refine hK.out _ _ (hHeld) (fun hHeld => ?_)
    clear hK K
    try simp only [Act.put, List.setIfInBounds_toArray, List.set_cons_zero, List.set_cons_succ]
    refine tk 3 ⟨some 10, .unOp .not 4 (.tmp 9), 4, _, _, none⟩ ?vq12 rfl (by kernel_rfl) (.inl ⟨by rfl, ?hq12⟩) ?rq12
    case hq12 => intro W hSw; go_simp; (try with_reducible rfl)
    try simp only [Act.put, List.setIfInBounds_toArray, List.set_cons_zero, List.set_cons_succ]
    refine tk 4 ⟨some 11, .move (.tmp 10), 4, _, _, none⟩ ?vq13 rfl (by kernel_rfl) (.inl ⟨by rfl, ?hq13⟩) ?rq13
    case hq13 => intro W hSw; go_simp; (try with_reducible rfl)
    try simp only [Act.put, List.setIfInBounds_toArray, List.set_cons_zero, List.set_cons_succ]
    refine tk 5 ⟨some 12, .fieldAddr 108 (.tmp 3) 1, 0, _, _, some (4, false)⟩ ?vq14 rfl (by kernel_rfl) (.inl ⟨by rfl, ?hq14⟩) ?rq14
    case hq14 => intro W hSw; go_simp; (try with_reducible rfl)
    try simp only [Act.put, List.setIfInBounds_toArray, List.set_cons_zero, List.set_cons_succ]
    refine tk 6 ⟨some 13, .load 3 (.tmp 12), 3, _, _, some (4, false)⟩ ?vq15 rfl (by kernel_rfl) (.inl ⟨by rfl, ?hq15⟩) ?rq15
    case hq15 => intro W hSw; (try obtain ⟨q0, q1, q2, q3, q4, q5, q6, p0, p1⟩ := HC.out W hSw); go_simp; (try with_reducible rfl)
    try simp only [Act.put, List.setIfInBounds_toArray, List.set_cons_zero, List.set_cons_succ]
    refine tk 7 ⟨some 14, .binOp .lss 3 (.tmp 13) (.const (.int .i64 0)) 3, 4, _, _, some (4, false)⟩ ?vq16 rfl (by kernel_rfl) (.inl ⟨by rfl, ?hq16⟩) ?rq16
    case hq16 => intro W hSw; (try obtain ⟨q0, q1, q2, q3, q4, q5, q6, p0, p1⟩ := HC.out W hSw); go_simp; (try with_reducible rfl)
    try simp only [Act.put, List.setIfInBounds_toArray, List.set_cons_zero, List.set_cons_succ]
    refine tk 8 ⟨some 15, .pick (.tmp 11) (.const (.bool true)) (.tmp 14), 4, _, _, none⟩ ?vq17 rfl (by kernel_rfl) (.inl ⟨by rfl, ?hq17⟩) ?rq17
    case hq17 => intro W hSw; go_simp; (try with_reducible rfl)
    try simp only [Act.put, List.setIfInBounds_toArray, List.set_cons_zero, List.set_cons_succ]
    refine tk 9 ⟨some 16, .move (.tmp 15), 4, _, _, none⟩ ?vq18 rfl (by kernel_rfl) (.inl ⟨by rfl, ?hq18⟩) ?rq18
    case hq18 => intro W hSw; go_simp; (try with_reducible rfl)
    try simp only [Act.put, List.setIfInBounds_toArray, List.set_cons_zero, List.set_cons_succ]
    refine tu 10 ⟨some 17, .fieldAddr 108 (.tmp 3) 1, 0, _, _, some (9, false)⟩ rfl (by kernel_rfl) (by rfl) ?_
    try simp only [Act.put, List.setIfInBounds_toArray, List.set_cons_zero, List.set_cons_succ]
    refine tu 11 ⟨some 18, .load 3 (.tmp 17), 3, _, _, some (9, false)⟩ rfl (by kernel_rfl) (by rfl) ?_
    try simp only [Act.put, List.setIfInBounds_toArray, List.set_cons_zero, List.set_cons_succ]
    refine tu 12 ⟨some 19, .move (.tmp 0), 122, _, _, some (9, false)⟩ rfl (by kernel_rfl) (by rfl) ?_
    try simp only [Act.put, List.setIfInBounds_toArray, List.set_cons_zero, List.set_cons_succ]
    refine tu 13 ⟨some 20, .nilCheck (.tmp 19), 0, _, _, some (9, false)⟩ rfl (by kernel_rfl) (by rfl) ?_
    try simp only [Act.put, List.setIfInBounds_toArray, List.set_cons_zero, List.set_cons_succ]
    refine tu 14 ⟨some 21, .fieldAddr 124 (.tmp 20) 0, 0, _, _, some (9, false)⟩ rfl (by kernel_rfl) (by rfl) ?_
    try simp only [Act.put, List.setIfInBounds_toArray, List.set_cons_zero, List.set_cons_succ]
    refine tu 15 ⟨some 22, .load 3 (.tmp 21), 3, _, _, some (9, false)⟩ rfl (by kernel_rfl) (by rfl) ?_
    try simp only [Act.put, List.setIfInBounds_toArray, List.set_cons_zero, List.set_cons_succ]
    refine tu 16 ⟨some 23, .call ⟨.value (.func 77), #[.tmp 18, .tmp 22], #[3, 3]⟩, 4, _, _, some (9, false)⟩ rfl (by kernel_rfl) (by rfl) ?_
    try simp only [Act.put, List.setIfInBounds_toArray, List.set_cons_zero, List.set_cons_succ]
    refine tu 17 ⟨some 24, .unOp .not 4 (.tmp 23), 4, _, _, some (9, false)⟩ rfl (by kernel_rfl) (by rfl) ?_
    try simp only [Act.put, List.setIfInBounds_toArray, List.set_cons_zero, List.set_cons_succ]
    refine tk 18 ⟨some 25, .pick (.tmp 16) (.const (.bool true)) (.tmp 24), 4, _, _, none⟩ ?vq19 rfl (by kernel_rfl) (.inl ⟨by rfl, ?hq19⟩) ?rq19
    case hq19 => intro W hSw; go_simp; (try with_reducible rfl)
    try simp only [Act.put, List.setIfInBounds_toArray, List.set_cons_zero, List.set_cons_succ]
    refine tk 19 ⟨some 26, .move (.tmp 25), 4, _, _, none⟩ ?vq20 rfl (by kernel_rfl) (.inl ⟨by rfl, ?hq20⟩) ?rq20
    case hq20 => intro W hSw; go_simp; (try with_reducible rfl)
    try simp only [Act.put, List.setIfInBounds_toArray, List.set_cons_zero, List.set_cons_succ]
    refine tu 20 ⟨some 27, .fieldAddr 108 (.tmp 3) 2, 0, _, _, some (19, false)⟩ rfl (by kernel_rfl) (by rfl) ?_
    try simp only [Act.put, List.setIfInBounds_toArray, List.set_cons_zero, List.set_cons_succ]
    refine tu 21 ⟨some 28, .load 106 (.tmp 27), 106, _, _, some (19, false)⟩ rfl (by kernel_rfl) (by rfl) ?_
    try simp only [Act.put, List.setIfInBounds_toArray, List.set_cons_zero, List.set_cons_succ]
    refine tu 22 ⟨some 29, .call ⟨.value (.func 149), #[.tmp 28], #[106]⟩, 4, _, _, some (19, false)⟩ rfl (by kernel_rfl) (by rfl) ?_
    try simp only [Act.put, List.setIfInBounds_toArray, List.set_cons_zero, List.set_cons_succ]
    refine tu 23 ⟨some 30, .unOp .not 4 (.tmp 29), 4, _, _, some (19, false)⟩ rfl (by kernel_rfl) (by rfl) ?_
    try simp only [Act.put, List.setIfInBounds_toArray, List.set_cons_zero, List.set_cons_succ]
    refine tk 24 ⟨some 31, .pick (.tmp 26) (.const (.bool true)) (.tmp 30), 4, _, _, none⟩ ?vq21 rfl (by kernel_rfl) (.inl ⟨by rfl, ?hq21⟩) ?rq21
    case hq21 => intro W hSw; go_simp; (try with_reducible rfl)
    try simp only [Act.put, List.setIfInBounds_toArray, List.set_cons_zero, List.set_cons_succ]
    refine wpAnyH_done (by kernel_rfl) ?_ _
    have Fh := Lib.hid hHeld
    clear hHeld
    go_wp2_with fail
    go_ret
    exact ⟨rfl, HSame.out _ (F1.out.trans Fh.out (fun _ h => h.elim)) (by trivial), (F1.out.trans Fh.out (fun _ h => h.elim)).mono (fun _ h => h.elim)⟩
  case neg =>
  have hd : decide (rs < 0) = false := decide_eq_false hst
  rw [decide_eq_true (show 0 ≤ rs by omega)] at Hrr
  cases ob with
  | false =>
    obtain rfl : rr = false := by rw [Hrr.out]; rfl
    go_wp2_with fail
    refine wp_region_held_drew (S := fun W => Fr (fun _ => False) W1 W) (by kernel_rfl) ((Fr.refl _ W1).drew) (fun hHeld => ?_)
    refine tk 0 ⟨some 7, .fieldAddr 108 (.tmp 3) 0, 0, _, _, none⟩ ?vq22 rfl (by kernel_rfl) (.inl ⟨by rfl, ?hq22⟩) ?rq22
    case hq22 => intro W hSw; go_simp; (try with_reducible rfl)
    try simp only [Act.put, List.setIfInBounds_toArray, List.set_cons_zero, List.set_cons_succ]
    refine tk 1 ⟨some 8, .load 9 (.tmp 7), 9, _, _, none⟩ ?vq23 rfl (by kernel_rfl) (.inl ⟨by rfl, ?hq23⟩) ?rq23
    case hq23 => intro W hSw; (try obtain ⟨q0, q1, q2, q3, q4, q5, q6, p0, p1⟩ := HC.out W hSw); go_simp; (try with_reducible rfl)
    try simp only [Act.put, List.setIfInBounds_toArray, List.set_cons_zero, List.set_cons_succ]
    refine wpAnyH_ready (rs := [2]) (by kernel_rfl) (by simp) ?_
    refine AllReadyH.cons (o := ⟨some 9, .call ⟨.value (.func 60), #[.tmp 8], #[9]⟩, 4, _, _, none⟩) rfl (fun K hK => ?_) AllReadyH.nil
    go_simp
    go_wp2_with (first | (go_at_call 60; refine (HNm.out _).mono ?_; rintro r wa ⟨rfl, rfl⟩))
    refine hK.out _ _ (hHeld) (fun hHeld => ?_)
    clear hK K
    try simp only [Act.put, List.setIfInBounds_toArray, List.set_cons_zero, List.set_cons_succ]
    refine tk 3 ⟨some 10, .unOp .not 4 (.tmp 9), 4, _, _, none⟩ ?vq24 rfl (by kernel_rfl) (.inl ⟨by rfl, ?hq24⟩) ?rq24
    case hq24 => intro W hSw; go_simp; (try with_reducible rfl)
    try simp only [Act.put, List.setIfInBounds_toArray, List.set_cons_zero, List.set_cons_succ]
    refine tk 4 ⟨some 11, .move (.tmp 10), 4, _, _, none⟩ ?vq25 rfl (by kernel_rfl) (.inl ⟨by rfl, ?hq25⟩) ?rq25
    case hq25 => intro W hSw; go_simp; (try with_reducible rfl)
    try simp only [Act.put, List.setIfInBounds_toArray, List.set_cons_zero, List.set_cons_succ]
    refine tk 5 ⟨some 12, .fieldAddr 108 (.tmp 3) 1, 0, _, _, some (4, false)⟩ ?vq26 rfl (by kernel_rfl) (.inl ⟨by rfl, ?hq26⟩) ?rq26
    case hq26 => intro W hSw; go_simp; (try with_reducible rfl)
    try simp only [Act.put, List.setIfInBounds_toArray, List.set_cons_zero, List.set_cons_succ]
    refine tk 6 ⟨some 13, .load 3 (.tmp 12), 3, _, _, some (4, false)⟩ ?vq27 rfl (by kernel_rfl) (.inl ⟨by rfl, ?hq27⟩) ?rq27
    case hq27 => intro W hSw; (try obtain ⟨q0, q1, q2, q3, q4, q5, q6, p0, p1⟩ := HC.out W hSw); go_simp; (try with_reducible rfl)
    try simp only [Act.put, List.setIfInBounds_toArray, List.set_cons_zero, List.set_cons_succ]
    refine tk 7 ⟨some 14, .binOp .lss 3 (.tmp 13) (.const (.int .i64 0)) 3, 4, _, _, some (4, false)⟩ ?vq28 rfl (by kernel_rfl) (.inl ⟨by rfl, ?hq28⟩) ?rq28
    case hq28 => intro W hSw; (try obtain ⟨q0, q1, q2, q3, q4, q5, q6, p0, p1⟩ := HC.out W hSw); go_simp; (try with_reducible rfl)
    try simp only [Act.put, List.setIfInBounds_toArray, List.set_cons_zero, List.set_cons_succ]
    refine tk 8 ⟨some 15, .pick (.tmp 11) (.const (.bool true)) (.tmp 14), 4, _, _, none⟩ ?vq29 rfl (by kernel_rfl) (.inl ⟨by rfl, ?hq29⟩) ?rq29
    case hq29 => intro W hSw; go_simp; (try with_reducible rfl)
    try simp only [Act.put, List.setIfInBounds_toArray, List.set_cons_zero, List.set_cons_succ]
    refine tk 9 ⟨some 16, .move (.tmp 15), 4, _, _, none⟩ ?vq30 rfl (by kernel_rfl) (.inl ⟨by rfl, ?hq30⟩) ?rq30
    case hq30 => intro W hSw; go_simp; (try with_reducible rfl)
    try simp only [Act.put, List.setIfInBounds_toArray, List.set_cons_zero, List.set_cons_succ]
    refine tk 10 ⟨some 17, .fieldAddr 108 (.tmp 3) 1, 0, _, _, some (9, false)⟩ ?vq31 rfl (by kernel_rfl) (.inl ⟨by rfl, ?hq31⟩) ?rq31
    case hq31 => intro W hSw; go_simp; (try with_reducible rfl)
    try simp only [Act.put, List.setIfInBounds_toArray, List.set_cons_zero, List.set_cons_succ]
    refine tk 11 ⟨some 18, .load 3 (.tmp 17), 3, _, _, some (9, false)⟩ ?vq32 rfl (by kernel_rfl) (.inl ⟨by rfl, ?hq32⟩) ?rq32
    case hq32 => intro W hSw; (try obtain ⟨q0, q1, q2, q3, q4, q5, q6, p0, p1⟩ := HC.out W hSw); go_simp; (try with_reducible rfl)
    try simp only [Act.put, List.setIfInBounds_toArray, List.set_cons_zero, List.set_cons_succ]
    refine tk 12 ⟨some 19, .move (.tmp 0), 122, _, _, some (9, false)⟩ ?vq33 rfl (by kernel_rfl) (.inl ⟨by rfl, ?hq33⟩) ?rq33
    case hq33 => intro W hSw; go_simp; (try with_reducible rfl)
    try simp only [Act.put, List.setIfInBounds_toArray, List.set_cons_zero, List.set_cons_succ]
    refine tk 13 ⟨some 20, .nilCheck (.tmp 19), 0, _, _, some (9, false)⟩ ?vq34 rfl (by kernel_rfl) (.inl ⟨by rfl, ?hq34⟩) ?rq34
    case hq34 => intro W hSw; go_simp; (try with_reducible rfl)
    try simp only [Act.put, List.setIfInBounds_toArray, List.set_cons_zero, List.set_cons_succ]
    refine tk 14 ⟨some 21, .fieldAddr 124 (.tmp 20) 0, 0, _, _, some (9, false)⟩ ?vq35 rfl (by kernel_rfl) (.inl ⟨by rfl, ?hq35⟩) ?rq35
    case hq35 => intro W hSw; go_simp; (try with_reducible rfl)
    try simp only [Act.put, List.setIfInBounds_toArray, List.set_cons_zero, List.set_cons_succ]
    refine tk 15 ⟨some 22, .load 3 (.tmp 21), 3, _, _, some (9, false)⟩ ?vq36 rfl (by kernel_rfl) (.inl ⟨by rfl, ?hq36⟩) ?rq36
    case hq36 => intro W hSw; (try obtain ⟨q0, q1, q2, q3, q4, q5, q6, p0, p1⟩ := HC.out W hSw); go_simp; (try with_reducible rfl)
    try simp only [Act.put, List.setIfInBounds_toArray, List.set_cons_zero, List.set_cons_succ]
    refine wpAnyH_ready (rs := [16]) (by kernel_rfl) (by simp) ?_
    refine AllReadyH.cons (o := ⟨some 23, .call ⟨.value (.func 77), #[.tmp 18, .tmp 22], #[3, 3]⟩, 4, _, _, some (9, false)⟩) rfl (fun K hK => ?_) AllReadyH.nil
    go_simp
    go_wp2_with (first | (go_at_call 77; refine (HOn.out _).mono ?_; rintro r wb ⟨rfl, rfl⟩))
    refine hK.out _ _ (hHeld) (fun hHeld => ?_)
    clear hK K
    try simp only [Act.put, List.setIfInBounds_toArray, List.set_cons_zero, List.set_cons_succ]
    refine tk 17 ⟨some 24, .unOp .not 4 (.tmp 23), 4, _, _, some (9, false)⟩ ?vq37 rfl (by kernel_rfl) (.inl ⟨by rfl, ?hq37⟩) ?rq37
    case hq37 => intro W hSw; go_simp; (try with_reducible rfl)
    try simp only [Act.put, List.setIfInBounds_toArray, List.set_cons_zero, List.set_cons_succ]
    refine tk 18 ⟨some 25, .pick (.tmp 16) (.const (.bool true)) (.tmp 24), 4, _, _, none⟩ ?vq38 rfl (by kernel_rfl) (.inl ⟨by rfl, ?hq38⟩) ?rq38
    case hq38 => intro W hSw; go_simp; (try with_reducible rfl)
    try simp only [Act.put, List.setIfInBounds_toArray, List.set_cons_zero, List.set_cons_succ]
    refine tk 19 ⟨some 26, .move (.tmp 25), 4, _, _, none⟩ ?vq39 rfl (by kernel_rfl) (.inl ⟨by rfl, ?hq39⟩) ?rq39
    case hq39 => intro W hSw; go_simp; (try with_reducible rfl)
    try simp only [Act.put, List.setIfInBounds_toArray, List.set_cons_zero, List.set_cons_succ]
    refine tu 20 ⟨some 27, .fieldAddr 108 (.tmp 3) 2, 0, _, _, some (19, false)⟩ rfl (by kernel_rfl) (by rfl) ?_
    try simp only [Act.put, List.setIfInBounds_toArray, List.set_cons_zero, List.set_cons_succ]
    refine tu 21 ⟨some 28, .load 106 (.tmp 27), 106, _, _, some (19, false)⟩ rfl (by kernel_rfl) (by rfl) ?_
    try simp only [Act.put, List.setIfInBounds_toArray, List.set_cons_zero, List.set_cons_succ]
    refine tu 22 ⟨some 29, .call ⟨.value (.func 149), #[.tmp 28], #[106]⟩, 4, _, _, some (19, false)⟩ rfl (by kernel_rfl) (by rfl) ?_
    try simp only [Act.put, List.setIfInBounds_toArray, List.set_cons_zero, List.set_cons_succ]
    refine tu 23 ⟨some 30, .unOp .not 4 (.tmp 29), 4, _, _, some (19, false)⟩ rfl (by kernel_rfl) (by rfl) ?_
    try simp only [Act.put, List.setIfInBounds_toArray, List.set_cons_zero, List.set_cons_succ]
    refine tk 24 ⟨some 31, .pick (.tmp 26) (.const (.bool true)) (.tmp 30), 4, _, _, none⟩ ?vq40 rfl (by kernel_rfl) (.inl ⟨by rfl, ?hq40⟩) ?rq40
    case hq40 => intro W hSw; go_simp; (try with_reducible rfl)
    try simp only [Act.put, List.setIfInBounds_toArray, List.set_cons_zero, List.set_cons_succ]
    refine wpAnyH_done (by kernel_rfl) ?_ _
    have Fh := Lib.hid hHeld
    clear hHeld
    go_wp2_with fail
    go_ret
    exact ⟨rfl, HSame.out _ (F1.out.trans Fh.out (fun _ h => h.elim)) (by trivial), (F1.out.trans Fh.out (fun _ h => h.elim)).mono (fun _ h => h.elim)⟩
  | true =>
  cases ab with
  | false =>
    obtain rfl : rr = false := by rw [Hrr.out]; rfl
    go_wp2_with fail
    refine wp_region_held_drew (S := fun W => Fr (fun _ => False) W1 W) (by kernel_rfl) ((Fr.refl _ W1).drew) (fun hHeld => ?_)
    refine tk 0 ⟨some 7, .fieldAddr 108 (.tmp 3) 0, 0, _, _, none⟩ ?vq41 rfl (by kernel_rfl) (.inl ⟨by rfl, ?hq41⟩) ?rq41
    case hq41 => intro W hSw; go_simp; (try with_reducible rfl)
    try simp only [Act.put, List.setIfInBounds_toArray, List.set_cons_zero, List.set_cons_succ]
    refine tk 1 ⟨some 8, .load 9 (.tmp 7), 9, _, _, none⟩ ?vq42 rfl (by kernel_rfl) (.inl ⟨by rfl, ?hq42⟩) ?rq42
    case hq42 => intro W hSw; (try obtain ⟨q0, q1, q2, q3, q4, q5, q6, p0, p1⟩ := HC.out W hSw); go_simp; (try with_reducible rfl)
    try simp only [Act.put, List.setIfInBounds_toArray, List.set_cons_zero, List.set_cons_succ]
    refine wpAnyH_ready (rs := [2]) (by kernel_rfl) (by simp) ?_
    refine AllReadyH.cons (o := ⟨some 9, .call ⟨.value (.func 60), #[.tmp 8], #[9]⟩, 4, _, _, none⟩) rfl (fun K hK => ?_) AllReadyH.nil
    go_simp
    go_wp2_with (first | (go_at_call 60; refine (HNm.out _).mono ?_; rintro r wa ⟨rfl, rfl⟩))
    refine hK.out _ _ (hHeld) (fun hHeld => ?_)
    clear hK K
    try simp only [Act.put, List.setIfInBounds_toArray, List.set_cons_zero, List.set_cons_succ]
    refine tk 3 ⟨some 10, .unOp .not 4 (.tmp 9), 4, _, _, none⟩ ?vq43 rfl (by kernel_rfl) (.inl ⟨by rfl, ?hq43⟩) ?rq43
    case hq43 => intro W hSw; go_simp; (try with_reducible rfl)
    try simp only [Act.put, List.setIfInBounds_toArray, List.set_cons_zero, List.set_cons_succ]
    refine tk 4 ⟨some 11, .move (.tmp 10), 4, _, _, none⟩ ?vq44 rfl (by kernel_rfl) (.inl ⟨by rfl, ?hq44⟩) ?rq44
    case hq44 => intro W hSw; go_simp; (try with_reducible rfl)
    try simp only [Act.put, List.setIfInBounds_toArray, List.set_cons_zero, List.set_cons_succ]
    refine tk 5 ⟨some 12, .fieldAddr 108 (.tmp 3) 1, 0, _, _, some (4, false)⟩ ?vq45 rfl (by kernel_rfl) (.inl ⟨by rfl, ?hq45⟩) ?rq45
    case hq45 => intro W hSw; go_simp; (try with_reducible rfl)
    try simp only [Act.put, List.setIfInBounds_toArray, List.set_cons_zero, List.set_cons_succ]
    refine tk 6 ⟨some 13, .load 3 (.tmp 12), 3, _, _, some (4, false)⟩ ?vq46 rfl (by kernel_rfl) (.inl ⟨by rfl, ?hq46⟩) ?rq46
    case hq46 => intro W hSw; (try obtain ⟨q0, q1, q2, q3, q4, q5, q6, p0, p1⟩ := HC.out W hSw); go_simp; (try with_reducible rfl)
    try simp only [Act.put, List.setIfInBounds_toArray, List.set_cons_zero, List.set_cons_succ]
    refine tk 7 ⟨some 14, .binOp .lss 3 (.tmp 13) (.const (.int .i64 0)) 3, 4, _, _, some (4, false)⟩ ?vq47 rfl (by kernel_rfl) (.inl ⟨by rfl, ?hq47⟩) ?rq47
    case hq47 => intro W hSw; (try obtain ⟨q0, q1, q2, q3, q4, q5, q6, p0, p1⟩ := HC.out W hSw); go_simp; (try with_reducible rfl)
    try simp only [Act.put, List.setIfInBounds_toArray, List.set_cons_zero, List.set_cons_succ]
    refine tk 8 ⟨some 15, .pick (.tmp 11) (.const (.bool true)) (.tmp 14), 4, _, _, none⟩ ?vq48 rfl (by kernel_rfl) (.inl ⟨by rfl, ?hq48⟩) ?rq48
    case hq48 => intro W hSw; go_simp; (try with_reducible rfl)
    try simp only [Act.put, List.setIfInBounds_toArray, List.set_cons_zero, List.set_cons_succ]
    refine tk 9 ⟨some 16, .move (.tmp 15), 4, _, _, none⟩ ?vq49 rfl (by kernel_rfl) (.inl ⟨by rfl, ?hq49⟩) ?rq49
    case hq49 => intro W hSw; go_simp; (try with_reducible rfl)
    try simp only [Act.put, List.setIfInBounds_toArray, List.set_cons_zero, List.set_cons_succ]
    refine tk 10 ⟨some 17, .fieldAddr 108 (.tmp 3) 1, 0, _, _, some (9, false)⟩ ?vq50 rfl (by kernel_rfl) (.inl ⟨by rfl, ?hq50⟩) ?rq50
    case hq50 => intro W hSw; go_simp; (try with_reducible rfl)
    try simp only [Act.put, List.setIfInBounds_toArray, List.set_cons_zero, List.set_cons_succ]
    refine tk 11 ⟨some 18, .load 3 (.tmp 17), 3, _, _, some (9, false)⟩ ?vq51 rfl (by kernel_rfl) (.inl ⟨by rfl, ?hq51⟩) ?rq51
    case hq51 => intro W hSw; (try obtain ⟨q0, q1, q2, q3, q4, q5, q6, p0, p1⟩ := HC.out W hSw); go_simp; (try with_reducible rfl)
    try simp only [Act.put, List.setIfInBounds_toArray, List.set_cons_zero, List.set_cons_succ]
    refine tk 12 ⟨some 19, .move (.tmp 0), 122, _, _, some (9, false)⟩ ?vq52 rfl (by kernel_rfl) (.inl ⟨by rfl, ?hq52⟩) ?rq52
    case hq52 => intro W hSw; go_simp; (try with_reducible rfl)
    try simp only [Act.put, List.setIfInBounds_toArray, List.set_cons_zero, List.set_cons_succ]
    refine tk 13 ⟨some 20, .nilCheck (.tmp 19), 0, _, _, some (9, false)⟩ ?vq53 rfl (by kernel_rfl) (.inl ⟨by rfl, ?hq53⟩) ?rq53
    case hq53 => intro W hSw; go_simp; (try with_reducible rfl)
    try simp only [Act.put, List.setIfInBounds_toArray, List.set_cons_zero, List.set_cons_succ]
    refine tk 14 ⟨some 21, .fieldAddr 124 (.tmp 20) 0, 0, _, _, some (9, false)⟩ ?vq54 rfl (by kernel_rfl) (.inl ⟨by rfl, ?hq54⟩) ?rq54
    case hq54 => intro W hSw; go_simp; (try with_reducible rfl)
    try simp only [Act.put, List.setIfInBounds_toArray, List.set_cons_zero, List.set_cons_succ]
    refine tk 15 ⟨some 22, .load 3 (.tmp 21), 3, _, _, some (9, false)⟩ ?vq55 rfl (by kernel_rfl) (.inl ⟨by rfl, ?hq55⟩) ?rq55
    case hq55 => intro W hSw; (try obtain ⟨q0, q1, q2, q3, q4, q5, q6, p0, p1⟩ := HC.out W hSw); go_simp; (try with_reducible rfl)
    try simp only [Act.put, List.setIfInBounds_toArray, List.set_cons_zero, List.set_cons_succ]
    refine wpAnyH_ready (rs := [16]) (by kernel_rfl) (by simp) ?_
    refine AllReadyH.cons (o := ⟨some 23, .call ⟨.value (.func 77), #[.tmp 18, .tmp 22], #[3, 3]⟩, 4, _, _, some (9, false)⟩) rfl (fun K hK => ?_) AllReadyH.nil
    go_simp
    go_wp2_with (first | (go_at_call 77; refine (HOn.out _).mono ?_; rintro r wb ⟨rfl, rfl⟩))
    refine hK.out _ _ (hHeld) (fun hHeld => ?_)
    clear hK K
    try simp only [Act.put, List.setIfInBounds_toArray, List.set_cons_zero, List.set_cons_succ]
    refine tk 17 ⟨some 24, .unOp .not 4 (.tmp 23), 4, _, _, some (9, false)⟩ ?vq56 rfl (by kernel_rfl) (.inl ⟨by rfl, ?hq56⟩) ?rq56
    case hq56 => intro W hSw; go_simp; (try with_reducible rfl)
    try simp only [Act.put, List.setIfInBounds_toArray, List.set_cons_zero, List.set_cons_succ]
    refine tk 18 ⟨some 25, .pick (.tmp 16) (.const (.bool true)) (.tmp 24), 4, _, _, none⟩ ?vq57 rfl (by kernel_rfl) (.inl ⟨by rfl, ?hq57⟩) ?rq57
    case hq57 => intro W hSw; go_simp; (try with_reducible rfl)
    try simp only [Act.put, List.setIfInBounds_toArray, List.set_cons_zero, List.set_cons_succ]
    refine tk 19 ⟨some 26, .move (.tmp 25), 4, _, _, none⟩ ?vq58 rfl (by kernel_rfl) (.inl ⟨by rfl, ?hq58⟩) ?rq58
    case hq58 => intro W hSw; go_simp; (try with_reducible rfl)
    try simp only [Act.put, List.setIfInBounds_toArray, List.set_cons_zero, List.set_cons_succ]
    refine tk 20 ⟨some 27, .fieldAddr 108 (.tmp 3) 2, 0, _, _, some (19, false)⟩ ?vq59 rfl (by kernel_rfl) (.inl ⟨by rfl, ?hq59⟩) ?rq59
    case hq59 => intro W hSw; go_simp; (try with_reducible rfl)
    try simp only [Act.put, List.setIfInBounds_toArray, List.set_cons_zero, List.set_cons_succ]
    refine tk 21 ⟨some 28, .load 106 (.tmp 27), 106, _, _, some (19, false)⟩ ?vq60 rfl (by kernel_rfl) (.inl ⟨by rfl, ?hq60⟩) ?rq60
    case hq60 => intro W hSw; (try obtain ⟨q0, q1, q2, q3, q4, q5, q6, p0, p1⟩ := HC.out W hSw); go_simp; (try with_reducible rfl)
    try simp only [Act.put, List.setIfInBounds_toArray, List.set_cons_zero, List.set_cons_succ]
    refine wpAnyH_ready (rs := [22]) (by kernel_rfl) (by simp) ?_
    refine AllReadyH.cons (o := ⟨some 29, .call ⟨.value (.func 149), #[.tmp 28], #[106]⟩, 4, _, _, some (19, false)⟩) rfl (fun K hK => ?_) AllReadyH.nil
    go_simp
    go_wp2_with (first | (go_at_call 149; refine (HVa.out _).mono ?_; rintro r wc ⟨rfl, bc⟩))
    refine hK.out _ _ (hHeld.trans (Fr.b0 bc) (fun _ h => h.elim)) (fun hHeld => ?_)
    clear hK K
    try simp only [Act.put, List.setIfInBounds_toArray, List.set_cons_zero, List.set_cons_succ]
    refine tk 23 ⟨some 30, .unOp .not 4 (.tmp 29), 4, _, _, some (19, false)⟩ ?vq61 rfl (by kernel_rfl) (.inl ⟨by rfl, ?hq61⟩) ?rq61
    case hq61 => intro W hSw; go_simp; (try with_reducible rfl)
    try simp only [Act.put, List.setIfInBounds_toArray, List.set_cons_zero, List.set_cons_succ]
    refine tk 24 ⟨some 31, .pick (.tmp 26) (.const (.bool true)) (.tmp 30), 4, _, _, none⟩ ?vq62 rfl (by kernel_rfl) (.inl ⟨by rfl, ?hq62⟩) ?rq62
    case hq62 => intro W hSw; go_simp; (try with_reducible rfl)
    try simp only [Act.put, List.setIfInBounds_toArray, List.set_cons_zero, List.set_cons_succ]
    refine wpAnyH_done (by kernel_rfl) ?_ _
    have Fh := Lib.hid hHeld
    clear hHeld
    go_wp2_with fail
    go_ret
    exact ⟨rfl, HSame.out _ (F1.out.trans Fh.out (fun _ h => h.elim)) (by trivial), (F1.out.trans Fh.out (fun _ h => h.elim)).mono (fun _ h => h.elim)⟩
  | true =>
  obtain rfl : rr = true := by rw [Hrr.out]; rfl
  have HIn := Lib.hid (HIn.out rfl)
  clear HSame Hrr HSm0 HrR
  go_wp2_with fail
  refine wp_region_held_drew (S := fun W => Fr (fun _ => False) W1 W) (by kernel_rfl) ((Fr.refl _ W1).drew) (fun hHeld => ?_)
  refine tk 0 ⟨some 7, .fieldAddr 108 (.tmp 3) 0, 0, _, _, none⟩ ?vq63 rfl (by kernel_rfl) (.inl ⟨by rfl, ?hq63⟩) ?rq63
  case hq63 => intro W hSw; go_simp; (try with_reducible rfl)
  try simp only [Act.put, List.setIfInBounds_toArray, List.set_cons_zero, List.set_cons_succ]
  refine tk 1 ⟨some 8, .load 9 (.tmp 7), 9, _, _, none⟩ ?vq64 rfl (by kernel_rfl) (.inl ⟨by rfl, ?hq64⟩) ?rq64
  case hq64 => intro W hSw; (try obtain ⟨q0, q1, q2, q3, q4, q5, q6, p0, p1⟩ := HC.out W hSw); go_simp; (try with_reducible rfl)
  try simp only [Act.put, List.setIfInBounds_toArray, List.set_cons_zero, List.set_cons_succ]
  refine wpAnyH_ready (rs := [2]) (by kernel_rfl) (by simp) ?_
  refine AllReadyH.cons (o := ⟨some 9, .call ⟨.value (.func 60), #[.tmp 8], #[9]⟩, 4, _, _, none⟩) rfl (fun K hK => ?_) AllReadyH.nil
  go_simp
  go_wp2_with (first | (go_at_call 60; refine (HNm.out _).mono ?_; rintro r wa ⟨rfl, rfl⟩))
  refine hK.out _ _ (hHeld) (fun hHeld => ?_)
  clear hK K
  try simp only [Act.put, List.setIfInBounds_toArray, List.set_cons_zero, List.set_cons_succ]
  refine tk 3 ⟨some 10, .unOp .not 4 (.tmp 9), 4, _, _, none⟩ ?vq65 rfl (by kernel_rfl) (.inl ⟨by rfl, ?hq65⟩) ?rq65
  case hq65 => intro W hSw; go_simp; (try with_reducible rfl)
  try simp only [Act.put, List.setIfInBounds_toArray, List.set_cons_zero, List.set_cons_succ]
  refine tk 4 ⟨some 11, .move (.tmp 10), 4, _, _, none⟩ ?vq66 rfl (by kernel_rfl) (.inl ⟨by rfl, ?hq66⟩) ?rq66
  case hq66 => intro W hSw; go_simp; (try with_reducible rfl)
  try simp only [Act.put, List.setIfInBounds_toArray, List.set_cons_zero, List.set_cons_succ]
  refine tk 5 ⟨some 12, .fieldAddr 108 (.tmp 3) 1, 0, _, _, some (4, false)⟩ ?vq67 rfl (by kernel_rfl) (.inl ⟨by rfl, ?hq67⟩) ?rq67
  case hq67 => intro W hSw; go_simp; (try with_reducible rfl)
  try simp only [Act.put, List.setIfInBounds_toArray, List.set_cons_zero, List.set_cons_succ]
  refine tk 6 ⟨some 13, .load 3 (.tmp 12), 3, _, _, some (4, false)⟩ ?vq68 rfl (by kernel_rfl) (.inl ⟨by rfl, ?hq68⟩) ?rq68
  case hq68 => intro W hSw; (try obtain ⟨q0, q1, q2, q3, q4, q5, q6, p0, p1⟩ := HC.out W hSw); go_simp; (try with_reducible rfl)
  try simp only [Act.put, List.setIfInBounds_toArray, List.set_cons_zero, List.set_cons_succ]
  refine tk 7 ⟨some 14, .binOp .lss 3 (.tmp 13) (.const (.int .i64 0)) 3, 4, _, _, some (4, false)⟩ ?vq69 rfl (by kernel_rfl) (.inl ⟨by rfl, ?hq69⟩) ?rq69
  case hq69 => intro W hSw; (try obtain ⟨q0, q1, q2, q3, q4, q5, q6, p0, p1⟩ := HC.out W hSw); go_simp; (try with_reducible rfl)
  try simp only [Act.put, List.setIfInBounds_toArray, List.set_cons_zero, List.set_cons_succ]
  refine tk 8 ⟨some 15, .pick (.tmp 11) (.const (.bool true)) (.tmp 14), 4, _, _, none⟩ ?vq70 rfl (by kernel_rfl) (.inl ⟨by rfl, ?hq70⟩) ?rq70
  case hq70 => intro W hSw; go_simp; (try with_reducible rfl)
  try simp only [Act.put, List.setIfInBounds_toArray, List.set_cons_zero, List.set_cons_succ]
  refine tk 9 ⟨some 16, .move (.tmp 15), 4, _, _, none⟩ ?vq71 rfl (by kernel_rfl) (.inl ⟨by rfl, ?hq71⟩) ?rq71
  case hq71 => intro W hSw; go_simp; (try with_reducible rfl)
  try simp only [Act.put, List.setIfInBounds_toArray, List.set_cons_zero, List.set_cons_succ]
  refine tk 10 ⟨some 17, .fieldAddr 108 (.tmp 3) 1, 0, _, _, some (9, false)⟩ ?vq72 rfl (by kernel_rfl) (.inl ⟨by rfl, ?hq72⟩) ?rq72
  case hq72 => intro W hSw; go_simp; (try with_reducible rfl)
  try simp only [Act.put, List.setIfInBounds_toArray, List.set_cons_zero, List.set_cons_succ]
  refine tk 11 ⟨some 18, .load 3 (.tmp 17), 3, _, _, some (9, false)⟩ ?vq73 rfl (by kernel_rfl) (.inl ⟨by rfl, ?hq73⟩) ?rq73
  case hq73 => intro W hSw; (try obtain ⟨q0, q1, q2, q3, q4, q5, q6, p0, p1⟩ := HC.out W hSw); go_simp; (try with_reducible rfl)
  try simp only [Act.put, List.setIfInBounds_toArray, List.set_cons_zero, List.set_cons_succ]
  refine tk 12 ⟨some 19, .move (.tmp 0), 122, _, _, some (9, false)⟩ ?vq74 rfl (by kernel_rfl) (.inl ⟨by rfl, ?hq74⟩) ?rq74
  case hq74 => intro W hSw; go_simp; (try with_reducible rfl)
  try simp only [Act.put, List.setIfInBounds_toArray, List.set_cons_zero, List.set_cons_succ]
  refine tk 13 ⟨some 20, .nilCheck (.tmp 19), 0, _, _, some (9, false)⟩ ?vq75 rfl (by kernel_rfl) (.inl ⟨by rfl, ?hq75⟩) ?rq75
  case hq75 => intro W hSw; go_simp; (try with_reducible rfl)
  try simp only [Act.put, List.setIfInBounds_toArray, List.set_cons_zero, List.set_cons_succ]
  refine tk 14 ⟨some 21, .fieldAddr 124 (.tmp 20) 0, 0, _, _, some (9, false)⟩ ?vq76 rfl (by kernel_rfl) (.inl ⟨by rfl, ?hq76⟩) ?rq76
  case hq76 => intro W hSw; go_simp; (try with_reducible rfl)
  try simp only [Act.put, List.setIfInBounds_toArray, List.set_cons_zero, List.set_cons_succ]
  refine tk 15 ⟨some 22, .load 3 (.tmp 21), 3, _, _, some (9, false)⟩ ?vq77 rfl (by kernel_rfl) (.inl ⟨by rfl, ?hq77⟩) ?rq77
  case hq77 => intro W hSw; (try obtain ⟨q0, q1, q2, q3, q4, q5, q6, p0, p1⟩ := HC.out W hSw); go_simp; (try with_reducible rfl)
  try simp only [Act.put, List.setIfInBounds_toArray, List.set_cons_zero, List.set_cons_succ]
  refine wpAnyH_ready (rs := [16]) (by kernel_rfl) (by simp) ?_
  refine AllReadyH.cons (o := ⟨some 23, .call ⟨.value (.func 77), #[.tmp 18, .tmp 22], #[3, 3]⟩, 4, _, _, some (9, false)⟩) rfl (fun K hK => ?_) AllReadyH.nil
  go_simp
  go_wp2_with (first | (go_at_call 77; refine (HOn.out _).mono ?_; rintro r wb ⟨rfl, rfl⟩))
  refine hK.out _ _ (hHeld) (fun hHeld => ?_)
  clear hK K
  try simp only [Act.put, List.setIfInBounds_toArray, List.set_cons_zero, List.set_cons_succ]
  refine tk 17 ⟨some 24, .unOp .not 4 (.tmp 23), 4, _, _, some (9, false)⟩ ?vq78 rfl (by kernel_rfl) (.inl ⟨by rfl, ?hq78⟩) ?rq78
  case hq78 => intro W hSw; go_simp; (try with_reducible rfl)
  try simp only [Act.put, List.setIfInBounds_toArray, List.set_cons_zero, List.set_cons_succ]
  refine tk 18 ⟨some 25, .pick (.tmp 16) (.const (.bool true)) (.tmp 24), 4, _, _, none⟩ ?vq79 rfl (by kernel_rfl) (.inl ⟨by rfl, ?hq79⟩) ?rq79
  case hq79 => intro W hSw; go_simp; (try with_reducible rfl)
  try simp only [Act.put, List.setIfInBounds_toArray, List.set_cons_zero, List.set_cons_succ]
  refine tk 19 ⟨some 26, .move (.tmp 25), 4, _, _, none⟩ ?vq80 rfl (by kernel_rfl) (.inl ⟨by rfl, ?hq80⟩) ?rq80
  case hq80 => intro W hSw; go_simp; (try with_reducible rfl)
  try simp only [Act.put, List.setIfInBounds_toArray, List.set_cons_zero, List.set_cons_succ]
  refine tk 20 ⟨some 27, .fieldAddr 108 (.tmp 3) 2, 0, _, _, some (19, false)⟩ ?vq81 rfl (by kernel_rfl) (.inl ⟨by rfl, ?hq81⟩) ?rq81
  case hq81 => intro W hSw; go_simp; (try with_reducible rfl)
  try simp only [Act.put, List.setIfInBounds_toArray, List.set_cons_zero, List.set_cons_succ]
  refine tk 21 ⟨some 28, .load 106 (.tmp 27), 106, _, _, some (19, false)⟩ ?vq82 rfl (by kernel_rfl) (.inl ⟨by rfl, ?hq82⟩) ?rq82
  case hq82 => intro W hSw; (try obtain ⟨q0, q1, q2, q3, q4, q5, q6, p0, p1⟩ := HC.out W hSw); go_simp; (try with_reducible rfl)
  try simp only [Act.put, List.setIfInBounds_toArray, List.set_cons_zero, List.set_cons_succ]
  refine wpAnyH_ready (rs := [22]) (by kernel_rfl) (by simp) ?_
  refine AllReadyH.cons (o := ⟨some 29, .call ⟨.value (.func 149), #[.tmp 28], #[106]⟩, 4, _, _, some (19, false)⟩) rfl (fun K hK => ?_) AllReadyH.nil
  go_simp
  go_wp2_with (first | (go_at_call 149; refine (HVa.out _).mono ?_; rintro r wc ⟨rfl, bc⟩))
  refine hK.out _ _ (hHeld.trans (Fr.b0 bc) (fun _ h => h.elim)) (fun hHeld => ?_)
  clear hK K
  try simp only [Act.put, List.setIfInBounds_toArray, List.set_cons_zero, List.set_cons_succ]
  refine tk 23 ⟨some 30, .unOp .not 4 (.tmp 29), 4, _, _, some (19, false)⟩ ?vq83 rfl (by kernel_rfl) (.inl ⟨by rfl, ?hq83⟩) ?rq83
  case hq83 => intro W hSw; go_simp; (try with_reducible rfl)
  try simp only [Act.put, List.setIfInBounds_toArray, List.set_cons_zero, List.set_cons_succ]
  refine tk 24 ⟨some 31, .pick (.tmp 26) (.const (.bool true)) (.tmp 30), 4, _, _, none⟩ ?vq84 rfl (by kernel_rfl) (.inl ⟨by rfl, ?hq84⟩) ?rq84
  case hq84 => intro W hSw; go_simp; (try with_reducible rfl)
  try simp only [Act.put, List.setIfInBounds_toArray, List.set_cons_zero, List.set_cons_succ]
  refine wpAnyH_done (by kernel_rfl) ?_ _
  have Fh := Lib.hid hHeld
  clear hHeld bc hd hst HNm HOn HVa
  go_upto_block 0 with fail
  obtain ⟨r, hr⟩ : ∃ r : RecV, (⟨rn, rs, ⟨r1, r2, r3, r4, r5⟩⟩ : RecV) = r := ⟨_, rfl⟩
  have Hr := Lib.hid hr
  rw [hr] at HIn Hrw
  clear hr
  go_cut [5] (fun s5 wx => ∃ (k : Nat) (W2 : World), W2 = wx ∧ k ≤ n ∧ s5 = .int .i64 k ∧ ((∀ j, j < k → ∀ x, l[j]? = some x → klt x r) ∧ ∀ x, l[k]? = some x → ¬ klt x r) ∧ Fr (fun _ => False) W1 wx)
  case first =>
    go_wp2_with fail
    go_loopw [5] (fun s5 wr => ∃ k : Nat, k ≤ n ∧ s5 = .int .i64 k ∧ (∀ j, j < k → ∀ x, l[j]? = some x → klt x r) ∧ Fr (fun _ => False) W1 wr) (fun s5 _ => n - (intOf s5).toNat)
    case atStart => exact ⟨0, Nat.zero_le _, rfl, fun j hj => absurd hj (Nat.not_lt_zero _), Fh.out⟩
    case round =>
      obtain ⟨k, hk, rfl, hall, fk⟩ := hrel
      have Fk := Lib.hid fk
      have Hall := Lib.hid hall
      clear fk hall
      by_cases hlt : k < n
      · have hkd : decide ((k : Int) < (n : Int)) = true := decide_eq_true (by omega)
        have hkd2 : decide (k < n) = true := decide_eq_true hlt
        have hkI : 0 ≤ (k : Int) ∧ (k : Int) < (n : Int) := by omega
        have hkw : IntKind.i64.wrap ((k : Int) + 1) = (k : Int) + 1 := by simp [IntKind.wrap, IntKind.signed, IntKind.bits]; omega
        obtain ⟨ad, x, rfl, hx, d0, d1, d2, d3, d4, d5, d6⟩ := (HRd.out _ Fk.out).rec_ hlt
        have HLs : Hid (∀ W, Calls Tryz.prog 150 #[.agg #[.string x.name, .int .i64 x.start, .int .i64 x.agg.count, .int .i64 x.agg.hi, .int .u64 x.agg.lo, .int .i64 x.agg.min, .int .i64 x.agg.max], .agg #[.string rn, .int .i64 rs, .int .i64 r1, .int .i64 r2, .int .u64 r3, .int .i64 r4, .int .i64 r5]] W fun r' w' => r' = .returned (.bool (decide (klt x r))) ∧ Below W.heap.size W w') := fun W => by
          rw [← Hr.out]
          exact rless_any x ⟨rn, rs, ⟨r1, r2, r3, r4, r5⟩⟩ W
        have Hx := Lib.hid hx
        obtain ⟨kb, hkb⟩ : ∃ b, decide (klt x r) = b := ⟨_, rfl⟩
        rw [hkb] at HLs
        have Hkb := Lib.hid hkb
        have HCx : Hid (∀ W, Fr (fun _ => False) wr W → W.cell? (ad.add (k * 7)) = some (.string x.name) ∧ W.cell? ⟨(ad.add (k * 7)).block, (ad.add (k * 7)).off + 1, none⟩ = some (.int .i64 x.start) ∧ W.cell? ⟨(ad.add (k * 7)).block, (ad.add (k * 7)).off + 2, none⟩ = some (.int .i64 x.agg.count) ∧ W.cell? ⟨(ad.add (k * 7)).block, (ad.add (k * 7)).off + 3, none⟩ = some (.int .i64 x.agg.hi) ∧ W.cell? ⟨(ad.add (k * 7)).block, (ad.add (k * 7)).off + 4, none⟩ = some (.int .u64 x.agg.lo) ∧ W.cell? ⟨(ad.add (k * 7)).block, (ad.add (k * 7)).off + 5, none⟩ = some (.int .i64 x.agg.min) ∧ W.cell? ⟨(ad.add (k * 7)).block, (ad.add (k * 7)).off + 6, none⟩ = some (.int .i64 x.agg.max)) := fun W f =>
          ⟨f.cell d0 (fun h => h), f.cell d1 (fun h => h), f.cell d2 (fun h => h), f.cell d3 (fun h => h), f.cell d4 (fun h => h), f.cell d5 (fun h => h), f.cell d6 (fun h => h)⟩
        have HCq := Lib.hid (fun W (f : Fr (fun _ => False) wr W) => HC.out W (Fk.out.trans f (fun _ h => h.elim)))
        clear hx hkb d0 d1 d2 d3 d4 d5 d6
        go_wp2_with fail
        refine wp_region_held_drew (S := fun W => Fr (fun _ => False) wr W) (by kernel_rfl) ((Fr.refl _ wr).drew) (fun hHeld => ?_)
        refine tk 0 ⟨some 32, .move (.tmp 5), 3, _, _, none⟩ ?vq85 rfl (by kernel_rfl) (.inl ⟨by rfl, ?hq85⟩) ?rq85
        case hq85 => intro W hSw; go_simp; (try with_reducible rfl)
        try simp only [Act.put, List.setIfInBounds_toArray, List.set_cons_zero, List.set_cons_succ]
        refine tk 1 ⟨some 33, .move (.tmp 0), 122, _, _, none⟩ ?vq86 rfl (by kernel_rfl) (.inl ⟨by rfl, ?hq86⟩) ?rq86
        case hq86 => intro W hSw; go_simp; (try with_reducible rfl)
        try simp only [Act.put, List.setIfInBounds_toArray, List.set_cons_zero, List.set_cons_succ]
        refine tk 2 ⟨some 34, .nilCheck (.tmp 33), 0, _, _, none⟩ ?vq87 rfl (by kernel_rfl) (.inl ⟨by rfl, ?hq87⟩) ?rq87
        case hq87 => intro W hSw; go_simp; (try with_reducible rfl)
        try simp only [Act.put, List.setIfInBounds_toArray, List.set_cons_zero, List.set_cons_succ]
        refine tk 3 ⟨some 35, .fieldAddr 124 (.tmp 34) 1, 0, _, _, none⟩ ?vq88 rfl (by kernel_rfl) (.inl ⟨by rfl, ?hq88⟩) ?rq88
        case hq88 => intro W hSw; go_simp; (try with_reducible rfl)
        try simp only [Act.put, List.setIfInBounds_toArray, List.set_cons_zero, List.set_cons_succ]
        refine tk 4 ⟨some 36, .load 34 (.tmp 35), 34, _, _, none⟩ ?vq89 rfl (by kernel_rfl) (.inl ⟨by rfl, ?hq89⟩) ?rq89
        case hq89 => intro W hSw; (try obtain ⟨q0, q1, q2, q3, q4, q5, q6, p0, p1⟩ := HCq.out W hSw; obtain ⟨x0, x1, x2, x3, x4, x5, x6⟩ := HCx.out W hSw); go_simp; (try with_reducible rfl)
        try simp only [Act.put, List.setIfInBounds_toArray, List.set_cons_zero, List.set_cons_succ]
        refine tk 5 ⟨some 37, .call ⟨.builtin .len, #[.tmp 36], #[34]⟩, 3, _, _, none⟩ ?vq90 rfl (by kernel_rfl) (.inl ⟨by rfl, ?hq90⟩) ?rq90
        case hq90 => intro W hSw; (try obtain ⟨q0, q1, q2, q3, q4, q5, q6, p0, p1⟩ := HCq.out W hSw; obtain ⟨x0, x1, x2, x3, x4, x5, x6⟩ := HCx.out W hSw); go_simp; (try with_reducible rfl)
        try simp only [Act.put, List.setIfInBounds_toArray, List.set_cons_zero, List.set_cons_succ]
        refine tk 6 ⟨some 38, .binOp .lss 3 (.tmp 32) (.tmp 37) 3, 4, _, _, none⟩ ?vq91 rfl (by kernel_rfl) (.inl ⟨by rfl, ?hq91⟩) ?rq91
        case hq91 => intro W hSw; (try obtain ⟨q0, q1, q2, q3, q4, q5, q6, p0, p1⟩ := HCq.out W hSw; obtain ⟨x0, x1, x2, x3, x4, x5, x6⟩ := HCx.out W hSw); go_simp; (try with_reducible rfl)
        try simp only [Act.put, List.setIfInBounds_toArray, List.set_cons_zero, List.set_cons_succ]
        refine tk 7 ⟨some 39, .move (.tmp 38), 4, _, _, none⟩ ?vq92 rfl (by kernel_rfl) (.inl ⟨by rfl, ?hq92⟩) ?rq92
        case hq92 => intro W hSw; go_simp; (try with_reducible rfl)
        try simp only [Act.put, List.setIfInBounds_toArray, List.set_cons_zero, List.set_cons_succ]
        refine tk 8 ⟨some 40, .move (.tmp 0), 122, _, _, some (7, true)⟩ ?vq93 rfl (by kernel_rfl) (.inl ⟨by rfl, ?hq93⟩) ?rq93
        case hq93 => intro W hSw; go_simp; (try with_reducible rfl)
        try simp only [Act.put, List.setIfInBounds_toArray, List.set_cons_zero, List.set_cons_succ]
        refine tk 9 ⟨some 41, .nilCheck (.tmp 40), 0, _, _, some (7, true)⟩ ?vq94 rfl (by kernel_rfl) (.inl ⟨by rfl, ?hq94⟩) ?rq94
        case hq94 => intro W hSw; go_simp; (try with_reducible rfl)
        try simp only [Act.put, List.setIfInBounds_toArray, List.set_cons_zero, List.set_cons_succ]
        refine tk 10 ⟨some 42, .fieldAddr 124 (.tmp 41) 1, 0, _, _, some (7, true)⟩ ?vq95 rfl (by kernel_rfl) (.inl ⟨by rfl, ?hq95⟩) ?rq95
        case hq95 => intro W hSw; go_simp; (try with_reducible rfl)
        try simp only [Act.put, List.setIfInBounds_toArray, List.set_cons_zero, List.set_cons_succ]
        refine tk 11 ⟨some 43, .load 34 (.tmp 42), 34, _, _, some (7, true)⟩ ?vq96 rfl (by kernel_rfl) (.inl ⟨by rfl, ?hq96⟩) ?rq96
        case hq96 => intro W hSw; (try obtain ⟨q0, q1, q2, q3, q4, q5, q6, p0, p1⟩ := HCq.out W hSw; obtain ⟨x0, x1, x2, x3, x4, x5, x6⟩ := HCx.out W hSw); go_simp; (try with_reducible rfl)
        try simp only [Act.put, List.setIfInBounds_toArray, List.set_cons_zero, List.set_cons_succ]
        refine tk 12 ⟨some 44, .move (.tmp 5), 3, _, _, some (7, true)⟩ ?vq97 rfl (by kernel_rfl) (.inl ⟨by rfl, ?hq97⟩) ?rq97
        case hq97 => intro W hSw; go_simp; (try with_reducible rfl)
        try simp only [Act.put, List.setIfInBounds_toArray, List.set_cons_zero, List.set_cons_succ]
        refine tk 13 ⟨some 45, .indexAddr 34 (.tmp 43) (.tmp 44), 0, _, _, some (7, true)⟩ ?vq98 rfl (by kernel_rfl) (.inl ⟨by rfl, ?hq98⟩) ?rq98
        case hq98 => intro W hSw; (try obtain ⟨q0, q1, q2, q3, q4, q5, q6, p0, p1⟩ := HCq.out W hSw; obtain ⟨x0, x1, x2, x3, x4, x5, x6⟩ := HCx.out W hSw); go_simp; (try with_reducible rfl)
        try simp only [Act.put, List.setIfInBounds_toArray, List.set_cons_zero, List.set_cons_succ]
        refine tk 14 ⟨some 46, .load 108 (.tmp 45), 108, _, _, some (7, true)⟩ ?vq99 rfl (by kernel_rfl) (.inl ⟨by rfl, ?hq99⟩) ?rq99
        case hq99 => intro W hSw; (try obtain ⟨q0, q1, q2, q3, q4, q5, q6, p0, p1⟩ := HCq.out W hSw; obtain ⟨x0, x1, x2, x3, x4, x5, x6⟩ := HCx.out W hSw); go_simp; (try with_reducible rfl)
        try simp only [Act.put, List.setIfInBounds_toArray, List.set_cons_zero, List.set_cons_succ]
        refine tk 15 ⟨some 47, .load 108 (.tmp 3), 108, _, _, some (7, true)⟩ ?vq100 rfl (by kernel_rfl) (.inl ⟨by rfl, ?hq100⟩) ?rq100
        case hq100 => intro W hSw; (try obtain ⟨q0, q1, q2, q3, q4, q5, q6, p0, p1⟩ := HCq.out W hSw; obtain ⟨x0, x1, x2, x3, x4, x5, x6⟩ := HCx.out W hSw); go_simp; (try with_reducible rfl)
        try simp only [Act.put, List.setIfInBounds_toArray, List.set_cons_zero, List.set_cons_succ]
        refine wpAnyH_ready (rs := [16]) (by kernel_rfl) (by simp) ?_
        refine AllReadyH.cons (o := ⟨some 48, .call ⟨.value (.func 150), #[.tmp 46, .tmp 47], #[108, 108]⟩, 4, _, _, some (7, true)⟩) rfl (fun K hK => ?_) AllReadyH.nil
        go_simp
        go_wp2_with (first | (go_at_call 150; refine (HLs.out _).mono ?_; rintro r wl ⟨rfl, bl⟩))
        refine hK.out _ _ (hHeld.trans (Fr.b0 bl) (fun _ h => h.elim)) (fun hHeld => ?_)
        clear hK K
        try simp only [Act.put, List.setIfInBounds_toArray, List.set_cons_zero, List.set_cons_succ]
        refine tk 17 ⟨some 49, .pick (.tmp 39) (.tmp 48) (.const (.bool false)), 4, _, _, none⟩ ?vq101 rfl (by kernel_rfl) (.inl ⟨by rfl, ?hq101⟩) ?rq101
        case hq101 => intro W hSw; go_simp; (try with_reducible rfl)
        try simp only [Act.put, List.setIfInBounds_toArray, List.set_cons_zero, List.set_cons_succ]
        refine wpAnyH_done (by kernel_rfl) ?_ _
        have Fl := Lib.hid hHeld
        clear hHeld bl
        cases kb with
        | true =>
          go_wp2_with fail
          go_roundw
          case rel =>
            refine ⟨k + 1, by omega, by go_num, fun j hj z hz => ?_, Fk.out.trans Fl.out (fun _ h => h.elim)⟩
            by_cases e : j = k
            · subst e
              rw [Hx.out] at hz
              cases hz
              exact of_decide_eq_true Hkb.out
            · exact Hall.out j (by omega) z hz
          case measure => simp [intOf]; omega
        | false =>
          go_wp2_with fail
          go_meet
          refine ⟨k, _, rfl, hk, rfl, ⟨Hall.out, fun z hz => ?_⟩, Fk.out.trans Fl.out (fun _ h => h.elim)⟩
          rw [Hx.out] at hz
          cases hz
          exact of_decide_eq_false Hkb.out
      · obtain rfl : n = k := by omega
        have hkd : decide ((n : Int) < (n : Int)) = false := decide_eq_false (by omega)
        have HCq := Lib.hid (fun W (f : Fr (fun _ => False) wr W) => HC.out W (Fk.out.trans f (fun _ h => h.elim)))
        go_wp2_with fail
        refine wp_region_held_drew (S := fun W => Fr (fun _ => False) wr W) (by kernel_rfl) ((Fr.refl _ wr).drew) (fun hHeld => ?_)
        refine tk 0 ⟨some 32, .move (.tmp 5), 3, _, _, none⟩ ?vq102 rfl (by kernel_rfl) (.inl ⟨by rfl, ?hq102⟩) ?rq102
        case hq102 => intro W hSw; go_simp; (try with_reducible rfl)
        try simp only [Act.put, List.setIfInBounds_toArray, List.set_cons_zero, List.set_cons_succ]
        refine tk 1 ⟨some 33, .move (.tmp 0), 122, _, _, none⟩ ?vq103 rfl (by kernel_rfl) (.inl ⟨by rfl, ?hq103⟩) ?rq103
        case hq103 => intro W hSw; go_simp; (try with_reducible rfl)
        try simp only [Act.put, List.setIfInBounds_toArray, List.set_cons_zero, List.set_cons_succ]
        refine tk 2 ⟨some 34, .nilCheck (.tmp 33), 0, _, _, none⟩ ?vq104 rfl (by kernel_rfl) (.inl ⟨by rfl, ?hq104⟩) ?rq104
        case hq104 => intro W hSw; go_simp; (try with_reducible rfl)
        try simp only [Act.put, List.setIfInBounds_toArray, List.set_cons_zero, List.set_cons_succ]
        refine tk 3 ⟨some 35, .fieldAddr 124 (.tmp 34) 1, 0, _, _, none⟩ ?vq105 rfl (by kernel_rfl) (.inl ⟨by rfl, ?hq105⟩) ?rq105
        case hq105 => intro W hSw; go_simp; (try with_reducible rfl)
        try simp only [Act.put, List.setIfInBounds_toArray, List.set_cons_zero, List.set_cons_succ]
        refine tk 4 ⟨some 36, .load 34 (.tmp 35), 34, _, _, none⟩ ?vq106 rfl (by kernel_rfl) (.inl ⟨by rfl, ?hq106⟩) ?rq106
        case hq106 => intro W hSw; (try obtain ⟨q0, q1, q2, q3, q4, q5, q6, p0, p1⟩ := HCq.out W hSw); go_simp; (try with_reducible rfl)
        try simp only [Act.put, List.setIfInBounds_toArray, List.set_cons_zero, List.set_cons_succ]
        refine tk 5 ⟨some 37, .call ⟨.builtin .len, #[.tmp 36], #[34]⟩, 3, _, _, none⟩ ?vq107 rfl (by kernel_rfl) (.inl ⟨by rfl, ?hq107⟩) ?rq107
        case hq107 => intro W hSw; (try obtain ⟨q0, q1, q2, q3, q4, q5, q6, p0, p1⟩ := HCq.out W hSw); go_simp; (try with_reducible rfl)
        try simp only [Act.put, List.setIfInBounds_toArray, List.set_cons_zero, List.set_cons_succ]
        refine tk 6 ⟨some 38, .binOp .lss 3 (.tmp 32) (.tmp 37) 3, 4, _, _, none⟩ ?vq108 rfl (by kernel_rfl) (.inl ⟨by rfl, ?hq108⟩) ?rq108
        case hq108 => intro W hSw; (try obtain ⟨q0, q1, q2, q3, q4, q5, q6, p0, p1⟩ := HCq.out W hSw); go_simp; (try with_reducible rfl)
        try simp only [Act.put, List.setIfInBounds_toArray, List.set_cons_zero, List.set_cons_succ]
        refine tk 7 ⟨some 39, .move (.tmp 38), 4, _, _, none⟩ ?vq109 rfl (by kernel_rfl) (.inl ⟨by rfl, ?hq109⟩) ?rq109
        case hq109 => intro W hSw; go_simp; (try with_reducible rfl)
        try simp only [Act.put, List.setIfInBounds_toArray, List.set_cons_zero, List.set_cons_succ]
        refine tu 8 ⟨some 40, .move (.tmp 0), 122, _, _, some (7, true)⟩ rfl (by kernel_rfl) (by rfl) ?_
        try simp only [Act.put, List.setIfInBounds_toArray, List.set_cons_zero, List.set_cons_succ]
        refine tu 9 ⟨some 41, .nilCheck (.tmp 40), 0, _, _, some (7, true)⟩ rfl (by kernel_rfl) (by rfl) ?_
        try simp only [Act.put, List.setIfInBounds_toArray, List.set_cons_zero, List.set_cons_succ]
        refine tu 10 ⟨some 42, .fieldAddr 124 (.tmp 41) 1, 0, _, _, some (7, true)⟩ rfl (by kernel_rfl) (by rfl) ?_
        try simp only [Act.put, List.setIfInBounds_toArray, List.set_cons_zero, List.set_cons_succ]
        refine tu 11 ⟨some 43, .load 34 (.tmp 42), 34, _, _, some (7, true)⟩ rfl (by kernel_rfl) (by rfl) ?_
        try simp only [Act.put, List.setIfInBounds_toArray, List.set_cons_zero, List.set_cons_succ]
        refine tu 12 ⟨some 44, .move (.tmp 5), 3, _, _, some (7, true)⟩ rfl (by kernel_rfl) (by rfl) ?_
        try simp only [Act.put, List.setIfInBounds_toArray, List.set_cons_zero, List.set_cons_succ]
        refine tu 13 ⟨some 45, .indexAddr 34 (.tmp 43) (.tmp 44), 0, _, _, some (7, true)⟩ rfl (by kernel_rfl) (by rfl) ?_
        try simp only [Act.put, List.setIfInBounds_toArray, List.set_cons_zero, List.set_cons_succ]
        refine tu 14 ⟨some 46, .load 108 (.tmp 45), 108, _, _, some (7, true)⟩ rfl (by kernel_rfl) (by rfl) ?_
        try simp only [Act.put, List.setIfInBounds_toArray, List.set_cons_zero, List.set_cons_succ]
        refine tu 15 ⟨some 47, .load 108 (.tmp 3), 108, _, _, some (7, true)⟩ rfl (by kernel_rfl) (by rfl) ?_
        try simp only [Act.put, List.setIfInBounds_toArray, List.set_cons_zero, List.set_cons_succ]
        refine tu 16 ⟨some 48, .call ⟨.value (.func 150), #[.tmp 46, .tmp 47], #[108, 108]⟩, 4, _, _, some (7, true)⟩ rfl (by kernel_rfl) (by rfl) ?_
        try simp only [Act.put, List.setIfInBounds_toArray, List.set_cons_zero, List.set_cons_succ]
        refine tk 17 ⟨some 49, .pick (.tmp 39) (.tmp 48) (.const (.bool false)), 4, _, _, none⟩ ?vq110 rfl (by kernel_rfl) (.inl ⟨by rfl, ?hq110⟩) ?rq110
        case hq110 => intro W hSw; go_simp; (try with_reducible rfl)
        try simp only [Act.put, List.setIfInBounds_toArray, List.set_cons_zero, List.set_cons_succ]
        refine wpAnyH_done (by kernel_rfl) ?_ _
        have Fl := Lib.hid hHeld
        clear hHeld
        go_wp2_with fail
        go_meet
        refine ⟨n, _, rfl, Nat.le_refl _, rfl, ⟨Hall.out, fun z hz => ?_⟩, Fk.out.trans Fl.out (fun _ h => h.elim)⟩
        rw [← Hn.out, List.getElem?_eq_none (Nat.le_refl _)] at hz
        cases hz
  case rest =>
  obtain ⟨k, W2, rfl, hk, rfl, ⟨hall, hnot⟩, fk⟩ := hcut
  have Hall := Lib.hid hall
  have Hnot := Lib.hid hnot
  have F2 := Lib.hid fk
  have p1 := (HC.out _ fk).2.2.2.2.2.2.2.2
  have hkI : 0 ≤ (k : Int) ∧ (k : Int) ≤ (n : Int) ∧ (k : Int) ≤ (c : Int) := by omega
  have RDD : Hid (∀ W, Fr (fun _ => False) W1 W → Rd W 7 (if c = k then A else A.map (·.add (k * 7))) (n - k) (rcells (l.drop k))) := fun W f => by
    have h := (HRd.out W f).cut hk hnc
    rw [show (rcells l).drop (k * 7) = rcells (l.drop k) from vflat_dropR l k] at h
    exact h
  clear hall hnot fk Fh
  go_upto_region 6 with fail
  go_cut [6] (fun s6 wx => ∃ (A6 : Option Addr) (c6 : Nat) (W3 : World), W3 = wx ∧ s6 = .slice A6 (n - k) c6 ∧ (A6 = A ∨ A6 = A.map (·.add (k * 7))) ∧ (∀ W, Fr (fun _ => False) W1 W → Rd W 7 A6 (n - k) (rcells (l.drop k))) ∧ Fr (fun _ => False) W1 wx)
  case first =>
    by_cases hck : c = k
    case pos =>
      obtain rfl : k = c := hck.symm
      go_wp2_with fail
      go_meet
      refine ⟨A, 0, W2, rfl, by first | rfl | (rw [show n - k = 0 by omega]), .inl rfl, fun W f => ?_, F2.out⟩
      · have h := RDD.out W f
        first | rw [if_pos rfl] at h | rw [if_pos trivial] at h
        exact h
    case neg =>
      go_wp2_with fail
      go_meet
      refine ⟨A.map (·.add (k * 7)), c - k, W2, rfl, by rfl, .inr rfl, fun W f => ?_, F2.out⟩
      · have h := RDD.out W f
        rw [if_neg hck] at h
        exact h
  case rest =>
  obtain ⟨A6, c6, W3, rfl, rfl, hA6, hr6, fk⟩ := hcut
  have F3 := Lib.hid fk
  have R6 := Lib.hid hr6
  clear fk hr6 p1 F2 RDD
  go_upto_region 7 with fail
  go_cut [90] (fun s90 wx => ∃ (b : Bool) (W4 : World), W4 = wx ∧ s90 = .bool b ∧ SameAt l k r b ∧ Fr (fun _ => False) W1 wx)
  case first =>
    by_cases hlt : k < n
    case pos =>
      have hkd : decide ((k : Int) < (n : Int)) = true := decide_eq_true (by omega)
      have hkd2 : decide (k < n) = true := decide_eq_true hlt
      have hkI2 : 0 ≤ (k : Int) ∧ (k : Int) < (n : Int) := by omega
      obtain ⟨ad, x, rfl, hx, d0, d1, _⟩ := (HRd.out _ F3.out).rec_ hlt
      have HCq : Hid (∀ W, Fr (fun _ => False) W3 W → (W.cell? ⟨rb, 0, none⟩ = some (.string rn) ∧ W.cell? ⟨rb, 1, none⟩ = some (.int .i64 rs) ∧ W.cell? ⟨rb, 2, none⟩ = some (.int .i64 r1) ∧ W.cell? ⟨rb, 3, none⟩ = some (.int .i64 r2) ∧ W.cell? ⟨rb, 4, none⟩ = some (.int .u64 r3) ∧ W.cell? ⟨rb, 5, none⟩ = some (.int .i64 r4) ∧ W.cell? ⟨rb, 6, none⟩ = some (.int .i64 r5) ∧ W.cell? ⟨g, 0, none⟩ = some (.int .i64 every) ∧ W.cell? ⟨g, 1, none⟩ = some (.slice (some ad) n c)) ∧ W.cell? (ad.add (k * 7)) = some (.string x.name) ∧ W.cell? ⟨(ad.add (k * 7)).block, (ad.add (k * 7)).off + 1, none⟩ = some (.int .i64 x.start)) := fun W f => ⟨HC.out W (F3.out.trans f (fun _ h => h.elim)), f.cell d0 (fun h => h), f.cell d1 (fun h => h)⟩
      have HSk : Hid (∀ b, (x.name = rn ∧ x.start = rs ↔ b = true) → SameAt l k r b) := fun b h => by
        unfold SameAt
        rw [← Hr.out]
        exact ⟨fun hb => ⟨x, hx, h.2 hb⟩, fun ⟨z, hz, hk⟩ => h.1 (by rw [hx] at hz; cases hz; exact hk)⟩
      obtain ⟨xn, hxn⟩ : ∃ v, x.name = v := ⟨_, rfl⟩
      obtain ⟨xs, hxs⟩ : ∃ v, x.start = v := ⟨_, rfl⟩
      rw [hxn, hxs] at HCq HSk
      clear hx d0 d1 hxn hxs
      by_cases h1 : xn = rn
      case pos =>
        subst h1
        by_cases h2 : xs = rs
        case pos =>
          subst h2
          have HQ := Lib.hid (HSk.out true ⟨fun _ => rfl, fun _ => ⟨rfl, rfl⟩⟩)
          clear HSk
          go_wp2_with fail
          refine wp_region_held_drew (S := fun W => Fr (fun _ => False) W3 W) (by kernel_rfl) ((Fr.refl _ W3).drew) (fun hHeld => ?_)
          refine tk 0 ⟨some 58, .move (.tmp 5), 3, _, _, none⟩ ?vq111 rfl (by kernel_rfl) (.inl ⟨by rfl, ?hq111⟩) ?rq111
          case hq111 => intro W hSw; go_simp; (try with_reducible rfl)
          try simp only [Act.put, List.setIfInBounds_toArray, List.set_cons_zero, List.set_cons_succ]
          refine tk 1 ⟨some 59, .move (.tmp 0), 122, _, _, none⟩ ?vq112 rfl (by kernel_rfl) (.inl ⟨by rfl, ?hq112⟩) ?rq112
          case hq112 => intro W hSw; go_simp; (try with_reducible rfl)
          try simp only [Act.put, List.setIfInBounds_toArray, List.set_cons_zero, List.set_cons_succ]
          refine tk 2 ⟨some 60, .nilCheck (.tmp 59), 0, _, _, none⟩ ?vq113 rfl (by kernel_rfl) (.inl ⟨by rfl, ?hq113⟩) ?rq113
          case hq113 => intro W hSw; go_simp; (try with_reducible rfl)
          try simp only [Act.put, List.setIfInBounds_toArray, List.set_cons_zero, List.set_cons_succ]
          refine tk 3 ⟨some 61, .fieldAddr 124 (.tmp 60) 1, 0, _, _, none⟩ ?vq114 rfl (by kernel_rfl) (.inl ⟨by rfl, ?hq114⟩) ?rq114
          case hq114 => intro W hSw; go_simp; (try with_reducible rfl)
          try simp only [Act.put, List.setIfInBounds_toArray, List.set_cons_zero, List.set_cons_succ]
          refine tk 4 ⟨some 62, .load 34 (.tmp 61), 34, _, _, none⟩ ?vq115 rfl (by kernel_rfl) (.inl ⟨by rfl, ?hq115⟩) ?rq115
          case hq115 => intro W hSw; (try obtain ⟨⟨q0, q1, q2, q3, q4, q5, q6, p0, p1⟩, x0, x1⟩ := HCq.out W hSw); go_simp; (try with_reducible rfl)
          try simp only [Act.put, List.setIfInBounds_toArray, List.set_cons_zero, List.set_cons_succ]
          refine tk 5 ⟨some 63, .call ⟨.builtin .len, #[.tmp 62], #[34]⟩, 3, _, _, none⟩ ?vq116 rfl (by kernel_rfl) (.inl ⟨by rfl, ?hq116⟩) ?rq116
          case hq116 => intro W hSw; (try obtain ⟨⟨q0, q1, q2, q3, q4, q5, q6, p0, p1⟩, x0, x1⟩ := HCq.out W hSw); go_simp; (try with_reducible rfl)
          try simp only [Act.put, List.setIfInBounds_toArray, List.set_cons_zero, List.set_cons_succ]
          refine tk 6 ⟨some 64, .binOp .lss 3 (.tmp 58) (.tmp 63) 3, 4, _, _, none⟩ ?vq117 rfl (by kernel_rfl) (.inl ⟨by rfl, ?hq117⟩) ?rq117
          case hq117 => intro W hSw; (try obtain ⟨⟨q0, q1, q2, q3, q4, q5, q6, p0, p1⟩, x0, x1⟩ := HCq.out W hSw); go_simp; (try with_reducible rfl)
          try simp only [Act.put, List.setIfInBounds_toArray, List.set_cons_zero, List.set_cons_succ]
          refine tk 7 ⟨some 65, .move (.tmp 64), 4, _, _, none⟩ ?vq118 rfl (by kernel_rfl) (.inl ⟨by rfl, ?hq118⟩) ?rq118
          case hq118 => intro W hSw; go_simp; (try with_reducible rfl)
          try simp only [Act.put, List.setIfInBounds_toArray, List.set_cons_zero, List.set_cons_succ]
          refine tk 8 ⟨some 66, .move (.tmp 0), 122, _, _, some (7, true)⟩ ?vq119 rfl (by kernel_rfl) (.inl ⟨by rfl, ?hq119⟩) ?rq119
          case hq119 => intro W hSw; go_simp; (try with_reducible rfl)
          try simp only [Act.put, List.setIfInBounds_toArray, List.set_cons_zero, List.set_cons_succ]
          refine tk 9 ⟨some 67, .nilCheck (.tmp 66), 0, _, _, some (7, true)⟩ ?vq120 rfl (by kernel_rfl) (.inl ⟨by rfl, ?hq120⟩) ?rq120
          case hq120 => intro W hSw; go_simp; (try with_reducible rfl)
          try simp only [Act.put, List.setIfInBounds_toArray, List.set_cons_zero, List.set_cons_succ]
          refine tk 10 ⟨some 68, .fieldAddr 124 (.tmp 67) 1, 0, _, _, some (7, true)⟩ ?vq121 rfl (by kernel_rfl) (.inl ⟨by rfl, ?hq121⟩) ?rq121
          case hq121 => intro W hSw; go_simp; (try with_reducible rfl)
          try simp only [Act.put, List.setIfInBounds_toArray, List.set_cons_zero, List.set_cons_succ]
          refine tk 11 ⟨some 69, .load 34 (.tmp 68), 34, _, _, some (7, true)⟩ ?vq122 rfl (by kernel_rfl) (.inl ⟨by rfl, ?hq122⟩) ?rq122
          case hq122 => intro W hSw; (try obtain ⟨⟨q0, q1, q2, q3, q4, q5, q6, p0, p1⟩, x0, x1⟩ := HCq.out W hSw); go_simp; (try with_reducible rfl)
          try simp only [Act.put, List.setIfInBounds_toArray, List.set_cons_zero, List.set_cons_succ]
          refine tk 12 ⟨some 70, .move (.tmp 5), 3, _, _, some (7, true)⟩ ?vq123 rfl (by kernel_rfl) (.inl ⟨by rfl, ?hq123⟩) ?rq123
          case hq123 => intro W hSw; go_simp; (try with_reducible rfl)
          try simp only [Act.put, List.setIfInBounds_toArray, List.set_cons_zero, List.set_cons_succ]
          refine tk 13 ⟨some 71, .indexAddr 34 (.tmp 69) (.tmp 70), 0, _, _, some (7, true)⟩ ?vq124 rfl (by kernel_rfl) (.inl ⟨by rfl, ?hq124⟩) ?rq124
          case hq124 => intro W hSw; (try obtain ⟨⟨q0, q1, q2, q3, q4, q5, q6, p0, p1⟩, x0, x1⟩ := HCq.out W hSw); go_simp; (try with_reducible rfl)
          try simp only [Act.put, List.setIfInBounds_toArray, List.set_cons_zero, List.set_cons_succ]
          refine tk 14 ⟨some 72, .fieldAddr 108 (.tmp 71) 0, 0, _, _, some (7, true)⟩ ?vq125 rfl (by kernel_rfl) (.inl ⟨by rfl, ?hq125⟩) ?rq125
          case hq125 => intro W hSw; go_simp; (try with_reducible rfl)
          try simp only [Act.put, List.setIfInBounds_toArray, List.set_cons_zero, List.set_cons_succ]
          refine tk 15 ⟨some 73, .load 9 (.tmp 72), 9, _, _, some (7, true)⟩ ?vq126 rfl (by kernel_rfl) (.inl ⟨by rfl, ?hq126⟩) ?rq126
          case hq126 => intro W hSw; (try obtain ⟨⟨q0, q1, q2, q3, q4, q5, q6, p0, p1⟩, x0, x1⟩ := HCq.out W hSw); go_simp; (try with_reducible rfl)
          try simp only [Act.put, List.setIfInBounds_toArray, List.set_cons_zero, List.set_cons_succ]
          refine tk 16 ⟨some 74, .fieldAddr 108 (.tmp 3) 0, 0, _, _, some (7, true)⟩ ?vq127 rfl (by kernel_rfl) (.inl ⟨by rfl, ?hq127⟩) ?rq127
          case hq127 => intro W hSw; go_simp; (try with_reducible rfl)
          try simp only [Act.put, List.setIfInBounds_toArray, List.set_cons_zero, List.set_cons_succ]
          refine tk 17 ⟨some 75, .load 9 (.tmp 74), 9, _, _, some (7, true)⟩ ?vq128 rfl (by kernel_rfl) (.inl ⟨by rfl, ?hq128⟩) ?rq128
          case hq128 => intro W hSw; (try obtain ⟨⟨q0, q1, q2, q3, q4, q5, q6, p0, p1⟩, x0, x1⟩ := HCq.out W hSw); go_simp; (try with_reducible rfl)
          try simp only [Act.put, List.setIfInBounds_toArray, List.set_cons_zero, List.set_cons_succ]
          refine tk 18 ⟨some 76, .binOp .eql 9 (.tmp 73) (.tmp 75) 9, 4, _, _, some (7, true)⟩ ?vq129 rfl (by kernel_rfl) (.inl ⟨by rfl, ?hq129⟩) ?rq129
          case hq129 => intro W hSw; (try obtain ⟨⟨q0, q1, q2, q3, q4, q5, q6, p0, p1⟩, x0, x1⟩ := HCq.out W hSw); go_simp; (try with_reducible rfl)
          try simp only [Act.put, List.setIfInBounds_toArray, List.set_cons_zero, List.set_cons_succ]
          refine tk 19 ⟨some 77, .pick (.tmp 65) (.tmp 76) (.const (.bool false)), 4, _, _, none⟩ ?vq130 rfl (by kernel_rfl) (.inl ⟨by rfl, ?hq130⟩) ?rq130
          case hq130 => intro W hSw; go_simp; (try with_reducible rfl)
          try simp only [Act.put, List.setIfInBounds_toArray, List.set_cons_zero, List.set_cons_succ]
          refine tk 20 ⟨some 78, .move (.tmp 77), 4, _, _, none⟩ ?vq131 rfl (by kernel_rfl) (.inl ⟨by rfl, ?hq131⟩) ?rq131
          case hq131 => intro W hSw; go_simp; (try with_reducible rfl)
          try simp only [Act.put, List.setIfInBounds_toArray, List.set_cons_zero, List.set_cons_succ]
          refine tk 21 ⟨some 79, .move (.tmp 0), 122, _, _, some (20, true)⟩ ?vq132 rfl (by kernel_rfl) (.inl ⟨by rfl, ?hq132⟩) ?rq132
          case hq132 => intro W hSw; go_simp; (try with_reducible rfl)
          try simp only [Act.put, List.setIfInBounds_toArray, List.set_cons_zero, List.set_cons_succ]
          refine tk 22 ⟨some 80, .nilCheck (.tmp 79), 0, _, _, some (20, true)⟩ ?vq133 rfl (by kernel_rfl) (.inl ⟨by rfl, ?hq133⟩) ?rq133
          case hq133 => intro W hSw; go_simp; (try with_reducible rfl)
          try simp only [Act.put, List.setIfInBounds_toArray, List.set_cons_zero, List.set_cons_succ]
          refine tk 23 ⟨some 81, .fieldAddr 124 (.tmp 80) 1, 0, _, _, some (20, true)⟩ ?vq134 rfl (by kernel_rfl) (.inl ⟨by rfl, ?hq134⟩) ?rq134
          case hq134 => intro W hSw; go_simp; (try with_reducible rfl)
          try simp only [Act.put, List.setIfInBounds_toArray, List.set_cons_zero, List.set_cons_succ]
          refine tk 24 ⟨some 82, .load 34 (.tmp 81), 34, _, _, some (20, true)⟩ ?vq135 rfl (by kernel_rfl) (.inl ⟨by rfl, ?hq135⟩) ?rq135
          case hq135 => intro W hSw; (try obtain ⟨⟨q0, q1, q2, q3, q4, q5, q6, p0, p1⟩, x0, x1⟩ := HCq.out W hSw); go_simp; (try with_reducible rfl)
          try simp only [Act.put, List.setIfInBounds_toArray, List.set_cons_zero, List.set_cons_succ]
          refine tk 25 ⟨some 83, .move (.tmp 5), 3, _, _, some (20, true)⟩ ?vq136 rfl (by kernel_rfl) (.inl ⟨by rfl, ?hq136⟩) ?rq136
          case hq136 => intro W hSw; go_simp; (try with_reducible rfl)
          try simp only [Act.put, List.setIfInBounds_toArray, List.set_cons_zero, List.set_cons_succ]
          refine tk 26 ⟨some 84, .indexAddr 34 (.tmp 82) (.tmp 83), 0, _, _, some (20, true)⟩ ?vq137 rfl (by kernel_rfl) (.inl ⟨by rfl, ?hq137⟩) ?rq137
          case hq137 => intro W hSw; (try obtain ⟨⟨q0, q1, q2, q3, q4, q5, q6, p0, p1⟩, x0, x1⟩ := HCq.out W hSw); go_simp; (try with_reducible rfl)
          try simp only [Act.put, List.setIfInBounds_toArray, List.set_cons_zero, List.set_cons_succ]
          refine tk 27 ⟨some 85, .fieldAddr 108 (.tmp 84) 1, 0, _, _, some (20, true)⟩ ?vq138 rfl (by kernel_rfl) (.inl ⟨by rfl, ?hq138⟩) ?rq138
          case hq138 => intro W hSw; go_simp; (try with_reducible rfl)
          try simp only [Act.put, List.setIfInBounds_toArray, List.set_cons_zero, List.set_cons_succ]
          refine tk 28 ⟨some 86, .load 3 (.tmp 85), 3, _, _, some (20, true)⟩ ?vq139 rfl (by kernel_rfl) (.inl ⟨by rfl, ?hq139⟩) ?rq139
          case hq139 => intro W hSw; (try obtain ⟨⟨q0, q1, q2, q3, q4, q5, q6, p0, p1⟩, x0, x1⟩ := HCq.out W hSw); go_simp; (try with_reducible rfl)
          try simp only [Act.put, List.setIfInBounds_toArray, List.set_cons_zero, List.set_cons_succ]
          refine tk 29 ⟨some 87, .fieldAddr 108 (.tmp 3) 1, 0, _, _, some (20, true)⟩ ?vq140 rfl (by kernel_rfl) (.inl ⟨by rfl, ?hq140⟩) ?rq140
          case hq140 => intro W hSw; go_simp; (try with_reducible rfl)
          try simp only [Act.put, List.setIfInBounds_toArray, List.set_cons_zero, List.set_cons_succ]
          refine tk 30 ⟨some 88, .load 3 (.tmp 87), 3, _, _, some (20, true)⟩ ?vq141 rfl (by kernel_rfl) (.inl ⟨by rfl, ?hq141⟩) ?rq141
          case hq141 => intro W hSw; (try obtain ⟨⟨q0, q1, q2, q3, q4, q5, q6, p0, p1⟩, x0, x1⟩ := HCq.out W hSw); go_simp; (try with_reducible rfl)
          try simp only [Act.put, List.setIfInBounds_toArray, List.set_cons_zero, List.set_cons_succ]
          refine tk 31 ⟨some 89, .binOp .eql 3 (.tmp 86) (.tmp 88) 3, 4, _, _, some (20, true)⟩ ?vq142 rfl (by kernel_rfl) (.inl ⟨by rfl, ?hq142⟩) ?rq142
          case hq142 => intro W hSw; (try obtain ⟨⟨q0, q1, q2, q3, q4, q5, q6, p0, p1⟩, x0, x1⟩ := HCq.out W hSw); go_simp; (try with_reducible rfl)
          try simp only [Act.put, List.setIfInBounds_toArray, List.set_cons_zero, List.set_cons_succ]
          refine tk 32 ⟨some 90, .pick (.tmp 78) (.tmp 89) (.const (.bool false)), 4, _, _, none⟩ ?vq143 rfl (by kernel_rfl) (.inl ⟨by rfl, ?hq143⟩) ?rq143
          case hq143 => intro W hSw; go_simp; (try with_reducible rfl)
          try simp only [Act.put, List.setIfInBounds_toArray, List.set_cons_zero, List.set_cons_succ]
          refine wpAnyH_done (by kernel_rfl) ?_ _
          have Fl := Lib.hid hHeld
          clear hHeld
          go_wp2_with fail
          go_meet
          exact ⟨true, _, rfl, rfl, HQ.out, F3.out.trans Fl.out (fun _ h => h.elim)⟩
        case neg =>
          have e1 : (xs == rs) = false := by simpa using h2
          have e2 : decide (xs = rs) = false := decide_eq_false h2
          have HQ := Lib.hid (HSk.out false ⟨fun h => absurd h.2 h2, fun h => by cases h⟩)
          clear HSk
          go_wp2_with fail
          refine wp_region_held_drew (S := fun W => Fr (fun _ => False) W3 W) (by kernel_rfl) ((Fr.refl _ W3).drew) (fun hHeld => ?_)
          refine tk 0 ⟨some 58, .move (.tmp 5), 3, _, _, none⟩ ?vq144 rfl (by kernel_rfl) (.inl ⟨by rfl, ?hq144⟩) ?rq144
          case hq144 => intro W hSw; go_simp; (try with_reducible rfl)
          try simp only [Act.put, List.setIfInBounds_toArray, List.set_cons_zero, List.set_cons_succ]
          refine tk 1 ⟨some 59, .move (.tmp 0), 122, _, _, none⟩ ?vq145 rfl (by kernel_rfl) (.inl ⟨by rfl, ?hq145⟩) ?rq145
          case hq145 => intro W hSw; go_simp; (try with_reducible rfl)
          try simp only [Act.put, List.setIfInBounds_toArray, List.set_cons_zero, List.set_cons_succ]
          refine tk 2 ⟨some 60, .nilCheck (.tmp 59), 0, _, _, none⟩ ?vq146 rfl (by kernel_rfl) (.inl ⟨by rfl, ?hq146⟩) ?rq146
          case hq146 => intro W hSw; go_simp; (try with_reducible rfl)
          try simp only [Act.put, List.setIfInBounds_toArray, List.set_cons_zero, List.set_cons_succ]
          refine tk 3 ⟨some 61, .fieldAddr 124 (.tmp 60) 1, 0, _, _, none⟩ ?vq147 rfl (by kernel_rfl) (.inl ⟨by rfl, ?hq147⟩) ?rq147
          case hq147 => intro W hSw; go_simp; (try with_reducible rfl)
          try simp only [Act.put, List.setIfInBounds_toArray, List.set_cons_zero, List.set_cons_succ]
          refine tk 4 ⟨some 62, .load 34 (.tmp 61), 34, _, _, none⟩ ?vq148 rfl (by kernel_rfl) (.inl ⟨by rfl, ?hq148⟩) ?rq148
          case hq148 => intro W hSw; (try obtain ⟨⟨q0, q1, q2, q3, q4, q5, q6, p0, p1⟩, x0, x1⟩ := HCq.out W hSw); go_simp; (try with_reducible rfl)
          try simp only [Act.put, List.setIfInBounds_toArray, List.set_cons_zero, List.set_cons_succ]
          refine tk 5 ⟨some 63, .call ⟨.builtin .len, #[.tmp 62], #[34]⟩, 3, _, _, none⟩ ?vq149 rfl (by kernel_rfl) (.inl ⟨by rfl, ?hq149⟩) ?rq149
          case hq149 => intro W hSw; (try obtain ⟨⟨q0, q1, q2, q3, q4, q5, q6, p0, p1⟩, x0, x1⟩ := HCq.out W hSw); go_simp; (try with_reducible rfl)
          try simp only [Act.put, List.setIfInBounds_toArray, List.set_cons_zero, List.set_cons_succ]
          refine tk 6 ⟨some 64, .binOp .lss 3 (.tmp 58) (.tmp 63) 3, 4, _, _, none⟩ ?vq150 rfl (by kernel_rfl) (.inl ⟨by rfl, ?hq150⟩) ?rq150
          case hq150 => intro W hSw; (try obtain ⟨⟨q0, q1, q2, q3, q4, q5, q6, p0, p1⟩, x0, x1⟩ := HCq.out W hSw); go_simp; (try with_reducible rfl)
          try simp only [Act.put, List.setIfInBounds_toArray, List.set_cons_zero, List.set_cons_succ]
          refine tk 7 ⟨some 65, .move (.tmp 64), 4, _, _, none⟩ ?vq151 rfl (by kernel_rfl) (.inl ⟨by rfl, ?hq151⟩) ?rq151
          case hq151 => intro W hSw; go_simp; (try with_reducible rfl)
          try simp only [Act.put, List.setIfInBounds_toArray, List.set_cons_zero, List.set_cons_succ]
          refine tk 8 ⟨some 66, .move (.tmp 0), 122, _, _, some (7, true)⟩ ?vq152 rfl (by kernel_rfl) (.inl ⟨by rfl, ?hq152⟩) ?rq152
          case hq152 => intro W hSw; go_simp; (try with_reducible rfl)
          try simp only [Act.put, List.setIfInBounds_toArray, List.set_cons_zero, List.set_cons_succ]
          refine tk 9 ⟨some 67, .nilCheck (.tmp 66), 0, _, _, some (7, true)⟩ ?vq153 rfl (by kernel_rfl) (.inl ⟨by rfl, ?hq153⟩) ?rq153
          case hq153 => intro W hSw; go_simp; (try with_reducible rfl)
          try simp only [Act.put, List.setIfInBounds_toArray, List.set_cons_zero, List.set_cons_succ]
          refine tk 10 ⟨some 68, .fieldAddr 124 (.tmp 67) 1, 0, _, _, some (7, true)⟩ ?vq154 rfl (by kernel_rfl) (.inl ⟨by rfl, ?hq154⟩) ?rq154
          case hq154 => intro W hSw; go_simp; (try with_reducible rfl)
          try simp only [Act.put, List.setIfInBounds_toArray, List.set_cons_zero, List.set_cons_succ]
          refine tk 11 ⟨some 69, .load 34 (.tmp 68), 34, _, _, some (7, true)⟩ ?vq155 rfl (by kernel_rfl) (.inl ⟨by rfl, ?hq155⟩) ?rq155
          case hq155 => intro W hSw; (try obtain ⟨⟨q0, q1, q2, q3, q4, q5, q6, p0, p1⟩, x0, x1⟩ := HCq.out W hSw); go_simp; (try with_reducible rfl)
          try simp only [Act.put, List.setIfInBounds_toArray, List.set_cons_zero, List.set_cons_succ]
          refine tk 12 ⟨some 70, .move (.tmp 5), 3, _, _, some (7, true)⟩ ?vq156 rfl (by kernel_rfl) (.inl ⟨by rfl, ?hq156⟩) ?rq156
          case hq156 => intro W hSw; go_simp; (try with_reducible rfl)
          try simp only [Act.put, List.setIfInBounds_toArray, List.set_cons_zero, List.set_cons_succ]
          refine tk 13 ⟨some 71, .indexAddr 34 (.tmp 69) (.tmp 70), 0, _, _, some (7, true)⟩ ?vq157 rfl (by kernel_rfl) (.inl ⟨by rfl, ?hq157⟩) ?rq157
          case hq157 => intro W hSw; (try obtain ⟨⟨q0, q1, q2, q3, q4, q5, q6, p0, p1⟩, x0, x1⟩ := HCq.out W hSw); go_simp; (try with_reducible rfl)
          try simp only [Act.put, List.setIfInBounds_toArray, List.set_cons_zero, List.set_cons_succ]
          refine tk 14 ⟨some 72, .fieldAddr 108 (.tmp 71) 0, 0, _, _, some (7, true)⟩ ?vq158 rfl (by kernel_rfl) (.inl ⟨by rfl, ?hq158⟩) ?rq158
          case hq158 => intro W hSw; go_simp; (try with_reducible rfl)
          try simp only [Act.put, List.setIfInBounds_toArray, List.set_cons_zero, List.set_cons_succ]
          refine tk 15 ⟨some 73, .load 9 (.tmp 72), 9, _, _, some (7, true)⟩ ?vq159 rfl (by kernel_rfl) (.inl ⟨by rfl, ?hq159⟩) ?rq159
          case hq159 => intro W hSw; (try obtain ⟨⟨q0, q1, q2, q3, q4, q5, q6, p0, p1⟩, x0, x1⟩ := HCq.out W hSw); go_simp; (try with_reducible rfl)
          try simp only [Act.put, List.setIfInBounds_toArray, List.set_cons_zero, List.set_cons_succ]
          refine tk 16 ⟨some 74, .fieldAddr 108 (.tmp 3) 0, 0, _, _, some (7, true)⟩ ?vq160 rfl (by kernel_rfl) (.inl ⟨by rfl, ?hq160⟩) ?rq160
          case hq160 => intro W hSw; go_simp; (try with_reducible rfl)
          try simp only [Act.put, List.setIfInBounds_toArray, List.set_cons_zero, List.set_cons_succ]
          refine tk 17 ⟨some 75, .load 9 (.tmp 74), 9, _, _, some (7, true)⟩ ?vq161 rfl (by kernel_rfl) (.inl ⟨by rfl, ?hq161⟩) ?rq161
          case hq161 => intro W hSw; (try obtain ⟨⟨q0, q1, q2, q3, q4, q5, q6, p0, p1⟩, x0, x1⟩ := HCq.out W hSw); go_simp; (try with_reducible rfl)
          try simp only [Act.put, List.setIfInBounds_toArray, List.set_cons_zero, List.set_cons_succ]
          refine tk 18 ⟨some 76, .binOp .eql 9 (.tmp 73) (.tmp 75) 9, 4, _, _, some (7, true)⟩ ?vq162 rfl (by kernel_rfl) (.inl ⟨by rfl, ?hq162⟩) ?rq162
          case hq162 => intro W hSw; (try obtain ⟨⟨q0, q1, q2, q3, q4, q5, q6, p0, p1⟩, x0, x1⟩ := HCq.out W hSw); go_simp; (try with_reducible rfl)
          try simp only [Act.put, List.setIfInBounds_toArray, List.set_cons_zero, List.set_cons_succ]
          refine tk 19 ⟨some 77, .pick (.tmp 65) (.tmp 76) (.const (.bool false)), 4, _, _, none⟩ ?vq163 rfl (by kernel_rfl) (.inl ⟨by rfl, ?hq163⟩) ?rq163
          case hq163 => intro W hSw; go_simp; (try with_reducible rfl)
          try simp only [Act.put, List.setIfInBounds_toArray, List.set_cons_zero, List.set_cons_succ]
          refine tk 20 ⟨some 78, .move (.tmp 77), 4, _, _, none⟩ ?vq164 rfl (by kernel_rfl) (.inl ⟨by rfl, ?hq164⟩) ?rq164
          case hq164 => intro W hSw; go_simp; (try with_reducible rfl)
          try simp only [Act.put, List.setIfInBounds_toArray, List.set_cons_zero, List.set_cons_succ]
          refine tk 21 ⟨some 79, .move (.tmp 0), 122, _, _, some (20, true)⟩ ?vq165 rfl (by kernel_rfl) (.inl ⟨by rfl, ?hq165⟩) ?rq165
          case hq165 => intro W hSw; go_simp; (try with_reducible rfl)
          try simp only [Act.put, List.setIfInBounds_toArray, List.set_cons_zero, List.set_cons_succ]
          refine tk 22 ⟨some 80, .nilCheck (.tmp 79), 0, _, _, some (20, true)⟩ ?vq166 rfl (by kernel_rfl) (.inl ⟨by rfl, ?hq166⟩) ?rq166
          case hq166 => intro W hSw; go_simp; (try with_reducible rfl)
          try simp only [Act.put, List.setIfInBounds_toArray, List.set_cons_zero, List.set_cons_succ]
          refine tk 23 ⟨some 81, .fieldAddr 124 (.tmp 80) 1, 0, _, _, some (20, true)⟩ ?vq167 rfl (by kernel_rfl) (.inl ⟨by rfl, ?hq167⟩) ?rq167
          case hq167 => intro W hSw; go_simp; (try with_reducible rfl)
          try simp only [Act.put, List.setIfInBounds_toArray, List.set_cons_zero, List.set_cons_succ]
          refine tk 24 ⟨some 82, .load 34 (.tmp 81), 34, _, _, some (20, true)⟩ ?vq168 rfl (by kernel_rfl) (.inl ⟨by rfl, ?hq168⟩) ?rq168
          case hq168 => intro W hSw; (try obtain ⟨⟨q0, q1, q2, q3, q4, q5, q6, p0, p1⟩, x0, x1⟩ := HCq.out W hSw); go_simp; (try with_reducible rfl)
          try simp only [Act.put, List.setIfInBounds_toArray, List.set_cons_zero, List.set_cons_succ]
          refine tk 25 ⟨some 83, .move (.tmp 5), 3, _, _, some (20, true)⟩ ?vq169 rfl (by kernel_rfl) (.inl ⟨by rfl, ?hq169⟩) ?rq169
          case hq169 => intro W hSw; go_simp; (try with_reducible rfl)
          try simp only [Act.put, List.setIfInBounds_toArray, List.set_cons_zero, List.set_cons_succ]
          refine tk 26 ⟨some 84, .indexAddr 34 (.tmp 82) (.tmp 83), 0, _, _, some (20, true)⟩ ?vq170 rfl (by kernel_rfl) (.inl ⟨by rfl, ?hq170⟩) ?rq170
          case hq170 => intro W hSw; (try obtain ⟨⟨q0, q1, q2, q3, q4, q5, q6, p0, p1⟩, x0, x1⟩ := HCq.out W hSw); go_simp; (try with_reducible rfl)
          try simp only [Act.put, List.setIfInBounds_toArray, List.set_cons_zero, List.set_cons_succ]
          refine tk 27 ⟨some 85, .fieldAddr 108 (.tmp 84) 1, 0, _, _, some (20, true)⟩ ?vq171 rfl (by kernel_rfl) (.inl ⟨by rfl, ?hq171⟩) ?rq171
          case hq171 => intro W hSw; go_simp; (try with_reducible rfl)
          try simp only [Act.put, List.setIfInBounds_toArray, List.set_cons_zero, List.set_cons_succ]
          refine tk 28 ⟨some 86, .load 3 (.tmp 85), 3, _, _, some (20, true)⟩ ?vq172 rfl (by kernel_rfl) (.inl ⟨by rfl, ?hq172⟩) ?rq172
          case hq172 => intro W hSw; (try obtain ⟨⟨q0, q1, q2, q3, q4, q5, q6, p0, p1⟩, x0, x1⟩ := HCq.out W hSw); go_simp; (try with_reducible rfl)
          try simp only [Act.put, List.setIfInBounds_toArray, List.set_cons_zero, List.set_cons_succ]
          refine tk 29 ⟨some 87, .fieldAddr 108 (.tmp 3) 1, 0, _, _, some (20, true)⟩ ?vq173 rfl (by kernel_rfl) (.inl ⟨by rfl, ?hq173⟩) ?rq173
          case hq173 => intro W hSw; go_simp; (try with_reducible rfl)
          try simp only [Act.put, List.setIfInBounds_toArray, List.set_cons_zero, List.set_cons_succ]
          refine tk 30 ⟨some 88, .load 3 (.tmp 87), 3, _, _, some (20, true)⟩ ?vq174 rfl (by kernel_rfl) (.inl ⟨by rfl, ?hq174⟩) ?rq174
          case hq174 => intro W hSw; (try obtain ⟨⟨q0, q1, q2, q3, q4, q5, q6, p0, p1⟩, x0, x1⟩ := HCq.out W hSw); go_simp; (try with_reducible rfl)
          try simp only [Act.put, List.setIfInBounds_toArray, List.set_cons_zero, List.set_cons_succ]
          refine tk 31 ⟨some 89, .binOp .eql 3 (.tmp 86) (.tmp 88) 3, 4, _, _, some (20, true)⟩ ?vq175 rfl (by kernel_rfl) (.inl ⟨by rfl, ?hq175⟩) ?rq175
          case hq175 => intro W hSw; (try obtain ⟨⟨q0, q1, q2, q3, q4, q5, q6, p0, p1⟩, x0, x1⟩ := HCq.out W hSw); go_simp; (try with_reducible rfl)
          try simp only [Act.put, List.setIfInBounds_toArray, List.set_cons_zero, List.set_cons_succ]
          refine tk 32 ⟨some 90, .pick (.tmp 78) (.tmp 89) (.const (.bool false)), 4, _, _, none⟩ ?vq176 rfl (by kernel_rfl) (.inl ⟨by rfl, ?hq176⟩) ?rq176
          case hq176 => intro W hSw; go_simp; (try with_reducible rfl)
          try simp only [Act.put, List.setIfInBounds_toArray, List.set_cons_zero, List.set_cons_succ]
          refine wpAnyH_done (by kernel_rfl) ?_ _
          have Fl := Lib.hid hHeld
          clear hHeld
          go_wp2_with fail
          go_meet
          exact ⟨false, _, rfl, rfl, HQ.out, F3.out.trans Fl.out (fun _ h => h.elim)⟩
      case neg =>
        have e1 : ¬ xn.toList = rn.toList := fun h => h1 (toList_inj h)
        have e3 : (xn.toList == rn.toList) = false := by simpa using e1
        have e4 : decide (xn.toList = rn.toList) = false := decide_eq_false e1
        have HQ := Lib.hid (HSk.out false ⟨fun h => absurd h.1 h1, fun h => by cases h⟩)
        clear HSk
        go_wp2_with fail
        refine wp_region_held_drew (S := fun W => Fr (fun _ => False) W3 W) (by kernel_rfl) ((Fr.refl _ W3).drew) (fun hHeld => ?_)
        refine tk 0 ⟨some 58, .move (.tmp 5), 3, _, _, none⟩ ?vq177 rfl (by kernel_rfl) (.inl ⟨by rfl, ?hq177⟩) ?rq177
        case hq177 => intro W hSw; go_simp; (try with_reducible rfl)
        try simp only [Act.put, List.setIfInBounds_toArray, List.set_cons_zero, List.set_cons_succ]
        refine tk 1 ⟨some 59, .move (.tmp 0), 122, _, _, none⟩ ?vq178 rfl (by kernel_rfl) (.inl ⟨by rfl, ?hq178⟩) ?rq178
        case hq178 => intro W hSw; go_simp; (try with_reducible rfl)
        try simp only [Act.put, List.setIfInBounds_toArray, List.set_cons_zero, List.set_cons_succ]
        refine tk 2 ⟨some 60, .nilCheck (.tmp 59), 0, _, _, none⟩ ?vq179 rfl (by kernel_rfl) (.inl ⟨by rfl, ?hq179⟩) ?rq179
        case hq179 => intro W hSw; go_simp; (try with_reducible rfl)
        try simp only [Act.put, List.setIfInBounds_toArray, List.set_cons_zero, List.set_cons_succ]
        refine tk 3 ⟨some 61, .fieldAddr 124 (.tmp 60) 1, 0, _, _, none⟩ ?vq180 rfl (by kernel_rfl) (.inl ⟨by rfl, ?hq180⟩) ?rq180
        case hq180 => intro W hSw; go_simp; (try with_reducible rfl)
        try simp only [Act.put, List.setIfInBounds_toArray, List.set_cons_zero, List.set_cons_succ]
        refine tk 4 ⟨some 62, .load 34 (.tmp 61), 34, _, _, none⟩ ?vq181 rfl (by kernel_rfl) (.inl ⟨by rfl, ?hq181⟩) ?rq181
        case hq181 => intro W hSw; (try obtain ⟨⟨q0, q1, q2, q3, q4, q5, q6, p0, p1⟩, x0, x1⟩ := HCq.out W hSw); go_simp; (try with_reducible rfl)
        try simp only [Act.put, List.setIfInBounds_toArray, List.set_cons_zero, List.set_cons_succ]
        refine tk 5 ⟨some 63, .call ⟨.builtin .len, #[.tmp 62], #[34]⟩, 3, _, _, none⟩ ?vq182 rfl (by kernel_rfl) (.inl ⟨by rfl, ?hq182⟩) ?rq182
        case hq182 => intro W hSw; (try obtain ⟨⟨q0, q1, q2, q3, q4, q5, q6, p0, p1⟩, x0, x1⟩ := HCq.out W hSw); go_simp; (try with_reducible rfl)
        try simp only [Act.put, List.setIfInBounds_toArray, List.set_cons_zero, List.set_cons_succ]
        refine tk 6 ⟨some 64, .binOp .lss 3 (.tmp 58) (.tmp 63) 3, 4, _, _, none⟩ ?vq183 rfl (by kernel_rfl) (.inl ⟨by rfl, ?hq183⟩) ?rq183
        case hq183 => intro W hSw; (try obtain ⟨⟨q0, q1, q2, q3, q4, q5, q6, p0, p1⟩, x0, x1⟩ := HCq.out W hSw); go_simp; (try with_reducible rfl)
        try simp only [Act.put, List.setIfInBounds_toArray, List.set_cons_zero, List.set_cons_succ]
        refine tk 7 ⟨some 65, .move (.tmp 64), 4, _, _, none⟩ ?vq184 rfl (by kernel_rfl) (.inl ⟨by rfl, ?hq184⟩) ?rq184
        case hq184 => intro W hSw; go_simp; (try with_reducible rfl)
        try simp only [Act.put, List.setIfInBounds_toArray, List.set_cons_zero, List.set_cons_succ]
        refine tk 8 ⟨some 66, .move (.tmp 0), 122, _, _, some (7, true)⟩ ?vq185 rfl (by kernel_rfl) (.inl ⟨by rfl, ?hq185⟩) ?rq185
        case hq185 => intro W hSw; go_simp; (try with_reducible rfl)
        try simp only [Act.put, List.setIfInBounds_toArray, List.set_cons_zero, List.set_cons_succ]
        refine tk 9 ⟨some 67, .nilCheck (.tmp 66), 0, _, _, some (7, true)⟩ ?vq186 rfl (by kernel_rfl) (.inl ⟨by rfl, ?hq186⟩) ?rq186
        case hq186 => intro W hSw; go_simp; (try with_reducible rfl)
        try simp only [Act.put, List.setIfInBounds_toArray, List.set_cons_zero, List.set_cons_succ]
        refine tk 10 ⟨some 68, .fieldAddr 124 (.tmp 67) 1, 0, _, _, some (7, true)⟩ ?vq187 rfl (by kernel_rfl) (.inl ⟨by rfl, ?hq187⟩) ?rq187
        case hq187 => intro W hSw; go_simp; (try with_reducible rfl)
        try simp only [Act.put, List.setIfInBounds_toArray, List.set_cons_zero, List.set_cons_succ]
        refine tk 11 ⟨some 69, .load 34 (.tmp 68), 34, _, _, some (7, true)⟩ ?vq188 rfl (by kernel_rfl) (.inl ⟨by rfl, ?hq188⟩) ?rq188
        case hq188 => intro W hSw; (try obtain ⟨⟨q0, q1, q2, q3, q4, q5, q6, p0, p1⟩, x0, x1⟩ := HCq.out W hSw); go_simp; (try with_reducible rfl)
        try simp only [Act.put, List.setIfInBounds_toArray, List.set_cons_zero, List.set_cons_succ]
        refine tk 12 ⟨some 70, .move (.tmp 5), 3, _, _, some (7, true)⟩ ?vq189 rfl (by kernel_rfl) (.inl ⟨by rfl, ?hq189⟩) ?rq189
        case hq189 => intro W hSw; go_simp; (try with_reducible rfl)
        try simp only [Act.put, List.setIfInBounds_toArray, List.set_cons_zero, List.set_cons_succ]
        refine tk 13 ⟨some 71, .indexAddr 34 (.tmp 69) (.tmp 70), 0, _, _, some (7, true)⟩ ?vq190 rfl (by kernel_rfl) (.inl ⟨by rfl, ?hq190⟩) ?rq190
        case hq190 => intro W hSw; (try obtain ⟨⟨q0, q1, q2, q3, q4, q5, q6, p0, p1⟩, x0, x1⟩ := HCq.out W hSw); go_simp; (try with_reducible rfl)
        try simp only [Act.put, List.setIfInBounds_toArray, List.set_cons_zero, List.set_cons_succ]
        refine tk 14 ⟨some 72, .fieldAddr 108 (.tmp 71) 0, 0, _, _, some (7, true)⟩ ?vq191 rfl (by kernel_rfl) (.inl ⟨by rfl, ?hq191⟩) ?rq191
        case hq191 => intro W hSw; go_simp; (try with_reducible rfl)
        try simp only [Act.put, List.setIfInBounds_toArray, List.set_cons_zero, List.set_cons_succ]
        refine tk 15 ⟨some 73, .load 9 (.tmp 72), 9, _, _, some (7, true)⟩ ?vq192 rfl (by kernel_rfl) (.inl ⟨by rfl, ?hq192⟩) ?rq192
        case hq192 => intro W hSw; (try obtain ⟨⟨q0, q1, q2, q3, q4, q5, q6, p0, p1⟩, x0, x1⟩ := HCq.out W hSw); go_simp; (try with_reducible rfl)
        try simp only [Act.put, List.setIfInBounds_toArray, List.set_cons_zero, List.set_cons_succ]
        refine tk 16 ⟨some 74, .fieldAddr 108 (.tmp 3) 0, 0, _, _, some (7, true)⟩ ?vq193 rfl (by kernel_rfl) (.inl ⟨by rfl, ?hq193⟩) ?rq193
        case hq193 => intro W hSw; go_simp; (try with_reducible rfl)
        try simp only [Act.put, List.setIfInBounds_toArray, List.set_cons_zero, List.set_cons_succ]
        refine tk 17 ⟨some 75, .load 9 (.tmp 74), 9, _, _, some (7, true)⟩ ?vq194 rfl (by kernel_rfl) (.inl ⟨by rfl, ?hq194⟩) ?rq194
        case hq194 => intro W hSw; (try obtain ⟨⟨q0, q1, q2, q3, q4, q5, q6, p0, p1⟩, x0, x1⟩ := HCq.out W hSw); go_simp; (try with_reducible rfl)
        try simp only [Act.put, List.setIfInBounds_toArray, List.set_cons_zero, List.set_cons_succ]
        refine tk 18 ⟨some 76, .binOp .eql 9 (.tmp 73) (.tmp 75) 9, 4, _, _, some (7, true)⟩ ?vq195 rfl (by kernel_rfl) (.inl ⟨by rfl, ?hq195⟩) ?rq195
        case hq195 => intro W hSw; (try obtain ⟨⟨q0, q1, q2, q3, q4, q5, q6, p0, p1⟩, x0, x1⟩ := HCq.out W hSw); go_simp; (try with_reducible rfl)
        try simp only [Act.put, List.setIfInBounds_toArray, List.set_cons_zero, List.set_cons_succ]
        refine tk 19 ⟨some 77, .pick (.tmp 65) (.tmp 76) (.const (.bool false)), 4, _, _, none⟩ ?vq196 rfl (by kernel_rfl) (.inl ⟨by rfl, ?hq196⟩) ?rq196
        case hq196 => intro W hSw; go_simp; (try with_reducible rfl)
        try simp only [Act.put, List.setIfInBounds_toArray, List.set_cons_zero, List.set_cons_succ]
        refine tk 20 ⟨some 78, .move (.tmp 77), 4, _, _, none⟩ ?vq197 rfl (by kernel_rfl) (.inl ⟨by rfl, ?hq197⟩) ?rq197
        case hq197 => intro W hSw; go_simp; (try with_reducible rfl)
        try simp only [Act.put, List.setIfInBounds_toArray, List.set_cons_zero, List.set_cons_succ]
        refine tu 21 ⟨some 79, .move (.tmp 0), 122, _, _, some (20, true)⟩ rfl (by kernel_rfl) (by rfl) ?_
        try simp only [Act.put, List.setIfInBounds_toArray, List.set_cons_zero, List.set_cons_succ]
        refine tu 22 ⟨some 80, .nilCheck (.tmp 79), 0, _, _, some (20, true)⟩ rfl (by kernel_rfl) (by rfl) ?_
        try simp only [Act.put, List.setIfInBounds_toArray, List.set_cons_zero, List.set_cons_succ]
        refine tu 23 ⟨some 81, .fieldAddr 124 (.tmp 80) 1, 0, _, _, some (20, true)⟩ rfl (by kernel_rfl) (by rfl) ?_
        try simp only [Act.put, List.setIfInBounds_toArray, List.set_cons_zero, List.set_cons_succ]
        refine tu 24 ⟨some 82, .load 34 (.tmp 81), 34, _, _, some (20, true)⟩ rfl (by kernel_rfl) (by rfl) ?_
        try simp only [Act.put, List.setIfInBounds_toArray, List.set_cons_zero, List.set_cons_succ]
        refine tu 25 ⟨some 83, .move (.tmp 5), 3, _, _, some (20, true)⟩ rfl (by kernel_rfl) (by rfl) ?_
        try simp only [Act.put, List.setIfInBounds_toArray, List.set_cons_zero, List.set_cons_succ]
        refine tu 26 ⟨some 84, .indexAddr 34 (.tmp 82) (.tmp 83), 0, _, _, some (20, true)⟩ rfl (by kernel_rfl) (by rfl) ?_
        try simp only [Act.put, List.setIfInBounds_toArray, List.set_cons_zero, List.set_cons_succ]
        refine tu 27 ⟨some 85, .fieldAddr 108 (.tmp 84) 1, 0, _, _, some (20, true)⟩ rfl (by kernel_rfl) (by rfl) ?_
        try simp only [Act.put, List.setIfInBounds_toArray, List.set_cons_zero, List.set_cons_succ]
        refine tu 28 ⟨some 86, .load 3 (.tmp 85), 3, _, _, some (20, true)⟩ rfl (by kernel_rfl) (by rfl) ?_
        try simp only [Act.put, List.setIfInBounds_toArray, List.set_cons_zero, List.set_cons_succ]
        refine tu 29 ⟨some 87, .fieldAddr 108 (.tmp 3) 1, 0, _, _, some (20, true)⟩ rfl (by kernel_rfl) (by rfl) ?_
        try simp only [Act.put, List.setIfInBounds_toArray, List.set_cons_zero, List.set_cons_succ]
        refine tu 30 ⟨some 88, .load 3 (.tmp 87), 3, _, _, some (20, true)⟩ rfl (by kernel_rfl) (by rfl) ?_
        try simp only [Act.put, List.setIfInBounds_toArray, List.set_cons_zero, List.set_cons_succ]
        refine tu 31 ⟨some 89, .binOp .eql 3 (.tmp 86) (.tmp 88) 3, 4, _, _, some (20, true)⟩ rfl (by kernel_rfl) (by rfl) ?_
        try simp only [Act.put, List.setIfInBounds_toArray, List.set_cons_zero, List.set_cons_succ]
        refine tk 32 ⟨some 90, .pick (.tmp 78) (.tmp 89) (.const (.bool false)), 4, _, _, none⟩ ?vq198 rfl (by kernel_rfl) (.inl ⟨by rfl, ?hq198⟩) ?rq198
        case hq198 => intro W hSw; go_simp; (try with_reducible rfl)
        try simp only [Act.put, List.setIfInBounds_toArray, List.set_cons_zero, List.set_cons_succ]
        refine wpAnyH_done (by kernel_rfl) ?_ _
        have Fl := Lib.hid hHeld
        clear hHeld
        go_wp2_with fail
        go_meet
        exact ⟨false, _, rfl, rfl, HQ.out, F3.out.trans Fl.out (fun _ h => h.elim)⟩
    case neg =>
      obtain rfl : n = k := by omega
      have hkd : decide ((n : Int) < (n : Int)) = false := decide_eq_false (by omega)
      have HCq : Hid (∀ W, Fr (fun _ => False) W3 W → (W.cell? ⟨rb, 0, none⟩ = some (.string rn) ∧ W.cell? ⟨rb, 1, none⟩ = some (.int .i64 rs) ∧ W.cell? ⟨rb, 2, none⟩ = some (.int .i64 r1) ∧ W.cell? ⟨rb, 3, none⟩ = some (.int .i64 r2) ∧ W.cell? ⟨rb, 4, none⟩ = some (.int .u64 r3) ∧ W.cell? ⟨rb, 5, none⟩ = some (.int .i64 r4) ∧ W.cell? ⟨rb, 6, none⟩ = some (.int .i64 r5) ∧ W.cell? ⟨g, 0, none⟩ = some (.int .i64 every) ∧ W.cell? ⟨g, 1, none⟩ = some (.slice A n c)) ∧ True ∧ True) := fun W f => ⟨HC.out W (F3.out.trans f (fun _ h => h.elim)), trivial, trivial⟩
      go_wp2_with fail
      refine wp_region_held_drew (S := fun W => Fr (fun _ => False) W3 W) (by kernel_rfl) ((Fr.refl _ W3).drew) (fun hHeld => ?_)
      refine tk 0 ⟨some 58, .move (.tmp 5), 3, _, _, none⟩ ?vq199 rfl (by kernel_rfl) (.inl ⟨by rfl, ?hq199⟩) ?rq199
      case hq199 => intro W hSw; go_simp; (try with_reducible rfl)
      try simp only [Act.put, List.setIfInBounds_toArray, List.set_cons_zero, List.set_cons_succ]
      refine tk 1 ⟨some 59, .move (.tmp 0), 122, _, _, none⟩ ?vq200 rfl (by kernel_rfl) (.inl ⟨by rfl, ?hq200⟩) ?rq200
      case hq200 => intro W hSw; go_simp; (try with_reducible rfl)
      try simp only [Act.put, List.setIfInBounds_toArray, List.set_cons_zero, List.set_cons_succ]
      refine tk 2 ⟨some 60, .nilCheck (.tmp 59), 0, _, _, none⟩ ?vq201 rfl (by kernel_rfl) (.inl ⟨by rfl, ?hq201⟩) ?rq201
      case hq201 => intro W hSw; go_simp; (try with_reducible rfl)
      try simp only [Act.put, List.setIfInBounds_toArray, List.set_cons_zero, List.set_cons_succ]
      refine tk 3 ⟨some 61, .fieldAddr 124 (.tmp 60) 1, 0, _, _, none⟩ ?vq202 rfl (by kernel_rfl) (.inl ⟨by rfl, ?hq202⟩) ?rq202
      case hq202 => intro W hSw; go_simp; (try with_reducible rfl)
      try simp only [Act.put, List.setIfInBounds_toArray, List.set_cons_zero, List.set_cons_succ]
      refine tk 4 ⟨some 62, .load 34 (.tmp 61), 34, _, _, none⟩ ?vq203 rfl (by kernel_rfl) (.inl ⟨by rfl, ?hq203⟩) ?rq203
      case hq203 => intro W hSw; (try obtain ⟨⟨q0, q1, q2, q3, q4, q5, q6, p0, p1⟩, x0, x1⟩ := HCq.out W hSw); go_simp; (try with_reducible rfl)
      try simp only [Act.put, List.setIfInBounds_toArray, List.set_cons_zero, List.set_cons_succ]
      refine tk 5 ⟨some 63, .call ⟨.builtin .len, #[.tmp 62], #[34]⟩, 3, _, _, none⟩ ?vq204 rfl (by kernel_rfl) (.inl ⟨by rfl, ?hq204⟩) ?rq204
      case hq204 => intro W hSw; (try obtain ⟨⟨q0, q1, q2, q3, q4, q5, q6, p0, p1⟩, x0, x1⟩ := HCq.out W hSw); go_simp; (try with_reducible rfl)
      try simp only [Act.put, List.setIfInBounds_toArray, List.set_cons_zero, List.set_cons_succ]
      refine tk 6 ⟨some 64, .binOp .lss 3 (.tmp 58) (.tmp 63) 3, 4, _, _, none⟩ ?vq205 rfl (by kernel_rfl) (.inl ⟨by rfl, ?hq205⟩) ?rq205
      case hq205 => intro W hSw; (try obtain ⟨⟨q0, q1, q2, q3, q4, q5, q6, p0, p1⟩, x0, x1⟩ := HCq.out W hSw); go_simp; (try with_reducible rfl)
      try simp only [Act.put, List.setIfInBounds_toArray, List.set_cons_zero, List.set_cons_succ]
      refine tk 7 ⟨some 65, .move (.tmp 64), 4, _, _, none⟩ ?vq206 rfl (by kernel_rfl) (.inl ⟨by rfl, ?hq206⟩) ?rq206
      case hq206 => intro W hSw; go_simp; (try with_reducible rfl)
      try simp only [Act.put, List.setIfInBounds_toArray, List.set_cons_zero, List.set_cons_succ]
      refine tu 8 ⟨some 66, .move (.tmp 0), 122, _, _, some (7, true)⟩ rfl (by kernel_rfl) (by rfl) ?_
      try simp only [Act.put, List.setIfInBounds_toArray, List.set_cons_zero, List.set_cons_succ]
      refine tu 9 ⟨some 67, .nilCheck (.tmp 66), 0, _, _, some (7, true)⟩ rfl (by kernel_rfl) (by rfl) ?_
      try simp only [Act.put, List.setIfInBounds_toArray, List.set_cons_zero, List.set_cons_succ]
      refine tu 10 ⟨some 68, .fieldAddr 124 (.tmp 67) 1, 0, _, _, some (7, true)⟩ rfl (by kernel_rfl) (by rfl) ?_
      try simp only [Act.put, List.setIfInBounds_toArray, List.set_cons_zero, List.set_cons_succ]
      refine tu 11 ⟨some 69, .load 34 (.tmp 68), 34, _, _, some (7, true)⟩ rfl (by kernel_rfl) (by rfl) ?_
      try simp only [Act.put, List.setIfInBounds_toArray, List.set_cons_zero, List.set_cons_succ]
      refine tu 12 ⟨some 70, .move (.tmp 5), 3, _, _, some (7, true)⟩ rfl (by kernel_rfl) (by rfl) ?_
      try simp only [Act.put, List.setIfInBounds_toArray, List.set_cons_zero, List.set_cons_succ]
      refine tu 13 ⟨some 71, .indexAddr 34 (.tmp 69) (.tmp 70), 0, _, _, some (7, true)⟩ rfl (by kernel_rfl) (by rfl) ?_
      try simp only [Act.put, List.setIfInBounds_toArray, List.set_cons_zero, List.set_cons_succ]
      refine tu 14 ⟨some 72, .fieldAddr 108 (.tmp 71) 0, 0, _, _, some (7, true)⟩ rfl (by kernel_rfl) (by rfl) ?_
      try simp only [Act.put, List.setIfInBounds_toArray, List.set_cons_zero, List.set_cons_succ]
      refine tu 15 ⟨some 73, .load 9 (.tmp 72), 9, _, _, some (7, true)⟩ rfl (by kernel_rfl) (by rfl) ?_
      try simp only [Act.put, List.setIfInBounds_toArray, List.set_cons_zero, List.set_cons_succ]
      refine tu 16 ⟨some 74, .fieldAddr 108 (.tmp 3) 0, 0, _, _, some (7, true)⟩ rfl (by kernel_rfl) (by rfl) ?_
      try simp only [Act.put, List.setIfInBounds_toArray, List.set_cons_zero, List.set_cons_succ]
      refine tu 17 ⟨some 75, .load 9 (.tmp 74), 9, _, _, some (7, true)⟩ rfl (by kernel_rfl) (by rfl) ?_
      try simp only [Act.put, List.setIfInBounds_toArray, List.set_cons_zero, List.set_cons_succ]
      refine tu 18 ⟨some 76, .binOp .eql 9 (.tmp 73) (.tmp 75) 9, 4, _, _, some (7, true)⟩ rfl (by kernel_rfl) (by rfl) ?_
      try simp only [Act.put, List.setIfInBounds_toArray, List.set_cons_zero, List.set_cons_succ]
      refine tk 19 ⟨some 77, .pick (.tmp 65) (.tmp 76) (.const (.bool false)), 4, _, _, none⟩ ?vq207 rfl (by kernel_rfl) (.inl ⟨by rfl, ?hq207⟩) ?rq207
      case hq207 => intro W hSw; go_simp; (try with_reducible rfl)
      try simp only [Act.put, List.setIfInBounds_toArray, List.set_cons_zero, List.set_cons_succ]
      refine tk 20 ⟨some 78, .move (.tmp 77), 4, _, _, none⟩ ?vq208 rfl (by kernel_rfl) (.inl ⟨by rfl, ?hq208⟩) ?rq208
      case hq208 => intro W hSw; go_simp; (try with_reducible rfl)
      try simp only [Act.put, List.setIfInBounds_toArray, List.set_cons_zero, List.set_cons_succ]
      refine tu 21 ⟨some 79, .move (.tmp 0), 122, _, _, some (20, true)⟩ rfl (by kernel_rfl) (by rfl) ?_
      try simp only [Act.put, List.setIfInBounds_toArray, List.set_cons_zero, List.set_cons_succ]
      refine tu 22 ⟨some 80, .nilCheck (.tmp 79), 0, _, _, some (20, true)⟩ rfl (by kernel_rfl) (by rfl) ?_
      try simp only [Act.put, List.setIfInBounds_toArray, List.set_cons_zero, List.set_cons_succ]
      refine tu 23 ⟨some 81, .fieldAddr 124 (.tmp 80) 1, 0, _, _, some (20, true)⟩ rfl (by kernel_rfl) (by rfl) ?_
      try simp only [Act.put, List.setIfInBounds_toArray, List.set_cons_zero, List.set_cons_succ]
      refine tu 24 ⟨some 82, .load 34 (.tmp 81), 34, _, _, some (20, true)⟩ rfl (by kernel_rfl) (by rfl) ?_
      try simp only [Act.put, List.setIfInBounds_toArray, List.set_cons_zero, List.set_cons_succ]
      refine tu 25 ⟨some 83, .move (.tmp 5), 3, _, _, some (20, true)⟩ rfl (by kernel_rfl) (by rfl) ?_
      try simp only [Act.put, List.setIfInBounds_toArray, List.set_cons_zero, List.set_cons_succ]
      refine tu 26 ⟨some 84, .indexAddr 34 (.tmp 82) (.tmp 83), 0, _, _, some (20, true)⟩ rfl (by kernel_rfl) (by rfl) ?_
      try simp only [Act.put, List.setIfInBounds_toArray, List.set_cons_zero, List.set_cons_succ]
      refine tu 27 ⟨some 85, .fieldAddr 108 (.tmp 84) 1, 0, _, _, some (20, true)⟩ rfl (by kernel_rfl) (by rfl) ?_
      try simp only [Act.put, List.setIfInBounds_toArray, List.set_cons_zero, List.set_cons_succ]
      refine tu 28 ⟨some 86, .load 3 (.tmp 85), 3, _, _, some (20, true)⟩ rfl (by kernel_rfl) (by rfl) ?_
      try simp only [Act.put, List.setIfInBounds_toArray, List.set_cons_zero, List.set_cons_succ]
      refine tu 29 ⟨some 87, .fieldAddr 108 (.tmp 3) 1, 0, _, _, some (20, true)⟩ rfl (by kernel_rfl) (by rfl) ?_
      try simp only [Act.put, List.setIfInBounds_toArray, List.set_cons_zero, List.set_cons_succ]
      refine tu 30 ⟨some 88, .load 3 (.tmp 87), 3, _, _, some (20, true)⟩ rfl (by kernel_rfl) (by rfl) ?_
      try simp only [Act.put, List.setIfInBounds_toArray, List.set_cons_zero, List.set_cons_succ]
      refine tu 31 ⟨some 89, .binOp .eql 3 (.tmp 86) (.tmp 88) 3, 4, _, _, some (20, true)⟩ rfl (by kernel_rfl) (by rfl) ?_
      try simp only [Act.put, List.setIfInBounds_toArray, List.set_cons_zero, List.set_cons_succ]
      refine tk 32 ⟨some 90, .pick (.tmp 78) (.tmp 89) (.const (.bool false)), 4, _, _, none⟩ ?vq209 rfl (by kernel_rfl) (.inl ⟨by rfl, ?hq209⟩) ?rq209
      case hq209 => intro W hSw; go_simp; (try with_reducible rfl)
      try simp only [Act.put, List.setIfInBounds_toArray, List.set_cons_zero, List.set_cons_succ]
      refine wpAnyH_done (by kernel_rfl) ?_ _
      have Fl := Lib.hid hHeld
      clear hHeld
      go_wp2_with fail
      go_meet
      refine ⟨false, _, rfl, rfl, ⟨fun h => (by cases h), fun ⟨z, hz, _⟩ => ?_⟩, F3.out.trans Fl.out (fun _ h => h.elim)⟩
      rw [← Hn.out, List.getElem?_eq_none (Nat.le_refl _)] at hz
      cases hz
  case rest =>
  obtain ⟨b, W4, rfl, rfl, hsm, fk⟩ := hcut
  have F4 := Lib.hid fk
  have Hsm := Lib.hid hsm
  clear fk hsm F3
  have hok : aggOk r.agg = true := by rw [← Hr.out]; exact Hab.out
  have hkl : k ≤ l.length := by rw [Hn.out]; exact hk
  have HadF : Hid (∀ j m, adF A6 m j → m ≤ n - k → j < rb ∧ j ≠ g) := fun j m hj hm => by
    have hA : adF A n j := by
      obtain ⟨h0, ad, e, hb⟩ := hj
      refine ⟨by omega, ?_⟩
      rcases hA6 with rfl | rfl
      · exact ⟨ad, e, hb⟩
      · cases A with
        | none => cases e
        | some a =>
          simp only [Option.map_some, Option.some.injEq] at e
          subst e
          exact ⟨a, rfl, by rw [← hb, block_of_add]⟩
    have h1 := (Ho.out.lt j (adF_row j hA)).2
    refine ⟨by rw [← Hrb.out]; exact h1, fun e => ?_⟩
    exact own_blk_ne Ho.out Hb.out (by decide) (by rw [← e]; exact adF_row j hA)
  go_upto_if 90 with fail
  go_cut [6] (fun s6 wx => ∃ (A8 : Option Addr) (m8 c8 : Nat) (rest : List RecV) (y1 y2 y3 y4 y5 : Int) (W5 : World), W5 = wx ∧ s6 = .slice A8 m8 c8 ∧ Rd wx 7 A8 m8 (rcells rest) ∧ (∀ j, adF A8 m8 j → j ≠ g) ∧ Blk wx rb 108 #[.string rn, .int .i64 rs, .int .i64 y1, .int .i64 y2, .int .u64 y3, .int .i64 y4, .int .i64 y5] ∧ AddAt l k r rest ⟨rn, rs, ⟨y1, y2, y3, y4, y5⟩⟩ ∧ k + m8 ≤ n ∧ Fr (fun j => j = rb) W1 wx)
  case first =>
    cases b with
    | false =>
      go_wp2_with fail
      go_meet
      refine ⟨A6, n - k, c6, l.drop k, r1, r2, r3, r4, r5, W4, rfl, rfl, R6.out _ F4.out, fun j hj => (HadF.out j _ hj (Nat.le_refl _)).2, B1.out.fr F4.out (fun h => h), ⟨?_, fun x hx => ?_⟩, by omega, F4.out.mono (fun _ h => h.elim)⟩
      · rw [insR_new Hall.out hkl (fun x hx => ⟨Hnot.out x hx, fun hs => by cases Hsm.out.2 ⟨x, hx, hs⟩⟩), mgM_none hok, Hr.out]
      · rcases List.mem_append.1 hx with hx | hx
        · exact Hwf.out x (List.mem_of_mem_take hx)
        · rcases List.mem_cons.1 hx with rfl | hx
          · rw [Hr.out]; exact Hrw.out
          · exact Hwf.out x (List.mem_of_mem_drop hx)
    | true =>
      obtain ⟨x, hx, hsk⟩ := Hsm.out.1 rfl
      have hlt : k < n := by rw [← Hn.out]; exact (List.getElem?_eq_some_iff.1 hx).1
      have hkI2 : 0 ≤ (k : Int) ∧ (k : Int) < (n : Int) := by omega
      have hkw : IntKind.i64.wrap ((k : Int) + 1) = (k : Int) + 1 := by simp [IntKind.wrap, IntKind.signed, IntKind.bits]; omega
      have hkI3 : 0 ≤ (k : Int) + 1 ∧ (k : Int) + 1 ≤ (n : Int) ∧ (k : Int) + 1 ≤ (c : Int) := by omega
      have hxw := Hwf.out x (mem_of_get hx)
      have hYw : (mergeL [x.agg, r.agg]).wf := mergeL_wf (fun a ha => by
        rcases List.mem_cons.1 ha with rfl | ha
        · exact hxw.2.1
        · rw [List.mem_singleton] at ha
          rw [ha]
          exact Hrw.out.2.1)
      have hYe : mgM (some x.agg) r.agg = mergeL [x.agg, r.agg] := rfl
      have HMg : Hid (∀ W, Calls Tryz.prog 151 #[.agg #[.int .i64 x.agg.count, .int .i64 x.agg.hi, .int .u64 x.agg.lo, .int .i64 x.agg.min, .int .i64 x.agg.max], .agg #[.int .i64 r1, .int .i64 r2, .int .u64 r3, .int .i64 r4, .int .i64 r5]] W fun r' w' => r' = .returned (mergeL [x.agg, r.agg]).val ∧ Below W.heap.size W w') := fun W => by
        have h := rmerge_any x.agg r.agg hxw.2.1 Hrw.out.2.1 W
        rw [← Hr.out] at h ⊢
        exact h
      obtain ⟨Y, hY⟩ : ∃ Y, mergeL [x.agg, r.agg] = Y := ⟨_, rfl⟩
      rw [hY] at HMg hYw hYe
      obtain ⟨y1, y2, y3, y4, y5⟩ := Y
      unfold AggV.val at HMg
      simp only at HMg
      have Hres : Hid (AddAt l k r (l.drop (k + 1)) ⟨rn, rs, ⟨y1, y2, y3, y4, y5⟩⟩) := by
        refine ⟨?_, fun z hz => ?_⟩
        · rw [insR_old Hall.out hx (Hnot.out x hx) hsk, hYe, ← Hr.out]
        · rcases List.mem_append.1 hz with hz | hz
          · exact Hwf.out z (List.mem_of_mem_take hz)
          · rcases List.mem_cons.1 hz with rfl | hz
            · have h := Hrw.out
              rw [← Hr.out] at h
              exact ⟨h.1, hYw, h.2.2⟩
            · exact Hwf.out z (List.mem_of_mem_drop hz)
      obtain ⟨ad, x', rfl, hx', _, _, d2, d3, d4, d5, d6⟩ := (HRd.out _ F4.out).rec_ hlt
      obtain rfl : x = x' := by rw [hx] at hx'; exact Option.some.inj hx'
      have hadb : (ad.add (k * 7)).block ≠ rb := fun e => by
        have h1 := (Ho.out.lt ad.block rfl).2
        rw [block_of_add] at e
        rw [← Hrb.out] at e
        omega
      have B4 := B1.out.fr F4.out (fun h => h)
      have HC8 : Hid (∀ W, Fr (fun j => j = rb) W4 W → W.cell? ⟨g, 1, none⟩ = some (.slice (some ad) n c) ∧ W.cell? ⟨(ad.add (k * 7)).block, (ad.add (k * 7)).off + 2, none⟩ = some (.int .i64 x.agg.count) ∧ W.cell? ⟨(ad.add (k * 7)).block, (ad.add (k * 7)).off + 3, none⟩ = some (.int .i64 x.agg.hi) ∧ W.cell? ⟨(ad.add (k * 7)).block, (ad.add (k * 7)).off + 4, none⟩ = some (.int .u64 x.agg.lo) ∧ W.cell? ⟨(ad.add (k * 7)).block, (ad.add (k * 7)).off + 5, none⟩ = some (.int .i64 x.agg.min) ∧ W.cell? ⟨(ad.add (k * 7)).block, (ad.add (k * 7)).off + 6, none⟩ = some (.int .i64 x.agg.max)) := fun W f =>
        ⟨f.cell (HC.out _ F4.out).2.2.2.2.2.2.2.2 hgr, f.cell d2 hadb, f.cell d3 hadb, f.cell d4 hadb, f.cell d5 hadb, f.cell d6 hadb⟩
      obtain ⟨x1, hx1⟩ : ∃ v, x.agg.count = v := ⟨_, rfl⟩
      obtain ⟨x2, hx2⟩ : ∃ v, x.agg.hi = v := ⟨_, rfl⟩
      obtain ⟨x3, hx3⟩ : ∃ v, x.agg.lo = v := ⟨_, rfl⟩
      obtain ⟨x4, hx4⟩ : ∃ v, x.agg.min = v := ⟨_, rfl⟩
      obtain ⟨x5, hx5⟩ : ∃ v, x.agg.max = v := ⟨_, rfl⟩
      rw [hx1, hx2, hx3, hx4, hx5] at HC8 HMg
      have u2 := B4.cell 2
      have u3 := B4.cell 3
      have u4 := B4.cell 4
      have u5 := B4.cell 5
      have u6 := B4.cell 6
      simp only [List.getElem?_toArray, List.getElem?_cons_succ, List.getElem?_cons_zero] at u2 u3 u4 u5 u6
      have HB4 := Lib.hid B4
      clear hx hsk hx' hYw hYe hxw hY d2 d3 d4 d5 d6 hx1 hx2 hx3 hx4 hx5 B4
      go_wp2_with fail
      refine wp_region_held_drew (S := fun W => Fr (fun j => j = rb) W4 W) (by kernel_rfl) ((Fr.refl _ W4).drew) (fun hHeld => ?_)
      refine tk 0 ⟨some 91, .move (.tmp 0), 122, _, _, none⟩ ?vq210 rfl (by kernel_rfl) (.inl ⟨by rfl, ?hq210⟩) ?rq210
      case hq210 => intro W hSw; go_simp; (try with_reducible rfl)
      try simp only [Act.put, List.setIfInBounds_toArray, List.set_cons_zero, List.set_cons_succ]
      refine tk 1 ⟨some 92, .nilCheck (.tmp 91), 0, _, _, none⟩ ?vq211 rfl (by kernel_rfl) (.inl ⟨by rfl, ?hq211⟩) ?rq211
      case hq211 => intro W hSw; go_simp; (try with_reducible rfl)
      try simp only [Act.put, List.setIfInBounds_toArray, List.set_cons_zero, List.set_cons_succ]
      refine tk 2 ⟨some 93, .fieldAddr 124 (.tmp 92) 1, 0, _, _, none⟩ ?vq212 rfl (by kernel_rfl) (.inl ⟨by rfl, ?hq212⟩) ?rq212
      case hq212 => intro W hSw; go_simp; (try with_reducible rfl)
      try simp only [Act.put, List.setIfInBounds_toArray, List.set_cons_zero, List.set_cons_succ]
      refine tk 3 ⟨some 94, .load 34 (.tmp 93), 34, _, _, none⟩ ?vq213 rfl (by kernel_rfl) (.inl ⟨by rfl, ?hq213⟩) ?rq213
      case hq213 => intro W hSw; (try obtain ⟨t1, t2, t3, t4, t5, t6⟩ := HC8.out W hSw); go_simp; (try with_reducible rfl)
      try simp only [Act.put, List.setIfInBounds_toArray, List.set_cons_zero, List.set_cons_succ]
      refine tk 4 ⟨some 95, .move (.tmp 5), 3, _, _, none⟩ ?vq214 rfl (by kernel_rfl) (.inl ⟨by rfl, ?hq214⟩) ?rq214
      case hq214 => intro W hSw; go_simp; (try with_reducible rfl)
      try simp only [Act.put, List.setIfInBounds_toArray, List.set_cons_zero, List.set_cons_succ]
      refine tk 5 ⟨some 96, .indexAddr 34 (.tmp 94) (.tmp 95), 0, _, _, none⟩ ?vq215 rfl (by kernel_rfl) (.inl ⟨by rfl, ?hq215⟩) ?rq215
      case hq215 => intro W hSw; (try obtain ⟨t1, t2, t3, t4, t5, t6⟩ := HC8.out W hSw); go_simp; (try with_reducible rfl)
      try simp only [Act.put, List.setIfInBounds_toArray, List.set_cons_zero, List.set_cons_succ]
      refine tk 6 ⟨some 97, .fieldAddr 108 (.tmp 96) 2, 0, _, _, none⟩ ?vq216 rfl (by kernel_rfl) (.inl ⟨by rfl, ?hq216⟩) ?rq216
      case hq216 => intro W hSw; go_simp; (try with_reducible rfl)
      try simp only [Act.put, List.setIfInBounds_toArray, List.set_cons_zero, List.set_cons_succ]
      refine tk 7 ⟨some 98, .load 106 (.tmp 97), 106, _, _, none⟩ ?vq217 rfl (by kernel_rfl) (.inl ⟨by rfl, ?hq217⟩) ?rq217
      case hq217 => intro W hSw; (try obtain ⟨t1, t2, t3, t4, t5, t6⟩ := HC8.out W hSw); go_simp; (try with_reducible rfl)
      try simp only [Act.put, List.setIfInBounds_toArray, List.set_cons_zero, List.set_cons_succ]
      refine tk 8 ⟨some 99, .fieldAddr 108 (.tmp 3) 2, 0, _, _, none⟩ ?vq218 rfl (by kernel_rfl) (.inl ⟨by rfl, ?hq218⟩) ?rq218
      case hq218 => intro W hSw; go_simp; (try with_reducible rfl)
      try simp only [Act.put, List.setIfInBounds_toArray, List.set_cons_zero, List.set_cons_succ]
      refine wpAnyH_ready (rs := [9]) (by kernel_rfl) (by simp) ?_
      refine AllReadyH.cons (o := ⟨some 100, .load 106 (.tmp 99), 106, _, _, none⟩) rfl (fun K hK => ?_) AllReadyH.nil
      go_simp
      refine hK.out _ _ (hHeld) (fun hHeld => ?_)
      clear hK K
      try simp only [Act.put, List.setIfInBounds_toArray, List.set_cons_zero, List.set_cons_succ]
      refine wpAnyH_ready (rs := [10]) (by kernel_rfl) (by simp) ?_
      refine AllReadyH.cons (o := ⟨some 101, .call ⟨.value (.func 151), #[.tmp 98, .tmp 100], #[106, 106]⟩, 106, _, _, none⟩) rfl (fun K hK => ?_) AllReadyH.nil
      go_simp
      go_wp2_with (first | (go_at_call 151; refine (HMg.out _).mono ?_; rintro r wm ⟨rfl, bm⟩))
      have Bm := Lib.hid (HB4.out.drew.below bm)
      have v2 := Bm.out.cell 2
      have v3 := Bm.out.cell 3
      have v4 := Bm.out.cell 4
      have v5 := Bm.out.cell 5
      have v6 := Bm.out.cell 6
      have z2 := Bm.out.frozen 2
      have z3 := Bm.out.frozen 3
      have z4 := Bm.out.frozen 4
      have z5 := Bm.out.frozen 5
      have z6 := Bm.out.frozen 6
      simp only [List.getElem?_toArray, List.getElem?_cons_succ, List.getElem?_cons_zero] at v2 v3 v4 v5 v6
      refine hK.out _ _ (hHeld.trans (Fr.b0 bm) (fun _ h => h.elim)) (fun hHeld => ?_)
      clear hK K
      try simp only [Act.put, List.setIfInBounds_toArray, List.set_cons_zero, List.set_cons_succ]
      refine tk 11 ⟨some 102, .fieldAddr 108 (.tmp 3) 2, 0, _, _, none⟩ ?vq219 rfl (by kernel_rfl) (.inl ⟨by rfl, ?hq219⟩) ?rq219
      case hq219 => intro W hSw; go_simp; (try with_reducible rfl)
      try simp only [Act.put, List.setIfInBounds_toArray, List.set_cons_zero, List.set_cons_succ]
      refine wpAnyH_ready (rs := [12]) (by kernel_rfl) (by simp) ?_
      refine AllReadyH.cons (o := ⟨none, .store 106 (.tmp 102) (.tmp 101), 0, _, _, none⟩) rfl (fun K hK => ?_) AllReadyH.nil
      go_simp
      refine hK.out _ _ (hHeld.five rfl _ _ _ _ _) (fun hHeld => ?_)
      clear hK K
      try simp only [Act.put, List.setIfInBounds_toArray, List.set_cons_zero, List.set_cons_succ]
      refine wpAnyH_done (by kernel_rfl) ?_ _
      have Fl := Lib.hid hHeld
      have Bl := Lib.hid (Bm.out.five (a := .int .i64 y1) (b := .int .i64 y2) (c := .int .u64 y3) (d := .int .i64 y4) (e := .int .i64 y5))
      clear hHeld
      obtain ⟨W8, hW8⟩ : ∃ W8, W8 = (((((wm.setCell ⟨rb, 2, none⟩ (.int .i64 y1)).setCell ⟨rb, 3, none⟩ (.int .i64 y2)).setCell ⟨rb, 4, none⟩ (.int .u64 y3)).setCell ⟨rb, 5, none⟩ (.int .i64 y4)).setCell ⟨rb, 6, none⟩ (.int .i64 y5)) := ⟨_, rfl⟩
      rw [← hW8] at Fl Bl ⊢
      have p1 := (HC8.out W8 Fl.out).1
      have HRr : Rd W8 7 (some ad) n (rcells l) := (HRd.out W4 F4.out).fr Fl.out (fun j hj e => by
        have h1 := (Ho.out.lt j (adF_row j hj)).2
        rw [Hrb.out] at h1
        omega)
      have hcut2 := HRr.cut (show k + 1 ≤ n by omega) hnc
      rw [show (rcells l).drop ((k + 1) * 7) = rcells (l.drop (k + 1)) from vflat_dropR l (k + 1)] at hcut2
      have Hcut := Lib.hid hcut2
      have Hadg : Hid (∀ j, j = ad.block → j ≠ g) := fun j hj e => own_blk_ne Ho.out Hb.out (by decide) (by rw [← e, hj]; rfl)
      clear hW8 HRr hcut2 v2 v3 v4 v5 v6 z2 z3 z4 z5 z6 u2 u3 u4 u5 u6 bm Bm HB4
      have F8 : Hid (Fr (fun j => j = rb) W1 W8) := (F4.out.mono (fun _ h => h.elim)).trans Fl.out (fun _ h => .inl h)
      by_cases hck : c = k + 1
      case pos =>
        subst hck
        have hn1 : n = k + 1 := by omega
        have Hc0 : Hid (Rd W8 7 (some ad) 0 (rcells (l.drop (k + 1)))) := by
          have h := Hcut.out
          first | rw [if_pos rfl] at h | rw [if_pos trivial] at h
          rw [show n - (k + 1) = 0 by omega] at h
          exact h
        clear Hcut
        go_wp2_with fail
        go_meet
        exact ⟨some ad, 0, 0, l.drop (k + 1), y1, y2, y3, y4, y5, W8, rfl, by first | rfl | (congr 1; omega), Hc0.out, fun j hj => absurd hj.1 (Nat.lt_irrefl 0), Bl.out, Hres.out, by omega, F8.out⟩
      case neg =>
        have Hc1 : Hid (Rd W8 7 (some (ad.add ((k + 1) * 7))) (n - (k + 1)) (rcells (l.drop (k + 1)))) := by
          have h := Hcut.out
          rw [if_neg hck] at h
          exact h
        clear Hcut
        go_wp2_with fail
        go_meet
        exact ⟨some (ad.add ((k + 1) * 7)), n - (k + 1), c - (k + 1), l.drop (k + 1), y1, y2, y3, y4, y5, W8, rfl, by first | rfl | (congr 1; omega), Hc1.out, fun j hj => Hadg.out j (by
          obtain ⟨_, a, e, hb⟩ := hj
          injection e with e
          subst e
          rw [← hb, block_of_add]), Bl.out, Hres.out, by omega, F8.out⟩
  case rest =>
  obtain ⟨A8, m8, c8, rest, y1, y2, y3, y4, y5, W5, rfl, rfl, r8, had8, b5, hadd, hm8, f5⟩ := hcut
  have F5 := Lib.hid f5
  have Hadd := Lib.hid hadd
  have B5 := Lib.hid b5
  have FW : Hid (Fr (fun j => j = rb) w W5) := (F1.out.mono (fun _ h => h.elim)).trans f5 (fun _ h => .inl h)
  have Bg5 := Lib.hid (Hb.out.fr FW.out hgr)
  have hgl := Bg5.out.lt
  have hAg : ∀ j, adF A n j → j ≠ g := fun j hj e => own_blk_ne Ho.out Hb.out (by decide) (by rw [← e]; exact adF_row j hj)
  have HRT : Hid (∀ W, Fr (fun j => j = g) W5 W → Rd W 7 A k (rcells (l.take k))) := fun W f => by
    have h1 : Rd W5 7 A n (rcells l) := (HRd.out W1 (Fr.refl _ _)).fr f5 (fun j hj e => by
      have h1 := (Ho.out.lt j (adF_row j hj)).2
      rw [Hrb.out] at h1
      omega)
    have h2 := (h1.fr f hAg).take hk
    rw [vflat_takeR] at h2
    exact h2
  have HR8 : Hid (∀ W, Fr (fun j => j = g) W5 W → Rd W 7 A8 m8 (rcells rest)) := fun W f => r8.fr f had8
  have HC5 : Hid (∀ W, Fr (fun j => j = g) W5 W → W.cell? ⟨rb, 0, none⟩ = some (.string rn) ∧ W.cell? ⟨rb, 1, none⟩ = some (.int .i64 rs) ∧ W.cell? ⟨rb, 2, none⟩ = some (.int .i64 y1) ∧ W.cell? ⟨rb, 3, none⟩ = some (.int .i64 y2) ∧ W.cell? ⟨rb, 4, none⟩ = some (.int .u64 y3) ∧ W.cell? ⟨rb, 5, none⟩ = some (.int .i64 y4) ∧ W.cell? ⟨rb, 6, none⟩ = some (.int .i64 y5)) := fun W f => by
    have b := B5.out.fr f (fun e => hgr e.symm)
    exact ⟨(b).cell 0, (b).cell 1, (b).cell 2, (b).cell 3, (b).cell 4, (b).cell 5, (b).cell 6⟩
  have q40 := Bg5.out.cell 1
  have q41 := fun o => (Bg5.out.alloc o).cell 1
  simp only [List.getElem?_toArray, List.getElem?_cons_succ, List.getElem?_cons_zero] at q40 q41
  obtain ⟨i0, hi, hz0, hz1, hz2⟩ := info_parts info_rec
  have hlenV : (l.take k ++ (⟨rn, rs, ⟨y1, y2, y3, y4, y5⟩⟩ : RecV) :: rest).length = k + 1 + m8 := by
    rw [List.length_append, List.length_cons, List.length_take, Hn.out, r8.recs_len]
    omega
  have HlV := Lib.hid hlenV
  have HVs : Hid (V = l.take k ++ (⟨rn, rs, ⟨y1, y2, y3, y4, y5⟩⟩ : RecV) :: rest) := (HIn.out (by trivial)).trans hadd.1
  have HVo : Hid (Sorted V) := by show Sorted V; rw [HIn.out (by trivial)]; exact insR_sorted mgM Hs.out
  have HcV : Hid (rcells (l.take k ++ (⟨rn, rs, ⟨y1, y2, y3, y4, y5⟩⟩ : RecV) :: rest) = rcells (l.take k) ++ [.string rn, .int .i64 rs, .int .i64 y1, .int .i64 y2, .int .u64 y3, .int .i64 y4, .int .i64 y5] ++ rcells rest) := by
    show _ = _
    unfold rcells
    rw [List.flatMap_append, List.flatMap_cons, List.append_assoc]
    rfl
  have hkI4 : 0 ≤ (k : Int) ∧ (k : Int) ≤ (n : Int) ∧ (k : Int) ≤ (c : Int) := by omega
  have HrbW := Lib.hid (Nat.le_of_eq Hrb.out)
  clear f5 hadd b5 r8 hlenV hAg had8 F4 R6 B1 Hnot Hall Hsm
  go_wp2_with fail
  refine wp_region_held_drew (S := fun W => Fr (fun j => j = g) W5 W) (by kernel_rfl) ((Fr.refl _ W5).drew) (fun hHeld => ?_)
  refine tk 0 ⟨some 110, .move (.tmp 0), 122, _, _, none⟩ ?vq220 rfl (by kernel_rfl) (.inl ⟨by rfl, ?hq220⟩) ?rq220
  case hq220 => intro W hSw; go_simp; (try with_reducible rfl)
  try simp only [Act.put, List.setIfInBounds_toArray, List.set_cons_zero, List.set_cons_succ]
  refine tk 1 ⟨some 111, .move (.tmp 0), 122, _, _, none⟩ ?vq221 rfl (by kernel_rfl) (.inl ⟨by rfl, ?hq221⟩) ?rq221
  case hq221 => intro W hSw; go_simp; (try with_reducible rfl)
  try simp only [Act.put, List.setIfInBounds_toArray, List.set_cons_zero, List.set_cons_succ]
  refine tk 2 ⟨some 112, .nilCheck (.tmp 111), 0, _, _, none⟩ ?vq222 rfl (by kernel_rfl) (.inl ⟨by rfl, ?hq222⟩) ?rq222
  case hq222 => intro W hSw; go_simp; (try with_reducible rfl)
  try simp only [Act.put, List.setIfInBounds_toArray, List.set_cons_zero, List.set_cons_succ]
  refine tk 3 ⟨some 113, .fieldAddr 124 (.tmp 112) 1, 0, _, _, none⟩ ?vq223 rfl (by kernel_rfl) (.inl ⟨by rfl, ?hq223⟩) ?rq223
  case hq223 => intro W hSw; go_simp; (try with_reducible rfl)
  try simp only [Act.put, List.setIfInBounds_toArray, List.set_cons_zero, List.set_cons_succ]
  refine tk 5 ⟨some 115, .move (.tmp 5), 3, _, _, none⟩ ?vq224 rfl (by kernel_rfl) (.inl ⟨by rfl, ?hq224⟩) ?rq224
  case hq224 => intro W hSw; go_simp; (try with_reducible rfl)
  try simp only [Act.put, List.setIfInBounds_toArray, List.set_cons_zero, List.set_cons_succ]
  refine tk 8 ⟨some 118, .load 108 (.tmp 3), 108, _, _, none⟩ ?vq225 rfl (by kernel_rfl) (.inl ⟨by rfl, ?hq225⟩) ?rq225
  case hq225 => intro W hSw; (try obtain ⟨q0, q1, q2, q3, q4, q5, q6⟩ := HC5.out W hSw); go_simp; (try with_reducible rfl)
  try simp only [Act.put, List.setIfInBounds_toArray, List.set_cons_zero, List.set_cons_succ]
  refine tk 11 ⟨some 121, .move (.tmp 6), 34, _, _, none⟩ ?vq226 rfl (by kernel_rfl) (.inl ⟨by rfl, ?hq226⟩) ?rq226
  case hq226 => intro W hSw; go_simp; (try with_reducible rfl)
  try simp only [Act.put, List.setIfInBounds_toArray, List.set_cons_zero, List.set_cons_succ]
  refine wpAnyH_ready (rs := [4, 9]) (by kernel_rfl) (by simp) ?_
  refine AllReadyH.cons (o := ⟨some 114, .load 34 (.tmp 113), 34, _, _, none⟩) rfl (fun K hK => ?_) ?_
  · go_simp
    refine hK.out _ _ (hHeld) (fun hHeld => ?_)
    clear hK K
    try simp only [Act.put, List.setIfInBounds_toArray, List.set_cons_zero, List.set_cons_succ]
    refine tk 6 ⟨some 116, .slice 34 (.tmp 114) none (some (.tmp 115)) none, 34, _, _, none⟩ ?vq227 rfl (by kernel_rfl) (.inl ⟨by rfl, ?hq227⟩) ?rq227
    case hq227 => intro W hSw; (try obtain ⟨q0, q1, q2, q3, q4, q5, q6⟩ := HC5.out W hSw); go_simp; (try with_reducible rfl)
    try simp only [Act.put, List.setIfInBounds_toArray, List.set_cons_zero, List.set_cons_succ]
    refine wpAnyH_ready (rs := [7, 9]) (by kernel_rfl) (by simp) ?_
    refine AllReadyH.cons (o := ⟨some 117, .call ⟨.builtin .append, #[.const (.slice none 0 0), .tmp 116], #[34, 34]⟩, 34, _, _, none⟩) rfl (fun K hK => ?_) ?_
    · rw [if_pos (by rfl)]
      refine op_app3 _ _ 34 rfl 108 i0 _ 7 64 Tryz.underlying34 hi hz0 hz1 hz2 rfl (by decide) (.slice none 0 0) 0 [] rfl W5.heap.size hHeld.size (World.ownsRow_nil _ _ _ _) _ _ _ (rcells (l.take k)) rfl (HRT.out _ hHeld) (rcells_one _) (by unfold maxLen; omega) (by omega) (fun A5 c5 u5 ho5 hm5 _ => ?_)
      simp only [Nat.zero_add, List.nil_append] at ho5
      try simp only [Nat.zero_add]
      have ho5 := Lib.hid ho5
      have bgc := Lib.hid (Bg5.out.drew.fr hm5.fr (fun h => by cases h))
      refine hK.out _ _ (hHeld.trans hm5.fr (fun i hi => by cases hi)) (fun hHeld => ?_)
      clear hK K
      try simp only [Act.put, List.setIfInBounds_toArray, List.set_cons_zero, List.set_cons_succ]
      refine wpAnyH_ready (rs := [9]) (by kernel_rfl) (by simp) ?_
      refine AllReadyH.cons (o := ⟨some 119, .buildSlice 34 1 #[(0, .tmp 118)], 34, _, _, none⟩) rfl (fun K hK => ?_) AllReadyH.nil
      go_simp
      have rbx := Lib.hid (Rd.newS (w := u5) (k := u5.heap.size) rfl [.string rn, .int .i64 rs, .int .i64 y1, .int .i64 y2, .int .u64 y3, .int .i64 y4, .int .i64 y5] 108 1 7 rfl)
      have ho5 := Lib.hid (own_fr0 ho5.out (Fr.none_alloc u5 (.cells #[.string rn, .int .i64 rs, .int .i64 y1, .int .i64 y2, .int .u64 y3, .int .i64 y4, .int .i64 y5] 108)))
      have bgc := Lib.hid (bgc.out.alloc (.cells #[.string rn, .int .i64 rs, .int .i64 y1, .int .i64 y2, .int .u64 y3, .int .i64 y4, .int .i64 y5] 108))
      refine hK.out _ _ (hHeld.trans (Fr.none_alloc _ _) (fun _ h => h.elim)) (fun hHeld => ?_)
      clear hK K
      try simp only [Act.put, List.setIfInBounds_toArray, List.set_cons_zero, List.set_cons_succ]
      refine wpAnyH_ready (rs := [10]) (by kernel_rfl) (by simp) ?_
      refine AllReadyH.cons (o := ⟨some 120, .call ⟨.builtin .append, #[.tmp 117, .tmp 119], #[34, 34]⟩, 34, _, _, none⟩) rfl (fun K hK => ?_) AllReadyH.nil
      rw [if_pos (by rfl)]
      refine op_app3 _ _ 34 rfl 108 i0 _ 7 64 Tryz.underlying34 hi hz0 hz1 hz2 rfl (by decide) (.slice A5 k c5) k (rcells (l.take k)) rfl W5.heap.size hHeld.size ho5.out (some ⟨u5.heap.size, 0, none⟩) 1 1 [.string rn, .int .i64 rs, .int .i64 y1, .int .i64 y2, .int .u64 y3, .int .i64 y4, .int .i64 y5] rfl rbx.out (by intro u hu; simp at hu; rcases hu with rfl | rfl | rfl | rfl | rfl | rfl | rfl <;> rfl) (by unfold maxLen; omega) (by omega) (fun A6 c6 u6 ho6 hm6 _ => ?_)
      have ho6 := Lib.hid ho6
      have bgc := Lib.hid (bgc.out.fr hm6.fr (fun h => absurd (ho5.out.lt g h).1 (Nat.not_le.2 hgl)))
      refine hK.out _ _ (hHeld.trans hm6.fr (fun i hi => .inr (ho5.out.lt i hi).1)) (fun hHeld => ?_)
      clear hK K
      try simp only [Act.put, List.setIfInBounds_toArray, List.set_cons_zero, List.set_cons_succ]
      refine wpAnyH_ready (rs := [12]) (by kernel_rfl) (by simp) ?_
      refine AllReadyH.cons (o := ⟨some 122, .call ⟨.builtin .append, #[.tmp 120, .tmp 121], #[34, 34]⟩, 34, _, _, none⟩) rfl (fun K hK => ?_) AllReadyH.nil
      rw [if_pos (by rfl)]
      refine op_app3 _ _ 34 rfl 108 i0 _ 7 64 Tryz.underlying34 hi hz0 hz1 hz2 rfl (by decide) (.slice A6 (k + 1) c6) (k + 1) (rcells (l.take k) ++ [.string rn, .int .i64 rs, .int .i64 y1, .int .i64 y2, .int .u64 y3, .int .i64 y4, .int .i64 y5]) rfl W5.heap.size hHeld.size ho6.out _ _ _ (rcells rest) rfl (HR8.out _ hHeld) (rcells_one _) (by unfold maxLen; omega) (by omega) (fun A7 c7 u7 ho7 hm7 _ => ?_)
      have ho7 := Lib.hid ho7
      have bgc := Lib.hid (bgc.out.fr hm7.fr (fun h => absurd (ho6.out.lt g h).1 (Nat.not_le.2 hgl)))
      have z1 := bgc.out.cell 1
      have z2 := bgc.out.frozen 1
      simp only [List.getElem?_toArray, List.getElem?_cons_succ, List.getElem?_cons_zero] at z1
      refine hK.out _ _ (hHeld.trans hm7.fr (fun i hi => .inr (ho6.out.lt i hi).1)) (fun hHeld => ?_)
      clear hK K
      try simp only [Act.put, List.setIfInBounds_toArray, List.set_cons_zero, List.set_cons_succ]
      refine tk 13 ⟨some 123, .nilCheck (.tmp 110), 0, _, _, none⟩ ?vq228 rfl (by kernel_rfl) (.inl ⟨by rfl, ?hq228⟩) ?rq228
      case hq228 => intro W hSw; go_simp; (try with_reducible rfl)
      try simp only [Act.put, List.setIfInBounds_toArray, List.set_cons_zero, List.set_cons_succ]
      refine tk 14 ⟨some 124, .fieldAddr 124 (.tmp 123) 1, 0, _, _, none⟩ ?vq229 rfl (by kernel_rfl) (.inl ⟨by rfl, ?hq229⟩) ?rq229
      case hq229 => intro W hSw; go_simp; (try with_reducible rfl)
      try simp only [Act.put, List.setIfInBounds_toArray, List.set_cons_zero, List.set_cons_succ]
      refine wpAnyH_ready (rs := [15]) (by kernel_rfl) (by simp) ?_
      refine AllReadyH.cons (o := ⟨none, .store 34 (.tmp 124) (.tmp 122), 0, _, _, none⟩) rfl (fun K hK => ?_) AllReadyH.nil
      go_simp
      refine hK.out _ _ (hHeld.setCell (.inl rfl) _) (fun hHeld => ?_)
      clear hK K
      try simp only [Act.put, List.setIfInBounds_toArray, List.set_cons_zero, List.set_cons_succ]
      refine wpAnyH_done (by kernel_rfl) ?_ _
      have FE := Lib.hid hHeld
      have HB7 := Lib.hid (bgc.out.set_ 1 (.slice A7 (k + 1 + m8) c7))
      have HO7 := Lib.hid (own_fr (w' := u7.setCell ⟨g, 1, none⟩ (.slice A7 (k + 1 + m8) c7)) ho7.out ((Fr.refl (fun j => j = g) u7).setCell (.inl rfl) _) (fun j hj e => by have h1 := (ho7.out.lt j hj).1; omega))
      clear hHeld z1 z2 bgc hm5 hm6 hm7
      go_wp2_with fail
      go_ret
      refine ⟨rfl, ?_, (FW.out.mono (fun i hi => .inr (by rw [hi]; exact HrbW.out))).trans FE.out (fun _ h => .inl h)⟩
      rw [HVs.out]
      refine ⟨⟨A7, c7, ?_, ?_⟩, Hadd.out.2, by rw [← HVs.out]; exact HVo.out, hge⟩
      · rw [HlV.out]
        exact by simpa using HB7.out
      · rw [HlV.out, HcV.out]
        exact own_up HO7.out (fun j hj => Nat.le_trans (Nat.le_trans hlo FW.out.size) (HO7.out.lt j hj).1)
    refine AllReadyH.cons (o := ⟨some 119, .buildSlice 34 1 #[(0, .tmp 118)], 34, _, _, none⟩) rfl (fun K hK => ?_) AllReadyH.nil
    go_simp
    have rbx := Lib.hid (Rd.newS (w := W5) (k := W5.heap.size) rfl [.string rn, .int .i64 rs, .int .i64 y1, .int .i64 y2, .int .u64 y3, .int .i64 y4, .int .i64 y5] 108 1 7 rfl).drew
    have bgc := Lib.hid ((Bg5.out.alloc (.cells #[.string rn, .int .i64 rs, .int .i64 y1, .int .i64 y2, .int .u64 y3, .int .i64 y4, .int .i64 y5] 108)).drew)
    refine hK.out _ _ (by first | exact ((Fr.refl _ W5).alloc _).drew | exact hHeld.alloc _) (fun hHeld => ?_)
    clear hK K
    try simp only [Act.put, List.setIfInBounds_toArray, List.set_cons_zero, List.set_cons_succ]
    refine wpAnyH_ready (rs := [7]) (by kernel_rfl) (by simp) ?_
    refine AllReadyH.cons (o := ⟨some 117, .call ⟨.builtin .append, #[.const (.slice none 0 0), .tmp 116], #[34, 34]⟩, 34, _, _, none⟩) rfl (fun K hK => ?_) AllReadyH.nil
    rw [if_pos (by rfl)]
    refine op_app3 _ _ 34 rfl 108 i0 _ 7 64 Tryz.underlying34 hi hz0 hz1 hz2 rfl (by decide) (.slice none 0 0) 0 [] rfl W5.heap.size hHeld.size (World.ownsRow_nil _ _ _ _) _ _ _ (rcells (l.take k)) rfl (HRT.out _ hHeld) (rcells_one _) (by unfold maxLen; omega) (by omega) (fun A5 c5 u5 ho5 hm5 _ => ?_)
    simp only [Nat.zero_add, List.nil_append] at ho5
    try simp only [Nat.zero_add]
    have ho5 := Lib.hid ho5
    have rbx := Lib.hid (rbx.out.fr hm5.fr (fun _ _ h => by cases h))
    have bgc := Lib.hid (bgc.out.fr hm5.fr (fun h => by cases h))
    refine hK.out _ _ (hHeld.trans hm5.fr (fun i hi => by cases hi)) (fun hHeld => ?_)
    clear hK K
    try simp only [Act.put, List.setIfInBounds_toArray, List.set_cons_zero, List.set_cons_succ]
    refine wpAnyH_ready (rs := [10]) (by kernel_rfl) (by simp) ?_
    refine AllReadyH.cons (o := ⟨some 120, .call ⟨.builtin .append, #[.tmp 117, .tmp 119], #[34, 34]⟩, 34, _, _, none⟩) rfl (fun K hK => ?_) AllReadyH.nil
    rw [if_pos (by rfl)]
    refine op_app3 _ _ 34 rfl 108 i0 _ 7 64 Tryz.underlying34 hi hz0 hz1 hz2 rfl (by decide) (.slice A5 k c5) k (rcells (l.take k)) rfl W5.heap.size hHeld.size ho5.out (some ⟨W5.heap.size, 0, none⟩) 1 1 [.string rn, .int .i64 rs, .int .i64 y1, .int .i64 y2, .int .u64 y3, .int .i64 y4, .int .i64 y5] rfl rbx.out (by intro u hu; simp at hu; rcases hu with rfl | rfl | rfl | rfl | rfl | rfl | rfl <;> rfl) (by unfold maxLen; omega) (by omega) (fun A6 c6 u6 ho6 hm6 _ => ?_)
    have ho6 := Lib.hid ho6
    have bgc := Lib.hid (bgc.out.fr hm6.fr (fun h => absurd (ho5.out.lt g h).1 (Nat.not_le.2 hgl)))
    refine hK.out _ _ (hHeld.trans hm6.fr (fun i hi => .inr (ho5.out.lt i hi).1)) (fun hHeld => ?_)
    clear hK K
    try simp only [Act.put, List.setIfInBounds_toArray, List.set_cons_zero, List.set_cons_succ]
    refine wpAnyH_ready (rs := [12]) (by kernel_rfl) (by simp) ?_
    refine AllReadyH.cons (o := ⟨some 122, .call ⟨.builtin .append, #[.tmp 120, .tmp 121], #[34, 34]⟩, 34, _, _, none⟩) rfl (fun K hK => ?_) AllReadyH.nil
    rw [if_pos (by rfl)]
    refine op_app3 _ _ 34 rfl 108 i0 _ 7 64 Tryz.underlying34 hi hz0 hz1 hz2 rfl (by decide) (.slice A6 (k + 1) c6) (k + 1) (rcells (l.take k) ++ [.string rn, .int .i64 rs, .int .i64 y1, .int .i64 y2, .int .u64 y3, .int .i64 y4, .int .i64 y5]) rfl W5.heap.size hHeld.size ho6.out _ _ _ (rcells rest) rfl (HR8.out _ hHeld) (rcells_one _) (by unfold maxLen; omega) (by omega) (fun A7 c7 u7 ho7 hm7 _ => ?_)
    have ho7 := Lib.hid ho7
    have bgc := Lib.hid (bgc.out.fr hm7.fr (fun h => absurd (ho6.out.lt g h).1 (Nat.not_le.2 hgl)))
    have z1 := bgc.out.cell 1
    have z2 := bgc.out.frozen 1
    simp only [List.getElem?_toArray, List.getElem?_cons_succ, List.getElem?_cons_zero] at z1
    refine hK.out _ _ (hHeld.trans hm7.fr (fun i hi => .inr (ho6.out.lt i hi).1)) (fun hHeld => ?_)
    clear hK K
    try simp only [Act.put, List.setIfInBounds_toArray, List.set_cons_zero, List.set_cons_succ]
    refine tk 13 ⟨some 123, .nilCheck (.tmp 110), 0, _, _, none⟩ ?vq230 rfl (by kernel_rfl) (.inl ⟨by rfl, ?hq230⟩) ?rq230
    case hq230 => intro W hSw; go_simp; (try with_reducible rfl)
    try simp only [Act.put, List.setIfInBounds_toArray, List.set_cons_zero, List.set_cons_succ]
    refine tk 14 ⟨some 124, .fieldAddr 124 (.tmp 123) 1, 0, _, _, none⟩ ?vq231 rfl (by kernel_rfl) (.inl ⟨by rfl, ?hq231⟩) ?rq231
    case hq231 => intro W hSw; go_simp; (try with_reducible rfl)
    try simp only [Act.put, List.setIfInBounds_toArray, List.set_cons_zero, List.set_cons_succ]
    refine wpAnyH_ready (rs := [15]) (by kernel_rfl) (by simp) ?_
    refine AllReadyH.cons (o := ⟨none, .store 34 (.tmp 124) (.tmp 122), 0, _, _, none⟩) rfl (fun K hK => ?_) AllReadyH.nil
    go_simp
    refine hK.out _ _ (hHeld.setCell (.inl rfl) _) (fun hHeld => ?_)
    clear hK K
    try simp only [Act.put, List.setIfInBounds_toArray, List.set_cons_zero, List.set_cons_succ]
    refine wpAnyH_done (by kernel_rfl) ?_ _
    have FE := Lib.hid hHeld
    have HB7 := Lib.hid (bgc.out.set_ 1 (.slice A7 (k + 1 + m8) c7))
    have HO7 := Lib.hid (own_fr (w' := u7.setCell ⟨g, 1, none⟩ (.slice A7 (k + 1 + m8) c7)) ho7.out ((Fr.refl (fun j => j = g) u7).setCell (.inl rfl) _) (fun j hj e => by have h1 := (ho7.out.lt j hj).1; omega))
    clear hHeld z1 z2 bgc hm5 hm6 hm7
    go_wp2_with fail
    go_ret
    refine ⟨rfl, ?_, (FW.out.mono (fun i hi => .inr (by rw [hi]; exact HrbW.out))).trans FE.out (fun _ h => .inl h)⟩
    rw [HVs.out]
    refine ⟨⟨A7, c7, ?_, ?_⟩, Hadd.out.2, by rw [← HVs.out]; exact HVo.out, hge⟩
    · rw [HlV.out]
      exact by simpa using HB7.out
    · rw [HlV.out, HcV.out]
      exact own_up HO7.out (fun j hj => Nat.le_trans (Nat.le_trans hlo FW.out.size) (HO7.out.lt j hj).1)
  refine AllReadyH.cons (o := ⟨some 119, .buildSlice 34 1 #[(0, .tmp 118)], 34, _, _, none⟩) rfl (fun K hK => ?_) AllReadyH.nil
  go_simp
  have rbx := Lib.hid (Rd.newS (w := W5) (k := W5.heap.size) rfl [.string rn, .int .i64 rs, .int .i64 y1, .int .i64 y2, .int .u64 y3, .int .i64 y4, .int .i64 y5] 108 1 7 rfl).drew
  have bgc := Lib.hid ((Bg5.out.alloc (.cells #[.string rn, .int .i64 rs, .int .i64 y1, .int .i64 y2, .int .u64 y3, .int .i64 y4, .int .i64 y5] 108)).drew)
  refine hK.out _ _ (by first | exact ((Fr.refl _ W5).alloc _).drew | exact hHeld.alloc _) (fun hHeld => ?_)
  clear hK K
  try simp only [Act.put, List.setIfInBounds_toArray, List.set_cons_zero, List.set_cons_succ]
  refine wpAnyH_ready (rs := [4]) (by kernel_rfl) (by simp) ?_
  refine AllReadyH.cons (o := ⟨some 114, .load 34 (.tmp 113), 34, _, _, none⟩) rfl (fun K hK => ?_) AllReadyH.nil
  go_simp
  refine hK.out _ _ (hHeld) (fun hHeld => ?_)
  clear hK K
  try simp only [Act.put, List.setIfInBounds_toArray, List.set_cons_zero, List.set_cons_succ]
  refine tk 6 ⟨some 116, .slice 34 (.tmp 114) none (some (.tmp 115)) none, 34, _, _, none⟩ ?vq232 rfl (by kernel_rfl) (.inl ⟨by rfl, ?hq232⟩) ?rq232
  case hq232 => intro W hSw; (try obtain ⟨q0, q1, q2, q3, q4, q5, q6⟩ := HC5.out W hSw); go_simp; (try with_reducible rfl)
  try simp only [Act.put, List.setIfInBounds_toArray, List.set_cons_zero, List.set_cons_succ]
  refine wpAnyH_ready (rs := [7]) (by kernel_rfl) (by simp) ?_
  refine AllReadyH.cons (o := ⟨some 117, .call ⟨.builtin .append, #[.const (.slice none 0 0), .tmp 116], #[34, 34]⟩, 34, _, _, none⟩) rfl (fun K hK => ?_) AllReadyH.nil
  rw [if_pos (by rfl)]
  refine op_app3 _ _ 34 rfl 108 i0 _ 7 64 Tryz.underlying34 hi hz0 hz1 hz2 rfl (by decide) (.slice none 0 0) 0 [] rfl W5.heap.size hHeld.size (World.ownsRow_nil _ _ _ _) _ _ _ (rcells (l.take k)) rfl (HRT.out _ hHeld) (rcells_one _) (by unfold maxLen; omega) (by omega) (fun A5 c5 u5 ho5 hm5 _ => ?_)
  simp only [Nat.zero_add, List.nil_append] at ho5
  try simp only [Nat.zero_add]
  have ho5 := Lib.hid ho5
  have rbx := Lib.hid (rbx.out.fr hm5.fr (fun _ _ h => by cases h))
  have bgc := Lib.hid (bgc.out.fr hm5.fr (fun h => by cases h))
  refine hK.out _ _ (hHeld.trans hm5.fr (fun i hi => by cases hi)) (fun hHeld => ?_)
  clear hK K
  try simp only [Act.put, List.setIfInBounds_toArray, List.set_cons_zero, List.set_cons_succ]
  refine wpAnyH_ready (rs := [10]) (by kernel_rfl) (by simp) ?_
  refine AllReadyH.cons (o := ⟨some 120, .call ⟨.builtin .append, #[.tmp 117, .tmp 119], #[34, 34]⟩, 34, _, _, none⟩) rfl (fun K hK => ?_) AllReadyH.nil
  rw [if_pos (by rfl)]
  refine op_app3 _ _ 34 rfl 108 i0 _ 7 64 Tryz.underlying34 hi hz0 hz1 hz2 rfl (by decide) (.slice A5 k c5) k (rcells (l.take k)) rfl W5.heap.size hHeld.size ho5.out (some ⟨W5.heap.size, 0, none⟩) 1 1 [.string rn, .int .i64 rs, .int .i64 y1, .int .i64 y2, .int .u64 y3, .int .i64 y4, .int .i64 y5] rfl rbx.out (by intro u hu; simp at hu; rcases hu with rfl | rfl | rfl | rfl | rfl | rfl | rfl <;> rfl) (by unfold maxLen; omega) (by omega) (fun A6 c6 u6 ho6 hm6 _ => ?_)
  have ho6 := Lib.hid ho6
  have bgc := Lib.hid (bgc.out.fr hm6.fr (fun h => absurd (ho5.out.lt g h).1 (Nat.not_le.2 hgl)))
  refine hK.out _ _ (hHeld.trans hm6.fr (fun i hi => .inr (ho5.out.lt i hi).1)) (fun hHeld => ?_)
  clear hK K
  try simp only [Act.put, List.setIfInBounds_toArray, List.set_cons_zero, List.set_cons_succ]
  refine wpAnyH_ready (rs := [12]) (by kernel_rfl) (by simp) ?_
  refine AllReadyH.cons (o := ⟨some 122, .call ⟨.builtin .append, #[.tmp 120, .tmp 121], #[34, 34]⟩, 34, _, _, none⟩) rfl (fun K hK => ?_) AllReadyH.nil
  rw [if_pos (by rfl)]
  refine op_app3 _ _ 34 rfl 108 i0 _ 7 64 Tryz.underlying34 hi hz0 hz1 hz2 rfl (by decide) (.slice A6 (k + 1) c6) (k + 1) (rcells (l.take k) ++ [.string rn, .int .i64 rs, .int .i64 y1, .int .i64 y2, .int .u64 y3, .int .i64 y4, .int .i64 y5]) rfl W5.heap.size hHeld.size ho6.out _ _ _ (rcells rest) rfl (HR8.out _ hHeld) (rcells_one _) (by unfold maxLen; omega) (by omega) (fun A7 c7 u7 ho7 hm7 _ => ?_)
  have ho7 := Lib.hid ho7
  have bgc := Lib.hid (bgc.out.fr hm7.fr (fun h => absurd (ho6.out.lt g h).1 (Nat.not_le.2 hgl)))
  have z1 := bgc.out.cell 1
  have z2 := bgc.out.frozen 1
  simp only [List.getElem?_toArray, List.getElem?_cons_succ, List.getElem?_cons_zero] at z1
  refine hK.out _ _ (hHeld.trans hm7.fr (fun i hi => .inr (ho6.out.lt i hi).1)) (fun hHeld => ?_)
  clear hK K
  try simp only [Act.put, List.setIfInBounds_toArray, List.set_cons_zero, List.set_cons_succ]
  refine tk 13 ⟨some 123, .nilCheck (.tmp 110), 0, _, _, none⟩ ?vq233 rfl (by kernel_rfl) (.inl ⟨by rfl, ?hq233⟩) ?rq233
  case hq233 => intro W hSw; go_simp; (try with_reducible rfl)
  try simp only [Act.put, List.setIfInBounds_toArray, List.set_cons_zero, List.set_cons_succ]
  refine tk 14 ⟨some 124, .fieldAddr 124 (.tmp 123) 1, 0, _, _, none⟩ ?vq234 rfl (by kernel_rfl) (.inl ⟨by rfl, ?hq234⟩) ?rq234
  case hq234 => intro W hSw; go_simp; (try with_reducible rfl)
  try simp only [Act.put, List.setIfInBounds_toArray, List.set_cons_zero, List.set_cons_succ]
  refine wpAnyH_ready (rs := [15]) (by kernel_rfl) (by simp) ?_
  refine AllReadyH.cons (o := ⟨none, .store 34 (.tmp 124) (.tmp 122), 0, _, _, none⟩) rfl (fun K hK => ?_) AllReadyH.nil
  go_simp
  refine hK.out _ _ (hHeld.setCell (.inl rfl) _) (fun hHeld => ?_)
  clear hK K
  try simp only [Act.put, List.setIfInBounds_toArray, List.set_cons_zero, List.set_cons_succ]
  refine wpAnyH_done (by kernel_rfl) ?_ _
  have FE := Lib.hid hHeld
  have HB7 := Lib.hid (bgc.out.set_ 1 (.slice A7 (k + 1 + m8) c7))
  have HO7 := Lib.hid (own_fr (w' := u7.setCell ⟨g, 1, none⟩ (.slice A7 (k + 1 + m8) c7)) ho7.out ((Fr.refl (fun j => j = g) u7).setCell (.inl rfl) _) (fun j hj e => by have h1 := (ho7.out.lt j hj).1; omega))
  clear hHeld z1 z2 bgc hm5 hm6 hm7
  go_wp2_with fail
  go_ret
  refine ⟨rfl, ?_, (FW.out.mono (fun i hi => .inr (by rw [hi]; exact HrbW.out))).trans FE.out (fun _ h => .inl h)⟩
  rw [HVs.out]
  refine ⟨⟨A7, c7, ?_, ?_⟩, Hadd.out.2, by rw [← HVs.out]; exact HVo.out, hge⟩
  · rw [HlV.out]
    exact by simpa using HB7.out
  · rw [HlV.out, HcV.out]
    exact own_up HO7.out (fun j hj => Nat.le_trans (Nat.le_trans hlo FW.out.size) (HO7.out.lt j hj).1)
end Go.Proofs.YtlhhcancfgjfkaaGreat
