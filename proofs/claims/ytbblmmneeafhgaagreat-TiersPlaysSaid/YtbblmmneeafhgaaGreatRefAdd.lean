/- Walk of the document's table: Add. -/
import Derived.Test.YtbblmmneeafhgaaGreatRefMerge
import Derived.Test.YtbblmmneeafhgaaGreatRefGrid
import Derived.Test.YtbblmmneeafhgaaGreatTiersP
import Derived.Deep.DeepCutAuto
import Derived.Deep.CutBlock
import Derived.Test.YtbblmmneeafhgaaGreatTk
namespace Go.Proofs.YtbblmmneeafhgaaGreat
set_option linter.all false
open Go.RowKit

structure RTabF (w : World) (g lo : Nat) (F : Nat → Prop) (every : Int) (l : List RecV) : Prop where
 ex : ∃ A c, Blk w g 116 #[.int .i64 every, .slice A l.length c] ∧ w.ownsRow lo 100 7 (.slice A l.length c) l.length (rcells l) ∧ ∀ j, rowF (.slice A l.length c) j → F j
 wf : ∀ r ∈ l, r.wf
 sorted : Sorted l
 ge : lo ≤ g
theorem insR_split {mg : Option AggV → AggV → AggV} {r : RecV} : ∀ {l : List RecV} {k : Nat}, (∀ j, j < k → ∀ x, l[j]? = some x → klt x r) → k ≤ l.length → insR mg l r = l.take k ++ insR mg (l.drop k) r
 | l, 0, _, _ => rfl
 | [], k + 1, _, h => by simp at h
 | x :: l, k + 1, h, hk => by
  have h0 := h 0 (by omega) x rfl
  have ih := insR_split (mg := mg) (l := l) (k := k) (fun j hj y hy => h (j + 1) (by omega) y (by simpa using hy)) (by simpa using hk)
  rw [List.take_succ_cons, List.drop_succ_cons, List.cons_append, ← ih]
  conv => lhs; unfold insR
  rw [if_pos h0]
theorem insR_new {mg : Option AggV → AggV → AggV} {r : RecV} {l : List RecV} {k : Nat} (h : ∀ j, j < k → ∀ x, l[j]? = some x → klt x r) (hk : k ≤ l.length) (h2 : ∀ x, l[k]? = some x → ¬ klt x r ∧ ¬ skey x r) : insR mg l r = l.take k ++ ⟨r.name, r.start, mg none r.agg⟩ :: l.drop k := by
 rw [insR_split h hk]
 congr 1
 cases hd : l.drop k with
 | nil => rfl
 | cons x t =>
  have hx : l[k]? = some x := by
   have := congrArg (fun z => z[0]?) hd
   simpa [List.getElem?_drop] using this
  obtain ⟨e1, e2⟩ := h2 x hx
  unfold insR
  rw [if_neg e1, if_neg e2]
theorem insR_old {mg : Option AggV → AggV → AggV} {r x : RecV} {l : List RecV} {k : Nat} (h : ∀ j, j < k → ∀ x, l[j]? = some x → klt x r) (hx : l[k]? = some x) (h1 : ¬ klt x r) (h2 : skey x r) : insR mg l r = l.take k ++ ⟨r.name, r.start, mg (some x.agg) r.agg⟩ :: l.drop (k + 1) := by
 obtain ⟨hk, e⟩ := List.getElem?_eq_some_iff.1 hx
 rw [insR_split h (Nat.le_of_lt hk), List.drop_eq_getElem_cons hk, e]
 congr 1
 unfold insR
 rw [if_neg h1, if_pos h2]

theorem vflat_dropR : ∀ (l : List RecV) (k : Nat), (rcells l).drop (k * 7) = rcells (l.drop k)
 | [], k => by simp [rcells]
 | a :: l, 0 => by simp
 | a :: l, k + 1 => by
  have ih := vflat_dropR l k
  unfold rcells at ih ⊢
  simp only [List.drop_succ_cons, List.flatMap_cons]
  rw [show (k + 1) * 7 = a.cells.length + k * 7 by rw [rec_len]; omega, List.drop_length_add_append, ih]
theorem vflat_takeR : ∀ (l : List RecV) (k : Nat), (rcells l).take (k * 7) = rcells (l.take k)
 | [], k => by simp [rcells]
 | a :: l, 0 => by simp [rcells]
 | a :: l, k + 1 => by
  have ih := vflat_takeR l k
  unfold rcells at ih ⊢
  simp only [List.take_succ_cons, List.flatMap_cons]
  rw [show (k + 1) * 7 = a.cells.length + k * 7 by rw [rec_len]; omega, List.take_length_add_append, ih]
def AddAt (l : List RecV) (k : Nat) (r : RecV) (rest : List RecV) (y : RecV) : Prop := insR mgM l r = l.take k ++ y :: rest ∧ ∀ x ∈ l.take k ++ y :: rest, x.wf
theorem Blk.five {w : World} {g : Nat} {t : TypeId} {a0 a1 b0 c0 d0 e0 f0 a b c d e : Value} (h : Blk w g t #[a0, a1, b0, c0, d0, e0, f0]) : Blk (((((w.setCell ⟨g, 2, none⟩ a).setCell ⟨g, 3, none⟩ b).setCell ⟨g, 4, none⟩ c).setCell ⟨g, 5, none⟩ d).setCell ⟨g, 6, none⟩ e) g t #[a0, a1, a, b, c, d, e] := by
 have := ((((h.set_ 2 a).set_ 3 b).set_ 4 c).set_ 5 d).set_ 6 e
 simpa using this
theorem Fr.five {w1 w : World} {F : Nat → Prop} (h : Fr F w1 w) {g : Nat} (hg : F g) (a b c d e : Value) : Fr F w1 (((((w.setCell ⟨g, 2, none⟩ a).setCell ⟨g, 3, none⟩ b).setCell ⟨g, 4, none⟩ c).setCell ⟨g, 5, none⟩ d).setCell ⟨g, 6, none⟩ e) :=
 ((((h.setCell (p := ⟨g, 2, none⟩) (.inl hg) a).setCell (p := ⟨g, 3, none⟩) (.inl hg) b).setCell (p := ⟨g, 4, none⟩) (.inl hg) c).setCell (p := ⟨g, 5, none⟩) (.inl hg) d).setCell (p := ⟨g, 6, none⟩) (.inl hg) e
def SameAt (l : List RecV) (k : Nat) (r : RecV) (b : Bool) : Prop := b = true ↔ ∃ x, l[k]? = some x ∧ skey x r

set_option maxRecDepth 100000 in
set_option maxHeartbeats 6000000 in
theorem radd_anyF (g lo : Nat) (F : Nat → Prop) (every : Int) (l : List RecV) (r : RecV) (hr : r.wf) (w : World) (h : RTabF w g lo F every l) (hlo : lo ≤ w.heap.size) (hl : l.length ≤ 100000000) :
  Calls Tryz.prog 66 #[.pointer (some ⟨g, 0, none⟩), r.val] w fun r' w' => r' = .returned (.bool (rightR every r)) ∧ RTabF w' g lo (fun j => F j ∨ w.heap.size ≤ j) every (addV every l r) ∧ Fr (fun j => j = g) w w' := by
 obtain ⟨⟨A, c, hb, ho, hF⟩, hwf, hs, hge⟩ := h
 obtain ⟨rn, rs, ⟨r1, r2, r3, r4, r5⟩⟩ := r
 have HNm : Hid (∀ W, Calls Tryz.prog 130 #[.string rn] W fun r w' => r = .returned (.bool (validB rn)) ∧ W = w') := fun W => rvalid_any rn hr.2.2 W
 have HOn : Hid (∀ W, Calls Tryz.prog 47 #[.int .i64 rs, .int .i64 every] W fun r w' => r = .returned (.bool (onB rs every)) ∧ W = w') := fun W => refon_any rs every W
 have HVa : Hid (∀ W, Calls Tryz.prog 145 #[.agg #[.int .i64 r1, .int .i64 r2, .int .u64 r3, .int .i64 r4, .int .i64 r5]] W fun r w' => r = .returned (.bool (aggOk ⟨r1, r2, r3, r4, r5⟩)) ∧ Below W.heap.size W w') := fun W => raggvalid_any ⟨r1, r2, r3, r4, r5⟩ W
 have Hrr : Hid (rightR every ⟨rn, rs, ⟨r1, r2, r3, r4, r5⟩⟩ = (validB rn && decide (0 ≤ rs) && onB rs every && aggOk ⟨r1, r2, r3, r4, r5⟩)) := rfl
 have HSm0 : Hid (∀ W, Fr (fun _ => False) w W → RTabF W g lo (fun j => F j ∨ w.heap.size ≤ j) every l) := fun W f => ⟨⟨A, c, hb.fr f (fun h => h), own_fr0 ho f, fun j hj => .inl (hF j hj)⟩, hwf, hs, hge⟩
 obtain ⟨F', hF'⟩ : ∃ F' : Nat → Prop, (fun j => F j ∨ w.heap.size ≤ j) = F' := ⟨_, rfl⟩
 rw [hF'] at HSm0 ⊢
 have HFn : Hid (∀ j, w.heap.size ≤ j → F' j) := fun j hj => by rw [← hF']; exact .inr hj
 clear hF hF'
 obtain ⟨n, hn⟩ : ∃ n, l.length = n := ⟨_, rfl⟩
 rw [hn] at hb ho hl
 have Hn := Lib.hid hn
 obtain ⟨hnc, hc9, hrd, _⟩ := own_any ho
 have Ho := Lib.hid ho
 have Hrd := Lib.hid hrd
 have Hb := Lib.hid hb
 have Hwf := Lib.hid hwf
 have Hs := Lib.hid hs
 obtain ⟨hr1, hr2, hr3⟩ := hr
 have hc63 : c ≤ 9223372036854775807 := by unfold maxLen at hc9; omega
 have Hrw : Hid ((⟨rn, rs, ⟨r1, r2, r3, r4, r5⟩⟩ : RecV).wf) := ⟨hr1, hr2, hr3⟩
 clear hn hb ho hrd hwf hs hr1 hr2 hr3
 unfold RecV.val
 simp only
 have F1 := Lib.hid (Fr.none_alloc w (.cells #[.string rn, .int .i64 rs, .int .i64 r1, .int .i64 r2, .int .u64 r3, .int .i64 r4, .int .i64 r5] 100))
 have B1 := Lib.hid (Blk.new w 100 #[.string rn, .int .i64 rs, .int .i64 r1, .int .i64 r2, .int .u64 r3, .int .i64 r4, .int .i64 r5])
 obtain ⟨rb, hrb⟩ : ∃ rb, w.heap.size = rb := ⟨_, rfl⟩
 obtain ⟨W1, hW1⟩ : ∃ W1, W1 = w.alloc (.cells #[.string rn, .int .i64 rs, .int .i64 r1, .int .i64 r2, .int .u64 r3, .int .i64 r4, .int .i64 r5] 100) := ⟨_, rfl⟩
 rw [← hW1] at F1 B1
 rw [hrb] at B1
 have hgr : g ≠ rb := by have := Hb.out.lt; omega
 have HC : Hid (∀ W, Fr (fun _ => False) W1 W → W.cell? ⟨rb, 0, none⟩ = some (.string rn) ∧ W.cell? ⟨rb, 1, none⟩ = some (.int .i64 rs) ∧ W.cell? ⟨rb, 2, none⟩ = some (.int .i64 r1) ∧ W.cell? ⟨rb, 3, none⟩ = some (.int .i64 r2) ∧ W.cell? ⟨rb, 4, none⟩ = some (.int .u64 r3) ∧ W.cell? ⟨rb, 5, none⟩ = some (.int .i64 r4) ∧ W.cell? ⟨rb, 6, none⟩ = some (.int .i64 r5) ∧ W.cell? ⟨g, 0, none⟩ = some (.int .i64 every) ∧ W.cell? ⟨g, 1, none⟩ = some (.slice A n c)) := fun W f => by
  have b := B1.out.fr f (fun h => h)
  have b2 := (Hb.out.fr F1.out (fun h => h)).fr f (fun h => h)
  exact ⟨(b).cell 0, (b).cell 1, (b).cell 2, (b).cell 3, (b).cell 4, (b).cell 5, (b).cell 6, b2.cell 0, b2.cell 1⟩
 have HRd : Hid (∀ W, Fr (fun _ => False) W1 W → Rd W 7 A n (rcells l)) := fun W f => (Hrd.out.fr0 F1.out).fr0 f
 obtain ⟨rr, hrr⟩ : ∃ b, rightR every ⟨rn, rs, ⟨r1, r2, r3, r4, r5⟩⟩ = b := ⟨_, rfl⟩
 have HrR := Lib.hid hrr
 rw [hrr] at Hrr ⊢
 have HSame : Hid (∀ W, Fr (fun _ => False) w W → rr = false → RTabF W g lo F' every (addV every l ⟨rn, rs, ⟨r1, r2, r3, r4, r5⟩⟩)) := fun W f h => by
  unfold addV
  rw [HrR.out, h]
  exact HSm0.out W f
 have HIn : Hid (rr = true → addV every l ⟨rn, rs, ⟨r1, r2, r3, r4, r5⟩⟩ = insR mgM l ⟨rn, rs, ⟨r1, r2, r3, r4, r5⟩⟩) := fun h => by
  unfold addV
  rw [HrR.out, h]
  rfl
 obtain ⟨V, hV⟩ : ∃ v, addV every l ⟨rn, rs, ⟨r1, r2, r3, r4, r5⟩⟩ = v := ⟨_, rfl⟩
 rw [hV] at HSame HIn ⊢
 obtain ⟨nb, hnb⟩ : ∃ b, validB rn = b := ⟨_, rfl⟩
 obtain ⟨ob, hob⟩ : ∃ b, onB rs every = b := ⟨_, rfl⟩
 obtain ⟨ab, hab⟩ : ∃ b, aggOk ⟨r1, r2, r3, r4, r5⟩ = b := ⟨_, rfl⟩
 rw [hnb, hob, hab] at Hrr
 rw [hnb] at HNm
 rw [hob] at HOn
 rw [hab] at HVa
 have Hab := Lib.hid hab
 clear hnb hob hab hrr hV
 go_enter Tryz.func66, Tryz.ntmps66
 go_wp2_with fail
 rw [← hW1]
 try rw [hrb]
 have Hrb := Lib.hid hrb
 clear hW1 hrb
 cases nb with
 | false =>
  obtain rfl : rr = false := by rw [Hrr.out]; rfl
  go_wp2_with fail
  refine wp_region_held_drew (S := fun W => Fr (fun _ => False) W1 W) (by kernel_rfl) ((Fr.refl _ W1).drew) (fun hHeld => ?_)
  refine tl 0 ?v1 rfl ?q1 ?r1
  case q1 => intro W hSw; go_simp; try rfl
  refine tl 1 ?v2 rfl ?q2 ?r2
  case q2 => intro W hSw; (try obtain ⟨q0, q1, q2, q3, q4, q5, q6, p0, p1⟩ := HC.out W hSw); go_simp; try rfl
  try simp only [Act.put, sA, sB, sC]
  refine rl 2 rfl (fun K hK => ?_)
  go_simp
  go_wp2_with (first | (go_at_call 130; refine (HNm.out _).mono ?_; rintro r wa ⟨rfl, rfl⟩))
  refine hK.out _ _ (hHeld) (fun hHeld => ?_)
  clear hK K
  refine tl 3 ?v3 rfl ?q3 ?r3
  case q3 => intro W hSw; go_simp; try rfl
  refine tl 4 ?v4 rfl ?q4 ?r4
  case q4 => intro W hSw; go_simp; try rfl
  try simp only [Act.put, sA, sB, sC]
  refine tu 5 rfl ?_
  try simp only [Act.put, sA, sB, sC]
  refine tu 6 rfl ?_
  try simp only [Act.put, sA, sB, sC]
  refine tu 7 rfl ?_
  refine tl 8 ?v5 rfl ?q5 ?r5
  case q5 => intro W hSw; go_simp; try rfl
  refine tl 9 ?v6 rfl ?q6 ?r6
  case q6 => intro W hSw; go_simp; try rfl
  try simp only [Act.put, sA, sB, sC]
  refine tu 10 rfl ?_
  try simp only [Act.put, sA, sB, sC]
  refine tu 11 rfl ?_
  try simp only [Act.put, sA, sB, sC]
  refine tu 12 rfl ?_
  try simp only [Act.put, sA, sB, sC]
  refine tu 13 rfl ?_
  try simp only [Act.put, sA, sB, sC]
  refine tu 14 rfl ?_
  try simp only [Act.put, sA, sB, sC]
  refine tu 15 rfl ?_
  try simp only [Act.put, sA, sB, sC]
  refine tu 16 rfl ?_
  try simp only [Act.put, sA, sB, sC]
  refine tu 17 rfl ?_
  refine tl 18 ?v7 rfl ?q7 ?r7
  case q7 => intro W hSw; go_simp; try rfl
  refine tl 19 ?v8 rfl ?q8 ?r8
  case q8 => intro W hSw; go_simp; try rfl
  try simp only [Act.put, sA, sB, sC]
  refine tu 20 rfl ?_
  try simp only [Act.put, sA, sB, sC]
  refine tu 21 rfl ?_
  try simp only [Act.put, sA, sB, sC]
  refine tu 22 rfl ?_
  try simp only [Act.put, sA, sB, sC]
  refine tu 23 rfl ?_
  refine tl 24 ?v9 rfl ?q9 ?r9
  case q9 => intro W hSw; go_simp; try rfl
  try simp only [Act.put, sA, sB, sC]
  refine wpAnyH_done (by kernel_rfl) ?_ _
  have Fh := Lib.hid hHeld
  clear hHeld
  go_wp2_with fail
  go_ret
  exact ⟨rfl, HSame.out _ (F1.out.trans Fh.out (fun _ h => h.elim)) (by trivial), (F1.out.trans Fh.out (fun _ h => h.elim)).mono (fun _ h => h.elim)⟩
 | true =>
 by_cases hst : rs < 0
 case pos =>
  have hd : decide (rs < 0) = true := decide_eq_true hst
  obtain rfl : rr = false := by rw [Hrr.out, decide_eq_false (show ¬ 0 ≤ rs by omega)]; rfl
  go_wp2_with fail
  refine wp_region_held_drew (S := fun W => Fr (fun _ => False) W1 W) (by kernel_rfl) ((Fr.refl _ W1).drew) (fun hHeld => ?_)
  refine tl 0 ?v10 rfl ?q10 ?r10
  case q10 => intro W hSw; go_simp; try rfl
  refine tl 1 ?v11 rfl ?q11 ?r11
  case q11 => intro W hSw; (try obtain ⟨q0, q1, q2, q3, q4, q5, q6, p0, p1⟩ := HC.out W hSw); go_simp; try rfl
  try simp only [Act.put, sA, sB, sC]
  refine rl 2 rfl (fun K hK => ?_)
  go_simp
  go_wp2_with (first | (go_at_call 130; refine (HNm.out _).mono ?_; rintro r wa ⟨rfl, rfl⟩))
  refine hK.out _ _ (hHeld) (fun hHeld => ?_)
  clear hK K
  refine tl 3 ?v12 rfl ?q12 ?r12
  case q12 => intro W hSw; go_simp; try rfl
  refine tl 4 ?v13 rfl ?q13 ?r13
  case q13 => intro W hSw; go_simp; try rfl
  try simp only [Act.put, sA, sB, sC]
  refine tl 5 ?v14 rfl ?q14 ?r14
  case q14 => intro W hSw; go_simp; try rfl
  try simp only [Act.put, sA, sB, sC]
  refine tl 6 ?v15 rfl ?q15 ?r15
  case q15 => intro W hSw; (try obtain ⟨q0, q1, q2, q3, q4, q5, q6, p0, p1⟩ := HC.out W hSw); go_simp; try rfl
  try simp only [Act.put, sA, sB, sC]
  refine tl 7 ?v16 rfl ?q16 ?r16
  case q16 => intro W hSw; (try obtain ⟨q0, q1, q2, q3, q4, q5, q6, p0, p1⟩ := HC.out W hSw); go_simp; try rfl
  refine tl 8 ?v17 rfl ?q17 ?r17
  case q17 => intro W hSw; go_simp; try rfl
  refine tl 9 ?v18 rfl ?q18 ?r18
  case q18 => intro W hSw; go_simp; try rfl
  try simp only [Act.put, sA, sB, sC]
  refine tu 10 rfl ?_
  try simp only [Act.put, sA, sB, sC]
  refine tu 11 rfl ?_
  try simp only [Act.put, sA, sB, sC]
  refine tu 12 rfl ?_
  try simp only [Act.put, sA, sB, sC]
  refine tu 13 rfl ?_
  try simp only [Act.put, sA, sB, sC]
  refine tu 14 rfl ?_
  try simp only [Act.put, sA, sB, sC]
  refine tu 15 rfl ?_
  try simp only [Act.put, sA, sB, sC]
  refine tu 16 rfl ?_
  try simp only [Act.put, sA, sB, sC]
  refine tu 17 rfl ?_
  refine tl 18 ?v19 rfl ?q19 ?r19
  case q19 => intro W hSw; go_simp; try rfl
  refine tl 19 ?v20 rfl ?q20 ?r20
  case q20 => intro W hSw; go_simp; try rfl
  try simp only [Act.put, sA, sB, sC]
  refine tu 20 rfl ?_
  try simp only [Act.put, sA, sB, sC]
  refine tu 21 rfl ?_
  try simp only [Act.put, sA, sB, sC]
  refine tu 22 rfl ?_
  try simp only [Act.put, sA, sB, sC]
  refine tu 23 rfl ?_
  refine tl 24 ?v21 rfl ?q21 ?r21
  case q21 => intro W hSw; go_simp; try rfl
  try simp only [Act.put, sA, sB, sC]
  refine wpAnyH_done (by kernel_rfl) ?_ _
  have Fh := Lib.hid hHeld
  clear hHeld
  go_wp2_with fail
  go_ret
  exact ⟨rfl, HSame.out _ (F1.out.trans Fh.out (fun _ h => h.elim)) (by trivial), (F1.out.trans Fh.out (fun _ h => h.elim)).mono (fun _ h => h.elim)⟩
 case neg =>
 have hd : decide (rs < 0) = false := decide_eq_false hst
 rw [decide_eq_true (show 0 ≤ rs by omega)] at Hrr
 cases ob with
 | false =>
  obtain rfl : rr = false := by rw [Hrr.out]; rfl
  go_wp2_with fail
  refine wp_region_held_drew (S := fun W => Fr (fun _ => False) W1 W) (by kernel_rfl) ((Fr.refl _ W1).drew) (fun hHeld => ?_)
  refine tl 0 ?v22 rfl ?q22 ?r22
  case q22 => intro W hSw; go_simp; try rfl
  refine tl 1 ?v23 rfl ?q23 ?r23
  case q23 => intro W hSw; (try obtain ⟨q0, q1, q2, q3, q4, q5, q6, p0, p1⟩ := HC.out W hSw); go_simp; try rfl
  try simp only [Act.put, sA, sB, sC]
  refine rl 2 rfl (fun K hK => ?_)
  go_simp
  go_wp2_with (first | (go_at_call 130; refine (HNm.out _).mono ?_; rintro r wa ⟨rfl, rfl⟩))
  refine hK.out _ _ (hHeld) (fun hHeld => ?_)
  clear hK K
  refine tl 3 ?v24 rfl ?q24 ?r24
  case q24 => intro W hSw; go_simp; try rfl
  refine tl 4 ?v25 rfl ?q25 ?r25
  case q25 => intro W hSw; go_simp; try rfl
  try simp only [Act.put, sA, sB, sC]
  refine tl 5 ?v26 rfl ?q26 ?r26
  case q26 => intro W hSw; go_simp; try rfl
  try simp only [Act.put, sA, sB, sC]
  refine tl 6 ?v27 rfl ?q27 ?r27
  case q27 => intro W hSw; (try obtain ⟨q0, q1, q2, q3, q4, q5, q6, p0, p1⟩ := HC.out W hSw); go_simp; try rfl
  try simp only [Act.put, sA, sB, sC]
  refine tl 7 ?v28 rfl ?q28 ?r28
  case q28 => intro W hSw; (try obtain ⟨q0, q1, q2, q3, q4, q5, q6, p0, p1⟩ := HC.out W hSw); go_simp; try rfl
  refine tl 8 ?v29 rfl ?q29 ?r29
  case q29 => intro W hSw; go_simp; try rfl
  refine tl 9 ?v30 rfl ?q30 ?r30
  case q30 => intro W hSw; go_simp; try rfl
  try simp only [Act.put, sA, sB, sC]
  refine tl 10 ?v31 rfl ?q31 ?r31
  case q31 => intro W hSw; go_simp; try rfl
  try simp only [Act.put, sA, sB, sC]
  refine tl 11 ?v32 rfl ?q32 ?r32
  case q32 => intro W hSw; (try obtain ⟨q0, q1, q2, q3, q4, q5, q6, p0, p1⟩ := HC.out W hSw); go_simp; try rfl
  try simp only [Act.put, sA, sB, sC]
  refine tl 12 ?v33 rfl ?q33 ?r33
  case q33 => intro W hSw; go_simp; try rfl
  try simp only [Act.put, sA, sB, sC]
  refine tl 13 ?v34 rfl ?q34 ?r34
  case q34 => intro W hSw; go_simp; try rfl
  try simp only [Act.put, sA, sB, sC]
  refine tl 14 ?v35 rfl ?q35 ?r35
  case q35 => intro W hSw; go_simp; try rfl
  try simp only [Act.put, sA, sB, sC]
  refine tl 15 ?v36 rfl ?q36 ?r36
  case q36 => intro W hSw; (try obtain ⟨q0, q1, q2, q3, q4, q5, q6, p0, p1⟩ := HC.out W hSw); go_simp; try rfl
  try simp only [Act.put, sA, sB, sC]
  refine rl 16 rfl (fun K hK => ?_)
  go_simp
  go_wp2_with (first | (go_at_call 47; refine (HOn.out _).mono ?_; rintro r wb ⟨rfl, rfl⟩))
  refine hK.out _ _ (hHeld) (fun hHeld => ?_)
  clear hK K
  try simp only [Act.put, sA, sB, sC]
  refine tl 17 ?v37 rfl ?q37 ?r37
  case q37 => intro W hSw; go_simp; try rfl
  refine tl 18 ?v38 rfl ?q38 ?r38
  case q38 => intro W hSw; go_simp; try rfl
  refine tl 19 ?v39 rfl ?q39 ?r39
  case q39 => intro W hSw; go_simp; try rfl
  try simp only [Act.put, sA, sB, sC]
  refine tu 20 rfl ?_
  try simp only [Act.put, sA, sB, sC]
  refine tu 21 rfl ?_
  try simp only [Act.put, sA, sB, sC]
  refine tu 22 rfl ?_
  try simp only [Act.put, sA, sB, sC]
  refine tu 23 rfl ?_
  refine tl 24 ?v40 rfl ?q40 ?r40
  case q40 => intro W hSw; go_simp; try rfl
  try simp only [Act.put, sA, sB, sC]
  refine wpAnyH_done (by kernel_rfl) ?_ _
  have Fh := Lib.hid hHeld
  clear hHeld
  go_wp2_with fail
  go_ret
  exact ⟨rfl, HSame.out _ (F1.out.trans Fh.out (fun _ h => h.elim)) (by trivial), (F1.out.trans Fh.out (fun _ h => h.elim)).mono (fun _ h => h.elim)⟩
 | true =>
 cases ab with
 | false =>
  obtain rfl : rr = false := by rw [Hrr.out]; rfl
  go_wp2_with fail
  refine wp_region_held_drew (S := fun W => Fr (fun _ => False) W1 W) (by kernel_rfl) ((Fr.refl _ W1).drew) (fun hHeld => ?_)
  refine tl 0 ?v41 rfl ?q41 ?r41
  case q41 => intro W hSw; go_simp; try rfl
  refine tl 1 ?v42 rfl ?q42 ?r42
  case q42 => intro W hSw; (try obtain ⟨q0, q1, q2, q3, q4, q5, q6, p0, p1⟩ := HC.out W hSw); go_simp; try rfl
  try simp only [Act.put, sA, sB, sC]
  refine rl 2 rfl (fun K hK => ?_)
  go_simp
  go_wp2_with (first | (go_at_call 130; refine (HNm.out _).mono ?_; rintro r wa ⟨rfl, rfl⟩))
  refine hK.out _ _ (hHeld) (fun hHeld => ?_)
  clear hK K
  refine tl 3 ?v43 rfl ?q43 ?r43
  case q43 => intro W hSw; go_simp; try rfl
  refine tl 4 ?v44 rfl ?q44 ?r44
  case q44 => intro W hSw; go_simp; try rfl
  try simp only [Act.put, sA, sB, sC]
  refine tl 5 ?v45 rfl ?q45 ?r45
  case q45 => intro W hSw; go_simp; try rfl
  try simp only [Act.put, sA, sB, sC]
  refine tl 6 ?v46 rfl ?q46 ?r46
  case q46 => intro W hSw; (try obtain ⟨q0, q1, q2, q3, q4, q5, q6, p0, p1⟩ := HC.out W hSw); go_simp; try rfl
  try simp only [Act.put, sA, sB, sC]
  refine tl 7 ?v47 rfl ?q47 ?r47
  case q47 => intro W hSw; (try obtain ⟨q0, q1, q2, q3, q4, q5, q6, p0, p1⟩ := HC.out W hSw); go_simp; try rfl
  refine tl 8 ?v48 rfl ?q48 ?r48
  case q48 => intro W hSw; go_simp; try rfl
  refine tl 9 ?v49 rfl ?q49 ?r49
  case q49 => intro W hSw; go_simp; try rfl
  try simp only [Act.put, sA, sB, sC]
  refine tl 10 ?v50 rfl ?q50 ?r50
  case q50 => intro W hSw; go_simp; try rfl
  try simp only [Act.put, sA, sB, sC]
  refine tl 11 ?v51 rfl ?q51 ?r51
  case q51 => intro W hSw; (try obtain ⟨q0, q1, q2, q3, q4, q5, q6, p0, p1⟩ := HC.out W hSw); go_simp; try rfl
  try simp only [Act.put, sA, sB, sC]
  refine tl 12 ?v52 rfl ?q52 ?r52
  case q52 => intro W hSw; go_simp; try rfl
  try simp only [Act.put, sA, sB, sC]
  refine tl 13 ?v53 rfl ?q53 ?r53
  case q53 => intro W hSw; go_simp; try rfl
  try simp only [Act.put, sA, sB, sC]
  refine tl 14 ?v54 rfl ?q54 ?r54
  case q54 => intro W hSw; go_simp; try rfl
  try simp only [Act.put, sA, sB, sC]
  refine tl 15 ?v55 rfl ?q55 ?r55
  case q55 => intro W hSw; (try obtain ⟨q0, q1, q2, q3, q4, q5, q6, p0, p1⟩ := HC.out W hSw); go_simp; try rfl
  try simp only [Act.put, sA, sB, sC]
  refine rl 16 rfl (fun K hK => ?_)
  go_simp
  go_wp2_with (first | (go_at_call 47; refine (HOn.out _).mono ?_; rintro r wb ⟨rfl, rfl⟩))
  refine hK.out _ _ (hHeld) (fun hHeld => ?_)
  clear hK K
  try simp only [Act.put, sA, sB, sC]
  refine tl 17 ?v56 rfl ?q56 ?r56
  case q56 => intro W hSw; go_simp; try rfl
  refine tl 18 ?v57 rfl ?q57 ?r57
  case q57 => intro W hSw; go_simp; try rfl
  refine tl 19 ?v58 rfl ?q58 ?r58
  case q58 => intro W hSw; go_simp; try rfl
  try simp only [Act.put, sA, sB, sC]
  refine tl 20 ?v59 rfl ?q59 ?r59
  case q59 => intro W hSw; go_simp; try rfl
  try simp only [Act.put, sA, sB, sC]
  refine tl 21 ?v60 rfl ?q60 ?r60
  case q60 => intro W hSw; (try obtain ⟨q0, q1, q2, q3, q4, q5, q6, p0, p1⟩ := HC.out W hSw); go_simp; try rfl
  try simp only [Act.put, sA, sB, sC]
  refine rl 22 rfl (fun K hK => ?_)
  go_simp
  go_wp2_with (first | (go_at_call 145; refine (HVa.out _).mono ?_; rintro r wc ⟨rfl, bc⟩))
  refine hK.out _ _ (hHeld.trans (Fr.b0 bc) (fun _ h => h.elim)) (fun hHeld => ?_)
  clear hK K
  try simp only [Act.put, sA, sB, sC]
  refine tl 23 ?v61 rfl ?q61 ?r61
  case q61 => intro W hSw; go_simp; try rfl
  refine tl 24 ?v62 rfl ?q62 ?r62
  case q62 => intro W hSw; go_simp; try rfl
  try simp only [Act.put, sA, sB, sC]
  refine wpAnyH_done (by kernel_rfl) ?_ _
  have Fh := Lib.hid hHeld
  clear hHeld
  go_wp2_with fail
  go_ret
  exact ⟨rfl, HSame.out _ (F1.out.trans Fh.out (fun _ h => h.elim)) (by trivial), (F1.out.trans Fh.out (fun _ h => h.elim)).mono (fun _ h => h.elim)⟩
 | true =>
 obtain rfl : rr = true := by rw [Hrr.out]; rfl
 have HIn := Lib.hid (HIn.out rfl)
 clear HSame Hrr HSm0 HrR
 go_wp2_with fail
 refine wp_region_held_drew (S := fun W => Fr (fun _ => False) W1 W) (by kernel_rfl) ((Fr.refl _ W1).drew) (fun hHeld => ?_)
 refine tl 0 ?v63 rfl ?q63 ?r63
 case q63 => intro W hSw; go_simp; try rfl
 refine tl 1 ?v64 rfl ?q64 ?r64
 case q64 => intro W hSw; (try obtain ⟨q0, q1, q2, q3, q4, q5, q6, p0, p1⟩ := HC.out W hSw); go_simp; try rfl
 try simp only [Act.put, sA, sB, sC]
 refine rl 2 rfl (fun K hK => ?_)
 go_simp
 go_wp2_with (first | (go_at_call 130; refine (HNm.out _).mono ?_; rintro r wa ⟨rfl, rfl⟩))
 refine hK.out _ _ (hHeld) (fun hHeld => ?_)
 clear hK K
 refine tl 3 ?v65 rfl ?q65 ?r65
 case q65 => intro W hSw; go_simp; try rfl
 refine tl 4 ?v66 rfl ?q66 ?r66
 case q66 => intro W hSw; go_simp; try rfl
 try simp only [Act.put, sA, sB, sC]
 refine tl 5 ?v67 rfl ?q67 ?r67
 case q67 => intro W hSw; go_simp; try rfl
 try simp only [Act.put, sA, sB, sC]
 refine tl 6 ?v68 rfl ?q68 ?r68
 case q68 => intro W hSw; (try obtain ⟨q0, q1, q2, q3, q4, q5, q6, p0, p1⟩ := HC.out W hSw); go_simp; try rfl
 try simp only [Act.put, sA, sB, sC]
 refine tl 7 ?v69 rfl ?q69 ?r69
 case q69 => intro W hSw; (try obtain ⟨q0, q1, q2, q3, q4, q5, q6, p0, p1⟩ := HC.out W hSw); go_simp; try rfl
 refine tl 8 ?v70 rfl ?q70 ?r70
 case q70 => intro W hSw; go_simp; try rfl
 refine tl 9 ?v71 rfl ?q71 ?r71
 case q71 => intro W hSw; go_simp; try rfl
 try simp only [Act.put, sA, sB, sC]
 refine tl 10 ?v72 rfl ?q72 ?r72
 case q72 => intro W hSw; go_simp; try rfl
 try simp only [Act.put, sA, sB, sC]
 refine tl 11 ?v73 rfl ?q73 ?r73
 case q73 => intro W hSw; (try obtain ⟨q0, q1, q2, q3, q4, q5, q6, p0, p1⟩ := HC.out W hSw); go_simp; try rfl
 try simp only [Act.put, sA, sB, sC]
 refine tl 12 ?v74 rfl ?q74 ?r74
 case q74 => intro W hSw; go_simp; try rfl
 try simp only [Act.put, sA, sB, sC]
 refine tl 13 ?v75 rfl ?q75 ?r75
 case q75 => intro W hSw; go_simp; try rfl
 try simp only [Act.put, sA, sB, sC]
 refine tl 14 ?v76 rfl ?q76 ?r76
 case q76 => intro W hSw; go_simp; try rfl
 try simp only [Act.put, sA, sB, sC]
 refine tl 15 ?v77 rfl ?q77 ?r77
 case q77 => intro W hSw; (try obtain ⟨q0, q1, q2, q3, q4, q5, q6, p0, p1⟩ := HC.out W hSw); go_simp; try rfl
 try simp only [Act.put, sA, sB, sC]
 refine rl 16 rfl (fun K hK => ?_)
 go_simp
 go_wp2_with (first | (go_at_call 47; refine (HOn.out _).mono ?_; rintro r wb ⟨rfl, rfl⟩))
 refine hK.out _ _ (hHeld) (fun hHeld => ?_)
 clear hK K
 try simp only [Act.put, sA, sB, sC]
 refine tl 17 ?v78 rfl ?q78 ?r78
 case q78 => intro W hSw; go_simp; try rfl
 refine tl 18 ?v79 rfl ?q79 ?r79
 case q79 => intro W hSw; go_simp; try rfl
 refine tl 19 ?v80 rfl ?q80 ?r80
 case q80 => intro W hSw; go_simp; try rfl
 try simp only [Act.put, sA, sB, sC]
 refine tl 20 ?v81 rfl ?q81 ?r81
 case q81 => intro W hSw; go_simp; try rfl
 try simp only [Act.put, sA, sB, sC]
 refine tl 21 ?v82 rfl ?q82 ?r82
 case q82 => intro W hSw; (try obtain ⟨q0, q1, q2, q3, q4, q5, q6, p0, p1⟩ := HC.out W hSw); go_simp; try rfl
 try simp only [Act.put, sA, sB, sC]
 refine rl 22 rfl (fun K hK => ?_)
 go_simp
 go_wp2_with (first | (go_at_call 145; refine (HVa.out _).mono ?_; rintro r wc ⟨rfl, bc⟩))
 refine hK.out _ _ (hHeld.trans (Fr.b0 bc) (fun _ h => h.elim)) (fun hHeld => ?_)
 clear hK K
 try simp only [Act.put, sA, sB, sC]
 refine tl 23 ?v83 rfl ?q83 ?r83
 case q83 => intro W hSw; go_simp; try rfl
 refine tl 24 ?v84 rfl ?q84 ?r84
 case q84 => intro W hSw; go_simp; try rfl
 try simp only [Act.put, sA, sB, sC]
 refine wpAnyH_done (by kernel_rfl) ?_ _
 have Fh := Lib.hid hHeld
 clear hHeld bc hd hst HNm HOn HVa
 go_upto_block 0 with fail
 obtain ⟨r, hr⟩ : ∃ r : RecV, (⟨rn, rs, ⟨r1, r2, r3, r4, r5⟩⟩ : RecV) = r := ⟨_, rfl⟩
 have Hr := Lib.hid hr
 rw [hr] at HIn Hrw
 clear hr
 go_cut [5] (fun s5 wx => ∃ (k : Nat) (W2 : World), W2 = wx ∧ k ≤ n ∧ s5 = .int .i64 k ∧ ((∀ j, j < k → ∀ x, l[j]? = some x → klt x r) ∧ ∀ x, l[k]? = some x → ¬ klt x r) ∧ Fr (fun _ => False) W1 wx)
 case first =>
  go_wp2_with fail
  go_loopw [5] (fun s5 wr => ∃ k : Nat, k ≤ n ∧ s5 = .int .i64 k ∧ (∀ j, j < k → ∀ x, l[j]? = some x → klt x r) ∧ Fr (fun _ => False) W1 wr) (fun s5 _ => n - (intOf s5).toNat)
  case atStart => exact ⟨0, Nat.zero_le _, rfl, fun j hj => absurd hj (Nat.not_lt_zero _), Fh.out⟩
  case round =>
   obtain ⟨k, hk, rfl, hall, fk⟩ := hrel
   have Fk := Lib.hid fk
   have Hall := Lib.hid hall
   clear fk hall
   by_cases hlt : k < n
   ·have hkd : decide ((k : Int) < (n : Int)) = true := decide_eq_true (by omega)
    have hkd2 : decide (k < n) = true := decide_eq_true hlt
    have hkI : 0 ≤ (k : Int) ∧ (k : Int) < (n : Int) := by omega
    have hkw : IntKind.i64.wrap ((k : Int) + 1) = (k : Int) + 1 := by simp [IntKind.wrap, IntKind.signed, IntKind.bits]; omega
    obtain ⟨ad, x, rfl, hx, d0, d1, d2, d3, d4, d5, d6⟩ := (HRd.out _ Fk.out).rec_ hlt
    have HLs : Hid (∀ W, Calls Tryz.prog 146 #[.agg #[.string x.name, .int .i64 x.start, .int .i64 x.agg.count, .int .i64 x.agg.hi, .int .u64 x.agg.lo, .int .i64 x.agg.min, .int .i64 x.agg.max], .agg #[.string rn, .int .i64 rs, .int .i64 r1, .int .i64 r2, .int .u64 r3, .int .i64 r4, .int .i64 r5]] W fun r' w' => r' = .returned (.bool (decide (klt x r))) ∧ Below W.heap.size W w') := fun W => by
     rw [← Hr.out]
     exact rless_any x ⟨rn, rs, ⟨r1, r2, r3, r4, r5⟩⟩ W
    have Hx := Lib.hid hx
    obtain ⟨kb, hkb⟩ : ∃ b, decide (klt x r) = b := ⟨_, rfl⟩
    rw [hkb] at HLs
    have Hkb := Lib.hid hkb
    have HCx : Hid (∀ W, Fr (fun _ => False) wr W → W.cell? (ad.add (k * 7)) = some (.string x.name) ∧ W.cell? ⟨(ad.add (k * 7)).block, (ad.add (k * 7)).off + 1, none⟩ = some (.int .i64 x.start) ∧ W.cell? ⟨(ad.add (k * 7)).block, (ad.add (k * 7)).off + 2, none⟩ = some (.int .i64 x.agg.count) ∧ W.cell? ⟨(ad.add (k * 7)).block, (ad.add (k * 7)).off + 3, none⟩ = some (.int .i64 x.agg.hi) ∧ W.cell? ⟨(ad.add (k * 7)).block, (ad.add (k * 7)).off + 4, none⟩ = some (.int .u64 x.agg.lo) ∧ W.cell? ⟨(ad.add (k * 7)).block, (ad.add (k * 7)).off + 5, none⟩ = some (.int .i64 x.agg.min) ∧ W.cell? ⟨(ad.add (k * 7)).block, (ad.add (k * 7)).off + 6, none⟩ = some (.int .i64 x.agg.max)) := fun W f =>
     ⟨f.cell d0 (fun h => h), f.cell d1 (fun h => h), f.cell d2 (fun h => h), f.cell d3 (fun h => h), f.cell d4 (fun h => h), f.cell d5 (fun h => h), f.cell d6 (fun h => h)⟩
    have HCq := Lib.hid (fun W (f : Fr (fun _ => False) wr W) => HC.out W (Fk.out.trans f (fun _ h => h.elim)))
    clear hx hkb d0 d1 d2 d3 d4 d5 d6
    go_wp2_with fail
    refine wp_region_held_drew (S := fun W => Fr (fun _ => False) wr W) (by kernel_rfl) ((Fr.refl _ wr).drew) (fun hHeld => ?_)
    refine tl 0 ?v85 rfl ?q85 ?r85
    case q85 => intro W hSw; go_simp; try rfl
    refine tl 1 ?v86 rfl ?q86 ?r86
    case q86 => intro W hSw; go_simp; try rfl
    refine tl 2 ?v87 rfl ?q87 ?r87
    case q87 => intro W hSw; go_simp; try rfl
    refine tl 3 ?v88 rfl ?q88 ?r88
    case q88 => intro W hSw; go_simp; try rfl
    refine tl 4 ?v89 rfl ?q89 ?r89
    case q89 => intro W hSw; (try obtain ⟨q0, q1, q2, q3, q4, q5, q6, p0, p1⟩ := HCq.out W hSw; obtain ⟨x0, x1, x2, x3, x4, x5, x6⟩ := HCx.out W hSw); go_simp; try rfl
    refine tl 5 ?v90 rfl ?q90 ?r90
    case q90 => intro W hSw; (try obtain ⟨q0, q1, q2, q3, q4, q5, q6, p0, p1⟩ := HCq.out W hSw; obtain ⟨x0, x1, x2, x3, x4, x5, x6⟩ := HCx.out W hSw); go_simp; try rfl
    refine tl 6 ?v91 rfl ?q91 ?r91
    case q91 => intro W hSw; (try obtain ⟨q0, q1, q2, q3, q4, q5, q6, p0, p1⟩ := HCq.out W hSw; obtain ⟨x0, x1, x2, x3, x4, x5, x6⟩ := HCx.out W hSw); go_simp; try rfl
    refine tl 7 ?v92 rfl ?q92 ?r92
    case q92 => intro W hSw; go_simp; try rfl
    try simp only [Act.put, sA, sB, sC]
    refine tl 8 ?v93 rfl ?q93 ?r93
    case q93 => intro W hSw; go_simp; try rfl
    try simp only [Act.put, sA, sB, sC]
    refine tl 9 ?v94 rfl ?q94 ?r94
    case q94 => intro W hSw; go_simp; try rfl
    try simp only [Act.put, sA, sB, sC]
    refine tl 10 ?v95 rfl ?q95 ?r95
    case q95 => intro W hSw; go_simp; try rfl
    try simp only [Act.put, sA, sB, sC]
    refine tl 11 ?v96 rfl ?q96 ?r96
    case q96 => intro W hSw; (try obtain ⟨q0, q1, q2, q3, q4, q5, q6, p0, p1⟩ := HCq.out W hSw; obtain ⟨x0, x1, x2, x3, x4, x5, x6⟩ := HCx.out W hSw); go_simp; try rfl
    try simp only [Act.put, sA, sB, sC]
    refine tl 12 ?v97 rfl ?q97 ?r97
    case q97 => intro W hSw; go_simp; try rfl
    try simp only [Act.put, sA, sB, sC]
    refine tl 13 ?v98 rfl ?q98 ?r98
    case q98 => intro W hSw; (try obtain ⟨q0, q1, q2, q3, q4, q5, q6, p0, p1⟩ := HCq.out W hSw; obtain ⟨x0, x1, x2, x3, x4, x5, x6⟩ := HCx.out W hSw); go_simp; try rfl
    try simp only [Act.put, sA, sB, sC]
    refine tl 14 ?v99 rfl ?q99 ?r99
    case q99 => intro W hSw; (try obtain ⟨q0, q1, q2, q3, q4, q5, q6, p0, p1⟩ := HCq.out W hSw; obtain ⟨x0, x1, x2, x3, x4, x5, x6⟩ := HCx.out W hSw); go_simp; try rfl
    try simp only [Act.put, sA, sB, sC]
    refine tl 15 ?v100 rfl ?q100 ?r100
    case q100 => intro W hSw; (try obtain ⟨q0, q1, q2, q3, q4, q5, q6, p0, p1⟩ := HCq.out W hSw; obtain ⟨x0, x1, x2, x3, x4, x5, x6⟩ := HCx.out W hSw); go_simp; try rfl
    try simp only [Act.put, sA, sB, sC]
    refine rl 16 rfl (fun K hK => ?_)
    go_simp
    go_wp2_with (first | (go_at_call 146; refine (HLs.out _).mono ?_; rintro r wl ⟨rfl, bl⟩))
    refine hK.out _ _ (hHeld.trans (Fr.b0 bl) (fun _ h => h.elim)) (fun hHeld => ?_)
    clear hK K
    refine tl 17 ?v101 rfl ?q101 ?r101
    case q101 => intro W hSw; go_simp; try rfl
    try simp only [Act.put, sA, sB, sC]
    refine wpAnyH_done (by kernel_rfl) ?_ _
    have Fl := Lib.hid hHeld
    clear hHeld bl
    cases kb with
    | true =>
     go_wp2_with fail
     go_roundw
     case rel =>
      refine ⟨k + 1, by omega, by go_num, fun j hj z hz => ?_, Fk.out.trans Fl.out (fun _ h => h.elim)⟩
      by_cases e : j = k
      ·subst e
       rw [Hx.out] at hz
       cases hz
       exact of_decide_eq_true Hkb.out
      ·exact Hall.out j (by omega) z hz
     case measure => simp [intOf]; omega
    | false =>
     go_wp2_with fail
     go_meet
     refine ⟨k, _, rfl, hk, rfl, ⟨Hall.out, fun z hz => ?_⟩, Fk.out.trans Fl.out (fun _ h => h.elim)⟩
     rw [Hx.out] at hz
     cases hz
     exact of_decide_eq_false Hkb.out
   ·obtain rfl : n = k := by omega
    have hkd : decide ((n : Int) < (n : Int)) = false := decide_eq_false (by omega)
    have HCq := Lib.hid (fun W (f : Fr (fun _ => False) wr W) => HC.out W (Fk.out.trans f (fun _ h => h.elim)))
    go_wp2_with fail
    refine wp_region_held_drew (S := fun W => Fr (fun _ => False) wr W) (by kernel_rfl) ((Fr.refl _ wr).drew) (fun hHeld => ?_)
    refine tl 0 ?v102 rfl ?q102 ?r102
    case q102 => intro W hSw; go_simp; try rfl
    refine tl 1 ?v103 rfl ?q103 ?r103
    case q103 => intro W hSw; go_simp; try rfl
    refine tl 2 ?v104 rfl ?q104 ?r104
    case q104 => intro W hSw; go_simp; try rfl
    refine tl 3 ?v105 rfl ?q105 ?r105
    case q105 => intro W hSw; go_simp; try rfl
    refine tl 4 ?v106 rfl ?q106 ?r106
    case q106 => intro W hSw; (try obtain ⟨q0, q1, q2, q3, q4, q5, q6, p0, p1⟩ := HCq.out W hSw); go_simp; try rfl
    refine tl 5 ?v107 rfl ?q107 ?r107
    case q107 => intro W hSw; (try obtain ⟨q0, q1, q2, q3, q4, q5, q6, p0, p1⟩ := HCq.out W hSw); go_simp; try rfl
    refine tl 6 ?v108 rfl ?q108 ?r108
    case q108 => intro W hSw; (try obtain ⟨q0, q1, q2, q3, q4, q5, q6, p0, p1⟩ := HCq.out W hSw); go_simp; try rfl
    refine tl 7 ?v109 rfl ?q109 ?r109
    case q109 => intro W hSw; go_simp; try rfl
    try simp only [Act.put, sA, sB, sC]
    refine tu 8 rfl ?_
    try simp only [Act.put, sA, sB, sC]
    refine tu 9 rfl ?_
    try simp only [Act.put, sA, sB, sC]
    refine tu 10 rfl ?_
    try simp only [Act.put, sA, sB, sC]
    refine tu 11 rfl ?_
    try simp only [Act.put, sA, sB, sC]
    refine tu 12 rfl ?_
    try simp only [Act.put, sA, sB, sC]
    refine tu 13 rfl ?_
    try simp only [Act.put, sA, sB, sC]
    refine tu 14 rfl ?_
    try simp only [Act.put, sA, sB, sC]
    refine tu 15 rfl ?_
    try simp only [Act.put, sA, sB, sC]
    refine tu 16 rfl ?_
    refine tl 17 ?v110 rfl ?q110 ?r110
    case q110 => intro W hSw; go_simp; try rfl
    try simp only [Act.put, sA, sB, sC]
    refine wpAnyH_done (by kernel_rfl) ?_ _
    have Fl := Lib.hid hHeld
    clear hHeld
    go_wp2_with fail
    go_meet
    refine ⟨n, _, rfl, Nat.le_refl _, rfl, ⟨Hall.out, fun z hz => ?_⟩, Fk.out.trans Fl.out (fun _ h => h.elim)⟩
    rw [← Hn.out, List.getElem?_eq_none (Nat.le_refl _)] at hz
    cases hz
 case rest =>
 obtain ⟨k, W2, rfl, hk, rfl, ⟨hall, hnot⟩, fk⟩ := hcut
 have Hall := Lib.hid hall
 have Hnot := Lib.hid hnot
 have F2 := Lib.hid fk
 have p1 := (HC.out _ fk).2.2.2.2.2.2.2.2
 have hkI : 0 ≤ (k : Int) ∧ (k : Int) ≤ (n : Int) ∧ (k : Int) ≤ (c : Int) := by omega
 have RDD : Hid (∀ W, Fr (fun _ => False) W1 W → Rd W 7 (if c = k then A else A.map (·.add (k * 7))) (n - k) (rcells (l.drop k))) := fun W f => by
  have h := (HRd.out W f).cut hk hnc
  rw [show (rcells l).drop (k * 7) = rcells (l.drop k) from vflat_dropR l k] at h
  exact h
 clear hall hnot fk Fh
 go_upto_region 6 with fail
 go_cut [6] (fun s6 wx => ∃ (A6 : Option Addr) (c6 : Nat) (W3 : World), W3 = wx ∧ s6 = .slice A6 (n - k) c6 ∧ (A6 = A ∨ A6 = A.map (·.add (k * 7))) ∧ (∀ W, Fr (fun _ => False) W1 W → Rd W 7 A6 (n - k) (rcells (l.drop k))) ∧ Fr (fun _ => False) W1 wx)
 case first =>
  by_cases hck : c = k
  case pos =>
   obtain rfl : k = c := hck.symm
   go_wp2_with fail
   go_meet
   refine ⟨A, 0, W2, rfl, by first | rfl | (rw [show n - k = 0 by omega]), .inl rfl, fun W f => ?_, F2.out⟩
   ·have h := RDD.out W f
    first | rw [if_pos rfl] at h | rw [if_pos trivial] at h
    exact h
  case neg =>
   go_wp2_with fail
   go_meet
   refine ⟨A.map (·.add (k * 7)), c - k, W2, rfl, by rfl, .inr rfl, fun W f => ?_, F2.out⟩
   ·have h := RDD.out W f
    rw [if_neg hck] at h
    exact h
 case rest =>
 obtain ⟨A6, c6, W3, rfl, rfl, hA6, hr6, fk⟩ := hcut
 have F3 := Lib.hid fk
 have R6 := Lib.hid hr6
 clear fk hr6 p1 F2 RDD
 go_upto_region 7 with fail
 go_cut [90] (fun s90 wx => ∃ (b : Bool) (W4 : World), W4 = wx ∧ s90 = .bool b ∧ SameAt l k r b ∧ Fr (fun _ => False) W1 wx)
 case first =>
  by_cases hlt : k < n
  case pos =>
   have hkd : decide ((k : Int) < (n : Int)) = true := decide_eq_true (by omega)
   have hkd2 : decide (k < n) = true := decide_eq_true hlt
   have hkI2 : 0 ≤ (k : Int) ∧ (k : Int) < (n : Int) := by omega
   obtain ⟨ad, x, rfl, hx, d0, d1, _⟩ := (HRd.out _ F3.out).rec_ hlt
   have HCq : Hid (∀ W, Fr (fun _ => False) W3 W → (W.cell? ⟨rb, 0, none⟩ = some (.string rn) ∧ W.cell? ⟨rb, 1, none⟩ = some (.int .i64 rs) ∧ W.cell? ⟨rb, 2, none⟩ = some (.int .i64 r1) ∧ W.cell? ⟨rb, 3, none⟩ = some (.int .i64 r2) ∧ W.cell? ⟨rb, 4, none⟩ = some (.int .u64 r3) ∧ W.cell? ⟨rb, 5, none⟩ = some (.int .i64 r4) ∧ W.cell? ⟨rb, 6, none⟩ = some (.int .i64 r5) ∧ W.cell? ⟨g, 0, none⟩ = some (.int .i64 every) ∧ W.cell? ⟨g, 1, none⟩ = some (.slice (some ad) n c)) ∧ W.cell? (ad.add (k * 7)) = some (.string x.name) ∧ W.cell? ⟨(ad.add (k * 7)).block, (ad.add (k * 7)).off + 1, none⟩ = some (.int .i64 x.start)) := fun W f => ⟨HC.out W (F3.out.trans f (fun _ h => h.elim)), f.cell d0 (fun h => h), f.cell d1 (fun h => h)⟩
   have HSk : Hid (∀ b, (x.name = rn ∧ x.start = rs ↔ b = true) → SameAt l k r b) := fun b h => by
    unfold SameAt
    rw [← Hr.out]
    exact ⟨fun hb => ⟨x, hx, h.2 hb⟩, fun ⟨z, hz, hk⟩ => h.1 (by rw [hx] at hz; cases hz; exact hk)⟩
   obtain ⟨xn, hxn⟩ : ∃ v, x.name = v := ⟨_, rfl⟩
   obtain ⟨xs, hxs⟩ : ∃ v, x.start = v := ⟨_, rfl⟩
   rw [hxn, hxs] at HCq HSk
   clear hx d0 d1 hxn hxs
   by_cases h1 : xn = rn
   case pos =>
    subst h1
    by_cases h2 : xs = rs
    case pos =>
     subst h2
     have HQ := Lib.hid (HSk.out true ⟨fun _ => rfl, fun _ => ⟨rfl, rfl⟩⟩)
     clear HSk
     go_wp2_with fail
     refine wp_region_held_drew (S := fun W => Fr (fun _ => False) W3 W) (by kernel_rfl) ((Fr.refl _ W3).drew) (fun hHeld => ?_)
     refine tl 0 ?v111 rfl ?q111 ?r111
     case q111 => intro W hSw; go_simp; try rfl
     refine tl 1 ?v112 rfl ?q112 ?r112
     case q112 => intro W hSw; go_simp; try rfl
     refine tl 2 ?v113 rfl ?q113 ?r113
     case q113 => intro W hSw; go_simp; try rfl
     refine tl 3 ?v114 rfl ?q114 ?r114
     case q114 => intro W hSw; go_simp; try rfl
     refine tl 4 ?v115 rfl ?q115 ?r115
     case q115 => intro W hSw; (try obtain ⟨⟨q0, q1, q2, q3, q4, q5, q6, p0, p1⟩, x0, x1⟩ := HCq.out W hSw); go_simp; try rfl
     refine tl 5 ?v116 rfl ?q116 ?r116
     case q116 => intro W hSw; (try obtain ⟨⟨q0, q1, q2, q3, q4, q5, q6, p0, p1⟩, x0, x1⟩ := HCq.out W hSw); go_simp; try rfl
     refine tl 6 ?v117 rfl ?q117 ?r117
     case q117 => intro W hSw; (try obtain ⟨⟨q0, q1, q2, q3, q4, q5, q6, p0, p1⟩, x0, x1⟩ := HCq.out W hSw); go_simp; try rfl
     refine tl 7 ?v118 rfl ?q118 ?r118
     case q118 => intro W hSw; go_simp; try rfl
     try simp only [Act.put, sA, sB, sC]
     refine tl 8 ?v119 rfl ?q119 ?r119
     case q119 => intro W hSw; go_simp; try rfl
     try simp only [Act.put, sA, sB, sC]
     refine tl 9 ?v120 rfl ?q120 ?r120
     case q120 => intro W hSw; go_simp; try rfl
     try simp only [Act.put, sA, sB, sC]
     refine tl 10 ?v121 rfl ?q121 ?r121
     case q121 => intro W hSw; go_simp; try rfl
     try simp only [Act.put, sA, sB, sC]
     refine tl 11 ?v122 rfl ?q122 ?r122
     case q122 => intro W hSw; (try obtain ⟨⟨q0, q1, q2, q3, q4, q5, q6, p0, p1⟩, x0, x1⟩ := HCq.out W hSw); go_simp; try rfl
     try simp only [Act.put, sA, sB, sC]
     refine tl 12 ?v123 rfl ?q123 ?r123
     case q123 => intro W hSw; go_simp; try rfl
     try simp only [Act.put, sA, sB, sC]
     refine tl 13 ?v124 rfl ?q124 ?r124
     case q124 => intro W hSw; (try obtain ⟨⟨q0, q1, q2, q3, q4, q5, q6, p0, p1⟩, x0, x1⟩ := HCq.out W hSw); go_simp; try rfl
     try simp only [Act.put, sA, sB, sC]
     refine tl 14 ?v125 rfl ?q125 ?r125
     case q125 => intro W hSw; go_simp; try rfl
     try simp only [Act.put, sA, sB, sC]
     refine tl 15 ?v126 rfl ?q126 ?r126
     case q126 => intro W hSw; (try obtain ⟨⟨q0, q1, q2, q3, q4, q5, q6, p0, p1⟩, x0, x1⟩ := HCq.out W hSw); go_simp; try rfl
     try simp only [Act.put, sA, sB, sC]
     refine tl 16 ?v127 rfl ?q127 ?r127
     case q127 => intro W hSw; go_simp; try rfl
     try simp only [Act.put, sA, sB, sC]
     refine tl 17 ?v128 rfl ?q128 ?r128
     case q128 => intro W hSw; (try obtain ⟨⟨q0, q1, q2, q3, q4, q5, q6, p0, p1⟩, x0, x1⟩ := HCq.out W hSw); go_simp; try rfl
     try simp only [Act.put, sA, sB, sC]
     refine tl 18 ?v129 rfl ?q129 ?r129
     case q129 => intro W hSw; (try obtain ⟨⟨q0, q1, q2, q3, q4, q5, q6, p0, p1⟩, x0, x1⟩ := HCq.out W hSw); go_simp; try rfl
     refine tl 19 ?v130 rfl ?q130 ?r130
     case q130 => intro W hSw; go_simp; try rfl
     refine tl 20 ?v131 rfl ?q131 ?r131
     case q131 => intro W hSw; go_simp; try rfl
     try simp only [Act.put, sA, sB, sC]
     refine tl 21 ?v132 rfl ?q132 ?r132
     case q132 => intro W hSw; go_simp; try rfl
     try simp only [Act.put, sA, sB, sC]
     refine tl 22 ?v133 rfl ?q133 ?r133
     case q133 => intro W hSw; go_simp; try rfl
     try simp only [Act.put, sA, sB, sC]
     refine tl 23 ?v134 rfl ?q134 ?r134
     case q134 => intro W hSw; go_simp; try rfl
     try simp only [Act.put, sA, sB, sC]
     refine tl 24 ?v135 rfl ?q135 ?r135
     case q135 => intro W hSw; (try obtain ⟨⟨q0, q1, q2, q3, q4, q5, q6, p0, p1⟩, x0, x1⟩ := HCq.out W hSw); go_simp; try rfl
     try simp only [Act.put, sA, sB, sC]
     refine tl 25 ?v136 rfl ?q136 ?r136
     case q136 => intro W hSw; go_simp; try rfl
     try simp only [Act.put, sA, sB, sC]
     refine tl 26 ?v137 rfl ?q137 ?r137
     case q137 => intro W hSw; (try obtain ⟨⟨q0, q1, q2, q3, q4, q5, q6, p0, p1⟩, x0, x1⟩ := HCq.out W hSw); go_simp; try rfl
     try simp only [Act.put, sA, sB, sC]
     refine tl 27 ?v138 rfl ?q138 ?r138
     case q138 => intro W hSw; go_simp; try rfl
     try simp only [Act.put, sA, sB, sC]
     refine tl 28 ?v139 rfl ?q139 ?r139
     case q139 => intro W hSw; (try obtain ⟨⟨q0, q1, q2, q3, q4, q5, q6, p0, p1⟩, x0, x1⟩ := HCq.out W hSw); go_simp; try rfl
     try simp only [Act.put, sA, sB, sC]
     refine tl 29 ?v140 rfl ?q140 ?r140
     case q140 => intro W hSw; go_simp; try rfl
     try simp only [Act.put, sA, sB, sC]
     refine tl 30 ?v141 rfl ?q141 ?r141
     case q141 => intro W hSw; (try obtain ⟨⟨q0, q1, q2, q3, q4, q5, q6, p0, p1⟩, x0, x1⟩ := HCq.out W hSw); go_simp; try rfl
     try simp only [Act.put, sA, sB, sC]
     refine tl 31 ?v142 rfl ?q142 ?r142
     case q142 => intro W hSw; (try obtain ⟨⟨q0, q1, q2, q3, q4, q5, q6, p0, p1⟩, x0, x1⟩ := HCq.out W hSw); go_simp; try rfl
     refine tl 32 ?v143 rfl ?q143 ?r143
     case q143 => intro W hSw; go_simp; try rfl
     try simp only [Act.put, sA, sB, sC]
     refine wpAnyH_done (by kernel_rfl) ?_ _
     have Fl := Lib.hid hHeld
     clear hHeld
     go_wp2_with fail
     go_meet
     exact ⟨true, _, rfl, rfl, HQ.out, F3.out.trans Fl.out (fun _ h => h.elim)⟩
    case neg =>
     have e1 : (xs == rs) = false := by simpa using h2
     have e2 : decide (xs = rs) = false := decide_eq_false h2
     have HQ := Lib.hid (HSk.out false ⟨fun h => absurd h.2 h2, fun h => by cases h⟩)
     clear HSk
     go_wp2_with fail
     refine wp_region_held_drew (S := fun W => Fr (fun _ => False) W3 W) (by kernel_rfl) ((Fr.refl _ W3).drew) (fun hHeld => ?_)
     refine tl 0 ?v144 rfl ?q144 ?r144
     case q144 => intro W hSw; go_simp; try rfl
     refine tl 1 ?v145 rfl ?q145 ?r145
     case q145 => intro W hSw; go_simp; try rfl
     refine tl 2 ?v146 rfl ?q146 ?r146
     case q146 => intro W hSw; go_simp; try rfl
     refine tl 3 ?v147 rfl ?q147 ?r147
     case q147 => intro W hSw; go_simp; try rfl
     refine tl 4 ?v148 rfl ?q148 ?r148
     case q148 => intro W hSw; (try obtain ⟨⟨q0, q1, q2, q3, q4, q5, q6, p0, p1⟩, x0, x1⟩ := HCq.out W hSw); go_simp; try rfl
     refine tl 5 ?v149 rfl ?q149 ?r149
     case q149 => intro W hSw; (try obtain ⟨⟨q0, q1, q2, q3, q4, q5, q6, p0, p1⟩, x0, x1⟩ := HCq.out W hSw); go_simp; try rfl
     refine tl 6 ?v150 rfl ?q150 ?r150
     case q150 => intro W hSw; (try obtain ⟨⟨q0, q1, q2, q3, q4, q5, q6, p0, p1⟩, x0, x1⟩ := HCq.out W hSw); go_simp; try rfl
     refine tl 7 ?v151 rfl ?q151 ?r151
     case q151 => intro W hSw; go_simp; try rfl
     try simp only [Act.put, sA, sB, sC]
     refine tl 8 ?v152 rfl ?q152 ?r152
     case q152 => intro W hSw; go_simp; try rfl
     try simp only [Act.put, sA, sB, sC]
     refine tl 9 ?v153 rfl ?q153 ?r153
     case q153 => intro W hSw; go_simp; try rfl
     try simp only [Act.put, sA, sB, sC]
     refine tl 10 ?v154 rfl ?q154 ?r154
     case q154 => intro W hSw; go_simp; try rfl
     try simp only [Act.put, sA, sB, sC]
     refine tl 11 ?v155 rfl ?q155 ?r155
     case q155 => intro W hSw; (try obtain ⟨⟨q0, q1, q2, q3, q4, q5, q6, p0, p1⟩, x0, x1⟩ := HCq.out W hSw); go_simp; try rfl
     try simp only [Act.put, sA, sB, sC]
     refine tl 12 ?v156 rfl ?q156 ?r156
     case q156 => intro W hSw; go_simp; try rfl
     try simp only [Act.put, sA, sB, sC]
     refine tl 13 ?v157 rfl ?q157 ?r157
     case q157 => intro W hSw; (try obtain ⟨⟨q0, q1, q2, q3, q4, q5, q6, p0, p1⟩, x0, x1⟩ := HCq.out W hSw); go_simp; try rfl
     try simp only [Act.put, sA, sB, sC]
     refine tl 14 ?v158 rfl ?q158 ?r158
     case q158 => intro W hSw; go_simp; try rfl
     try simp only [Act.put, sA, sB, sC]
     refine tl 15 ?v159 rfl ?q159 ?r159
     case q159 => intro W hSw; (try obtain ⟨⟨q0, q1, q2, q3, q4, q5, q6, p0, p1⟩, x0, x1⟩ := HCq.out W hSw); go_simp; try rfl
     try simp only [Act.put, sA, sB, sC]
     refine tl 16 ?v160 rfl ?q160 ?r160
     case q160 => intro W hSw; go_simp; try rfl
     try simp only [Act.put, sA, sB, sC]
     refine tl 17 ?v161 rfl ?q161 ?r161
     case q161 => intro W hSw; (try obtain ⟨⟨q0, q1, q2, q3, q4, q5, q6, p0, p1⟩, x0, x1⟩ := HCq.out W hSw); go_simp; try rfl
     try simp only [Act.put, sA, sB, sC]
     refine tl 18 ?v162 rfl ?q162 ?r162
     case q162 => intro W hSw; (try obtain ⟨⟨q0, q1, q2, q3, q4, q5, q6, p0, p1⟩, x0, x1⟩ := HCq.out W hSw); go_simp; try rfl
     refine tl 19 ?v163 rfl ?q163 ?r163
     case q163 => intro W hSw; go_simp; try rfl
     refine tl 20 ?v164 rfl ?q164 ?r164
     case q164 => intro W hSw; go_simp; try rfl
     try simp only [Act.put, sA, sB, sC]
     refine tl 21 ?v165 rfl ?q165 ?r165
     case q165 => intro W hSw; go_simp; try rfl
     try simp only [Act.put, sA, sB, sC]
     refine tl 22 ?v166 rfl ?q166 ?r166
     case q166 => intro W hSw; go_simp; try rfl
     try simp only [Act.put, sA, sB, sC]
     refine tl 23 ?v167 rfl ?q167 ?r167
     case q167 => intro W hSw; go_simp; try rfl
     try simp only [Act.put, sA, sB, sC]
     refine tl 24 ?v168 rfl ?q168 ?r168
     case q168 => intro W hSw; (try obtain ⟨⟨q0, q1, q2, q3, q4, q5, q6, p0, p1⟩, x0, x1⟩ := HCq.out W hSw); go_simp; try rfl
     try simp only [Act.put, sA, sB, sC]
     refine tl 25 ?v169 rfl ?q169 ?r169
     case q169 => intro W hSw; go_simp; try rfl
     try simp only [Act.put, sA, sB, sC]
     refine tl 26 ?v170 rfl ?q170 ?r170
     case q170 => intro W hSw; (try obtain ⟨⟨q0, q1, q2, q3, q4, q5, q6, p0, p1⟩, x0, x1⟩ := HCq.out W hSw); go_simp; try rfl
     try simp only [Act.put, sA, sB, sC]
     refine tl 27 ?v171 rfl ?q171 ?r171
     case q171 => intro W hSw; go_simp; try rfl
     try simp only [Act.put, sA, sB, sC]
     refine tl 28 ?v172 rfl ?q172 ?r172
     case q172 => intro W hSw; (try obtain ⟨⟨q0, q1, q2, q3, q4, q5, q6, p0, p1⟩, x0, x1⟩ := HCq.out W hSw); go_simp; try rfl
     try simp only [Act.put, sA, sB, sC]
     refine tl 29 ?v173 rfl ?q173 ?r173
     case q173 => intro W hSw; go_simp; try rfl
     try simp only [Act.put, sA, sB, sC]
     refine tl 30 ?v174 rfl ?q174 ?r174
     case q174 => intro W hSw; (try obtain ⟨⟨q0, q1, q2, q3, q4, q5, q6, p0, p1⟩, x0, x1⟩ := HCq.out W hSw); go_simp; try rfl
     try simp only [Act.put, sA, sB, sC]
     refine tl 31 ?v175 rfl ?q175 ?r175
     case q175 => intro W hSw; (try obtain ⟨⟨q0, q1, q2, q3, q4, q5, q6, p0, p1⟩, x0, x1⟩ := HCq.out W hSw); go_simp; try rfl
     refine tl 32 ?v176 rfl ?q176 ?r176
     case q176 => intro W hSw; go_simp; try rfl
     try simp only [Act.put, sA, sB, sC]
     refine wpAnyH_done (by kernel_rfl) ?_ _
     have Fl := Lib.hid hHeld
     clear hHeld
     go_wp2_with fail
     go_meet
     exact ⟨false, _, rfl, rfl, HQ.out, F3.out.trans Fl.out (fun _ h => h.elim)⟩
   case neg =>
    have e1 : ¬ xn.toList = rn.toList := fun h => h1 (toList_inj h)
    have e3 : (xn.toList == rn.toList) = false := by simpa using e1
    have e4 : decide (xn.toList = rn.toList) = false := decide_eq_false e1
    have HQ := Lib.hid (HSk.out false ⟨fun h => absurd h.1 h1, fun h => by cases h⟩)
    clear HSk
    go_wp2_with fail
    refine wp_region_held_drew (S := fun W => Fr (fun _ => False) W3 W) (by kernel_rfl) ((Fr.refl _ W3).drew) (fun hHeld => ?_)
    refine tl 0 ?v177 rfl ?q177 ?r177
    case q177 => intro W hSw; go_simp; try rfl
    refine tl 1 ?v178 rfl ?q178 ?r178
    case q178 => intro W hSw; go_simp; try rfl
    refine tl 2 ?v179 rfl ?q179 ?r179
    case q179 => intro W hSw; go_simp; try rfl
    refine tl 3 ?v180 rfl ?q180 ?r180
    case q180 => intro W hSw; go_simp; try rfl
    refine tl 4 ?v181 rfl ?q181 ?r181
    case q181 => intro W hSw; (try obtain ⟨⟨q0, q1, q2, q3, q4, q5, q6, p0, p1⟩, x0, x1⟩ := HCq.out W hSw); go_simp; try rfl
    refine tl 5 ?v182 rfl ?q182 ?r182
    case q182 => intro W hSw; (try obtain ⟨⟨q0, q1, q2, q3, q4, q5, q6, p0, p1⟩, x0, x1⟩ := HCq.out W hSw); go_simp; try rfl
    refine tl 6 ?v183 rfl ?q183 ?r183
    case q183 => intro W hSw; (try obtain ⟨⟨q0, q1, q2, q3, q4, q5, q6, p0, p1⟩, x0, x1⟩ := HCq.out W hSw); go_simp; try rfl
    refine tl 7 ?v184 rfl ?q184 ?r184
    case q184 => intro W hSw; go_simp; try rfl
    try simp only [Act.put, sA, sB, sC]
    refine tl 8 ?v185 rfl ?q185 ?r185
    case q185 => intro W hSw; go_simp; try rfl
    try simp only [Act.put, sA, sB, sC]
    refine tl 9 ?v186 rfl ?q186 ?r186
    case q186 => intro W hSw; go_simp; try rfl
    try simp only [Act.put, sA, sB, sC]
    refine tl 10 ?v187 rfl ?q187 ?r187
    case q187 => intro W hSw; go_simp; try rfl
    try simp only [Act.put, sA, sB, sC]
    refine tl 11 ?v188 rfl ?q188 ?r188
    case q188 => intro W hSw; (try obtain ⟨⟨q0, q1, q2, q3, q4, q5, q6, p0, p1⟩, x0, x1⟩ := HCq.out W hSw); go_simp; try rfl
    try simp only [Act.put, sA, sB, sC]
    refine tl 12 ?v189 rfl ?q189 ?r189
    case q189 => intro W hSw; go_simp; try rfl
    try simp only [Act.put, sA, sB, sC]
    refine tl 13 ?v190 rfl ?q190 ?r190
    case q190 => intro W hSw; (try obtain ⟨⟨q0, q1, q2, q3, q4, q5, q6, p0, p1⟩, x0, x1⟩ := HCq.out W hSw); go_simp; try rfl
    try simp only [Act.put, sA, sB, sC]
    refine tl 14 ?v191 rfl ?q191 ?r191
    case q191 => intro W hSw; go_simp; try rfl
    try simp only [Act.put, sA, sB, sC]
    refine tl 15 ?v192 rfl ?q192 ?r192
    case q192 => intro W hSw; (try obtain ⟨⟨q0, q1, q2, q3, q4, q5, q6, p0, p1⟩, x0, x1⟩ := HCq.out W hSw); go_simp; try rfl
    try simp only [Act.put, sA, sB, sC]
    refine tl 16 ?v193 rfl ?q193 ?r193
    case q193 => intro W hSw; go_simp; try rfl
    try simp only [Act.put, sA, sB, sC]
    refine tl 17 ?v194 rfl ?q194 ?r194
    case q194 => intro W hSw; (try obtain ⟨⟨q0, q1, q2, q3, q4, q5, q6, p0, p1⟩, x0, x1⟩ := HCq.out W hSw); go_simp; try rfl
    try simp only [Act.put, sA, sB, sC]
    refine tl 18 ?v195 rfl ?q195 ?r195
    case q195 => intro W hSw; (try obtain ⟨⟨q0, q1, q2, q3, q4, q5, q6, p0, p1⟩, x0, x1⟩ := HCq.out W hSw); go_simp; try rfl
    refine tl 19 ?v196 rfl ?q196 ?r196
    case q196 => intro W hSw; go_simp; try rfl
    refine tl 20 ?v197 rfl ?q197 ?r197
    case q197 => intro W hSw; go_simp; try rfl
    try simp only [Act.put, sA, sB, sC]
    refine tu 21 rfl ?_
    try simp only [Act.put, sA, sB, sC]
    refine tu 22 rfl ?_
    try simp only [Act.put, sA, sB, sC]
    refine tu 23 rfl ?_
    try simp only [Act.put, sA, sB, sC]
    refine tu 24 rfl ?_
    try simp only [Act.put, sA, sB, sC]
    refine tu 25 rfl ?_
    try simp only [Act.put, sA, sB, sC]
    refine tu 26 rfl ?_
    try simp only [Act.put, sA, sB, sC]
    refine tu 27 rfl ?_
    try simp only [Act.put, sA, sB, sC]
    refine tu 28 rfl ?_
    try simp only [Act.put, sA, sB, sC]
    refine tu 29 rfl ?_
    try simp only [Act.put, sA, sB, sC]
    refine tu 30 rfl ?_
    try simp only [Act.put, sA, sB, sC]
    refine tu 31 rfl ?_
    refine tl 32 ?v198 rfl ?q198 ?r198
    case q198 => intro W hSw; go_simp; try rfl
    try simp only [Act.put, sA, sB, sC]
    refine wpAnyH_done (by kernel_rfl) ?_ _
    have Fl := Lib.hid hHeld
    clear hHeld
    go_wp2_with fail
    go_meet
    exact ⟨false, _, rfl, rfl, HQ.out, F3.out.trans Fl.out (fun _ h => h.elim)⟩
  case neg =>
   obtain rfl : n = k := by omega
   have hkd : decide ((n : Int) < (n : Int)) = false := decide_eq_false (by omega)
   have HCq : Hid (∀ W, Fr (fun _ => False) W3 W → (W.cell? ⟨rb, 0, none⟩ = some (.string rn) ∧ W.cell? ⟨rb, 1, none⟩ = some (.int .i64 rs) ∧ W.cell? ⟨rb, 2, none⟩ = some (.int .i64 r1) ∧ W.cell? ⟨rb, 3, none⟩ = some (.int .i64 r2) ∧ W.cell? ⟨rb, 4, none⟩ = some (.int .u64 r3) ∧ W.cell? ⟨rb, 5, none⟩ = some (.int .i64 r4) ∧ W.cell? ⟨rb, 6, none⟩ = some (.int .i64 r5) ∧ W.cell? ⟨g, 0, none⟩ = some (.int .i64 every) ∧ W.cell? ⟨g, 1, none⟩ = some (.slice A n c)) ∧ True ∧ True) := fun W f => ⟨HC.out W (F3.out.trans f (fun _ h => h.elim)), trivial, trivial⟩
   go_wp2_with fail
   refine wp_region_held_drew (S := fun W => Fr (fun _ => False) W3 W) (by kernel_rfl) ((Fr.refl _ W3).drew) (fun hHeld => ?_)
   refine tl 0 ?v199 rfl ?q199 ?r199
   case q199 => intro W hSw; go_simp; try rfl
   refine tl 1 ?v200 rfl ?q200 ?r200
   case q200 => intro W hSw; go_simp; try rfl
   refine tl 2 ?v201 rfl ?q201 ?r201
   case q201 => intro W hSw; go_simp; try rfl
   refine tl 3 ?v202 rfl ?q202 ?r202
   case q202 => intro W hSw; go_simp; try rfl
   refine tl 4 ?v203 rfl ?q203 ?r203
   case q203 => intro W hSw; (try obtain ⟨⟨q0, q1, q2, q3, q4, q5, q6, p0, p1⟩, x0, x1⟩ := HCq.out W hSw); go_simp; try rfl
   refine tl 5 ?v204 rfl ?q204 ?r204
   case q204 => intro W hSw; (try obtain ⟨⟨q0, q1, q2, q3, q4, q5, q6, p0, p1⟩, x0, x1⟩ := HCq.out W hSw); go_simp; try rfl
   refine tl 6 ?v205 rfl ?q205 ?r205
   case q205 => intro W hSw; (try obtain ⟨⟨q0, q1, q2, q3, q4, q5, q6, p0, p1⟩, x0, x1⟩ := HCq.out W hSw); go_simp; try rfl
   refine tl 7 ?v206 rfl ?q206 ?r206
   case q206 => intro W hSw; go_simp; try rfl
   try simp only [Act.put, sA, sB, sC]
   refine tu 8 rfl ?_
   try simp only [Act.put, sA, sB, sC]
   refine tu 9 rfl ?_
   try simp only [Act.put, sA, sB, sC]
   refine tu 10 rfl ?_
   try simp only [Act.put, sA, sB, sC]
   refine tu 11 rfl ?_
   try simp only [Act.put, sA, sB, sC]
   refine tu 12 rfl ?_
   try simp only [Act.put, sA, sB, sC]
   refine tu 13 rfl ?_
   try simp only [Act.put, sA, sB, sC]
   refine tu 14 rfl ?_
   try simp only [Act.put, sA, sB, sC]
   refine tu 15 rfl ?_
   try simp only [Act.put, sA, sB, sC]
   refine tu 16 rfl ?_
   try simp only [Act.put, sA, sB, sC]
   refine tu 17 rfl ?_
   try simp only [Act.put, sA, sB, sC]
   refine tu 18 rfl ?_
   refine tl 19 ?v207 rfl ?q207 ?r207
   case q207 => intro W hSw; go_simp; try rfl
   refine tl 20 ?v208 rfl ?q208 ?r208
   case q208 => intro W hSw; go_simp; try rfl
   try simp only [Act.put, sA, sB, sC]
   refine tu 21 rfl ?_
   try simp only [Act.put, sA, sB, sC]
   refine tu 22 rfl ?_
   try simp only [Act.put, sA, sB, sC]
   refine tu 23 rfl ?_
   try simp only [Act.put, sA, sB, sC]
   refine tu 24 rfl ?_
   try simp only [Act.put, sA, sB, sC]
   refine tu 25 rfl ?_
   try simp only [Act.put, sA, sB, sC]
   refine tu 26 rfl ?_
   try simp only [Act.put, sA, sB, sC]
   refine tu 27 rfl ?_
   try simp only [Act.put, sA, sB, sC]
   refine tu 28 rfl ?_
   try simp only [Act.put, sA, sB, sC]
   refine tu 29 rfl ?_
   try simp only [Act.put, sA, sB, sC]
   refine tu 30 rfl ?_
   try simp only [Act.put, sA, sB, sC]
   refine tu 31 rfl ?_
   refine tl 32 ?v209 rfl ?q209 ?r209
   case q209 => intro W hSw; go_simp; try rfl
   try simp only [Act.put, sA, sB, sC]
   refine wpAnyH_done (by kernel_rfl) ?_ _
   have Fl := Lib.hid hHeld
   clear hHeld
   go_wp2_with fail
   go_meet
   refine ⟨false, _, rfl, rfl, ⟨fun h => (by cases h), fun ⟨z, hz, _⟩ => ?_⟩, F3.out.trans Fl.out (fun _ h => h.elim)⟩
   rw [← Hn.out, List.getElem?_eq_none (Nat.le_refl _)] at hz
   cases hz
 case rest =>
 obtain ⟨b, W4, rfl, rfl, hsm, fk⟩ := hcut
 have F4 := Lib.hid fk
 have Hsm := Lib.hid hsm
 clear fk hsm F3
 have hok : aggOk r.agg = true := by rw [← Hr.out]; exact Hab.out
 have hkl : k ≤ l.length := by rw [Hn.out]; exact hk
 have HadF : Hid (∀ j m, adF A6 m j → m ≤ n - k → j < rb ∧ j ≠ g) := fun j m hj hm => by
  have hA : adF A n j := by
   obtain ⟨h0, ad, e, hb⟩ := hj
   refine ⟨by omega, ?_⟩
   rcases hA6 with rfl | rfl
   ·exact ⟨ad, e, hb⟩
   ·cases A with
    | none => cases e
    | some a =>
     simp only [Option.map_some, Option.some.injEq] at e
     subst e
     exact ⟨a, rfl, by rw [← hb, block_of_add]⟩
  have h1 := (Ho.out.lt j (adF_row j hA)).2
  refine ⟨by rw [← Hrb.out]; exact h1, fun e => ?_⟩
  exact own_blk_ne Ho.out Hb.out (by decide) (by rw [← e]; exact adF_row j hA)
 go_upto_if 90 with fail
 go_cut [6] (fun s6 wx => ∃ (A8 : Option Addr) (m8 c8 : Nat) (rest : List RecV) (y1 y2 y3 y4 y5 : Int) (W5 : World), W5 = wx ∧ s6 = .slice A8 m8 c8 ∧ Rd wx 7 A8 m8 (rcells rest) ∧ (∀ j, adF A8 m8 j → j ≠ g) ∧ Blk wx rb 100 #[.string rn, .int .i64 rs, .int .i64 y1, .int .i64 y2, .int .u64 y3, .int .i64 y4, .int .i64 y5] ∧ AddAt l k r rest ⟨rn, rs, ⟨y1, y2, y3, y4, y5⟩⟩ ∧ k + m8 ≤ n ∧ Fr (fun j => j = rb) W1 wx)
 case first =>
  cases b with
  | false =>
   go_wp2_with fail
   go_meet
   refine ⟨A6, n - k, c6, l.drop k, r1, r2, r3, r4, r5, W4, rfl, rfl, R6.out _ F4.out, fun j hj => (HadF.out j _ hj (Nat.le_refl _)).2, B1.out.fr F4.out (fun h => h), ⟨?_, fun x hx => ?_⟩, by omega, F4.out.mono (fun _ h => h.elim)⟩
   ·rw [insR_new Hall.out hkl (fun x hx => ⟨Hnot.out x hx, fun hs => by cases Hsm.out.2 ⟨x, hx, hs⟩⟩), mgM_none hok, Hr.out]
   ·rcases List.mem_append.1 hx with hx | hx
    ·exact Hwf.out x (List.mem_of_mem_take hx)
    ·rcases List.mem_cons.1 hx with rfl | hx
     ·rw [Hr.out]; exact Hrw.out
     ·exact Hwf.out x (List.mem_of_mem_drop hx)
  | true =>
   obtain ⟨x, hx, hsk⟩ := Hsm.out.1 rfl
   have hlt : k < n := by rw [← Hn.out]; exact (List.getElem?_eq_some_iff.1 hx).1
   have hkI2 : 0 ≤ (k : Int) ∧ (k : Int) < (n : Int) := by omega
   have hkw : IntKind.i64.wrap ((k : Int) + 1) = (k : Int) + 1 := by simp [IntKind.wrap, IntKind.signed, IntKind.bits]; omega
   have hkI3 : 0 ≤ (k : Int) + 1 ∧ (k : Int) + 1 ≤ (n : Int) ∧ (k : Int) + 1 ≤ (c : Int) := by omega
   have hxw := Hwf.out x (mem_of_get hx)
   have hYw : (mergeL [x.agg, r.agg]).wf := mergeL_wf (fun a ha => by
    rcases List.mem_cons.1 ha with rfl | ha
    ·exact hxw.2.1
    ·rw [List.mem_singleton] at ha
     rw [ha]
     exact Hrw.out.2.1)
   have hYe : mgM (some x.agg) r.agg = mergeL [x.agg, r.agg] := rfl
   have HMg : Hid (∀ W, Calls Tryz.prog 147 #[.agg #[.int .i64 x.agg.count, .int .i64 x.agg.hi, .int .u64 x.agg.lo, .int .i64 x.agg.min, .int .i64 x.agg.max], .agg #[.int .i64 r1, .int .i64 r2, .int .u64 r3, .int .i64 r4, .int .i64 r5]] W fun r' w' => r' = .returned (mergeL [x.agg, r.agg]).val ∧ Below W.heap.size W w') := fun W => by
    have h := rmerge_any x.agg r.agg hxw.2.1 Hrw.out.2.1 W
    rw [← Hr.out] at h ⊢
    exact h
   obtain ⟨Y, hY⟩ : ∃ Y, mergeL [x.agg, r.agg] = Y := ⟨_, rfl⟩
   rw [hY] at HMg hYw hYe
   obtain ⟨y1, y2, y3, y4, y5⟩ := Y
   unfold AggV.val at HMg
   simp only at HMg
   have Hres : Hid (AddAt l k r (l.drop (k + 1)) ⟨rn, rs, ⟨y1, y2, y3, y4, y5⟩⟩) := by
    refine ⟨?_, fun z hz => ?_⟩
    ·rw [insR_old Hall.out hx (Hnot.out x hx) hsk, hYe, ← Hr.out]
    ·rcases List.mem_append.1 hz with hz | hz
     ·exact Hwf.out z (List.mem_of_mem_take hz)
     ·rcases List.mem_cons.1 hz with rfl | hz
      ·have h := Hrw.out
       rw [← Hr.out] at h
       exact ⟨h.1, hYw, h.2.2⟩
      ·exact Hwf.out z (List.mem_of_mem_drop hz)
   obtain ⟨ad, x', rfl, hx', _, _, d2, d3, d4, d5, d6⟩ := (HRd.out _ F4.out).rec_ hlt
   obtain rfl : x = x' := by rw [hx] at hx'; exact Option.some.inj hx'
   have hadb : (ad.add (k * 7)).block ≠ rb := fun e => by
    have h1 := (Ho.out.lt ad.block rfl).2
    rw [block_of_add] at e
    rw [← Hrb.out] at e
    omega
   have B4 := B1.out.fr F4.out (fun h => h)
   have HC8 : Hid (∀ W, Fr (fun j => j = rb) W4 W → W.cell? ⟨g, 1, none⟩ = some (.slice (some ad) n c) ∧ W.cell? ⟨(ad.add (k * 7)).block, (ad.add (k * 7)).off + 2, none⟩ = some (.int .i64 x.agg.count) ∧ W.cell? ⟨(ad.add (k * 7)).block, (ad.add (k * 7)).off + 3, none⟩ = some (.int .i64 x.agg.hi) ∧ W.cell? ⟨(ad.add (k * 7)).block, (ad.add (k * 7)).off + 4, none⟩ = some (.int .u64 x.agg.lo) ∧ W.cell? ⟨(ad.add (k * 7)).block, (ad.add (k * 7)).off + 5, none⟩ = some (.int .i64 x.agg.min) ∧ W.cell? ⟨(ad.add (k * 7)).block, (ad.add (k * 7)).off + 6, none⟩ = some (.int .i64 x.agg.max)) := fun W f =>
    ⟨f.cell (HC.out _ F4.out).2.2.2.2.2.2.2.2 hgr, f.cell d2 hadb, f.cell d3 hadb, f.cell d4 hadb, f.cell d5 hadb, f.cell d6 hadb⟩
   obtain ⟨x1, hx1⟩ : ∃ v, x.agg.count = v := ⟨_, rfl⟩
   obtain ⟨x2, hx2⟩ : ∃ v, x.agg.hi = v := ⟨_, rfl⟩
   obtain ⟨x3, hx3⟩ : ∃ v, x.agg.lo = v := ⟨_, rfl⟩
   obtain ⟨x4, hx4⟩ : ∃ v, x.agg.min = v := ⟨_, rfl⟩
   obtain ⟨x5, hx5⟩ : ∃ v, x.agg.max = v := ⟨_, rfl⟩
   rw [hx1, hx2, hx3, hx4, hx5] at HC8 HMg
   have u2 := B4.cell 2
   have u3 := B4.cell 3
   have u4 := B4.cell 4
   have u5 := B4.cell 5
   have u6 := B4.cell 6
   simp only [List.getElem?_toArray, List.getElem?_cons_succ, List.getElem?_cons_zero] at u2 u3 u4 u5 u6
   have HB4 := Lib.hid B4
   clear hx hsk hx' hYw hYe hxw hY d2 d3 d4 d5 d6 hx1 hx2 hx3 hx4 hx5 B4
   go_wp2_with fail
   refine wp_region_held_drew (S := fun W => Fr (fun j => j = rb) W4 W) (by kernel_rfl) ((Fr.refl _ W4).drew) (fun hHeld => ?_)
   refine tl 0 ?v210 rfl ?q210 ?r210
   case q210 => intro W hSw; go_simp; try rfl
   refine tl 1 ?v211 rfl ?q211 ?r211
   case q211 => intro W hSw; go_simp; try rfl
   refine tl 2 ?v212 rfl ?q212 ?r212
   case q212 => intro W hSw; go_simp; try rfl
   refine tl 3 ?v213 rfl ?q213 ?r213
   case q213 => intro W hSw; (try obtain ⟨t1, t2, t3, t4, t5, t6⟩ := HC8.out W hSw); go_simp; try rfl
   refine tl 4 ?v214 rfl ?q214 ?r214
   case q214 => intro W hSw; go_simp; try rfl
   refine tl 5 ?v215 rfl ?q215 ?r215
   case q215 => intro W hSw; (try obtain ⟨t1, t2, t3, t4, t5, t6⟩ := HC8.out W hSw); go_simp; try rfl
   refine tl 6 ?v216 rfl ?q216 ?r216
   case q216 => intro W hSw; go_simp; try rfl
   refine tl 7 ?v217 rfl ?q217 ?r217
   case q217 => intro W hSw; (try obtain ⟨t1, t2, t3, t4, t5, t6⟩ := HC8.out W hSw); go_simp; try rfl
   refine tl 8 ?v218 rfl ?q218 ?r218
   case q218 => intro W hSw; go_simp; try rfl
   try simp only [Act.put, sA, sB, sC]
   refine rl 9 rfl (fun K hK => ?_)
   go_simp
   refine hK.out _ _ (hHeld) (fun hHeld => ?_)
   clear hK K
   try simp only [Act.put, sA, sB, sC]
   refine rl 10 rfl (fun K hK => ?_)
   go_simp
   go_wp2_with (first | (go_at_call 147; refine (HMg.out _).mono ?_; rintro r wm ⟨rfl, bm⟩))
   have Bm := Lib.hid (HB4.out.drew.below bm)
   have v2 := Bm.out.cell 2
   have v3 := Bm.out.cell 3
   have v4 := Bm.out.cell 4
   have v5 := Bm.out.cell 5
   have v6 := Bm.out.cell 6
   have z2 := Bm.out.frozen 2
   have z3 := Bm.out.frozen 3
   have z4 := Bm.out.frozen 4
   have z5 := Bm.out.frozen 5
   have z6 := Bm.out.frozen 6
   simp only [List.getElem?_toArray, List.getElem?_cons_succ, List.getElem?_cons_zero] at v2 v3 v4 v5 v6
   refine hK.out _ _ (hHeld.trans (Fr.b0 bm) (fun _ h => h.elim)) (fun hHeld => ?_)
   clear hK K
   refine tl 11 ?v219 rfl ?q219 ?r219
   case q219 => intro W hSw; go_simp; try rfl
   try simp only [Act.put, sA, sB, sC]
   refine rl 12 rfl (fun K hK => ?_)
   go_simp
   refine hK.out _ _ (hHeld.five rfl _ _ _ _ _) (fun hHeld => ?_)
   clear hK K
   try simp only [Act.put, sA, sB, sC]
   refine wpAnyH_done (by kernel_rfl) ?_ _
   have Fl := Lib.hid hHeld
   have Bl := Lib.hid (Bm.out.five (a := .int .i64 y1) (b := .int .i64 y2) (c := .int .u64 y3) (d := .int .i64 y4) (e := .int .i64 y5))
   clear hHeld
   obtain ⟨W8, hW8⟩ : ∃ W8, W8 = (((((wm.setCell ⟨rb, 2, none⟩ (.int .i64 y1)).setCell ⟨rb, 3, none⟩ (.int .i64 y2)).setCell ⟨rb, 4, none⟩ (.int .u64 y3)).setCell ⟨rb, 5, none⟩ (.int .i64 y4)).setCell ⟨rb, 6, none⟩ (.int .i64 y5)) := ⟨_, rfl⟩
   rw [← hW8] at Fl Bl ⊢
   have p1 := (HC8.out W8 Fl.out).1
   have HRr : Rd W8 7 (some ad) n (rcells l) := (HRd.out W4 F4.out).fr Fl.out (fun j hj e => by
    have h1 := (Ho.out.lt j (adF_row j hj)).2
    rw [Hrb.out] at h1
    omega)
   have hcut2 := HRr.cut (show k + 1 ≤ n by omega) hnc
   rw [show (rcells l).drop ((k + 1) * 7) = rcells (l.drop (k + 1)) from vflat_dropR l (k + 1)] at hcut2
   have Hcut := Lib.hid hcut2
   have Hadg : Hid (∀ j, j = ad.block → j ≠ g) := fun j hj e => own_blk_ne Ho.out Hb.out (by decide) (by rw [← e, hj]; rfl)
   clear hW8 HRr hcut2 v2 v3 v4 v5 v6 z2 z3 z4 z5 z6 u2 u3 u4 u5 u6 bm Bm HB4
   have F8 : Hid (Fr (fun j => j = rb) W1 W8) := (F4.out.mono (fun _ h => h.elim)).trans Fl.out (fun _ h => .inl h)
   by_cases hck : c = k + 1
   case pos =>
    subst hck
    have hn1 : n = k + 1 := by omega
    have Hc0 : Hid (Rd W8 7 (some ad) 0 (rcells (l.drop (k + 1)))) := by
     have h := Hcut.out
     first | rw [if_pos rfl] at h | rw [if_pos trivial] at h
     rw [show n - (k + 1) = 0 by omega] at h
     exact h
    clear Hcut
    go_wp2_with fail
    go_meet
    exact ⟨some ad, 0, 0, l.drop (k + 1), y1, y2, y3, y4, y5, W8, rfl, by first | rfl | (congr 1; omega), Hc0.out, fun j hj => absurd hj.1 (Nat.lt_irrefl 0), Bl.out, Hres.out, by omega, F8.out⟩
   case neg =>
    have Hc1 : Hid (Rd W8 7 (some (ad.add ((k + 1) * 7))) (n - (k + 1)) (rcells (l.drop (k + 1)))) := by
     have h := Hcut.out
     rw [if_neg hck] at h
     exact h
    clear Hcut
    go_wp2_with fail
    go_meet
    exact ⟨some (ad.add ((k + 1) * 7)), n - (k + 1), c - (k + 1), l.drop (k + 1), y1, y2, y3, y4, y5, W8, rfl, by first | rfl | (congr 1; omega), Hc1.out, fun j hj => Hadg.out j (by
     obtain ⟨_, a, e, hb⟩ := hj
     injection e with e
     subst e
     rw [← hb, block_of_add]), Bl.out, Hres.out, by omega, F8.out⟩
 case rest =>
 obtain ⟨A8, m8, c8, rest, y1, y2, y3, y4, y5, W5, rfl, rfl, r8, had8, b5, hadd, hm8, f5⟩ := hcut
 have F5 := Lib.hid f5
 have Hadd := Lib.hid hadd
 have B5 := Lib.hid b5
 have FW : Hid (Fr (fun j => j = rb) w W5) := (F1.out.mono (fun _ h => h.elim)).trans f5 (fun _ h => .inl h)
 have Bg5 := Lib.hid (Hb.out.fr FW.out hgr)
 have hgl := Bg5.out.lt
 have hAg : ∀ j, adF A n j → j ≠ g := fun j hj e => own_blk_ne Ho.out Hb.out (by decide) (by rw [← e]; exact adF_row j hj)
 have HRT : Hid (∀ W, Fr (fun j => j = g) W5 W → Rd W 7 A k (rcells (l.take k))) := fun W f => by
  have h1 : Rd W5 7 A n (rcells l) := (HRd.out W1 (Fr.refl _ _)).fr f5 (fun j hj e => by
   have h1 := (Ho.out.lt j (adF_row j hj)).2
   rw [Hrb.out] at h1
   omega)
  have h2 := (h1.fr f hAg).take hk
  rw [vflat_takeR] at h2
  exact h2
 have HR8 : Hid (∀ W, Fr (fun j => j = g) W5 W → Rd W 7 A8 m8 (rcells rest)) := fun W f => r8.fr f had8
 have HC5 : Hid (∀ W, Fr (fun j => j = g) W5 W → W.cell? ⟨rb, 0, none⟩ = some (.string rn) ∧ W.cell? ⟨rb, 1, none⟩ = some (.int .i64 rs) ∧ W.cell? ⟨rb, 2, none⟩ = some (.int .i64 y1) ∧ W.cell? ⟨rb, 3, none⟩ = some (.int .i64 y2) ∧ W.cell? ⟨rb, 4, none⟩ = some (.int .u64 y3) ∧ W.cell? ⟨rb, 5, none⟩ = some (.int .i64 y4) ∧ W.cell? ⟨rb, 6, none⟩ = some (.int .i64 y5)) := fun W f => by
  have b := B5.out.fr f (fun e => hgr e.symm)
  exact ⟨(b).cell 0, (b).cell 1, (b).cell 2, (b).cell 3, (b).cell 4, (b).cell 5, (b).cell 6⟩
 have q40 := Bg5.out.cell 1
 have q41 := fun o => (Bg5.out.alloc o).cell 1
 simp only [List.getElem?_toArray, List.getElem?_cons_succ, List.getElem?_cons_zero] at q40 q41
 obtain ⟨i0, hi, hz0, hz1, hz2⟩ := info_parts info_rec
 have hlenV : (l.take k ++ (⟨rn, rs, ⟨y1, y2, y3, y4, y5⟩⟩ : RecV) :: rest).length = k + 1 + m8 := by
  rw [List.length_append, List.length_cons, List.length_take, Hn.out, r8.recs_len]
  omega
 have HlV := Lib.hid hlenV
 have HVs : Hid (V = l.take k ++ (⟨rn, rs, ⟨y1, y2, y3, y4, y5⟩⟩ : RecV) :: rest) := (HIn.out (by trivial)).trans hadd.1
 have HVo : Hid (Sorted V) := by show Sorted V; rw [HIn.out (by trivial)]; exact insR_sorted mgM Hs.out
 have HcV : Hid (rcells (l.take k ++ (⟨rn, rs, ⟨y1, y2, y3, y4, y5⟩⟩ : RecV) :: rest) = rcells (l.take k) ++ [.string rn, .int .i64 rs, .int .i64 y1, .int .i64 y2, .int .u64 y3, .int .i64 y4, .int .i64 y5] ++ rcells rest) := by
  show _ = _
  unfold rcells
  rw [List.flatMap_append, List.flatMap_cons, List.append_assoc]
  rfl
 have hkI4 : 0 ≤ (k : Int) ∧ (k : Int) ≤ (n : Int) ∧ (k : Int) ≤ (c : Int) := by omega
 have HrbW := Lib.hid (Nat.le_of_eq Hrb.out)
 clear f5 hadd b5 r8 hlenV hAg had8 F4 R6 B1 Hnot Hall Hsm
 go_wp2_with fail
 refine wp_region_held_drew (S := fun W => Fr (fun j => j = g) W5 W) (by kernel_rfl) ((Fr.refl _ W5).drew) (fun hHeld => ?_)
 refine tl 0 ?v220 rfl ?q220 ?r220
 case q220 => intro W hSw; go_simp; try rfl
 refine tl 1 ?v221 rfl ?q221 ?r221
 case q221 => intro W hSw; go_simp; try rfl
 refine tl 2 ?v222 rfl ?q222 ?r222
 case q222 => intro W hSw; go_simp; try rfl
 refine tl 3 ?v223 rfl ?q223 ?r223
 case q223 => intro W hSw; go_simp; try rfl
 refine tl 5 ?v224 rfl ?q224 ?r224
 case q224 => intro W hSw; go_simp; try rfl
 refine tl 8 ?v225 rfl ?q225 ?r225
 case q225 => intro W hSw; (try obtain ⟨q0, q1, q2, q3, q4, q5, q6⟩ := HC5.out W hSw); go_simp; try rfl
 refine tl 11 ?v226 rfl ?q226 ?r226
 case q226 => intro W hSw; go_simp; try rfl
 try simp only [Act.put, sA, sB, sC]
 refine wpAnyH_ready (rs := [4, 9]) (by kernel_rfl) (by simp) ?_
 refine AllReadyH.cons (dg rfl) (fun K hK => ?_) ?_
 ·go_simp
  refine hK.out _ _ (hHeld) (fun hHeld => ?_)
  clear hK K
  refine tl 6 ?v227 rfl ?q227 ?r227
  case q227 => intro W hSw; (try obtain ⟨q0, q1, q2, q3, q4, q5, q6⟩ := HC5.out W hSw); go_simp; try rfl
  try simp only [Act.put, sA, sB, sC]
  refine wpAnyH_ready (rs := [7, 9]) (by kernel_rfl) (by simp) ?_
  refine AllReadyH.cons (dg rfl) (fun K hK => ?_) ?_
  ·rw [if_pos (by rfl)]
   refine op_app3 _ _ 51 rfl 100 i0 _ 7 64 Tryz.underlying51 hi hz0 hz1 hz2 rfl (by decide) (.slice none 0 0) 0 [] rfl W5.heap.size hHeld.size (World.ownsRow_nil _ _ _ _) _ _ _ (rcells (l.take k)) rfl (HRT.out _ hHeld) (rcells_one _) (by unfold maxLen; omega) (by omega) (fun A5 c5 u5 ho5 hm5 _ => ?_)
   simp only [Nat.zero_add, List.nil_append] at ho5
   try simp only [Nat.zero_add]
   have ho5 := Lib.hid ho5
   have bgc := Lib.hid (Bg5.out.drew.fr hm5.fr (fun h => by cases h))
   refine hK.out _ _ (hHeld.trans hm5.fr (fun i hi => by cases hi)) (fun hHeld => ?_)
   clear hK K
   try simp only [Act.put, sA, sB, sC]
   refine rl 9 rfl (fun K hK => ?_)
   go_simp
   have rbx := Lib.hid (Rd.newS (w := u5) (k := u5.heap.size) rfl [.string rn, .int .i64 rs, .int .i64 y1, .int .i64 y2, .int .u64 y3, .int .i64 y4, .int .i64 y5] 100 1 7 rfl)
   have ho5 := Lib.hid (own_fr0 ho5.out (Fr.none_alloc u5 (.cells #[.string rn, .int .i64 rs, .int .i64 y1, .int .i64 y2, .int .u64 y3, .int .i64 y4, .int .i64 y5] 100)))
   have bgc := Lib.hid (bgc.out.alloc (.cells #[.string rn, .int .i64 rs, .int .i64 y1, .int .i64 y2, .int .u64 y3, .int .i64 y4, .int .i64 y5] 100))
   refine hK.out _ _ (hHeld.trans (Fr.none_alloc _ _) (fun _ h => h.elim)) (fun hHeld => ?_)
   clear hK K
   try simp only [Act.put, sA, sB, sC]
   refine rl 10 rfl (fun K hK => ?_)
   rw [if_pos (by rfl)]
   refine op_app3 _ _ 51 rfl 100 i0 _ 7 64 Tryz.underlying51 hi hz0 hz1 hz2 rfl (by decide) (.slice A5 k c5) k (rcells (l.take k)) rfl W5.heap.size hHeld.size ho5.out (some ⟨u5.heap.size, 0, none⟩) 1 1 [.string rn, .int .i64 rs, .int .i64 y1, .int .i64 y2, .int .u64 y3, .int .i64 y4, .int .i64 y5] rfl rbx.out (by intro u hu; simp at hu; rcases hu with rfl | rfl | rfl | rfl | rfl | rfl | rfl <;> rfl) (by unfold maxLen; omega) (by omega) (fun A6 c6 u6 ho6 hm6 _ => ?_)
   have ho6 := Lib.hid ho6
   have bgc := Lib.hid (bgc.out.fr hm6.fr (fun h => absurd (ho5.out.lt g h).1 (Nat.not_le.2 hgl)))
   refine hK.out _ _ (hHeld.trans hm6.fr (fun i hi => .inr (ho5.out.lt i hi).1)) (fun hHeld => ?_)
   clear hK K
   try simp only [Act.put, sA, sB, sC]
   refine rl 12 rfl (fun K hK => ?_)
   rw [if_pos (by rfl)]
   refine op_app3 _ _ 51 rfl 100 i0 _ 7 64 Tryz.underlying51 hi hz0 hz1 hz2 rfl (by decide) (.slice A6 (k + 1) c6) (k + 1) (rcells (l.take k) ++ [.string rn, .int .i64 rs, .int .i64 y1, .int .i64 y2, .int .u64 y3, .int .i64 y4, .int .i64 y5]) rfl W5.heap.size hHeld.size ho6.out _ _ _ (rcells rest) rfl (HR8.out _ hHeld) (rcells_one _) (by unfold maxLen; omega) (by omega) (fun A7 c7 u7 ho7 hm7 _ => ?_)
   have ho7 := Lib.hid ho7
   have bgc := Lib.hid (bgc.out.fr hm7.fr (fun h => absurd (ho6.out.lt g h).1 (Nat.not_le.2 hgl)))
   have z1 := bgc.out.cell 1
   have z2 := bgc.out.frozen 1
   simp only [List.getElem?_toArray, List.getElem?_cons_succ, List.getElem?_cons_zero] at z1
   refine hK.out _ _ (hHeld.trans hm7.fr (fun i hi => .inr (ho6.out.lt i hi).1)) (fun hHeld => ?_)
   clear hK K
   refine tl 13 ?v228 rfl ?q228 ?r228
   case q228 => intro W hSw; go_simp; try rfl
   refine tl 14 ?v229 rfl ?q229 ?r229
   case q229 => intro W hSw; go_simp; try rfl
   try simp only [Act.put, sA, sB, sC]
   refine rl 15 rfl (fun K hK => ?_)
   go_simp
   refine hK.out _ _ (hHeld.setCell (.inl rfl) _) (fun hHeld => ?_)
   clear hK K
   try simp only [Act.put, sA, sB, sC]
   refine wpAnyH_done (by kernel_rfl) ?_ _
   have FE := Lib.hid hHeld
   have HB7 := Lib.hid (bgc.out.set_ 1 (.slice A7 (k + 1 + m8) c7))
   have HO7 := Lib.hid (own_fr (w' := u7.setCell ⟨g, 1, none⟩ (.slice A7 (k + 1 + m8) c7)) ho7.out ((Fr.refl (fun j => j = g) u7).setCell (.inl rfl) _) (fun j hj e => by have h1 := (ho7.out.lt j hj).1; omega))
   clear hHeld z1 z2 bgc hm5 hm6 hm7
   go_wp2_with fail
   go_ret
   refine ⟨rfl, ?_, (FW.out.mono (fun i hi => .inr (by rw [hi]; exact HrbW.out))).trans FE.out (fun _ h => .inl h)⟩
   rw [HVs.out]
   refine ⟨⟨A7, c7, ?_, ?_, fun j hj => HFn.out j ?_⟩, Hadd.out.2, by rw [← HVs.out]; exact HVo.out, hge⟩
   ·rw [HlV.out]
    exact by simpa using HB7.out
   ·rw [HlV.out, HcV.out]
    exact own_up HO7.out (fun j hj => Nat.le_trans (Nat.le_trans hlo FW.out.size) (HO7.out.lt j hj).1)
   ·rw [HlV.out] at hj
    exact Nat.le_trans FW.out.size (HO7.out.lt j hj).1
  refine AllReadyH.cons (dg rfl) (fun K hK => ?_) AllReadyH.nil
  go_simp
  have rbx := Lib.hid (Rd.newS (w := W5) (k := W5.heap.size) rfl [.string rn, .int .i64 rs, .int .i64 y1, .int .i64 y2, .int .u64 y3, .int .i64 y4, .int .i64 y5] 100 1 7 rfl).drew
  have bgc := Lib.hid ((Bg5.out.alloc (.cells #[.string rn, .int .i64 rs, .int .i64 y1, .int .i64 y2, .int .u64 y3, .int .i64 y4, .int .i64 y5] 100)).drew)
  refine hK.out _ _ (by first | exact ((Fr.refl _ W5).alloc _).drew | exact hHeld.alloc _) (fun hHeld => ?_)
  clear hK K
  try simp only [Act.put, sA, sB, sC]
  refine rl 7 rfl (fun K hK => ?_)
  rw [if_pos (by rfl)]
  refine op_app3 _ _ 51 rfl 100 i0 _ 7 64 Tryz.underlying51 hi hz0 hz1 hz2 rfl (by decide) (.slice none 0 0) 0 [] rfl W5.heap.size hHeld.size (World.ownsRow_nil _ _ _ _) _ _ _ (rcells (l.take k)) rfl (HRT.out _ hHeld) (rcells_one _) (by unfold maxLen; omega) (by omega) (fun A5 c5 u5 ho5 hm5 _ => ?_)
  simp only [Nat.zero_add, List.nil_append] at ho5
  try simp only [Nat.zero_add]
  have ho5 := Lib.hid ho5
  have rbx := Lib.hid (rbx.out.fr hm5.fr (fun _ _ h => by cases h))
  have bgc := Lib.hid (bgc.out.fr hm5.fr (fun h => by cases h))
  refine hK.out _ _ (hHeld.trans hm5.fr (fun i hi => by cases hi)) (fun hHeld => ?_)
  clear hK K
  try simp only [Act.put, sA, sB, sC]
  refine rl 10 rfl (fun K hK => ?_)
  rw [if_pos (by rfl)]
  refine op_app3 _ _ 51 rfl 100 i0 _ 7 64 Tryz.underlying51 hi hz0 hz1 hz2 rfl (by decide) (.slice A5 k c5) k (rcells (l.take k)) rfl W5.heap.size hHeld.size ho5.out (some ⟨W5.heap.size, 0, none⟩) 1 1 [.string rn, .int .i64 rs, .int .i64 y1, .int .i64 y2, .int .u64 y3, .int .i64 y4, .int .i64 y5] rfl rbx.out (by intro u hu; simp at hu; rcases hu with rfl | rfl | rfl | rfl | rfl | rfl | rfl <;> rfl) (by unfold maxLen; omega) (by omega) (fun A6 c6 u6 ho6 hm6 _ => ?_)
  have ho6 := Lib.hid ho6
  have bgc := Lib.hid (bgc.out.fr hm6.fr (fun h => absurd (ho5.out.lt g h).1 (Nat.not_le.2 hgl)))
  refine hK.out _ _ (hHeld.trans hm6.fr (fun i hi => .inr (ho5.out.lt i hi).1)) (fun hHeld => ?_)
  clear hK K
  try simp only [Act.put, sA, sB, sC]
  refine rl 12 rfl (fun K hK => ?_)
  rw [if_pos (by rfl)]
  refine op_app3 _ _ 51 rfl 100 i0 _ 7 64 Tryz.underlying51 hi hz0 hz1 hz2 rfl (by decide) (.slice A6 (k + 1) c6) (k + 1) (rcells (l.take k) ++ [.string rn, .int .i64 rs, .int .i64 y1, .int .i64 y2, .int .u64 y3, .int .i64 y4, .int .i64 y5]) rfl W5.heap.size hHeld.size ho6.out _ _ _ (rcells rest) rfl (HR8.out _ hHeld) (rcells_one _) (by unfold maxLen; omega) (by omega) (fun A7 c7 u7 ho7 hm7 _ => ?_)
  have ho7 := Lib.hid ho7
  have bgc := Lib.hid (bgc.out.fr hm7.fr (fun h => absurd (ho6.out.lt g h).1 (Nat.not_le.2 hgl)))
  have z1 := bgc.out.cell 1
  have z2 := bgc.out.frozen 1
  simp only [List.getElem?_toArray, List.getElem?_cons_succ, List.getElem?_cons_zero] at z1
  refine hK.out _ _ (hHeld.trans hm7.fr (fun i hi => .inr (ho6.out.lt i hi).1)) (fun hHeld => ?_)
  clear hK K
  refine tl 13 ?v230 rfl ?q230 ?r230
  case q230 => intro W hSw; go_simp; try rfl
  refine tl 14 ?v231 rfl ?q231 ?r231
  case q231 => intro W hSw; go_simp; try rfl
  try simp only [Act.put, sA, sB, sC]
  refine rl 15 rfl (fun K hK => ?_)
  go_simp
  refine hK.out _ _ (hHeld.setCell (.inl rfl) _) (fun hHeld => ?_)
  clear hK K
  try simp only [Act.put, sA, sB, sC]
  refine wpAnyH_done (by kernel_rfl) ?_ _
  have FE := Lib.hid hHeld
  have HB7 := Lib.hid (bgc.out.set_ 1 (.slice A7 (k + 1 + m8) c7))
  have HO7 := Lib.hid (own_fr (w' := u7.setCell ⟨g, 1, none⟩ (.slice A7 (k + 1 + m8) c7)) ho7.out ((Fr.refl (fun j => j = g) u7).setCell (.inl rfl) _) (fun j hj e => by have h1 := (ho7.out.lt j hj).1; omega))
  clear hHeld z1 z2 bgc hm5 hm6 hm7
  go_wp2_with fail
  go_ret
  refine ⟨rfl, ?_, (FW.out.mono (fun i hi => .inr (by rw [hi]; exact HrbW.out))).trans FE.out (fun _ h => .inl h)⟩
  rw [HVs.out]
  refine ⟨⟨A7, c7, ?_, ?_, fun j hj => HFn.out j ?_⟩, Hadd.out.2, by rw [← HVs.out]; exact HVo.out, hge⟩
  ·rw [HlV.out]
   exact by simpa using HB7.out
  ·rw [HlV.out, HcV.out]
   exact own_up HO7.out (fun j hj => Nat.le_trans (Nat.le_trans hlo FW.out.size) (HO7.out.lt j hj).1)
  ·rw [HlV.out] at hj
   exact Nat.le_trans FW.out.size (HO7.out.lt j hj).1
 refine AllReadyH.cons (dg rfl) (fun K hK => ?_) AllReadyH.nil
 go_simp
 have rbx := Lib.hid (Rd.newS (w := W5) (k := W5.heap.size) rfl [.string rn, .int .i64 rs, .int .i64 y1, .int .i64 y2, .int .u64 y3, .int .i64 y4, .int .i64 y5] 100 1 7 rfl).drew
 have bgc := Lib.hid ((Bg5.out.alloc (.cells #[.string rn, .int .i64 rs, .int .i64 y1, .int .i64 y2, .int .u64 y3, .int .i64 y4, .int .i64 y5] 100)).drew)
 refine hK.out _ _ (by first | exact ((Fr.refl _ W5).alloc _).drew | exact hHeld.alloc _) (fun hHeld => ?_)
 clear hK K
 try simp only [Act.put, sA, sB, sC]
 refine rl 4 rfl (fun K hK => ?_)
 go_simp
 refine hK.out _ _ (hHeld) (fun hHeld => ?_)
 clear hK K
 refine tl 6 ?v232 rfl ?q232 ?r232
 case q232 => intro W hSw; (try obtain ⟨q0, q1, q2, q3, q4, q5, q6⟩ := HC5.out W hSw); go_simp; try rfl
 try simp only [Act.put, sA, sB, sC]
 refine rl 7 rfl (fun K hK => ?_)
 rw [if_pos (by rfl)]
 refine op_app3 _ _ 51 rfl 100 i0 _ 7 64 Tryz.underlying51 hi hz0 hz1 hz2 rfl (by decide) (.slice none 0 0) 0 [] rfl W5.heap.size hHeld.size (World.ownsRow_nil _ _ _ _) _ _ _ (rcells (l.take k)) rfl (HRT.out _ hHeld) (rcells_one _) (by unfold maxLen; omega) (by omega) (fun A5 c5 u5 ho5 hm5 _ => ?_)
 simp only [Nat.zero_add, List.nil_append] at ho5
 try simp only [Nat.zero_add]
 have ho5 := Lib.hid ho5
 have rbx := Lib.hid (rbx.out.fr hm5.fr (fun _ _ h => by cases h))
 have bgc := Lib.hid (bgc.out.fr hm5.fr (fun h => by cases h))
 refine hK.out _ _ (hHeld.trans hm5.fr (fun i hi => by cases hi)) (fun hHeld => ?_)
 clear hK K
 try simp only [Act.put, sA, sB, sC]
 refine rl 10 rfl (fun K hK => ?_)
 rw [if_pos (by rfl)]
 refine op_app3 _ _ 51 rfl 100 i0 _ 7 64 Tryz.underlying51 hi hz0 hz1 hz2 rfl (by decide) (.slice A5 k c5) k (rcells (l.take k)) rfl W5.heap.size hHeld.size ho5.out (some ⟨W5.heap.size, 0, none⟩) 1 1 [.string rn, .int .i64 rs, .int .i64 y1, .int .i64 y2, .int .u64 y3, .int .i64 y4, .int .i64 y5] rfl rbx.out (by intro u hu; simp at hu; rcases hu with rfl | rfl | rfl | rfl | rfl | rfl | rfl <;> rfl) (by unfold maxLen; omega) (by omega) (fun A6 c6 u6 ho6 hm6 _ => ?_)
 have ho6 := Lib.hid ho6
 have bgc := Lib.hid (bgc.out.fr hm6.fr (fun h => absurd (ho5.out.lt g h).1 (Nat.not_le.2 hgl)))
 refine hK.out _ _ (hHeld.trans hm6.fr (fun i hi => .inr (ho5.out.lt i hi).1)) (fun hHeld => ?_)
 clear hK K
 try simp only [Act.put, sA, sB, sC]
 refine rl 12 rfl (fun K hK => ?_)
 rw [if_pos (by rfl)]
 refine op_app3 _ _ 51 rfl 100 i0 _ 7 64 Tryz.underlying51 hi hz0 hz1 hz2 rfl (by decide) (.slice A6 (k + 1) c6) (k + 1) (rcells (l.take k) ++ [.string rn, .int .i64 rs, .int .i64 y1, .int .i64 y2, .int .u64 y3, .int .i64 y4, .int .i64 y5]) rfl W5.heap.size hHeld.size ho6.out _ _ _ (rcells rest) rfl (HR8.out _ hHeld) (rcells_one _) (by unfold maxLen; omega) (by omega) (fun A7 c7 u7 ho7 hm7 _ => ?_)
 have ho7 := Lib.hid ho7
 have bgc := Lib.hid (bgc.out.fr hm7.fr (fun h => absurd (ho6.out.lt g h).1 (Nat.not_le.2 hgl)))
 have z1 := bgc.out.cell 1
 have z2 := bgc.out.frozen 1
 simp only [List.getElem?_toArray, List.getElem?_cons_succ, List.getElem?_cons_zero] at z1
 refine hK.out _ _ (hHeld.trans hm7.fr (fun i hi => .inr (ho6.out.lt i hi).1)) (fun hHeld => ?_)
 clear hK K
 refine tl 13 ?v233 rfl ?q233 ?r233
 case q233 => intro W hSw; go_simp; try rfl
 refine tl 14 ?v234 rfl ?q234 ?r234
 case q234 => intro W hSw; go_simp; try rfl
 try simp only [Act.put, sA, sB, sC]
 refine rl 15 rfl (fun K hK => ?_)
 go_simp
 refine hK.out _ _ (hHeld.setCell (.inl rfl) _) (fun hHeld => ?_)
 clear hK K
 try simp only [Act.put, sA, sB, sC]
 refine wpAnyH_done (by kernel_rfl) ?_ _
 have FE := Lib.hid hHeld
 have HB7 := Lib.hid (bgc.out.set_ 1 (.slice A7 (k + 1 + m8) c7))
 have HO7 := Lib.hid (own_fr (w' := u7.setCell ⟨g, 1, none⟩ (.slice A7 (k + 1 + m8) c7)) ho7.out ((Fr.refl (fun j => j = g) u7).setCell (.inl rfl) _) (fun j hj e => by have h1 := (ho7.out.lt j hj).1; omega))
 clear hHeld z1 z2 bgc hm5 hm6 hm7
 go_wp2_with fail
 go_ret
 refine ⟨rfl, ?_, (FW.out.mono (fun i hi => .inr (by rw [hi]; exact HrbW.out))).trans FE.out (fun _ h => .inl h)⟩
 rw [HVs.out]
 refine ⟨⟨A7, c7, ?_, ?_, fun j hj => HFn.out j ?_⟩, Hadd.out.2, by rw [← HVs.out]; exact HVo.out, hge⟩
 ·rw [HlV.out]
  exact by simpa using HB7.out
 ·rw [HlV.out, HcV.out]
  exact own_up HO7.out (fun j hj => Nat.le_trans (Nat.le_trans hlo FW.out.size) (HO7.out.lt j hj).1)
 ·rw [HlV.out] at hj
  exact Nat.le_trans FW.out.size (HO7.out.lt j hj).1
end Go.Proofs.YtbblmmneeafhgaaGreat
