/- Walks of agg: both of two, Merge of two. -/
import Derived.Test.YtlhhcancfgjfkaaSame
import Derived.Laws.Externs
namespace Go.Proofs.Ytlhhcancfgjfkaa
set_option linter.all false
open Go.RowKit

theorem add64_run (x y c : Int) (hx : 0 ≤ x) (hy : 0 ≤ y) (hc0 : 0 ≤ c) (hc : c ≤ 1) (w : World) :
    (callFunc 90 #[.int .u64 x, .int .u64 y, .int .u64 c]).run Try.prog w = .ok (.value (.tuple #[.int .u64 ((x + y + c) % 18446744073709551616), .int .u64 ((x + y + c) / 18446744073709551616)])) w := by
  rw [run_callFunc_extern Try.func90 (by kernel_rfl) (by kernel_rfl) (by kernel_rfl) (e := add64Entry) (by kernel_rfl), run_add64 x y c hx hy hc0 hc]
  rfl

/-- Two merged. -/
def bothV (a b : AggV) : AggV :=
  if a.count = 0 then b else
  ⟨if a.count < 4611686018427387904 - b.count then a.count + b.count else 4611686018427387904, wrap64 (a.hi + b.hi + (a.lo + b.lo) / 18446744073709551616), (a.lo + b.lo) % 18446744073709551616,
    min a.min b.min, max a.max b.max⟩

set_option maxRecDepth 100000 in
set_option maxHeartbeats 4000000 in
theorem both_any (a b : AggV) (ha : a.wf) (hb : b.wf) (hbc : 0 ≤ b.count ∧ b.count ≤ 4611686018427387904) (hac : 0 ≤ a.count ∧ a.count ≤ 4611686018427387904) (w : World) : Calls Try.prog 66 #[a.val, b.val] w fun r w' => r = .returned (bothV a b).val ∧ Below w.heap.size w w' := by
  by_cases h0 : a.count = 0
  · unfold bothV
    rw [if_pos h0]
    exact both_zero a b h0 w
  unfold bothV
  rw [if_neg h0]
  obtain ⟨c, h, l, m, x⟩ := a
  obtain ⟨c', h', l', m', x'⟩ := b
  obtain ⟨_, ⟨hh0, hh1⟩, ⟨hl0, hl1⟩, _, _⟩ := ha
  obtain ⟨_, ⟨kh0, kh1⟩, ⟨kl0, kl1⟩, _, _⟩ := hb
  simp only at *
  have HA1 : Hid (∀ w, (callFunc 90 #[.int .u64 l, .int .u64 l', .int .u64 0]).run Try.prog w = .ok (.value (.tuple #[.int .u64 ((l + l') % 18446744073709551616), .int .u64 ((l + l') / 18446744073709551616)])) w) := fun w => by
    rw [add64_run l l' 0 hl0 kl0 (by omega) (by omega), Int.add_zero]
  have hc0 : 0 ≤ (l + l') / 18446744073709551616 := by omega
  have hc1 : (l + l') / 18446744073709551616 ≤ 1 := by omega
  obtain ⟨cy, hcy⟩ : ∃ cy, (l + l') / 18446744073709551616 = cy := ⟨_, rfl⟩
  obtain ⟨lo, hlo⟩ : ∃ lo, (l + l') % 18446744073709551616 = lo := ⟨_, rfl⟩
  rw [hcy] at HA1 hc0 hc1 ⊢
  rw [hlo] at HA1 ⊢
  have HA2 : Hid (∀ w, (callFunc 90 #[.int .u64 (h % 18446744073709551616), .int .u64 (h' % 18446744073709551616), .int .u64 cy]).run Try.prog w = .ok (.value (.tuple #[.int .u64 ((h % 18446744073709551616 + h' % 18446744073709551616 + cy) % 18446744073709551616), .int .u64 ((h % 18446744073709551616 + h' % 18446744073709551616 + cy) / 18446744073709551616)])) w) := fun w =>
    add64_run _ _ _ (by omega) (by omega) hc0 hc1 w
  have hu : IntKind.u64.wrap h = h % 18446744073709551616 := by simp [IntKind.wrap, IntKind.signed, IntKind.bits]
  have hu' : IntKind.u64.wrap h' = h' % 18446744073709551616 := by simp [IntKind.wrap, IntKind.signed, IntKind.bits]
  have hw : wrap64 ((h % 18446744073709551616 + h' % 18446744073709551616 + cy) % 18446744073709551616) = wrap64 (h + h' + cy) := by
    unfold wrap64
    omega
  obtain ⟨hi, hhi⟩ : ∃ hi, (h % 18446744073709551616 + h' % 18446744073709551616 + cy) % 18446744073709551616 = hi := ⟨_, rfl⟩
  obtain ⟨hj, hhj⟩ : ∃ hj, (h % 18446744073709551616 + h' % 18446744073709551616 + cy) / 18446744073709551616 = hj := ⟨_, rfl⟩
  rw [hhi] at HA2 hw
  rw [hhj] at HA2
  rw [← hw]
  have hs : IntKind.i64.wrap (4611686018427387904 - c') = 4611686018427387904 - c' := by simp [IntKind.wrap, IntKind.signed, IntKind.bits]; omega
  have hd0 : decide (c = 0) = false := decide_eq_false h0
  clear hw hhi hhj hcy hlo hc0 hc1 hh0 hh1 kh0 kh1 hl0 hl1 kl0 kl1
  unfold AggV.val
  obtain ⟨mn, hmn⟩ : ∃ mn, min m m' = mn := ⟨_, rfl⟩
  obtain ⟨mx, hmx⟩ : ∃ mx, max x x' = mx := ⟨_, rfl⟩
  rw [hmn, hmx]
  by_cases hcm : c < 4611686018427387904 - c'
  · have hsum : IntKind.i64.wrap (c + c') = c + c' := by simp [IntKind.wrap, IntKind.signed, IntKind.bits]; omega
    have hcd : decide (c < 4611686018427387904 - c') = true := decide_eq_true hcm
    rw [if_pos hcm]
    go_enter Try.func66, Try.ntmps66
    go_wp2_with (simp only [HA1.out, HA2.out])
    refine bodyPost_ret (v := .agg #[.int .i64 (c + c'), .int .i64 (wrap64 hi), .int .u64 lo, .int .i64 mn, .int .i64 mx]) ?_ rfl ⟨rfl, ((((Own.start w).skip (Fr.none_alloc w _)).skip (Fr.none_alloc _ _)).skip (Fr.none_alloc _ _)).bel⟩
    simp [results, Try.results66, go_sem, hmn, hmx]
  · have hcd : decide (c < 4611686018427387904 - c') = false := decide_eq_false hcm
    rw [if_neg hcm]
    go_enter Try.func66, Try.ntmps66
    go_wp2_with (simp only [HA1.out, HA2.out])
    refine bodyPost_ret (v := .agg #[.int .i64 4611686018427387904, .int .i64 (wrap64 hi), .int .u64 lo, .int .i64 mn, .int .i64 mx]) ?_ rfl ⟨rfl, ((((Own.start w).skip (Fr.none_alloc w _)).skip (Fr.none_alloc _ _)).skip (Fr.none_alloc _ _)).bel⟩
    simp [results, Try.results66, go_sem, hmn, hmx]
/-- Some merged, those that are valid. -/
def mergeL (l : List AggV) : AggV := l.foldl (fun s x => if aggOk x then bothV s x else s) agg0
def acells (l : List AggV) : List Value := l.flatMap AggV.cells
def AggV.fine (a : AggV) : Prop := a.wf ∧ 0 ≤ a.count ∧ a.count ≤ 4611686018427387904
theorem agg_len (a : AggV) : a.cells.length = 5 := rfl
theorem aggOk_fine {a : AggV} (h : a.wf) (ho : aggOk a = true) : a.fine := by
  unfold aggOk at ho
  simp only [Bool.and_eq_true, decide_eq_true_eq] at ho
  exact ⟨h, by omega, ho.1.2⟩
theorem agg0_fine : agg0.fine := by
  unfold agg0 AggV.fine AggV.wf in64; simp
theorem bothV_fine {a b : AggV} (ha : a.fine) (hb : b.fine) : (bothV a b).fine := by
  obtain ⟨⟨a1, a2, a3, a4, a5⟩, a6, a7⟩ := ha
  obtain ⟨⟨b1, b2, b3, b4, b5⟩, b6, b7⟩ := hb
  unfold bothV
  by_cases h0 : a.count = 0
  · rw [if_pos h0]; exact ⟨⟨b1, b2, b3, b4, b5⟩, b6, b7⟩
  · rw [if_neg h0]
    unfold AggV.fine AggV.wf in64 at *
    dsimp only
    have hw : -9223372036854775808 ≤ wrap64 (a.hi + b.hi + (a.lo + b.lo) / 18446744073709551616) ∧ wrap64 (a.hi + b.hi + (a.lo + b.lo) / 18446744073709551616) ≤ 9223372036854775807 := by unfold wrap64; omega
    generalize wrap64 (a.hi + b.hi + (a.lo + b.lo) / 18446744073709551616) = z at hw ⊢
    split <;> omega
theorem foldl_fine : ∀ (l : List AggV) (s : AggV), s.fine → (∀ a ∈ l, a.wf) → (l.foldl (fun s x => if aggOk x then bothV s x else s) s).fine
  | [], s, hs, _ => hs
  | x :: l, s, hs, h => by
    rw [List.foldl_cons]
    refine foldl_fine l _ ?_ (fun a ha => h a (List.mem_cons_of_mem _ ha))
    split
    · exact bothV_fine hs (aggOk_fine (h x (by simp)) ‹_›)
    · exact hs
theorem mergeL_fine {l : List AggV} (h : ∀ a ∈ l, a.wf) : (mergeL l).fine := foldl_fine l agg0 agg0_fine h
theorem mergeL_snoc (l : List AggV) (x : AggV) : mergeL (l ++ [x]) = if aggOk x then bothV (mergeL l) x else mergeL l := by
  unfold mergeL; rw [List.foldl_append]; rfl

set_option maxRecDepth 100000 in
set_option maxHeartbeats 4000000 in
theorem merge_any (l : List AggV) (A : Option Addr) (n c : Nat) (w : World) (hr : Rd w 5 A n (acells l)) (hwf : ∀ a ∈ l, a.wf) (hn : n ≤ 9223372036854775807) :
    Calls Try.prog 74 #[.slice A n c] w fun r w' => r = .returned (mergeL l).val ∧ Below w.heap.size w w' := by
  have Hr := Lib.hid hr
  have Hwf := Lib.hid hwf
  have Hlen := Lib.hid (Rd.elems_len agg_len (by decide) hr)
  clear hr hwf
  have B2 := Lib.hid ((Blk.new w 41 #[.int .i64 0, .int .i64 0, .int .u64 0, .int .i64 0, .int .i64 0]).alloc (.cells #[.int .i64 0, .int .i64 0, .int .u64 0, .int .i64 0, .int .i64 0] 41))
  have B3 := Lib.hid (Blk.new' (w := w.alloc (.cells #[.int .i64 0, .int .i64 0, .int .u64 0, .int .i64 0, .int .i64 0] 41)) (k := w.heap.size + 1) (by simp) 41 #[.int .i64 0, .int .i64 0, .int .u64 0, .int .i64 0, .int .i64 0])
  have O := Lib.hid (((Own.start w).skip (Fr.none_alloc w (.cells #[.int .i64 0, .int .i64 0, .int .u64 0, .int .i64 0, .int .i64 0] 41))).skip (Fr.none_alloc _ (.cells #[.int .i64 0, .int .i64 0, .int .u64 0, .int .i64 0, .int .i64 0] 41)))
  go_enter Try.func74, Try.ntmps74
  go_wp2_with fail
  go_loopw [8] (fun i wr => ∃ k : Nat, k ≤ n ∧ i = .int .i64 k ∧ Blk wr w.heap.size 41 #[.int .i64 0, .int .i64 0, .int .u64 0, .int .i64 0, .int .i64 0] ∧ Blk wr (w.heap.size + 1) 41 (mergeL (l.take k)).cells.toArray ∧ Own w wr (fun j => j = w.heap.size + 1)) (fun i _ => n - (intOf i).toNat)
  case atStart => exact ⟨0, Nat.zero_le _, rfl, B2.out, B3.out, O.out.also (fun k hk => by omega)⟩
  case round =>
    obtain ⟨k, hk, rfl, hb2, hb3, ho⟩ := hrel
    have hb3' : Blk wr (w.heap.size + 1) 41 #[.int .i64 (mergeL (l.take k)).count, .int .i64 (mergeL (l.take k)).hi, .int .u64 (mergeL (l.take k)).lo, .int .i64 (mergeL (l.take k)).min, .int .i64 (mergeL (l.take k)).max] := hb3
    clear hb3
    obtain ⟨s, hs⟩ : ∃ s, mergeL (l.take k) = s := ⟨_, rfl⟩
    have hsf : s.fine := hs ▸ mergeL_fine (fun a ha => Hwf.out a (List.mem_of_mem_take ha))
    rw [hs] at hb3'
    by_cases hlt : k < n
    · obtain ⟨ad, x, rfl, hx, hc⟩ := Rd.elem agg_len (Hr.out.fr0 (Fr.b0 ho.bel)) hlt (by decide)
      have d0 := hc 0 _ rfl
      have d1 := hc 1 _ rfl
      have d2 := hc 2 _ rfl
      have d3 := hc 3 _ rfl
      have d4 := hc 4 _ rfl
      rw [addr_zero] at d0
      rw [add_pos _ _ (by decide)] at d1 d2 d3 d4
      have hxw := Hwf.out x (mem_of_get hx)
      have HV : Hid (∀ w', Calls Try.prog 93 #[x.val] w' fun r w'' => r = .returned (.bool (aggOk x)) ∧ Below w'.heap.size w' w'') := fun w' => aggvalid_any x w'
      have HBo : Hid (aggOk x = true → ∀ w', Calls Try.prog 66 #[s.val, x.val] w' fun r w'' => r = .returned (bothV s x).val ∧ Below w'.heap.size w' w'') := fun hk w' => both_any s x hsf.1 hxw (aggOk_fine hxw hk).2 hsf.2 w'
      unfold AggV.val at HV HBo
      have Hx := Lib.hid hx
      have Hs := Lib.hid hs
      have Hb2 := Lib.hid hb2
      have Hb3 := Lib.hid hb3'
      have Ho := Lib.hid ho
      clear hx hs hb2 hb3' ho hc hxw hsf
      go_wp2_with fail
      obtain ⟨W1, hW1⟩ : ∃ W1, W1 = wr.alloc (.cells #[.int .i64 x.count, .int .i64 x.hi, .int .u64 x.lo, .int .i64 x.min, .int .i64 x.max] 41) := ⟨_, rfl⟩
      rw [← hW1]
      have bx : Hid (Blk W1 wr.heap.size 41 #[.int .i64 x.count, .int .i64 x.hi, .int .u64 x.lo, .int .i64 x.min, .int .i64 x.max]) := hW1 ▸ Blk.new _ _ _
      have b2 : Hid (Blk W1 w.heap.size 41 #[.int .i64 0, .int .i64 0, .int .u64 0, .int .i64 0, .int .i64 0]) := hW1 ▸ Hb2.out.alloc _
      have b3 : Hid (Blk W1 (w.heap.size + 1) 41 #[.int .i64 s.count, .int .i64 s.hi, .int .u64 s.lo, .int .i64 s.min, .int .i64 s.max]) := hW1 ▸ Hb3.out.alloc _
      have o1 : Hid (Own w W1 (fun j => j = w.heap.size + 1)) := hW1 ▸ Ho.out.skip (Fr.none_alloc _ _)
      clear hW1 Hb2 Hb3 Ho d0 d1 d2 d3 d4
      refine (HV.out W1).mono ?_
      rintro r w5 ⟨rfl, b5⟩
      have bx5 := bx.out.below b5
      have b25 := Lib.hid (b2.out.below b5)
      have b35 := Lib.hid (b3.out.below b5)
      have o5 := Lib.hid (o1.out.skip (Fr.b0 b5))
      cases hok : aggOk x
      · clear HBo bx5 b5 bx b2 b3 o1
        go_wp2_with fail
        go_roundw
        case rel =>
          refine ⟨k + 1, by omega, by go_num, b25.out, ?_, o5.out⟩
          rw [take_snoc Hx.out, mergeL_snoc, hok, Hs.out]
          exact b35.out
        case measure => simp [intOf]; omega
      · have HB2 := Lib.hid (HBo.out hok)
        have c0 := bx5.cell 0
        have c1 := bx5.cell 1
        have c2 := bx5.cell 2
        have c3 := bx5.cell 3
        have c4 := bx5.cell 4
        have a0 := b35.out.cell 0
        have a1 := b35.out.cell 1
        have a2 := b35.out.cell 2
        have a3 := b35.out.cell 3
        have a4 := b35.out.cell 4
        simp only [List.getElem?_toArray, List.getElem?_cons_succ, List.getElem?_cons_zero] at c0 c1 c2 c3 c4 a0 a1 a2 a3 a4
        clear HBo bx5 b5 bx b2 b3 o1
        go_wp2_with fail
        refine (HB2.out w5).mono ?_
        rintro r w6 ⟨rfl, b6⟩
        have b26 := Lib.hid (b25.out.below b6)
        have b36 := Lib.hid (b35.out.below b6)
        have o6 := Lib.hid (o5.out.skip (Fr.b0 b6))
        have g0 := b36.out.frozen 0
        have g1 := b36.out.frozen 1
        have g2 := b36.out.frozen 2
        have g3 := b36.out.frozen 3
        have g4 := b36.out.frozen 4
        have a0 := b36.out.cell 0
        have a1 := b36.out.cell 1
        have a2 := b36.out.cell 2
        have a3 := b36.out.cell 3
        have a4 := b36.out.cell 4
        obtain ⟨y, hy⟩ : ∃ y, bothV s x = y := ⟨_, rfl⟩
        rw [hy]
        simp only [List.getElem?_toArray, List.getElem?_cons_succ, List.getElem?_cons_zero] at a0 a1 a2 a3 a4
        clear c0 c1 c2 c3 c4 b6 HB2
        go_wp2_with fail
        go_roundw
        case rel =>
          have fF := Fr.set5 (F := fun j => j = w.heap.size + 1) (g := w.heap.size + 1) (Fr.refl _ w6) (.inl rfl) (.int .i64 y.count) (.int .i64 y.hi) (.int .u64 y.lo) (.int .i64 y.min) (.int .i64 y.max)
          refine ⟨k + 1, by omega, by go_num, b26.out.fr fF (by omega), ?_, o6.out.fr fF⟩
          rw [take_snoc Hx.out, mergeL_snoc, hok, if_pos rfl, Hs.out, hy]
          exact b36.out.set5
        case measure => simp [intOf]; omega
    · obtain rfl : k = n := by omega
      have hl : l.take k = l := take_all (by rw [Hlen.out]; exact Nat.le_refl _)
      rw [hl] at hs
      have a0 := hb3'.cell 0
      have a1 := hb3'.cell 1
      have a2 := hb3'.cell 2
      have a3 := hb3'.cell 3
      have a4 := hb3'.cell 4
      have g0 := hb2.frozen 0
      have g1 := hb2.frozen 1
      have g2 := hb2.frozen 2
      have g3 := hb2.frozen 3
      have g4 := hb2.frozen 4
      have e0 := hb2.cell 0
      have e1 := hb2.cell 1
      have e2 := hb2.cell 2
      have e3 := hb2.cell 3
      have e4 := hb2.cell 4
      simp only [List.getElem?_toArray, List.getElem?_cons_succ, List.getElem?_cons_zero] at a0 a1 a2 a3 a4 e0 e1 e2 e3 e4
      have Ho := Lib.hid ho
      have Hs := Lib.hid hs
      clear hb2 hb3' ho hs hl
      go_wp2_with fail
      have o3 := (Ho.out.also (G := fun j => j = w.heap.size) (fun j hj => by omega)).fr (Fr.set5 (F := fun j => j = w.heap.size) (g := w.heap.size) (Fr.refl _ wr) (.inl rfl) (.int .i64 s.count) (.int .i64 s.hi) (.int .u64 s.lo) (.int .i64 s.min) (.int .i64 s.max))
      rw [Hs.out]
      unfold AggV.val
      refine bodyPost_ret (v := .agg #[.int .i64 s.count, .int .i64 s.hi, .int .u64 s.lo, .int .i64 s.min, .int .i64 s.max]) ?_ rfl ⟨rfl, o3.bel⟩
      simp [results, Try.results74, go_sem, *]
end Go.Proofs.Ytlhhcancfgjfkaa
