/- slices.SortFunc by name.Compare: records in order. -/
import Derived.Test.YtfhhepfkjndkgaaGreatShelf
import Derived.Test.YtfhhepfkjndkgaaGreatTabM
import Derived.Shelf.SlSortCmp.NoneTotal
import Derived.StillTailTactics
namespace Go.Proofs.YtfhhepfkjndkgaaGreat
set_option linter.all false
open Go.RowKit

set_option maxRecDepth 100000 in
set_option maxHeartbeats 4000000 in
theorem compare_grow (a b : RecV) (w : World) : Calls Tryz.prog 166 #[a.val, b.val] w fun r w' => r = .returned (.int .i64 (recCmp a b)) ∧ ∃ q os, w' = Sort.grow (w.drewN q) os := by
  have HS := Lib.hid (fun w' => cmpstr_any a.name b.name w')
  have HI := Lib.hid (fun w' => cmpint_any a.start b.start w')
  have HO : Hid (∀ A c w', Rd w' 1 A 2 [.int .i64 (cmpS a.name b.name), .int .i64 (cmpI a.start b.start)] → Calls Tryz.prog 210 #[.slice A 2 c] w' fun r w'' => r = .returned (.int .i64 (recCmp a b)) ∧ w' = w'') := fun A c w' h => or_two _ _ A c w' h
  obtain ⟨x, hx⟩ : ∃ x, cmpS a.name b.name = x := ⟨_, rfl⟩
  obtain ⟨y, hy⟩ : ∃ y, cmpI a.start b.start = y := ⟨_, rfl⟩
  obtain ⟨z, hz⟩ : ∃ z, recCmp a b = z := ⟨_, rfl⟩
  rw [hx] at HS HO
  rw [hy] at HI HO
  rw [hz] at HO ⊢
  clear hx hy hz
  obtain ⟨an, ast, ac, ah, al, am, ax⟩ := a
  obtain ⟨bn, bst, bc, bh, bl, bm, bx⟩ := b
  unfold RecV.val
  simp only at HS HI
  obtain ⟨W2, hW2⟩ : ∃ W2, W2 = (w.alloc (.cells #[.string an, .int .i64 ast, .int .i64 ac, .int .i64 ah, .int .u64 al, .int .i64 am, .int .i64 ax] 30)).alloc (.cells #[.string bn, .int .i64 bst, .int .i64 bc, .int .i64 bh, .int .u64 bl, .int .i64 bm, .int .i64 bx] 30) := ⟨_, rfl⟩
  have A2 : Blk W2 w.heap.size 30 #[.string an, .int .i64 ast, .int .i64 ac, .int .i64 ah, .int .u64 al, .int .i64 am, .int .i64 ax] := by rw [hW2]; exact (Blk.new _ _ _).alloc _
  have B2 : Blk W2 (w.heap.size + 1) 30 #[.string bn, .int .i64 bst, .int .i64 bc, .int .i64 bh, .int .u64 bl, .int .i64 bm, .int .i64 bx] := by rw [hW2]; exact Blk.new' (by simp) _ _
  have O2 : Hid (∃ os, W2 = Sort.grow w os) := by
    show ∃ os, W2 = _
    rw [hW2, Sort.alloc_eq_grow, Sort.alloc_eq_grow, Sort.grow_grow]; exact ⟨_, rfl⟩
  have a0 := A2.cell 0
  have a1 := A2.cell 1
  have b0 := B2.cell 0
  have b1 := B2.cell 1
  simp only [List.getElem?_toArray, List.getElem?_cons_succ, List.getElem?_cons_zero] at a0 a1 b0 b1
  clear A2 B2
  go_enter Tryz.func166, Tryz.ntmps166
  go_wp2_with fail
  rw [← hW2]
  clear hW2
  go_still_tail 10, (by kernel_rfl)
  repeat still_step
  still_call (still_left (HS.out _))
  repeat still_step
  still_call (still_left (HI.out _))
  repeat still_step
  try refine wpStill_nil ?_
  change wpList _ _ _ _ _ W2.drew
  clear a0 a1 b0 b1
  go_wp2_with fail
  refine (HO.out _ _ _ (Rd.new W2.drew [.int .i64 x, .int .i64 y] _ 2 rfl)).mono ?_
  rintro r w3 ⟨rfl, rfl⟩
  go_wp2_with fail
  go_ret
  obtain ⟨os, hos⟩ := O2.out
  rw [hos]
  refine ⟨rfl, ?_⟩
  rw [Sort.alloc_eq_grow]
  exact ⟨1, _, (Sort.grow_grow (w.drewN 1) os _).trans rfl⟩

instance : Inhabited RecV := ⟨⟨ByteArray.empty, 0, agg0⟩⟩
theorem ltCmp (a b : RecV) : ltOf recCmp a b = decide (klt a b) := by unfold ltOf; simp only [recCmp_neg]
theorem swoCmp : Sort.SWO (ltOf recCmp) where
  irrefl x := by rw [ltCmp]; simpa using klt_irrefl x
  trans x y z h1 h2 := by rw [ltCmp] at *; simp only [decide_eq_true_eq] at *; exact klt_trans h1 h2
  ntrans x y z h1 h2 := by
    rw [ltCmp] at *
    simp only [decide_eq_false_iff_not] at *
    intro h
    rcases klt_tri x y with h3 | h3 | h3
    · exact h1 h3
    · exact h2 ((klt_key h3).1 h)
    · exact h2 (klt_trans h3 h)
theorem flatK_list (l : List RecV) : (Sort.flatK RecV.cells 7 l.toArray).toList = rcells l := by
  apply List.ext_getElem?
  intro t
  have hl : (rcells l).length = l.length * 7 := vflat_len rec_len l
  by_cases ht : t < l.length * 7
  · have hk : t / 7 < l.length := by omega
    have hs : (Sort.flatK RecV.cells 7 l.toArray).size = l.length * 7 := by simp
    have h1 : (rcells l)[t]? = (RecV.cells l[t / 7])[t % 7]? := by
      have := vflat_get rec_len (List.getElem?_eq_getElem hk) (t % 7) (by omega)
      rwa [show t / 7 * 7 + t % 7 = t by omega] at this
    have h2 := Sort.get_flatK RecV.cells 7 l.toArray t (by simpa using ht)
    rw [h1, Array.getElem?_toList]
    rw [getElem!_pos _ t (by omega)] at h2
    rw [Array.getElem?_eq_getElem (by omega), h2]
    have h3 : (l.toArray[t / 7]!) = l[t / 7] := by rw [getElem!_pos _ _ (by simpa using hk)]; simp
    rw [h3, getElem!_pos _ _ (by rw [rec_len]; omega), List.getElem?_eq_getElem (by rw [rec_len]; omega)]
  · rw [List.getElem?_eq_none (by simp; omega), List.getElem?_eq_none (by omega)]
theorem sort_any (l : List RecV) (A : Option Addr) (n c base : Nat) (w : World) (ho : w.ownsRow base 30 7 (.slice A n c) n (rcells l)) (hn : n ≤ 1099511627776) :
    Calls Tryz.prog 165 #[.slice A n c, .func (.func 166) #[] #[]] w fun r w' => r = .returned (.tuple #[]) ∧
      ∃ l', l'.Perm l ∧ l'.Pairwise (fun a b => ¬ klt b a) ∧ w'.ownsRow base 30 7 (.slice A n c) n (rcells l') ∧ Fr (rowF (.slice A n c)) w w' := by
  have hlen : l.length = n := by
    have := ho.1
    rw [show (rcells l).length = l.length * 7 from vflat_len rec_len l] at this
    omega
  rcases Nat.eq_zero_or_pos n with h0 | h0
  · subst h0
    obtain rfl : l = [] := List.eq_nil_of_length_eq_zero hlen
    refine (show Calls Tryz.prog 165 _ _ _ from AnyF.slices_SortFunc_none Tryz.srtR A c (.func (.func 166) #[] #[]) w).mono ?_
    rintro r w' ⟨e, rfl⟩
    exact ⟨e, [], List.Perm.refl _, List.Pairwise.nil, ho, Fr.refl _ _⟩
  · obtain ⟨g, cap, cur, hv, hbg, hblk, hcap, hmax, hsz, htk⟩ : ∃ g cap cur, (Value.slice A n c) = .slice (some ⟨g, 0, none⟩) n cap ∧ base ≤ g ∧ w.heap[g]? = some (.cells cur 30 (0, 0)) ∧ n ≤ cap ∧ cap ≤ maxLen ∧ cur.size = cap * 7 ∧ cur.toList.take (n * 7) = rcells l := by
      rcases ho.2 with ⟨_, h⟩ | h
      · omega
      · exact h
    injection hv with e1 _ e3
    subst e1 e3
    have hg : g < w.heap.size := (Array.getElem?_eq_some_iff.1 hblk).1
    have hH : Sort.HoldsK RecV.cells 7 w g 0 l.toArray := by
      intro j hj
      rw [Sort.size_flatK] at hj
      have hj' : j < n * 7 := by simpa [hlen] using hj
      refine ⟨?_, ho.frozenAt (0 + j)⟩
      rw [ho.cellAt (0 + j) (by omega), Nat.zero_add, ← flatK_list, Array.getElem?_toList, Array.getElem?_eq_getElem (by simpa using hj), getElem!_pos _ j (by simpa using hj)]
      rfl
    have eg : ∀ args w, (callFunc 166 args).run Tryz.prog w = .ok (.enter 166 args) w := enters_of Tryz.func166 (by kernel_rfl) rfl
    have hcmp : CmpLays Tryz.prog 166 #[] RecV.cells 7 recCmp g 0 l.toArray.size w := fun m os dk _ x y => compare_grow x y _
    have hcon := AnyQ.slices_SortFunc Tryz.srtR 7 Tryz.isAgg30 Tryz.sizeOf30 RecV.cells rec_len (fun x v hv => by simp only [RecV.cells, List.mem_cons, List.not_mem_nil, or_false] at hv; rcases hv with rfl | rfl | rfl | rfl | rfl | rfl | rfl <;> rfl) recCmp swoCmp 166 #[] g 0 c l.toArray w eg hcmp hH hg (by simp; omega)
    rw [show l.toArray.size = n by simpa using hlen] at hcon
    refine (show Calls Tryz.prog 165 _ _ _ from hcon).mono ?_
    rintro r w' ⟨e, d', m, os, ⟨hp1, _, hp2⟩, hs, rfl⟩
    have hd : d'.size = n := by simpa [hlen] using hp1
    have hpm : d'.toList.Perm l := by
      have h1 : d'.extract 0 n = d' := by rw [← hd]; exact Array.extract_size
      have h2 : l.toArray.extract 0 n = l.toArray := by rw [← hlen, ← List.size_toArray]; exact Array.extract_size
      rw [h1, h2] at hp2
      simpa using hp2
    refine ⟨e, d'.toList, hpm, ?_, ?_, ?_⟩
    · rw [List.pairwise_iff_getElem]
      intro i j hi hj hij
      have h := hs i j (Nat.zero_le _) hij (by simpa [hd] using hj)
      rw [ltCmp, getElem!_pos _ _ (by simpa using hj), getElem!_pos _ _ (by simpa using hi)] at h
      simpa using h
    · refine ⟨by rw [show (rcells d'.toList).length = d'.toList.length * 7 from vflat_len rec_len _]; simp [hd], .inr ⟨g, c, Sort.putCells id 0 (Sort.flatK RecV.cells 7 d') cur, rfl, hbg, ?_, hcap, hmax, by simp [Sort.putCells, hsz], ?_⟩⟩
      · simp only [sortWorldK, Sort.grow, Sort.putRowK, Sort.putRow, Sort.mapBlock, Sort.heap_ahead]
        rw [Array.getElem?_append_left (by simpa using hg), Array.getElem?_modify, if_pos rfl, hblk]
        rfl
      · rw [← flatK_list, Array.toArray_toList]
        apply List.ext_getElem?
        intro t
        by_cases ht : t < n * 7
        · have htc : t < cur.size := by rw [hsz]; exact Nat.lt_of_lt_of_le ht (Nat.mul_le_mul_right 7 hcap)
          rw [List.getElem?_take_of_lt ht, Array.getElem?_toList, Array.getElem?_toList]
          simp only [Sort.putCells, Array.getElem?_mapIdx, Array.getElem?_eq_getElem htc, Option.map_some, Nat.zero_le, true_and, Nat.zero_add, Nat.sub_zero, Sort.size_flatK, hd, ht, if_true, id]
          rw [getElem!_pos _ t (by rw [Sort.size_flatK, hd]; exact ht), Array.getElem?_eq_getElem (by rw [Sort.size_flatK, hd]; exact ht)]
        · rw [List.getElem?_eq_none (by simp; omega), List.getElem?_eq_none (by simp [hd]; omega)]
    · refine ⟨rfl, rfl, rfl, by simp [sortWorldK, Sort.grow, Sort.putRowK, Sort.putRow, Sort.mapBlock], fun k hk hne => ?_⟩
      have hkg : g ≠ k := fun h => hne (by subst h; rfl)
      simp only [sortWorldK, Sort.grow, Sort.putRowK, Sort.putRow, Sort.mapBlock, Sort.heap_ahead]
      rw [Array.getElem?_append_left (by simpa using hk), Array.getElem?_modify, if_neg hkg]
end Go.Proofs.YtfhhepfkjndkgaaGreat
