/- Walk of tiers: Ask. -/
import Derived.Test.YtlhhcancfgjfkaaTiersPut
namespace Go.Proofs.Ytlhhcancfgjfkaa
set_option linter.all false
open Go.RowKit

/-- What Ask answers. -/
def askB (s : ByteArray) (fr tt : Int) : Bool := validB s && decide (0 ≤ fr) && decide (fr ≤ tt)
def askT (X : TiersX) (fr : Int) : Int := coverV X.now X.tiers X.floors fr
def askL (X : TiersX) (s : ByteArray) (fr tt : Int) : List RecV := keepT (outR s fr tt) (X.tabs.getD (askT X fr).toNat [])
theorem cover_in {now : Int} {l : List TierV} {fl : List Int} {t : Int} (h : 0 < l.length) : ∃ k : Nat, k < l.length ∧ coverV now l fl t = k := by
  unfold coverV
  split
  · rename_i k hk
    have := List.mem_range.1 (List.mem_of_find?_eq_some hk)
    exact ⟨k, this, rfl⟩
  · exact ⟨l.length - 1, by omega, by omega⟩

set_option maxRecDepth 100000 in
set_option maxHeartbeats 8000000 in
theorem task_any (t base : Nat) (X : TiersX) (s : ByteArray) (hs : s.size ≤ maxLen) (fr tt : Int) (w : World) (h : TiersAt w t base X) (h0 : 0 < X.tiers.length) (hn : X.tiers.length ≤ 1000) (hl : ∀ m ∈ X.tabs, m.length ≤ 100000000) (hnow : 0 ≤ X.now ∧ X.now ≤ 1099511627776) (hwf : ∀ x ∈ X.tiers, x.wf) :
    Calls Try.prog 18 #[.pointer (some ⟨t, 0, none⟩), .string s, .int .i64 fr, .int .i64 tt] w fun r w' => ((askB s fr tt = true → ∃ A c, r = .returned (.tuple #[ansV (askT X fr) A (askL X s fr tt).length c, .int .i64 0]) ∧ w'.ownsRow w.heap.size 43 7 (.slice A (askL X s fr tt).length c) (askL X s fr tt).length (rcells (askL X s fr tt))) ∧ (askB s fr tt = false → r = .returned (.tuple #[ansV 0 none 0 0, .int .i64 1]))) ∧ Below w.heap.size w w' := by
  obtain ⟨W0, hW0⟩ : ∃ W0, W0 = w.alloc (.cells #[.int .i64 0, .slice none 0 0] 52) := ⟨_, rfl⟩
  have HW0 := Lib.hid hW0
  have F0 : Hid (Fr (fun _ => False) w W0) := by show Fr _ _ _; rw [hW0]; exact Fr.none_alloc _ _
  have BA : Hid (Blk W0 w.heap.size 52 #[.int .i64 0, .slice none 0 0]) := by show Blk _ _ _ _; rw [hW0]; exact Blk.new _ _ _
  have HS0 : Hid (w.heap.size + 1 = W0.heap.size) := by show _ = _; rw [hW0]; simp
  have HT0 := h.fr0 F0.out
  have HN := Lib.hid (tnone_any t base X W0 HT0 h0)
  have HVd := Lib.hid (fun b c w hc => valid_one s hs b c w hc)
  unfold askB ansV
  clear hW0
  cases hv : validB s
  · rw [hv] at HVd
    clear hv
    go_enter Try.func18, Try.ntmps18
    go_wp2_with fail
    rw [← HW0.out]
    refine HN.out.mono ?_
    rintro r w' ⟨rfl, rfl⟩
    go_wp2_with fail
    refine (HVd.out _ _ _ ((Blk.new _ _ _).cell 0)).mono ?_
    rintro r w' ⟨rfl, rfl⟩
    have FV : Hid (Fr (fun _ => False) W0 (W0.alloc (.cells #[.string s] 9))) := Fr.none_alloc _ _
    obtain ⟨W1, hW1⟩ : ∃ W1, W1 = W0.alloc (.cells #[.string s] 9) := ⟨_, rfl⟩
    rw [← hW1] at FV ⊢
    clear hW1
    have b1 := BA.out.fr FV.out (fun h => h)
    have a0 := b1.cell 0
    have a1 := b1.cell 1
    have z0 := b1.frozen 0
    have z1 := b1.frozen 1
    simp only [List.getElem?_toArray, List.getElem?_cons_succ, List.getElem?_cons_zero] at a0 a1
    go_wp2_with fail
    rw [setCell_same a0, setCell_same a1]
    refine bodyPost_ret (v := .tuple #[.agg #[.int .i64 0, .slice none 0 0], .int .i64 1]) ?_ rfl ⟨⟨fun h => by simp at h, fun _ => rfl⟩, (F0.out.trans FV.out (fun _ h => h.elim)).below (fun _ h => h.elim)⟩
    simp [results, Try.results18, go_sem, *]
  rw [hv] at HVd
  clear hv
  by_cases h1 : 0 ≤ fr
  · have hd1 : decide (fr < 0) = false := decide_eq_false (by omega)
    by_cases h2 : fr ≤ tt
    · have hd2 : decide (tt < fr) = false := decide_eq_false (by omega)
      have hB : (true && decide (0 ≤ fr) && decide (fr ≤ tt)) = true := by simp [h1, h2]
      rw [hB]
      clear hB
      obtain ⟨A, c, B, d, T, ct, tb, hi⟩ := HT0
      have Hi := Lib.hid hi
      obtain ⟨k, hk, hcv⟩ := cover_in (now := X.now) (fl := X.floors) (t := fr) h0
      obtain ⟨g, b, x, l, q1, q2, q3, hTb⟩ := hi.tabAt hk
      have hA1 : askT X fr = (k : Int) := hcv
      have hA2 : askL X s fr tt = keepT (outR s fr tt) l := by
        unfold askL
        rw [hA1, Int.toNat_natCast, List.getD_eq_getElem?_getD, q3]; rfl
      rw [hA1, hA2]
      have hll := hl l (mem_of_get q3)
      have HCv : Hid (∀ W, Fr (fun _ => False) W0 W → Calls Try.prog 19 #[.agg #[.int .i64 X.now, .string X.name, .slice A X.tiers.length c, .slice B X.floors.length d], .int .i64 fr] W fun r w' => r = .returned (.int .i64 k) ∧ Below W.heap.size W w') := fun W f => by
        have hi' := hi.fr0 f
        rw [← hcv]
        exact cover_any X.now (by unfold i64; omega) X.name X.tiers A X.tiers.length c X.floors B X.floors.length d fr W (own_any hi'.tiers).2.2.1 (own_any hi'.floors).2.2.1 hwf (by omega)
      have HRg : Hid (∀ W, Fr (fun _ => False) W0 W → Calls Try.prog 46 #[.pointer (some ⟨g, 0, none⟩), .string s, .int .i64 fr, .int .i64 tt] W fun r w' => (∃ A c, r = .returned (.slice A (keepT (outR s fr tt) l).length c) ∧ w'.ownsRow W.heap.size 43 7 (.slice A (keepT (outR s fr tt) l).length c) (keepT (outR s fr tt) l).length (rcells (keepT (outR s fr tt) l))) ∧ Below W.heap.size W w') := fun W f => tabrange_any g x.every b l s fr tt W (hTb.fr0 f) (by omega)
      obtain ⟨out, hout⟩ : ∃ out, keepT (outR s fr tt) l = out := ⟨_, rfl⟩
      rw [hout] at HRg ⊢
      have HP : Hid (∀ W, Fr (fun _ => False) W0 W → ∃ ad, T = some ad ∧ W.cell? (ad.add k) = some (.pointer (some ⟨g, 0, none⟩))) := fun W f => by
        obtain ⟨ad, e, hc⟩ := (own_any (hi.fr0 f).row).2.2.1.2 (by omega)
        exact ⟨ad, e, hc k _ (ptrs_get q1)⟩
      have kn : 0 ≤ (k : Int) ∧ (k : Int) < (X.tiers.length : Int) := by omega
      clear hout hTb q1 q2 q3 hi hcv hA1 hA2 hl hwf h
      go_enter Try.func18, Try.ntmps18
      go_wp2_with fail
      rw [← HW0.out]
      refine HN.out.mono ?_
      rintro r w' ⟨rfl, rfl⟩
      go_wp2_with fail
      refine (HVd.out _ _ _ ((Blk.new _ _ _).cell 0)).mono ?_
      rintro r w' ⟨rfl, rfl⟩
      have FV : Hid (Fr (fun _ => False) W0 (W0.alloc (.cells #[.string s] 9))) := Fr.none_alloc _ _
      obtain ⟨W1, hW1⟩ : ∃ W1, W1 = W0.alloc (.cells #[.string s] 9) := ⟨_, rfl⟩
      rw [← hW1] at FV ⊢
      clear hW1
      have a0 := (Hi.out.fr0 FV.out).blk.cell 0
      have a1 := (Hi.out.fr0 FV.out).blk.cell 1
      have a2 := (Hi.out.fr0 FV.out).blk.cell 2
      have a3 := (Hi.out.fr0 FV.out).blk.cell 3
      simp only [List.getElem?_toArray, List.getElem?_cons_succ, List.getElem?_cons_zero] at a0 a1 a2 a3
      go_wp2_with fail
      refine (HCv.out _ FV.out).mono ?_
      rintro r w5 ⟨rfl, b5⟩
      have F5 := Lib.hid (FV.out.trans (Fr.b0 b5) (fun _ h => h.elim))
      obtain ⟨ad, rfl, p0⟩ := HP.out w5 F5.out
      clear a0 a1 a2 a3 b5 FV
      have a4 := (Hi.out.fr0 F5.out).blk.cell 4
      simp only [List.getElem?_toArray, List.getElem?_cons_succ, List.getElem?_cons_zero] at a4
      go_wp2_with fail
      refine (HRg.out _ F5.out).mono ?_
      rintro r w6 ⟨⟨A6, c6, rfl, ho6⟩, b6⟩
      have F6 := Lib.hid (F5.out.trans (Fr.b0 b6) (fun _ h => h.elim))
      have Ho6 := Lib.hid ho6
      have H56 : Hid (w.heap.size ≤ w5.heap.size) := (F0.out.trans F5.out (fun _ h => h.elim)).size
      have hB6 := BA.out.fr F6.out (fun h => h)
      have HB6 := Lib.hid hB6
      clear a4 p0 b6 ho6
      have a0 := hB6.cell 0
      have a1 := hB6.cell 1
      have z0 := hB6.frozen 0
      have z1 := hB6.frozen 1
      simp only [List.getElem?_toArray, List.getElem?_cons_succ, List.getElem?_cons_zero] at a0 a1
      clear hB6
      go_wp2_with fail
      obtain ⟨W7, hW7⟩ : ∃ W7, W7 = (w6.setCell ⟨w.heap.size, 0, none⟩ (.int .i64 k)).setCell ⟨w.heap.size, 1, none⟩ (.slice A6 out.length c6) := ⟨_, rfl⟩
      rw [← hW7]
      have F7 : Fr (fun j => j = w.heap.size) w6 W7 := by rw [hW7]; exact ((Fr.refl (fun j => j = w.heap.size) w6).setCell (p := ⟨w.heap.size, 0, none⟩) (.inl rfl) _).setCell (p := ⟨w.heap.size, 1, none⟩) (.inl rfl) _
      have B7 : Blk W7 w.heap.size 52 #[.int .i64 k, .slice A6 out.length c6] := by rw [hW7]; exact (HB6.out.set_ 0 _).set_ 1 _
      have c0 := B7.cell 0
      have c1 := B7.cell 1
      simp only [List.getElem?_toArray, List.getElem?_cons_succ, List.getElem?_cons_zero] at c0 c1
      have hfin : Below w.heap.size w W7 := ((F0.out.trans F6.out (fun _ h => h.elim)).below (fun _ h => h.elim)).trans (F7.below_of (F0.out.trans F6.out (fun _ h => h.elim)).size (fun _ h => by omega))
      have hown : W7.ownsRow w.heap.size 43 7 (.slice A6 out.length c6) out.length (rcells out) := own_le (own_fr Ho6.out F7 (fun j hj e => own_blk_ne Ho6.out HB6.out (by decide) (by rw [← e]; exact hj))) H56.out
      clear a0 a1 z0 z1 hW7 B7 F7
      refine bodyPost_ret (v := .tuple #[.agg #[.int .i64 k, .slice A6 out.length c6], .int .i64 0]) ?_ rfl ⟨⟨fun _ => ⟨A6, c6, rfl, hown⟩, fun h => by simp at h⟩, hfin⟩
      simp [results, Try.results18, go_sem, c0, c1]
    · have hd2 : decide (tt < fr) = true := decide_eq_true (by omega)
      have hB : (true && decide (0 ≤ fr) && decide (fr ≤ tt)) = false := by simp [h1]; omega
      rw [hB]
      clear hB
      go_enter Try.func18, Try.ntmps18
      go_wp2_with fail
      rw [← HW0.out]
      refine HN.out.mono ?_
      rintro r w' ⟨rfl, rfl⟩
      go_wp2_with fail
      refine (HVd.out _ _ _ ((Blk.new _ _ _).cell 0)).mono ?_
      rintro r w' ⟨rfl, rfl⟩
      have FV : Hid (Fr (fun _ => False) W0 (W0.alloc (.cells #[.string s] 9))) := Fr.none_alloc _ _
      obtain ⟨W1, hW1⟩ : ∃ W1, W1 = W0.alloc (.cells #[.string s] 9) := ⟨_, rfl⟩
      rw [← hW1] at FV ⊢
      clear hW1
      have b1 := BA.out.fr FV.out (fun h => h)
      have a0 := b1.cell 0
      have a1 := b1.cell 1
      have z0 := b1.frozen 0
      have z1 := b1.frozen 1
      simp only [List.getElem?_toArray, List.getElem?_cons_succ, List.getElem?_cons_zero] at a0 a1
      go_wp2_with fail
      rw [setCell_same a0, setCell_same a1]
      refine bodyPost_ret (v := .tuple #[.agg #[.int .i64 0, .slice none 0 0], .int .i64 1]) ?_ rfl ⟨⟨fun h => by simp at h, fun _ => rfl⟩, (F0.out.trans FV.out (fun _ h => h.elim)).below (fun _ h => h.elim)⟩
      simp [results, Try.results18, go_sem, *]
  · have hd1 : decide (fr < 0) = true := decide_eq_true (by omega)
    have hB : (true && decide (0 ≤ fr) && decide (fr ≤ tt)) = false := by simp [h1]
    rw [hB]
    clear hB
    go_enter Try.func18, Try.ntmps18
    go_wp2_with fail
    rw [← HW0.out]
    refine HN.out.mono ?_
    rintro r w' ⟨rfl, rfl⟩
    go_wp2_with fail
    refine (HVd.out _ _ _ ((Blk.new _ _ _).cell 0)).mono ?_
    rintro r w' ⟨rfl, rfl⟩
    have FV : Hid (Fr (fun _ => False) W0 (W0.alloc (.cells #[.string s] 9))) := Fr.none_alloc _ _
    obtain ⟨W1, hW1⟩ : ∃ W1, W1 = W0.alloc (.cells #[.string s] 9) := ⟨_, rfl⟩
    rw [← hW1] at FV ⊢
    clear hW1
    have b1 := BA.out.fr FV.out (fun h => h)
    have a0 := b1.cell 0
    have a1 := b1.cell 1
    have z0 := b1.frozen 0
    have z1 := b1.frozen 1
    simp only [List.getElem?_toArray, List.getElem?_cons_succ, List.getElem?_cons_zero] at a0 a1
    go_wp2_with fail
    rw [setCell_same a0, setCell_same a1]
    refine bodyPost_ret (v := .tuple #[.agg #[.int .i64 0, .slice none 0 0], .int .i64 1]) ?_ rfl ⟨⟨fun h => by simp at h, fun _ => rfl⟩, (F0.out.trans FV.out (fun _ h => h.elim)).below (fun _ h => h.elim)⟩
    simp [results, Try.results18, go_sem, *]
end Go.Proofs.Ytlhhcancfgjfkaa
