/- Walk of sedimentref10.Make. -/
import Derived.Test.YtbdhmoeadakipaaGreatMake
import Derived.Test.YtbdhmoeadakipaaGreatRefPol
import Derived.Test.YtbdhmoeadakipaaGreatRefFrom
import Derived.Test.YtbdhmoeadakipaaGreatPlanLaw
import Derived.Test.YtbdhmoeadakipaaGreatOpApp
namespace Go.Proofs.YtbdhmoeadakipaaGreat
open Go.RowKit

theorem rfour (w : World) (nmf : ByteArray) (Af : Option Addr) (nf cf : Nat) (now : Int) (nmr : ByteArray) (Ar : Option Addr) (nr cr : Nat) (B : Option Addr) (m d : Nat) (nmt : ByteArray) (At : Option Addr) (nt ct : Nat) :
    ∃ WA, WA = (((w.alloc (.cells #[.string nmf, .slice Af nf cf] 24)).alloc (.cells #[.int .i64 now, .string nmr, .slice Ar nr cr, .slice B m d] 29)).alloc (.cells #[.string nmt, .slice At nt ct] 24)).alloc (.cells #[.string { data := #[] }, .slice none 0 0, .slice none 0 0] 31) ∧ Own w WA (fun _ => False) ∧ w.heap.size + 4 = WA.heap.size ∧ Blk WA w.heap.size 24 #[.string nmf, .slice Af nf cf] ∧ Blk WA (w.heap.size + 1) 29 #[.int .i64 now, .string nmr, .slice Ar nr cr, .slice B m d] ∧ Blk WA (w.heap.size + 1 + 1) 24 #[.string nmt, .slice At nt ct] ∧ Blk WA (w.heap.size + 1 + 1 + 1) 31 #[.string { data := #[] }, .slice none 0 0, .slice none 0 0] := by
  refine ⟨_, rfl, ((((Own.start w).skip (Fr.none_alloc _ _)).skip (Fr.none_alloc _ _)).skip (Fr.none_alloc _ _)).skip (Fr.none_alloc _ _), by simp, ?_, ?_, ?_, ?_⟩
  · exact (((Blk.new w _ _).alloc _).alloc _).alloc _
  · exact ((Blk.new' (by simp) _ _).alloc _).alloc _
  · exact (Blk.new' (by simp) _ _).alloc _
  · exact Blk.new' (by simp) _ _

set_option maxRecDepth 100000 in
set_option maxHeartbeats 2000000 in
theorem ref_make_bad (nmf : ByteArray) (lf : List TierV) (Af : Option Addr) (nf cf : Nat) (now : Int) (nmr : ByteArray) (Ar : Option Addr) (nr cr : Nat) (B : Option Addr) (m d : Nat) (nmt : ByteArray) (lt : List TierV) (At : Option Addr) (nt ct : Nat) (w : World)
    (hf : Rd w 4 Af nf (tcells lf)) (hfn : nf ≤ 1099511627776) (ht : Rd w 4 At nt (tcells lt)) (htn : nt ≤ 1099511627776) (hwf : ∀ t ∈ lf, t.wf) (hwt : ∀ t ∈ lt, t.wf) (hnf : nmf.size ≤ maxLen) (hnt : nmt.size ≤ maxLen)
    (hbad : (checkB nmf lf && checkB nmt lt) = false) :
    Calls Tryz.prog 6 #[polV nmf Af nf cf, reachV now nmr Ar nr cr B m d, polV nmt At nt ct] w fun r w' => r = .returned (.tuple #[planV { data := #[] } none 0 0 none 0 0, .int .i64 23]) ∧ Below w.heap.size w w' := by
  have HA : Hid (∀ w', Fr (fun _ => False) w w' → Calls Tryz.prog 26 #[polV nmf Af nf cf] w' fun r w'' => (∃ k : Int, r = .returned (.tuple #[.int .i64 (errOf (checkB nmf lf)), .int .i64 k])) ∧ Below w'.heap.size w' w'') :=
    fun w' h => rcheck_any nmf hnf lf Af nf cf w' (hf.fr0 h) hfn (fun t ht => (hwf t ht).2.2.2)
  have HB : Hid (∀ w', Fr (fun _ => False) w w' → Calls Tryz.prog 26 #[polV nmt At nt ct] w' fun r w'' => (∃ k : Int, r = .returned (.tuple #[.int .i64 (errOf (checkB nmt lt)), .int .i64 k])) ∧ Below w'.heap.size w' w'') :=
    fun w' h => rcheck_any nmt hnt lt At nt ct w' (ht.fr0 h) htn (fun t ht => (hwt t ht).2.2.2)
  clear hf ht hwf hwt
  obtain ⟨WA, hWA, oA, hsA, b3, b4, b5, b6⟩ := rfour w nmf Af nf cf now nmr Ar nr cr B m d nmt At nt ct
  have OA := Lib.hid oA
  have HWA := Lib.hid hWA
  have B5 := Lib.hid b5
  have B6 := Lib.hid b6
  clear oA hWA b3 b4 b5 b6 hsA
  unfold polV at HA HB ⊢
  unfold reachV planV
  cases ha : checkB nmf lf
  · rw [ha] at HA
    clear ha hbad HB B5
    go_enter Tryz.func6, Tryz.ntmps6
    go_wp2_with fail
    rw [← HWA.out]
    refine (HA.out WA (Fr.b0 OA.out.bel)).mono ?_
    rintro r w1 ⟨⟨k, rfl⟩, hb⟩
    have O1 := Lib.hid (OA.out.below hb)
    have b6 := B6.out.below hb
    have e0 := b6.cell 0
    have e1 := b6.cell 1
    have e2 := b6.cell 2
    have g0 := b6.frozen 0
    have g1 := b6.frozen 1
    have g2 := b6.frozen 2
    simp only [List.getElem?_toArray, List.getElem?_cons_succ, List.getElem?_cons_zero] at e0 e1 e2
    rw [show errOf false = 23 from rfl]
    clear hb b6 B6 HWA
    go_wp2_with fail
    have fF : Fr (fun k => k = w.heap.size + 1 + 1 + 1) w1 (((w1.setCell ⟨w.heap.size + 1 + 1 + 1, 0, none⟩ (.string { data := #[] })).setCell ⟨w.heap.size + 1 + 1 + 1, 1, none⟩ (.slice none 0 0)).setCell ⟨w.heap.size + 1 + 1 + 1, 2, none⟩ (.slice none 0 0)) :=
      (((Fr.refl (fun k => k = w.heap.size + 1 + 1 + 1) w1).setCell (p := ⟨w.heap.size + 1 + 1 + 1, 0, none⟩) (.inl rfl) _).setCell (p := ⟨w.heap.size + 1 + 1 + 1, 1, none⟩) (.inl rfl) _).setCell (p := ⟨w.heap.size + 1 + 1 + 1, 2, none⟩) (.inl rfl) _
    have oF := (O1.out.also (G := fun k => k = w.heap.size + 1 + 1 + 1) (fun k hk => by omega)).fr fF
    refine bodyPost_ret (v := .tuple #[.agg #[.string { data := #[] }, .slice none 0 0, .slice none 0 0], .int .i64 23]) ?_ rfl ⟨rfl, oF.bel⟩
    simp [results, Tryz.results6, go_sem, *]
  · have hb' : checkB nmt lt = false := by rw [ha] at hbad; simpa using hbad
    rw [ha] at HA
    rw [hb'] at HB
    clear ha hbad hb'
    go_enter Tryz.func6, Tryz.ntmps6
    go_wp2_with fail
    rw [← HWA.out]
    refine (HA.out WA (Fr.b0 OA.out.bel)).mono ?_
    rintro r w1 ⟨⟨k, rfl⟩, hb⟩
    have O1 := Lib.hid (OA.out.below hb)
    have B6' := Lib.hid (B6.out.below hb)
    have b5 := B5.out.below hb
    have d0 := b5.cell 0
    have d1 := b5.cell 1
    simp only [List.getElem?_toArray, List.getElem?_cons_succ, List.getElem?_cons_zero] at d0 d1
    rw [show errOf true = 0 from rfl]
    clear hb b5 B6 HWA B5
    go_wp2_with fail
    refine (HB.out w1 (Fr.b0 O1.out.bel)).mono ?_
    rintro r w2 ⟨⟨k2, rfl⟩, hb⟩
    have O2 := Lib.hid (O1.out.below hb)
    have b6 := B6'.out.below hb
    have e0 := b6.cell 0
    have e1 := b6.cell 1
    have e2 := b6.cell 2
    have g0 := b6.frozen 0
    have g1 := b6.frozen 1
    have g2 := b6.frozen 2
    simp only [List.getElem?_toArray, List.getElem?_cons_succ, List.getElem?_cons_zero] at e0 e1 e2
    rw [show errOf false = 23 from rfl]
    clear hb b6 B6' d0 d1
    go_wp2_with fail
    have fF : Fr (fun k => k = w.heap.size + 1 + 1 + 1) w2 (((w2.setCell ⟨w.heap.size + 1 + 1 + 1, 0, none⟩ (.string { data := #[] })).setCell ⟨w.heap.size + 1 + 1 + 1, 1, none⟩ (.slice none 0 0)).setCell ⟨w.heap.size + 1 + 1 + 1, 2, none⟩ (.slice none 0 0)) :=
      (((Fr.refl (fun k => k = w.heap.size + 1 + 1 + 1) w2).setCell (p := ⟨w.heap.size + 1 + 1 + 1, 0, none⟩) (.inl rfl) _).setCell (p := ⟨w.heap.size + 1 + 1 + 1, 1, none⟩) (.inl rfl) _).setCell (p := ⟨w.heap.size + 1 + 1 + 1, 2, none⟩) (.inl rfl) _
    have oF := (O2.out.also (G := fun k => k = w.heap.size + 1 + 1 + 1) (fun k hk => by omega)).fr fF
    refine bodyPost_ret (v := .tuple #[.agg #[.string { data := #[] }, .slice none 0 0, .slice none 0 0], .int .i64 23]) ?_ rfl ⟨rfl, oF.bel⟩
    simp [results, Tryz.results6, go_sem, *]

set_option maxRecDepth 100000 in
set_option maxHeartbeats 16000000 in
theorem ref_make_good (nmf : ByteArray) (lf : List TierV) (Af : Option Addr) (nf cf : Nat) (now : Int) (hnow : i64 now) (nmr : ByteArray) (Ar : Option Addr) (cr : Nat) (fl : List Int) (B : Option Addr) (m d : Nat) (nmt : ByteArray) (lt : List TierV) (At : Option Addr) (nt ct : Nat) (w : World)
    (hf : Rd w 4 Af nf (tcells lf)) (hr : Rd w 4 Ar nf (tcells lf)) (hfl : Rd w 1 B m (ints fl)) (ht : Rd w 4 At nt (tcells lt)) (hwf : ∀ t ∈ lf, t.wf) (hwt : ∀ t ∈ lt, t.wf) (hnf : nmf.size ≤ maxLen) (hnt : nmt.size ≤ maxLen)
    (hn : nf ≤ 1099511627776) (hn2 : nt ≤ 1099511627776) (ha : checkB nmf lf = true) (hb' : checkB nmt lt = true) :
    Calls Tryz.prog 6 #[polV nmf Af nf cf, reachV now nmr Ar nf cr B m d, polV nmt At nt ct] w
      fun r w' => (∃ S cs, r = .returned (.tuple #[planV nmt At nt ct S nt cs, .int .i64 0]) ∧ nt ≤ cs ∧ Rd w' 1 S nt (ints (srcs now lf fl lt)) ∧ (∀ k, adF S nt k → w.heap.size ≤ k)) ∧ Below w.heap.size w w' := by
  have HA : Hid (∀ w', Fr (fun _ => False) w w' → Calls Tryz.prog 26 #[polV nmf Af nf cf] w' fun r w'' => (∃ k : Int, r = .returned (.tuple #[.int .i64 (errOf (checkB nmf lf)), .int .i64 k])) ∧ Below w'.heap.size w' w'') :=
    fun w' h => rcheck_any nmf hnf lf Af nf cf w' (hf.fr0 h) hn (fun t ht => (hwf t ht).2.2.2)
  have HB : Hid (∀ w', Fr (fun _ => False) w w' → Calls Tryz.prog 26 #[polV nmt At nt ct] w' fun r w'' => (∃ k : Int, r = .returned (.tuple #[.int .i64 (errOf (checkB nmt lt)), .int .i64 k])) ∧ Below w'.heap.size w' w'') :=
    fun w' h => rcheck_any nmt hnt lt At nt ct w' (ht.fr0 h) hn2 (fun t ht => (hwt t ht).2.2.2)
  have HF : Hid (∀ (i : Nat), i < nf → ∀ w', Fr (fun _ => False) w w' → Calls Tryz.prog 27 #[reachV now nmr Ar nf cr B m d, .int .i64 i] w' fun r w'' => r = .returned (.int .i64 (fromV now lf fl i)) ∧ Below w'.heap.size w' w'') :=
    fun i hi w' h => ref_from_any now hnow nmr lf Ar nf cr fl B m d i w' (hr.fr0 h) (hfl.fr0 h) hwf hi hn
  have HP := Lib.hid (fun (t : TierV) (h : t ∈ lf) => (check_mem ha h).1)
  have Ht := Lib.hid ht
  have Hf := Lib.hid hf
  have Hlf := Lib.hid hf.tiers_len
  have Hlt := Lib.hid ht.tiers_len
  clear hf hr hfl ht hwf hwt hnow
  rw [ha] at HA
  rw [hb'] at HB
  obtain ⟨WA, hWA, oA, hsA, b3, b4, b5, b6⟩ := rfour w nmf Af nf cf now nmr Ar nf cr B m d nmt At nt ct
  have OA := Lib.hid oA
  have HWA := Lib.hid hWA
  have B3 := Lib.hid b3
  have B4 := Lib.hid b4
  have B5 := Lib.hid b5
  have B6 := Lib.hid b6
  have HsA := Lib.hid hsA
  clear oA hWA b3 b4 b5 b6 hsA ha hb'
  unfold polV at HA HB ⊢
  unfold reachV at HF ⊢
  unfold planV
  obtain ⟨i0, hi, hz0, hz1, hz2⟩ := info_parts info_int
  go_enter Tryz.func6, Tryz.ntmps6
  go_wp2_with fail
  rw [← HWA.out]
  refine (HA.out WA (Fr.b0 OA.out.bel)).mono ?_
  rintro r w1 ⟨⟨k, rfl⟩, hb⟩
  have O1 := Lib.hid (OA.out.below hb)
  have B3' := Lib.hid (B3.out.below hb)
  have B4' := Lib.hid (B4.out.below hb)
  have B5' := Lib.hid (B5.out.below hb)
  have B6' := Lib.hid (B6.out.below hb)
  have Hs1 := Lib.hid (Nat.le_trans (Nat.le_of_eq HsA.out) hb.size)
  have d0 := B5'.out.cell 0
  have d1 := B5'.out.cell 1
  simp only [List.getElem?_toArray, List.getElem?_cons_succ, List.getElem?_cons_zero] at d0 d1
  rw [show errOf true = 0 from rfl]
  clear hb B3 B4 B5 B6 HWA
  go_wp2_with fail
  refine (HB.out w1 (Fr.b0 O1.out.bel)).mono ?_
  rintro r w2 ⟨⟨k2, rfl⟩, hb⟩
  have O3 := Lib.hid (O1.out.below hb)
  have B3 := Lib.hid (B3'.out.below hb)
  have B4 := Lib.hid (B4'.out.below hb)
  have B5 := Lib.hid (B5'.out.below hb)
  have B6 := Lib.hid (B6'.out.below hb)
  have Hs3 := Lib.hid (Nat.le_trans Hs1.out hb.size)
  clear d0 d1
  have d0 := B5.out.cell 0
  have d1 := B5.out.cell 1
  simp only [List.getElem?_toArray, List.getElem?_cons_succ, List.getElem?_cons_zero] at d0 d1
  rw [show errOf true = 0 from rfl]
  have c0 := fun o => (Fr.none_alloc w2 o).cell d0 (fun h => h)
  have c1 := fun o => (Fr.none_alloc w2 o).cell d1 (fun h => h)
  clear hb B3' B4' B5' B6' O1
  go_wp2_with fail
  clear c0 c1 d0 d1
  have BP := Lib.hid (Blk.new w2 31 #[.string nmt, .slice At nt ct, .slice none 0 0])
  have OP := Lib.hid (((Own.start w2).skip (Fr.none_alloc w2 (.cells #[.string nmt, .slice At nt ct, .slice none 0 0] 31))).also (G := fun j => j = w2.heap.size ∨ rowF (.slice none 0 0) j) (fun k hk => by
    rcases hk with rfl | hk
    · exact Nat.le_refl _
    · cases hk))
  go_loopw [11] (fun i wr => ∃ (k : Nat) (S : Option Addr) (cs : Nat), k ≤ nt ∧ i = .int .i64 k ∧ Blk wr w2.heap.size 31 #[.string nmt, .slice At nt ct, .slice S k cs] ∧ wr.ownsRow 0 3 1 (.slice S k cs) k (ints ((srcs now lf fl lt).take k)) ∧ Own w2 wr (fun j => j = w2.heap.size ∨ rowF (.slice S k cs) j)) (fun i _ => nt - (intOf i).toNat)
  case atStart => exact ⟨0, none, 0, Nat.zero_le _, rfl, BP.out, World.ownsRow_nil _ _ _ _, OP.out⟩
  case round =>
    obtain ⟨k, S, cs, hk, rfl, hbp, hrow, ho⟩ := hrel
    rename World => wo
    have b3 := B3.out.below ho.bel
    have b4 := B4.out.below ho.bel
    have b5 := B5.out.below ho.bel
    have t1 := b5.cell 1
    simp only [List.getElem?_toArray, List.getElem?_cons_succ, List.getElem?_cons_zero] at t1
    by_cases hlt : k < nt
    · have Ow := Lib.hid (O3.out.below ho.bel)
      obtain ⟨td, x, rfl, hu, d0, d1, d2, d3⟩ := (Ht.out.fr0 (Fr.b0 Ow.out.bel)).tier hlt
      have f1 := b3.cell 1
      have q0 := b4.cell 0
      have q1 := b4.cell 1
      have q2 := b4.cell 2
      have q3 := b4.cell 3
      simp only [List.getElem?_toArray, List.getElem?_cons_succ, List.getElem?_cons_zero] at f1 q0 q1 q2 q3
      have HK : Hid (∀ W, Fr (fun _ => False) wo W → W.cell? ⟨w.heap.size + 1 + 1, 1, none⟩ = some (.slice (some td) nt ct) ∧ W.cell? ⟨w.heap.size, 1, none⟩ = some (.slice Af nf cf) ∧ W.cell? ⟨w.heap.size + 1, 0, none⟩ = some (.int .i64 now) ∧ W.cell? ⟨w.heap.size + 1, 1, none⟩ = some (.string nmr) ∧ W.cell? ⟨w.heap.size + 1, 2, none⟩ = some (.slice Ar nf cr) ∧ W.cell? ⟨w.heap.size + 1, 3, none⟩ = some (.slice B m d) ∧ W.cell? ⟨(td.add (k * 4)).block, (td.add (k * 4)).off + 1, none⟩ = some (.int .i64 x.every)) :=
        fun W f => ⟨f.cell t1 (fun h => h), f.cell f1 (fun h => h), f.cell q0 (fun h => h), f.cell q1 (fun h => h), f.cell q2 (fun h => h), f.cell q3 (fun h => h), f.cell d1 (fun h => h)⟩
      have Hu := Lib.hid hu
      have Ho := Lib.hid ho
      have Hbp := Lib.hid hbp
      have Hrow := Lib.hid hrow
      have kn : 0 ≤ (k : Int) ∧ (k : Int) < (nt : Int) := by omega
      clear hu ho hbp hrow b3 b4 b5 d0 d1 d2 d3 f1 q0 q1 q2 q3
      go_wp2_with fail
      clear t1
      go_loopw [12, 13] (fun o i wi => ∃ (g : Nat) (best : Int), g ≤ nf ∧ i = .int .i64 g ∧ o = .int .i64 best ∧ Hid (best = srcGo now lf fl x.every g) ∧ Fr (fun _ => False) wo wi) (fun _ i _ => nf - (intOf i).toNat)
      case atStart => exact ⟨0, -1, Nat.zero_le _, rfl, rfl, rfl, Fr.refl _ _⟩
      case round =>
        obtain ⟨g, best, hg, rfl, rfl, hbest, hfr⟩ := hrel
        obtain ⟨t1, f1, q0, q1, q2, q3, xe⟩ := HK.out wr hfr
        have hfw : Fr (fun _ => False) w wr := (Fr.b0 Ow.out.bel).trans hfr (fun _ h => h.elim)
        have hin := srcGo_in now lf fl x.every g
        rw [← hbest.out] at hin
        obtain ⟨i1, i2⟩ := hin
        by_cases hlg : g < nf
        · obtain ⟨fd, y, rfl, hv, e0, ye, e2, e3⟩ := (Hf.out.fr0 hfw).tier hlg
          have hy1 : 1 ≤ y.every := HP.out y (mem_of_get hv)
          have hyz : ¬ y.every = 0 := by omega
          have Hv := Lib.hid hv
          have HC : Hid (∀ W, Fr (fun _ => False) wr W → W.cell? ⟨w.heap.size + 1 + 1, 1, none⟩ = some (.slice (some td) nt ct) ∧ W.cell? ⟨w.heap.size, 1, none⟩ = some (.slice (some fd) nf cf) ∧ W.cell? ⟨w.heap.size + 1, 0, none⟩ = some (.int .i64 now) ∧ W.cell? ⟨w.heap.size + 1, 1, none⟩ = some (.string nmr) ∧ W.cell? ⟨w.heap.size + 1, 2, none⟩ = some (.slice Ar nf cr) ∧ W.cell? ⟨w.heap.size + 1, 3, none⟩ = some (.slice B m d) ∧ W.cell? ⟨(td.add (k * 4)).block, (td.add (k * 4)).off + 1, none⟩ = some (.int .i64 x.every) ∧ W.cell? ⟨(fd.add (g * 4)).block, (fd.add (g * 4)).off + 1, none⟩ = some (.int .i64 y.every)) := fun W f => ⟨f.cell t1 (fun h => h), f.cell f1 (fun h => h), f.cell q0 (fun h => h), f.cell q1 (fun h => h), f.cell q2 (fun h => h), f.cell q3 (fun h => h), f.cell xe (fun h => h), f.cell ye (fun h => h)⟩
          have HF1 : Hid (∀ (i : Nat), i < nf → ∀ W, Fr (fun _ => False) wr W → Calls Tryz.prog 27 #[.agg #[.int .i64 now, .string nmr, .slice Ar nf cr, .slice B m d], .int .i64 i] W fun r w'' => r = .returned (.int .i64 (fromV now lf fl i)) ∧ Fr (fun _ => False) wr w'') := fun i hi W h => by
            refine (HF.out i hi W (hfw.trans h (fun _ h => h.elim))).mono ?_
            rintro r w'' ⟨e, b⟩
            exact ⟨e, h.trans (Fr.b0 b) (fun _ h => h.elim)⟩
          have F2 : Fr (fun _ => False) wr wr.drew := (Fr.refl _ wr).drew
          have Hfr := Lib.hid hfr
          have gn : 0 ≤ (g : Int) ∧ (g : Int) < (nf : Int) := by omega
          obtain ⟨q, hq⟩ : ∃ q, x.every.tmod y.every = q := ⟨_, rfl⟩
          have hdv : dividesB y.every x.every = decide (q = 0) := by unfold dividesB; rw [hq, decide_eq_true hy1, Bool.true_and]
          have HS1 : Hid (srcGo now lf fl x.every (g + 1) = if decide (q = 0) && (decide (best < 0) || decide (fromV now lf fl g ≤ fromV now lf fl best.toNat)) then (g : Int) else best) := by
            show _ = _
            simp only [srcGo, Hv.out, hdv, ← hbest.out]
          clear hdv hv hfr hfw e0 e2 e3
          by_cases hq0 : q = 0
          · rw [decide_eq_true hq0, Bool.true_and] at HS1
            have hq0b : (q == 0) = true := by simpa using hq0
            by_cases hneg : best < 0
            · rw [decide_eq_true hneg, Bool.true_or, if_pos rfl] at HS1
              have HE := HS1
              have hnb : decide (best < 0) = true := decide_eq_true hneg
              go_wp2_with fail
              clear t1 f1 q0 q1 q2 q3 xe ye
              obtain ⟨t1, f1, q0, q1, q2, q3, xe, ye⟩ := HC.out wr.drew F2
              refine wp_region_held_drew (S := fun W => Fr (fun _ => False) wr W) (by kernel_rfl) (F2) (fun hHeld => ?_)
              refine wpAnyH_take (i := 0) (oi := { dst := some 48, op := Op.fieldAddr 24 (Operand.tmp 5) 1, type := 0, pos := "tiers.go:263", after := #[], guard := none }) (v := ?vq1) rfl (by kernel_rfl) (by kernel_rfl) (by kernel_rfl) (fun _ _ _ h => h) (Or.inl ⟨by rfl, ?hq1⟩) (by assumption) ?rq1
              case hq1 => intro W hSw; (try obtain ⟨t1, f1, q0, q1, q2, q3, xe, ye⟩ := HC.out W hSw); go_simp; (try with_reducible rfl)
              try simp only [Act.put, List.setIfInBounds_toArray, List.set_cons_zero, List.set_cons_succ]
              refine wpAnyH_take (i := 1) (oi := { dst := some 49, op := Op.load 22 (Operand.tmp 48), type := 22, pos := "tiers.go:263", after := #[{ on := 0, ground := Ground.data }], guard := none }) (v := ?vq2) rfl (by kernel_rfl) (by kernel_rfl) (by kernel_rfl) (fun _ _ _ h => h) (Or.inl ⟨by rfl, ?hq2⟩) (by assumption) ?rq2
              case hq2 => intro W hSw; (try obtain ⟨t1, f1, q0, q1, q2, q3, xe, ye⟩ := HC.out W hSw); go_simp; (try with_reducible rfl)
              try simp only [Act.put, List.setIfInBounds_toArray, List.set_cons_zero, List.set_cons_succ]
              refine wpAnyH_take (i := 2) (oi := { dst := some 50, op := Op.move (Operand.tmp 11), type := 3, pos := "tiers.go:263", after := #[], guard := none }) (v := ?vq3) rfl (by kernel_rfl) (by kernel_rfl) (by kernel_rfl) (fun _ _ _ h => h) (Or.inl ⟨by rfl, ?hq3⟩) (by assumption) ?rq3
              case hq3 => intro W hSw; (try obtain ⟨t1, f1, q0, q1, q2, q3, xe, ye⟩ := HC.out W hSw); go_simp; (try with_reducible rfl)
              try simp only [Act.put, List.setIfInBounds_toArray, List.set_cons_zero, List.set_cons_succ]
              refine wpAnyH_take (i := 3) (oi := { dst := some 51, op := Op.indexAddr 22 (Operand.tmp 49) (Operand.tmp 50), type := 0, pos := "tiers.go:263", after := #[{ on := 1, ground := Ground.data }, { on := 2, ground := Ground.data }], guard := none }) (v := ?vq4) rfl (by kernel_rfl) (by kernel_rfl) (by kernel_rfl) (fun _ _ _ h => h) (Or.inl ⟨by rfl, ?hq4⟩) (by assumption) ?rq4
              case hq4 => intro W hSw; (try obtain ⟨t1, f1, q0, q1, q2, q3, xe, ye⟩ := HC.out W hSw); go_simp; (try with_reducible rfl)
              try simp only [Act.put, List.setIfInBounds_toArray, List.set_cons_zero, List.set_cons_succ]
              refine wpAnyH_take (i := 4) (oi := { dst := some 52, op := Op.fieldAddr 69 (Operand.tmp 51) 1, type := 0, pos := "tiers.go:263", after := #[{ on := 3, ground := Ground.data }], guard := none }) (v := ?vq5) rfl (by kernel_rfl) (by kernel_rfl) (by kernel_rfl) (fun _ _ _ h => h) (Or.inl ⟨by rfl, ?hq5⟩) (by assumption) ?rq5
              case hq5 => intro W hSw; (try obtain ⟨t1, f1, q0, q1, q2, q3, xe, ye⟩ := HC.out W hSw); go_simp; (try with_reducible rfl)
              try simp only [Act.put, List.setIfInBounds_toArray, List.set_cons_zero, List.set_cons_succ]
              refine wpAnyH_take (i := 5) (oi := { dst := some 53, op := Op.load 3 (Operand.tmp 52), type := 3, pos := "tiers.go:263", after := #[{ on := 4, ground := Ground.data }], guard := none }) (v := ?vq6) rfl (by kernel_rfl) (by kernel_rfl) (by kernel_rfl) (fun _ _ _ h => h) (Or.inl ⟨by rfl, ?hq6⟩) (by assumption) ?rq6
              case hq6 => intro W hSw; (try obtain ⟨t1, f1, q0, q1, q2, q3, xe, ye⟩ := HC.out W hSw); go_simp; (try with_reducible rfl)
              try simp only [Act.put, List.setIfInBounds_toArray, List.set_cons_zero, List.set_cons_succ]
              refine wpAnyH_take (i := 6) (oi := { dst := some 54, op := Op.fieldAddr 24 (Operand.tmp 3) 1, type := 0, pos := "tiers.go:263", after := #[], guard := none }) (v := ?vq7) rfl (by kernel_rfl) (by kernel_rfl) (by kernel_rfl) (fun _ _ _ h => h) (Or.inl ⟨by rfl, ?hq7⟩) (by assumption) ?rq7
              case hq7 => intro W hSw; (try obtain ⟨t1, f1, q0, q1, q2, q3, xe, ye⟩ := HC.out W hSw); go_simp; (try with_reducible rfl)
              try simp only [Act.put, List.setIfInBounds_toArray, List.set_cons_zero, List.set_cons_succ]
              refine wpAnyH_take (i := 7) (oi := { dst := some 55, op := Op.load 22 (Operand.tmp 54), type := 22, pos := "tiers.go:263", after := #[{ on := 6, ground := Ground.data }], guard := none }) (v := ?vq8) rfl (by kernel_rfl) (by kernel_rfl) (by kernel_rfl) (fun _ _ _ h => h) (Or.inl ⟨by rfl, ?hq8⟩) (by assumption) ?rq8
              case hq8 => intro W hSw; (try obtain ⟨t1, f1, q0, q1, q2, q3, xe, ye⟩ := HC.out W hSw); go_simp; (try with_reducible rfl)
              try simp only [Act.put, List.setIfInBounds_toArray, List.set_cons_zero, List.set_cons_succ]
              refine wpAnyH_take (i := 8) (oi := { dst := some 56, op := Op.move (Operand.tmp 13), type := 3, pos := "tiers.go:263", after := #[], guard := none }) (v := ?vq9) rfl (by kernel_rfl) (by kernel_rfl) (by kernel_rfl) (fun _ _ _ h => h) (Or.inl ⟨by rfl, ?hq9⟩) (by assumption) ?rq9
              case hq9 => intro W hSw; (try obtain ⟨t1, f1, q0, q1, q2, q3, xe, ye⟩ := HC.out W hSw); go_simp; (try with_reducible rfl)
              try simp only [Act.put, List.setIfInBounds_toArray, List.set_cons_zero, List.set_cons_succ]
              refine wpAnyH_take (i := 9) (oi := { dst := some 57, op := Op.indexAddr 22 (Operand.tmp 55) (Operand.tmp 56), type := 0, pos := "tiers.go:263", after := #[{ on := 7, ground := Ground.data }, { on := 8, ground := Ground.data }], guard := none }) (v := ?vq10) rfl (by kernel_rfl) (by kernel_rfl) (by kernel_rfl) (fun _ _ _ h => h) (Or.inl ⟨by rfl, ?hq10⟩) (by assumption) ?rq10
              case hq10 => intro W hSw; (try obtain ⟨t1, f1, q0, q1, q2, q3, xe, ye⟩ := HC.out W hSw); go_simp; (try with_reducible rfl)
              try simp only [Act.put, List.setIfInBounds_toArray, List.set_cons_zero, List.set_cons_succ]
              refine wpAnyH_take (i := 10) (oi := { dst := some 58, op := Op.fieldAddr 69 (Operand.tmp 57) 1, type := 0, pos := "tiers.go:263", after := #[{ on := 9, ground := Ground.data }], guard := none }) (v := ?vq11) rfl (by kernel_rfl) (by kernel_rfl) (by kernel_rfl) (fun _ _ _ h => h) (Or.inl ⟨by rfl, ?hq11⟩) (by assumption) ?rq11
              case hq11 => intro W hSw; (try obtain ⟨t1, f1, q0, q1, q2, q3, xe, ye⟩ := HC.out W hSw); go_simp; (try with_reducible rfl)
              try simp only [Act.put, List.setIfInBounds_toArray, List.set_cons_zero, List.set_cons_succ]
              refine wpAnyH_take (i := 11) (oi := { dst := some 59, op := Op.load 3 (Operand.tmp 58), type := 3, pos := "tiers.go:263", after := #[{ on := 10, ground := Ground.data }], guard := none }) (v := ?vq12) rfl (by kernel_rfl) (by kernel_rfl) (by kernel_rfl) (fun _ _ _ h => h) (Or.inl ⟨by rfl, ?hq12⟩) (by assumption) ?rq12
              case hq12 => intro W hSw; (try obtain ⟨t1, f1, q0, q1, q2, q3, xe, ye⟩ := HC.out W hSw); go_simp; (try with_reducible rfl)
              try simp only [Act.put, List.setIfInBounds_toArray, List.set_cons_zero, List.set_cons_succ]
              refine wpAnyH_take (i := 12) (oi := { dst := some 60, op := Op.binOp BinOp.rem 3 (Operand.tmp 53) (Operand.tmp 59) 3, type := 3, pos := "tiers.go:263", after := #[{ on := 5, ground := Ground.data }, { on := 11, ground := Ground.data }], guard := none }) (v := ?vq13) rfl (by kernel_rfl) (by kernel_rfl) (by kernel_rfl) (fun _ _ _ h => h) (Or.inl ⟨by rfl, ?hq13⟩) (by assumption) ?rq13
              case hq13 => intro W hSw; (try obtain ⟨t1, f1, q0, q1, q2, q3, xe, ye⟩ := HC.out W hSw); go_simp; (try with_reducible rfl)
              try simp only [Act.put, List.setIfInBounds_toArray, List.set_cons_zero, List.set_cons_succ]
              refine wpAnyH_take (i := 13) (oi := { dst := some 61, op := Op.binOp BinOp.eql 3 (Operand.tmp 60) (Operand.const (Value.int IntKind.i64 0)) 3, type := 4, pos := "tiers.go:263", after := #[{ on := 12, ground := Ground.data }], guard := none }) (v := ?vq14) rfl (by kernel_rfl) (by kernel_rfl) (by kernel_rfl) (fun _ _ _ h => h) (Or.inl ⟨by rfl, ?hq14⟩) (by assumption) ?rq14
              case hq14 => intro W hSw; (try obtain ⟨t1, f1, q0, q1, q2, q3, xe, ye⟩ := HC.out W hSw); go_simp; (try with_reducible rfl)
              try simp only [Act.put, List.setIfInBounds_toArray, List.set_cons_zero, List.set_cons_succ]
              refine wpAnyH_take (i := 14) (oi := { dst := some 62, op := Op.move (Operand.tmp 61), type := 4, pos := "tiers.go:263", after := #[{ on := 13, ground := Ground.data }], guard := none }) (v := ?vq15) rfl (by kernel_rfl) (by kernel_rfl) (by kernel_rfl) (fun _ _ _ h => h) (Or.inl ⟨by rfl, ?hq15⟩) (by assumption) ?rq15
              case hq15 => intro W hSw; (try obtain ⟨t1, f1, q0, q1, q2, q3, xe, ye⟩ := HC.out W hSw); go_simp; (try with_reducible rfl)
              try simp only [Act.put, List.setIfInBounds_toArray, List.set_cons_zero, List.set_cons_succ]
              refine wpAnyH_take (i := 15) (oi := { dst := some 63, op := Op.move (Operand.tmp 12), type := 3, pos := "tiers.go:263", after := #[{ on := 14, ground := Ground.guard }], guard := some (14, true) }) (v := ?vq16) rfl (by kernel_rfl) (by kernel_rfl) (by kernel_rfl) (fun _ _ _ h => h) (Or.inl ⟨by rfl, ?hq16⟩) (by assumption) ?rq16
              case hq16 => intro W hSw; (try obtain ⟨t1, f1, q0, q1, q2, q3, xe, ye⟩ := HC.out W hSw); go_simp; (try with_reducible rfl)
              try simp only [Act.put, List.setIfInBounds_toArray, List.set_cons_zero, List.set_cons_succ]
              refine wpAnyH_take (i := 16) (oi := { dst := some 64, op := Op.binOp BinOp.lss 3 (Operand.tmp 63) (Operand.const (Value.int IntKind.i64 0)) 3, type := 4, pos := "tiers.go:263", after := #[{ on := 15, ground := Ground.data }, { on := 14, ground := Ground.guard }], guard := some (14, true) }) (v := ?vq17) rfl (by kernel_rfl) (by kernel_rfl) (by kernel_rfl) (fun _ _ _ h => h) (Or.inl ⟨by rfl, ?hq17⟩) (by assumption) ?rq17
              case hq17 => intro W hSw; (try obtain ⟨t1, f1, q0, q1, q2, q3, xe, ye⟩ := HC.out W hSw); go_simp; (try with_reducible rfl)
              try simp only [Act.put, List.setIfInBounds_toArray, List.set_cons_zero, List.set_cons_succ]
              refine wpAnyH_take (i := 17) (oi := { dst := some 65, op := Op.move (Operand.tmp 64), type := 4, pos := "tiers.go:263", after := #[{ on := 16, ground := Ground.data }, { on := 14, ground := Ground.chain }, { on := 14, ground := Ground.guard }], guard := some (14, true) }) (v := ?vq18) rfl (by kernel_rfl) (by kernel_rfl) (by kernel_rfl) (fun _ _ _ h => h) (Or.inl ⟨by rfl, ?hq18⟩) (by assumption) ?rq18
              case hq18 => intro W hSw; (try obtain ⟨t1, f1, q0, q1, q2, q3, xe, ye⟩ := HC.out W hSw); go_simp; (try with_reducible rfl)
              try simp only [Act.put, List.setIfInBounds_toArray, List.set_cons_zero, List.set_cons_succ]
              refine wpAnyH_take (i := 18) (oi := { dst := some 66, op := Op.load 29 (Operand.tmp 4), type := 29, pos := "tiers.go:263", after := #[{ on := 17, ground := Ground.guard }], guard := some (17, false) }) (v := undef) rfl (by kernel_rfl) (by kernel_rfl) (by kernel_rfl) (fun _ _ _ h => h) (Or.inr ⟨by rfl, rfl⟩) (by assumption) ?_
              try simp only [Act.put, List.setIfInBounds_toArray, List.set_cons_zero, List.set_cons_succ]
              refine wpAnyH_take (i := 19) (oi := { dst := some 67, op := Op.move (Operand.tmp 13), type := 3, pos := "tiers.go:263", after := #[{ on := 17, ground := Ground.guard }], guard := some (17, false) }) (v := undef) rfl (by kernel_rfl) (by kernel_rfl) (by kernel_rfl) (fun _ _ _ h => h) (Or.inr ⟨by rfl, rfl⟩) (by assumption) ?_
              try simp only [Act.put, List.setIfInBounds_toArray, List.set_cons_zero, List.set_cons_succ]
              refine wpAnyH_take (i := 20) (oi := { dst := some 68, op := Op.call { callee := Callee.value (Operand.func 27), args := #[Operand.tmp 66, Operand.tmp 67], argTypes := #[29, 3] }, type := 3, pos := "tiers.go:263", after := #[{ on := 18, ground := Ground.data }, { on := 19, ground := Ground.data }, { on := 17, ground := Ground.chain }, { on := 17, ground := Ground.guard }], guard := some (17, false) }) (v := undef) rfl (by kernel_rfl) (by kernel_rfl) (by kernel_rfl) (fun _ _ _ h => h) (Or.inr ⟨by rfl, rfl⟩) (by assumption) ?_
              try simp only [Act.put, List.setIfInBounds_toArray, List.set_cons_zero, List.set_cons_succ]
              refine wpAnyH_take (i := 21) (oi := { dst := some 69, op := Op.load 29 (Operand.tmp 4), type := 29, pos := "tiers.go:263", after := #[{ on := 17, ground := Ground.guard }], guard := some (17, false) }) (v := undef) rfl (by kernel_rfl) (by kernel_rfl) (by kernel_rfl) (fun _ _ _ h => h) (Or.inr ⟨by rfl, rfl⟩) (by assumption) ?_
              try simp only [Act.put, List.setIfInBounds_toArray, List.set_cons_zero, List.set_cons_succ]
              refine wpAnyH_take (i := 22) (oi := { dst := some 70, op := Op.move (Operand.tmp 12), type := 3, pos := "tiers.go:263", after := #[{ on := 17, ground := Ground.guard }], guard := some (17, false) }) (v := undef) rfl (by kernel_rfl) (by kernel_rfl) (by kernel_rfl) (fun _ _ _ h => h) (Or.inr ⟨by rfl, rfl⟩) (by assumption) ?_
              try simp only [Act.put, List.setIfInBounds_toArray, List.set_cons_zero, List.set_cons_succ]
              refine wpAnyH_take (i := 23) (oi := { dst := some 71, op := Op.call { callee := Callee.value (Operand.func 27), args := #[Operand.tmp 69, Operand.tmp 70], argTypes := #[29, 3] }, type := 3, pos := "tiers.go:263", after := #[{ on := 21, ground := Ground.data }, { on := 22, ground := Ground.data }, { on := 20, ground := Ground.chain }, { on := 17, ground := Ground.guard }], guard := some (17, false) }) (v := undef) rfl (by kernel_rfl) (by kernel_rfl) (by kernel_rfl) (fun _ _ _ h => h) (Or.inr ⟨by rfl, rfl⟩) (by assumption) ?_
              try simp only [Act.put, List.setIfInBounds_toArray, List.set_cons_zero, List.set_cons_succ]
              refine wpAnyH_take (i := 24) (oi := { dst := some 72, op := Op.binOp BinOp.leq 3 (Operand.tmp 68) (Operand.tmp 71) 3, type := 4, pos := "tiers.go:263", after := #[{ on := 20, ground := Ground.data }, { on := 23, ground := Ground.data }, { on := 17, ground := Ground.guard }], guard := some (17, false) }) (v := undef) rfl (by kernel_rfl) (by kernel_rfl) (by kernel_rfl) (fun _ _ _ h => h) (Or.inr ⟨by rfl, rfl⟩) (by assumption) ?_
              try simp only [Act.put, List.setIfInBounds_toArray, List.set_cons_zero, List.set_cons_succ]
              refine wpAnyH_take (i := 25) (oi := { dst := some 73, op := Op.pick (Operand.tmp 65) (Operand.const (Value.bool true)) (Operand.tmp 72), type := 4, pos := "tiers.go:263", after := #[{ on := 17, ground := Ground.data }, { on := 24, ground := Ground.data }, { on := 14, ground := Ground.guard }], guard := some (14, true) }) (v := ?vq19) rfl (by kernel_rfl) (by kernel_rfl) (by kernel_rfl) (fun _ _ _ h => h) (Or.inl ⟨by rfl, ?hq19⟩) (by assumption) ?rq19
              case hq19 => intro W hSw; (try obtain ⟨t1, f1, q0, q1, q2, q3, xe, ye⟩ := HC.out W hSw); go_simp; (try with_reducible rfl)
              try simp only [Act.put, List.setIfInBounds_toArray, List.set_cons_zero, List.set_cons_succ]
              refine wpAnyH_take (i := 26) (oi := { dst := some 74, op := Op.pick (Operand.tmp 62) (Operand.tmp 73) (Operand.const (Value.bool false)), type := 4, pos := "tiers.go:263", after := #[{ on := 14, ground := Ground.data }, { on := 25, ground := Ground.data }], guard := none }) (v := ?vq20) rfl (by kernel_rfl) (by kernel_rfl) (by kernel_rfl) (fun _ _ _ h => h) (Or.inl ⟨by rfl, ?hq20⟩) (by assumption) ?rq20
              case hq20 => intro W hSw; (try obtain ⟨t1, f1, q0, q1, q2, q3, xe, ye⟩ := HC.out W hSw); go_simp; (try with_reducible rfl)
              try simp only [Act.put, List.setIfInBounds_toArray, List.set_cons_zero, List.set_cons_succ]
              refine wpAnyH_done (by kernel_rfl) ?_ _
              clear t1 f1 q0 q1 q2 q3 xe ye
              go_wp2
              go_roundw
              case rel => exact ⟨g + 1, g, by omega, by go_num, rfl, HE.out.symm, Hfr.out.trans hHeld (fun _ h => h.elim)⟩
              case measure => simp [intOf]; omega
            · obtain ⟨o, rfl⟩ := Int.eq_ofNat_of_zero_le (show 0 ≤ best by omega)
              have hon : o < nf := by omega
              have hnb : decide ((o : Int) < 0) = false := decide_eq_false (by omega)
              rw [hnb, Bool.false_or, Int.toNat_natCast] at HS1
              obtain ⟨vg, hvg⟩ : ∃ v, fromV now lf fl g = v := ⟨_, rfl⟩
              obtain ⟨vo, hvo⟩ : ∃ v, fromV now lf fl o = v := ⟨_, rfl⟩
              rw [hvg, hvo] at HS1
              have HG := Lib.hid (HF1.out g hlg)
              have HO := Lib.hid (HF1.out o hon)
              rw [hvg] at HG
              rw [hvo] at HO
              by_cases hle : vg ≤ vo
              · rw [decide_eq_true hle, if_pos rfl] at HS1
                have HE := HS1
                have hleb : decide (vg ≤ vo) = true := decide_eq_true hle
                clear hvg hvo
                go_wp2_with fail
                clear t1 f1 q0 q1 q2 q3 xe ye
                obtain ⟨t1, f1, q0, q1, q2, q3, xe, ye⟩ := HC.out wr.drew F2
                refine wp_region_held_drew (S := fun W => Fr (fun _ => False) wr W) (by kernel_rfl) (F2) (fun hHeld => ?_)
                refine wpAnyH_take (i := 0) (oi := { dst := some 48, op := Op.fieldAddr 24 (Operand.tmp 5) 1, type := 0, pos := "tiers.go:263", after := #[], guard := none }) (v := ?vq21) rfl (by kernel_rfl) (by kernel_rfl) (by kernel_rfl) (fun _ _ _ h => h) (Or.inl ⟨by rfl, ?hq21⟩) (by assumption) ?rq21
                case hq21 => intro W hSw; (try obtain ⟨t1, f1, q0, q1, q2, q3, xe, ye⟩ := HC.out W hSw); go_simp; (try with_reducible rfl)
                try simp only [Act.put, List.setIfInBounds_toArray, List.set_cons_zero, List.set_cons_succ]
                refine wpAnyH_take (i := 1) (oi := { dst := some 49, op := Op.load 22 (Operand.tmp 48), type := 22, pos := "tiers.go:263", after := #[{ on := 0, ground := Ground.data }], guard := none }) (v := ?vq22) rfl (by kernel_rfl) (by kernel_rfl) (by kernel_rfl) (fun _ _ _ h => h) (Or.inl ⟨by rfl, ?hq22⟩) (by assumption) ?rq22
                case hq22 => intro W hSw; (try obtain ⟨t1, f1, q0, q1, q2, q3, xe, ye⟩ := HC.out W hSw); go_simp; (try with_reducible rfl)
                try simp only [Act.put, List.setIfInBounds_toArray, List.set_cons_zero, List.set_cons_succ]
                refine wpAnyH_take (i := 2) (oi := { dst := some 50, op := Op.move (Operand.tmp 11), type := 3, pos := "tiers.go:263", after := #[], guard := none }) (v := ?vq23) rfl (by kernel_rfl) (by kernel_rfl) (by kernel_rfl) (fun _ _ _ h => h) (Or.inl ⟨by rfl, ?hq23⟩) (by assumption) ?rq23
                case hq23 => intro W hSw; (try obtain ⟨t1, f1, q0, q1, q2, q3, xe, ye⟩ := HC.out W hSw); go_simp; (try with_reducible rfl)
                try simp only [Act.put, List.setIfInBounds_toArray, List.set_cons_zero, List.set_cons_succ]
                refine wpAnyH_take (i := 3) (oi := { dst := some 51, op := Op.indexAddr 22 (Operand.tmp 49) (Operand.tmp 50), type := 0, pos := "tiers.go:263", after := #[{ on := 1, ground := Ground.data }, { on := 2, ground := Ground.data }], guard := none }) (v := ?vq24) rfl (by kernel_rfl) (by kernel_rfl) (by kernel_rfl) (fun _ _ _ h => h) (Or.inl ⟨by rfl, ?hq24⟩) (by assumption) ?rq24
                case hq24 => intro W hSw; (try obtain ⟨t1, f1, q0, q1, q2, q3, xe, ye⟩ := HC.out W hSw); go_simp; (try with_reducible rfl)
                try simp only [Act.put, List.setIfInBounds_toArray, List.set_cons_zero, List.set_cons_succ]
                refine wpAnyH_take (i := 4) (oi := { dst := some 52, op := Op.fieldAddr 69 (Operand.tmp 51) 1, type := 0, pos := "tiers.go:263", after := #[{ on := 3, ground := Ground.data }], guard := none }) (v := ?vq25) rfl (by kernel_rfl) (by kernel_rfl) (by kernel_rfl) (fun _ _ _ h => h) (Or.inl ⟨by rfl, ?hq25⟩) (by assumption) ?rq25
                case hq25 => intro W hSw; (try obtain ⟨t1, f1, q0, q1, q2, q3, xe, ye⟩ := HC.out W hSw); go_simp; (try with_reducible rfl)
                try simp only [Act.put, List.setIfInBounds_toArray, List.set_cons_zero, List.set_cons_succ]
                refine wpAnyH_take (i := 5) (oi := { dst := some 53, op := Op.load 3 (Operand.tmp 52), type := 3, pos := "tiers.go:263", after := #[{ on := 4, ground := Ground.data }], guard := none }) (v := ?vq26) rfl (by kernel_rfl) (by kernel_rfl) (by kernel_rfl) (fun _ _ _ h => h) (Or.inl ⟨by rfl, ?hq26⟩) (by assumption) ?rq26
                case hq26 => intro W hSw; (try obtain ⟨t1, f1, q0, q1, q2, q3, xe, ye⟩ := HC.out W hSw); go_simp; (try with_reducible rfl)
                try simp only [Act.put, List.setIfInBounds_toArray, List.set_cons_zero, List.set_cons_succ]
                refine wpAnyH_take (i := 6) (oi := { dst := some 54, op := Op.fieldAddr 24 (Operand.tmp 3) 1, type := 0, pos := "tiers.go:263", after := #[], guard := none }) (v := ?vq27) rfl (by kernel_rfl) (by kernel_rfl) (by kernel_rfl) (fun _ _ _ h => h) (Or.inl ⟨by rfl, ?hq27⟩) (by assumption) ?rq27
                case hq27 => intro W hSw; (try obtain ⟨t1, f1, q0, q1, q2, q3, xe, ye⟩ := HC.out W hSw); go_simp; (try with_reducible rfl)
                try simp only [Act.put, List.setIfInBounds_toArray, List.set_cons_zero, List.set_cons_succ]
                refine wpAnyH_take (i := 7) (oi := { dst := some 55, op := Op.load 22 (Operand.tmp 54), type := 22, pos := "tiers.go:263", after := #[{ on := 6, ground := Ground.data }], guard := none }) (v := ?vq28) rfl (by kernel_rfl) (by kernel_rfl) (by kernel_rfl) (fun _ _ _ h => h) (Or.inl ⟨by rfl, ?hq28⟩) (by assumption) ?rq28
                case hq28 => intro W hSw; (try obtain ⟨t1, f1, q0, q1, q2, q3, xe, ye⟩ := HC.out W hSw); go_simp; (try with_reducible rfl)
                try simp only [Act.put, List.setIfInBounds_toArray, List.set_cons_zero, List.set_cons_succ]
                refine wpAnyH_take (i := 8) (oi := { dst := some 56, op := Op.move (Operand.tmp 13), type := 3, pos := "tiers.go:263", after := #[], guard := none }) (v := ?vq29) rfl (by kernel_rfl) (by kernel_rfl) (by kernel_rfl) (fun _ _ _ h => h) (Or.inl ⟨by rfl, ?hq29⟩) (by assumption) ?rq29
                case hq29 => intro W hSw; (try obtain ⟨t1, f1, q0, q1, q2, q3, xe, ye⟩ := HC.out W hSw); go_simp; (try with_reducible rfl)
                try simp only [Act.put, List.setIfInBounds_toArray, List.set_cons_zero, List.set_cons_succ]
                refine wpAnyH_take (i := 9) (oi := { dst := some 57, op := Op.indexAddr 22 (Operand.tmp 55) (Operand.tmp 56), type := 0, pos := "tiers.go:263", after := #[{ on := 7, ground := Ground.data }, { on := 8, ground := Ground.data }], guard := none }) (v := ?vq30) rfl (by kernel_rfl) (by kernel_rfl) (by kernel_rfl) (fun _ _ _ h => h) (Or.inl ⟨by rfl, ?hq30⟩) (by assumption) ?rq30
                case hq30 => intro W hSw; (try obtain ⟨t1, f1, q0, q1, q2, q3, xe, ye⟩ := HC.out W hSw); go_simp; (try with_reducible rfl)
                try simp only [Act.put, List.setIfInBounds_toArray, List.set_cons_zero, List.set_cons_succ]
                refine wpAnyH_take (i := 10) (oi := { dst := some 58, op := Op.fieldAddr 69 (Operand.tmp 57) 1, type := 0, pos := "tiers.go:263", after := #[{ on := 9, ground := Ground.data }], guard := none }) (v := ?vq31) rfl (by kernel_rfl) (by kernel_rfl) (by kernel_rfl) (fun _ _ _ h => h) (Or.inl ⟨by rfl, ?hq31⟩) (by assumption) ?rq31
                case hq31 => intro W hSw; (try obtain ⟨t1, f1, q0, q1, q2, q3, xe, ye⟩ := HC.out W hSw); go_simp; (try with_reducible rfl)
                try simp only [Act.put, List.setIfInBounds_toArray, List.set_cons_zero, List.set_cons_succ]
                refine wpAnyH_take (i := 11) (oi := { dst := some 59, op := Op.load 3 (Operand.tmp 58), type := 3, pos := "tiers.go:263", after := #[{ on := 10, ground := Ground.data }], guard := none }) (v := ?vq32) rfl (by kernel_rfl) (by kernel_rfl) (by kernel_rfl) (fun _ _ _ h => h) (Or.inl ⟨by rfl, ?hq32⟩) (by assumption) ?rq32
                case hq32 => intro W hSw; (try obtain ⟨t1, f1, q0, q1, q2, q3, xe, ye⟩ := HC.out W hSw); go_simp; (try with_reducible rfl)
                try simp only [Act.put, List.setIfInBounds_toArray, List.set_cons_zero, List.set_cons_succ]
                refine wpAnyH_take (i := 12) (oi := { dst := some 60, op := Op.binOp BinOp.rem 3 (Operand.tmp 53) (Operand.tmp 59) 3, type := 3, pos := "tiers.go:263", after := #[{ on := 5, ground := Ground.data }, { on := 11, ground := Ground.data }], guard := none }) (v := ?vq33) rfl (by kernel_rfl) (by kernel_rfl) (by kernel_rfl) (fun _ _ _ h => h) (Or.inl ⟨by rfl, ?hq33⟩) (by assumption) ?rq33
                case hq33 => intro W hSw; (try obtain ⟨t1, f1, q0, q1, q2, q3, xe, ye⟩ := HC.out W hSw); go_simp; (try with_reducible rfl)
                try simp only [Act.put, List.setIfInBounds_toArray, List.set_cons_zero, List.set_cons_succ]
                refine wpAnyH_take (i := 13) (oi := { dst := some 61, op := Op.binOp BinOp.eql 3 (Operand.tmp 60) (Operand.const (Value.int IntKind.i64 0)) 3, type := 4, pos := "tiers.go:263", after := #[{ on := 12, ground := Ground.data }], guard := none }) (v := ?vq34) rfl (by kernel_rfl) (by kernel_rfl) (by kernel_rfl) (fun _ _ _ h => h) (Or.inl ⟨by rfl, ?hq34⟩) (by assumption) ?rq34
                case hq34 => intro W hSw; (try obtain ⟨t1, f1, q0, q1, q2, q3, xe, ye⟩ := HC.out W hSw); go_simp; (try with_reducible rfl)
                try simp only [Act.put, List.setIfInBounds_toArray, List.set_cons_zero, List.set_cons_succ]
                refine wpAnyH_take (i := 14) (oi := { dst := some 62, op := Op.move (Operand.tmp 61), type := 4, pos := "tiers.go:263", after := #[{ on := 13, ground := Ground.data }], guard := none }) (v := ?vq35) rfl (by kernel_rfl) (by kernel_rfl) (by kernel_rfl) (fun _ _ _ h => h) (Or.inl ⟨by rfl, ?hq35⟩) (by assumption) ?rq35
                case hq35 => intro W hSw; (try obtain ⟨t1, f1, q0, q1, q2, q3, xe, ye⟩ := HC.out W hSw); go_simp; (try with_reducible rfl)
                try simp only [Act.put, List.setIfInBounds_toArray, List.set_cons_zero, List.set_cons_succ]
                refine wpAnyH_take (i := 15) (oi := { dst := some 63, op := Op.move (Operand.tmp 12), type := 3, pos := "tiers.go:263", after := #[{ on := 14, ground := Ground.guard }], guard := some (14, true) }) (v := ?vq36) rfl (by kernel_rfl) (by kernel_rfl) (by kernel_rfl) (fun _ _ _ h => h) (Or.inl ⟨by rfl, ?hq36⟩) (by assumption) ?rq36
                case hq36 => intro W hSw; (try obtain ⟨t1, f1, q0, q1, q2, q3, xe, ye⟩ := HC.out W hSw); go_simp; (try with_reducible rfl)
                try simp only [Act.put, List.setIfInBounds_toArray, List.set_cons_zero, List.set_cons_succ]
                refine wpAnyH_take (i := 16) (oi := { dst := some 64, op := Op.binOp BinOp.lss 3 (Operand.tmp 63) (Operand.const (Value.int IntKind.i64 0)) 3, type := 4, pos := "tiers.go:263", after := #[{ on := 15, ground := Ground.data }, { on := 14, ground := Ground.guard }], guard := some (14, true) }) (v := ?vq37) rfl (by kernel_rfl) (by kernel_rfl) (by kernel_rfl) (fun _ _ _ h => h) (Or.inl ⟨by rfl, ?hq37⟩) (by assumption) ?rq37
                case hq37 => intro W hSw; (try obtain ⟨t1, f1, q0, q1, q2, q3, xe, ye⟩ := HC.out W hSw); go_simp; (try with_reducible rfl)
                try simp only [Act.put, List.setIfInBounds_toArray, List.set_cons_zero, List.set_cons_succ]
                refine wpAnyH_take (i := 17) (oi := { dst := some 65, op := Op.move (Operand.tmp 64), type := 4, pos := "tiers.go:263", after := #[{ on := 16, ground := Ground.data }, { on := 14, ground := Ground.chain }, { on := 14, ground := Ground.guard }], guard := some (14, true) }) (v := ?vq38) rfl (by kernel_rfl) (by kernel_rfl) (by kernel_rfl) (fun _ _ _ h => h) (Or.inl ⟨by rfl, ?hq38⟩) (by assumption) ?rq38
                case hq38 => intro W hSw; (try obtain ⟨t1, f1, q0, q1, q2, q3, xe, ye⟩ := HC.out W hSw); go_simp; (try with_reducible rfl)
                try simp only [Act.put, List.setIfInBounds_toArray, List.set_cons_zero, List.set_cons_succ]
                refine wpAnyH_take (i := 18) (oi := { dst := some 66, op := Op.load 29 (Operand.tmp 4), type := 29, pos := "tiers.go:263", after := #[{ on := 17, ground := Ground.guard }], guard := some (17, false) }) (v := ?vq39) rfl (by kernel_rfl) (by kernel_rfl) (by kernel_rfl) (fun _ _ _ h => h) (Or.inl ⟨by rfl, ?hq39⟩) (by assumption) ?rq39
                case hq39 => intro W hSw; (try obtain ⟨t1, f1, q0, q1, q2, q3, xe, ye⟩ := HC.out W hSw); go_simp; (try with_reducible rfl)
                try simp only [Act.put, List.setIfInBounds_toArray, List.set_cons_zero, List.set_cons_succ]
                refine wpAnyH_take (i := 19) (oi := { dst := some 67, op := Op.move (Operand.tmp 13), type := 3, pos := "tiers.go:263", after := #[{ on := 17, ground := Ground.guard }], guard := some (17, false) }) (v := ?vq40) rfl (by kernel_rfl) (by kernel_rfl) (by kernel_rfl) (fun _ _ _ h => h) (Or.inl ⟨by rfl, ?hq40⟩) (by assumption) ?rq40
                case hq40 => intro W hSw; (try obtain ⟨t1, f1, q0, q1, q2, q3, xe, ye⟩ := HC.out W hSw); go_simp; (try with_reducible rfl)
                try simp only [Act.put, List.setIfInBounds_toArray, List.set_cons_zero, List.set_cons_succ]
                refine wpAnyH_take (i := 21) (oi := { dst := some 69, op := Op.load 29 (Operand.tmp 4), type := 29, pos := "tiers.go:263", after := #[{ on := 17, ground := Ground.guard }], guard := some (17, false) }) (v := ?vq41) rfl (by kernel_rfl) (by kernel_rfl) (by kernel_rfl) (fun _ _ _ h => h) (Or.inl ⟨by rfl, ?hq41⟩) (by assumption) ?rq41
                case hq41 => intro W hSw; (try obtain ⟨t1, f1, q0, q1, q2, q3, xe, ye⟩ := HC.out W hSw); go_simp; (try with_reducible rfl)
                try simp only [Act.put, List.setIfInBounds_toArray, List.set_cons_zero, List.set_cons_succ]
                refine wpAnyH_take (i := 22) (oi := { dst := some 70, op := Op.move (Operand.tmp 12), type := 3, pos := "tiers.go:263", after := #[{ on := 17, ground := Ground.guard }], guard := some (17, false) }) (v := ?vq42) rfl (by kernel_rfl) (by kernel_rfl) (by kernel_rfl) (fun _ _ _ h => h) (Or.inl ⟨by rfl, ?hq42⟩) (by assumption) ?rq42
                case hq42 => intro W hSw; (try obtain ⟨t1, f1, q0, q1, q2, q3, xe, ye⟩ := HC.out W hSw); go_simp; (try with_reducible rfl)
                try simp only [Act.put, List.setIfInBounds_toArray, List.set_cons_zero, List.set_cons_succ]
                refine wpAnyH_ready (rs := [20]) (by kernel_rfl) (by simp) ?_
                refine AllReadyH.cons (o := { dst := some 68, op := Op.call { callee := Callee.value (Operand.func 27), args := #[Operand.tmp 66, Operand.tmp 67], argTypes := #[29, 3] }, type := 3, pos := "tiers.go:263", after := #[{ on := 18, ground := Ground.data }, { on := 19, ground := Ground.data }, { on := 17, ground := Ground.chain }, { on := 17, ground := Ground.guard }], guard := some (17, false) }) rfl (fun K hK => ?_) AllReadyH.nil
                go_simp
                go_wp2_with (first | (go_at_call_of 27 (Value.int IntKind.i64 (g : Int)); refine (HG.out _ hHeld).mono ?_; rintro r w5 ⟨rfl, f5⟩))
                refine hK.out _ _ (f5) (fun hHeld => ?_)
                clear hK K
                try simp only [Act.put, List.setIfInBounds_toArray, List.set_cons_zero, List.set_cons_succ]
                refine wpAnyH_ready (rs := [23]) (by kernel_rfl) (by simp) ?_
                refine AllReadyH.cons (o := { dst := some 71, op := Op.call { callee := Callee.value (Operand.func 27), args := #[Operand.tmp 69, Operand.tmp 70], argTypes := #[29, 3] }, type := 3, pos := "tiers.go:263", after := #[{ on := 21, ground := Ground.data }, { on := 22, ground := Ground.data }, { on := 20, ground := Ground.chain }, { on := 17, ground := Ground.guard }], guard := some (17, false) }) rfl (fun K hK => ?_) AllReadyH.nil
                go_simp
                go_wp2_with (first | (go_at_call_of 27 (Value.int IntKind.i64 (o : Int)); refine (HO.out _ hHeld).mono ?_; rintro r w6 ⟨rfl, f6⟩))
                refine hK.out _ _ (f6) (fun hHeld => ?_)
                clear hK K
                try simp only [Act.put, List.setIfInBounds_toArray, List.set_cons_zero, List.set_cons_succ]
                refine wpAnyH_take (i := 24) (oi := { dst := some 72, op := Op.binOp BinOp.leq 3 (Operand.tmp 68) (Operand.tmp 71) 3, type := 4, pos := "tiers.go:263", after := #[{ on := 20, ground := Ground.data }, { on := 23, ground := Ground.data }, { on := 17, ground := Ground.guard }], guard := some (17, false) }) (v := ?vq43) rfl (by kernel_rfl) (by kernel_rfl) (by kernel_rfl) (fun _ _ _ h => h) (Or.inl ⟨by rfl, ?hq43⟩) (by assumption) ?rq43
                case hq43 => intro W hSw; (try obtain ⟨t1, f1, q0, q1, q2, q3, xe, ye⟩ := HC.out W hSw); go_simp; (try with_reducible rfl)
                try simp only [Act.put, List.setIfInBounds_toArray, List.set_cons_zero, List.set_cons_succ]
                refine wpAnyH_take (i := 25) (oi := { dst := some 73, op := Op.pick (Operand.tmp 65) (Operand.const (Value.bool true)) (Operand.tmp 72), type := 4, pos := "tiers.go:263", after := #[{ on := 17, ground := Ground.data }, { on := 24, ground := Ground.data }, { on := 14, ground := Ground.guard }], guard := some (14, true) }) (v := ?vq44) rfl (by kernel_rfl) (by kernel_rfl) (by kernel_rfl) (fun _ _ _ h => h) (Or.inl ⟨by rfl, ?hq44⟩) (by assumption) ?rq44
                case hq44 => intro W hSw; (try obtain ⟨t1, f1, q0, q1, q2, q3, xe, ye⟩ := HC.out W hSw); go_simp; (try with_reducible rfl)
                try simp only [Act.put, List.setIfInBounds_toArray, List.set_cons_zero, List.set_cons_succ]
                refine wpAnyH_take (i := 26) (oi := { dst := some 74, op := Op.pick (Operand.tmp 62) (Operand.tmp 73) (Operand.const (Value.bool false)), type := 4, pos := "tiers.go:263", after := #[{ on := 14, ground := Ground.data }, { on := 25, ground := Ground.data }], guard := none }) (v := ?vq45) rfl (by kernel_rfl) (by kernel_rfl) (by kernel_rfl) (fun _ _ _ h => h) (Or.inl ⟨by rfl, ?hq45⟩) (by assumption) ?rq45
                case hq45 => intro W hSw; (try obtain ⟨t1, f1, q0, q1, q2, q3, xe, ye⟩ := HC.out W hSw); go_simp; (try with_reducible rfl)
                try simp only [Act.put, List.setIfInBounds_toArray, List.set_cons_zero, List.set_cons_succ]
                refine wpAnyH_done (by kernel_rfl) ?_ _
                clear t1 f1 q0 q1 q2 q3 xe ye
                go_wp2
                go_roundw
                case rel => exact ⟨g + 1, g, by omega, by go_num, rfl, HE.out.symm, Hfr.out.trans hHeld (fun _ h => h.elim)⟩
                case measure => simp [intOf]; omega
              · rw [decide_eq_false hle, if_neg (by simp)] at HS1
                have HE := HS1
                have hleb : decide (vg ≤ vo) = false := decide_eq_false hle
                clear hvg hvo
                go_wp2_with fail
                clear t1 f1 q0 q1 q2 q3 xe ye
                obtain ⟨t1, f1, q0, q1, q2, q3, xe, ye⟩ := HC.out wr.drew F2
                refine wp_region_held_drew (S := fun W => Fr (fun _ => False) wr W) (by kernel_rfl) (F2) (fun hHeld => ?_)
                refine wpAnyH_take (i := 0) (oi := { dst := some 48, op := Op.fieldAddr 24 (Operand.tmp 5) 1, type := 0, pos := "tiers.go:263", after := #[], guard := none }) (v := ?vq46) rfl (by kernel_rfl) (by kernel_rfl) (by kernel_rfl) (fun _ _ _ h => h) (Or.inl ⟨by rfl, ?hq46⟩) (by assumption) ?rq46
                case hq46 => intro W hSw; (try obtain ⟨t1, f1, q0, q1, q2, q3, xe, ye⟩ := HC.out W hSw); go_simp; (try with_reducible rfl)
                try simp only [Act.put, List.setIfInBounds_toArray, List.set_cons_zero, List.set_cons_succ]
                refine wpAnyH_take (i := 1) (oi := { dst := some 49, op := Op.load 22 (Operand.tmp 48), type := 22, pos := "tiers.go:263", after := #[{ on := 0, ground := Ground.data }], guard := none }) (v := ?vq47) rfl (by kernel_rfl) (by kernel_rfl) (by kernel_rfl) (fun _ _ _ h => h) (Or.inl ⟨by rfl, ?hq47⟩) (by assumption) ?rq47
                case hq47 => intro W hSw; (try obtain ⟨t1, f1, q0, q1, q2, q3, xe, ye⟩ := HC.out W hSw); go_simp; (try with_reducible rfl)
                try simp only [Act.put, List.setIfInBounds_toArray, List.set_cons_zero, List.set_cons_succ]
                refine wpAnyH_take (i := 2) (oi := { dst := some 50, op := Op.move (Operand.tmp 11), type := 3, pos := "tiers.go:263", after := #[], guard := none }) (v := ?vq48) rfl (by kernel_rfl) (by kernel_rfl) (by kernel_rfl) (fun _ _ _ h => h) (Or.inl ⟨by rfl, ?hq48⟩) (by assumption) ?rq48
                case hq48 => intro W hSw; (try obtain ⟨t1, f1, q0, q1, q2, q3, xe, ye⟩ := HC.out W hSw); go_simp; (try with_reducible rfl)
                try simp only [Act.put, List.setIfInBounds_toArray, List.set_cons_zero, List.set_cons_succ]
                refine wpAnyH_take (i := 3) (oi := { dst := some 51, op := Op.indexAddr 22 (Operand.tmp 49) (Operand.tmp 50), type := 0, pos := "tiers.go:263", after := #[{ on := 1, ground := Ground.data }, { on := 2, ground := Ground.data }], guard := none }) (v := ?vq49) rfl (by kernel_rfl) (by kernel_rfl) (by kernel_rfl) (fun _ _ _ h => h) (Or.inl ⟨by rfl, ?hq49⟩) (by assumption) ?rq49
                case hq49 => intro W hSw; (try obtain ⟨t1, f1, q0, q1, q2, q3, xe, ye⟩ := HC.out W hSw); go_simp; (try with_reducible rfl)
                try simp only [Act.put, List.setIfInBounds_toArray, List.set_cons_zero, List.set_cons_succ]
                refine wpAnyH_take (i := 4) (oi := { dst := some 52, op := Op.fieldAddr 69 (Operand.tmp 51) 1, type := 0, pos := "tiers.go:263", after := #[{ on := 3, ground := Ground.data }], guard := none }) (v := ?vq50) rfl (by kernel_rfl) (by kernel_rfl) (by kernel_rfl) (fun _ _ _ h => h) (Or.inl ⟨by rfl, ?hq50⟩) (by assumption) ?rq50
                case hq50 => intro W hSw; (try obtain ⟨t1, f1, q0, q1, q2, q3, xe, ye⟩ := HC.out W hSw); go_simp; (try with_reducible rfl)
                try simp only [Act.put, List.setIfInBounds_toArray, List.set_cons_zero, List.set_cons_succ]
                refine wpAnyH_take (i := 5) (oi := { dst := some 53, op := Op.load 3 (Operand.tmp 52), type := 3, pos := "tiers.go:263", after := #[{ on := 4, ground := Ground.data }], guard := none }) (v := ?vq51) rfl (by kernel_rfl) (by kernel_rfl) (by kernel_rfl) (fun _ _ _ h => h) (Or.inl ⟨by rfl, ?hq51⟩) (by assumption) ?rq51
                case hq51 => intro W hSw; (try obtain ⟨t1, f1, q0, q1, q2, q3, xe, ye⟩ := HC.out W hSw); go_simp; (try with_reducible rfl)
                try simp only [Act.put, List.setIfInBounds_toArray, List.set_cons_zero, List.set_cons_succ]
                refine wpAnyH_take (i := 6) (oi := { dst := some 54, op := Op.fieldAddr 24 (Operand.tmp 3) 1, type := 0, pos := "tiers.go:263", after := #[], guard := none }) (v := ?vq52) rfl (by kernel_rfl) (by kernel_rfl) (by kernel_rfl) (fun _ _ _ h => h) (Or.inl ⟨by rfl, ?hq52⟩) (by assumption) ?rq52
                case hq52 => intro W hSw; (try obtain ⟨t1, f1, q0, q1, q2, q3, xe, ye⟩ := HC.out W hSw); go_simp; (try with_reducible rfl)
                try simp only [Act.put, List.setIfInBounds_toArray, List.set_cons_zero, List.set_cons_succ]
                refine wpAnyH_take (i := 7) (oi := { dst := some 55, op := Op.load 22 (Operand.tmp 54), type := 22, pos := "tiers.go:263", after := #[{ on := 6, ground := Ground.data }], guard := none }) (v := ?vq53) rfl (by kernel_rfl) (by kernel_rfl) (by kernel_rfl) (fun _ _ _ h => h) (Or.inl ⟨by rfl, ?hq53⟩) (by assumption) ?rq53
                case hq53 => intro W hSw; (try obtain ⟨t1, f1, q0, q1, q2, q3, xe, ye⟩ := HC.out W hSw); go_simp; (try with_reducible rfl)
                try simp only [Act.put, List.setIfInBounds_toArray, List.set_cons_zero, List.set_cons_succ]
                refine wpAnyH_take (i := 8) (oi := { dst := some 56, op := Op.move (Operand.tmp 13), type := 3, pos := "tiers.go:263", after := #[], guard := none }) (v := ?vq54) rfl (by kernel_rfl) (by kernel_rfl) (by kernel_rfl) (fun _ _ _ h => h) (Or.inl ⟨by rfl, ?hq54⟩) (by assumption) ?rq54
                case hq54 => intro W hSw; (try obtain ⟨t1, f1, q0, q1, q2, q3, xe, ye⟩ := HC.out W hSw); go_simp; (try with_reducible rfl)
                try simp only [Act.put, List.setIfInBounds_toArray, List.set_cons_zero, List.set_cons_succ]
                refine wpAnyH_take (i := 9) (oi := { dst := some 57, op := Op.indexAddr 22 (Operand.tmp 55) (Operand.tmp 56), type := 0, pos := "tiers.go:263", after := #[{ on := 7, ground := Ground.data }, { on := 8, ground := Ground.data }], guard := none }) (v := ?vq55) rfl (by kernel_rfl) (by kernel_rfl) (by kernel_rfl) (fun _ _ _ h => h) (Or.inl ⟨by rfl, ?hq55⟩) (by assumption) ?rq55
                case hq55 => intro W hSw; (try obtain ⟨t1, f1, q0, q1, q2, q3, xe, ye⟩ := HC.out W hSw); go_simp; (try with_reducible rfl)
                try simp only [Act.put, List.setIfInBounds_toArray, List.set_cons_zero, List.set_cons_succ]
                refine wpAnyH_take (i := 10) (oi := { dst := some 58, op := Op.fieldAddr 69 (Operand.tmp 57) 1, type := 0, pos := "tiers.go:263", after := #[{ on := 9, ground := Ground.data }], guard := none }) (v := ?vq56) rfl (by kernel_rfl) (by kernel_rfl) (by kernel_rfl) (fun _ _ _ h => h) (Or.inl ⟨by rfl, ?hq56⟩) (by assumption) ?rq56
                case hq56 => intro W hSw; (try obtain ⟨t1, f1, q0, q1, q2, q3, xe, ye⟩ := HC.out W hSw); go_simp; (try with_reducible rfl)
                try simp only [Act.put, List.setIfInBounds_toArray, List.set_cons_zero, List.set_cons_succ]
                refine wpAnyH_take (i := 11) (oi := { dst := some 59, op := Op.load 3 (Operand.tmp 58), type := 3, pos := "tiers.go:263", after := #[{ on := 10, ground := Ground.data }], guard := none }) (v := ?vq57) rfl (by kernel_rfl) (by kernel_rfl) (by kernel_rfl) (fun _ _ _ h => h) (Or.inl ⟨by rfl, ?hq57⟩) (by assumption) ?rq57
                case hq57 => intro W hSw; (try obtain ⟨t1, f1, q0, q1, q2, q3, xe, ye⟩ := HC.out W hSw); go_simp; (try with_reducible rfl)
                try simp only [Act.put, List.setIfInBounds_toArray, List.set_cons_zero, List.set_cons_succ]
                refine wpAnyH_take (i := 12) (oi := { dst := some 60, op := Op.binOp BinOp.rem 3 (Operand.tmp 53) (Operand.tmp 59) 3, type := 3, pos := "tiers.go:263", after := #[{ on := 5, ground := Ground.data }, { on := 11, ground := Ground.data }], guard := none }) (v := ?vq58) rfl (by kernel_rfl) (by kernel_rfl) (by kernel_rfl) (fun _ _ _ h => h) (Or.inl ⟨by rfl, ?hq58⟩) (by assumption) ?rq58
                case hq58 => intro W hSw; (try obtain ⟨t1, f1, q0, q1, q2, q3, xe, ye⟩ := HC.out W hSw); go_simp; (try with_reducible rfl)
                try simp only [Act.put, List.setIfInBounds_toArray, List.set_cons_zero, List.set_cons_succ]
                refine wpAnyH_take (i := 13) (oi := { dst := some 61, op := Op.binOp BinOp.eql 3 (Operand.tmp 60) (Operand.const (Value.int IntKind.i64 0)) 3, type := 4, pos := "tiers.go:263", after := #[{ on := 12, ground := Ground.data }], guard := none }) (v := ?vq59) rfl (by kernel_rfl) (by kernel_rfl) (by kernel_rfl) (fun _ _ _ h => h) (Or.inl ⟨by rfl, ?hq59⟩) (by assumption) ?rq59
                case hq59 => intro W hSw; (try obtain ⟨t1, f1, q0, q1, q2, q3, xe, ye⟩ := HC.out W hSw); go_simp; (try with_reducible rfl)
                try simp only [Act.put, List.setIfInBounds_toArray, List.set_cons_zero, List.set_cons_succ]
                refine wpAnyH_take (i := 14) (oi := { dst := some 62, op := Op.move (Operand.tmp 61), type := 4, pos := "tiers.go:263", after := #[{ on := 13, ground := Ground.data }], guard := none }) (v := ?vq60) rfl (by kernel_rfl) (by kernel_rfl) (by kernel_rfl) (fun _ _ _ h => h) (Or.inl ⟨by rfl, ?hq60⟩) (by assumption) ?rq60
                case hq60 => intro W hSw; (try obtain ⟨t1, f1, q0, q1, q2, q3, xe, ye⟩ := HC.out W hSw); go_simp; (try with_reducible rfl)
                try simp only [Act.put, List.setIfInBounds_toArray, List.set_cons_zero, List.set_cons_succ]
                refine wpAnyH_take (i := 15) (oi := { dst := some 63, op := Op.move (Operand.tmp 12), type := 3, pos := "tiers.go:263", after := #[{ on := 14, ground := Ground.guard }], guard := some (14, true) }) (v := ?vq61) rfl (by kernel_rfl) (by kernel_rfl) (by kernel_rfl) (fun _ _ _ h => h) (Or.inl ⟨by rfl, ?hq61⟩) (by assumption) ?rq61
                case hq61 => intro W hSw; (try obtain ⟨t1, f1, q0, q1, q2, q3, xe, ye⟩ := HC.out W hSw); go_simp; (try with_reducible rfl)
                try simp only [Act.put, List.setIfInBounds_toArray, List.set_cons_zero, List.set_cons_succ]
                refine wpAnyH_take (i := 16) (oi := { dst := some 64, op := Op.binOp BinOp.lss 3 (Operand.tmp 63) (Operand.const (Value.int IntKind.i64 0)) 3, type := 4, pos := "tiers.go:263", after := #[{ on := 15, ground := Ground.data }, { on := 14, ground := Ground.guard }], guard := some (14, true) }) (v := ?vq62) rfl (by kernel_rfl) (by kernel_rfl) (by kernel_rfl) (fun _ _ _ h => h) (Or.inl ⟨by rfl, ?hq62⟩) (by assumption) ?rq62
                case hq62 => intro W hSw; (try obtain ⟨t1, f1, q0, q1, q2, q3, xe, ye⟩ := HC.out W hSw); go_simp; (try with_reducible rfl)
                try simp only [Act.put, List.setIfInBounds_toArray, List.set_cons_zero, List.set_cons_succ]
                refine wpAnyH_take (i := 17) (oi := { dst := some 65, op := Op.move (Operand.tmp 64), type := 4, pos := "tiers.go:263", after := #[{ on := 16, ground := Ground.data }, { on := 14, ground := Ground.chain }, { on := 14, ground := Ground.guard }], guard := some (14, true) }) (v := ?vq63) rfl (by kernel_rfl) (by kernel_rfl) (by kernel_rfl) (fun _ _ _ h => h) (Or.inl ⟨by rfl, ?hq63⟩) (by assumption) ?rq63
                case hq63 => intro W hSw; (try obtain ⟨t1, f1, q0, q1, q2, q3, xe, ye⟩ := HC.out W hSw); go_simp; (try with_reducible rfl)
                try simp only [Act.put, List.setIfInBounds_toArray, List.set_cons_zero, List.set_cons_succ]
                refine wpAnyH_take (i := 18) (oi := { dst := some 66, op := Op.load 29 (Operand.tmp 4), type := 29, pos := "tiers.go:263", after := #[{ on := 17, ground := Ground.guard }], guard := some (17, false) }) (v := ?vq64) rfl (by kernel_rfl) (by kernel_rfl) (by kernel_rfl) (fun _ _ _ h => h) (Or.inl ⟨by rfl, ?hq64⟩) (by assumption) ?rq64
                case hq64 => intro W hSw; (try obtain ⟨t1, f1, q0, q1, q2, q3, xe, ye⟩ := HC.out W hSw); go_simp; (try with_reducible rfl)
                try simp only [Act.put, List.setIfInBounds_toArray, List.set_cons_zero, List.set_cons_succ]
                refine wpAnyH_take (i := 19) (oi := { dst := some 67, op := Op.move (Operand.tmp 13), type := 3, pos := "tiers.go:263", after := #[{ on := 17, ground := Ground.guard }], guard := some (17, false) }) (v := ?vq65) rfl (by kernel_rfl) (by kernel_rfl) (by kernel_rfl) (fun _ _ _ h => h) (Or.inl ⟨by rfl, ?hq65⟩) (by assumption) ?rq65
                case hq65 => intro W hSw; (try obtain ⟨t1, f1, q0, q1, q2, q3, xe, ye⟩ := HC.out W hSw); go_simp; (try with_reducible rfl)
                try simp only [Act.put, List.setIfInBounds_toArray, List.set_cons_zero, List.set_cons_succ]
                refine wpAnyH_take (i := 21) (oi := { dst := some 69, op := Op.load 29 (Operand.tmp 4), type := 29, pos := "tiers.go:263", after := #[{ on := 17, ground := Ground.guard }], guard := some (17, false) }) (v := ?vq66) rfl (by kernel_rfl) (by kernel_rfl) (by kernel_rfl) (fun _ _ _ h => h) (Or.inl ⟨by rfl, ?hq66⟩) (by assumption) ?rq66
                case hq66 => intro W hSw; (try obtain ⟨t1, f1, q0, q1, q2, q3, xe, ye⟩ := HC.out W hSw); go_simp; (try with_reducible rfl)
                try simp only [Act.put, List.setIfInBounds_toArray, List.set_cons_zero, List.set_cons_succ]
                refine wpAnyH_take (i := 22) (oi := { dst := some 70, op := Op.move (Operand.tmp 12), type := 3, pos := "tiers.go:263", after := #[{ on := 17, ground := Ground.guard }], guard := some (17, false) }) (v := ?vq67) rfl (by kernel_rfl) (by kernel_rfl) (by kernel_rfl) (fun _ _ _ h => h) (Or.inl ⟨by rfl, ?hq67⟩) (by assumption) ?rq67
                case hq67 => intro W hSw; (try obtain ⟨t1, f1, q0, q1, q2, q3, xe, ye⟩ := HC.out W hSw); go_simp; (try with_reducible rfl)
                try simp only [Act.put, List.setIfInBounds_toArray, List.set_cons_zero, List.set_cons_succ]
                refine wpAnyH_ready (rs := [20]) (by kernel_rfl) (by simp) ?_
                refine AllReadyH.cons (o := { dst := some 68, op := Op.call { callee := Callee.value (Operand.func 27), args := #[Operand.tmp 66, Operand.tmp 67], argTypes := #[29, 3] }, type := 3, pos := "tiers.go:263", after := #[{ on := 18, ground := Ground.data }, { on := 19, ground := Ground.data }, { on := 17, ground := Ground.chain }, { on := 17, ground := Ground.guard }], guard := some (17, false) }) rfl (fun K hK => ?_) AllReadyH.nil
                go_simp
                go_wp2_with (first | (go_at_call_of 27 (Value.int IntKind.i64 (g : Int)); refine (HG.out _ hHeld).mono ?_; rintro r w5 ⟨rfl, f5⟩))
                refine hK.out _ _ (f5) (fun hHeld => ?_)
                clear hK K
                try simp only [Act.put, List.setIfInBounds_toArray, List.set_cons_zero, List.set_cons_succ]
                refine wpAnyH_ready (rs := [23]) (by kernel_rfl) (by simp) ?_
                refine AllReadyH.cons (o := { dst := some 71, op := Op.call { callee := Callee.value (Operand.func 27), args := #[Operand.tmp 69, Operand.tmp 70], argTypes := #[29, 3] }, type := 3, pos := "tiers.go:263", after := #[{ on := 21, ground := Ground.data }, { on := 22, ground := Ground.data }, { on := 20, ground := Ground.chain }, { on := 17, ground := Ground.guard }], guard := some (17, false) }) rfl (fun K hK => ?_) AllReadyH.nil
                go_simp
                go_wp2_with (first | (go_at_call_of 27 (Value.int IntKind.i64 (o : Int)); refine (HO.out _ hHeld).mono ?_; rintro r w6 ⟨rfl, f6⟩))
                refine hK.out _ _ (f6) (fun hHeld => ?_)
                clear hK K
                try simp only [Act.put, List.setIfInBounds_toArray, List.set_cons_zero, List.set_cons_succ]
                refine wpAnyH_take (i := 24) (oi := { dst := some 72, op := Op.binOp BinOp.leq 3 (Operand.tmp 68) (Operand.tmp 71) 3, type := 4, pos := "tiers.go:263", after := #[{ on := 20, ground := Ground.data }, { on := 23, ground := Ground.data }, { on := 17, ground := Ground.guard }], guard := some (17, false) }) (v := ?vq68) rfl (by kernel_rfl) (by kernel_rfl) (by kernel_rfl) (fun _ _ _ h => h) (Or.inl ⟨by rfl, ?hq68⟩) (by assumption) ?rq68
                case hq68 => intro W hSw; (try obtain ⟨t1, f1, q0, q1, q2, q3, xe, ye⟩ := HC.out W hSw); go_simp; (try with_reducible rfl)
                try simp only [Act.put, List.setIfInBounds_toArray, List.set_cons_zero, List.set_cons_succ]
                refine wpAnyH_take (i := 25) (oi := { dst := some 73, op := Op.pick (Operand.tmp 65) (Operand.const (Value.bool true)) (Operand.tmp 72), type := 4, pos := "tiers.go:263", after := #[{ on := 17, ground := Ground.data }, { on := 24, ground := Ground.data }, { on := 14, ground := Ground.guard }], guard := some (14, true) }) (v := ?vq69) rfl (by kernel_rfl) (by kernel_rfl) (by kernel_rfl) (fun _ _ _ h => h) (Or.inl ⟨by rfl, ?hq69⟩) (by assumption) ?rq69
                case hq69 => intro W hSw; (try obtain ⟨t1, f1, q0, q1, q2, q3, xe, ye⟩ := HC.out W hSw); go_simp; (try with_reducible rfl)
                try simp only [Act.put, List.setIfInBounds_toArray, List.set_cons_zero, List.set_cons_succ]
                refine wpAnyH_take (i := 26) (oi := { dst := some 74, op := Op.pick (Operand.tmp 62) (Operand.tmp 73) (Operand.const (Value.bool false)), type := 4, pos := "tiers.go:263", after := #[{ on := 14, ground := Ground.data }, { on := 25, ground := Ground.data }], guard := none }) (v := ?vq70) rfl (by kernel_rfl) (by kernel_rfl) (by kernel_rfl) (fun _ _ _ h => h) (Or.inl ⟨by rfl, ?hq70⟩) (by assumption) ?rq70
                case hq70 => intro W hSw; (try obtain ⟨t1, f1, q0, q1, q2, q3, xe, ye⟩ := HC.out W hSw); go_simp; (try with_reducible rfl)
                try simp only [Act.put, List.setIfInBounds_toArray, List.set_cons_zero, List.set_cons_succ]
                refine wpAnyH_done (by kernel_rfl) ?_ _
                clear t1 f1 q0 q1 q2 q3 xe ye
                go_wp2
                go_roundw
                case rel => exact ⟨g + 1, o, by omega, by go_num, rfl, HE.out.symm, Hfr.out.trans hHeld (fun _ h => h.elim)⟩
                case measure => simp [intOf]; omega
          · have hq0b : (q == 0) = false := by simpa using hq0
            rw [decide_eq_false hq0, Bool.false_and, if_neg (by simp)] at HS1
            have HE := HS1
            go_wp2_with fail
            clear t1 f1 q0 q1 q2 q3 xe ye
            obtain ⟨t1, f1, q0, q1, q2, q3, xe, ye⟩ := HC.out wr.drew F2
            refine wp_region_held_drew (S := fun W => Fr (fun _ => False) wr W) (by kernel_rfl) (F2) (fun hHeld => ?_)
            refine wpAnyH_take (i := 0) (oi := { dst := some 48, op := Op.fieldAddr 24 (Operand.tmp 5) 1, type := 0, pos := "tiers.go:263", after := #[], guard := none }) (v := ?vq71) rfl (by kernel_rfl) (by kernel_rfl) (by kernel_rfl) (fun _ _ _ h => h) (Or.inl ⟨by rfl, ?hq71⟩) (by assumption) ?rq71
            case hq71 => intro W hSw; (try obtain ⟨t1, f1, q0, q1, q2, q3, xe, ye⟩ := HC.out W hSw); go_simp; (try with_reducible rfl)
            try simp only [Act.put, List.setIfInBounds_toArray, List.set_cons_zero, List.set_cons_succ]
            refine wpAnyH_take (i := 1) (oi := { dst := some 49, op := Op.load 22 (Operand.tmp 48), type := 22, pos := "tiers.go:263", after := #[{ on := 0, ground := Ground.data }], guard := none }) (v := ?vq72) rfl (by kernel_rfl) (by kernel_rfl) (by kernel_rfl) (fun _ _ _ h => h) (Or.inl ⟨by rfl, ?hq72⟩) (by assumption) ?rq72
            case hq72 => intro W hSw; (try obtain ⟨t1, f1, q0, q1, q2, q3, xe, ye⟩ := HC.out W hSw); go_simp; (try with_reducible rfl)
            try simp only [Act.put, List.setIfInBounds_toArray, List.set_cons_zero, List.set_cons_succ]
            refine wpAnyH_take (i := 2) (oi := { dst := some 50, op := Op.move (Operand.tmp 11), type := 3, pos := "tiers.go:263", after := #[], guard := none }) (v := ?vq73) rfl (by kernel_rfl) (by kernel_rfl) (by kernel_rfl) (fun _ _ _ h => h) (Or.inl ⟨by rfl, ?hq73⟩) (by assumption) ?rq73
            case hq73 => intro W hSw; (try obtain ⟨t1, f1, q0, q1, q2, q3, xe, ye⟩ := HC.out W hSw); go_simp; (try with_reducible rfl)
            try simp only [Act.put, List.setIfInBounds_toArray, List.set_cons_zero, List.set_cons_succ]
            refine wpAnyH_take (i := 3) (oi := { dst := some 51, op := Op.indexAddr 22 (Operand.tmp 49) (Operand.tmp 50), type := 0, pos := "tiers.go:263", after := #[{ on := 1, ground := Ground.data }, { on := 2, ground := Ground.data }], guard := none }) (v := ?vq74) rfl (by kernel_rfl) (by kernel_rfl) (by kernel_rfl) (fun _ _ _ h => h) (Or.inl ⟨by rfl, ?hq74⟩) (by assumption) ?rq74
            case hq74 => intro W hSw; (try obtain ⟨t1, f1, q0, q1, q2, q3, xe, ye⟩ := HC.out W hSw); go_simp; (try with_reducible rfl)
            try simp only [Act.put, List.setIfInBounds_toArray, List.set_cons_zero, List.set_cons_succ]
            refine wpAnyH_take (i := 4) (oi := { dst := some 52, op := Op.fieldAddr 69 (Operand.tmp 51) 1, type := 0, pos := "tiers.go:263", after := #[{ on := 3, ground := Ground.data }], guard := none }) (v := ?vq75) rfl (by kernel_rfl) (by kernel_rfl) (by kernel_rfl) (fun _ _ _ h => h) (Or.inl ⟨by rfl, ?hq75⟩) (by assumption) ?rq75
            case hq75 => intro W hSw; (try obtain ⟨t1, f1, q0, q1, q2, q3, xe, ye⟩ := HC.out W hSw); go_simp; (try with_reducible rfl)
            try simp only [Act.put, List.setIfInBounds_toArray, List.set_cons_zero, List.set_cons_succ]
            refine wpAnyH_take (i := 5) (oi := { dst := some 53, op := Op.load 3 (Operand.tmp 52), type := 3, pos := "tiers.go:263", after := #[{ on := 4, ground := Ground.data }], guard := none }) (v := ?vq76) rfl (by kernel_rfl) (by kernel_rfl) (by kernel_rfl) (fun _ _ _ h => h) (Or.inl ⟨by rfl, ?hq76⟩) (by assumption) ?rq76
            case hq76 => intro W hSw; (try obtain ⟨t1, f1, q0, q1, q2, q3, xe, ye⟩ := HC.out W hSw); go_simp; (try with_reducible rfl)
            try simp only [Act.put, List.setIfInBounds_toArray, List.set_cons_zero, List.set_cons_succ]
            refine wpAnyH_take (i := 6) (oi := { dst := some 54, op := Op.fieldAddr 24 (Operand.tmp 3) 1, type := 0, pos := "tiers.go:263", after := #[], guard := none }) (v := ?vq77) rfl (by kernel_rfl) (by kernel_rfl) (by kernel_rfl) (fun _ _ _ h => h) (Or.inl ⟨by rfl, ?hq77⟩) (by assumption) ?rq77
            case hq77 => intro W hSw; (try obtain ⟨t1, f1, q0, q1, q2, q3, xe, ye⟩ := HC.out W hSw); go_simp; (try with_reducible rfl)
            try simp only [Act.put, List.setIfInBounds_toArray, List.set_cons_zero, List.set_cons_succ]
            refine wpAnyH_take (i := 7) (oi := { dst := some 55, op := Op.load 22 (Operand.tmp 54), type := 22, pos := "tiers.go:263", after := #[{ on := 6, ground := Ground.data }], guard := none }) (v := ?vq78) rfl (by kernel_rfl) (by kernel_rfl) (by kernel_rfl) (fun _ _ _ h => h) (Or.inl ⟨by rfl, ?hq78⟩) (by assumption) ?rq78
            case hq78 => intro W hSw; (try obtain ⟨t1, f1, q0, q1, q2, q3, xe, ye⟩ := HC.out W hSw); go_simp; (try with_reducible rfl)
            try simp only [Act.put, List.setIfInBounds_toArray, List.set_cons_zero, List.set_cons_succ]
            refine wpAnyH_take (i := 8) (oi := { dst := some 56, op := Op.move (Operand.tmp 13), type := 3, pos := "tiers.go:263", after := #[], guard := none }) (v := ?vq79) rfl (by kernel_rfl) (by kernel_rfl) (by kernel_rfl) (fun _ _ _ h => h) (Or.inl ⟨by rfl, ?hq79⟩) (by assumption) ?rq79
            case hq79 => intro W hSw; (try obtain ⟨t1, f1, q0, q1, q2, q3, xe, ye⟩ := HC.out W hSw); go_simp; (try with_reducible rfl)
            try simp only [Act.put, List.setIfInBounds_toArray, List.set_cons_zero, List.set_cons_succ]
            refine wpAnyH_take (i := 9) (oi := { dst := some 57, op := Op.indexAddr 22 (Operand.tmp 55) (Operand.tmp 56), type := 0, pos := "tiers.go:263", after := #[{ on := 7, ground := Ground.data }, { on := 8, ground := Ground.data }], guard := none }) (v := ?vq80) rfl (by kernel_rfl) (by kernel_rfl) (by kernel_rfl) (fun _ _ _ h => h) (Or.inl ⟨by rfl, ?hq80⟩) (by assumption) ?rq80
            case hq80 => intro W hSw; (try obtain ⟨t1, f1, q0, q1, q2, q3, xe, ye⟩ := HC.out W hSw); go_simp; (try with_reducible rfl)
            try simp only [Act.put, List.setIfInBounds_toArray, List.set_cons_zero, List.set_cons_succ]
            refine wpAnyH_take (i := 10) (oi := { dst := some 58, op := Op.fieldAddr 69 (Operand.tmp 57) 1, type := 0, pos := "tiers.go:263", after := #[{ on := 9, ground := Ground.data }], guard := none }) (v := ?vq81) rfl (by kernel_rfl) (by kernel_rfl) (by kernel_rfl) (fun _ _ _ h => h) (Or.inl ⟨by rfl, ?hq81⟩) (by assumption) ?rq81
            case hq81 => intro W hSw; (try obtain ⟨t1, f1, q0, q1, q2, q3, xe, ye⟩ := HC.out W hSw); go_simp; (try with_reducible rfl)
            try simp only [Act.put, List.setIfInBounds_toArray, List.set_cons_zero, List.set_cons_succ]
            refine wpAnyH_take (i := 11) (oi := { dst := some 59, op := Op.load 3 (Operand.tmp 58), type := 3, pos := "tiers.go:263", after := #[{ on := 10, ground := Ground.data }], guard := none }) (v := ?vq82) rfl (by kernel_rfl) (by kernel_rfl) (by kernel_rfl) (fun _ _ _ h => h) (Or.inl ⟨by rfl, ?hq82⟩) (by assumption) ?rq82
            case hq82 => intro W hSw; (try obtain ⟨t1, f1, q0, q1, q2, q3, xe, ye⟩ := HC.out W hSw); go_simp; (try with_reducible rfl)
            try simp only [Act.put, List.setIfInBounds_toArray, List.set_cons_zero, List.set_cons_succ]
            refine wpAnyH_take (i := 12) (oi := { dst := some 60, op := Op.binOp BinOp.rem 3 (Operand.tmp 53) (Operand.tmp 59) 3, type := 3, pos := "tiers.go:263", after := #[{ on := 5, ground := Ground.data }, { on := 11, ground := Ground.data }], guard := none }) (v := ?vq83) rfl (by kernel_rfl) (by kernel_rfl) (by kernel_rfl) (fun _ _ _ h => h) (Or.inl ⟨by rfl, ?hq83⟩) (by assumption) ?rq83
            case hq83 => intro W hSw; (try obtain ⟨t1, f1, q0, q1, q2, q3, xe, ye⟩ := HC.out W hSw); go_simp; (try with_reducible rfl)
            try simp only [Act.put, List.setIfInBounds_toArray, List.set_cons_zero, List.set_cons_succ]
            refine wpAnyH_take (i := 13) (oi := { dst := some 61, op := Op.binOp BinOp.eql 3 (Operand.tmp 60) (Operand.const (Value.int IntKind.i64 0)) 3, type := 4, pos := "tiers.go:263", after := #[{ on := 12, ground := Ground.data }], guard := none }) (v := ?vq84) rfl (by kernel_rfl) (by kernel_rfl) (by kernel_rfl) (fun _ _ _ h => h) (Or.inl ⟨by rfl, ?hq84⟩) (by assumption) ?rq84
            case hq84 => intro W hSw; (try obtain ⟨t1, f1, q0, q1, q2, q3, xe, ye⟩ := HC.out W hSw); go_simp; (try with_reducible rfl)
            try simp only [Act.put, List.setIfInBounds_toArray, List.set_cons_zero, List.set_cons_succ]
            refine wpAnyH_take (i := 14) (oi := { dst := some 62, op := Op.move (Operand.tmp 61), type := 4, pos := "tiers.go:263", after := #[{ on := 13, ground := Ground.data }], guard := none }) (v := ?vq85) rfl (by kernel_rfl) (by kernel_rfl) (by kernel_rfl) (fun _ _ _ h => h) (Or.inl ⟨by rfl, ?hq85⟩) (by assumption) ?rq85
            case hq85 => intro W hSw; (try obtain ⟨t1, f1, q0, q1, q2, q3, xe, ye⟩ := HC.out W hSw); go_simp; (try with_reducible rfl)
            try simp only [Act.put, List.setIfInBounds_toArray, List.set_cons_zero, List.set_cons_succ]
            refine wpAnyH_take (i := 15) (oi := { dst := some 63, op := Op.move (Operand.tmp 12), type := 3, pos := "tiers.go:263", after := #[{ on := 14, ground := Ground.guard }], guard := some (14, true) }) (v := undef) rfl (by kernel_rfl) (by kernel_rfl) (by kernel_rfl) (fun _ _ _ h => h) (Or.inr ⟨by rfl, rfl⟩) (by assumption) ?_
            try simp only [Act.put, List.setIfInBounds_toArray, List.set_cons_zero, List.set_cons_succ]
            refine wpAnyH_take (i := 16) (oi := { dst := some 64, op := Op.binOp BinOp.lss 3 (Operand.tmp 63) (Operand.const (Value.int IntKind.i64 0)) 3, type := 4, pos := "tiers.go:263", after := #[{ on := 15, ground := Ground.data }, { on := 14, ground := Ground.guard }], guard := some (14, true) }) (v := undef) rfl (by kernel_rfl) (by kernel_rfl) (by kernel_rfl) (fun _ _ _ h => h) (Or.inr ⟨by rfl, rfl⟩) (by assumption) ?_
            try simp only [Act.put, List.setIfInBounds_toArray, List.set_cons_zero, List.set_cons_succ]
            refine wpAnyH_take (i := 17) (oi := { dst := some 65, op := Op.move (Operand.tmp 64), type := 4, pos := "tiers.go:263", after := #[{ on := 16, ground := Ground.data }, { on := 14, ground := Ground.chain }, { on := 14, ground := Ground.guard }], guard := some (14, true) }) (v := undef) rfl (by kernel_rfl) (by kernel_rfl) (by kernel_rfl) (fun _ _ _ h => h) (Or.inr ⟨by rfl, rfl⟩) (by assumption) ?_
            try simp only [Act.put, List.setIfInBounds_toArray, List.set_cons_zero, List.set_cons_succ]
            refine wpAnyH_take (i := 18) (oi := { dst := some 66, op := Op.load 29 (Operand.tmp 4), type := 29, pos := "tiers.go:263", after := #[{ on := 17, ground := Ground.guard }], guard := some (17, false) }) (v := undef) rfl (by kernel_rfl) (by kernel_rfl) (by kernel_rfl) (fun _ _ _ h => h) (Or.inr ⟨by rfl, rfl⟩) (by assumption) ?_
            try simp only [Act.put, List.setIfInBounds_toArray, List.set_cons_zero, List.set_cons_succ]
            refine wpAnyH_take (i := 19) (oi := { dst := some 67, op := Op.move (Operand.tmp 13), type := 3, pos := "tiers.go:263", after := #[{ on := 17, ground := Ground.guard }], guard := some (17, false) }) (v := undef) rfl (by kernel_rfl) (by kernel_rfl) (by kernel_rfl) (fun _ _ _ h => h) (Or.inr ⟨by rfl, rfl⟩) (by assumption) ?_
            try simp only [Act.put, List.setIfInBounds_toArray, List.set_cons_zero, List.set_cons_succ]
            refine wpAnyH_take (i := 20) (oi := { dst := some 68, op := Op.call { callee := Callee.value (Operand.func 27), args := #[Operand.tmp 66, Operand.tmp 67], argTypes := #[29, 3] }, type := 3, pos := "tiers.go:263", after := #[{ on := 18, ground := Ground.data }, { on := 19, ground := Ground.data }, { on := 17, ground := Ground.chain }, { on := 17, ground := Ground.guard }], guard := some (17, false) }) (v := undef) rfl (by kernel_rfl) (by kernel_rfl) (by kernel_rfl) (fun _ _ _ h => h) (Or.inr ⟨by rfl, rfl⟩) (by assumption) ?_
            try simp only [Act.put, List.setIfInBounds_toArray, List.set_cons_zero, List.set_cons_succ]
            refine wpAnyH_take (i := 21) (oi := { dst := some 69, op := Op.load 29 (Operand.tmp 4), type := 29, pos := "tiers.go:263", after := #[{ on := 17, ground := Ground.guard }], guard := some (17, false) }) (v := undef) rfl (by kernel_rfl) (by kernel_rfl) (by kernel_rfl) (fun _ _ _ h => h) (Or.inr ⟨by rfl, rfl⟩) (by assumption) ?_
            try simp only [Act.put, List.setIfInBounds_toArray, List.set_cons_zero, List.set_cons_succ]
            refine wpAnyH_take (i := 22) (oi := { dst := some 70, op := Op.move (Operand.tmp 12), type := 3, pos := "tiers.go:263", after := #[{ on := 17, ground := Ground.guard }], guard := some (17, false) }) (v := undef) rfl (by kernel_rfl) (by kernel_rfl) (by kernel_rfl) (fun _ _ _ h => h) (Or.inr ⟨by rfl, rfl⟩) (by assumption) ?_
            try simp only [Act.put, List.setIfInBounds_toArray, List.set_cons_zero, List.set_cons_succ]
            refine wpAnyH_take (i := 23) (oi := { dst := some 71, op := Op.call { callee := Callee.value (Operand.func 27), args := #[Operand.tmp 69, Operand.tmp 70], argTypes := #[29, 3] }, type := 3, pos := "tiers.go:263", after := #[{ on := 21, ground := Ground.data }, { on := 22, ground := Ground.data }, { on := 20, ground := Ground.chain }, { on := 17, ground := Ground.guard }], guard := some (17, false) }) (v := undef) rfl (by kernel_rfl) (by kernel_rfl) (by kernel_rfl) (fun _ _ _ h => h) (Or.inr ⟨by rfl, rfl⟩) (by assumption) ?_
            try simp only [Act.put, List.setIfInBounds_toArray, List.set_cons_zero, List.set_cons_succ]
            refine wpAnyH_take (i := 24) (oi := { dst := some 72, op := Op.binOp BinOp.leq 3 (Operand.tmp 68) (Operand.tmp 71) 3, type := 4, pos := "tiers.go:263", after := #[{ on := 20, ground := Ground.data }, { on := 23, ground := Ground.data }, { on := 17, ground := Ground.guard }], guard := some (17, false) }) (v := undef) rfl (by kernel_rfl) (by kernel_rfl) (by kernel_rfl) (fun _ _ _ h => h) (Or.inr ⟨by rfl, rfl⟩) (by assumption) ?_
            try simp only [Act.put, List.setIfInBounds_toArray, List.set_cons_zero, List.set_cons_succ]
            refine wpAnyH_take (i := 25) (oi := { dst := some 73, op := Op.pick (Operand.tmp 65) (Operand.const (Value.bool true)) (Operand.tmp 72), type := 4, pos := "tiers.go:263", after := #[{ on := 17, ground := Ground.data }, { on := 24, ground := Ground.data }, { on := 14, ground := Ground.guard }], guard := some (14, true) }) (v := undef) rfl (by kernel_rfl) (by kernel_rfl) (by kernel_rfl) (fun _ _ _ h => h) (Or.inr ⟨by rfl, rfl⟩) (by assumption) ?_
            try simp only [Act.put, List.setIfInBounds_toArray, List.set_cons_zero, List.set_cons_succ]
            refine wpAnyH_take (i := 26) (oi := { dst := some 74, op := Op.pick (Operand.tmp 62) (Operand.tmp 73) (Operand.const (Value.bool false)), type := 4, pos := "tiers.go:263", after := #[{ on := 14, ground := Ground.data }, { on := 25, ground := Ground.data }], guard := none }) (v := ?vq86) rfl (by kernel_rfl) (by kernel_rfl) (by kernel_rfl) (fun _ _ _ h => h) (Or.inl ⟨by rfl, ?hq86⟩) (by assumption) ?rq86
            case hq86 => intro W hSw; (try obtain ⟨t1, f1, q0, q1, q2, q3, xe, ye⟩ := HC.out W hSw); go_simp; (try with_reducible rfl)
            try simp only [Act.put, List.setIfInBounds_toArray, List.set_cons_zero, List.set_cons_succ]
            refine wpAnyH_done (by kernel_rfl) ?_ _
            clear t1 f1 q0 q1 q2 q3 xe ye
            go_wp2
            go_roundw
            case rel => exact ⟨g + 1, best, by omega, by go_num, rfl, HE.out.symm, Hfr.out.trans hHeld (fun _ h => h.elim)⟩
            case measure => simp [intOf]; omega

        · obtain rfl : g = nf := by omega
          have hb1 : Blk wr w2.heap.size 31 #[.string nmt, .slice (some td) nt ct, .slice S k cs] := Hbp.out.fr hfr (fun h => h)
          have p2 := hb1.cell 2
          simp only [List.getElem?_toArray, List.getElem?_cons_succ, List.getElem?_cons_zero] at p2
          have p2a := fun o => (Fr.none_alloc wr o).cell p2 (fun h => h)
          have Ho1 := Lib.hid (Ho.out.skip hfr)
          have Hr1 := Lib.hid (own_fr0 Hrow.out hfr)
          have Hget := Lib.hid (show (srcs now lf fl lt)[k]? = some best by unfold srcs; rw [List.getElem?_map, Hu.out, Hlf.out, hbest.out]; rfl)
          have hnr : ¬ rowF (.slice S k cs) w2.heap.size := own_blk_ne Hr1.out hb1 (by decide)
          have HB6 : Hid (∀ o A6 c6 w6, Mv (rowF (.slice S k cs)) (rowF (.slice A6 (k + 1) c6)) (wr.alloc o) w6 → Blk w6 w2.heap.size 31 #[.string nmt, .slice (some td) nt ct, .slice S k cs]) := fun o A6 c6 w6 hm => (hb1.alloc o).fr hm.fr hnr
          clear t1 q0 q1 q2 q3 xe hb1 hnr hfr hfw hbest Ho Hrow Hbp HK
          go_wp2_with (at_builtin; refine wpList_app rfl _ _ 25 rfl 3 i0 (.int .i64 0) 1 8 Tryz.underlying25 hi hz0 hz1 hz2 rfl (by decide) (.slice S k cs) k _ rfl (own_fr0 Hr1.out (Fr.none_alloc _ _)) (some ⟨wr.heap.size, 0, none⟩) 1 1 [.int .i64 best] rfl (Rd.new wr [.int .i64 best] _ 1 rfl) (by simp [Value.oneCell']) ?q1 ?q2 ?_)
          case q1 => unfold maxLen; omega
          case q2 => omega
          intro A6 c6 w6 ho6 hm6
          have b6 := HB6.out _ _ _ _ hm6
          have p6 := b6.cell 2
          have f6 := b6.frozen 2
          simp only [List.getElem?_toArray, List.getElem?_cons_succ, List.getElem?_cons_zero] at p6
          have hne : ¬ rowF (.slice A6 (k + 1) c6) w2.heap.size := own_blk_ne ho6 b6 (by decide)
          have hs : Fr (fun j => j = w2.heap.size) w6 (w6.setCell ⟨w2.heap.size, 2, none⟩ (.slice A6 (k + 1) c6)) := (Fr.refl (fun j => j = w2.heap.size) w6).setCell (p := ⟨w2.heap.size, 2, none⟩) (.inl rfl) _
          have HZ : Hid (Blk (w6.setCell ⟨w2.heap.size, 2, none⟩ (.slice A6 (k + 1) c6)) w2.heap.size 31 #[.string nmt, .slice (some td) nt ct, .slice A6 (k + 1) c6] ∧ (w6.setCell ⟨w2.heap.size, 2, none⟩ (.slice A6 (k + 1) c6)).ownsRow 0 3 1 (.slice A6 (k + 1) c6) (k + 1) (ints ((srcs now lf fl lt).take (k + 1))) ∧
              Own w2 (w6.setCell ⟨w2.heap.size, 2, none⟩ (.slice A6 (k + 1) c6)) (fun j => j = w2.heap.size ∨ rowF (.slice A6 (k + 1) c6) j)) := by
            refine ⟨b6.set_ 2 _, ?_, ?_⟩
            · rw [take_snoc Hget.out]
              unfold ints at ho6 ⊢
              rw [List.map_append]
              exact own_fr ho6 hs (fun j hj hg => hne (hg ▸ hj))
            · have hmv : Mv (fun j => j = w2.heap.size ∨ rowF (.slice S k cs) j) (fun j => j = w2.heap.size ∨ rowF (.slice A6 (k + 1) c6) j) _ (w6.setCell ⟨w2.heap.size, 2, none⟩ (.slice A6 (k + 1) c6)) :=
                ⟨(hm6.fr.mono (fun i hi => .inl (.inr hi))).trans hs (fun i hi => .inl (.inl hi)), fun j hj => hj.elim (fun hj => .inl (.inl hj)) (fun hj => (hm6.sub j hj).imp .inr id)⟩
              exact (Ho1.out.skip (Fr.none_alloc _ _)).mv hmv
          clear ho6 hm6 hs hne b6 p2 p2a HB6 f1
          go_wp2
          go_roundw
          case rel => exact ⟨k + 1, A6, c6, by omega, by go_num, HZ.out.1, HZ.out.2.1, HZ.out.2.2⟩
          case measure => simp [intOf]; omega
    · obtain rfl : k = nt := by omega
      have b6 := B6.out.below ho.bel
      have c0 := hbp.cell 0
      have c1 := hbp.cell 1
      have c2 := hbp.cell 2
      have e0 := b6.cell 0
      have e1 := b6.cell 1
      have e2 := b6.cell 2
      have g0 := b6.frozen 0
      have g1 := b6.frozen 1
      have g2 := b6.frozen 2
      simp only [List.getElem?_toArray, List.getElem?_cons_succ, List.getElem?_cons_zero] at c0 c1 c2 e0 e1 e2
      have hl : (srcs now lf fl lt).take k = srcs now lf fl lt := take_all (by unfold srcs; rw [List.length_map, Hlt.out]; exact Nat.le_refl _)
      rw [hl] at hrow
      have Hrow := Lib.hid hrow
      have Ho := Lib.hid ho
      have Ow := Lib.hid (O3.out.below ho.bel)
      clear b6 hrow ho hbp hl b3 b4 b5
      go_wp2_with fail
      have fF : Fr (fun j => j = w.heap.size + 1 + 1 + 1) wo (((wo.setCell ⟨w.heap.size + 1 + 1 + 1, 0, none⟩ (.string nmt)).setCell ⟨w.heap.size + 1 + 1 + 1, 1, none⟩ (.slice At k ct)).setCell ⟨w.heap.size + 1 + 1 + 1, 2, none⟩ (.slice S k cs)) :=
        (((Fr.refl (fun j => j = w.heap.size + 1 + 1 + 1) wo).setCell (p := ⟨w.heap.size + 1 + 1 + 1, 0, none⟩) (.inl rfl) _).setCell (p := ⟨w.heap.size + 1 + 1 + 1, 1, none⟩) (.inl rfl) _).setCell (p := ⟨w.heap.size + 1 + 1 + 1, 2, none⟩) (.inl rfl) _
      have oF := (Ow.out.also (G := fun j => j = w.heap.size + 1 + 1 + 1) (fun j hj => by omega)).fr fF
      obtain ⟨S2, cs2, e, hcs, _, hrs⟩ := own_slice Hrow.out
      injection e with ea _ ec
      subst ea ec
      have hS : ∀ j, adF S k j → w.heap.size + 4 ≤ j := fun j hj => Nat.le_trans Hs3.out (Ho.out.new j (.inr (adF_row j hj)))
      refine bodyPost_ret (v := .tuple #[.agg #[.string nmt, .slice At k ct, .slice S k cs], .int .i64 0]) ?_ rfl ⟨⟨S, cs, rfl, hcs, hrs.fr fF (fun j hj hF => by have := hS j hj; omega), fun j hj => by have := hS j hj; omega⟩, oF.bel⟩
      simp [results, Tryz.results6, go_sem, *]
end Go.Proofs.YtbdhmoeadakipaaGreat
