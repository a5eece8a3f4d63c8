/- The statement PlanTells: its walk. -/
import Derived.Test.YtbdhmoeadakipaaGreatMakes
import Derived.Test.YtbdhmoeadakipaaGreatRefBases
import Derived.Test.YtbdhmoeadakipaaGreatRefFilled
import Derived.Test.YtbdhmoeadakipaaGreatRefSame
import Derived.Test.YtbdhmoeadakipaaGreatBookIT
import Derived.Test.YtbdhmoeadakipaaGreatAlive
namespace Go.Proofs.YtbdhmoeadakipaaGreat
open Go.RowKit

theorem ints_icells (l : List Int) : icells l = ints l := by
  unfold icells ints icell
  induction l with
  | nil => rfl
  | cons x t ih => simp only [List.flatMap_cons, List.map_cons, ih, List.singleton_append]

theorem shardV_lt (s : ByteArray) (n : Int) (h : 1 ≤ n) : shardV s n < n := by
  unfold shardV
  rw [if_neg (by omega)]
  exact Int.emod_lt_of_pos _ (by omega)

set_option maxRecDepth 100000 in
set_option maxHeartbeats 16000000 in
theorem ptells_walk (nmf : ByteArray) (lf : List TierV) (Af : Option Addr) (nf cf : Nat) (nmt : ByteArray) (lt : List TierV) (At : Option Addr) (nt ct : Nat) (now : Int) (fl : List Int) (B : Option Addr) (m d : Nat) (k tier : Int) (s : ByteArray) (need : Int) (w : World)
    (hnf : nmf.size ≤ maxLen) (hf : Rd w 4 Af nf (tcells lf)) (hlf : lf.length = nf) (hfc : nf ≤ cf) (hcf : cf ≤ maxLen) (hwf : ∀ t ∈ lf, t.wf)
    (hnt : nmt.size ≤ maxLen) (ht : Rd w 4 At nt (tcells lt)) (hlt : lt.length = nt) (htc : nt ≤ ct) (hct : ct ≤ maxLen) (hwt : ∀ t ∈ lt, t.wf)
    (hnow : i64 now) (hfl : Rd w 1 B m (ints fl)) (hm : fl.length = m) (hmd : m ≤ d) (hd : d ≤ maxLen) (hwl : ∀ f ∈ fl, i64 f) (hk : i64 k) (htier : i64 tier) (hs : s.size ≤ maxLen) (hneed : i64 need) :
    Calls Tryz.prog 3 #[polV nmf Af nf cf, polV nmt At nt ct, .int .i64 now, .slice B m d, .int .i64 k, .int .i64 tier, .string s, .int .i64 need] w fun r w' => r = .returned (.bool true) ∧ Below w.heap.size w w' := by
  have hnf9 : nf ≤ 9223372036854775807 := by unfold maxLen at hcf; omega
  have hnt9 : nt ≤ 9223372036854775807 := by unfold maxLen at hct; omega
  have HSF : Hid (∀ w', Fr (fun _ => False) w w' → Calls Tryz.prog 4 #[polV nmf Af nf cf] w' fun r w'' => SmallR nmf nf r ∧ Below w'.heap.size w' w'') :=
    fun w' h => bsmall_any nmf lf Af nf cf w' (hf.fr0 h) hnf9 hnf (fun t ht => (hwf t ht).2.2.2)
  have HST : Hid (∀ w', Fr (fun _ => False) w w' → Calls Tryz.prog 4 #[polV nmt At nt ct] w' fun r w'' => SmallR nmt nt r ∧ Below w'.heap.size w' w'') :=
    fun w' h => bsmall_any nmt lt At nt ct w' (ht.fr0 h) hnt9 hnt (fun t ht => (hwt t ht).2.2.2)
  have O := Lib.hid (((Own.start w).skip (Fr.none_alloc w (.cells #[.string nmf, .slice Af nf cf] 24))).skip (Fr.none_alloc _ (.cells #[.string nmt, .slice At nt ct] 24)))
  have B8 := Lib.hid ((Blk.new w 24 #[.string nmf, .slice Af nf cf]).alloc (.cells #[.string nmt, .slice At nt ct] 24))
  have B9 := Lib.hid (Blk.new' (w := w.alloc (.cells #[.string nmf, .slice Af nf cf] 24)) (k := w.heap.size + 1) (by simp) 24 #[.string nmt, .slice At nt ct])
  obtain ⟨WA, hWA⟩ : ∃ WA, WA = (w.alloc (.cells #[.string nmf, .slice Af nf cf] 24)).alloc (.cells #[.string nmt, .slice At nt ct] 24) := ⟨_, rfl⟩
  rw [← hWA] at O B8 B9
  have HWA := Lib.hid hWA
  clear hWA
  have Hall := Lib.hid (And.intro hf (And.intro ht (And.intro hfl (And.intro hwf (And.intro hwt (And.intro hwl (And.intro hnf (And.intro hnt (And.intro hnow (And.intro hlf (And.intro hlt (And.intro hm (And.intro hfc (And.intro htc (And.intro hcf hct)))))))))))))))
  have Hmd := Lib.hid hmd
  have Hd := Lib.hid hd
  clear hf ht hfl hwf hwt hwl hnf hnt hnow hlf hlt hm hfc htc hcf hct hmd hd hnf9 hnt9
  have HK := Lib.hid hk
  have HTi := Lib.hid htier
  have HSz := Lib.hid hs
  clear hk htier hs
  unfold polV at HSF HST ⊢
  unfold i64 at hneed
  by_cases h12 : (12 : Int) < (m : Int)
  · go_enter Tryz.func3, Tryz.ntmps3
    go_wp2_with fail
    rw [← HWA.out]
    refine (HSF.out WA (Fr.b0 O.out.bel)).mono ?_
    rintro r w1 ⟨⟨b, rfl, hb⟩, b1⟩
    have O1 := Lib.hid (O.out.below b1)
    have B81 := Lib.hid (B8.out.below b1)
    have B91 := Lib.hid (B9.out.below b1)
    have p0 := B91.out.cell 0
    have p1 := B91.out.cell 1
    simp only [List.getElem?_toArray, List.getElem?_cons_succ, List.getElem?_cons_zero] at p0 p1
    clear b1 B8 B9 O HWA HSF
    cases b
    · clear hb p0 p1 B81 B91 HST
      go_wp2_with fail
      refine (alive13_any _).mono ?_
      rintro r w9 ⟨rfl, b9⟩
      have O9 := Lib.hid (O1.out.below b9)
      clear b9
      go_wp2_with fail
      go_ret
      exact ⟨rfl, O9.out.bel⟩
    have Hf10 := Lib.hid (hb rfl)
    clear hb
    go_wp2_with fail
    refine (HST.out w1 (Fr.b0 O1.out.bel)).mono ?_
    rintro r w2 ⟨⟨b, rfl, hb⟩, b2⟩
    have O2 := Lib.hid (O1.out.below b2)
    have B82 := Lib.hid (B81.out.below b2)
    have B92 := Lib.hid (B91.out.below b2)
    clear b2 B81 B91 O1 HST p0 p1
    cases b
    · clear hb B82 B92
      go_wp2_with fail
      refine (alive13_any _).mono ?_
      rintro r w9 ⟨rfl, b9⟩
      have O9 := Lib.hid (O2.out.below b9)
      clear b9
      go_wp2_with fail
      go_ret
      exact ⟨rfl, O9.out.bel⟩
    have Ht10 := Lib.hid (hb rfl)
    clear hb
    go_wp2_with fail
    refine (alive13_any _).mono ?_
    rintro r w9 ⟨rfl, b9⟩
    have O9 := Lib.hid (O2.out.below b9)
    clear b9
    go_wp2_with fail
    go_ret
    exact ⟨rfl, O9.out.bel⟩

  by_cases h60 : (60 : Int) < (s.size : Int)
  · go_enter Tryz.func3, Tryz.ntmps3
    go_wp2_with fail
    rw [← HWA.out]
    refine (HSF.out WA (Fr.b0 O.out.bel)).mono ?_
    rintro r w1 ⟨⟨b, rfl, hb⟩, b1⟩
    have O1 := Lib.hid (O.out.below b1)
    have B81 := Lib.hid (B8.out.below b1)
    have B91 := Lib.hid (B9.out.below b1)
    have p0 := B91.out.cell 0
    have p1 := B91.out.cell 1
    simp only [List.getElem?_toArray, List.getElem?_cons_succ, List.getElem?_cons_zero] at p0 p1
    clear b1 B8 B9 O HWA HSF
    cases b
    · clear hb p0 p1 B81 B91 HST
      go_wp2_with fail
      refine (alive13_any _).mono ?_
      rintro r w9 ⟨rfl, b9⟩
      have O9 := Lib.hid (O1.out.below b9)
      clear b9
      go_wp2_with fail
      go_ret
      exact ⟨rfl, O9.out.bel⟩
    have Hf10 := Lib.hid (hb rfl)
    clear hb
    go_wp2_with fail
    refine (HST.out w1 (Fr.b0 O1.out.bel)).mono ?_
    rintro r w2 ⟨⟨b, rfl, hb⟩, b2⟩
    have O2 := Lib.hid (O1.out.below b2)
    have B82 := Lib.hid (B81.out.below b2)
    have B92 := Lib.hid (B91.out.below b2)
    clear b2 B81 B91 O1 HST p0 p1
    cases b
    · clear hb B82 B92
      go_wp2_with fail
      refine (alive13_any _).mono ?_
      rintro r w9 ⟨rfl, b9⟩
      have O9 := Lib.hid (O2.out.below b9)
      clear b9
      go_wp2_with fail
      go_ret
      exact ⟨rfl, O9.out.bel⟩
    have Ht10 := Lib.hid (hb rfl)
    clear hb
    go_wp2_with fail
    refine (alive13_any _).mono ?_
    rintro r w9 ⟨rfl, b9⟩
    have O9 := Lib.hid (O2.out.below b9)
    clear b9
    go_wp2_with fail
    go_ret
    exact ⟨rfl, O9.out.bel⟩

  by_cases hn0 : need < 0
  · go_enter Tryz.func3, Tryz.ntmps3
    go_wp2_with fail
    rw [← HWA.out]
    refine (HSF.out WA (Fr.b0 O.out.bel)).mono ?_
    rintro r w1 ⟨⟨b, rfl, hb⟩, b1⟩
    have O1 := Lib.hid (O.out.below b1)
    have B81 := Lib.hid (B8.out.below b1)
    have B91 := Lib.hid (B9.out.below b1)
    have p0 := B91.out.cell 0
    have p1 := B91.out.cell 1
    simp only [List.getElem?_toArray, List.getElem?_cons_succ, List.getElem?_cons_zero] at p0 p1
    clear b1 B8 B9 O HWA HSF
    cases b
    · clear hb p0 p1 B81 B91 HST
      go_wp2_with fail
      refine (alive13_any _).mono ?_
      rintro r w9 ⟨rfl, b9⟩
      have O9 := Lib.hid (O1.out.below b9)
      clear b9
      go_wp2_with fail
      go_ret
      exact ⟨rfl, O9.out.bel⟩
    have Hf10 := Lib.hid (hb rfl)
    clear hb
    go_wp2_with fail
    refine (HST.out w1 (Fr.b0 O1.out.bel)).mono ?_
    rintro r w2 ⟨⟨b, rfl, hb⟩, b2⟩
    have O2 := Lib.hid (O1.out.below b2)
    have B82 := Lib.hid (B81.out.below b2)
    have B92 := Lib.hid (B91.out.below b2)
    clear b2 B81 B91 O1 HST p0 p1
    cases b
    · clear hb B82 B92
      go_wp2_with fail
      refine (alive13_any _).mono ?_
      rintro r w9 ⟨rfl, b9⟩
      have O9 := Lib.hid (O2.out.below b9)
      clear b9
      go_wp2_with fail
      go_ret
      exact ⟨rfl, O9.out.bel⟩
    have Ht10 := Lib.hid (hb rfl)
    clear hb
    go_wp2_with fail
    refine (alive13_any _).mono ?_
    rintro r w9 ⟨rfl, b9⟩
    have O9 := Lib.hid (O2.out.below b9)
    clear b9
    go_wp2_with fail
    go_ret
    exact ⟨rfl, O9.out.bel⟩

  by_cases hn1 : (1152921504606846976 : Int) < need
  · go_enter Tryz.func3, Tryz.ntmps3
    go_wp2_with fail
    rw [← HWA.out]
    refine (HSF.out WA (Fr.b0 O.out.bel)).mono ?_
    rintro r w1 ⟨⟨b, rfl, hb⟩, b1⟩
    have O1 := Lib.hid (O.out.below b1)
    have B81 := Lib.hid (B8.out.below b1)
    have B91 := Lib.hid (B9.out.below b1)
    have p0 := B91.out.cell 0
    have p1 := B91.out.cell 1
    simp only [List.getElem?_toArray, List.getElem?_cons_succ, List.getElem?_cons_zero] at p0 p1
    clear b1 B8 B9 O HWA HSF
    cases b
    · clear hb p0 p1 B81 B91 HST
      go_wp2_with fail
      refine (alive13_any _).mono ?_
      rintro r w9 ⟨rfl, b9⟩
      have O9 := Lib.hid (O1.out.below b9)
      clear b9
      go_wp2_with fail
      go_ret
      exact ⟨rfl, O9.out.bel⟩
    have Hf10 := Lib.hid (hb rfl)
    clear hb
    go_wp2_with fail
    refine (HST.out w1 (Fr.b0 O1.out.bel)).mono ?_
    rintro r w2 ⟨⟨b, rfl, hb⟩, b2⟩
    have O2 := Lib.hid (O1.out.below b2)
    have B82 := Lib.hid (B81.out.below b2)
    have B92 := Lib.hid (B91.out.below b2)
    clear b2 B81 B91 O1 HST p0 p1
    cases b
    · clear hb B82 B92
      go_wp2_with fail
      refine (alive13_any _).mono ?_
      rintro r w9 ⟨rfl, b9⟩
      have O9 := Lib.hid (O2.out.below b9)
      clear b9
      go_wp2_with fail
      go_ret
      exact ⟨rfl, O9.out.bel⟩
    have Ht10 := Lib.hid (hb rfl)
    clear hb
    go_wp2_with fail
    refine (alive13_any _).mono ?_
    rintro r w9 ⟨rfl, b9⟩
    have O9 := Lib.hid (O2.out.below b9)
    clear b9
    go_wp2_with fail
    go_ret
    exact ⟨rfl, O9.out.bel⟩

  go_enter Tryz.func3, Tryz.ntmps3
  go_wp2_with fail
  rw [← HWA.out]
  refine (HSF.out WA (Fr.b0 O.out.bel)).mono ?_
  rintro r w1 ⟨⟨b, rfl, hb⟩, b1⟩
  have O1 := Lib.hid (O.out.below b1)
  have B81 := Lib.hid (B8.out.below b1)
  have B91 := Lib.hid (B9.out.below b1)
  have p0 := B91.out.cell 0
  have p1 := B91.out.cell 1
  simp only [List.getElem?_toArray, List.getElem?_cons_succ, List.getElem?_cons_zero] at p0 p1
  clear b1 B8 B9 O HWA HSF
  cases b
  · clear hb p0 p1 B81 B91 HST
    go_wp2_with fail
    refine (alive13_any _).mono ?_
    rintro r w9 ⟨rfl, b9⟩
    have O9 := Lib.hid (O1.out.below b9)
    clear b9
    go_wp2_with fail
    go_ret
    exact ⟨rfl, O9.out.bel⟩
  have Hf10 := Lib.hid (hb rfl)
  clear hb
  go_wp2_with fail
  refine (HST.out w1 (Fr.b0 O1.out.bel)).mono ?_
  rintro r w2 ⟨⟨b, rfl, hb⟩, b2⟩
  have O2 := Lib.hid (O1.out.below b2)
  have B82 := Lib.hid (B81.out.below b2)
  have B92 := Lib.hid (B91.out.below b2)
  clear b2 B81 B91 O1 HST p0 p1
  cases b
  · clear hb B82 B92
    go_wp2_with fail
    refine (alive13_any _).mono ?_
    rintro r w9 ⟨rfl, b9⟩
    have O9 := Lib.hid (O2.out.below b9)
    clear b9
    go_wp2_with fail
    go_ret
    exact ⟨rfl, O9.out.bel⟩
  have Ht10 := Lib.hid (hb rfl)
  clear hb
  obtain ⟨hf, ht, hfl, hwf, hwt, hwl, hnf, hnt, hnow, hlf, hlt, hm, hfc, htc, hcf, hct⟩ := Hall.out
  obtain ⟨nmP, lP, sP, nP, eP, hP10, hPl, hPw, hPs, hPm, hPr⟩ := makes_any nmf lf nf nmt lt nt now fl m hnow hwf hwt hnf hnt Hf10.out.1 Ht10.out.1 hlt hlf
  have HPs := Lib.hid hPs
  have HPw := Lib.hid hPw
  have HPm := Lib.hid hPm
  have HPr := Lib.hid hPr
  have HPl := Lib.hid hPl
  have hm12 : m ≤ 12 := by omega
  clear hPs hPw hPm hPr hf ht hfl hwf hwt hwl hnf hnt hnow hlf hlt hm hfc htc hcf hct hPl
  have p0 := B82.out.cell 0
  have p1 := B82.out.cell 1
  have s0 := B92.out.cell 0
  have s1 := B92.out.cell 1
  simp only [List.getElem?_toArray, List.getElem?_cons_succ, List.getElem?_cons_zero] at p0 p1 s0 s1
  have pa := fun o => (Fr.none_alloc w2 o).cell p0 (fun h => h)
  have pb := fun o => (Fr.none_alloc w2 o).cell p1 (fun h => h)
  have sa := fun o => (Fr.none_alloc w2 o).cell s0 (fun h => h)
  have sb := fun o => (Fr.none_alloc w2 o).cell s1 (fun h => h)
  unfold polV reachV planV at HPr HPm
  go_wp2_with fail
  obtain ⟨W3, hW3⟩ : ∃ W3, W3 = w2.alloc (.cells #[.int .i64 now, .string nmf, .slice Af nf cf, .slice B m d] 29) := ⟨_, rfl⟩
  rw [← hW3]
  have O3 : Hid (Own w W3 (fun _ => False)) := hW3 ▸ O2.out.skip (Fr.none_alloc _ _)
  have B17 : Hid (Blk W3 w2.heap.size 29 #[.int .i64 now, .string nmf, .slice Af nf cf, .slice B m d]) := hW3 ▸ Blk.new _ _ _
  have B83 : Hid (Blk W3 w.heap.size 24 #[.string nmf, .slice Af nf cf]) := hW3 ▸ B82.out.alloc _
  have B93 : Hid (Blk W3 (w.heap.size + 1) 24 #[.string nmt, .slice At nt ct]) := hW3 ▸ B92.out.alloc _
  clear p0 p1 s0 s1 pa pb sa sb hW3 B82 B92 O2
  refine (HPr.out Af cf nmf Af cf B d At ct W3 (Hall.out.1.below O3.out.bel) (Hall.out.1.below O3.out.bel) (Hall.out.2.2.1.below O3.out.bel) (Hall.out.2.1.below O3.out.bel)).mono ?_
  rintro r w4 ⟨⟨Aq, cq, Sq, csq, rfl, hq1, hq2⟩, b4⟩
  have O4 := Lib.hid (O3.out.below b4)
  have B84 := Lib.hid (B83.out.below b4)
  have B94 := Lib.hid (B93.out.below b4)
  have B174 := Lib.hid (B17.out.below b4)
  have HQ1 := Lib.hid hq1
  have HQ2 := Lib.hid hq2
  clear hq1 hq2 b4 O3 B83 B93 B17 HPr
  go_wp2_with fail
  obtain ⟨W5, hW5⟩ : ∃ W5, W5 = w4.alloc (.cells #[.string nmP, .slice Aq nP cq, .slice Sq nP csq] 31) := ⟨_, rfl⟩
  have O5 : Hid (Own w W5 (fun _ => False)) := hW5 ▸ O4.out.skip (Fr.none_alloc _ _)
  have B85 : Hid (Blk W5 w.heap.size 24 #[.string nmf, .slice Af nf cf]) := hW5 ▸ B84.out.alloc _
  have B95 : Hid (Blk W5 (w.heap.size + 1) 24 #[.string nmt, .slice At nt ct]) := hW5 ▸ B94.out.alloc _
  have B175 : Hid (Blk W5 w2.heap.size 29 #[.int .i64 now, .string nmf, .slice Af nf cf, .slice B m d]) := hW5 ▸ B174.out.alloc _
  have B185 : Hid (Blk W5 w4.heap.size 31 #[.string nmP, .slice Aq nP cq, .slice Sq nP csq]) := hW5 ▸ Blk.new _ _ _
  have Q15 : Hid (Rd W5 4 Aq nP (tcells lP)) := hW5 ▸ HQ1.out.alloc _
  have Q25 : Hid (Rd W5 1 Sq nP (ints sP)) := hW5 ▸ HQ2.out.alloc _
  obtain ⟨gb, hgb⟩ : ∃ gb, w4.heap.size + 1 = gb := ⟨_, rfl⟩
  have Hgb : Hid (W5.heap.size = gb) := by show _ = _; rw [hW5, ← hgb]; simp
  have BK := Lib.hid (BookIT.new W5)
  rw [Hgb.out] at BK
  obtain ⟨WB, hWB⟩ : ∃ WB, WB = W5.alloc (.cells #[.slice none 0 0, .slice none 0 0, .slice none 0 0, .slice none 0 0, .slice none 0 0, .slice none 0 0, .slice none 0 0, .slice none 0 0, .slice none 0 0, .slice none 0 0, .slice none 0 0, .slice none 0 0, .slice none 0 0, .slice none 0 0, .slice none 0 0, .slice none 0 0] 45) := ⟨_, rfl⟩
  rw [← hWB] at BK
  have HW5 := Lib.hid (Fr.b0 O5.out.bel)
  have HO5 := Lib.hid O5.out.bel
  have FB : Fr (fun _ => False) W5 WB := hWB ▸ Fr.none_alloc _ _
  have OB := Lib.hid (O5.out.skip FB)
  rw [← hW5, ← hWB, hgb]
  clear hgb hW5 hWB B84 B94 B174 HQ1 HQ2 O4 O5
  go_wp2_with fail
  go_loopw [21] (fun i wr => ∃ (k0 LI LT : Nat), k0 ≤ 2 ∧ i = .int .i64 k0 ∧ BookIT wr gb gb (2 * k0) LI k0 LT ∧ Fr (fun _ => False) W5 wr) (fun i _ => 2 - (intOf i).toNat)
  case atStart => exact ⟨0, 0, 0, by omega, rfl, BK.out, FB⟩
  case round =>
    obtain ⟨k0, LI, LT, hk0, rfl, hbk, hfr⟩ := hrel
    clear FB BK OB
    have O5r := Lib.hid ((Own.start W5).skip hfr)
    by_cases hlt0 : k0 < 2
    · have HBK := Lib.hid hbk.lim
      have c80 := (B85.out.fr hfr (fun h => h)).cell 0
      have c81 := (B85.out.fr hfr (fun h => h)).cell 1
      simp only [List.getElem?_toArray, List.getElem?_cons_succ, List.getElem?_cons_zero] at c80 c81
      have HFr := Lib.hid hfr
      have HOF : Hid (Calls Tryz.prog 7 #[polV nmf Af nf cf, .int .i64 now, .slice B m d] wr fun r w' => (∃ A' c' B' d', r = .returned (reachV now nmf A' nf c' B' m d') ∧ w'.ownsRow wr.heap.size 69 4 (.slice A' nf c') nf (tcells lf) ∧ w'.ownsRow wr.heap.size 3 1 (.slice B' m d') m (ints fl)) ∧ Below wr.heap.size wr w') :=
        of_own nmf lf Af nf cf now fl B m d wr (Hall.out.1.fr0 (HW5.out.trans hfr (fun _ h => h.elim))) (by have := Hf10.out.1; omega) (Hall.out.2.2.1.fr0 (HW5.out.trans hfr (fun _ h => h.elim))) (by omega)
      clear hbk hfr
      go_wp2_with fail
      unfold polV reachV at HOF
      refine (HOF.out).mono ?_
      rintro r w6 ⟨⟨Ar, cr, Br, dr, rfl, hr1, hr2⟩, b6⟩
      have K6 := Lib.hid (HFr.out.trans (Fr.b0 b6) (fun _ h => h.elim))
      have HR1 := Lib.hid hr1
      have HR2 := Lib.hid hr2
      have BK6 := Lib.hid (HBK.out.fr b6)
      have hsz6 := Lib.hid b6.size
      have c80 := (B85.out.fr K6.out (fun h => h)).cell 0
      have c81 := (B85.out.fr K6.out (fun h => h)).cell 1
      have c90 := (B95.out.fr K6.out (fun h => h)).cell 0
      have c91 := (B95.out.fr K6.out (fun h => h)).cell 1
      simp only [List.getElem?_toArray, List.getElem?_cons_succ, List.getElem?_cons_zero] at c80 c81 c90 c91
      have pa := fun o => (Fr.none_alloc w6 o).cell c80 (fun h => h)
      have pb := fun o => (Fr.none_alloc w6 o).cell c81 (fun h => h)
      have sa := fun o => (Fr.none_alloc w6 o).cell c90 (fun h => h)
      have sb := fun o => (Fr.none_alloc w6 o).cell c91 (fun h => h)
      clear hr1 hr2 b6 HOF HBK
      go_wp2_with fail
      obtain ⟨W7, hW7⟩ : ∃ W7, W7 = w6.alloc (.cells #[.int .i64 now, .string nmf, .slice Ar nf cr, .slice Br m dr] 47) := ⟨_, rfl⟩
      rw [← hW7]
      have K7 : Hid (Fr (fun _ => False) W5 W7) := by show Fr _ _ _; rw [hW7]; exact K6.out.trans (Fr.none_alloc _ _) (fun _ h => h.elim)
      have BR7 : Hid (Blk W7 w6.heap.size 47 #[.int .i64 now, .string nmf, .slice Ar nf cr, .slice Br m dr]) := hW7 ▸ Blk.new _ _ _
      have R17 : Hid (W7.ownsRow wr.heap.size 69 4 (.slice Ar nf cr) nf (tcells lf)) := by show World.ownsRow _ _ _ _ _ _ _; rw [hW7]; exact own_fr0 HR1.out (Fr.none_alloc _ _)
      have R27 : Hid (W7.ownsRow wr.heap.size 3 1 (.slice Br m dr) m (ints fl)) := by show World.ownsRow _ _ _ _ _ _ _; rw [hW7]; exact own_fr0 HR2.out (Fr.none_alloc _ _)
      have BK7 : Hid (BookIT W7 gb gb (2 * k0) wr.heap.size k0 wr.heap.size) := by rw [hW7]; exact BK6.out.fr ((Fr.none_alloc _ _).below (fun _ h => h.elim))
      have hsz7 : Hid (wr.heap.size ≤ W7.heap.size) := by show _ ≤ _; rw [hW7]; have := hsz6.out; simp; omega
      clear hW7 HR1 HR2 BK6 K6 pa pb sa sb c80 c81 c90 c91 hsz6
      refine (HPm.out Af cf nmf Ar cr Br dr At ct W7 (Hall.out.1.fr0 (HW5.out.trans K7.out (fun _ h => h.elim))) Hall.out.2.2.2.2.2.2.2.2.2.2.2.2.1 (own_any R17.out).2.2.1 (own_any R27.out).2.2.1 (Hall.out.2.1.fr0 (HW5.out.trans K7.out (fun _ h => h.elim))) Hall.out.2.2.2.2.2.2.2.2.2.2.2.2.2.1).mono ?_
      rintro r w8 ⟨⟨A', c', S, cs, rfl, hp1, hp2⟩, b8⟩
      have HP1 := Lib.hid hp1
      have HP2 := Lib.hid hp2
      have K8 := Lib.hid (K7.out.trans (Fr.b0 b8) (fun _ h => h.elim))
      have BR8 := Lib.hid (BR7.out.below b8)
      have R18 := Lib.hid (own_fr0 R17.out (Fr.b0 b8))
      have R28 := Lib.hid (own_fr0 R27.out (Fr.b0 b8))
      have BK8 := Lib.hid (BK7.out.fr b8)
      clear hp1 hp2 b8 BR7 R17 R27 BK7 K7
      have tb := fun o => (Fr.none_alloc w8 o).cell (BR8.out.cell 0) (fun h => h)
      go_wp2_with fail
      clear tb
      obtain ⟨W9, hW9⟩ : ∃ W9, W9 = w8.alloc (.cells #[.string nmP, .slice A' nP c', .slice S nP cs] 49) := ⟨_, rfl⟩
      rw [← hW9]
      have K9 : Hid (Fr (fun _ => False) W5 W9) := by show Fr _ _ _; rw [hW9]; exact K8.out.trans (Fr.none_alloc _ _) (fun _ h => h.elim)
      have BP9 : Hid (Blk W9 w8.heap.size 49 #[.string nmP, .slice A' nP c', .slice S nP cs]) := hW9 ▸ Blk.new _ _ _
      have BR9 : Hid (Blk W9 w6.heap.size 47 #[.int .i64 now, .string nmf, .slice Ar nf cr, .slice Br m dr]) := by rw [hW9]; exact BR8.out.alloc _
      have R19 : Hid (W9.ownsRow wr.heap.size 69 4 (.slice Ar nf cr) nf (tcells lf)) := by show World.ownsRow _ _ _ _ _ _ _; rw [hW9]; exact own_fr0 R18.out (Fr.none_alloc _ _)
      have R29 : Hid (W9.ownsRow wr.heap.size 3 1 (.slice Br m dr) m (ints fl)) := by show World.ownsRow _ _ _ _ _ _ _; rw [hW9]; exact own_fr0 R28.out (Fr.none_alloc _ _)
      have P19 : Hid (W9.ownsRow wr.heap.size 69 4 (.slice A' nP c') nP (tcells lP)) := by show World.ownsRow _ _ _ _ _ _ _; rw [hW9]; exact own_le (own_fr0 HP1.out (Fr.none_alloc _ _)) hsz7.out
      have P29 : Hid (W9.ownsRow wr.heap.size 3 1 (.slice S nP cs) nP (ints sP)) := by show World.ownsRow _ _ _ _ _ _ _; rw [hW9]; exact own_le (own_fr0 HP2.out (Fr.none_alloc _ _)) hsz7.out
      have BK9 : Hid (BookIT W9 gb gb (2 * k0) wr.heap.size k0 wr.heap.size) := by rw [hW9]; exact BK8.out.fr ((Fr.none_alloc _ _).below (fun _ h => h.elim))
      have pl0 := BP9.out.cell 0
      have pl1 := BP9.out.cell 1
      have pl2 := BP9.out.cell 2
      simp only [List.getElem?_toArray, List.getElem?_cons_succ, List.getElem?_cons_zero] at pl0 pl1 pl2
      have hw5r : Hid (gb ≤ wr.heap.size) := by rw [← Hgb.out]; exact HFr.out.size
      have hw9 : Hid (gb ≤ W9.heap.size) := by rw [← Hgb.out]; exact K9.out.size
      clear hW9 K8 BR8 R18 R28 HP1 HP2 BK8
      go_wp2_with fail
      refine (BK9.out.addI (by omega) sP S nP cs wr.heap.size (by rw [ints_icells]; exact P29.out) hw5r.out (Nat.le_refl _) (by omega)).mono ?_
      rintro r w10 ⟨rfl, bk10, F1, ff1, hf1, hoff1⟩
      have BK10 := Lib.hid bk10
      have K10 := Lib.hid (K9.out.trans ff1 (fun i hi => .inr (by rw [Hgb.out]; exact hf1 i hi)))
      have BP10 := Lib.hid ((hoff1 [49] (by decide) (by decide)).blkf BP9.out (by decide) ff1)
      have BR10 := Lib.hid ((hoff1 [47] (by decide) (by decide)).blkf BR9.out (by decide) ff1)
      have R110 := Lib.hid ((hoff1 [69] (by decide) (by decide)).own R19.out (by decide) ff1)
      have R210 := Lib.hid ((hoff1 [3] (by decide) (by decide)).own R29.out (by decide) ff1)
      have P110 := Lib.hid ((hoff1 [69] (by decide) (by decide)).own P19.out (by decide) ff1)
      have P210 := Lib.hid ((hoff1 [3] (by decide) (by decide)).own P29.out (by decide) ff1)
      have hz10 := Lib.hid ff1.size
      clear bk10 ff1 hf1 hoff1 BK9 K9 BP9 BR9 R19 R29 P19 P29 pl0 pl1 pl2
      have pl1 := BP10.out.cell 1
      simp only [List.getElem?_toArray, List.getElem?_cons_succ, List.getElem?_cons_zero] at pl1
      go_wp2_with fail
      refine (BK10.out.addT (by omega) lP A' nP c' wr.heap.size P110.out hw5r.out (Nat.le_refl _) (by omega)).mono ?_
      rintro r w11 ⟨rfl, bk11, F1, ff1, hf1, hoff1⟩
      have BK11 := Lib.hid bk11
      have K11 := Lib.hid (K10.out.trans ff1 (fun i hi => .inr (by rw [Hgb.out]; exact hf1 i hi)))
      have BP11 := Lib.hid ((hoff1 [49] (by decide) (by decide)).blkf BP10.out (by decide) ff1)
      have BR11 := Lib.hid ((hoff1 [47] (by decide) (by decide)).blkf BR10.out (by decide) ff1)
      have R111 := Lib.hid ((hoff1 [69] (by decide) (by decide)).own R110.out (by decide) ff1)
      have R211 := Lib.hid ((hoff1 [3] (by decide) (by decide)).own R210.out (by decide) ff1)
      have P111 := Lib.hid ((hoff1 [69] (by decide) (by decide)).own P110.out (by decide) ff1)
      have P211 := Lib.hid ((hoff1 [3] (by decide) (by decide)).own P210.out (by decide) ff1)
      have hz11 := Lib.hid ff1.size
      clear bk11 ff1 hf1 hoff1 BK10 K10 BP10 BR10 R110 R210 P110 P210 pl1
      have HSI : Hid (∀ W, Fr (fun _ => False) w11 W → Calls Tryz.prog 11 #[.slice S nP cs, .slice Sq nP csq] W fun r w'' => r = .returned (.bool true) ∧ Below W.heap.size W w'') := fun W f =>
        sameints_eq sP S nP cs Sq csq W (by rw [ints_icells]; exact ((own_any P211.out).2.2.1.fr0 f)) (by rw [ints_icells]; exact (Q25.out.fr0 (K11.out.trans f (fun _ h => h.elim)))) (by omega)
      have HSM : Hid (∀ W, Fr (fun _ => False) w11 W → Calls Tryz.prog 12 #[.agg #[.string nmP, .slice A' nP c'], .agg #[.string nmP, .slice Aq nP cq]] W fun r w'' => r = .returned (.bool true) ∧ Below W.heap.size W w'') := fun W f => by
        refine (ref_same_any nmP nmP lP lP A' nP c' Aq nP cq W ((own_any P111.out).2.2.1.fr0 f) (Q15.out.fr0 (K11.out.trans f (fun _ h => h.elim))) (by omega) (by omega)).mono ?_
        rintro r w'' ⟨e, b⟩
        exact ⟨by rw [e]; simp, b⟩
      have HS1 : Hid (∀ W, Fr (fun _ => False) w11 W → Calls Tryz.prog 13 #[.agg #[.string nmP, .slice A' nP c', .slice S nP cs]] W fun r w'' => r = .returned (.int .i64 (stepsV lP)) ∧ Below W.heap.size W w'') := fun W f => by
        refine (steps_any nmP lP A' nP c' S nP cs W ((own_any P111.out).2.2.1.fr0 f) (by omega) (fun t ht => (HPs.out t ht).2)).mono ?_
        rintro r w'' ⟨e, b⟩
        exact ⟨e, b⟩
      have HS2 : Hid (∀ W, Fr (fun _ => False) w11 W → Calls Tryz.prog 14 #[.agg #[.string nmP, .slice Aq nP cq, .slice Sq nP csq]] W fun r w'' => r = .returned (.int .i64 (stepsV lP)) ∧ Below W.heap.size W w'') := fun W f => by
        refine (ref_steps_any nmP lP Aq nP cq Sq nP csq W (Q15.out.fr0 (K11.out.trans f (fun _ h => h.elim))) (by omega) (fun t ht => ⟨by have := (HPs.out t ht).1; omega, (HPs.out t ht).2⟩)).mono ?_
        rintro r w'' ⟨e, b⟩
        exact ⟨e, b⟩
      obtain ⟨sv, hsv⟩ : ∃ sv, stepsV lP = sv := ⟨_, rfl⟩
      rw [hsv] at HS1 HS2
      clear hsv
      have HC11 : Hid (∀ W, Fr (fun _ => False) w11 W → W.cell? ⟨w8.heap.size, 0, none⟩ = some (.string nmP) ∧ W.cell? ⟨w8.heap.size, 1, none⟩ = some (.slice A' nP c') ∧ W.cell? ⟨w8.heap.size, 2, none⟩ = some (.slice S nP cs) ∧ W.cell? ⟨w4.heap.size, 0, none⟩ = some (.string nmP) ∧ W.cell? ⟨w4.heap.size, 1, none⟩ = some (.slice Aq nP cq) ∧ W.cell? ⟨w4.heap.size, 2, none⟩ = some (.slice Sq nP csq) ∧ W.cell? ⟨w6.heap.size, 0, none⟩ = some (.int .i64 now) ∧ W.cell? ⟨w6.heap.size, 1, none⟩ = some (.string nmf) ∧ W.cell? ⟨w6.heap.size, 2, none⟩ = some (.slice Ar nf cr) ∧ W.cell? ⟨w6.heap.size, 3, none⟩ = some (.slice Br m dr)) := fun W f => ⟨(BP11.out.fr f (fun h => h)).cell 0, (BP11.out.fr f (fun h => h)).cell 1, (BP11.out.fr f (fun h => h)).cell 2, ((B185.out.fr K11.out (fun h => h)).fr f (fun h => h)).cell 0, ((B185.out.fr K11.out (fun h => h)).fr f (fun h => h)).cell 1, ((B185.out.fr K11.out (fun h => h)).fr f (fun h => h)).cell 2, (BR11.out.fr f (fun h => h)).cell 0, (BR11.out.fr f (fun h => h)).cell 1, (BR11.out.fr f (fun h => h)).cell 2, (BR11.out.fr f (fun h => h)).cell 3⟩
      have hee : (eP != eP) = false := bne_self_eq_false eP
      have hss : (sv != sv) = false := bne_self_eq_false sv
      go_wp2_with fail
      refine wp_region_held_drew (S := fun W => Fr (fun _ => False) w11 W) (by kernel_rfl) ((Fr.refl _ w11).drew) (fun hHeld => ?_)
      refine wpAnyH_take (i := 0) (oi := { dst := some 96, op := Op.move (Operand.tmp 24), type := 32, pos := "law.go:72", after := #[], guard := none }) (v := ?vq1) rfl (by kernel_rfl) (by kernel_rfl) (by kernel_rfl) (fun _ _ _ h => h) (Or.inl ⟨by rfl, ?hq1⟩) (by assumption) ?rq1
      case hq1 => intro W hSw; (try obtain ⟨u0, u1, u2, v0, v1, v2, y0, y1, y2, y3⟩ := HC11.out W hSw); go_simp; (try with_reducible rfl)
      try simp only [Act.put, List.setIfInBounds_toArray, List.set_cons_zero, List.set_cons_succ]
      refine wpAnyH_take (i := 1) (oi := { dst := some 97, op := Op.move (Operand.tmp 19), type := 32, pos := "law.go:72", after := #[], guard := none }) (v := ?vq2) rfl (by kernel_rfl) (by kernel_rfl) (by kernel_rfl) (fun _ _ _ h => h) (Or.inl ⟨by rfl, ?hq2⟩) (by assumption) ?rq2
      case hq2 => intro W hSw; (try obtain ⟨u0, u1, u2, v0, v1, v2, y0, y1, y2, y3⟩ := HC11.out W hSw); go_simp; (try with_reducible rfl)
      try simp only [Act.put, List.setIfInBounds_toArray, List.set_cons_zero, List.set_cons_succ]
      refine wpAnyH_take (i := 2) (oi := { dst := some 98, op := Op.binOp BinOp.neq 32 (Operand.tmp 96) (Operand.tmp 97) 32, type := 4, pos := "law.go:72", after := #[{ on := 0, ground := Ground.data }, { on := 1, ground := Ground.data }], guard := none }) (v := ?vq3) rfl (by kernel_rfl) (by kernel_rfl) (by kernel_rfl) (fun _ _ _ h => h) (Or.inl ⟨by rfl, ?hq3⟩) (by assumption) ?rq3
      case hq3 => intro W hSw; (try obtain ⟨u0, u1, u2, v0, v1, v2, y0, y1, y2, y3⟩ := HC11.out W hSw); go_simp; (try with_reducible rfl)
      try simp only [Act.put, List.setIfInBounds_toArray, List.set_cons_zero, List.set_cons_succ]
      refine wpAnyH_take (i := 3) (oi := { dst := some 99, op := Op.move (Operand.tmp 98), type := 4, pos := "law.go:72", after := #[{ on := 2, ground := Ground.data }], guard := none }) (v := ?vq4) rfl (by kernel_rfl) (by kernel_rfl) (by kernel_rfl) (fun _ _ _ h => h) (Or.inl ⟨by rfl, ?hq4⟩) (by assumption) ?rq4
      case hq4 => intro W hSw; (try obtain ⟨u0, u1, u2, v0, v1, v2, y0, y1, y2, y3⟩ := HC11.out W hSw); go_simp; (try with_reducible rfl)
      try simp only [Act.put, List.setIfInBounds_toArray, List.set_cons_zero, List.set_cons_succ]
      refine wpAnyH_take (i := 4) (oi := { dst := some 100, op := Op.fieldAddr 49 (Operand.tmp 23) 1, type := 0, pos := "law.go:72", after := #[{ on := 3, ground := Ground.guard }], guard := some (3, false) }) (v := ?vq5) rfl (by kernel_rfl) (by kernel_rfl) (by kernel_rfl) (fun _ _ _ h => h) (Or.inl ⟨by rfl, ?hq5⟩) (by assumption) ?rq5
      case hq5 => intro W hSw; (try obtain ⟨u0, u1, u2, v0, v1, v2, y0, y1, y2, y3⟩ := HC11.out W hSw); go_simp; (try with_reducible rfl)
      try simp only [Act.put, List.setIfInBounds_toArray, List.set_cons_zero, List.set_cons_succ]
      refine wpAnyH_take (i := 5) (oi := { dst := some 101, op := Op.load 25 (Operand.tmp 100), type := 25, pos := "law.go:72", after := #[{ on := 4, ground := Ground.data }, { on := 3, ground := Ground.guard }], guard := some (3, false) }) (v := ?vq6) rfl (by kernel_rfl) (by kernel_rfl) (by kernel_rfl) (fun _ _ _ h => h) (Or.inl ⟨by rfl, ?hq6⟩) (by assumption) ?rq6
      case hq6 => intro W hSw; (try obtain ⟨u0, u1, u2, v0, v1, v2, y0, y1, y2, y3⟩ := HC11.out W hSw); go_simp; (try with_reducible rfl)
      try simp only [Act.put, List.setIfInBounds_toArray, List.set_cons_zero, List.set_cons_succ]
      refine wpAnyH_take (i := 6) (oi := { dst := some 102, op := Op.fieldAddr 31 (Operand.tmp 18) 1, type := 0, pos := "law.go:72", after := #[{ on := 3, ground := Ground.guard }], guard := some (3, false) }) (v := ?vq7) rfl (by kernel_rfl) (by kernel_rfl) (by kernel_rfl) (fun _ _ _ h => h) (Or.inl ⟨by rfl, ?hq7⟩) (by assumption) ?rq7
      case hq7 => intro W hSw; (try obtain ⟨u0, u1, u2, v0, v1, v2, y0, y1, y2, y3⟩ := HC11.out W hSw); go_simp; (try with_reducible rfl)
      try simp only [Act.put, List.setIfInBounds_toArray, List.set_cons_zero, List.set_cons_succ]
      refine wpAnyH_take (i := 7) (oi := { dst := some 103, op := Op.load 25 (Operand.tmp 102), type := 25, pos := "law.go:72", after := #[{ on := 6, ground := Ground.data }, { on := 3, ground := Ground.guard }], guard := some (3, false) }) (v := ?vq8) rfl (by kernel_rfl) (by kernel_rfl) (by kernel_rfl) (fun _ _ _ h => h) (Or.inl ⟨by rfl, ?hq8⟩) (by assumption) ?rq8
      case hq8 => intro W hSw; (try obtain ⟨u0, u1, u2, v0, v1, v2, y0, y1, y2, y3⟩ := HC11.out W hSw); go_simp; (try with_reducible rfl)
      try simp only [Act.put, List.setIfInBounds_toArray, List.set_cons_zero, List.set_cons_succ]
      refine wpAnyH_ready (rs := [8]) (by kernel_rfl) (by simp) ?_
      refine AllReadyH.cons (o := { dst := some 104, op := Op.call { callee := Callee.value (Operand.func 11), args := #[Operand.tmp 101, Operand.tmp 103], argTypes := #[25, 25] }, type := 4, pos := "law.go:72", after := #[{ on := 5, ground := Ground.data }, { on := 7, ground := Ground.data }, { on := 3, ground := Ground.chain }, { on := 3, ground := Ground.guard }], guard := some (3, false) }) rfl (fun K hK => ?_) AllReadyH.nil
      go_simp
      go_wp2_with (first | (go_at_call 11; refine (HSI.out _ (hHeld)).mono ?_; rintro r w12 ⟨rfl, b12⟩))
      refine hK.out _ _ (hHeld.trans (Fr.b0 b12) (fun _ h => h.elim)) (fun hHeld => ?_)
      clear hK K
      try simp only [Act.put, List.setIfInBounds_toArray, List.set_cons_zero, List.set_cons_succ]
      refine wpAnyH_take (i := 9) (oi := { dst := some 105, op := Op.unOp UnOp.not 4 (Operand.tmp 104), type := 4, pos := "law.go:72", after := #[{ on := 8, ground := Ground.data }, { on := 3, ground := Ground.guard }], guard := some (3, false) }) (v := ?vq9) rfl (by kernel_rfl) (by kernel_rfl) (by kernel_rfl) (fun _ _ _ h => h) (Or.inl ⟨by rfl, ?hq9⟩) (by assumption) ?rq9
      case hq9 => intro W hSw; (try obtain ⟨u0, u1, u2, v0, v1, v2, y0, y1, y2, y3⟩ := HC11.out W hSw); go_simp; (try with_reducible rfl)
      try simp only [Act.put, List.setIfInBounds_toArray, List.set_cons_zero, List.set_cons_succ]
      refine wpAnyH_take (i := 10) (oi := { dst := some 106, op := Op.pick (Operand.tmp 99) (Operand.const (Value.bool true)) (Operand.tmp 105), type := 4, pos := "law.go:72", after := #[{ on := 3, ground := Ground.data }, { on := 9, ground := Ground.data }], guard := none }) (v := ?vq10) rfl (by kernel_rfl) (by kernel_rfl) (by kernel_rfl) (fun _ _ _ h => h) (Or.inl ⟨by rfl, ?hq10⟩) (by assumption) ?rq10
      case hq10 => intro W hSw; (try obtain ⟨u0, u1, u2, v0, v1, v2, y0, y1, y2, y3⟩ := HC11.out W hSw); go_simp; (try with_reducible rfl)
      try simp only [Act.put, List.setIfInBounds_toArray, List.set_cons_zero, List.set_cons_succ]
      refine wpAnyH_take (i := 11) (oi := { dst := some 107, op := Op.move (Operand.tmp 106), type := 4, pos := "law.go:72", after := #[{ on := 10, ground := Ground.data }, { on := 8, ground := Ground.chain }], guard := none }) (v := ?vq11) rfl (by kernel_rfl) (by kernel_rfl) (by kernel_rfl) (fun _ _ _ h => h) (Or.inl ⟨by rfl, ?hq11⟩) (by assumption) ?rq11
      case hq11 => intro W hSw; (try obtain ⟨u0, u1, u2, v0, v1, v2, y0, y1, y2, y3⟩ := HC11.out W hSw); go_simp; (try with_reducible rfl)
      try simp only [Act.put, List.setIfInBounds_toArray, List.set_cons_zero, List.set_cons_succ]
      refine wpAnyH_take (i := 12) (oi := { dst := some 108, op := Op.fieldAddr 49 (Operand.tmp 23) 0, type := 0, pos := "law.go:72", after := #[{ on := 11, ground := Ground.guard }], guard := some (11, false) }) (v := ?vq12) rfl (by kernel_rfl) (by kernel_rfl) (by kernel_rfl) (fun _ _ _ h => h) (Or.inl ⟨by rfl, ?hq12⟩) (by assumption) ?rq12
      case hq12 => intro W hSw; (try obtain ⟨u0, u1, u2, v0, v1, v2, y0, y1, y2, y3⟩ := HC11.out W hSw); go_simp; (try with_reducible rfl)
      try simp only [Act.put, List.setIfInBounds_toArray, List.set_cons_zero, List.set_cons_succ]
      refine wpAnyH_take (i := 13) (oi := { dst := some 109, op := Op.load 24 (Operand.tmp 108), type := 24, pos := "law.go:72", after := #[{ on := 12, ground := Ground.data }, { on := 11, ground := Ground.guard }], guard := some (11, false) }) (v := ?vq13) rfl (by kernel_rfl) (by kernel_rfl) (by kernel_rfl) (fun _ _ _ h => h) (Or.inl ⟨by rfl, ?hq13⟩) (by assumption) ?rq13
      case hq13 => intro W hSw; (try obtain ⟨u0, u1, u2, v0, v1, v2, y0, y1, y2, y3⟩ := HC11.out W hSw); go_simp; (try with_reducible rfl)
      try simp only [Act.put, List.setIfInBounds_toArray, List.set_cons_zero, List.set_cons_succ]
      refine wpAnyH_take (i := 14) (oi := { dst := some 110, op := Op.fieldAddr 31 (Operand.tmp 18) 0, type := 0, pos := "law.go:72", after := #[{ on := 11, ground := Ground.guard }], guard := some (11, false) }) (v := ?vq14) rfl (by kernel_rfl) (by kernel_rfl) (by kernel_rfl) (fun _ _ _ h => h) (Or.inl ⟨by rfl, ?hq14⟩) (by assumption) ?rq14
      case hq14 => intro W hSw; (try obtain ⟨u0, u1, u2, v0, v1, v2, y0, y1, y2, y3⟩ := HC11.out W hSw); go_simp; (try with_reducible rfl)
      try simp only [Act.put, List.setIfInBounds_toArray, List.set_cons_zero, List.set_cons_succ]
      refine wpAnyH_take (i := 15) (oi := { dst := some 111, op := Op.load 24 (Operand.tmp 110), type := 24, pos := "law.go:72", after := #[{ on := 14, ground := Ground.data }, { on := 11, ground := Ground.guard }], guard := some (11, false) }) (v := ?vq15) rfl (by kernel_rfl) (by kernel_rfl) (by kernel_rfl) (fun _ _ _ h => h) (Or.inl ⟨by rfl, ?hq15⟩) (by assumption) ?rq15
      case hq15 => intro W hSw; (try obtain ⟨u0, u1, u2, v0, v1, v2, y0, y1, y2, y3⟩ := HC11.out W hSw); go_simp; (try with_reducible rfl)
      try simp only [Act.put, List.setIfInBounds_toArray, List.set_cons_zero, List.set_cons_succ]
      refine wpAnyH_ready (rs := [16]) (by kernel_rfl) (by simp) ?_
      refine AllReadyH.cons (o := { dst := some 112, op := Op.call { callee := Callee.value (Operand.func 12), args := #[Operand.tmp 109, Operand.tmp 111], argTypes := #[24, 24] }, type := 4, pos := "law.go:72", after := #[{ on := 13, ground := Ground.data }, { on := 15, ground := Ground.data }, { on := 11, ground := Ground.chain }, { on := 11, ground := Ground.guard }], guard := some (11, false) }) rfl (fun K hK => ?_) AllReadyH.nil
      go_simp
      go_wp2_with (first | (go_at_call 12; refine (HSM.out _ (hHeld)).mono ?_; rintro r w13 ⟨rfl, b13⟩))
      refine hK.out _ _ (hHeld.trans (Fr.b0 b13) (fun _ h => h.elim)) (fun hHeld => ?_)
      clear hK K
      try simp only [Act.put, List.setIfInBounds_toArray, List.set_cons_zero, List.set_cons_succ]
      refine wpAnyH_take (i := 17) (oi := { dst := some 113, op := Op.unOp UnOp.not 4 (Operand.tmp 112), type := 4, pos := "law.go:72", after := #[{ on := 16, ground := Ground.data }, { on := 11, ground := Ground.guard }], guard := some (11, false) }) (v := ?vq16) rfl (by kernel_rfl) (by kernel_rfl) (by kernel_rfl) (fun _ _ _ h => h) (Or.inl ⟨by rfl, ?hq16⟩) (by assumption) ?rq16
      case hq16 => intro W hSw; (try obtain ⟨u0, u1, u2, v0, v1, v2, y0, y1, y2, y3⟩ := HC11.out W hSw); go_simp; (try with_reducible rfl)
      try simp only [Act.put, List.setIfInBounds_toArray, List.set_cons_zero, List.set_cons_succ]
      refine wpAnyH_take (i := 18) (oi := { dst := some 114, op := Op.pick (Operand.tmp 107) (Operand.const (Value.bool true)) (Operand.tmp 113), type := 4, pos := "law.go:72", after := #[{ on := 11, ground := Ground.data }, { on := 17, ground := Ground.data }], guard := none }) (v := ?vq17) rfl (by kernel_rfl) (by kernel_rfl) (by kernel_rfl) (fun _ _ _ h => h) (Or.inl ⟨by rfl, ?hq17⟩) (by assumption) ?rq17
      case hq17 => intro W hSw; (try obtain ⟨u0, u1, u2, v0, v1, v2, y0, y1, y2, y3⟩ := HC11.out W hSw); go_simp; (try with_reducible rfl)
      try simp only [Act.put, List.setIfInBounds_toArray, List.set_cons_zero, List.set_cons_succ]
      refine wpAnyH_take (i := 19) (oi := { dst := some 115, op := Op.move (Operand.tmp 114), type := 4, pos := "law.go:72", after := #[{ on := 18, ground := Ground.data }, { on := 16, ground := Ground.chain }], guard := none }) (v := ?vq18) rfl (by kernel_rfl) (by kernel_rfl) (by kernel_rfl) (fun _ _ _ h => h) (Or.inl ⟨by rfl, ?hq18⟩) (by assumption) ?rq18
      case hq18 => intro W hSw; (try obtain ⟨u0, u1, u2, v0, v1, v2, y0, y1, y2, y3⟩ := HC11.out W hSw); go_simp; (try with_reducible rfl)
      try simp only [Act.put, List.setIfInBounds_toArray, List.set_cons_zero, List.set_cons_succ]
      refine wpAnyH_take (i := 20) (oi := { dst := some 116, op := Op.load 49 (Operand.tmp 23), type := 49, pos := "law.go:72", after := #[{ on := 19, ground := Ground.guard }], guard := some (19, false) }) (v := ?vq19) rfl (by kernel_rfl) (by kernel_rfl) (by kernel_rfl) (fun _ _ _ h => h) (Or.inl ⟨by rfl, ?hq19⟩) (by assumption) ?rq19
      case hq19 => intro W hSw; (try obtain ⟨u0, u1, u2, v0, v1, v2, y0, y1, y2, y3⟩ := HC11.out W hSw); go_simp; (try with_reducible rfl)
      try simp only [Act.put, List.setIfInBounds_toArray, List.set_cons_zero, List.set_cons_succ]
      refine wpAnyH_take (i := 22) (oi := { dst := some 118, op := Op.load 31 (Operand.tmp 18), type := 31, pos := "law.go:72", after := #[{ on := 19, ground := Ground.guard }], guard := some (19, false) }) (v := ?vq20) rfl (by kernel_rfl) (by kernel_rfl) (by kernel_rfl) (fun _ _ _ h => h) (Or.inl ⟨by rfl, ?hq20⟩) (by assumption) ?rq20
      case hq20 => intro W hSw; (try obtain ⟨u0, u1, u2, v0, v1, v2, y0, y1, y2, y3⟩ := HC11.out W hSw); go_simp; (try with_reducible rfl)
      try simp only [Act.put, List.setIfInBounds_toArray, List.set_cons_zero, List.set_cons_succ]
      refine wpAnyH_ready (rs := [21]) (by kernel_rfl) (by simp) ?_
      refine AllReadyH.cons (o := { dst := some 117, op := Op.call { callee := Callee.value (Operand.func 13), args := #[Operand.tmp 116], argTypes := #[49] }, type := 3, pos := "law.go:72", after := #[{ on := 20, ground := Ground.data }, { on := 19, ground := Ground.chain }, { on := 19, ground := Ground.guard }], guard := some (19, false) }) rfl (fun K hK => ?_) AllReadyH.nil
      go_simp
      go_wp2_with (first | (go_at_call 13; refine (HS1.out _ (hHeld)).mono ?_; rintro r w14 ⟨rfl, b14⟩))
      refine hK.out _ _ (hHeld.trans (Fr.b0 b14) (fun _ h => h.elim)) (fun hHeld => ?_)
      clear hK K
      try simp only [Act.put, List.setIfInBounds_toArray, List.set_cons_zero, List.set_cons_succ]
      refine wpAnyH_ready (rs := [23]) (by kernel_rfl) (by simp) ?_
      refine AllReadyH.cons (o := { dst := some 119, op := Op.call { callee := Callee.value (Operand.func 14), args := #[Operand.tmp 118], argTypes := #[31] }, type := 3, pos := "law.go:72", after := #[{ on := 22, ground := Ground.data }, { on := 21, ground := Ground.chain }, { on := 19, ground := Ground.guard }], guard := some (19, false) }) rfl (fun K hK => ?_) AllReadyH.nil
      go_simp
      go_wp2_with (first | (go_at_call 14; refine (HS2.out _ (hHeld)).mono ?_; rintro r w15 ⟨rfl, b15⟩))
      refine hK.out _ _ (hHeld.trans (Fr.b0 b15) (fun _ h => h.elim)) (fun hHeld => ?_)
      clear hK K
      try simp only [Act.put, List.setIfInBounds_toArray, List.set_cons_zero, List.set_cons_succ]
      refine wpAnyH_take (i := 24) (oi := { dst := some 120, op := Op.binOp BinOp.neq 3 (Operand.tmp 117) (Operand.tmp 119) 3, type := 4, pos := "law.go:72", after := #[{ on := 21, ground := Ground.data }, { on := 23, ground := Ground.data }, { on := 19, ground := Ground.guard }], guard := some (19, false) }) (v := ?vq21) rfl (by kernel_rfl) (by kernel_rfl) (by kernel_rfl) (fun _ _ _ h => h) (Or.inl ⟨by rfl, ?hq21⟩) (by assumption) ?rq21
      case hq21 => intro W hSw; (try obtain ⟨u0, u1, u2, v0, v1, v2, y0, y1, y2, y3⟩ := HC11.out W hSw); go_simp; (try with_reducible rfl)
      try simp only [Act.put, List.setIfInBounds_toArray, List.set_cons_zero, List.set_cons_succ]
      refine wpAnyH_take (i := 25) (oi := { dst := some 121, op := Op.pick (Operand.tmp 115) (Operand.const (Value.bool true)) (Operand.tmp 120), type := 4, pos := "law.go:72", after := #[{ on := 19, ground := Ground.data }, { on := 24, ground := Ground.data }], guard := none }) (v := ?vq22) rfl (by kernel_rfl) (by kernel_rfl) (by kernel_rfl) (fun _ _ _ h => h) (Or.inl ⟨by rfl, ?hq22⟩) (by assumption) ?rq22
      case hq22 => intro W hSw; (try obtain ⟨u0, u1, u2, v0, v1, v2, y0, y1, y2, y3⟩ := HC11.out W hSw); go_simp; (try with_reducible rfl)
      try simp only [Act.put, List.setIfInBounds_toArray, List.set_cons_zero, List.set_cons_succ]
      refine wpAnyH_done (by kernel_rfl) ?_ _
      obtain ⟨u0, u1, u2, v0, v1, v2, y0, y1, y2, y3⟩ := HC11.out _ hHeld
      have HBs : Hid (Calls Tryz.prog 15 #[.agg #[.string nmP, .slice A' nP c', .slice S nP cs], .agg #[.int .i64 now, .string nmf, .slice Ar nf cr, .slice Br m dr]] w15 fun r w'' => (∃ A' c', r = .returned (.slice A' nP c') ∧ w''.ownsRow w15.heap.size 3 1 (.slice A' nP c') nP (ints (basesV now lf fl sP lP))) ∧ Below w15.heap.size w15 w'') := by
        have f := hHeld
        exact bases_own nmP lP A' nP c' sP S cs now Hall.out.2.2.2.2.2.2.2.2.1 nmf lf Ar nf cr fl Br m dr w15 ((own_any P111.out).2.2.1.fr0 f) ((own_any P211.out).2.2.1.fr0 f) ((own_any R111.out).2.2.1.fr0 f) ((own_any R211.out).2.2.1.fr0 f) HPw.out Hall.out.2.2.2.1 Hall.out.2.2.2.2.2.1 (by omega) (by have := Hf10.out.1; omega)
      have F15 := Lib.hid hHeld
      clear hHeld HSI HSM HS1 HS2 b12 b13 b14 b15 hee hss
      go_wp2_with fail
      refine HBs.out.mono ?_
      rintro r w16 ⟨⟨Ab, cb, rfl, hab⟩, b16⟩
      have F16 := Lib.hid (F15.out.trans (Fr.b0 b16) (fun _ h => h.elim))
      have BK16 := Lib.hid (BK11.out.fr (F16.out.below (fun _ h => h.elim)))
      have AB16 := Lib.hid (own_le hab (show W9.heap.size ≤ w15.heap.size by have := F15.out.size; have := hz10.out; have := hz11.out; omega))
      clear u0 u1 u2 v0 v1 v2 y0 y1 y2 y3 hab b16 HBs BK11 F15
      go_wp2_with fail
      refine (BK16.out.addI (by omega) (basesV now lf fl sP lP) Ab nP cb W9.heap.size (by rw [ints_icells]; exact AB16.out) hw9.out (Nat.le_refl _) (by omega)).mono ?_
      rintro r w17 ⟨rfl, bk17, F1, ff1, hf1, hoff1⟩
      have BK17 := Lib.hid bk17
      have K16 := Lib.hid (K11.out.trans F16.out (fun _ h => h.elim))
      have K17 := Lib.hid (K16.out.trans ff1 (fun i hi => .inr (by rw [Hgb.out]; exact hf1 i hi)))
      have BP17 := Lib.hid ((hoff1 [49] (by decide) (by decide)).blkf (BP11.out.fr F16.out (fun h => h)) (by decide) ff1)
      have BR17 := Lib.hid ((hoff1 [47] (by decide) (by decide)).blkf (BR11.out.fr F16.out (fun h => h)) (by decide) ff1)
      have R117 := Lib.hid ((hoff1 [69] (by decide) (by decide)).own (own_fr0 R111.out F16.out) (by decide) ff1)
      have R217 := Lib.hid ((hoff1 [3] (by decide) (by decide)).own (own_fr0 R211.out F16.out) (by decide) ff1)
      have P117 := Lib.hid ((hoff1 [69] (by decide) (by decide)).own (own_fr0 P111.out F16.out) (by decide) ff1)
      have P217 := Lib.hid ((hoff1 [3] (by decide) (by decide)).own (own_fr0 P211.out F16.out) (by decide) ff1)
      have AB17 := Lib.hid ((hoff1 [3] (by decide) (by decide)).own AB16.out (by decide) ff1)
      clear bk17 ff1 hf1 hoff1 BK16 K11 K16 F16 BP11 BR11 R111 R211 P111 P211 AB16 hz10 hz11 HC11
      have HC17 : Hid (∀ W, Fr (fun _ => False) w17 W → W.cell? ⟨w8.heap.size, 0, none⟩ = some (.string nmP) ∧ W.cell? ⟨w8.heap.size, 1, none⟩ = some (.slice A' nP c') ∧ W.cell? ⟨w8.heap.size, 2, none⟩ = some (.slice S nP cs) ∧ W.cell? ⟨w4.heap.size, 0, none⟩ = some (.string nmP) ∧ W.cell? ⟨w4.heap.size, 1, none⟩ = some (.slice Aq nP cq) ∧ W.cell? ⟨w4.heap.size, 2, none⟩ = some (.slice Sq nP csq) ∧ W.cell? ⟨w2.heap.size, 0, none⟩ = some (.int .i64 now) ∧ W.cell? ⟨w2.heap.size, 1, none⟩ = some (.string nmf) ∧ W.cell? ⟨w2.heap.size, 2, none⟩ = some (.slice Af nf cf) ∧ W.cell? ⟨w2.heap.size, 3, none⟩ = some (.slice B m d)) := fun W f => ⟨(BP17.out.fr f (fun h => h)).cell 0, (BP17.out.fr f (fun h => h)).cell 1, (BP17.out.fr f (fun h => h)).cell 2, ((B185.out.fr K17.out (fun h => h)).fr f (fun h => h)).cell 0, ((B185.out.fr K17.out (fun h => h)).fr f (fun h => h)).cell 1, ((B185.out.fr K17.out (fun h => h)).fr f (fun h => h)).cell 2, ((B175.out.fr K17.out (fun h => h)).fr f (fun h => h)).cell 0, ((B175.out.fr K17.out (fun h => h)).fr f (fun h => h)).cell 1, ((B175.out.fr K17.out (fun h => h)).fr f (fun h => h)).cell 2, ((B175.out.fr K17.out (fun h => h)).fr f (fun h => h)).cell 3⟩
      have HAt : Hid (∀ W, Fr (fun _ => False) w17 W → Calls Tryz.prog 16 #[.agg #[.string nmP, .slice A' nP c', .slice S nP cs], .int .i64 k] W fun r w'' => r = .returned (.tuple #[stepVal (atV lP k).1, .bool (atV lP k).2]) ∧ Below W.heap.size W w'') := fun W f => by
        refine (at_any nmP lP A' nP c' S nP cs k HK.out W ((own_any P117.out).2.2.1.fr0 f) (by omega) (fun t ht => (HPs.out t ht).2)).mono ?_
        rintro r w'' ⟨e, b⟩
        exact ⟨e, b⟩
      have HRt : Hid (∀ W, Fr (fun _ => False) w17 W → Calls Tryz.prog 17 #[.agg #[.string nmP, .slice Aq nP cq, .slice Sq nP csq], .int .i64 k] W fun r w'' => r = .returned (.tuple #[.int .i64 (atV lP k).1.1, .int .i64 (atV lP k).1.2.1, .int .i64 (atV lP k).1.2.2, .bool (atV lP k).2]) ∧ Below W.heap.size W w'') := fun W f => by
        refine (ref_at_any nmP lP Aq nP cq Sq nP csq k HK.out W (Q15.out.fr0 (K17.out.trans f (fun _ h => h.elim))) (by omega) (fun t ht => ⟨by have := (HPs.out t ht).1; omega, (HPs.out t ht).2⟩)).mono ?_
        rintro r w'' ⟨e, b⟩
        exact ⟨e, b⟩
      obtain ⟨⟨⟨a1, a2, a3⟩, a4⟩, hat⟩ : ∃ z, atV lP k = z := ⟨_, rfl⟩
      rw [hat] at HAt HRt
      unfold stepVal at HAt
      simp only at HAt HRt
      clear hat
      obtain ⟨u0, u1, u2, v0, v1, v2, z0, z1, z2, z3⟩ := HC17.out w17 (Fr.refl _ _)
      clear v0 v1 v2 z0 z1 z2 z3
      go_wp2_with fail
      refine (HAt.out w17 (Fr.refl _ _)).mono ?_
      rintro r w18 ⟨rfl, b18⟩
      have F18 := Lib.hid (Fr.b0 b18)
      obtain ⟨u0, u1, u2, v0, v1, v2, z0, z1, z2, z3⟩ := HC17.out w18 F18.out
      have va := fun o => (Fr.none_alloc w18 o).cell v0 (fun h => h)
      have vb := fun o => (Fr.none_alloc w18 o).cell v1 (fun h => h)
      have vc := fun o => (Fr.none_alloc w18 o).cell v2 (fun h => h)
      clear b18 HAt u0 u1 u2 v0 v1 v2 z0 z1 z2 z3
      go_wp2_with fail
      obtain ⟨W19, hW19⟩ : ∃ W19, W19 = w18.alloc (.cells #[.int .i64 a1, .int .i64 a2, .int .i64 a3] 59) := ⟨_, rfl⟩
      rw [← hW19]
      have F19 : Hid (Fr (fun _ => False) w17 W19) := by show Fr _ _ _; rw [hW19]; exact F18.out.trans (Fr.none_alloc _ _) (fun _ h => h.elim)
      have BS19 : Hid (Blk W19 w18.heap.size 59 #[.int .i64 a1, .int .i64 a2, .int .i64 a3]) := hW19 ▸ Blk.new _ _ _
      clear hW19 F18 va vb vc
      refine (HRt.out W19 F19.out).mono ?_
      rintro r w20 ⟨rfl, b20⟩
      have F20 := Lib.hid (F19.out.trans (Fr.b0 b20) (fun _ h => h.elim))
      have BS20 := Lib.hid (BS19.out.below b20)
      clear b20 HRt F19 BS19
      have HC20 : Hid (∀ W, Fr (fun _ => False) w20 W → W.cell? ⟨w8.heap.size, 0, none⟩ = some (.string nmP) ∧ W.cell? ⟨w8.heap.size, 1, none⟩ = some (.slice A' nP c') ∧ W.cell? ⟨w8.heap.size, 2, none⟩ = some (.slice S nP cs) ∧ W.cell? ⟨w4.heap.size, 0, none⟩ = some (.string nmP) ∧ W.cell? ⟨w4.heap.size, 1, none⟩ = some (.slice Aq nP cq) ∧ W.cell? ⟨w4.heap.size, 2, none⟩ = some (.slice Sq nP csq) ∧ W.cell? ⟨w2.heap.size, 0, none⟩ = some (.int .i64 now) ∧ W.cell? ⟨w2.heap.size, 1, none⟩ = some (.string nmf) ∧ W.cell? ⟨w2.heap.size, 2, none⟩ = some (.slice Af nf cf) ∧ W.cell? ⟨w2.heap.size, 3, none⟩ = some (.slice B m d) ∧ W.cell? ⟨w18.heap.size, 0, none⟩ = some (.int .i64 a1) ∧ W.cell? ⟨w18.heap.size, 1, none⟩ = some (.int .i64 a2) ∧ W.cell? ⟨w18.heap.size, 2, none⟩ = some (.int .i64 a3)) := fun W f => by
        obtain ⟨u0, u1, u2, v0, v1, v2, z0, z1, z2, z3⟩ := HC17.out W (F20.out.trans f (fun _ h => h.elim))
        exact ⟨u0, u1, u2, v0, v1, v2, z0, z1, z2, z3, (BS20.out.fr f (fun h => h)).cell 0, (BS20.out.fr f (fun h => h)).cell 1, (BS20.out.fr f (fun h => h)).cell 2⟩
      have HRb : Hid (∀ W, Fr (fun _ => False) w17 W → Calls Tryz.prog 18 #[.agg #[.string nmP, .slice Aq nP cq, .slice Sq nP csq], .agg #[.int .i64 now, .string nmf, .slice Af nf cf, .slice B m d]] W fun r w'' => (∃ A' c', r = .returned (.slice A' nP c') ∧ nP ≤ c' ∧ Rd w'' 1 A' nP (ints (basesV now lf fl sP lP)) ∧ ∀ k, adF A' nP k → W.heap.size ≤ k) ∧ Below W.heap.size W w'') := fun W f =>
        ref_bases_any nmP lP Aq nP cq sP Sq csq now Hall.out.2.2.2.2.2.2.2.2.1 nmf lf Af nf cf fl B m d W (Q15.out.fr0 (K17.out.trans f (fun _ h => h.elim))) (Q25.out.fr0 (K17.out.trans f (fun _ h => h.elim))) (Hall.out.1.fr0 ((HW5.out.trans K17.out (fun _ h => h.elim)).trans f (fun _ h => h.elim))) (Hall.out.2.2.1.fr0 ((HW5.out.trans K17.out (fun _ h => h.elim)).trans f (fun _ h => h.elim))) HPw.out Hall.out.2.2.2.1 Hall.out.2.2.2.2.2.1 (by omega) (by have := Hf10.out.1; omega)
      have HSb : Hid (∀ W A2 c2, Fr (fun _ => False) w17 W → Rd W 1 A2 nP (ints (basesV now lf fl sP lP)) → Calls Tryz.prog 11 #[.slice Ab nP cb, .slice A2 nP c2] W fun r w'' => r = .returned (.bool true) ∧ Below W.heap.size W w'') := fun W A2 c2 f hrd =>
        sameints_eq (basesV now lf fl sP lP) Ab nP cb A2 c2 W (by rw [ints_icells]; exact (own_any AB17.out).2.2.1.fr0 f) (by rw [ints_icells]; exact hrd) (by omega)
      have HB1 : Hid (∀ W, Fr (fun _ => False) w17 W → Calls Tryz.prog 19 #[.agg #[.string nmP, .slice A' nP c', .slice S nP cs], .int .i64 need] W fun r w'' => r = .returned (.int .i64 (2 * need + fillsV lP)) ∧ Below W.heap.size W w'') := fun W f => by
        refine (bound_any nmP lP A' nP c' S nP cs need (by omega) (by omega) W ((own_any P117.out).2.2.1.fr0 f) (by omega) (fun t ht => (HPs.out t ht).2)).mono ?_
        rintro r w'' ⟨e, b⟩
        exact ⟨e, b⟩
      have HB2 : Hid (∀ W, Fr (fun _ => False) w17 W → Calls Tryz.prog 20 #[.agg #[.string nmP, .slice Aq nP cq, .slice Sq nP csq], .int .i64 need] W fun r w'' => r = .returned (.int .i64 (2 * need + fillsV lP)) ∧ Below W.heap.size W w'') := fun W f => by
        refine (ref_bound_any nmP lP Aq nP cq Sq nP csq need (by omega) (by omega) W (Q15.out.fr0 (K17.out.trans f (fun _ h => h.elim))) (by omega) (fun t ht => ⟨by have := (HPs.out t ht).1; omega, (HPs.out t ht).2⟩)).mono ?_
        rintro r w'' ⟨e, b⟩
        exact ⟨e, b⟩
      obtain ⟨bv, hbv⟩ : ∃ bv, 2 * need + fillsV lP = bv := ⟨_, rfl⟩
      rw [hbv] at HB1 HB2
      clear hbv
      have e1 : (a1 != a1) = false := bne_self_eq_false a1
      have e2 : (a2 != a2) = false := bne_self_eq_false a2
      have e3 : (a3 != a3) = false := bne_self_eq_false a3
      have e4 : (a4 != a4) = false := bne_self_eq_false a4
      have e5 : (bv != bv) = false := bne_self_eq_false bv
      go_wp2_with fail
      refine wp_region_held_drew (S := fun W => Fr (fun _ => False) w20 W) (by kernel_rfl) ((Fr.refl _ w20).drew) (fun hHeld => ?_)
      refine wpAnyH_take (i := 0) (oi := { dst := some 142, op := Op.move (Operand.tmp 25), type := 25, pos := "law.go:79", after := #[], guard := none }) (v := ?vq23) rfl (by kernel_rfl) (by kernel_rfl) (by kernel_rfl) (fun _ _ _ h => h) (Or.inl ⟨by rfl, ?hq23⟩) (by assumption) ?rq23
      case hq23 => intro W hSw; (try obtain ⟨u0, u1, u2, v0, v1, v2, z0, z1, z2, z3, t0, t1, t2⟩ := HC20.out W hSw); go_simp; (try with_reducible rfl)
      try simp only [Act.put, List.setIfInBounds_toArray, List.set_cons_zero, List.set_cons_succ]
      refine wpAnyH_take (i := 1) (oi := { dst := some 143, op := Op.load 31 (Operand.tmp 18), type := 31, pos := "law.go:79", after := #[], guard := none }) (v := ?vq24) rfl (by kernel_rfl) (by kernel_rfl) (by kernel_rfl) (fun _ _ _ h => h) (Or.inl ⟨by rfl, ?hq24⟩) (by assumption) ?rq24
      case hq24 => intro W hSw; (try obtain ⟨u0, u1, u2, v0, v1, v2, z0, z1, z2, z3, t0, t1, t2⟩ := HC20.out W hSw); go_simp; (try with_reducible rfl)
      try simp only [Act.put, List.setIfInBounds_toArray, List.set_cons_zero, List.set_cons_succ]
      refine wpAnyH_take (i := 2) (oi := { dst := some 144, op := Op.load 29 (Operand.tmp 17), type := 29, pos := "law.go:79", after := #[], guard := none }) (v := ?vq25) rfl (by kernel_rfl) (by kernel_rfl) (by kernel_rfl) (fun _ _ _ h => h) (Or.inl ⟨by rfl, ?hq25⟩) (by assumption) ?rq25
      case hq25 => intro W hSw; (try obtain ⟨u0, u1, u2, v0, v1, v2, z0, z1, z2, z3, t0, t1, t2⟩ := HC20.out W hSw); go_simp; (try with_reducible rfl)
      try simp only [Act.put, List.setIfInBounds_toArray, List.set_cons_zero, List.set_cons_succ]
      refine wpAnyH_ready (rs := [3]) (by kernel_rfl) (by simp) ?_
      refine AllReadyH.cons (o := { dst := some 145, op := Op.call { callee := Callee.value (Operand.func 18), args := #[Operand.tmp 143, Operand.tmp 144], argTypes := #[31, 29] }, type := 25, pos := "law.go:79", after := #[{ on := 1, ground := Ground.data }, { on := 2, ground := Ground.data }], guard := none }) rfl (fun K hK => ?_) AllReadyH.nil
      go_simp
      go_wp2_with (first | (go_at_call 18; refine (HRb.out _ (F20.out.trans hHeld (fun _ h => h.elim))).mono ?_; rintro r w21 ⟨⟨A2, c2, rfl, _, hrd, _⟩, b21⟩))
      refine hK.out _ _ (hHeld.trans (Fr.b0 b21) (fun _ h => h.elim)) (fun hHeld => ?_)
      clear hK K
      try simp only [Act.put, List.setIfInBounds_toArray, List.set_cons_zero, List.set_cons_succ]
      refine wpAnyH_ready (rs := [4]) (by kernel_rfl) (by simp) ?_
      refine AllReadyH.cons (o := { dst := some 146, op := Op.call { callee := Callee.value (Operand.func 11), args := #[Operand.tmp 142, Operand.tmp 145], argTypes := #[25, 25] }, type := 4, pos := "law.go:79", after := #[{ on := 0, ground := Ground.data }, { on := 3, ground := Ground.data }, { on := 3, ground := Ground.chain }], guard := none }) rfl (fun K hK => ?_) AllReadyH.nil
      go_simp
      go_wp2_with (first | (go_at_call 11; refine (HSb.out _ _ _ (F20.out.trans hHeld (fun _ h => h.elim)) hrd).mono ?_; rintro r w22 ⟨rfl, b22⟩))
      refine hK.out _ _ (hHeld.trans (Fr.b0 b22) (fun _ h => h.elim)) (fun hHeld => ?_)
      clear hK K
      try simp only [Act.put, List.setIfInBounds_toArray, List.set_cons_zero, List.set_cons_succ]
      refine wpAnyH_take (i := 5) (oi := { dst := some 147, op := Op.unOp UnOp.not 4 (Operand.tmp 146), type := 4, pos := "law.go:79", after := #[{ on := 4, ground := Ground.data }], guard := none }) (v := ?vq26) rfl (by kernel_rfl) (by kernel_rfl) (by kernel_rfl) (fun _ _ _ h => h) (Or.inl ⟨by rfl, ?hq26⟩) (by assumption) ?rq26
      case hq26 => intro W hSw; (try obtain ⟨u0, u1, u2, v0, v1, v2, z0, z1, z2, z3, t0, t1, t2⟩ := HC20.out W hSw); go_simp; (try with_reducible rfl)
      try simp only [Act.put, List.setIfInBounds_toArray, List.set_cons_zero, List.set_cons_succ]
      refine wpAnyH_take (i := 6) (oi := { dst := some 148, op := Op.move (Operand.tmp 147), type := 4, pos := "law.go:79", after := #[{ on := 5, ground := Ground.data }, { on := 4, ground := Ground.chain }], guard := none }) (v := ?vq27) rfl (by kernel_rfl) (by kernel_rfl) (by kernel_rfl) (fun _ _ _ h => h) (Or.inl ⟨by rfl, ?hq27⟩) (by assumption) ?rq27
      case hq27 => intro W hSw; (try obtain ⟨u0, u1, u2, v0, v1, v2, z0, z1, z2, z3, t0, t1, t2⟩ := HC20.out W hSw); go_simp; (try with_reducible rfl)
      try simp only [Act.put, List.setIfInBounds_toArray, List.set_cons_zero, List.set_cons_succ]
      refine wpAnyH_take (i := 7) (oi := { dst := some 149, op := Op.move (Operand.tmp 27), type := 4, pos := "law.go:79", after := #[{ on := 6, ground := Ground.guard }], guard := some (6, false) }) (v := ?vq28) rfl (by kernel_rfl) (by kernel_rfl) (by kernel_rfl) (fun _ _ _ h => h) (Or.inl ⟨by rfl, ?hq28⟩) (by assumption) ?rq28
      case hq28 => intro W hSw; (try obtain ⟨u0, u1, u2, v0, v1, v2, z0, z1, z2, z3, t0, t1, t2⟩ := HC20.out W hSw); go_simp; (try with_reducible rfl)
      try simp only [Act.put, List.setIfInBounds_toArray, List.set_cons_zero, List.set_cons_succ]
      refine wpAnyH_take (i := 8) (oi := { dst := some 150, op := Op.move (Operand.tmp 31), type := 4, pos := "law.go:79", after := #[{ on := 6, ground := Ground.guard }], guard := some (6, false) }) (v := ?vq29) rfl (by kernel_rfl) (by kernel_rfl) (by kernel_rfl) (fun _ _ _ h => h) (Or.inl ⟨by rfl, ?hq29⟩) (by assumption) ?rq29
      case hq29 => intro W hSw; (try obtain ⟨u0, u1, u2, v0, v1, v2, z0, z1, z2, z3, t0, t1, t2⟩ := HC20.out W hSw); go_simp; (try with_reducible rfl)
      try simp only [Act.put, List.setIfInBounds_toArray, List.set_cons_zero, List.set_cons_succ]
      refine wpAnyH_take (i := 9) (oi := { dst := some 151, op := Op.binOp BinOp.neq 4 (Operand.tmp 149) (Operand.tmp 150) 4, type := 4, pos := "law.go:79", after := #[{ on := 7, ground := Ground.data }, { on := 8, ground := Ground.data }, { on := 6, ground := Ground.guard }], guard := some (6, false) }) (v := ?vq30) rfl (by kernel_rfl) (by kernel_rfl) (by kernel_rfl) (fun _ _ _ h => h) (Or.inl ⟨by rfl, ?hq30⟩) (by assumption) ?rq30
      case hq30 => intro W hSw; (try obtain ⟨u0, u1, u2, v0, v1, v2, z0, z1, z2, z3, t0, t1, t2⟩ := HC20.out W hSw); go_simp; (try with_reducible rfl)
      try simp only [Act.put, List.setIfInBounds_toArray, List.set_cons_zero, List.set_cons_succ]
      refine wpAnyH_take (i := 10) (oi := { dst := some 152, op := Op.pick (Operand.tmp 148) (Operand.const (Value.bool true)) (Operand.tmp 151), type := 4, pos := "law.go:79", after := #[{ on := 6, ground := Ground.data }, { on := 9, ground := Ground.data }], guard := none }) (v := ?vq31) rfl (by kernel_rfl) (by kernel_rfl) (by kernel_rfl) (fun _ _ _ h => h) (Or.inl ⟨by rfl, ?hq31⟩) (by assumption) ?rq31
      case hq31 => intro W hSw; (try obtain ⟨u0, u1, u2, v0, v1, v2, z0, z1, z2, z3, t0, t1, t2⟩ := HC20.out W hSw); go_simp; (try with_reducible rfl)
      try simp only [Act.put, List.setIfInBounds_toArray, List.set_cons_zero, List.set_cons_succ]
      refine wpAnyH_take (i := 11) (oi := { dst := some 153, op := Op.move (Operand.tmp 152), type := 4, pos := "law.go:79", after := #[{ on := 10, ground := Ground.data }, { on := 6, ground := Ground.chain }], guard := none }) (v := ?vq32) rfl (by kernel_rfl) (by kernel_rfl) (by kernel_rfl) (fun _ _ _ h => h) (Or.inl ⟨by rfl, ?hq32⟩) (by assumption) ?rq32
      case hq32 => intro W hSw; (try obtain ⟨u0, u1, u2, v0, v1, v2, z0, z1, z2, z3, t0, t1, t2⟩ := HC20.out W hSw); go_simp; (try with_reducible rfl)
      try simp only [Act.put, List.setIfInBounds_toArray, List.set_cons_zero, List.set_cons_succ]
      refine wpAnyH_take (i := 12) (oi := { dst := some 154, op := Op.fieldAddr 59 (Operand.tmp 26) 0, type := 0, pos := "law.go:79", after := #[{ on := 11, ground := Ground.guard }], guard := some (11, false) }) (v := ?vq33) rfl (by kernel_rfl) (by kernel_rfl) (by kernel_rfl) (fun _ _ _ h => h) (Or.inl ⟨by rfl, ?hq33⟩) (by assumption) ?rq33
      case hq33 => intro W hSw; (try obtain ⟨u0, u1, u2, v0, v1, v2, z0, z1, z2, z3, t0, t1, t2⟩ := HC20.out W hSw); go_simp; (try with_reducible rfl)
      try simp only [Act.put, List.setIfInBounds_toArray, List.set_cons_zero, List.set_cons_succ]
      refine wpAnyH_take (i := 13) (oi := { dst := some 155, op := Op.load 3 (Operand.tmp 154), type := 3, pos := "law.go:79", after := #[{ on := 12, ground := Ground.data }, { on := 11, ground := Ground.guard }], guard := some (11, false) }) (v := ?vq34) rfl (by kernel_rfl) (by kernel_rfl) (by kernel_rfl) (fun _ _ _ h => h) (Or.inl ⟨by rfl, ?hq34⟩) (by assumption) ?rq34
      case hq34 => intro W hSw; (try obtain ⟨u0, u1, u2, v0, v1, v2, z0, z1, z2, z3, t0, t1, t2⟩ := HC20.out W hSw); go_simp; (try with_reducible rfl)
      try simp only [Act.put, List.setIfInBounds_toArray, List.set_cons_zero, List.set_cons_succ]
      refine wpAnyH_take (i := 14) (oi := { dst := some 156, op := Op.move (Operand.tmp 28), type := 3, pos := "law.go:79", after := #[{ on := 11, ground := Ground.guard }], guard := some (11, false) }) (v := ?vq35) rfl (by kernel_rfl) (by kernel_rfl) (by kernel_rfl) (fun _ _ _ h => h) (Or.inl ⟨by rfl, ?hq35⟩) (by assumption) ?rq35
      case hq35 => intro W hSw; (try obtain ⟨u0, u1, u2, v0, v1, v2, z0, z1, z2, z3, t0, t1, t2⟩ := HC20.out W hSw); go_simp; (try with_reducible rfl)
      try simp only [Act.put, List.setIfInBounds_toArray, List.set_cons_zero, List.set_cons_succ]
      refine wpAnyH_take (i := 15) (oi := { dst := some 157, op := Op.binOp BinOp.neq 3 (Operand.tmp 155) (Operand.tmp 156) 3, type := 4, pos := "law.go:79", after := #[{ on := 13, ground := Ground.data }, { on := 14, ground := Ground.data }, { on := 11, ground := Ground.guard }], guard := some (11, false) }) (v := ?vq36) rfl (by kernel_rfl) (by kernel_rfl) (by kernel_rfl) (fun _ _ _ h => h) (Or.inl ⟨by rfl, ?hq36⟩) (by assumption) ?rq36
      case hq36 => intro W hSw; (try obtain ⟨u0, u1, u2, v0, v1, v2, z0, z1, z2, z3, t0, t1, t2⟩ := HC20.out W hSw); go_simp; (try with_reducible rfl)
      try simp only [Act.put, List.setIfInBounds_toArray, List.set_cons_zero, List.set_cons_succ]
      refine wpAnyH_take (i := 16) (oi := { dst := some 158, op := Op.pick (Operand.tmp 153) (Operand.const (Value.bool true)) (Operand.tmp 157), type := 4, pos := "law.go:79", after := #[{ on := 11, ground := Ground.data }, { on := 15, ground := Ground.data }], guard := none }) (v := ?vq37) rfl (by kernel_rfl) (by kernel_rfl) (by kernel_rfl) (fun _ _ _ h => h) (Or.inl ⟨by rfl, ?hq37⟩) (by assumption) ?rq37
      case hq37 => intro W hSw; (try obtain ⟨u0, u1, u2, v0, v1, v2, z0, z1, z2, z3, t0, t1, t2⟩ := HC20.out W hSw); go_simp; (try with_reducible rfl)
      try simp only [Act.put, List.setIfInBounds_toArray, List.set_cons_zero, List.set_cons_succ]
      refine wpAnyH_take (i := 17) (oi := { dst := some 159, op := Op.move (Operand.tmp 158), type := 4, pos := "law.go:79", after := #[{ on := 16, ground := Ground.data }, { on := 11, ground := Ground.chain }], guard := none }) (v := ?vq38) rfl (by kernel_rfl) (by kernel_rfl) (by kernel_rfl) (fun _ _ _ h => h) (Or.inl ⟨by rfl, ?hq38⟩) (by assumption) ?rq38
      case hq38 => intro W hSw; (try obtain ⟨u0, u1, u2, v0, v1, v2, z0, z1, z2, z3, t0, t1, t2⟩ := HC20.out W hSw); go_simp; (try with_reducible rfl)
      try simp only [Act.put, List.setIfInBounds_toArray, List.set_cons_zero, List.set_cons_succ]
      refine wpAnyH_take (i := 18) (oi := { dst := some 160, op := Op.fieldAddr 59 (Operand.tmp 26) 1, type := 0, pos := "law.go:79", after := #[{ on := 17, ground := Ground.guard }], guard := some (17, false) }) (v := ?vq39) rfl (by kernel_rfl) (by kernel_rfl) (by kernel_rfl) (fun _ _ _ h => h) (Or.inl ⟨by rfl, ?hq39⟩) (by assumption) ?rq39
      case hq39 => intro W hSw; (try obtain ⟨u0, u1, u2, v0, v1, v2, z0, z1, z2, z3, t0, t1, t2⟩ := HC20.out W hSw); go_simp; (try with_reducible rfl)
      try simp only [Act.put, List.setIfInBounds_toArray, List.set_cons_zero, List.set_cons_succ]
      refine wpAnyH_take (i := 19) (oi := { dst := some 161, op := Op.load 3 (Operand.tmp 160), type := 3, pos := "law.go:79", after := #[{ on := 18, ground := Ground.data }, { on := 17, ground := Ground.guard }], guard := some (17, false) }) (v := ?vq40) rfl (by kernel_rfl) (by kernel_rfl) (by kernel_rfl) (fun _ _ _ h => h) (Or.inl ⟨by rfl, ?hq40⟩) (by assumption) ?rq40
      case hq40 => intro W hSw; (try obtain ⟨u0, u1, u2, v0, v1, v2, z0, z1, z2, z3, t0, t1, t2⟩ := HC20.out W hSw); go_simp; (try with_reducible rfl)
      try simp only [Act.put, List.setIfInBounds_toArray, List.set_cons_zero, List.set_cons_succ]
      refine wpAnyH_take (i := 20) (oi := { dst := some 162, op := Op.move (Operand.tmp 29), type := 3, pos := "law.go:79", after := #[{ on := 17, ground := Ground.guard }], guard := some (17, false) }) (v := ?vq41) rfl (by kernel_rfl) (by kernel_rfl) (by kernel_rfl) (fun _ _ _ h => h) (Or.inl ⟨by rfl, ?hq41⟩) (by assumption) ?rq41
      case hq41 => intro W hSw; (try obtain ⟨u0, u1, u2, v0, v1, v2, z0, z1, z2, z3, t0, t1, t2⟩ := HC20.out W hSw); go_simp; (try with_reducible rfl)
      try simp only [Act.put, List.setIfInBounds_toArray, List.set_cons_zero, List.set_cons_succ]
      refine wpAnyH_take (i := 21) (oi := { dst := some 163, op := Op.binOp BinOp.neq 3 (Operand.tmp 161) (Operand.tmp 162) 3, type := 4, pos := "law.go:79", after := #[{ on := 19, ground := Ground.data }, { on := 20, ground := Ground.data }, { on := 17, ground := Ground.guard }], guard := some (17, false) }) (v := ?vq42) rfl (by kernel_rfl) (by kernel_rfl) (by kernel_rfl) (fun _ _ _ h => h) (Or.inl ⟨by rfl, ?hq42⟩) (by assumption) ?rq42
      case hq42 => intro W hSw; (try obtain ⟨u0, u1, u2, v0, v1, v2, z0, z1, z2, z3, t0, t1, t2⟩ := HC20.out W hSw); go_simp; (try with_reducible rfl)
      try simp only [Act.put, List.setIfInBounds_toArray, List.set_cons_zero, List.set_cons_succ]
      refine wpAnyH_take (i := 22) (oi := { dst := some 164, op := Op.pick (Operand.tmp 159) (Operand.const (Value.bool true)) (Operand.tmp 163), type := 4, pos := "law.go:79", after := #[{ on := 17, ground := Ground.data }, { on := 21, ground := Ground.data }], guard := none }) (v := ?vq43) rfl (by kernel_rfl) (by kernel_rfl) (by kernel_rfl) (fun _ _ _ h => h) (Or.inl ⟨by rfl, ?hq43⟩) (by assumption) ?rq43
      case hq43 => intro W hSw; (try obtain ⟨u0, u1, u2, v0, v1, v2, z0, z1, z2, z3, t0, t1, t2⟩ := HC20.out W hSw); go_simp; (try with_reducible rfl)
      try simp only [Act.put, List.setIfInBounds_toArray, List.set_cons_zero, List.set_cons_succ]
      refine wpAnyH_take (i := 23) (oi := { dst := some 165, op := Op.move (Operand.tmp 164), type := 4, pos := "law.go:79", after := #[{ on := 22, ground := Ground.data }, { on := 17, ground := Ground.chain }], guard := none }) (v := ?vq44) rfl (by kernel_rfl) (by kernel_rfl) (by kernel_rfl) (fun _ _ _ h => h) (Or.inl ⟨by rfl, ?hq44⟩) (by assumption) ?rq44
      case hq44 => intro W hSw; (try obtain ⟨u0, u1, u2, v0, v1, v2, z0, z1, z2, z3, t0, t1, t2⟩ := HC20.out W hSw); go_simp; (try with_reducible rfl)
      try simp only [Act.put, List.setIfInBounds_toArray, List.set_cons_zero, List.set_cons_succ]
      refine wpAnyH_take (i := 24) (oi := { dst := some 166, op := Op.fieldAddr 59 (Operand.tmp 26) 2, type := 0, pos := "law.go:79", after := #[{ on := 23, ground := Ground.guard }], guard := some (23, false) }) (v := ?vq45) rfl (by kernel_rfl) (by kernel_rfl) (by kernel_rfl) (fun _ _ _ h => h) (Or.inl ⟨by rfl, ?hq45⟩) (by assumption) ?rq45
      case hq45 => intro W hSw; (try obtain ⟨u0, u1, u2, v0, v1, v2, z0, z1, z2, z3, t0, t1, t2⟩ := HC20.out W hSw); go_simp; (try with_reducible rfl)
      try simp only [Act.put, List.setIfInBounds_toArray, List.set_cons_zero, List.set_cons_succ]
      refine wpAnyH_take (i := 25) (oi := { dst := some 167, op := Op.load 3 (Operand.tmp 166), type := 3, pos := "law.go:79", after := #[{ on := 24, ground := Ground.data }, { on := 23, ground := Ground.guard }], guard := some (23, false) }) (v := ?vq46) rfl (by kernel_rfl) (by kernel_rfl) (by kernel_rfl) (fun _ _ _ h => h) (Or.inl ⟨by rfl, ?hq46⟩) (by assumption) ?rq46
      case hq46 => intro W hSw; (try obtain ⟨u0, u1, u2, v0, v1, v2, z0, z1, z2, z3, t0, t1, t2⟩ := HC20.out W hSw); go_simp; (try with_reducible rfl)
      try simp only [Act.put, List.setIfInBounds_toArray, List.set_cons_zero, List.set_cons_succ]
      refine wpAnyH_take (i := 26) (oi := { dst := some 168, op := Op.move (Operand.tmp 30), type := 3, pos := "law.go:79", after := #[{ on := 23, ground := Ground.guard }], guard := some (23, false) }) (v := ?vq47) rfl (by kernel_rfl) (by kernel_rfl) (by kernel_rfl) (fun _ _ _ h => h) (Or.inl ⟨by rfl, ?hq47⟩) (by assumption) ?rq47
      case hq47 => intro W hSw; (try obtain ⟨u0, u1, u2, v0, v1, v2, z0, z1, z2, z3, t0, t1, t2⟩ := HC20.out W hSw); go_simp; (try with_reducible rfl)
      try simp only [Act.put, List.setIfInBounds_toArray, List.set_cons_zero, List.set_cons_succ]
      refine wpAnyH_take (i := 27) (oi := { dst := some 169, op := Op.binOp BinOp.neq 3 (Operand.tmp 167) (Operand.tmp 168) 3, type := 4, pos := "law.go:79", after := #[{ on := 25, ground := Ground.data }, { on := 26, ground := Ground.data }, { on := 23, ground := Ground.guard }], guard := some (23, false) }) (v := ?vq48) rfl (by kernel_rfl) (by kernel_rfl) (by kernel_rfl) (fun _ _ _ h => h) (Or.inl ⟨by rfl, ?hq48⟩) (by assumption) ?rq48
      case hq48 => intro W hSw; (try obtain ⟨u0, u1, u2, v0, v1, v2, z0, z1, z2, z3, t0, t1, t2⟩ := HC20.out W hSw); go_simp; (try with_reducible rfl)
      try simp only [Act.put, List.setIfInBounds_toArray, List.set_cons_zero, List.set_cons_succ]
      refine wpAnyH_take (i := 28) (oi := { dst := some 170, op := Op.pick (Operand.tmp 165) (Operand.const (Value.bool true)) (Operand.tmp 169), type := 4, pos := "law.go:79", after := #[{ on := 23, ground := Ground.data }, { on := 27, ground := Ground.data }], guard := none }) (v := ?vq49) rfl (by kernel_rfl) (by kernel_rfl) (by kernel_rfl) (fun _ _ _ h => h) (Or.inl ⟨by rfl, ?hq49⟩) (by assumption) ?rq49
      case hq49 => intro W hSw; (try obtain ⟨u0, u1, u2, v0, v1, v2, z0, z1, z2, z3, t0, t1, t2⟩ := HC20.out W hSw); go_simp; (try with_reducible rfl)
      try simp only [Act.put, List.setIfInBounds_toArray, List.set_cons_zero, List.set_cons_succ]
      refine wpAnyH_take (i := 29) (oi := { dst := some 171, op := Op.move (Operand.tmp 170), type := 4, pos := "law.go:79", after := #[{ on := 28, ground := Ground.data }, { on := 23, ground := Ground.chain }], guard := none }) (v := ?vq50) rfl (by kernel_rfl) (by kernel_rfl) (by kernel_rfl) (fun _ _ _ h => h) (Or.inl ⟨by rfl, ?hq50⟩) (by assumption) ?rq50
      case hq50 => intro W hSw; (try obtain ⟨u0, u1, u2, v0, v1, v2, z0, z1, z2, z3, t0, t1, t2⟩ := HC20.out W hSw); go_simp; (try with_reducible rfl)
      try simp only [Act.put, List.setIfInBounds_toArray, List.set_cons_zero, List.set_cons_succ]
      refine wpAnyH_take (i := 30) (oi := { dst := some 172, op := Op.load 49 (Operand.tmp 23), type := 49, pos := "law.go:79", after := #[{ on := 29, ground := Ground.guard }], guard := some (29, false) }) (v := ?vq51) rfl (by kernel_rfl) (by kernel_rfl) (by kernel_rfl) (fun _ _ _ h => h) (Or.inl ⟨by rfl, ?hq51⟩) (by assumption) ?rq51
      case hq51 => intro W hSw; (try obtain ⟨u0, u1, u2, v0, v1, v2, z0, z1, z2, z3, t0, t1, t2⟩ := HC20.out W hSw); go_simp; (try with_reducible rfl)
      try simp only [Act.put, List.setIfInBounds_toArray, List.set_cons_zero, List.set_cons_succ]
      refine wpAnyH_take (i := 31) (oi := { dst := some 173, op := Op.move (Operand.tmp 7), type := 3, pos := "law.go:79", after := #[{ on := 29, ground := Ground.guard }], guard := some (29, false) }) (v := ?vq52) rfl (by kernel_rfl) (by kernel_rfl) (by kernel_rfl) (fun _ _ _ h => h) (Or.inl ⟨by rfl, ?hq52⟩) (by assumption) ?rq52
      case hq52 => intro W hSw; (try obtain ⟨u0, u1, u2, v0, v1, v2, z0, z1, z2, z3, t0, t1, t2⟩ := HC20.out W hSw); go_simp; (try with_reducible rfl)
      try simp only [Act.put, List.setIfInBounds_toArray, List.set_cons_zero, List.set_cons_succ]
      refine wpAnyH_take (i := 33) (oi := { dst := some 175, op := Op.load 31 (Operand.tmp 18), type := 31, pos := "law.go:79", after := #[{ on := 29, ground := Ground.guard }], guard := some (29, false) }) (v := ?vq53) rfl (by kernel_rfl) (by kernel_rfl) (by kernel_rfl) (fun _ _ _ h => h) (Or.inl ⟨by rfl, ?hq53⟩) (by assumption) ?rq53
      case hq53 => intro W hSw; (try obtain ⟨u0, u1, u2, v0, v1, v2, z0, z1, z2, z3, t0, t1, t2⟩ := HC20.out W hSw); go_simp; (try with_reducible rfl)
      try simp only [Act.put, List.setIfInBounds_toArray, List.set_cons_zero, List.set_cons_succ]
      refine wpAnyH_take (i := 34) (oi := { dst := some 176, op := Op.move (Operand.tmp 7), type := 3, pos := "law.go:79", after := #[{ on := 29, ground := Ground.guard }], guard := some (29, false) }) (v := ?vq54) rfl (by kernel_rfl) (by kernel_rfl) (by kernel_rfl) (fun _ _ _ h => h) (Or.inl ⟨by rfl, ?hq54⟩) (by assumption) ?rq54
      case hq54 => intro W hSw; (try obtain ⟨u0, u1, u2, v0, v1, v2, z0, z1, z2, z3, t0, t1, t2⟩ := HC20.out W hSw); go_simp; (try with_reducible rfl)
      try simp only [Act.put, List.setIfInBounds_toArray, List.set_cons_zero, List.set_cons_succ]
      refine wpAnyH_ready (rs := [32]) (by kernel_rfl) (by simp) ?_
      refine AllReadyH.cons (o := { dst := some 174, op := Op.call { callee := Callee.value (Operand.func 19), args := #[Operand.tmp 172, Operand.tmp 173], argTypes := #[49, 3] }, type := 3, pos := "law.go:79", after := #[{ on := 30, ground := Ground.data }, { on := 31, ground := Ground.data }, { on := 29, ground := Ground.chain }, { on := 29, ground := Ground.guard }], guard := some (29, false) }) rfl (fun K hK => ?_) AllReadyH.nil
      go_simp
      go_wp2_with (first | (go_at_call 19; refine (HB1.out _ ((F20.out.trans hHeld (fun _ h => h.elim)))).mono ?_; rintro r w23 ⟨rfl, b23⟩))
      refine hK.out _ _ (hHeld.trans (Fr.b0 b23) (fun _ h => h.elim)) (fun hHeld => ?_)
      clear hK K
      try simp only [Act.put, List.setIfInBounds_toArray, List.set_cons_zero, List.set_cons_succ]
      refine wpAnyH_ready (rs := [35]) (by kernel_rfl) (by simp) ?_
      refine AllReadyH.cons (o := { dst := some 177, op := Op.call { callee := Callee.value (Operand.func 20), args := #[Operand.tmp 175, Operand.tmp 176], argTypes := #[31, 3] }, type := 3, pos := "law.go:79", after := #[{ on := 33, ground := Ground.data }, { on := 34, ground := Ground.data }, { on := 32, ground := Ground.chain }, { on := 29, ground := Ground.guard }], guard := some (29, false) }) rfl (fun K hK => ?_) AllReadyH.nil
      go_simp
      go_wp2_with (first | (go_at_call 20; refine (HB2.out _ ((F20.out.trans hHeld (fun _ h => h.elim)))).mono ?_; rintro r w24 ⟨rfl, b24⟩))
      refine hK.out _ _ (hHeld.trans (Fr.b0 b24) (fun _ h => h.elim)) (fun hHeld => ?_)
      clear hK K
      try simp only [Act.put, List.setIfInBounds_toArray, List.set_cons_zero, List.set_cons_succ]
      refine wpAnyH_take (i := 36) (oi := { dst := some 178, op := Op.binOp BinOp.neq 3 (Operand.tmp 174) (Operand.tmp 177) 3, type := 4, pos := "law.go:79", after := #[{ on := 32, ground := Ground.data }, { on := 35, ground := Ground.data }, { on := 29, ground := Ground.guard }], guard := some (29, false) }) (v := ?vq55) rfl (by kernel_rfl) (by kernel_rfl) (by kernel_rfl) (fun _ _ _ h => h) (Or.inl ⟨by rfl, ?hq55⟩) (by assumption) ?rq55
      case hq55 => intro W hSw; (try obtain ⟨u0, u1, u2, v0, v1, v2, z0, z1, z2, z3, t0, t1, t2⟩ := HC20.out W hSw); go_simp; (try with_reducible rfl)
      try simp only [Act.put, List.setIfInBounds_toArray, List.set_cons_zero, List.set_cons_succ]
      refine wpAnyH_take (i := 37) (oi := { dst := some 179, op := Op.pick (Operand.tmp 171) (Operand.const (Value.bool true)) (Operand.tmp 178), type := 4, pos := "law.go:79", after := #[{ on := 29, ground := Ground.data }, { on := 36, ground := Ground.data }], guard := none }) (v := ?vq56) rfl (by kernel_rfl) (by kernel_rfl) (by kernel_rfl) (fun _ _ _ h => h) (Or.inl ⟨by rfl, ?hq56⟩) (by assumption) ?rq56
      case hq56 => intro W hSw; (try obtain ⟨u0, u1, u2, v0, v1, v2, z0, z1, z2, z3, t0, t1, t2⟩ := HC20.out W hSw); go_simp; (try with_reducible rfl)
      try simp only [Act.put, List.setIfInBounds_toArray, List.set_cons_zero, List.set_cons_succ]
      refine wpAnyH_done (by kernel_rfl) ?_ _
      have F24 := Lib.hid (F20.out.trans hHeld (fun _ h => h.elim))
      clear hHeld hrd b21 b22 b23 b24 e1 e2 e3 e4 e5 HRb HSb HB1 HB2 HC20 F20 BS20
      by_cases ht0 : 0 ≤ tier
      · have ht0d : decide (0 ≤ tier) = true := decide_eq_true ht0
        obtain ⟨j, rfl⟩ := Int.eq_ofNat_of_zero_le ht0
        by_cases hjn : j < nP
        · have hjd : decide ((j : Int) < (nP : Int)) = true := decide_eq_true (by omega)
          have hjp : (j : Int) < (nP : Int) := by omega
          obtain ⟨t, hjt⟩ : ∃ t, lP[j]? = some t := ⟨_, List.getElem?_eq_getElem (by rw [HPl.out]; exact hjn)⟩
          have hsh := HPs.out t (mem_of_get hjt)
          have hx100 : shardV s t.shards + fillsV (lP.take j) < 100 := by
            have h1 := shardV_lt s t.shards (by omega)
            have h2 := (fillsV_in (l := lP.take j) (fun t ht => (HPs.out t (List.mem_of_mem_take ht)).2)).2
            rw [List.length_take] at h2
            omega
          obtain ⟨V, hV⟩ : ∃ V, decide (shardV s t.shards + fillsV (lP.take j) < k) = V := ⟨_, rfl⟩
          have hV2 : decide (shardV s t.shards + fillsV (lP.take j) < min k 100) = V := by
            rw [← hV]; exact decide_eq_decide.2 (by omega)
          have hki := HK.out
          unfold i64 at hki
          have HF1 : Hid (∀ W, Fr (fun _ => False) w17 W → Calls Tryz.prog 21 #[.agg #[.string nmP, .slice A' nP c', .slice S nP cs], .int .i64 k, .int .i64 j, .string s] W fun r w'' => r = .returned (.bool V) ∧ Below W.heap.size W w'') := fun W f => by
            rw [← hV]
            exact filled_any nmP lP A' nP c' S nP cs k j t s W ((own_any P117.out).2.2.1.fr0 f) (own_any P117.out).1 (by omega) (fun t ht => (HPs.out t ht).2) hjt HSz.out
          have HF2 : Hid (∀ K W, Fr (fun _ => False) w17 W → K = min k 100 → Calls Tryz.prog 22 #[.agg #[.string nmP, .slice Aq nP cq, .slice Sq nP csq], .int .i64 K, .int .i64 j, .string s] W fun r w'' => r = .returned (.bool V) ∧ Below W.heap.size W w'') := fun K W f hK => by
            subst hK
            rw [← hV2]
            exact ref_filled_any nmP lP Aq nP cq Sq nP csq (min k 100) (by unfold i64; omega) j t s W (Q15.out.fr0 (K17.out.trans f (fun _ h => h.elim))) (by omega) (fun t ht => ⟨by have := (HPs.out t ht).1; omega, (HPs.out t ht).2⟩) hjt hsh.1 HSz.out
          have hVV : (V != V) = false := bne_self_eq_false V
          clear hV hV2 hjt hsh hx100 hki
          go_wp2_with fail
          refine wp_region_held_drew (S := fun W => Fr (fun _ => False) w17 W) (by kernel_rfl) (F24.out.drew) (fun hHeld => ?_)
          refine wpAnyH_take (i := 0) (oi := { dst := some 180, op := Op.move (Operand.tmp 5), type := 3, pos := "law.go:82", after := #[], guard := none }) (v := ?vq57) rfl (by kernel_rfl) (by kernel_rfl) (by kernel_rfl) (fun _ _ _ h => h) (Or.inl ⟨by rfl, ?hq57⟩) (by assumption) ?rq57
          case hq57 => intro W hSw; (try obtain ⟨u0, u1, u2, v0, v1, v2, z0, z1, z2, z3⟩ := HC17.out W hSw); go_simp; (try with_reducible rfl)
          try simp only [Act.put, List.setIfInBounds_toArray, List.set_cons_zero, List.set_cons_succ]
          refine wpAnyH_take (i := 1) (oi := { dst := some 181, op := Op.binOp BinOp.geq 3 (Operand.tmp 180) (Operand.const (Value.int IntKind.i64 0)) 3, type := 4, pos := "law.go:82", after := #[{ on := 0, ground := Ground.data }], guard := none }) (v := ?vq58) rfl (by kernel_rfl) (by kernel_rfl) (by kernel_rfl) (fun _ _ _ h => h) (Or.inl ⟨by rfl, ?hq58⟩) (by assumption) ?rq58
          case hq58 => intro W hSw; (try obtain ⟨u0, u1, u2, v0, v1, v2, z0, z1, z2, z3⟩ := HC17.out W hSw); go_simp; (try with_reducible rfl)
          try simp only [Act.put, List.setIfInBounds_toArray, List.set_cons_zero, List.set_cons_succ]
          refine wpAnyH_take (i := 2) (oi := { dst := some 182, op := Op.move (Operand.tmp 181), type := 4, pos := "law.go:82", after := #[{ on := 1, ground := Ground.data }], guard := none }) (v := ?vq59) rfl (by kernel_rfl) (by kernel_rfl) (by kernel_rfl) (fun _ _ _ h => h) (Or.inl ⟨by rfl, ?hq59⟩) (by assumption) ?rq59
          case hq59 => intro W hSw; (try obtain ⟨u0, u1, u2, v0, v1, v2, z0, z1, z2, z3⟩ := HC17.out W hSw); go_simp; (try with_reducible rfl)
          try simp only [Act.put, List.setIfInBounds_toArray, List.set_cons_zero, List.set_cons_succ]
          refine wpAnyH_take (i := 3) (oi := { dst := some 183, op := Op.move (Operand.tmp 5), type := 3, pos := "law.go:82", after := #[{ on := 2, ground := Ground.guard }], guard := some (2, true) }) (v := ?vq60) rfl (by kernel_rfl) (by kernel_rfl) (by kernel_rfl) (fun _ _ _ h => h) (Or.inl ⟨by rfl, ?hq60⟩) (by assumption) ?rq60
          case hq60 => intro W hSw; (try obtain ⟨u0, u1, u2, v0, v1, v2, z0, z1, z2, z3⟩ := HC17.out W hSw); go_simp; (try with_reducible rfl)
          try simp only [Act.put, List.setIfInBounds_toArray, List.set_cons_zero, List.set_cons_succ]
          refine wpAnyH_take (i := 4) (oi := { dst := some 184, op := Op.fieldAddr 49 (Operand.tmp 23) 0, type := 0, pos := "law.go:82", after := #[{ on := 2, ground := Ground.guard }], guard := some (2, true) }) (v := ?vq61) rfl (by kernel_rfl) (by kernel_rfl) (by kernel_rfl) (fun _ _ _ h => h) (Or.inl ⟨by rfl, ?hq61⟩) (by assumption) ?rq61
          case hq61 => intro W hSw; (try obtain ⟨u0, u1, u2, v0, v1, v2, z0, z1, z2, z3⟩ := HC17.out W hSw); go_simp; (try with_reducible rfl)
          try simp only [Act.put, List.setIfInBounds_toArray, List.set_cons_zero, List.set_cons_succ]
          refine wpAnyH_take (i := 5) (oi := { dst := some 185, op := Op.fieldAddr 24 (Operand.tmp 184) 1, type := 0, pos := "law.go:82", after := #[{ on := 4, ground := Ground.data }, { on := 2, ground := Ground.guard }], guard := some (2, true) }) (v := ?vq62) rfl (by kernel_rfl) (by kernel_rfl) (by kernel_rfl) (fun _ _ _ h => h) (Or.inl ⟨by rfl, ?hq62⟩) (by assumption) ?rq62
          case hq62 => intro W hSw; (try obtain ⟨u0, u1, u2, v0, v1, v2, z0, z1, z2, z3⟩ := HC17.out W hSw); go_simp; (try with_reducible rfl)
          try simp only [Act.put, List.setIfInBounds_toArray, List.set_cons_zero, List.set_cons_succ]
          refine wpAnyH_take (i := 6) (oi := { dst := some 186, op := Op.load 22 (Operand.tmp 185), type := 22, pos := "law.go:82", after := #[{ on := 5, ground := Ground.data }, { on := 2, ground := Ground.guard }], guard := some (2, true) }) (v := ?vq63) rfl (by kernel_rfl) (by kernel_rfl) (by kernel_rfl) (fun _ _ _ h => h) (Or.inl ⟨by rfl, ?hq63⟩) (by assumption) ?rq63
          case hq63 => intro W hSw; (try obtain ⟨u0, u1, u2, v0, v1, v2, z0, z1, z2, z3⟩ := HC17.out W hSw); go_simp; (try with_reducible rfl)
          try simp only [Act.put, List.setIfInBounds_toArray, List.set_cons_zero, List.set_cons_succ]
          refine wpAnyH_take (i := 7) (oi := { dst := some 187, op := Op.call { callee := Callee.builtin Builtin.len, args := #[Operand.tmp 186], argTypes := #[22] }, type := 3, pos := "law.go:82", after := #[{ on := 6, ground := Ground.data }, { on := 2, ground := Ground.guard }], guard := some (2, true) }) (v := ?vq64) rfl (by kernel_rfl) (by kernel_rfl) (by kernel_rfl) (fun _ _ _ h => h) (Or.inl ⟨by rfl, ?hq64⟩) (by assumption) ?rq64
          case hq64 => intro W hSw; (try obtain ⟨u0, u1, u2, v0, v1, v2, z0, z1, z2, z3⟩ := HC17.out W hSw); go_simp; (try with_reducible rfl)
          try simp only [Act.put, List.setIfInBounds_toArray, List.set_cons_zero, List.set_cons_succ]
          refine wpAnyH_take (i := 8) (oi := { dst := some 188, op := Op.binOp BinOp.lss 3 (Operand.tmp 183) (Operand.tmp 187) 3, type := 4, pos := "law.go:82", after := #[{ on := 3, ground := Ground.data }, { on := 7, ground := Ground.data }, { on := 2, ground := Ground.guard }], guard := some (2, true) }) (v := ?vq65) rfl (by kernel_rfl) (by kernel_rfl) (by kernel_rfl) (fun _ _ _ h => h) (Or.inl ⟨by rfl, ?hq65⟩) (by assumption) ?rq65
          case hq65 => intro W hSw; (try obtain ⟨u0, u1, u2, v0, v1, v2, z0, z1, z2, z3⟩ := HC17.out W hSw); go_simp; (try with_reducible rfl)
          try simp only [Act.put, List.setIfInBounds_toArray, List.set_cons_zero, List.set_cons_succ]
          refine wpAnyH_take (i := 9) (oi := { dst := some 189, op := Op.pick (Operand.tmp 182) (Operand.tmp 188) (Operand.const (Value.bool false)), type := 4, pos := "law.go:82", after := #[{ on := 2, ground := Ground.data }, { on := 8, ground := Ground.data }], guard := none }) (v := ?vq66) rfl (by kernel_rfl) (by kernel_rfl) (by kernel_rfl) (fun _ _ _ h => h) (Or.inl ⟨by rfl, ?hq66⟩) (by assumption) ?rq66
          case hq66 => intro W hSw; (try obtain ⟨u0, u1, u2, v0, v1, v2, z0, z1, z2, z3⟩ := HC17.out W hSw); go_simp; (try with_reducible rfl)
          try simp only [Act.put, List.setIfInBounds_toArray, List.set_cons_zero, List.set_cons_succ]
          refine wpAnyH_take (i := 10) (oi := { dst := some 190, op := Op.move (Operand.tmp 189), type := 4, pos := "law.go:82", after := #[{ on := 9, ground := Ground.data }, { on := 2, ground := Ground.chain }], guard := none }) (v := ?vq67) rfl (by kernel_rfl) (by kernel_rfl) (by kernel_rfl) (fun _ _ _ h => h) (Or.inl ⟨by rfl, ?hq67⟩) (by assumption) ?rq67
          case hq67 => intro W hSw; (try obtain ⟨u0, u1, u2, v0, v1, v2, z0, z1, z2, z3⟩ := HC17.out W hSw); go_simp; (try with_reducible rfl)
          try simp only [Act.put, List.setIfInBounds_toArray, List.set_cons_zero, List.set_cons_succ]
          refine wpAnyH_take (i := 11) (oi := { dst := some 191, op := Op.load 49 (Operand.tmp 23), type := 49, pos := "law.go:82", after := #[{ on := 10, ground := Ground.guard }], guard := some (10, true) }) (v := ?vq68) rfl (by kernel_rfl) (by kernel_rfl) (by kernel_rfl) (fun _ _ _ h => h) (Or.inl ⟨by rfl, ?hq68⟩) (by assumption) ?rq68
          case hq68 => intro W hSw; (try obtain ⟨u0, u1, u2, v0, v1, v2, z0, z1, z2, z3⟩ := HC17.out W hSw); go_simp; (try with_reducible rfl)
          try simp only [Act.put, List.setIfInBounds_toArray, List.set_cons_zero, List.set_cons_succ]
          refine wpAnyH_take (i := 12) (oi := { dst := some 192, op := Op.move (Operand.tmp 4), type := 3, pos := "law.go:82", after := #[{ on := 10, ground := Ground.guard }], guard := some (10, true) }) (v := ?vq69) rfl (by kernel_rfl) (by kernel_rfl) (by kernel_rfl) (fun _ _ _ h => h) (Or.inl ⟨by rfl, ?hq69⟩) (by assumption) ?rq69
          case hq69 => intro W hSw; (try obtain ⟨u0, u1, u2, v0, v1, v2, z0, z1, z2, z3⟩ := HC17.out W hSw); go_simp; (try with_reducible rfl)
          try simp only [Act.put, List.setIfInBounds_toArray, List.set_cons_zero, List.set_cons_succ]
          refine wpAnyH_take (i := 13) (oi := { dst := some 193, op := Op.move (Operand.tmp 5), type := 3, pos := "law.go:82", after := #[{ on := 10, ground := Ground.guard }], guard := some (10, true) }) (v := ?vq70) rfl (by kernel_rfl) (by kernel_rfl) (by kernel_rfl) (fun _ _ _ h => h) (Or.inl ⟨by rfl, ?hq70⟩) (by assumption) ?rq70
          case hq70 => intro W hSw; (try obtain ⟨u0, u1, u2, v0, v1, v2, z0, z1, z2, z3⟩ := HC17.out W hSw); go_simp; (try with_reducible rfl)
          try simp only [Act.put, List.setIfInBounds_toArray, List.set_cons_zero, List.set_cons_succ]
          refine wpAnyH_take (i := 14) (oi := { dst := some 194, op := Op.move (Operand.tmp 6), type := 9, pos := "law.go:82", after := #[{ on := 10, ground := Ground.guard }], guard := some (10, true) }) (v := ?vq71) rfl (by kernel_rfl) (by kernel_rfl) (by kernel_rfl) (fun _ _ _ h => h) (Or.inl ⟨by rfl, ?hq71⟩) (by assumption) ?rq71
          case hq71 => intro W hSw; (try obtain ⟨u0, u1, u2, v0, v1, v2, z0, z1, z2, z3⟩ := HC17.out W hSw); go_simp; (try with_reducible rfl)
          try simp only [Act.put, List.setIfInBounds_toArray, List.set_cons_zero, List.set_cons_succ]
          refine wpAnyH_take (i := 16) (oi := { dst := some 196, op := Op.load 31 (Operand.tmp 18), type := 31, pos := "law.go:82", after := #[{ on := 10, ground := Ground.guard }], guard := some (10, true) }) (v := ?vq72) rfl (by kernel_rfl) (by kernel_rfl) (by kernel_rfl) (fun _ _ _ h => h) (Or.inl ⟨by rfl, ?hq72⟩) (by assumption) ?rq72
          case hq72 => intro W hSw; (try obtain ⟨u0, u1, u2, v0, v1, v2, z0, z1, z2, z3⟩ := HC17.out W hSw); go_simp; (try with_reducible rfl)
          try simp only [Act.put, List.setIfInBounds_toArray, List.set_cons_zero, List.set_cons_succ]
          refine wpAnyH_take (i := 17) (oi := { dst := some 197, op := Op.move (Operand.tmp 4), type := 3, pos := "law.go:82", after := #[{ on := 10, ground := Ground.guard }], guard := some (10, true) }) (v := ?vq73) rfl (by kernel_rfl) (by kernel_rfl) (by kernel_rfl) (fun _ _ _ h => h) (Or.inl ⟨by rfl, ?hq73⟩) (by assumption) ?rq73
          case hq73 => intro W hSw; (try obtain ⟨u0, u1, u2, v0, v1, v2, z0, z1, z2, z3⟩ := HC17.out W hSw); go_simp; (try with_reducible rfl)
          try simp only [Act.put, List.setIfInBounds_toArray, List.set_cons_zero, List.set_cons_succ]
          refine wpAnyH_take (i := 18) (oi := { dst := some 198, op := Op.call { callee := Callee.builtin Builtin.min, args := #[Operand.tmp 197, Operand.const (Value.int IntKind.i64 100)], argTypes := #[3, 3] }, type := 3, pos := "law.go:82", after := #[{ on := 17, ground := Ground.data }, { on := 10, ground := Ground.guard }], guard := some (10, true) }) (v := ?vq74) rfl (by kernel_rfl) (by kernel_rfl) (by kernel_rfl) (fun _ _ _ h => h) (Or.inl ⟨by rfl, ?hq74⟩) (by assumption) ?rq74
          case hq74 => intro W hSw; (try obtain ⟨u0, u1, u2, v0, v1, v2, z0, z1, z2, z3⟩ := HC17.out W hSw); go_simp; (try with_reducible rfl)
          try simp only [Act.put, List.setIfInBounds_toArray, List.set_cons_zero, List.set_cons_succ]
          refine wpAnyH_take (i := 19) (oi := { dst := some 199, op := Op.move (Operand.tmp 5), type := 3, pos := "law.go:82", after := #[{ on := 10, ground := Ground.guard }], guard := some (10, true) }) (v := ?vq75) rfl (by kernel_rfl) (by kernel_rfl) (by kernel_rfl) (fun _ _ _ h => h) (Or.inl ⟨by rfl, ?hq75⟩) (by assumption) ?rq75
          case hq75 => intro W hSw; (try obtain ⟨u0, u1, u2, v0, v1, v2, z0, z1, z2, z3⟩ := HC17.out W hSw); go_simp; (try with_reducible rfl)
          try simp only [Act.put, List.setIfInBounds_toArray, List.set_cons_zero, List.set_cons_succ]
          refine wpAnyH_take (i := 20) (oi := { dst := some 200, op := Op.move (Operand.tmp 6), type := 9, pos := "law.go:82", after := #[{ on := 10, ground := Ground.guard }], guard := some (10, true) }) (v := ?vq76) rfl (by kernel_rfl) (by kernel_rfl) (by kernel_rfl) (fun _ _ _ h => h) (Or.inl ⟨by rfl, ?hq76⟩) (by assumption) ?rq76
          case hq76 => intro W hSw; (try obtain ⟨u0, u1, u2, v0, v1, v2, z0, z1, z2, z3⟩ := HC17.out W hSw); go_simp; (try with_reducible rfl)
          try simp only [Act.put, List.setIfInBounds_toArray, List.set_cons_zero, List.set_cons_succ]
          refine wpAnyH_ready (rs := [15]) (by kernel_rfl) (by simp) ?_
          refine AllReadyH.cons (o := { dst := some 195, op := Op.call { callee := Callee.value (Operand.func 21), args := #[Operand.tmp 191, Operand.tmp 192, Operand.tmp 193, Operand.tmp 194], argTypes := #[49, 3, 3, 9] }, type := 4, pos := "law.go:82", after := #[{ on := 11, ground := Ground.data }, { on := 12, ground := Ground.data }, { on := 13, ground := Ground.data }, { on := 14, ground := Ground.data }, { on := 10, ground := Ground.chain }, { on := 10, ground := Ground.guard }], guard := some (10, true) }) rfl (fun K hK => ?_) AllReadyH.nil
          go_simp
          go_wp2_with (first | (go_at_call 21; refine (HF1.out _ (hHeld)).mono ?_; rintro r w31 ⟨rfl, b31⟩))
          refine hK.out _ _ (hHeld.trans (Fr.b0 b31) (fun _ h => h.elim)) (fun hHeld => ?_)
          clear hK K
          try simp only [Act.put, List.setIfInBounds_toArray, List.set_cons_zero, List.set_cons_succ]
          refine wpAnyH_ready (rs := [21]) (by kernel_rfl) (by simp) ?_
          refine AllReadyH.cons (o := { dst := some 201, op := Op.call { callee := Callee.value (Operand.func 22), args := #[Operand.tmp 196, Operand.tmp 198, Operand.tmp 199, Operand.tmp 200], argTypes := #[31, 3, 3, 9] }, type := 4, pos := "law.go:82", after := #[{ on := 16, ground := Ground.data }, { on := 18, ground := Ground.data }, { on := 19, ground := Ground.data }, { on := 20, ground := Ground.data }, { on := 15, ground := Ground.chain }, { on := 10, ground := Ground.guard }], guard := some (10, true) }) rfl (fun K hK => ?_) AllReadyH.nil
          go_simp
          go_wp2_with (first | (go_at_call 22; refine (HF2.out _ _ hHeld (by first | rfl | omega)).mono ?_; rintro r w32 ⟨rfl, b32⟩))
          refine hK.out _ _ (hHeld.trans (Fr.b0 b32) (fun _ h => h.elim)) (fun hHeld => ?_)
          clear hK K
          try simp only [Act.put, List.setIfInBounds_toArray, List.set_cons_zero, List.set_cons_succ]
          refine wpAnyH_take (i := 22) (oi := { dst := some 202, op := Op.binOp BinOp.neq 4 (Operand.tmp 195) (Operand.tmp 201) 4, type := 4, pos := "law.go:82", after := #[{ on := 15, ground := Ground.data }, { on := 21, ground := Ground.data }, { on := 10, ground := Ground.guard }], guard := some (10, true) }) (v := ?vq77) rfl (by kernel_rfl) (by kernel_rfl) (by kernel_rfl) (fun _ _ _ h => h) (Or.inl ⟨by rfl, ?hq77⟩) (by assumption) ?rq77
          case hq77 => intro W hSw; (try obtain ⟨u0, u1, u2, v0, v1, v2, z0, z1, z2, z3⟩ := HC17.out W hSw); go_simp; (try with_reducible rfl)
          try simp only [Act.put, List.setIfInBounds_toArray, List.set_cons_zero, List.set_cons_succ]
          refine wpAnyH_take (i := 23) (oi := { dst := some 203, op := Op.pick (Operand.tmp 190) (Operand.tmp 202) (Operand.const (Value.bool false)), type := 4, pos := "law.go:82", after := #[{ on := 10, ground := Ground.data }, { on := 22, ground := Ground.data }], guard := none }) (v := ?vq78) rfl (by kernel_rfl) (by kernel_rfl) (by kernel_rfl) (fun _ _ _ h => h) (Or.inl ⟨by rfl, ?hq78⟩) (by assumption) ?rq78
          case hq78 => intro W hSw; (try obtain ⟨u0, u1, u2, v0, v1, v2, z0, z1, z2, z3⟩ := HC17.out W hSw); go_simp; (try with_reducible rfl)
          try simp only [Act.put, List.setIfInBounds_toArray, List.set_cons_zero, List.set_cons_succ]
          refine wpAnyH_done (by kernel_rfl) ?_ _
          go_wp2_with fail
          go_roundw
          case rel =>
            have f := hHeld
            have hb := BK17.out.fr (f.below (fun _ h => h.elim))
            rw [show 2 * k0 + 1 + 1 = 2 * (k0 + 1) by omega] at hb
            exact ⟨k0 + 1, _, _, by omega, by go_num, hb, K17.out.trans f (fun _ h => h.elim)⟩
          case measure => simp [intOf]; omega
        · have hjd : decide ((j : Int) < (nP : Int)) = false := decide_eq_false (by omega)
          have hjp : ¬ (j : Int) < (nP : Int) := by omega
          go_wp2_with fail
          refine wp_region_held_drew (S := fun W => Fr (fun _ => False) w17 W) (by kernel_rfl) (F24.out.drew) (fun hHeld => ?_)
          refine wpAnyH_take (i := 0) (oi := { dst := some 180, op := Op.move (Operand.tmp 5), type := 3, pos := "law.go:82", after := #[], guard := none }) (v := ?vq79) rfl (by kernel_rfl) (by kernel_rfl) (by kernel_rfl) (fun _ _ _ h => h) (Or.inl ⟨by rfl, ?hq79⟩) (by assumption) ?rq79
          case hq79 => intro W hSw; (try obtain ⟨u0, u1, u2, v0, v1, v2, z0, z1, z2, z3⟩ := HC17.out W hSw); go_simp; (try with_reducible rfl)
          try simp only [Act.put, List.setIfInBounds_toArray, List.set_cons_zero, List.set_cons_succ]
          refine wpAnyH_take (i := 1) (oi := { dst := some 181, op := Op.binOp BinOp.geq 3 (Operand.tmp 180) (Operand.const (Value.int IntKind.i64 0)) 3, type := 4, pos := "law.go:82", after := #[{ on := 0, ground := Ground.data }], guard := none }) (v := ?vq80) rfl (by kernel_rfl) (by kernel_rfl) (by kernel_rfl) (fun _ _ _ h => h) (Or.inl ⟨by rfl, ?hq80⟩) (by assumption) ?rq80
          case hq80 => intro W hSw; (try obtain ⟨u0, u1, u2, v0, v1, v2, z0, z1, z2, z3⟩ := HC17.out W hSw); go_simp; (try with_reducible rfl)
          try simp only [Act.put, List.setIfInBounds_toArray, List.set_cons_zero, List.set_cons_succ]
          refine wpAnyH_take (i := 2) (oi := { dst := some 182, op := Op.move (Operand.tmp 181), type := 4, pos := "law.go:82", after := #[{ on := 1, ground := Ground.data }], guard := none }) (v := ?vq81) rfl (by kernel_rfl) (by kernel_rfl) (by kernel_rfl) (fun _ _ _ h => h) (Or.inl ⟨by rfl, ?hq81⟩) (by assumption) ?rq81
          case hq81 => intro W hSw; (try obtain ⟨u0, u1, u2, v0, v1, v2, z0, z1, z2, z3⟩ := HC17.out W hSw); go_simp; (try with_reducible rfl)
          try simp only [Act.put, List.setIfInBounds_toArray, List.set_cons_zero, List.set_cons_succ]
          refine wpAnyH_take (i := 3) (oi := { dst := some 183, op := Op.move (Operand.tmp 5), type := 3, pos := "law.go:82", after := #[{ on := 2, ground := Ground.guard }], guard := some (2, true) }) (v := ?vq82) rfl (by kernel_rfl) (by kernel_rfl) (by kernel_rfl) (fun _ _ _ h => h) (Or.inl ⟨by rfl, ?hq82⟩) (by assumption) ?rq82
          case hq82 => intro W hSw; (try obtain ⟨u0, u1, u2, v0, v1, v2, z0, z1, z2, z3⟩ := HC17.out W hSw); go_simp; (try with_reducible rfl)
          try simp only [Act.put, List.setIfInBounds_toArray, List.set_cons_zero, List.set_cons_succ]
          refine wpAnyH_take (i := 4) (oi := { dst := some 184, op := Op.fieldAddr 49 (Operand.tmp 23) 0, type := 0, pos := "law.go:82", after := #[{ on := 2, ground := Ground.guard }], guard := some (2, true) }) (v := ?vq83) rfl (by kernel_rfl) (by kernel_rfl) (by kernel_rfl) (fun _ _ _ h => h) (Or.inl ⟨by rfl, ?hq83⟩) (by assumption) ?rq83
          case hq83 => intro W hSw; (try obtain ⟨u0, u1, u2, v0, v1, v2, z0, z1, z2, z3⟩ := HC17.out W hSw); go_simp; (try with_reducible rfl)
          try simp only [Act.put, List.setIfInBounds_toArray, List.set_cons_zero, List.set_cons_succ]
          refine wpAnyH_take (i := 5) (oi := { dst := some 185, op := Op.fieldAddr 24 (Operand.tmp 184) 1, type := 0, pos := "law.go:82", after := #[{ on := 4, ground := Ground.data }, { on := 2, ground := Ground.guard }], guard := some (2, true) }) (v := ?vq84) rfl (by kernel_rfl) (by kernel_rfl) (by kernel_rfl) (fun _ _ _ h => h) (Or.inl ⟨by rfl, ?hq84⟩) (by assumption) ?rq84
          case hq84 => intro W hSw; (try obtain ⟨u0, u1, u2, v0, v1, v2, z0, z1, z2, z3⟩ := HC17.out W hSw); go_simp; (try with_reducible rfl)
          try simp only [Act.put, List.setIfInBounds_toArray, List.set_cons_zero, List.set_cons_succ]
          refine wpAnyH_take (i := 6) (oi := { dst := some 186, op := Op.load 22 (Operand.tmp 185), type := 22, pos := "law.go:82", after := #[{ on := 5, ground := Ground.data }, { on := 2, ground := Ground.guard }], guard := some (2, true) }) (v := ?vq85) rfl (by kernel_rfl) (by kernel_rfl) (by kernel_rfl) (fun _ _ _ h => h) (Or.inl ⟨by rfl, ?hq85⟩) (by assumption) ?rq85
          case hq85 => intro W hSw; (try obtain ⟨u0, u1, u2, v0, v1, v2, z0, z1, z2, z3⟩ := HC17.out W hSw); go_simp; (try with_reducible rfl)
          try simp only [Act.put, List.setIfInBounds_toArray, List.set_cons_zero, List.set_cons_succ]
          refine wpAnyH_take (i := 7) (oi := { dst := some 187, op := Op.call { callee := Callee.builtin Builtin.len, args := #[Operand.tmp 186], argTypes := #[22] }, type := 3, pos := "law.go:82", after := #[{ on := 6, ground := Ground.data }, { on := 2, ground := Ground.guard }], guard := some (2, true) }) (v := ?vq86) rfl (by kernel_rfl) (by kernel_rfl) (by kernel_rfl) (fun _ _ _ h => h) (Or.inl ⟨by rfl, ?hq86⟩) (by assumption) ?rq86
          case hq86 => intro W hSw; (try obtain ⟨u0, u1, u2, v0, v1, v2, z0, z1, z2, z3⟩ := HC17.out W hSw); go_simp; (try with_reducible rfl)
          try simp only [Act.put, List.setIfInBounds_toArray, List.set_cons_zero, List.set_cons_succ]
          refine wpAnyH_take (i := 8) (oi := { dst := some 188, op := Op.binOp BinOp.lss 3 (Operand.tmp 183) (Operand.tmp 187) 3, type := 4, pos := "law.go:82", after := #[{ on := 3, ground := Ground.data }, { on := 7, ground := Ground.data }, { on := 2, ground := Ground.guard }], guard := some (2, true) }) (v := ?vq87) rfl (by kernel_rfl) (by kernel_rfl) (by kernel_rfl) (fun _ _ _ h => h) (Or.inl ⟨by rfl, ?hq87⟩) (by assumption) ?rq87
          case hq87 => intro W hSw; (try obtain ⟨u0, u1, u2, v0, v1, v2, z0, z1, z2, z3⟩ := HC17.out W hSw); go_simp; (try with_reducible rfl)
          try simp only [Act.put, List.setIfInBounds_toArray, List.set_cons_zero, List.set_cons_succ]
          refine wpAnyH_take (i := 9) (oi := { dst := some 189, op := Op.pick (Operand.tmp 182) (Operand.tmp 188) (Operand.const (Value.bool false)), type := 4, pos := "law.go:82", after := #[{ on := 2, ground := Ground.data }, { on := 8, ground := Ground.data }], guard := none }) (v := ?vq88) rfl (by kernel_rfl) (by kernel_rfl) (by kernel_rfl) (fun _ _ _ h => h) (Or.inl ⟨by rfl, ?hq88⟩) (by assumption) ?rq88
          case hq88 => intro W hSw; (try obtain ⟨u0, u1, u2, v0, v1, v2, z0, z1, z2, z3⟩ := HC17.out W hSw); go_simp; (try with_reducible rfl)
          try simp only [Act.put, List.setIfInBounds_toArray, List.set_cons_zero, List.set_cons_succ]
          refine wpAnyH_take (i := 10) (oi := { dst := some 190, op := Op.move (Operand.tmp 189), type := 4, pos := "law.go:82", after := #[{ on := 9, ground := Ground.data }, { on := 2, ground := Ground.chain }], guard := none }) (v := ?vq89) rfl (by kernel_rfl) (by kernel_rfl) (by kernel_rfl) (fun _ _ _ h => h) (Or.inl ⟨by rfl, ?hq89⟩) (by assumption) ?rq89
          case hq89 => intro W hSw; (try obtain ⟨u0, u1, u2, v0, v1, v2, z0, z1, z2, z3⟩ := HC17.out W hSw); go_simp; (try with_reducible rfl)
          try simp only [Act.put, List.setIfInBounds_toArray, List.set_cons_zero, List.set_cons_succ]
          refine wpAnyH_take (i := 11) (oi := { dst := some 191, op := Op.load 49 (Operand.tmp 23), type := 49, pos := "law.go:82", after := #[{ on := 10, ground := Ground.guard }], guard := some (10, true) }) (v := undef) rfl (by kernel_rfl) (by kernel_rfl) (by kernel_rfl) (fun _ _ _ h => h) (Or.inr ⟨by rfl, rfl⟩) (by assumption) ?_
          try simp only [Act.put, List.setIfInBounds_toArray, List.set_cons_zero, List.set_cons_succ]
          refine wpAnyH_take (i := 12) (oi := { dst := some 192, op := Op.move (Operand.tmp 4), type := 3, pos := "law.go:82", after := #[{ on := 10, ground := Ground.guard }], guard := some (10, true) }) (v := undef) rfl (by kernel_rfl) (by kernel_rfl) (by kernel_rfl) (fun _ _ _ h => h) (Or.inr ⟨by rfl, rfl⟩) (by assumption) ?_
          try simp only [Act.put, List.setIfInBounds_toArray, List.set_cons_zero, List.set_cons_succ]
          refine wpAnyH_take (i := 13) (oi := { dst := some 193, op := Op.move (Operand.tmp 5), type := 3, pos := "law.go:82", after := #[{ on := 10, ground := Ground.guard }], guard := some (10, true) }) (v := undef) rfl (by kernel_rfl) (by kernel_rfl) (by kernel_rfl) (fun _ _ _ h => h) (Or.inr ⟨by rfl, rfl⟩) (by assumption) ?_
          try simp only [Act.put, List.setIfInBounds_toArray, List.set_cons_zero, List.set_cons_succ]
          refine wpAnyH_take (i := 14) (oi := { dst := some 194, op := Op.move (Operand.tmp 6), type := 9, pos := "law.go:82", after := #[{ on := 10, ground := Ground.guard }], guard := some (10, true) }) (v := undef) rfl (by kernel_rfl) (by kernel_rfl) (by kernel_rfl) (fun _ _ _ h => h) (Or.inr ⟨by rfl, rfl⟩) (by assumption) ?_
          try simp only [Act.put, List.setIfInBounds_toArray, List.set_cons_zero, List.set_cons_succ]
          refine wpAnyH_take (i := 15) (oi := { dst := some 195, op := Op.call { callee := Callee.value (Operand.func 21), args := #[Operand.tmp 191, Operand.tmp 192, Operand.tmp 193, Operand.tmp 194], argTypes := #[49, 3, 3, 9] }, type := 4, pos := "law.go:82", after := #[{ on := 11, ground := Ground.data }, { on := 12, ground := Ground.data }, { on := 13, ground := Ground.data }, { on := 14, ground := Ground.data }, { on := 10, ground := Ground.chain }, { on := 10, ground := Ground.guard }], guard := some (10, true) }) (v := undef) rfl (by kernel_rfl) (by kernel_rfl) (by kernel_rfl) (fun _ _ _ h => h) (Or.inr ⟨by rfl, rfl⟩) (by assumption) ?_
          try simp only [Act.put, List.setIfInBounds_toArray, List.set_cons_zero, List.set_cons_succ]
          refine wpAnyH_take (i := 16) (oi := { dst := some 196, op := Op.load 31 (Operand.tmp 18), type := 31, pos := "law.go:82", after := #[{ on := 10, ground := Ground.guard }], guard := some (10, true) }) (v := undef) rfl (by kernel_rfl) (by kernel_rfl) (by kernel_rfl) (fun _ _ _ h => h) (Or.inr ⟨by rfl, rfl⟩) (by assumption) ?_
          try simp only [Act.put, List.setIfInBounds_toArray, List.set_cons_zero, List.set_cons_succ]
          refine wpAnyH_take (i := 17) (oi := { dst := some 197, op := Op.move (Operand.tmp 4), type := 3, pos := "law.go:82", after := #[{ on := 10, ground := Ground.guard }], guard := some (10, true) }) (v := undef) rfl (by kernel_rfl) (by kernel_rfl) (by kernel_rfl) (fun _ _ _ h => h) (Or.inr ⟨by rfl, rfl⟩) (by assumption) ?_
          try simp only [Act.put, List.setIfInBounds_toArray, List.set_cons_zero, List.set_cons_succ]
          refine wpAnyH_take (i := 18) (oi := { dst := some 198, op := Op.call { callee := Callee.builtin Builtin.min, args := #[Operand.tmp 197, Operand.const (Value.int IntKind.i64 100)], argTypes := #[3, 3] }, type := 3, pos := "law.go:82", after := #[{ on := 17, ground := Ground.data }, { on := 10, ground := Ground.guard }], guard := some (10, true) }) (v := undef) rfl (by kernel_rfl) (by kernel_rfl) (by kernel_rfl) (fun _ _ _ h => h) (Or.inr ⟨by rfl, rfl⟩) (by assumption) ?_
          try simp only [Act.put, List.setIfInBounds_toArray, List.set_cons_zero, List.set_cons_succ]
          refine wpAnyH_take (i := 19) (oi := { dst := some 199, op := Op.move (Operand.tmp 5), type := 3, pos := "law.go:82", after := #[{ on := 10, ground := Ground.guard }], guard := some (10, true) }) (v := undef) rfl (by kernel_rfl) (by kernel_rfl) (by kernel_rfl) (fun _ _ _ h => h) (Or.inr ⟨by rfl, rfl⟩) (by assumption) ?_
          try simp only [Act.put, List.setIfInBounds_toArray, List.set_cons_zero, List.set_cons_succ]
          refine wpAnyH_take (i := 20) (oi := { dst := some 200, op := Op.move (Operand.tmp 6), type := 9, pos := "law.go:82", after := #[{ on := 10, ground := Ground.guard }], guard := some (10, true) }) (v := undef) rfl (by kernel_rfl) (by kernel_rfl) (by kernel_rfl) (fun _ _ _ h => h) (Or.inr ⟨by rfl, rfl⟩) (by assumption) ?_
          try simp only [Act.put, List.setIfInBounds_toArray, List.set_cons_zero, List.set_cons_succ]
          refine wpAnyH_take (i := 21) (oi := { dst := some 201, op := Op.call { callee := Callee.value (Operand.func 22), args := #[Operand.tmp 196, Operand.tmp 198, Operand.tmp 199, Operand.tmp 200], argTypes := #[31, 3, 3, 9] }, type := 4, pos := "law.go:82", after := #[{ on := 16, ground := Ground.data }, { on := 18, ground := Ground.data }, { on := 19, ground := Ground.data }, { on := 20, ground := Ground.data }, { on := 15, ground := Ground.chain }, { on := 10, ground := Ground.guard }], guard := some (10, true) }) (v := undef) rfl (by kernel_rfl) (by kernel_rfl) (by kernel_rfl) (fun _ _ _ h => h) (Or.inr ⟨by rfl, rfl⟩) (by assumption) ?_
          try simp only [Act.put, List.setIfInBounds_toArray, List.set_cons_zero, List.set_cons_succ]
          refine wpAnyH_take (i := 22) (oi := { dst := some 202, op := Op.binOp BinOp.neq 4 (Operand.tmp 195) (Operand.tmp 201) 4, type := 4, pos := "law.go:82", after := #[{ on := 15, ground := Ground.data }, { on := 21, ground := Ground.data }, { on := 10, ground := Ground.guard }], guard := some (10, true) }) (v := undef) rfl (by kernel_rfl) (by kernel_rfl) (by kernel_rfl) (fun _ _ _ h => h) (Or.inr ⟨by rfl, rfl⟩) (by assumption) ?_
          try simp only [Act.put, List.setIfInBounds_toArray, List.set_cons_zero, List.set_cons_succ]
          refine wpAnyH_take (i := 23) (oi := { dst := some 203, op := Op.pick (Operand.tmp 190) (Operand.tmp 202) (Operand.const (Value.bool false)), type := 4, pos := "law.go:82", after := #[{ on := 10, ground := Ground.data }, { on := 22, ground := Ground.data }], guard := none }) (v := ?vq90) rfl (by kernel_rfl) (by kernel_rfl) (by kernel_rfl) (fun _ _ _ h => h) (Or.inl ⟨by rfl, ?hq90⟩) (by assumption) ?rq90
          case hq90 => intro W hSw; (try obtain ⟨u0, u1, u2, v0, v1, v2, z0, z1, z2, z3⟩ := HC17.out W hSw); go_simp; (try with_reducible rfl)
          try simp only [Act.put, List.setIfInBounds_toArray, List.set_cons_zero, List.set_cons_succ]
          refine wpAnyH_done (by kernel_rfl) ?_ _
          go_wp2_with fail
          go_roundw
          case rel =>
            have f := hHeld
            have hb := BK17.out.fr (f.below (fun _ h => h.elim))
            rw [show 2 * k0 + 1 + 1 = 2 * (k0 + 1) by omega] at hb
            exact ⟨k0 + 1, _, _, by omega, by go_num, hb, K17.out.trans f (fun _ h => h.elim)⟩
          case measure => simp [intOf]; omega
      · have ht0d : decide (0 ≤ tier) = false := decide_eq_false ht0
        go_wp2_with fail
        refine wp_region_held_drew (S := fun W => Fr (fun _ => False) w17 W) (by kernel_rfl) (F24.out.drew) (fun hHeld => ?_)
        refine wpAnyH_take (i := 0) (oi := { dst := some 180, op := Op.move (Operand.tmp 5), type := 3, pos := "law.go:82", after := #[], guard := none }) (v := ?vq91) rfl (by kernel_rfl) (by kernel_rfl) (by kernel_rfl) (fun _ _ _ h => h) (Or.inl ⟨by rfl, ?hq91⟩) (by assumption) ?rq91
        case hq91 => intro W hSw; (try obtain ⟨u0, u1, u2, v0, v1, v2, z0, z1, z2, z3⟩ := HC17.out W hSw); go_simp; (try with_reducible rfl)
        try simp only [Act.put, List.setIfInBounds_toArray, List.set_cons_zero, List.set_cons_succ]
        refine wpAnyH_take (i := 1) (oi := { dst := some 181, op := Op.binOp BinOp.geq 3 (Operand.tmp 180) (Operand.const (Value.int IntKind.i64 0)) 3, type := 4, pos := "law.go:82", after := #[{ on := 0, ground := Ground.data }], guard := none }) (v := ?vq92) rfl (by kernel_rfl) (by kernel_rfl) (by kernel_rfl) (fun _ _ _ h => h) (Or.inl ⟨by rfl, ?hq92⟩) (by assumption) ?rq92
        case hq92 => intro W hSw; (try obtain ⟨u0, u1, u2, v0, v1, v2, z0, z1, z2, z3⟩ := HC17.out W hSw); go_simp; (try with_reducible rfl)
        try simp only [Act.put, List.setIfInBounds_toArray, List.set_cons_zero, List.set_cons_succ]
        refine wpAnyH_take (i := 2) (oi := { dst := some 182, op := Op.move (Operand.tmp 181), type := 4, pos := "law.go:82", after := #[{ on := 1, ground := Ground.data }], guard := none }) (v := ?vq93) rfl (by kernel_rfl) (by kernel_rfl) (by kernel_rfl) (fun _ _ _ h => h) (Or.inl ⟨by rfl, ?hq93⟩) (by assumption) ?rq93
        case hq93 => intro W hSw; (try obtain ⟨u0, u1, u2, v0, v1, v2, z0, z1, z2, z3⟩ := HC17.out W hSw); go_simp; (try with_reducible rfl)
        try simp only [Act.put, List.setIfInBounds_toArray, List.set_cons_zero, List.set_cons_succ]
        refine wpAnyH_take (i := 3) (oi := { dst := some 183, op := Op.move (Operand.tmp 5), type := 3, pos := "law.go:82", after := #[{ on := 2, ground := Ground.guard }], guard := some (2, true) }) (v := undef) rfl (by kernel_rfl) (by kernel_rfl) (by kernel_rfl) (fun _ _ _ h => h) (Or.inr ⟨by rfl, rfl⟩) (by assumption) ?_
        try simp only [Act.put, List.setIfInBounds_toArray, List.set_cons_zero, List.set_cons_succ]
        refine wpAnyH_take (i := 4) (oi := { dst := some 184, op := Op.fieldAddr 49 (Operand.tmp 23) 0, type := 0, pos := "law.go:82", after := #[{ on := 2, ground := Ground.guard }], guard := some (2, true) }) (v := undef) rfl (by kernel_rfl) (by kernel_rfl) (by kernel_rfl) (fun _ _ _ h => h) (Or.inr ⟨by rfl, rfl⟩) (by assumption) ?_
        try simp only [Act.put, List.setIfInBounds_toArray, List.set_cons_zero, List.set_cons_succ]
        refine wpAnyH_take (i := 5) (oi := { dst := some 185, op := Op.fieldAddr 24 (Operand.tmp 184) 1, type := 0, pos := "law.go:82", after := #[{ on := 4, ground := Ground.data }, { on := 2, ground := Ground.guard }], guard := some (2, true) }) (v := undef) rfl (by kernel_rfl) (by kernel_rfl) (by kernel_rfl) (fun _ _ _ h => h) (Or.inr ⟨by rfl, rfl⟩) (by assumption) ?_
        try simp only [Act.put, List.setIfInBounds_toArray, List.set_cons_zero, List.set_cons_succ]
        refine wpAnyH_take (i := 6) (oi := { dst := some 186, op := Op.load 22 (Operand.tmp 185), type := 22, pos := "law.go:82", after := #[{ on := 5, ground := Ground.data }, { on := 2, ground := Ground.guard }], guard := some (2, true) }) (v := undef) rfl (by kernel_rfl) (by kernel_rfl) (by kernel_rfl) (fun _ _ _ h => h) (Or.inr ⟨by rfl, rfl⟩) (by assumption) ?_
        try simp only [Act.put, List.setIfInBounds_toArray, List.set_cons_zero, List.set_cons_succ]
        refine wpAnyH_take (i := 7) (oi := { dst := some 187, op := Op.call { callee := Callee.builtin Builtin.len, args := #[Operand.tmp 186], argTypes := #[22] }, type := 3, pos := "law.go:82", after := #[{ on := 6, ground := Ground.data }, { on := 2, ground := Ground.guard }], guard := some (2, true) }) (v := undef) rfl (by kernel_rfl) (by kernel_rfl) (by kernel_rfl) (fun _ _ _ h => h) (Or.inr ⟨by rfl, rfl⟩) (by assumption) ?_
        try simp only [Act.put, List.setIfInBounds_toArray, List.set_cons_zero, List.set_cons_succ]
        refine wpAnyH_take (i := 8) (oi := { dst := some 188, op := Op.binOp BinOp.lss 3 (Operand.tmp 183) (Operand.tmp 187) 3, type := 4, pos := "law.go:82", after := #[{ on := 3, ground := Ground.data }, { on := 7, ground := Ground.data }, { on := 2, ground := Ground.guard }], guard := some (2, true) }) (v := undef) rfl (by kernel_rfl) (by kernel_rfl) (by kernel_rfl) (fun _ _ _ h => h) (Or.inr ⟨by rfl, rfl⟩) (by assumption) ?_
        try simp only [Act.put, List.setIfInBounds_toArray, List.set_cons_zero, List.set_cons_succ]
        refine wpAnyH_take (i := 9) (oi := { dst := some 189, op := Op.pick (Operand.tmp 182) (Operand.tmp 188) (Operand.const (Value.bool false)), type := 4, pos := "law.go:82", after := #[{ on := 2, ground := Ground.data }, { on := 8, ground := Ground.data }], guard := none }) (v := ?vq94) rfl (by kernel_rfl) (by kernel_rfl) (by kernel_rfl) (fun _ _ _ h => h) (Or.inl ⟨by rfl, ?hq94⟩) (by assumption) ?rq94
        case hq94 => intro W hSw; (try obtain ⟨u0, u1, u2, v0, v1, v2, z0, z1, z2, z3⟩ := HC17.out W hSw); go_simp; (try with_reducible rfl)
        try simp only [Act.put, List.setIfInBounds_toArray, List.set_cons_zero, List.set_cons_succ]
        refine wpAnyH_take (i := 10) (oi := { dst := some 190, op := Op.move (Operand.tmp 189), type := 4, pos := "law.go:82", after := #[{ on := 9, ground := Ground.data }, { on := 2, ground := Ground.chain }], guard := none }) (v := ?vq95) rfl (by kernel_rfl) (by kernel_rfl) (by kernel_rfl) (fun _ _ _ h => h) (Or.inl ⟨by rfl, ?hq95⟩) (by assumption) ?rq95
        case hq95 => intro W hSw; (try obtain ⟨u0, u1, u2, v0, v1, v2, z0, z1, z2, z3⟩ := HC17.out W hSw); go_simp; (try with_reducible rfl)
        try simp only [Act.put, List.setIfInBounds_toArray, List.set_cons_zero, List.set_cons_succ]
        refine wpAnyH_take (i := 11) (oi := { dst := some 191, op := Op.load 49 (Operand.tmp 23), type := 49, pos := "law.go:82", after := #[{ on := 10, ground := Ground.guard }], guard := some (10, true) }) (v := undef) rfl (by kernel_rfl) (by kernel_rfl) (by kernel_rfl) (fun _ _ _ h => h) (Or.inr ⟨by rfl, rfl⟩) (by assumption) ?_
        try simp only [Act.put, List.setIfInBounds_toArray, List.set_cons_zero, List.set_cons_succ]
        refine wpAnyH_take (i := 12) (oi := { dst := some 192, op := Op.move (Operand.tmp 4), type := 3, pos := "law.go:82", after := #[{ on := 10, ground := Ground.guard }], guard := some (10, true) }) (v := undef) rfl (by kernel_rfl) (by kernel_rfl) (by kernel_rfl) (fun _ _ _ h => h) (Or.inr ⟨by rfl, rfl⟩) (by assumption) ?_
        try simp only [Act.put, List.setIfInBounds_toArray, List.set_cons_zero, List.set_cons_succ]
        refine wpAnyH_take (i := 13) (oi := { dst := some 193, op := Op.move (Operand.tmp 5), type := 3, pos := "law.go:82", after := #[{ on := 10, ground := Ground.guard }], guard := some (10, true) }) (v := undef) rfl (by kernel_rfl) (by kernel_rfl) (by kernel_rfl) (fun _ _ _ h => h) (Or.inr ⟨by rfl, rfl⟩) (by assumption) ?_
        try simp only [Act.put, List.setIfInBounds_toArray, List.set_cons_zero, List.set_cons_succ]
        refine wpAnyH_take (i := 14) (oi := { dst := some 194, op := Op.move (Operand.tmp 6), type := 9, pos := "law.go:82", after := #[{ on := 10, ground := Ground.guard }], guard := some (10, true) }) (v := undef) rfl (by kernel_rfl) (by kernel_rfl) (by kernel_rfl) (fun _ _ _ h => h) (Or.inr ⟨by rfl, rfl⟩) (by assumption) ?_
        try simp only [Act.put, List.setIfInBounds_toArray, List.set_cons_zero, List.set_cons_succ]
        refine wpAnyH_take (i := 15) (oi := { dst := some 195, op := Op.call { callee := Callee.value (Operand.func 21), args := #[Operand.tmp 191, Operand.tmp 192, Operand.tmp 193, Operand.tmp 194], argTypes := #[49, 3, 3, 9] }, type := 4, pos := "law.go:82", after := #[{ on := 11, ground := Ground.data }, { on := 12, ground := Ground.data }, { on := 13, ground := Ground.data }, { on := 14, ground := Ground.data }, { on := 10, ground := Ground.chain }, { on := 10, ground := Ground.guard }], guard := some (10, true) }) (v := undef) rfl (by kernel_rfl) (by kernel_rfl) (by kernel_rfl) (fun _ _ _ h => h) (Or.inr ⟨by rfl, rfl⟩) (by assumption) ?_
        try simp only [Act.put, List.setIfInBounds_toArray, List.set_cons_zero, List.set_cons_succ]
        refine wpAnyH_take (i := 16) (oi := { dst := some 196, op := Op.load 31 (Operand.tmp 18), type := 31, pos := "law.go:82", after := #[{ on := 10, ground := Ground.guard }], guard := some (10, true) }) (v := undef) rfl (by kernel_rfl) (by kernel_rfl) (by kernel_rfl) (fun _ _ _ h => h) (Or.inr ⟨by rfl, rfl⟩) (by assumption) ?_
        try simp only [Act.put, List.setIfInBounds_toArray, List.set_cons_zero, List.set_cons_succ]
        refine wpAnyH_take (i := 17) (oi := { dst := some 197, op := Op.move (Operand.tmp 4), type := 3, pos := "law.go:82", after := #[{ on := 10, ground := Ground.guard }], guard := some (10, true) }) (v := undef) rfl (by kernel_rfl) (by kernel_rfl) (by kernel_rfl) (fun _ _ _ h => h) (Or.inr ⟨by rfl, rfl⟩) (by assumption) ?_
        try simp only [Act.put, List.setIfInBounds_toArray, List.set_cons_zero, List.set_cons_succ]
        refine wpAnyH_take (i := 18) (oi := { dst := some 198, op := Op.call { callee := Callee.builtin Builtin.min, args := #[Operand.tmp 197, Operand.const (Value.int IntKind.i64 100)], argTypes := #[3, 3] }, type := 3, pos := "law.go:82", after := #[{ on := 17, ground := Ground.data }, { on := 10, ground := Ground.guard }], guard := some (10, true) }) (v := undef) rfl (by kernel_rfl) (by kernel_rfl) (by kernel_rfl) (fun _ _ _ h => h) (Or.inr ⟨by rfl, rfl⟩) (by assumption) ?_
        try simp only [Act.put, List.setIfInBounds_toArray, List.set_cons_zero, List.set_cons_succ]
        refine wpAnyH_take (i := 19) (oi := { dst := some 199, op := Op.move (Operand.tmp 5), type := 3, pos := "law.go:82", after := #[{ on := 10, ground := Ground.guard }], guard := some (10, true) }) (v := undef) rfl (by kernel_rfl) (by kernel_rfl) (by kernel_rfl) (fun _ _ _ h => h) (Or.inr ⟨by rfl, rfl⟩) (by assumption) ?_
        try simp only [Act.put, List.setIfInBounds_toArray, List.set_cons_zero, List.set_cons_succ]
        refine wpAnyH_take (i := 20) (oi := { dst := some 200, op := Op.move (Operand.tmp 6), type := 9, pos := "law.go:82", after := #[{ on := 10, ground := Ground.guard }], guard := some (10, true) }) (v := undef) rfl (by kernel_rfl) (by kernel_rfl) (by kernel_rfl) (fun _ _ _ h => h) (Or.inr ⟨by rfl, rfl⟩) (by assumption) ?_
        try simp only [Act.put, List.setIfInBounds_toArray, List.set_cons_zero, List.set_cons_succ]
        refine wpAnyH_take (i := 21) (oi := { dst := some 201, op := Op.call { callee := Callee.value (Operand.func 22), args := #[Operand.tmp 196, Operand.tmp 198, Operand.tmp 199, Operand.tmp 200], argTypes := #[31, 3, 3, 9] }, type := 4, pos := "law.go:82", after := #[{ on := 16, ground := Ground.data }, { on := 18, ground := Ground.data }, { on := 19, ground := Ground.data }, { on := 20, ground := Ground.data }, { on := 15, ground := Ground.chain }, { on := 10, ground := Ground.guard }], guard := some (10, true) }) (v := undef) rfl (by kernel_rfl) (by kernel_rfl) (by kernel_rfl) (fun _ _ _ h => h) (Or.inr ⟨by rfl, rfl⟩) (by assumption) ?_
        try simp only [Act.put, List.setIfInBounds_toArray, List.set_cons_zero, List.set_cons_succ]
        refine wpAnyH_take (i := 22) (oi := { dst := some 202, op := Op.binOp BinOp.neq 4 (Operand.tmp 195) (Operand.tmp 201) 4, type := 4, pos := "law.go:82", after := #[{ on := 15, ground := Ground.data }, { on := 21, ground := Ground.data }, { on := 10, ground := Ground.guard }], guard := some (10, true) }) (v := undef) rfl (by kernel_rfl) (by kernel_rfl) (by kernel_rfl) (fun _ _ _ h => h) (Or.inr ⟨by rfl, rfl⟩) (by assumption) ?_
        try simp only [Act.put, List.setIfInBounds_toArray, List.set_cons_zero, List.set_cons_succ]
        refine wpAnyH_take (i := 23) (oi := { dst := some 203, op := Op.pick (Operand.tmp 190) (Operand.tmp 202) (Operand.const (Value.bool false)), type := 4, pos := "law.go:82", after := #[{ on := 10, ground := Ground.data }, { on := 22, ground := Ground.data }], guard := none }) (v := ?vq96) rfl (by kernel_rfl) (by kernel_rfl) (by kernel_rfl) (fun _ _ _ h => h) (Or.inl ⟨by rfl, ?hq96⟩) (by assumption) ?rq96
        case hq96 => intro W hSw; (try obtain ⟨u0, u1, u2, v0, v1, v2, z0, z1, z2, z3⟩ := HC17.out W hSw); go_simp; (try with_reducible rfl)
        try simp only [Act.put, List.setIfInBounds_toArray, List.set_cons_zero, List.set_cons_succ]
        refine wpAnyH_done (by kernel_rfl) ?_ _
        go_wp2_with fail
        go_roundw
        case rel =>
          have f := hHeld
          have hb := BK17.out.fr (f.below (fun _ h => h.elim))
          rw [show 2 * k0 + 1 + 1 = 2 * (k0 + 1) by omega] at hb
          exact ⟨k0 + 1, _, _, by omega, by go_num, hb, K17.out.trans f (fun _ h => h.elim)⟩
        case measure => simp [intOf]; omega
    · obtain rfl : k0 = 2 := by omega
      have HBK := Lib.hid hbk
      have HFr := Lib.hid hfr
      clear hbk hfr
      go_wp2_with fail
      refine (alive13_any wr).mono ?_
      rintro r w25 ⟨rfl, b25⟩
      have BK25 := Lib.hid (HBK.out.fr b25)
      have F25 := Lib.hid (HFr.out.trans (Fr.b0 b25) (fun _ h => h.elim))
      clear b25 HBK HFr
      go_wp2_with fail
      refine (BK25.out.apart (by omega) (by omega)).mono ?_
      rintro r w26 ⟨rfl, f26⟩
      have B26 : Hid (Below w.heap.size w w26) := HO5.out.trans (((F25.out.trans f26 (fun i hi => .inr (by rw [Hgb.out]; exact hi))).below (fun _ h => h.elim)).mono HO5.out.size)
      clear f26
      go_wp2_with fail
      go_ret
      exact ⟨rfl, B26.out⟩
end Go.Proofs.YtbdhmoeadakipaaGreat
