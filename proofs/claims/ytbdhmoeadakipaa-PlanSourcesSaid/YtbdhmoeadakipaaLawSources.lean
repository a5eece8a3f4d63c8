/- The statement PlanSources: the walk. -/
import Derived.Test.YtbdhmoeadakipaaAlive
import Derived.Test.YtbdhmoeadakipaaPlanLaw
namespace Go.Proofs.Ytbdhmoeadakipaa
open Go.RowKit

theorem two_pol (w : World) (nmf : ByteArray) (Af : Option Addr) (nf cf : Nat) (nmt : ByteArray) (At : Option Addr) (nt ct : Nat) :
    ∃ WA, WA = (w.alloc (.cells #[.string nmf, .slice Af nf cf] 24)).alloc (.cells #[.string nmt, .slice At nt ct] 24) ∧ Own w WA (fun _ => False) ∧ Blk WA w.heap.size 24 #[.string nmf, .slice Af nf cf] ∧ Blk WA (w.heap.size + 1) 24 #[.string nmt, .slice At nt ct] :=
  ⟨_, rfl, ((Own.start w).skip (Fr.none_alloc _ _)).skip (Fr.none_alloc _ _), (Blk.new w _ _).alloc _, Blk.new' (by simp) _ _⟩

set_option maxRecDepth 100000 in
set_option maxHeartbeats 4000000 in
theorem sources_bad (nmf : ByteArray) (lf : List TierV) (Af : Option Addr) (nf cf : Nat) (nmt : ByteArray) (lt : List TierV) (At : Option Addr) (nt ct : Nat) (now : Int) (B : Option Addr) (m d : Nat) (w : World)
    (hf : Rd w 4 Af nf (tcells lf)) (ht : Rd w 4 At nt (tcells lt)) (hnf : nmf.size ≤ maxLen) (hnt : nmt.size ≤ maxLen) (hsf : ∀ t ∈ lf, t.name.size ≤ maxLen) (hst : ∀ t ∈ lt, t.name.size ≤ maxLen) (hn : nf ≤ 9223372036854775807) (hn2 : nt ≤ 9223372036854775807) (hm : m ≤ 9223372036854775807)
    (hbad : ¬ (m ≤ 10 ∧ 0 ≤ now ∧ now ≤ 1099511627776)) :
    Calls Try.prog 3 #[polV nmf Af nf cf, polV nmt At nt ct, .int .i64 now, .slice B m d] w fun r w' => r = .returned (.bool true) ∧ Below w.heap.size w w' := by
  have HA : Hid (∀ w', Fr (fun _ => False) w w' → Calls Try.prog 5 #[polV nmf Af nf cf] w' fun r w'' => SmallR nmf nf r ∧ Below w'.heap.size w' w'') :=
    fun w' h => small_any nmf lf Af nf cf w' (hf.fr0 h) hn hnf hsf
  have HB : Hid (∀ w', Fr (fun _ => False) w w' → Calls Try.prog 5 #[polV nmt At nt ct] w' fun r w'' => SmallR nmt nt r ∧ Below w'.heap.size w' w'') :=
    fun w' h => small_any nmt lt At nt ct w' (ht.fr0 h) hn2 hnt hst
  clear hf ht hnf hnt hsf hst
  obtain ⟨WA, hWA, oA, b3, b4⟩ := two_pol w nmf Af nf cf nmt At nt ct
  have OA := Lib.hid oA
  have HWA := Lib.hid hWA
  have B4 := Lib.hid b4
  clear oA hWA b3 b4
  unfold polV at HA HB ⊢
  have hcase : (10 : Int) < (m : Int) ∨ ((m : Int) ≤ 10 ∧ now < 0) ∨ ((m : Int) ≤ 10 ∧ 0 ≤ now ∧ 1099511627776 < now) := by omega
  clear hbad
  rcases hcase with h1 | ⟨h1, h2⟩ | ⟨h1, h2, h3⟩
  all_goals
    go_enter Try.func3, Try.ntmps3
    go_wp2_with fail
    rw [← HWA.out]
    refine (HA.out WA (Fr.b0 OA.out.bel)).mono ?_
    rintro r w1 ⟨⟨b, rfl, hb⟩, b1⟩
    clear hb
    have O1 := Lib.hid (OA.out.below b1)
    have b5 := B4.out.below b1
    have d0 := b5.cell 0
    have d1 := b5.cell 1
    simp only [List.getElem?_toArray, List.getElem?_cons_succ, List.getElem?_cons_zero] at d0 d1
    clear b1 b5
    cases b
    · go_wp2_with fail
      refine (alive_any w1).mono ?_
      rintro r w5 ⟨rfl, b5⟩
      have O2 := Lib.hid (O1.out.below b5)
      clear b5
      go_wp2_with fail
      go_ret
      exact ⟨rfl, O2.out.bel⟩
    · go_wp2_with fail
      refine (HB.out w1 (Fr.b0 O1.out.bel)).mono ?_
      rintro r w2 ⟨⟨b, rfl, hb⟩, b2⟩
      clear hb
      have O2 := Lib.hid (O1.out.below b2)
      clear b2 d0 d1
      cases b
      all_goals
        go_wp2_with fail
        refine (alive_any w2).mono ?_
        rintro r w5 ⟨rfl, b5⟩
        have O3 := Lib.hid (O2.out.below b5)
        clear b5
        go_wp2_with fail
        go_ret
        exact ⟨rfl, O3.out.bel⟩

set_option maxRecDepth 100000 in
set_option maxHeartbeats 16000000 in
theorem sources_walk (nmf : ByteArray) (lf : List TierV) (Af : Option Addr) (nf cf : Nat) (nmt : ByteArray) (lt : List TierV) (At : Option Addr) (nt ct : Nat) (now : Int) (fl : List Int) (B : Option Addr) (m d : Nat) (w : World)
    (hf : Rd w 4 Af nf (tcells lf)) (hfc : nf ≤ cf) (ht : Rd w 4 At nt (tcells lt)) (htc : nt ≤ ct) (hfl : Rd w 1 B m (ints fl)) (hnf : nmf.size ≤ maxLen) (hnt : nmt.size ≤ maxLen) (hwf : ∀ t ∈ lf, t.wf) (hwt : ∀ t ∈ lt, t.wf) (hn : nf ≤ 9223372036854775807) (hn2 : nt ≤ 9223372036854775807) (hm9 : m ≤ 9223372036854775807) :
    Calls Try.prog 3 #[polV nmf Af nf cf, polV nmt At nt ct, .int .i64 now, .slice B m d] w fun r w' => r = .returned (.bool true) ∧ Below w.heap.size w w' := by
  by_cases hP : ¬ (m ≤ 10 ∧ 0 ≤ now ∧ now ≤ 1099511627776)
  · exact sources_bad nmf lf Af nf cf nmt lt At nt ct now B m d w hf ht hnf hnt (fun t h => (hwf t h).2.2.2) (fun t h => (hwt t h).2.2.2) hn hn2 hm9 hP
  obtain ⟨hm, hnow0, hnow1⟩ := Classical.not_not.1 hP
  clear hP
  have HA : Hid (∀ w', Fr (fun _ => False) w w' → Calls Try.prog 5 #[polV nmf Af nf cf] w' fun r w'' => SmallR nmf nf r ∧ Below w'.heap.size w' w'') :=
    fun w' h => small_any nmf lf Af nf cf w' (hf.fr0 h) hn hnf (fun t h => (hwf t h).2.2.2)
  have HB : Hid (∀ w', Fr (fun _ => False) w w' → Calls Try.prog 5 #[polV nmt At nt ct] w' fun r w'' => SmallR nmt nt r ∧ Below w'.heap.size w' w'') :=
    fun w' h => small_any nmt lt At nt ct w' (ht.fr0 h) hn2 hnt (fun t h => (hwt t h).2.2.2)
  have Hf := Lib.hid hf
  have Ht := Lib.hid ht
  have Hfl := Lib.hid hfl
  have Hwf := Lib.hid hwf
  have Hwt := Lib.hid hwt
  have Hnf := Lib.hid hnf
  have Hnt := Lib.hid hnt
  clear hf ht hfl hwf hwt hnf hnt
  obtain ⟨WA, hWA, oA, b3, b4⟩ := two_pol w nmf Af nf cf nmt At nt ct
  have OA := Lib.hid oA
  have HWA := Lib.hid hWA
  have B3 := Lib.hid b3
  have B4 := Lib.hid b4
  clear oA hWA b3 b4
  unfold polV at HA HB ⊢
  have hm' : (m : Int) ≤ 10 := by omega
  go_enter Try.func3, Try.ntmps3
  go_wp2_with fail
  rw [← HWA.out]
  refine (HA.out WA (Fr.b0 OA.out.bel)).mono ?_
  rintro r w1 ⟨⟨b, rfl, hb⟩, b1⟩
  have O1 := Lib.hid (OA.out.below b1)
  have B31 := Lib.hid (B3.out.below b1)
  have B41 := Lib.hid (B4.out.below b1)
  have d0 := B41.out.cell 0
  have d1 := B41.out.cell 1
  simp only [List.getElem?_toArray, List.getElem?_cons_succ, List.getElem?_cons_zero] at d0 d1
  clear b1
  cases b
  · clear hb
    go_wp2_with fail
    refine (alive_any w1).mono ?_
    rintro r w5 ⟨rfl, b5⟩
    have O2 := Lib.hid (O1.out.below b5)
    clear b5
    go_wp2_with fail
    go_ret
    exact ⟨rfl, O2.out.bel⟩
  have hsf := Lib.hid (hb rfl)
  clear hb
  go_wp2_with fail
  refine (HB.out w1 (Fr.b0 O1.out.bel)).mono ?_
  rintro r w2 ⟨⟨b, rfl, hb⟩, b2⟩
  have O2 := Lib.hid (O1.out.below b2)
  have B32 := Lib.hid (B31.out.below b2)
  have B42 := Lib.hid (B41.out.below b2)
  clear b2 d0 d1
  cases b
  · clear hb
    go_wp2_with fail
    refine (alive_any w2).mono ?_
    rintro r w5 ⟨rfl, b5⟩
    have O3 := Lib.hid (O2.out.below b5)
    clear b5
    go_wp2_with fail
    go_ret
    exact ⟨rfl, O3.out.bel⟩
  have hst := Lib.hid (hb rfl)
  clear hb HA HB B3 B31 B4 B41 O1 OA HWA
  go_wp2_with fail
  go_loop [9] (fun i => ∃ k : Nat, k ≤ m ∧ i = .int .i64 k ∧ Hid (∀ f ∈ fl.take k, 0 ≤ f ∧ f ≤ 2199023255552)) (fun i => m - (intOf i).toNat)
  case atStart => exact ⟨0, Nat.zero_le _, rfl, fun f h => by simp at h⟩
  case round =>
    obtain ⟨k, hk, rfl, hall⟩ := hrel
    by_cases hlt : k < m
    · obtain ⟨bd, x, rfl, hx, hc⟩ := (Hfl.out.fr0 (Fr.b0 O2.out.bel)).at_map hlt
      have Hx := Lib.hid hx
      clear hx
      by_cases hbad : x < 0 ∨ 2199023255552 < x
      · rcases hbad with h1 | h1
        · go_wp2_with fail
          refine (alive_any w2).mono ?_
          rintro r w5 ⟨rfl, b5⟩
          have O3 := Lib.hid (O2.out.below b5)
          clear b5
          go_wp2_with fail
          go_ret
          exact ⟨rfl, O3.out.bel⟩
        · have h2 : ¬ x < 0 := by omega
          go_wp2_with fail
          refine (alive_any w2).mono ?_
          rintro r w5 ⟨rfl, b5⟩
          have O3 := Lib.hid (O2.out.below b5)
          clear b5
          go_wp2_with fail
          go_ret
          exact ⟨rfl, O3.out.bel⟩
      · have h1 : ¬ x < 0 := by omega
        have h2 : ¬ 2199023255552 < x := by omega
        clear hbad
        have H3 := Lib.hid (show ∀ f ∈ fl.take (k + 1), 0 ≤ f ∧ f ≤ 2199023255552 by
          rw [take_snoc Hx.out]
          intro f hf
          rcases List.mem_append.1 hf with hf | hf
          · exact hall.out f hf
          · rw [List.mem_singleton] at hf; subst hf; omega)
        go_wp2
        go_round
        case rel => exact ⟨k + 1, by omega, by go_num, H3.out⟩
        case measure => simp [intOf]; omega
    · obtain rfl : k = m := by omega
      have Hall := Lib.hid (show ∀ f ∈ fl, 0 ≤ f ∧ f ≤ 2199023255552 by
        have := hall.out
        rwa [take_all (by have := Hfl.out.len_map; omega)] at this)
      clear hall
      have c0 := B32.out.cell 0
      have c1 := B32.out.cell 1
      simp only [List.getElem?_toArray, List.getElem?_cons_succ, List.getElem?_cons_zero] at c0 c1
      have HO := Lib.hid (of_any nmf lf Af nf cf now fl B k d w2 (Hf.out.fr0 (Fr.b0 O2.out.bel)) (by have := hsf.out; omega) (Hfl.out.fr0 (Fr.b0 O2.out.bel)) (by omega))
      unfold polV reachV at HO
      clear hlt hk
      go_wp2_with fail
      refine (HO.out).mono ?_
      rintro r w3 ⟨⟨A3, c3, B3, d3, rfl, hc3, hd3, r3, f3, n3, m3⟩, b3⟩
      obtain ⟨W4, hW4⟩ : ∃ W4, W4 = w3.alloc (.cells #[.int .i64 now, .string nmf, .slice A3 nf c3, .slice B3 k d3] 29) := ⟨_, rfl⟩
      have O4 := Lib.hid (hW4 ▸ (O2.out.below b3).skip (Fr.none_alloc _ _) : Own w W4 (fun _ => False))
      have BF := Lib.hid (hW4 ▸ (B32.out.below b3).alloc _ : Blk W4 w.heap.size 24 #[.string nmf, .slice Af nf cf])
      have BT := Lib.hid (hW4 ▸ (B42.out.below b3).alloc _ : Blk W4 (w.heap.size + 1) 24 #[.string nmt, .slice At nt ct])
      have BR := Lib.hid (hW4 ▸ Blk.new _ _ _ : Blk W4 w3.heap.size 29 #[.int .i64 now, .string nmf, .slice A3 nf c3, .slice B3 k d3])
      have R4 := Lib.hid (hW4 ▸ r3.alloc _ : Rd W4 4 A3 nf (tcells lf))
      have F4 := Lib.hid (hW4 ▸ f3.alloc _ : Rd W4 1 B3 k (ints fl))
      have B32b := Lib.hid (B32.out.below b3)
      have B42b := Lib.hid (B42.out.below b3)
      clear HO b3 r3 f3 n3 m3 c0 c1 B32 B42 O2
      have c0 := fun o => (B32b.out.alloc o).cell 0
      have c1 := fun o => (B32b.out.alloc o).cell 1
      have d0 := fun o => (B42b.out.alloc o).cell 0
      have d1 := fun o => (B42b.out.alloc o).cell 1
      simp only [List.getElem?_toArray, List.getElem?_cons_succ, List.getElem?_cons_zero] at c0 c1 d0 d1
      have hW4' := Lib.hid hW4
      clear hW4 B32b B42b
      cases hck : (checkB nmf lf && checkB nmt lt)
      · have HM := Lib.hid (make_bad nmf lf Af nf cf now nmf A3 nf c3 B3 k d3 nmt lt At nt ct W4 (Hf.out.fr0 (Fr.b0 O4.out.bel)) hfc (Ht.out.fr0 (Fr.b0 O4.out.bel)) htc Hwf.out Hwt.out Hnf.out Hnt.out hck)
        unfold polV planV reachV at HM
        clear hck
        go_wp2_with fail
        rw [← hW4'.out]
        refine (HM.out).mono ?_
        rintro r w5 ⟨rfl, b5⟩
        have O5 := Lib.hid (O4.out.below b5)
        clear HM b5 c0 c1 d0 d1
        go_wp2_with fail
        refine (alive_any _).mono ?_
        rintro r w6 ⟨rfl, b6⟩
        have BP := (Blk.new w5 32 #[.string { data := #[] }, .slice none 0 0, .slice none 0 0]).below b6
        have O6 := Lib.hid ((O5.out.skip (Fr.none_alloc _ _)).below b6)
        have p2 := BP.cell 2
        simp only [List.getElem?_toArray, List.getElem?_cons_succ, List.getElem?_cons_zero] at p2
        clear b6 BP
        go_wp2_with fail
        go_ret
        exact ⟨rfl, O6.out.bel⟩
      · have hckf := Lib.hid (show checkB nmf lf = true by simp only [Bool.and_eq_true] at hck; exact hck.1)
        have hckt := Lib.hid (show checkB nmt lt = true by simp only [Bool.and_eq_true] at hck; exact hck.2)
        have HM := Lib.hid (make_good nmf lf Af nf cf now (by unfold i64; omega) nmf A3 c3 fl B3 k d3 nmt lt At nt ct W4 (Hf.out.fr0 (Fr.b0 O4.out.bel)) hfc R4.out F4.out (Ht.out.fr0 (Fr.b0 O4.out.bel)) htc Hwf.out Hwt.out Hnf.out Hnt.out (by have := hsf.out; omega) (by have := hst.out; omega) hckf.out hckt.out)
        unfold polV planV reachV at HM
        clear hck
        go_wp2_with fail
        rw [← hW4'.out]
        refine (HM.out).mono ?_
        rintro r w5 ⟨⟨A5, c5, S5, s5, rfl, hc5, hs5, r5, f5, n5, m5⟩, b5⟩
        obtain ⟨W6, hW6⟩ : ∃ W6, W6 = w5.alloc (.cells #[.string nmt, .slice A5 nt c5, .slice S5 nt s5] 32) := ⟨_, rfl⟩
        have O6 := Lib.hid (hW6 ▸ (O4.out.below b5).skip (Fr.none_alloc _ _) : Own w W6 (fun _ => False))
        have BF6 := Lib.hid (hW6 ▸ (BF.out.below b5).alloc _ : Blk W6 w.heap.size 24 #[.string nmf, .slice Af nf cf])
        have BT6 := Lib.hid (hW6 ▸ (BT.out.below b5).alloc _ : Blk W6 (w.heap.size + 1) 24 #[.string nmt, .slice At nt ct])
        have BR6 := Lib.hid (hW6 ▸ (BR.out.below b5).alloc _ : Blk W6 w3.heap.size 29 #[.int .i64 now, .string nmf, .slice A3 nf c3, .slice B3 k d3])
        have BP6 := Lib.hid (hW6 ▸ Blk.new _ _ _ : Blk W6 w5.heap.size 32 #[.string nmt, .slice A5 nt c5, .slice S5 nt s5])
        have R6 := Lib.hid (hW6 ▸ (R4.out.below b5).alloc _ : Rd W6 4 A3 nf (tcells lf))
        have F6 := Lib.hid (hW6 ▸ (F4.out.below b5).alloc _ : Rd W6 1 B3 k (ints fl))
        have T6 := Lib.hid (hW6 ▸ r5.alloc _ : Rd W6 4 A5 nt (tcells lt))
        have S6 := Lib.hid (hW6 ▸ f5.alloc _ : Rd W6 1 S5 nt (ints (srcs now lf fl lt)))
        have BRb := BR.out.below b5
        have e0 := fun o => (BRb.alloc o).cell 0
        have e1 := fun o => (BRb.alloc o).cell 1
        have e2 := fun o => (BRb.alloc o).cell 2
        have e3 := fun o => (BRb.alloc o).cell 3
        simp only [List.getElem?_toArray, List.getElem?_cons_succ, List.getElem?_cons_zero] at e0 e1 e2 e3
        have hW6' := Lib.hid hW6
        clear hW6 HM b5 c0 c1 d0 d1 r5 f5 n5 m5 BRb BF BT BR R4 F4 O4
        have HB := Lib.hid (bases_any nmt lt A5 nt c5 (srcs now lf fl lt) S5 s5 now (by unfold i64; omega) nmf lf A3 nf c3 fl B3 k d3 W6 T6.out S6.out R6.out F6.out Hwt.out Hwf.out (fun f hf => by have := Hall.out f hf; unfold i64; omega) (by have := hst.out; omega) (by have := hsf.out; omega))
        unfold planV reachV at HB
        go_wp2_with fail
        rw [← hW6'.out]
        refine (HB.out).mono ?_
        rintro r w7 ⟨⟨A7, c7, rfl, hc7, r7, n7⟩, b7⟩
        have O7 := Lib.hid (O6.out.below b7)
        have BF7 := Lib.hid (BF6.out.below b7)
        have BT7 := Lib.hid (BT6.out.below b7)
        have BR7 := Lib.hid (BR6.out.below b7)
        have BP7 := Lib.hid (BP6.out.below b7)
        have R7 := Lib.hid (R6.out.below b7)
        have F7 := Lib.hid (F6.out.below b7)
        have S7 := Lib.hid (S6.out.below b7)
        have V7 := Lib.hid r7
        have p2 := BP7.out.cell 2
        have d1 := BT7.out.cell 1
        simp only [List.getElem?_toArray, List.getElem?_cons_succ, List.getElem?_cons_zero] at p2 d1
        clear HB b7 r7 n7 e0 e1 e2 e3 O6 BF6 BT6 BR6 BP6 R6 F6 S6 T6 hW6' hW4'
        go_wp2_with fail
        have HC : Hid (∀ w', Fr (fun _ => False) w7 w' → w'.cell? ⟨w.heap.size, 1, none⟩ = some (.slice Af nf cf) ∧ w'.cell? ⟨w.heap.size + 1, 1, none⟩ = some (.slice At nt ct) ∧ w'.cell? ⟨w3.heap.size, 0, none⟩ = some (.int .i64 now) ∧ w'.cell? ⟨w3.heap.size, 1, none⟩ = some (.string nmf) ∧ w'.cell? ⟨w3.heap.size, 2, none⟩ = some (.slice A3 nf c3) ∧ w'.cell? ⟨w3.heap.size, 3, none⟩ = some (.slice B3 k d3) ∧ w'.cell? ⟨w5.heap.size, 2, none⟩ = some (.slice S5 nt s5)) :=
          fun w' h => ⟨(BF7.out.fr h (fun h => h)).cell 1, (BT7.out.fr h (fun h => h)).cell 1, (BR7.out.fr h (fun h => h)).cell 0, (BR7.out.fr h (fun h => h)).cell 1, (BR7.out.fr h (fun h => h)).cell 2, (BR7.out.fr h (fun h => h)).cell 3, (BP7.out.fr h (fun h => h)).cell 2⟩
        have HF : Hid (∀ (i : Nat) w', Fr (fun _ => False) w7 w' → i < nf → Calls Try.prog 10 #[.agg #[.int .i64 now, .string nmf, .slice A3 nf c3, .slice B3 k d3], .int .i64 i] w' fun r w'' => r = .returned (.int .i64 (fromV now lf fl i)) ∧ Below w'.heap.size w' w'') :=
          fun i w' h hi => from_any now (by unfold i64; omega) nmf lf A3 nf c3 fl B3 k d3 i w' (R7.out.fr0 h) (F7.out.fr0 h) Hwf.out hi (by have := hsf.out; omega)
        have HD := Lib.hid (fun i => from_bd hckf.out hnow0 hnow1 Hall.out i)
        have Hlf := Lib.hid (Hf.out.tiers_len)
        clear p2 d1 BF7 BT7 BR7 BP7
        go_loopw [14] (fun i wr => ∃ j : Nat, j ≤ nt ∧ i = .int .i64 j ∧ Own w wr (fun _ => False) ∧ Fr (fun _ => False) w7 wr) (fun i _ => nt - (intOf i).toNat)
        case atStart => exact ⟨0, Nat.zero_le _, rfl, O7.out, Fr.refl _ _⟩
        case round =>
          obtain ⟨j, hj, rfl, ho, hfr⟩ := hrel
          obtain ⟨c1, d1, e0, e1, e2, e3, p2⟩ := HC.out wr hfr
          have Ho := Lib.hid ho
          have Hfr := Lib.hid hfr
          clear ho hfr
          by_cases hlt : j < nt
          · obtain ⟨ad, x, rfl, hu, q0, q1, q2, q3⟩ := (Ht.out.fr0 (Fr.b0 Ho.out.bel)).tier hlt
            obtain ⟨kk, y, hkk, hsrc, hy, hdv, hmin⟩ := src_law (now := now) (fl := fl) x.every hckf.out
            rw [Hlf.out] at hkk hsrc
            obtain ⟨sd, s, rfl, hs, hsc⟩ := (S7.out.fr0 Hfr.out).at_map hlt
            obtain ⟨vd, v, rfl, hv, hvc⟩ := (V7.out.fr0 Hfr.out).at_map hlt
            obtain ⟨fd, y', rfl, hy', z0, z1, z2, z3⟩ := (Hf.out.fr0 (Fr.b0 Ho.out.bel)).tier hkk
            obtain rfl : y' = y := by rw [hy] at hy'; injection hy' with h; exact h.symm
            obtain rfl : s = kk := by
              unfold srcs at hs
              rw [List.getElem?_map, hu, Hlf.out] at hs
              simp only [Option.map_some] at hs
              injection hs with h
              rw [← h, hsrc]
            have hve : ceilV (fromV now lf fl kk) x.every = v := by
              unfold basesV srcs at hv
              rw [List.getElem?_zipWith, List.getElem?_map, hu, Hlf.out] at hv
              simp only [Option.map_some] at hv
              injection hv with h
              rw [← h, hsrc]
              unfold fromI
              rw [if_pos ⟨by omega, by rw [Hlf.out]; omega⟩, Int.toNat_natCast]
            have hx := check_mem hckt.out (mem_of_get hu)
            have hyy := check_mem hckf.out (mem_of_get hy)
            have hfb := HD.out kk
            have hcl := ceil_law hfb.1 (by omega) hx.1 hx.2.1
            rw [hve] at hcl
            have Hu := Lib.hid hu
            have Hy := Lib.hid hy
            have Hmin := Lib.hid hmin
            have HFk := Lib.hid (fun w' h => HF.out kk w' h hkk)
            obtain ⟨fr, hfk⟩ : ∃ fr, fromV now lf fl kk = fr := ⟨_, rfl⟩
            rw [hfk] at hcl hfb HFk Hmin
            obtain ⟨g1, g2, g3, g4, g5⟩ := hcl
            obtain ⟨x1, x2, _⟩ := hx
            obtain ⟨y1, y2, _⟩ := hyy
            obtain ⟨r1, r2⟩ := hfb
            have g1' : v % x.every = 0 := by rw [← Int.tmod_eq_emod_of_nonneg g4]; exact g1
            have hdv' : x.every % y'.every = 0 := by rw [← Int.tmod_eq_emod_of_nonneg (by omega)]; exact hdv
            have hv1 : ¬ (v < fr) := by omega
            have hv2 : ¬ (x.every ≤ v - fr) := by omega
            have hkn : (kk : Int) < (nf : Int) := by omega
            have hyz : y'.every ≠ 0 := by omega
            have hxz : x.every ≠ 0 := by omega
            have hjn : (j : Int) < (nt : Int) := by omega
            have hns : ¬ (nf ≤ kk) := by omega
            clear hve hv hs hsrc hu hy hmin hy' q0 q2 q3 z0 z2 z3 hfk
            go_wp2_with fail
            have HS : Hid (∀ w', Fr (fun _ => False) wr w' → w'.cell? ⟨w.heap.size, 1, none⟩ = some (.slice (some fd) nf cf) ∧ w'.cell? ⟨w.heap.size + 1, 1, none⟩ = some (.slice (some ad) nt ct) ∧ w'.cell? ⟨w3.heap.size, 0, none⟩ = some (.int .i64 now) ∧ w'.cell? ⟨w3.heap.size, 1, none⟩ = some (.string nmf) ∧ w'.cell? ⟨w3.heap.size, 2, none⟩ = some (.slice A3 nf c3) ∧ w'.cell? ⟨w3.heap.size, 3, none⟩ = some (.slice B3 k d3) ∧ w'.cell? ⟨(ad.add (j * 4)).block, (ad.add (j * 4)).off + 1, none⟩ = some (.int .i64 x.every) ∧ w'.cell? ⟨(fd.add (kk * 4)).block, (fd.add (kk * 4)).off + 1, none⟩ = some (.int .i64 y'.every) ∧ w'.cell? (vd.add j) = some (.int .i64 v) ∧ Fr (fun _ => False) wr w') :=
              fun w' h => ⟨h.cell c1 (fun h => h), h.cell d1 (fun h => h), h.cell e0 (fun h => h), h.cell e1 (fun h => h), h.cell e2 (fun h => h), h.cell e3 (fun h => h), h.cell q1 (fun h => h), h.cell z1 (fun h => h), h.cell hvc (fun h => h), h⟩
            have HF2 : Hid (∀ w', (w'.cell? ⟨w.heap.size, 1, none⟩ = some (.slice (some fd) nf cf) ∧ w'.cell? ⟨w.heap.size + 1, 1, none⟩ = some (.slice (some ad) nt ct) ∧ w'.cell? ⟨w3.heap.size, 0, none⟩ = some (.int .i64 now) ∧ w'.cell? ⟨w3.heap.size, 1, none⟩ = some (.string nmf) ∧ w'.cell? ⟨w3.heap.size, 2, none⟩ = some (.slice A3 nf c3) ∧ w'.cell? ⟨w3.heap.size, 3, none⟩ = some (.slice B3 k d3) ∧ w'.cell? ⟨(ad.add (j * 4)).block, (ad.add (j * 4)).off + 1, none⟩ = some (.int .i64 x.every) ∧ w'.cell? ⟨(fd.add (kk * 4)).block, (fd.add (kk * 4)).off + 1, none⟩ = some (.int .i64 y'.every) ∧ w'.cell? (vd.add j) = some (.int .i64 v) ∧ Fr (fun _ => False) wr w') → Calls Try.prog 10 #[.agg #[.int .i64 now, .string nmf, .slice A3 nf c3, .slice B3 k d3], .int .i64 kk] w' fun r w'' => r = .returned (.int .i64 fr) ∧ (w''.cell? ⟨w.heap.size, 1, none⟩ = some (.slice (some fd) nf cf) ∧ w''.cell? ⟨w.heap.size + 1, 1, none⟩ = some (.slice (some ad) nt ct) ∧ w''.cell? ⟨w3.heap.size, 0, none⟩ = some (.int .i64 now) ∧ w''.cell? ⟨w3.heap.size, 1, none⟩ = some (.string nmf) ∧ w''.cell? ⟨w3.heap.size, 2, none⟩ = some (.slice A3 nf c3) ∧ w''.cell? ⟨w3.heap.size, 3, none⟩ = some (.slice B3 k d3) ∧ w''.cell? ⟨(ad.add (j * 4)).block, (ad.add (j * 4)).off + 1, none⟩ = some (.int .i64 x.every) ∧ w''.cell? ⟨(fd.add (kk * 4)).block, (fd.add (kk * 4)).off + 1, none⟩ = some (.int .i64 y'.every) ∧ w''.cell? (vd.add j) = some (.int .i64 v) ∧ Fr (fun _ => False) wr w'')) :=
              fun w' h => (HFk.out w' (Hfr.out.trans h.2.2.2.2.2.2.2.2.2 (fun _ h => h.elim))).mono fun r w'' ⟨h1, h2⟩ => ⟨h1, HS.out w'' (h.2.2.2.2.2.2.2.2.2.trans (Fr.b0 h2) (fun _ h => h.elim))⟩
            have S0 := Lib.hid (HS.out wr.drew ((Fr.refl _ wr).drew))
            clear c1 d1 e0 e1 e2 e3 p2 q1 z1 hvc hsc
            have hb1 : decide (v < fr) = false := decide_eq_false (by omega)
            have hb2 : decide (x.every ≤ v - fr) = false := decide_eq_false (by omega)
            have hw0 : IntKind.i64.wrap (v - fr) = v - fr := IntWalk.i64_in _ (by omega)
            clear hv1 hv2
            go_region_held3 (fun w' => w'.cell? ⟨w.heap.size, 1, none⟩ = some (.slice (some fd) nf cf) ∧ w'.cell? ⟨w.heap.size + 1, 1, none⟩ = some (.slice (some ad) nt ct) ∧ w'.cell? ⟨w3.heap.size, 0, none⟩ = some (.int .i64 now) ∧ w'.cell? ⟨w3.heap.size, 1, none⟩ = some (.string nmf) ∧ w'.cell? ⟨w3.heap.size, 2, none⟩ = some (.slice A3 nf c3) ∧ w'.cell? ⟨w3.heap.size, 3, none⟩ = some (.slice B3 k d3) ∧ w'.cell? ⟨(ad.add (j * 4)).block, (ad.add (j * 4)).off + 1, none⟩ = some (.int .i64 x.every) ∧ w'.cell? ⟨(fd.add (kk * 4)).block, (fd.add (kk * 4)).off + 1, none⟩ = some (.int .i64 y'.every) ∧ w'.cell? (vd.add j) = some (.int .i64 v) ∧ Fr (fun _ => False) wr w') (first | exact S0.out | assumption) (first | (go_at_call 10; refine (HF2.out _ (by first | exact S0.out | assumption)).mono ?_; rintro r w8 ⟨rfl, hS8⟩))
            have hf8 := Lib.hid (Hfr.out.trans hS8.2.2.2.2.2.2.2.2.2 (fun _ h => h.elim))
            have ho8 := Lib.hid (Ho.out.skip hS8.2.2.2.2.2.2.2.2.2)
            clear S0 HS HF2 hS8 hb1 hb2 hw0
            go_wp2_with fail
            have Hlo : Own w wr (fun _ => False) := Ho.out
            obtain ⟨wo, rfl⟩ : ∃ wo : World, wo = wr := ⟨_, rfl⟩
            go_loopw [16] (fun s wr => ∃ i : Nat, i ≤ nf ∧ s = .int .i64 i ∧ Own w wr (fun _ => False) ∧ Fr (fun _ => False) w7 wr) (fun s _ => nf - (intOf s).toNat)
            case atStart => exact ⟨0, Nat.zero_le _, rfl, ho8.out, hf8.out⟩
            case round =>
              obtain ⟨i, hi, rfl, ho9, hf9⟩ := hrel
              obtain ⟨c1, d1, e0, e1, e2, e3, p2⟩ := HC.out wr hf9
              have Ho9 := Lib.hid ho9
              have Hf9 := Lib.hid hf9
              clear ho9 hf9 p2
              by_cases hli : i < nf
              · obtain ⟨ad', x', e, hu', q0, q1, q2, q3⟩ := (Ht.out.fr0 (Fr.b0 Ho9.out.bel)).tier hlt
                injection e with e
                subst e
                obtain rfl : x' = x := by have h1 := Hu.out; rw [h1] at hu'; injection hu' with h; exact h.symm
                obtain ⟨fd', z, e, hz, z0, z1, z2, z3⟩ := (Hf.out.fr0 (Fr.b0 Ho9.out.bel)).tier hli
                injection e with e
                subst e
                have hzz := check_mem hckf.out (mem_of_get hz)
                obtain ⟨zz1, zz2, _⟩ := hzz
                have hmz := Hmin.out i z hz
                have hz0 : z.every ≠ 0 := by omega
                have hin : (i : Int) < (nf : Int) := by omega
                have Hemod := Lib.hid (show x'.every.tmod z.every = x'.every % z.every from Int.tmod_eq_emod_of_nonneg (by omega))
                rw [Hemod.out] at hmz
                clear hu' q0 q2 q3 z0 z2 z3 hz
                by_cases hdz : x'.every % z.every = 0
                · have hle := hmz hdz
                  have Hdz := Lib.hid hdz
                  have HFi := Lib.hid (fun w' h => HF.out i w' h hli)
                  obtain ⟨gi, hgi⟩ : ∃ gi, fromV now lf fl i = gi := ⟨_, rfl⟩
                  rw [hgi] at hle HFi
                  have hb1 : decide (gi < fr) = false := decide_eq_false (by omega)
                  have HS : Hid (∀ w', Fr (fun _ => False) wr w' → w'.cell? ⟨w.heap.size, 1, none⟩ = some (.slice (some fd) nf cf) ∧ w'.cell? ⟨w.heap.size + 1, 1, none⟩ = some (.slice (some ad) nt ct) ∧ w'.cell? ⟨w3.heap.size, 0, none⟩ = some (.int .i64 now) ∧ w'.cell? ⟨w3.heap.size, 1, none⟩ = some (.string nmf) ∧ w'.cell? ⟨w3.heap.size, 2, none⟩ = some (.slice A3 nf c3) ∧ w'.cell? ⟨w3.heap.size, 3, none⟩ = some (.slice B3 k d3) ∧ w'.cell? ⟨(ad.add (j * 4)).block, (ad.add (j * 4)).off + 1, none⟩ = some (.int .i64 x'.every) ∧ w'.cell? ⟨(fd.add (i * 4)).block, (fd.add (i * 4)).off + 1, none⟩ = some (.int .i64 z.every) ∧ Fr (fun _ => False) wr w') :=
                    fun w' h => ⟨h.cell c1 (fun h => h), h.cell d1 (fun h => h), h.cell e0 (fun h => h), h.cell e1 (fun h => h), h.cell e2 (fun h => h), h.cell e3 (fun h => h), h.cell q1 (fun h => h), h.cell z1 (fun h => h), h⟩
                  have HFa : Hid (∀ w', (w'.cell? ⟨w.heap.size, 1, none⟩ = some (.slice (some fd) nf cf) ∧ w'.cell? ⟨w.heap.size + 1, 1, none⟩ = some (.slice (some ad) nt ct) ∧ w'.cell? ⟨w3.heap.size, 0, none⟩ = some (.int .i64 now) ∧ w'.cell? ⟨w3.heap.size, 1, none⟩ = some (.string nmf) ∧ w'.cell? ⟨w3.heap.size, 2, none⟩ = some (.slice A3 nf c3) ∧ w'.cell? ⟨w3.heap.size, 3, none⟩ = some (.slice B3 k d3) ∧ w'.cell? ⟨(ad.add (j * 4)).block, (ad.add (j * 4)).off + 1, none⟩ = some (.int .i64 x'.every) ∧ w'.cell? ⟨(fd.add (i * 4)).block, (fd.add (i * 4)).off + 1, none⟩ = some (.int .i64 z.every) ∧ Fr (fun _ => False) wr w') → Calls Try.prog 10 #[.agg #[.int .i64 now, .string nmf, .slice A3 nf c3, .slice B3 k d3], .int .i64 i] w' fun r w'' => r = .returned (.int .i64 gi) ∧ (w''.cell? ⟨w.heap.size, 1, none⟩ = some (.slice (some fd) nf cf) ∧ w''.cell? ⟨w.heap.size + 1, 1, none⟩ = some (.slice (some ad) nt ct) ∧ w''.cell? ⟨w3.heap.size, 0, none⟩ = some (.int .i64 now) ∧ w''.cell? ⟨w3.heap.size, 1, none⟩ = some (.string nmf) ∧ w''.cell? ⟨w3.heap.size, 2, none⟩ = some (.slice A3 nf c3) ∧ w''.cell? ⟨w3.heap.size, 3, none⟩ = some (.slice B3 k d3) ∧ w''.cell? ⟨(ad.add (j * 4)).block, (ad.add (j * 4)).off + 1, none⟩ = some (.int .i64 x'.every) ∧ w''.cell? ⟨(fd.add (i * 4)).block, (fd.add (i * 4)).off + 1, none⟩ = some (.int .i64 z.every) ∧ Fr (fun _ => False) wr w'')) :=
                    fun w' h => (HFi.out w' (Hf9.out.trans h.2.2.2.2.2.2.2.2 (fun _ h => h.elim))).mono fun r w'' ⟨h1, h2⟩ => ⟨h1, HS.out w'' (h.2.2.2.2.2.2.2.2.trans (Fr.b0 h2) (fun _ h => h.elim))⟩
                  have HFb : Hid (∀ w', (w'.cell? ⟨w.heap.size, 1, none⟩ = some (.slice (some fd) nf cf) ∧ w'.cell? ⟨w.heap.size + 1, 1, none⟩ = some (.slice (some ad) nt ct) ∧ w'.cell? ⟨w3.heap.size, 0, none⟩ = some (.int .i64 now) ∧ w'.cell? ⟨w3.heap.size, 1, none⟩ = some (.string nmf) ∧ w'.cell? ⟨w3.heap.size, 2, none⟩ = some (.slice A3 nf c3) ∧ w'.cell? ⟨w3.heap.size, 3, none⟩ = some (.slice B3 k d3) ∧ w'.cell? ⟨(ad.add (j * 4)).block, (ad.add (j * 4)).off + 1, none⟩ = some (.int .i64 x'.every) ∧ w'.cell? ⟨(fd.add (i * 4)).block, (fd.add (i * 4)).off + 1, none⟩ = some (.int .i64 z.every) ∧ Fr (fun _ => False) wr w') → Calls Try.prog 10 #[.agg #[.int .i64 now, .string nmf, .slice A3 nf c3, .slice B3 k d3], .int .i64 kk] w' fun r w'' => r = .returned (.int .i64 fr) ∧ (w''.cell? ⟨w.heap.size, 1, none⟩ = some (.slice (some fd) nf cf) ∧ w''.cell? ⟨w.heap.size + 1, 1, none⟩ = some (.slice (some ad) nt ct) ∧ w''.cell? ⟨w3.heap.size, 0, none⟩ = some (.int .i64 now) ∧ w''.cell? ⟨w3.heap.size, 1, none⟩ = some (.string nmf) ∧ w''.cell? ⟨w3.heap.size, 2, none⟩ = some (.slice A3 nf c3) ∧ w''.cell? ⟨w3.heap.size, 3, none⟩ = some (.slice B3 k d3) ∧ w''.cell? ⟨(ad.add (j * 4)).block, (ad.add (j * 4)).off + 1, none⟩ = some (.int .i64 x'.every) ∧ w''.cell? ⟨(fd.add (i * 4)).block, (fd.add (i * 4)).off + 1, none⟩ = some (.int .i64 z.every) ∧ Fr (fun _ => False) wr w'')) :=
                    fun w' h => (HFk.out w' (Hf9.out.trans h.2.2.2.2.2.2.2.2 (fun _ h => h.elim))).mono fun r w'' ⟨h1, h2⟩ => ⟨h1, HS.out w'' (h.2.2.2.2.2.2.2.2.trans (Fr.b0 h2) (fun _ h => h.elim))⟩
                  have S0 := Lib.hid (HS.out wr.drew ((Fr.refl _ wr).drew))
                  clear hmz hdz hgi hdv hdv' g1 g1' g2 g3 g4 g5
                  go_wp2_with fail
                  clear c1 d1 e0 e1 e2 e3 q1 z1
                  have hdz := Hdz.out
                  have hdt : x'.every.tmod z.every = 0 := Hemod.out.trans hdz
                  go_region_held3 (fun w' => w'.cell? ⟨w.heap.size, 1, none⟩ = some (.slice (some fd) nf cf) ∧ w'.cell? ⟨w.heap.size + 1, 1, none⟩ = some (.slice (some ad) nt ct) ∧ w'.cell? ⟨w3.heap.size, 0, none⟩ = some (.int .i64 now) ∧ w'.cell? ⟨w3.heap.size, 1, none⟩ = some (.string nmf) ∧ w'.cell? ⟨w3.heap.size, 2, none⟩ = some (.slice A3 nf c3) ∧ w'.cell? ⟨w3.heap.size, 3, none⟩ = some (.slice B3 k d3) ∧ w'.cell? ⟨(ad.add (j * 4)).block, (ad.add (j * 4)).off + 1, none⟩ = some (.int .i64 x'.every) ∧ w'.cell? ⟨(fd.add (i * 4)).block, (fd.add (i * 4)).off + 1, none⟩ = some (.int .i64 z.every) ∧ Fr (fun _ => False) wr w') (first | exact S0.out | assumption) (first | (go_at_call_of 10 (Value.int IntKind.i64 (i : Int)); refine (HFa.out _ (by first | exact S0.out | assumption)).mono ?_; rintro r w8 ⟨rfl, hS8⟩) | (go_at_call 10; refine (HFb.out _ (by first | exact S0.out | assumption)).mono ?_; rintro r w8 ⟨rfl, hS8⟩))
                  have hf10 := Lib.hid (Hf9.out.trans hS8.2.2.2.2.2.2.2.2 (fun _ h => h.elim))
                  have ho10 := Lib.hid (Ho9.out.skip hS8.2.2.2.2.2.2.2.2)
                  clear S0 HS HFa HFb hS8 hb1 hdz hdt
                  go_wp2_with fail
                  go_roundw
                  case rel => first | exact ⟨i + 1, by omega, by go_num, ho10.out, hf10.out⟩ | ((repeat apply Exists.intro); exact ⟨⟨i + 1, by omega, by go_num, ho10.out, hf10.out⟩, rfl⟩)
                  case measure => simp [intOf]; omega
                · have hb1 : (x'.every % z.every == 0) = false := by simpa using hdz
                  have hb2 : (x'.every.tmod z.every == 0) = false := by rw [Hemod.out]; exact hb1
                  clear hmz hdz hdv hdv' g1 g1' g2 g3 g4 g5
                  go_wp2_with fail
                  go_quiet (fail)
                  have hf10 := Lib.hid (Hf9.out.trans (Fr.none_drewN wr nq) (fun _ h => h.elim))
                  have ho10 := Lib.hid (Ho9.out.skip (Fr.none_drewN wr nq))
                  clear c1 d1 e0 e1 e2 e3 q1 z1 hb1 hb2
                  go_wp2_with fail
                  go_roundw
                  case rel => first | exact ⟨i + 1, by omega, by go_num, ho10.out, hf10.out⟩ | ((repeat apply Exists.intro); exact ⟨⟨i + 1, by omega, by go_num, ho10.out, hf10.out⟩, rfl⟩)
                  case measure => simp [intOf]; omega
              · obtain rfl : i = nf := by omega
                clear d1 e0 e1 e2 e3
                go_wp2_with fail
                go_roundw
                case rel => first | exact ⟨j + 1, by omega, by go_num, Ho9.out, Hf9.out⟩ | ((repeat apply Exists.intro); exact ⟨⟨j + 1, by omega, by go_num, Ho9.out, Hf9.out⟩, rfl⟩)
                case measure => simp [intOf]; omega
          · obtain rfl : j = nt := by omega
            clear e0 e1 e2 e3 c1 p2
            go_wp2_with fail
            refine (alive_any wr).mono ?_
            rintro r w8 ⟨rfl, b8⟩
            have O8 := Lib.hid (Ho.out.below b8)
            clear b8 d1
            go_wp2_with fail
            go_ret
            exact ⟨rfl, O8.out.bel⟩
end Go.Proofs.Ytbdhmoeadakipaa
