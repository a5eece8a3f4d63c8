/- The statement PlanSteps: the walk, of a policy that may be. -/
import Derived.Test.YtbdhmoeadakipaaStepsLaw
import Derived.Test.YtbdhmoeadakipaaLawStepsA
namespace Go.Proofs.Ytbdhmoeadakipaa
open Go.RowKit

set_option maxRecDepth 100000 in
set_option maxHeartbeats 16000000 in
theorem steps_good (nmt : ByteArray) (lt : List TierV) (At : Option Addr) (nt ct : Nat) (s : ByteArray) (tier : Int) (w : World)
    (ht : Rd w 4 At nt (tcells lt)) (htc : nt ≤ ct) (hnt : nmt.size ≤ maxLen) (hwt : ∀ t ∈ lt, t.wf) (hn2 : nt ≤ 9223372036854775807) (hs : s.size ≤ maxLen) (hck : checkB nmt lt = true) :
    Calls Try.prog 4 #[polV nmt At nt ct, .string s, .int .i64 tier] w fun r w' => r = .returned (.bool true) ∧ Below w.heap.size w w' := by
  have HB : Hid (∀ w', Fr (fun _ => False) w w' → Calls Try.prog 5 #[polV nmt At nt ct] w' fun r w'' => SmallR nmt nt r ∧ Below w'.heap.size w' w'') :=
    fun w' h => small_any nmt lt At nt ct w' (ht.fr0 h) hn2 hnt (fun t h => (hwt t h).2.2.2)
  have HW := Lib.hid web_any
  have HM : Hid (∀ Af cf Ar cr B d w', Fr (fun _ => False) w w' → Rd w' 4 Af 2 (tcells webT) → 2 ≤ cf → Rd w' 4 Ar 2 (tcells webT) → Rd w' 1 B 0 (ints []) → Calls Try.prog 8 #[polV webN Af 2 cf, reachV 100 webN Ar 2 cr B 0 d, polV nmt At nt ct] w'
      fun r w'' => (∃ a b b1 b2 c c1 c2, r = .returned (.tuple #[.agg #[.string a, .slice b b1 b2, .slice c c1 c2], .int .i64 0]) ∧ (∀ wx, Fr (fun _ => False) w'' wx → IsPlan nmt nt lt a b b1 b2 c c1 c2 wx) ∧ (∀ g wx, g < w'.heap.size → Fr (fun k => k = g) w'' wx → IsPlan nmt nt lt a b b1 b2 c c1 c2 wx)) ∧ Below w'.heap.size w' w'') :=
    fun Af cf Ar cr B d w' h h1 h2 h3 h4 => by
      rcases Nat.lt_or_ge 1099511627776 nt with hbig | hsm
      · have := check_len hck
        have := ht.tiers_len
        omega
      exact (make_good webN webT Af 2 cf 100 (by unfold i64; decide) webN Ar cr [] B 0 d nmt lt At nt ct w' h1 h2 h3 h4 (ht.fr0 h) htc wf_web hwt (by decide) hnt (by decide) hsm web_ok hck).mono fun r w'' ⟨⟨A', c', S, cs, k1, k2, _, k4, _, k6, _⟩, k7⟩ => ⟨⟨_, _, _, _, _, _, _, k1, fun wx hx => ⟨rfl, rfl, rfl, k2, k4.fr0 hx⟩, fun g wx hg hx => ⟨rfl, rfl, rfl, k2, k4.fr hx (fun k hk hk2 => by have := k6 k hk; omega)⟩⟩, k7⟩
  have Ht := Lib.hid ht
  have Hwt := Lib.hid hwt
  have Hlt := Lib.hid ht.tiers_len
  clear ht hwt hnt
  obtain ⟨WA, hWA, oA, b4⟩ := one_pol w nmt At nt ct
  have OA := Lib.hid oA
  have HWA := Lib.hid hWA
  have B4 := Lib.hid b4
  clear oA hWA b4
  unfold polV at HB HW HM ⊢
  unfold reachV at HM
  have hs1 : (s.size : Int) ≤ 9223372036854775807 := by unfold maxLen at hs; omega
  by_cases h60 : 60 < (s.size : Int)
  · go_enter Try.func4, Try.ntmps4
    go_wp2_with fail
    rw [← HWA.out]
    refine (HB.out WA (Fr.b0 OA.out.bel)).mono ?_
    rintro r w1 ⟨⟨b, rfl, hb⟩, b1⟩
    have O1 := Lib.hid (OA.out.below b1)
    clear b1 hb
    cases b
    all_goals
      go_wp2_with fail
      refine (alive_any w1).mono ?_
      rintro r w5 ⟨rfl, b5⟩
      have O2 := Lib.hid (O1.out.below b5)
      clear b5
      go_wp2_with fail
      go_ret
      exact ⟨rfl, O2.out.bel⟩
  have h60' : ¬ 60 < (s.size : Int) := h60
  go_enter Try.func4, Try.ntmps4
  go_wp2_with fail
  rw [← HWA.out]
  refine (HB.out WA (Fr.b0 OA.out.bel)).mono ?_
  rintro r w1 ⟨⟨b, rfl, hb⟩, b1⟩
  have O1 := Lib.hid (OA.out.below b1)
  have B41 := Lib.hid (B4.out.below b1)
  clear b1
  cases b
  · clear hb
    go_wp2_with fail
    refine (alive_any w1).mono ?_
    rintro r w5 ⟨rfl, b5⟩
    have O2 := Lib.hid (O1.out.below b5)
    clear b5
    go_wp2_with fail
    go_ret
    exact ⟨rfl, O2.out.bel⟩
  have hst := Lib.hid (hb rfl)
  clear hb HWA B4 OA HB
  go_wp2_with fail
  have d0 := B41.out.cell 0
  have d1 := B41.out.cell 1
  simp only [List.getElem?_toArray, List.getElem?_cons_succ, List.getElem?_cons_zero] at d0 d1
  have HS : Hid (∀ w', Fr (fun _ => False) w1 w' → w'.cell? ⟨w.heap.size, 0, none⟩ = some (.string nmt) ∧ w'.cell? ⟨w.heap.size, 1, none⟩ = some (.slice At nt ct) ∧ Fr (fun _ => False) w1 w') :=
    fun w' h => ⟨h.cell d0 (fun h => h), h.cell d1 (fun h => h), h⟩
  have HA : Hid (∀ w', (w'.cell? ⟨w.heap.size, 0, none⟩ = some (.string nmt) ∧ w'.cell? ⟨w.heap.size, 1, none⟩ = some (.slice At nt ct) ∧ Fr (fun _ => False) w1 w') → ∀ o, ((w'.alloc o).cell? ⟨w.heap.size, 0, none⟩ = some (.string nmt) ∧ (w'.alloc o).cell? ⟨w.heap.size, 1, none⟩ = some (.slice At nt ct) ∧ Fr (fun _ => False) w1 (w'.alloc o))) := fun w' h o => HS.out _ (h.2.2.alloc o)
  have HW2 : Hid (∀ w', (w'.cell? ⟨w.heap.size, 0, none⟩ = some (.string nmt) ∧ w'.cell? ⟨w.heap.size, 1, none⟩ = some (.slice At nt ct) ∧ Fr (fun _ => False) w1 w') →
      Calls Try.prog 11 #[] w' fun r w'' => ((∃ A c, r = .returned (.agg #[.string webN, .slice A 2 c]) ∧ 2 ≤ c ∧ Rd w'' 4 A 2 (tcells webT)) ∧ Fr (fun _ => False) w' w'') ∧ (w''.cell? ⟨w.heap.size, 0, none⟩ = some (.string nmt) ∧ w''.cell? ⟨w.heap.size, 1, none⟩ = some (.slice At nt ct) ∧ Fr (fun _ => False) w1 w'')) :=
    fun w' h => (HW.out w').mono fun r w'' ⟨h1, h2⟩ => ⟨⟨h1, Fr.b0 h2⟩, HS.out w'' (h.2.2.trans (Fr.b0 h2) (fun _ h => h.elim))⟩
  have HO2 : Hid (∀ A c w', (w'.cell? ⟨w.heap.size, 0, none⟩ = some (.string nmt) ∧ w'.cell? ⟨w.heap.size, 1, none⟩ = some (.slice At nt ct) ∧ Fr (fun _ => False) w1 w') → Rd w' 4 A 2 (tcells webT) →
      Calls Try.prog 7 #[.agg #[.string webN, .slice A 2 c], .int .i64 100, .slice none 0 0] w' fun r w'' => ((∃ A' c' B' d', r = .returned (.agg #[.int .i64 100, .string webN, .slice A' 2 c', .slice B' 0 d']) ∧ Rd w'' 4 A' 2 (tcells webT) ∧ Rd w'' 1 B' 0 (ints [])) ∧ Fr (fun _ => False) w' w'') ∧ (w''.cell? ⟨w.heap.size, 0, none⟩ = some (.string nmt) ∧ w''.cell? ⟨w.heap.size, 1, none⟩ = some (.slice At nt ct) ∧ Fr (fun _ => False) w1 w'')) :=
    fun A c w' h hr => by
      have h0 := of_any webN webT A 2 c 100 [] none 0 0 w' hr (by decide) Rd.nil_ (by decide)
      unfold polV reachV at h0
      exact h0.mono fun r w'' ⟨⟨A', c', B', d', h1, _, _, h4, h5, _⟩, h2⟩ => ⟨⟨⟨A', c', B', d', h1, h4, h5⟩, Fr.b0 h2⟩, HS.out w'' (h.2.2.trans (Fr.b0 h2) (fun _ h => h.elim))⟩
  have HM2 : Hid (∀ Af cf Ar cr B d w', (w'.cell? ⟨w.heap.size, 0, none⟩ = some (.string nmt) ∧ w'.cell? ⟨w.heap.size, 1, none⟩ = some (.slice At nt ct) ∧ Fr (fun _ => False) w1 w') → Rd w' 4 Af 2 (tcells webT) → 2 ≤ cf → Rd w' 4 Ar 2 (tcells webT) → Rd w' 1 B 0 (ints []) →
      Calls Try.prog 8 #[.agg #[.string webN, .slice Af 2 cf], .agg #[.int .i64 100, .string webN, .slice Ar 2 cr, .slice B 0 d], .agg #[.string nmt, .slice At nt ct]] w' fun r w'' => ((∃ a b b1 b2 c c1 c2, r = .returned (.tuple #[.agg #[.string a, .slice b b1 b2, .slice c c1 c2], .int .i64 0]) ∧ (∀ wx, Fr (fun _ => False) w'' wx → IsPlan nmt nt lt a b b1 b2 c c1 c2 wx) ∧ (∀ g wx, g < w'.heap.size → Fr (fun k => k = g) w'' wx → IsPlan nmt nt lt a b b1 b2 c c1 c2 wx)) ∧ Fr (fun _ => False) w' w'') ∧ (w''.cell? ⟨w.heap.size, 0, none⟩ = some (.string nmt) ∧ w''.cell? ⟨w.heap.size, 1, none⟩ = some (.slice At nt ct) ∧ Fr (fun _ => False) w1 w'')) :=
    fun Af cf Ar cr B d w' h h1 h2 h3 h4 => (HM.out Af cf Ar cr B d w' (Fr.b0 ((O1.out.skip h.2.2).bel)) h1 h2 h3 h4).mono fun r w'' ⟨k1, k2⟩ => ⟨⟨k1, Fr.b0 k2⟩, HS.out w'' (h.2.2.trans (Fr.b0 k2) (fun _ h => h.elim))⟩
  have S0 := Lib.hid (HS.out w1.drew ((Fr.refl _ w1).drew))
  have tok1 : True := trivial
  clear d0 d1 HM HW
  go_cut [7, 8] (fun s7 s8 wx => ∃ (g : Nat) (a : ByteArray) (b : Option Addr) (b1 b2 : Nat) (c : Option Addr) (c1 c2 : Nat), s7 = .pointer (some ⟨g, 0, none⟩) ∧ s8 = .int .i64 0 ∧ Blk wx g 32 #[.string a, .slice b b1 b2, .slice c c1 c2] ∧ IsPlan nmt nt lt a b b1 b2 c c1 c2 wx ∧ Fr (fun _ => False) w1 wx)
  case first =>
    go_region_held3 (fun w' => w'.cell? ⟨w.heap.size, 0, none⟩ = some (.string nmt) ∧ w'.cell? ⟨w.heap.size, 1, none⟩ = some (.slice At nt ct) ∧ Fr (fun _ => False) w1 w') (first | exact S0.out | assumption | exact HA.out _ (by assumption) _ | exact HS.out _ (((hS8.2.2.setCell (.inr (by show w1.heap.size ≤ _; first | exact Nat.le_refl _ | omega)) _).setCell (.inr (by show w1.heap.size ≤ _; first | exact Nat.le_refl _ | omega)) _).setCell (.inr (by show w1.heap.size ≤ _; first | exact Nat.le_refl _ | omega)) _)) (first | (go_at_call 11; have tok2 := tok1; clear tok1; refine (HW2.out _ (by first | exact S0.out | assumption)).mono ?_; rintro r w5 ⟨⟨⟨A5, c5, rfl, hc5, r5⟩, f5⟩, hS5⟩; have z5 := f5.size; (try simp at z5); have y5 := hS5.2.2.size) | (go_at_call 11; refine (HW2.out _ (by first | exact S0.out | assumption)).mono ?_; rintro r w6 ⟨⟨⟨A6, c6, rfl, hc6, r6⟩, f6⟩, hS6⟩; have z6 := f6.size; (try simp at z6); have y6 := hS6.2.2.size) | (go_at_call 7; refine (HO2.out _ _ _ (by assumption) (by first | exact r6 | exact r6.alloc _)).mono ?_; rintro r w7 ⟨⟨⟨A7, c7, B7, d7, rfl, r7, g7⟩, f7⟩, hS7⟩; have z7 := f7.size; (try simp at z7); have y7 := hS7.2.2.size) | (go_at_call 8; refine (HM2.out _ _ _ _ _ _ _ (by assumption) (by first | exact (r5.fr0 f6).fr0 f7 | exact ((r5.alloc _).fr0 f6).fr0 f7 | exact ((r5.fr0 f6).alloc _).fr0 f7 | exact ((r5.fr0 f6).fr0 f7).alloc _) hc5 (by first | exact r7 | exact r7.alloc _) (by first | exact g7 | exact g7.alloc _)).mono ?_; rintro r w8 ⟨⟨⟨a8, b8, b81, b82, c8, c81, c82, rfl, n8, m8⟩, f8⟩, hS8⟩; have z8 := f8.size; (try simp at z8); have y8 := hS8.2.2.size; (try (have BP : Blk w8 _ 32 #[.string { data := #[] }, .slice none 0 0, .slice none 0 0] := (by first | exact (Blk.new w7 _ _).fr f8 (fun h => h) | exact ((Blk.new w6 _ _).fr f7 (fun h => h)).fr f8 (fun h => h) | exact (((Blk.new w5 _ _).fr f6 (fun h => h)).fr f7 (fun h => h)).fr f8 (fun h => h) | exact (((((Blk.new w1 _ _).drew).fr f5 (fun h => h)).fr f6 (fun h => h)).fr f7 (fun h => h)).fr f8 (fun h => h)); have e0 := BP.cell 0; have e1 := BP.cell 1; have e2 := BP.cell 2; have g0 := BP.frozen 0; have g1 := BP.frozen 1; have g2 := BP.frozen 2; simp only [List.getElem?_toArray, List.getElem?_cons_succ, List.getElem?_cons_zero] at e0 e1 e2; have BP' := Lib.hid BP; clear BP))))
    all_goals go_wp2_with fail
    all_goals go_meet
    all_goals first
      | exact ⟨w8.heap.size, a8, b8, b81, b82, c8, c81, c82, rfl, rfl, Blk.new _ _ _, n8 _ (Fr.none_alloc _ _), hS8.2.2.alloc _⟩
      | exact ⟨_, a8, b8, b81, b82, c8, c81, c82, rfl, rfl, BP'.out.set3, m8 _ _ (by first | omega | (simp; omega) | simp) ((Fr.refl (fun k => k = _) w8).set3 (.inl rfl) _ _ _), hS8.2.2.set3 (.inr (by first | exact Nat.le_refl _ | omega)) _ _ _⟩
  case rest =>
    obtain ⟨g, a, b, b1, b2, c, c1, c2, rfl, rfl, hbp, hq, hfr⟩ := hcut
    clear S0 HA HW2 HO2 HM2 tok1
    obtain ⟨rfl, rfl, rfl, hbc, hrd⟩ := hq
    have hln := check_len hck
    rw [Hlt.out] at hln
    have hsh : ∀ t ∈ lt, t.shards ≤ 8 := fun t h => (check_mem hck h).2.2.2.2.2
    have O2 := Lib.hid (O1.out.skip hfr)
    have HC : Hid (∀ w', Fr (fun _ => False) wc w' → w'.cell? ⟨g, 0, none⟩ = some (.string a) ∧ w'.cell? ⟨g, 1, none⟩ = some (.slice b c1 b2) ∧ w'.cell? ⟨g, 2, none⟩ = some (.slice c c1 c2) ∧ w'.cell? ⟨w.heap.size, 1, none⟩ = some (.slice At c1 ct)) :=
      fun w' h => ⟨(hbp.fr h (fun h => h)).cell 0, (hbp.fr h (fun h => h)).cell 1, (hbp.fr h (fun h => h)).cell 2, ((B41.out.fr hfr (fun h => h)).fr h (fun h => h)).cell 1⟩
    have HAt : Hid (∀ k w', Fr (fun _ => False) wc w' → i64 k → Calls Try.prog 13 #[.agg #[.string a, .slice b c1 b2, .slice c c1 c2], .int .i64 k] w' fun r w'' => r = .returned (.tuple #[.agg #[.int .i64 (atV lt k).1.1, .int .i64 (atV lt k).1.2.1, .int .i64 (atV lt k).1.2.2], .bool (atV lt k).2]) ∧ Below w'.heap.size w' w'') :=
      fun k w' h hk => at_any a lt b c1 b2 c c1 c2 k hk w' (hrd.fr0 h) (by omega) hsh
    have HSt : Hid (∀ w', Fr (fun _ => False) wc w' → Calls Try.prog 12 #[.agg #[.string a, .slice b c1 b2, .slice c c1 c2]] w' fun r w'' => r = .returned (.int .i64 (stepsV lt)) ∧ Below w'.heap.size w' w'') :=
      fun w' h => steps_any a lt b c1 b2 c c1 c2 w' (hrd.fr0 h) (by omega) hsh
    have HFi : Hid (∀ (k : Int) (j : Nat) (t : TierV) w', Fr (fun _ => False) wc w' → lt[j]? = some t → Calls Try.prog 14 #[.agg #[.string a, .slice b c1 b2, .slice c c1 c2], .int .i64 k, .int .i64 j, .string s] w' fun r w'' => r = .returned (.bool (decide (shardV s t.shards + fillsV (lt.take j) < k))) ∧ Below w'.heap.size w' w'') :=
      fun k j t w' h hj => filled_any a lt b c1 b2 c c1 c2 k j t s w' (hrd.fr0 h) hbc (by omega) hsh hj hs
    have Hsh := Lib.hid hsh
    have hfb := fillsV_in hsh
    rw [Hlt.out] at hfb
    have Hfr0 := Lib.hid (Fr.refl (fun _ => False) wc)
    clear hbp hrd hfr hsh B41 O1
    go_wp2_with fail
    go_loopw [9, 10] (fun n i wr => ∃ j : Nat, j ≤ c1 ∧ i = .int .i64 j ∧ n = .int .i64 (fillsV (lt.take j)) ∧ Own w wr (fun _ => False) ∧ Fr (fun _ => False) wc wr) (fun _ i _ => c1 - (intOf i).toNat)
    case atStart => exact ⟨0, Nat.zero_le _, rfl, by simp [fillsV], O2.out, Fr.refl _ _⟩
    case round =>
      obtain ⟨j, hj, rfl, rfl, ho, hf⟩ := hrel
      obtain ⟨p0, p1, p2, d1⟩ := HC.out wr hf
      have Ho := Lib.hid ho
      have Hf := Lib.hid hf
      clear ho hf
      by_cases hlt : j < c1
      · obtain ⟨x, hx⟩ : ∃ x, lt[j]? = some x := ⟨_, List.getElem?_eq_getElem (by rw [Hlt.out]; omega)⟩
        have hm := check_mem hck (mem_of_get hx)
        obtain ⟨sh, hsh⟩ := Int.eq_ofNat_of_zero_le (show 0 ≤ x.shards by omega)
        have hle := fillsV_take_le lt (j + 1)
        have Hsn := Lib.hid (fills_snoc hx)
        have h0 := fillsV_nonneg (lt.take j)
        rw [Hsn.out, hsh] at hle
        have hsh8 : sh ≤ 8 := by omega
        obtain ⟨F, hF⟩ : ∃ F, fillsV (lt.take j) = F := ⟨_, rfl⟩
        have HA1 : Hid (∀ (k : Nat) w', Fr (fun _ => False) wc w' → k < sh → Calls Try.prog 13 #[.agg #[.string a, .slice b c1 b2, .slice c c1 c2], .int .i64 (F + k)] w' fun r w'' => r = .returned (.tuple #[.agg #[.int .i64 1, .int .i64 j, .int .i64 k], .bool true]) ∧ Below w'.heap.size w' w'') := fun k w' h hk => by
          have := HAt.out (F + k) w' h (by unfold i64; omega)
          rw [← hF, atV_fill hx (by omega) (by rw [hsh]; omega)] at this
          rw [← hF]
          exact this
        rw [hF] at Hsn hle h0
        have Hx := Lib.hid hx
        have hFn : F + sh ≤ 40 := by omega
        have Hshe := Lib.hid hsh
        have Hj : Hid (fillsV (lt.take (j + 1)) = F + sh) := by
          show _ = _
          rw [Hsn.out, hsh]; omega
        rw [hF]
        clear hx hm hle hF hsh Hsn
        go_wp2_with fail
        obtain ⟨wo, rfl⟩ : ∃ wo : World, wo = wr := ⟨_, rfl⟩
        go_loopw [9, 11] (fun n i wr => ∃ k : Nat, k ≤ sh ∧ i = .int .i64 k ∧ n = .int .i64 (F + k) ∧ Own w wr (fun _ => False) ∧ Fr (fun _ => False) wc wr) (fun _ i _ => sh - (intOf i).toNat)
        case atStart => exact ⟨0, Nat.zero_le _, rfl, by simp, Ho.out, Hf.out⟩
        case round =>
          obtain ⟨k, hk, rfl, rfl, ho, hf⟩ := hrel
          clear p0 p1 p2 d1
          obtain ⟨p0, p1, p2, d1⟩ := HC.out wr hf
          obtain ⟨ad, x', rfl, hx', q0, q1, q2, q3⟩ := (Ht.out.fr0 (Fr.b0 ho.bel)).tier hlt
          obtain rfl : x' = x := by have h1 := Hx.out; rw [h1] at hx'; injection hx' with h; exact h.symm
          rw [Hshe.out] at q3
          have Ho2 := Lib.hid ho
          have Hf2 := Lib.hid hf
          clear ho hf hx' q0 q1 q2
          by_cases hk2 : k < sh
          · have hki : (k : Int) < (sh : Int) := by omega
            go_wp2_with fail
            refine (HA1.out k wr Hf2.out hk2).mono ?_
            rintro r w5 ⟨rfl, b5⟩
            have Ho3 := Lib.hid ((Ho2.out.below b5).skip (Fr.none_alloc _ (.cells #[.int .i64 1, .int .i64 j, .int .i64 k] 44)))
            have Hf3 := Lib.hid (Hf2.out.trans ((Fr.b0 b5).alloc (.cells #[.int .i64 1, .int .i64 j, .int .i64 k] 44)) (fun _ h => h.elim))
            clear b5 p0 p1 p2 d1 q3
            go_wp2_with fail
            go_roundw
            case rel => exact ⟨k + 1, by omega, by go_num, by go_num, Ho3.out, Hf3.out⟩
            case measure => simp [intOf]; omega
          · obtain rfl : k = sh := by omega
            clear p0 p1 p2
            go_wp2_with fail
            go_roundw
            case rel => exact ⟨j + 1, by omega, by go_num, by rw [Hj.out], Ho2.out, Hf2.out⟩
            case measure => simp [intOf]; omega
      · obtain rfl : j = c1 := by omega
        rw [take_all (by rw [Hlt.out]; exact Nat.le_refl _)]
        obtain ⟨F, hF⟩ : ∃ F, fillsV lt = F := ⟨_, rfl⟩
        have hF0 := fillsV_nonneg lt
        have hE0 := atV_end (l := lt) (k := 0) (by rw [Hlt.out]; omega) (by decide) (by decide)
        have hE1 := atV_end (l := lt) (k := 1) (by rw [Hlt.out]; omega) (by decide) (by decide)
        have hE2 := atV_out (l := lt) (k := fillsV lt + 2) (by rw [Hlt.out]; omega) (.inr (Int.le_refl _))
        have hE3 := atV_out (l := lt) (k := -1) (by rw [Hlt.out]; omega) (.inl (by decide))
        have hst2 := stepsV_of (l := lt) (by rw [Hlt.out]; omega)
        rw [hF] at hE0 hE1 hE2 hst2 hF0 hfb
        rw [Int.add_zero] at hE0
        have HFle := Lib.hid (fun j => fillsV_take_le lt j)
        rw [hF] at HFle ⊢
        have A0 := Lib.hid (fun w' h => HAt.out F w' h (by unfold i64; omega))
        have A1 := Lib.hid (fun w' h => HAt.out (F + 1) w' h (by unfold i64; omega))
        have A2 := Lib.hid (fun w' h => HAt.out (F + 2) w' h (by unfold i64; omega))
        have A3 := Lib.hid (fun w' h => HAt.out (-1) w' h (by unfold i64; decide))
        rw [hE0] at A0
        rw [hE1] at A1
        rw [hE2] at A2
        rw [hE3] at A3
        rw [hst2] at HSt
        have HF := Lib.hid hF
        clear hE0 hE1 hE2 hE3 hst2 hF HAt hj hlt
        go_wp2_with fail
        refine (A0.out wr Hf.out).mono ?_
        rintro r w5 ⟨rfl, b5⟩
        have O5 := Lib.hid (Ho.out.below b5)
        have F5 := Lib.hid (Hf.out.trans (Fr.b0 b5) (fun _ h => h.elim))
        clear b5 p0 p1 p2 d1
        obtain ⟨p0, p1, p2, _⟩ := HC.out w5 F5.out
        have p0' := fun o => (Fr.none_alloc w5 o).cell p0 (fun h => h)
        have p1' := fun o => (Fr.none_alloc w5 o).cell p1 (fun h => h)
        have p2' := fun o => (Fr.none_alloc w5 o).cell p2 (fun h => h)
        clear p0 p1 p2
        go_wp2_with fail
        refine (A1.out _ (F5.out.alloc (.cells #[.int .i64 2, .int .i64 0, .int .i64 0] 44))).mono ?_
        rintro r w6 ⟨rfl, b6⟩
        have O6 := Lib.hid ((O5.out.skip (Fr.none_alloc _ (.cells #[.int .i64 2, .int .i64 0, .int .i64 0] 44))).below b6)
        have F6 := Lib.hid ((F5.out.alloc (.cells #[.int .i64 2, .int .i64 0, .int .i64 0] 44)).trans (Fr.b0 b6) (fun _ h => h.elim))
        have X6 := Lib.hid ((Blk.new w5 44 #[.int .i64 2, .int .i64 0, .int .i64 0]).below b6)
        clear b6 p0' p1' p2'
        obtain ⟨p0, p1, p2, _⟩ := HC.out w6 F6.out
        have p0' := fun o => (Fr.none_alloc w6 o).cell p0 (fun h => h)
        have p1' := fun o => (Fr.none_alloc w6 o).cell p1 (fun h => h)
        have p2' := fun o => (Fr.none_alloc w6 o).cell p2 (fun h => h)
        clear p0 p1 p2
        go_wp2_with fail
        refine (A2.out _ (F6.out.alloc (.cells #[.int .i64 3, .int .i64 0, .int .i64 0] 44))).mono ?_
        rintro r w7 ⟨rfl, b7⟩
        have O7 := Lib.hid ((O6.out.skip (Fr.none_alloc _ (.cells #[.int .i64 3, .int .i64 0, .int .i64 0] 44))).below b7)
        have F7 := Lib.hid ((F6.out.alloc (.cells #[.int .i64 3, .int .i64 0, .int .i64 0] 44)).trans (Fr.b0 b7) (fun _ h => h.elim))
        have X7 := Lib.hid ((X6.out.alloc (.cells #[.int .i64 3, .int .i64 0, .int .i64 0] 44)).below b7)
        have Y7 := Lib.hid ((Blk.new w6 44 #[.int .i64 3, .int .i64 0, .int .i64 0]).below b7)
        clear b7 p0' p1' p2'
        obtain ⟨p0, p1, p2, _⟩ := HC.out w7 F7.out
        have p0' := fun o => (Fr.none_alloc w7 o).cell p0 (fun h => h)
        have p1' := fun o => (Fr.none_alloc w7 o).cell p1 (fun h => h)
        have p2' := fun o => (Fr.none_alloc w7 o).cell p2 (fun h => h)
        clear p0 p1 p2
        go_wp2_with fail
        refine (A3.out _ (F7.out.alloc (.cells #[.int .i64 0, .int .i64 0, .int .i64 0] 44))).mono ?_
        rintro r w8 ⟨rfl, b8⟩
        have O8 := Lib.hid ((O7.out.skip (Fr.none_alloc _ (.cells #[.int .i64 0, .int .i64 0, .int .i64 0] 44))).below b8)
        have F8 := Lib.hid ((F7.out.alloc (.cells #[.int .i64 0, .int .i64 0, .int .i64 0] 44)).trans (Fr.b0 b8) (fun _ h => h.elim))
        have x0 := ((((X7.out.alloc (.cells #[.int .i64 0, .int .i64 0, .int .i64 0] 44)).below b8).alloc (.cells #[.int .i64 0, .int .i64 0, .int .i64 0] 44)).cell 0)
        have y0 := ((((Y7.out.alloc (.cells #[.int .i64 0, .int .i64 0, .int .i64 0] 44)).below b8).alloc (.cells #[.int .i64 0, .int .i64 0, .int .i64 0] 44)).cell 0)
        simp only [List.getElem?_toArray, List.getElem?_cons_succ, List.getElem?_cons_zero] at x0 y0
        clear b8 p0' p1' p2'
        obtain ⟨p0, p1, p2, _⟩ := HC.out w8 F8.out
        have p0' := fun o => (Fr.none_alloc w8 o).cell p0 (fun h => h)
        have p1' := fun o => (Fr.none_alloc w8 o).cell p1 (fun h => h)
        have p2' := fun o => (Fr.none_alloc w8 o).cell p2 (fun h => h)
        clear p0 p1 p2
        go_wp2_with fail
        refine (HSt.out _ (F8.out.alloc (.cells #[.int .i64 0, .int .i64 0, .int .i64 0] 44))).mono ?_
        rintro r w9 ⟨rfl, b9⟩
        have O9 := Lib.hid ((O8.out.skip (Fr.none_alloc _ (.cells #[.int .i64 0, .int .i64 0, .int .i64 0] 44))).below b9)
        have F9 := Lib.hid ((F8.out.alloc (.cells #[.int .i64 0, .int .i64 0, .int .i64 0] 44)).trans (Fr.b0 b9) (fun _ h => h.elim))
        clear b9 p0' p1' p2' x0 y0 A0 A1 A2 A3 HSt X6 X7 Y7 O5 O6 O7 O8 F5 F6 F7 F8 Ho Hf
        obtain ⟨p0, p1, p2, d1⟩ := HC.out w9 F9.out
        by_cases htn : tier < 0 ∨ (j : Int) ≤ tier
        · have htn2 : tier < 0 ∨ (0 ≤ tier ∧ (j : Int) ≤ tier) := by omega
          clear htn
          rcases htn2 with h1 | ⟨h0, h1⟩
          all_goals
            go_wp2_with fail
            refine (alive_any w9).mono ?_
            rintro r w10 ⟨rfl, b10⟩
            have O10 := Lib.hid (O9.out.below b10)
            clear b10
            go_wp2_with fail
            go_ret
            exact ⟨rfl, O10.out.bel⟩
        obtain ⟨tj, rfl⟩ := Int.eq_ofNat_of_zero_le (show 0 ≤ tier by omega)
        have htj : tj < j := by omega
        have htj0 : decide ((tj : Int) < 0) = false := decide_eq_false (by omega)
        have htji : decide ((j : Int) ≤ (tj : Int)) = false := decide_eq_false (by omega)
        have htjn : decide (j ≤ tj) = false := decide_eq_false (by omega)
        obtain ⟨x, hx⟩ : ∃ x, lt[tj]? = some x := ⟨_, List.getElem?_eq_getElem (by rw [Hlt.out]; omega)⟩
        have hm := check_mem hck (mem_of_get hx)
        have hle := HFle.out (tj + 1)
        rw [fills_snoc hx] at hle
        have h0 := fillsV_nonneg (lt.take tj)
        have hc : 0 ≤ shardV s x.shards ∧ shardV s x.shards < x.shards := by
          have := shardV_in s x.shards
          refine ⟨this.1, ?_⟩
          unfold shardV
          rw [if_neg (by omega)]
          exact Int.emod_lt_of_pos _ (by omega)
        have HG := Lib.hid (fun k w' h => HFi.out k tj x w' h hx)
        obtain ⟨cc, hcc⟩ : ∃ cc, shardV s x.shards + fillsV (lt.take tj) = cc := ⟨_, rfl⟩
        rw [hcc] at HG
        have hc0 : 0 ≤ cc := by omega
        have hc1 : cc < F := by omega
        clear htn hx hm hle h0 hc hcc HFi HFle
        go_wp2_with fail
        clear p0 p1 p2 d1
        go_loopw [22, 23] (fun b k wr => ∃ n : Nat, (n : Int) ≤ F + 1 ∧ k = .int .i64 n ∧ b = .bool (decide (cc + 1 < (n : Int))) ∧ Own w wr (fun _ => False) ∧ Fr (fun _ => False) wc wr) (fun _ k _ => (F + 1 - intOf k).toNat)
        case atStart => exact ⟨0, by omega, rfl, by rw [decide_eq_false (by omega)], O9.out, F9.out⟩
        case round =>
          obtain ⟨n, hn, rfl, rfl, ho, hf⟩ := hrel
          obtain ⟨p0, p1, p2, d1⟩ := HC.out wr hf
          have Ho := Lib.hid ho
          have Hf := Lib.hid hf
          clear ho hf d1
          by_cases hlt : (n : Int) ≤ F
          · have H1 := Lib.hid (HG.out n wr Hf.out)
            by_cases hcn : cc < (n : Int)
            · have H2 := Lib.hid (show decide (cc + 1 < ((n + 1 : Nat) : Int)) = true from decide_eq_true (by omega))
              rw [decide_eq_true hcn] at H1
              obtain ⟨bb, hbb⟩ : ∃ bb, decide (cc + 1 < (n : Int)) = bb := ⟨_, rfl⟩
              rw [hbb]
              clear hbb
              go_wp2_with fail
              refine (H1.out).mono ?_
              rintro r w10 ⟨rfl, b10⟩
              have Ho2 := Lib.hid (Ho.out.below b10)
              have Hf2 := Lib.hid (Hf.out.trans (Fr.b0 b10) (fun _ h => h.elim))
              clear b10 p0 p1 p2 H1
              cases bb
              all_goals
                go_wp2_with fail
                go_roundw
                case rel => first | exact ⟨n + 1, by omega, by go_num, by rw [H2.out], Ho2.out, Hf2.out⟩ | ((repeat apply Exists.intro); exact ⟨⟨n + 1, by omega, by go_num, by rw [H2.out], Ho2.out, Hf2.out⟩, rfl⟩)
                case measure => simp [intOf]; omega
            · have H2 := Lib.hid (show decide (cc + 1 < ((n + 1 : Nat) : Int)) = false from decide_eq_false (by omega))
              rw [decide_eq_false hcn] at H1
              rw [decide_eq_false (show ¬ (cc + 1 < (n : Int)) by omega)]
              go_wp2_with fail
              refine (H1.out).mono ?_
              rintro r w10 ⟨rfl, b10⟩
              have Ho2 := Lib.hid (Ho.out.below b10)
              have Hf2 := Lib.hid (Hf.out.trans (Fr.b0 b10) (fun _ h => h.elim))
              clear b10 p0 p1 p2 H1
              go_wp2_with fail
              go_roundw
              case rel => first | exact ⟨n + 1, by omega, by go_num, by rw [H2.out], Ho2.out, Hf2.out⟩ | ((repeat apply Exists.intro); exact ⟨⟨n + 1, by omega, by go_num, by rw [H2.out], Ho2.out, Hf2.out⟩, rfl⟩)
              case measure => simp [intOf]; omega
          · rw [decide_eq_true (show cc + 1 < (n : Int) by omega)]
            have H0 := Lib.hid (fun w' h => HG.out 0 w' h)
            rw [decide_eq_false (show ¬ (cc < 0) by omega)] at H0
            clear p0 p1 p2
            go_wp2_with fail
            refine (alive_any wr).mono ?_
            rintro r w10 ⟨rfl, b10⟩
            have Ho2 := Lib.hid (Ho.out.below b10)
            have Hf2 := Lib.hid (Hf.out.trans (Fr.b0 b10) (fun _ h => h.elim))
            clear b10
            obtain ⟨p0, p1, p2, d1⟩ := HC.out w10 Hf2.out
            clear d1
            go_wp2_with fail
            refine (H0.out w10 Hf2.out).mono ?_
            rintro r w11 ⟨rfl, b11⟩
            have Ho3 := Lib.hid (Ho2.out.below b11)
            clear b11 p0 p1 p2 H0
            go_wp2_with fail
            go_ret
            exact ⟨rfl, Ho3.out.bel⟩

end Go.Proofs.Ytbdhmoeadakipaa
