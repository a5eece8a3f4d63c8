/- The statement PlanSteps: the walk. -/
import Derived.Test.YtbdhmoeadakipaaAlive
import Derived.Test.YtbdhmoeadakipaaPlanLaw
namespace Go.Proofs.Ytbdhmoeadakipaa
open Go.RowKit

theorem one_pol (w : World) (nmt : ByteArray) (At : Option Addr) (nt ct : Nat) :
    ∃ WA, WA = w.alloc (.cells #[.string nmt, .slice At nt ct] 24) ∧ Own w WA (fun _ => False) ∧ Blk WA w.heap.size 24 #[.string nmt, .slice At nt ct] :=
  ⟨_, rfl, (Own.start w).skip (Fr.none_alloc _ _), Blk.new w _ _⟩

def NoPlan (a : ByteArray) (b : Option Addr) (b1 b2 : Nat) (c : Option Addr) (c1 c2 : Nat) (_ : World) : Prop := a = { data := #[] } ∧ b = none ∧ b1 = 0 ∧ b2 = 0 ∧ c = none ∧ c1 = 0 ∧ c2 = 0
def IsPlan (nmt : ByteArray) (nt : Nat) (lt : List TierV) (a : ByteArray) (b : Option Addr) (b1 b2 : Nat) (_ : Option Addr) (c1 _ : Nat) (wx : World) : Prop := a = nmt ∧ b1 = nt ∧ c1 = nt ∧ nt ≤ b2 ∧ Rd wx 4 b nt (tcells lt)

set_option maxRecDepth 100000 in
set_option maxHeartbeats 16000000 in
theorem steps_bad (nmt : ByteArray) (lt : List TierV) (At : Option Addr) (nt ct : Nat) (s : ByteArray) (tier : Int) (w : World)
    (ht : Rd w 4 At nt (tcells lt)) (htc : nt ≤ ct) (hnt : nmt.size ≤ maxLen) (hwt : ∀ t ∈ lt, t.wf) (hn2 : nt ≤ 9223372036854775807) (hs : s.size ≤ maxLen) (hck : checkB nmt lt = false) :
    Calls Try.prog 4 #[polV nmt At nt ct, .string s, .int .i64 tier] w fun r w' => r = .returned (.bool true) ∧ Below w.heap.size w w' := by
  have HB : Hid (∀ w', Fr (fun _ => False) w w' → Calls Try.prog 5 #[polV nmt At nt ct] w' fun r w'' => SmallR nmt nt r ∧ Below w'.heap.size w' w'') :=
    fun w' h => small_any nmt lt At nt ct w' (ht.fr0 h) hn2 hnt (fun t h => (hwt t h).2.2.2)
  have HW := Lib.hid web_any
  have HM : Hid (∀ Af cf Ar cr B d w', Fr (fun _ => False) w w' → Rd w' 4 Af 2 (tcells webT) → 2 ≤ cf → Rd w' 4 Ar 2 (tcells webT) → Rd w' 1 B 0 (ints []) → Calls Try.prog 8 #[polV webN Af 2 cf, reachV 100 webN Ar 2 cr B 0 d, polV nmt At nt ct] w'
      fun r w'' => (∃ a b b1 b2 c c1 c2, r = .returned (.tuple #[.agg #[.string a, .slice b b1 b2, .slice c c1 c2], .int .i64 23]) ∧ (∀ wx, Fr (fun _ => False) w'' wx → NoPlan a b b1 b2 c c1 c2 wx) ∧ (∀ g wx, g < w'.heap.size → Fr (fun k => k = g) w'' wx → NoPlan a b b1 b2 c c1 c2 wx)) ∧ Below w'.heap.size w' w'') :=
    fun Af cf Ar cr B d w' h h1 h2 h3 h4 => (make_bad webN webT Af 2 cf 100 webN Ar 2 cr B 0 d nmt lt At nt ct w' h1 h2 (ht.fr0 h) htc wf_web hwt (by decide) hnt (by rw [hck, Bool.and_false])).mono fun r w'' ⟨k1, k2⟩ => ⟨⟨_, _, _, _, _, _, _, k1, fun _ _ => ⟨rfl, rfl, rfl, rfl, rfl, rfl, rfl⟩, fun _ _ _ _ => ⟨rfl, rfl, rfl, rfl, rfl, rfl, rfl⟩⟩, k2⟩
  have Ht := Lib.hid ht
  have Hwt := Lib.hid hwt
  have Hlt := Lib.hid ht.tiers_len
  clear ht hwt hnt
  obtain ⟨WA, hWA, oA, b4⟩ := one_pol w nmt At nt ct
  have OA := Lib.hid oA
  have HWA := Lib.hid hWA
  have B4 := Lib.hid b4
  clear oA hWA b4
  unfold polV at HB HW HM ⊢
  unfold reachV at HM
  have hs1 : (s.size : Int) ≤ 9223372036854775807 := by unfold maxLen at hs; omega
  by_cases h60 : 60 < (s.size : Int)
  · go_enter Try.func4, Try.ntmps4
    go_wp2_with fail
    rw [← HWA.out]
    refine (HB.out WA (Fr.b0 OA.out.bel)).mono ?_
    rintro r w1 ⟨⟨b, rfl, hb⟩, b1⟩
    have O1 := Lib.hid (OA.out.below b1)
    clear b1 hb
    cases b
    all_goals
      go_wp2_with fail
      refine (alive_any w1).mono ?_
      rintro r w5 ⟨rfl, b5⟩
      have O2 := Lib.hid (O1.out.below b5)
      clear b5
      go_wp2_with fail
      go_ret
      exact ⟨rfl, O2.out.bel⟩
  have h60' : ¬ 60 < (s.size : Int) := h60
  go_enter Try.func4, Try.ntmps4
  go_wp2_with fail
  rw [← HWA.out]
  refine (HB.out WA (Fr.b0 OA.out.bel)).mono ?_
  rintro r w1 ⟨⟨b, rfl, hb⟩, b1⟩
  have O1 := Lib.hid (OA.out.below b1)
  have B41 := Lib.hid (B4.out.below b1)
  clear b1
  cases b
  · clear hb
    go_wp2_with fail
    refine (alive_any w1).mono ?_
    rintro r w5 ⟨rfl, b5⟩
    have O2 := Lib.hid (O1.out.below b5)
    clear b5
    go_wp2_with fail
    go_ret
    exact ⟨rfl, O2.out.bel⟩
  have hst := Lib.hid (hb rfl)
  clear hb HWA B4 OA HB
  go_wp2_with fail
  have d0 := B41.out.cell 0
  have d1 := B41.out.cell 1
  simp only [List.getElem?_toArray, List.getElem?_cons_succ, List.getElem?_cons_zero] at d0 d1
  have HS : Hid (∀ w', Fr (fun _ => False) w1 w' → w'.cell? ⟨w.heap.size, 0, none⟩ = some (.string nmt) ∧ w'.cell? ⟨w.heap.size, 1, none⟩ = some (.slice At nt ct) ∧ Fr (fun _ => False) w1 w') :=
    fun w' h => ⟨h.cell d0 (fun h => h), h.cell d1 (fun h => h), h⟩
  have HA : Hid (∀ w', (w'.cell? ⟨w.heap.size, 0, none⟩ = some (.string nmt) ∧ w'.cell? ⟨w.heap.size, 1, none⟩ = some (.slice At nt ct) ∧ Fr (fun _ => False) w1 w') → ∀ o, ((w'.alloc o).cell? ⟨w.heap.size, 0, none⟩ = some (.string nmt) ∧ (w'.alloc o).cell? ⟨w.heap.size, 1, none⟩ = some (.slice At nt ct) ∧ Fr (fun _ => False) w1 (w'.alloc o))) := fun w' h o => HS.out _ (h.2.2.alloc o)
  have HW2 : Hid (∀ w', (w'.cell? ⟨w.heap.size, 0, none⟩ = some (.string nmt) ∧ w'.cell? ⟨w.heap.size, 1, none⟩ = some (.slice At nt ct) ∧ Fr (fun _ => False) w1 w') →
      Calls Try.prog 11 #[] w' fun r w'' => ((∃ A c, r = .returned (.agg #[.string webN, .slice A 2 c]) ∧ 2 ≤ c ∧ Rd w'' 4 A 2 (tcells webT)) ∧ Fr (fun _ => False) w' w'') ∧ (w''.cell? ⟨w.heap.size, 0, none⟩ = some (.string nmt) ∧ w''.cell? ⟨w.heap.size, 1, none⟩ = some (.slice At nt ct) ∧ Fr (fun _ => False) w1 w'')) :=
    fun w' h => (HW.out w').mono fun r w'' ⟨h1, h2⟩ => ⟨⟨h1, Fr.b0 h2⟩, HS.out w'' (h.2.2.trans (Fr.b0 h2) (fun _ h => h.elim))⟩
  have HO2 : Hid (∀ A c w', (w'.cell? ⟨w.heap.size, 0, none⟩ = some (.string nmt) ∧ w'.cell? ⟨w.heap.size, 1, none⟩ = some (.slice At nt ct) ∧ Fr (fun _ => False) w1 w') → Rd w' 4 A 2 (tcells webT) →
      Calls Try.prog 7 #[.agg #[.string webN, .slice A 2 c], .int .i64 100, .slice none 0 0] w' fun r w'' => ((∃ A' c' B' d', r = .returned (.agg #[.int .i64 100, .string webN, .slice A' 2 c', .slice B' 0 d']) ∧ Rd w'' 4 A' 2 (tcells webT) ∧ Rd w'' 1 B' 0 (ints [])) ∧ Fr (fun _ => False) w' w'') ∧ (w''.cell? ⟨w.heap.size, 0, none⟩ = some (.string nmt) ∧ w''.cell? ⟨w.heap.size, 1, none⟩ = some (.slice At nt ct) ∧ Fr (fun _ => False) w1 w'')) :=
    fun A c w' h hr => by
      have h0 := of_any webN webT A 2 c 100 [] none 0 0 w' hr (by decide) Rd.nil_ (by decide)
      unfold polV reachV at h0
      exact h0.mono fun r w'' ⟨⟨A', c', B', d', h1, _, _, h4, h5, _⟩, h2⟩ => ⟨⟨⟨A', c', B', d', h1, h4, h5⟩, Fr.b0 h2⟩, HS.out w'' (h.2.2.trans (Fr.b0 h2) (fun _ h => h.elim))⟩
  have HM2 : Hid (∀ Af cf Ar cr B d w', (w'.cell? ⟨w.heap.size, 0, none⟩ = some (.string nmt) ∧ w'.cell? ⟨w.heap.size, 1, none⟩ = some (.slice At nt ct) ∧ Fr (fun _ => False) w1 w') → Rd w' 4 Af 2 (tcells webT) → 2 ≤ cf → Rd w' 4 Ar 2 (tcells webT) → Rd w' 1 B 0 (ints []) →
      Calls Try.prog 8 #[.agg #[.string webN, .slice Af 2 cf], .agg #[.int .i64 100, .string webN, .slice Ar 2 cr, .slice B 0 d], .agg #[.string nmt, .slice At nt ct]] w' fun r w'' => ((∃ a b b1 b2 c c1 c2, r = .returned (.tuple #[.agg #[.string a, .slice b b1 b2, .slice c c1 c2], .int .i64 23]) ∧ (∀ wx, Fr (fun _ => False) w'' wx → NoPlan a b b1 b2 c c1 c2 wx) ∧ (∀ g wx, g < w'.heap.size → Fr (fun k => k = g) w'' wx → NoPlan a b b1 b2 c c1 c2 wx)) ∧ Fr (fun _ => False) w' w'') ∧ (w''.cell? ⟨w.heap.size, 0, none⟩ = some (.string nmt) ∧ w''.cell? ⟨w.heap.size, 1, none⟩ = some (.slice At nt ct) ∧ Fr (fun _ => False) w1 w'')) :=
    fun Af cf Ar cr B d w' h h1 h2 h3 h4 => (HM.out Af cf Ar cr B d w' (Fr.b0 ((O1.out.skip h.2.2).bel)) h1 h2 h3 h4).mono fun r w'' ⟨k1, k2⟩ => ⟨⟨k1, Fr.b0 k2⟩, HS.out w'' (h.2.2.trans (Fr.b0 k2) (fun _ h => h.elim))⟩
  have S0 := Lib.hid (HS.out w1.drew ((Fr.refl _ w1).drew))
  have tok1 : True := trivial
  clear d0 d1 HM HW
  go_cut [7, 8] (fun s7 s8 wx => ∃ (g : Nat) (a : ByteArray) (b : Option Addr) (b1 b2 : Nat) (c : Option Addr) (c1 c2 : Nat), s7 = .pointer (some ⟨g, 0, none⟩) ∧ s8 = .int .i64 23 ∧ Blk wx g 32 #[.string a, .slice b b1 b2, .slice c c1 c2] ∧ NoPlan a b b1 b2 c c1 c2 wx ∧ Fr (fun _ => False) w1 wx)
  case first =>
    go_region_held3 (fun w' => w'.cell? ⟨w.heap.size, 0, none⟩ = some (.string nmt) ∧ w'.cell? ⟨w.heap.size, 1, none⟩ = some (.slice At nt ct) ∧ Fr (fun _ => False) w1 w') (first | exact S0.out | assumption | exact HA.out _ (by assumption) _ | exact HS.out _ (((hS8.2.2.setCell (.inr (by show w1.heap.size ≤ _; first | exact Nat.le_refl _ | omega)) _).setCell (.inr (by show w1.heap.size ≤ _; first | exact Nat.le_refl _ | omega)) _).setCell (.inr (by show w1.heap.size ≤ _; first | exact Nat.le_refl _ | omega)) _)) (first | (go_at_call 11; have tok2 := tok1; clear tok1; refine (HW2.out _ (by first | exact S0.out | assumption)).mono ?_; rintro r w5 ⟨⟨⟨A5, c5, rfl, hc5, r5⟩, f5⟩, hS5⟩; have z5 := f5.size; (try simp at z5); have y5 := hS5.2.2.size) | (go_at_call 11; refine (HW2.out _ (by first | exact S0.out | assumption)).mono ?_; rintro r w6 ⟨⟨⟨A6, c6, rfl, hc6, r6⟩, f6⟩, hS6⟩; have z6 := f6.size; (try simp at z6); have y6 := hS6.2.2.size) | (go_at_call 7; refine (HO2.out _ _ _ (by assumption) (by first | exact r6 | exact r6.alloc _)).mono ?_; rintro r w7 ⟨⟨⟨A7, c7, B7, d7, rfl, r7, g7⟩, f7⟩, hS7⟩; have z7 := f7.size; (try simp at z7); have y7 := hS7.2.2.size) | (go_at_call 8; refine (HM2.out _ _ _ _ _ _ _ (by assumption) (by first | exact (r5.fr0 f6).fr0 f7 | exact ((r5.alloc _).fr0 f6).fr0 f7 | exact ((r5.fr0 f6).alloc _).fr0 f7 | exact ((r5.fr0 f6).fr0 f7).alloc _) hc5 (by first | exact r7 | exact r7.alloc _) (by first | exact g7 | exact g7.alloc _)).mono ?_; rintro r w8 ⟨⟨⟨a8, b8, b81, b82, c8, c81, c82, rfl, n8, m8⟩, f8⟩, hS8⟩; have z8 := f8.size; (try simp at z8); have y8 := hS8.2.2.size; (try (have BP : Blk w8 _ 32 #[.string { data := #[] }, .slice none 0 0, .slice none 0 0] := (by first | exact (Blk.new w7 _ _).fr f8 (fun h => h) | exact ((Blk.new w6 _ _).fr f7 (fun h => h)).fr f8 (fun h => h) | exact (((Blk.new w5 _ _).fr f6 (fun h => h)).fr f7 (fun h => h)).fr f8 (fun h => h) | exact (((((Blk.new w1 _ _).drew).fr f5 (fun h => h)).fr f6 (fun h => h)).fr f7 (fun h => h)).fr f8 (fun h => h)); have e0 := BP.cell 0; have e1 := BP.cell 1; have e2 := BP.cell 2; have g0 := BP.frozen 0; have g1 := BP.frozen 1; have g2 := BP.frozen 2; simp only [List.getElem?_toArray, List.getElem?_cons_succ, List.getElem?_cons_zero] at e0 e1 e2; have BP' := Lib.hid BP; clear BP))))
    all_goals go_wp2_with fail
    all_goals go_meet
    all_goals first
      | exact ⟨w8.heap.size, a8, b8, b81, b82, c8, c81, c82, rfl, rfl, Blk.new _ _ _, n8 _ (Fr.none_alloc _ _), hS8.2.2.alloc _⟩
      | exact ⟨_, a8, b8, b81, b82, c8, c81, c82, rfl, rfl, BP'.out.set3, m8 _ _ (by first | omega | (simp; omega) | simp) ((Fr.refl (fun k => k = _) w8).set3 (.inl rfl) _ _ _), hS8.2.2.set3 (.inr (by first | exact Nat.le_refl _ | omega)) _ _ _⟩
  case rest =>
    obtain ⟨g, a, b, b1, b2, c, c1, c2, rfl, rfl, hbp, hq, hfr⟩ := hcut
    clear S0 HA HW2 HO2 HM2 tok1
    obtain ⟨rfl, rfl, rfl, rfl, rfl, rfl, rfl⟩ := hq
    have O2 := Lib.hid (O1.out.skip hfr)
    have BP := Lib.hid hbp
    clear hbp hfr
    go_wp2_with fail
    refine (alive_any _).mono ?_
    rintro r w6 ⟨rfl, b6⟩
    have BP6 := BP.out.below b6
    have O6 := Lib.hid (O2.out.below b6)
    have p0 := BP6.cell 0
    have p1 := BP6.cell 1
    have p2 := BP6.cell 2
    simp only [List.getElem?_toArray, List.getElem?_cons_succ, List.getElem?_cons_zero] at p0 p1 p2
    have HT := Lib.hid (steps_any { data := #[] } [] none 0 0 none 0 0 w6 Rd.nil_ (by decide) (by simp))
    rw [show stepsV [] = 0 from rfl] at HT
    unfold planV at HT
    clear b6 BP6
    go_wp2_with fail
    refine (HT.out).mono ?_
    rintro r w7 ⟨rfl, b7⟩
    have O7 := Lib.hid (O6.out.below b7)
    clear HT b7 p0 p1 p2
    go_wp2_with fail
    go_ret
    exact ⟨rfl, O7.out.bel⟩
end Go.Proofs.Ytbdhmoeadakipaa
