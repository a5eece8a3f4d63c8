/- Walk of sedimentlaw13.alive. -/
import Derived.Test.YtbblmmneeafhgaaGreatBound
import Derived.Deep.DeepCutAuto
import Derived.Deep.RegionWith
namespace Go.Proofs.YtbblmmneeafhgaaGreat
set_option linter.all false
open Go.RowKit

theorem web_ok : checkB webN webT = true := by decide +kernel
theorem fif_ok : checkB fifN fifT = true := by decide +kernel
theorem fif_srcs : srcs 257 webT [] fifT = [0, 1] := by decide +kernel
theorem fif_steps : stepsV fifT = 6 := by decide +kernel
theorem fif_at : atV fifT 1 = ((1, 1, 0), true) := by decide +kernel
theorem fif_bases : basesV 257 webT [] [0, 1] fifT = [150, 0] := by decide +kernel
theorem fif_fills : fillsV fifT = 4 := by decide +kernel
theorem wf_web : ∀ t ∈ webT, t.wf := by
 intro t ht
 simp only [webT, List.mem_cons, List.not_mem_nil, or_false] at ht
 rcases ht with rfl | rfl <;> (unfold TierV.wf i64 maxLen; decide)
theorem wf_fif : ∀ t ∈ fifT, t.wf := by
 intro t ht
 simp only [fifT, List.mem_cons, List.not_mem_nil, or_false] at ht
 rcases ht with rfl | rfl <;> (unfold TierV.wf i64 maxLen; decide)
theorem sh_fif : ∀ t ∈ fifT, t.shards ≤ 8 := by decide +kernel


set_option maxRecDepth 100000 in
set_option maxHeartbeats 4000000 in
theorem alive13_any (w : World) : Calls Tryz.prog 31 #[] w fun r w' => r = .returned (.bool true) ∧ Below w.heap.size w w' := by
 have HW := Lib.hid web_any
 have HX := Lib.hid fif_any
 have HM := Lib.hid (fun Af nf cf now hnow nmr Ar cr B m d At nt ct w hf hfc hr hfl ht htc hn hn2 => make_good webN webT Af nf cf now hnow nmr Ar cr [] B m d fifN fifT At nt ct w hf hfc hr hfl ht htc wf_web wf_fif (by decide) (by decide) hn hn2 web_ok fif_ok)
 unfold polV at HW HX HM
 unfold reachV planV at HM
 go_enter Tryz.func31, Tryz.ntmps31
 go_wp2_with fail
 refine (HW.out w).mono ?_
 rintro r w1 ⟨⟨A1, c1, rfl, hc1, r1⟩, b1⟩
 have O1 := Lib.hid ((Own.start w).below b1)
 have R1 := Lib.hid r1
 clear b1 r1
 have HO := Lib.hid (of_any webN webT A1 2 c1 257 [] none 0 0 w1 R1.out (by decide) Rd.nil_ (by decide))
 unfold polV reachV at HO
 go_wp2_with fail
 refine (HO.out).mono ?_
 rintro r w2 ⟨⟨A2, c2, B2, d2, rfl, hc2, hd2, r2, f2, n2, m2⟩, b2⟩
 have O2 := Lib.hid (O1.out.below b2)
 have R2 := Lib.hid r2
 have F2 := Lib.hid f2
 clear b2 r2 f2 n2 m2 R1 O1
 go_wp2_with fail
 obtain ⟨W1, hW1⟩ : ∃ W1, W1 = w2.alloc (.cells #[.int .i64 257, .string webN, .slice A2 2 c2, .slice B2 0 d2] 80) := ⟨_, rfl⟩
 rw [← hW1]
 have hb := hW1 ▸ Blk.new w2 80 #[.int .i64 257, .string webN, .slice A2 2 c2, .slice B2 0 d2]
 have O3 := Lib.hid (hW1 ▸ O2.out.skip (Fr.none_alloc _ _) : Own w W1 (fun _ => False))
 have R3 := Lib.hid (hW1 ▸ R2.out.alloc _ : Rd W1 4 A2 2 (tcells webT))
 have F3 := Lib.hid (hW1 ▸ F2.out.alloc _ : Rd W1 1 B2 0 (ints []))
 have c0 := hb.cell 0
 have c1 := hb.cell 1
 have c2' := hb.cell 2
 have c3 := hb.cell 3
 simp only [List.getElem?_toArray, List.getElem?_cons_succ, List.getElem?_cons_zero] at c0 c1 c2' c3
 have HS : Hid (∀ w', Fr (fun _ => False) W1 w' → w'.cell? ⟨w2.heap.size, 0, none⟩ = some (.int .i64 257) ∧ w'.cell? ⟨w2.heap.size, 1, none⟩ = some (.string webN) ∧ w'.cell? ⟨w2.heap.size, 2, none⟩ = some (.slice A2 2 c2) ∧ w'.cell? ⟨w2.heap.size, 3, none⟩ = some (.slice B2 0 d2) ∧ Fr (fun _ => False) W1 w') :=
  fun w' h => ⟨h.cell c0 (fun h => h), h.cell c1 (fun h => h), h.cell c2' (fun h => h), h.cell c3 (fun h => h), h⟩
 have HW2 : Hid (∀ w', (w'.cell? ⟨w2.heap.size, 0, none⟩ = some (.int .i64 257) ∧ w'.cell? ⟨w2.heap.size, 1, none⟩ = some (.string webN) ∧ w'.cell? ⟨w2.heap.size, 2, none⟩ = some (.slice A2 2 c2) ∧ w'.cell? ⟨w2.heap.size, 3, none⟩ = some (.slice B2 0 d2) ∧ Fr (fun _ => False) W1 w') →
   Calls Tryz.prog 39 #[] w' fun r w'' => ((∃ A c, r = .returned (.agg #[.string webN, .slice A 2 c]) ∧ 2 ≤ c ∧ Rd w'' 4 A 2 (tcells webT)) ∧ Fr (fun _ => False) w' w'') ∧ (w''.cell? ⟨w2.heap.size, 0, none⟩ = some (.int .i64 257) ∧ w''.cell? ⟨w2.heap.size, 1, none⟩ = some (.string webN) ∧ w''.cell? ⟨w2.heap.size, 2, none⟩ = some (.slice A2 2 c2) ∧ w''.cell? ⟨w2.heap.size, 3, none⟩ = some (.slice B2 0 d2) ∧ Fr (fun _ => False) W1 w'')) :=
  fun w' h => (HW.out w').mono fun r w'' ⟨h1, h2⟩ => ⟨⟨h1, Fr.b0 h2⟩, HS.out w'' (h.2.2.2.2.trans (Fr.b0 h2) (fun _ h => h.elim))⟩
 have HX2 : Hid (∀ w', (w'.cell? ⟨w2.heap.size, 0, none⟩ = some (.int .i64 257) ∧ w'.cell? ⟨w2.heap.size, 1, none⟩ = some (.string webN) ∧ w'.cell? ⟨w2.heap.size, 2, none⟩ = some (.slice A2 2 c2) ∧ w'.cell? ⟨w2.heap.size, 3, none⟩ = some (.slice B2 0 d2) ∧ Fr (fun _ => False) W1 w') →
   Calls Tryz.prog 112 #[] w' fun r w'' => ((∃ A c, r = .returned (.agg #[.string fifN, .slice A 2 c]) ∧ 2 ≤ c ∧ Rd w'' 4 A 2 (tcells fifT)) ∧ Fr (fun _ => False) w' w'') ∧ (w''.cell? ⟨w2.heap.size, 0, none⟩ = some (.int .i64 257) ∧ w''.cell? ⟨w2.heap.size, 1, none⟩ = some (.string webN) ∧ w''.cell? ⟨w2.heap.size, 2, none⟩ = some (.slice A2 2 c2) ∧ w''.cell? ⟨w2.heap.size, 3, none⟩ = some (.slice B2 0 d2) ∧ Fr (fun _ => False) W1 w'')) :=
  fun w' h => (HX.out w').mono fun r w'' ⟨h1, h2⟩ => ⟨⟨h1, Fr.b0 h2⟩, HS.out w'' (h.2.2.2.2.trans (Fr.b0 h2) (fun _ h => h.elim))⟩
 have HM2 : Hid (∀ Af cf At ct w', (w'.cell? ⟨w2.heap.size, 0, none⟩ = some (.int .i64 257) ∧ w'.cell? ⟨w2.heap.size, 1, none⟩ = some (.string webN) ∧ w'.cell? ⟨w2.heap.size, 2, none⟩ = some (.slice A2 2 c2) ∧ w'.cell? ⟨w2.heap.size, 3, none⟩ = some (.slice B2 0 d2) ∧ Fr (fun _ => False) W1 w') → Rd w' 4 Af 2 (tcells webT) → 2 ≤ cf → Rd w' 4 At 2 (tcells fifT) → 2 ≤ ct →
   Calls Tryz.prog 33 #[.agg #[.string webN, .slice Af 2 cf], .agg #[.int .i64 257, .string webN, .slice A2 2 c2, .slice B2 0 d2], .agg #[.string fifN, .slice At 2 ct]] w' fun r w'' => (∃ A' c' S cs, r = .returned (.tuple #[.agg #[.string fifN, .slice A' 2 c', .slice (some S) 2 cs], .int .i64 0]) ∧ Rd w'' 4 A' 2 (tcells fifT) ∧ Rd w'' 1 (some S) 2 (ints [0, 1]) ∧ (∀ k, adF A' 2 k → w'.heap.size ≤ k) ∧ (∀ k, adF (some S) 2 k → w'.heap.size ≤ k)) ∧ Fr (fun _ => False) w' w'' ∧ (w''.cell? ⟨w2.heap.size, 0, none⟩ = some (.int .i64 257) ∧ w''.cell? ⟨w2.heap.size, 1, none⟩ = some (.string webN) ∧ w''.cell? ⟨w2.heap.size, 2, none⟩ = some (.slice A2 2 c2) ∧ w''.cell? ⟨w2.heap.size, 3, none⟩ = some (.slice B2 0 d2) ∧ Fr (fun _ => False) W1 w'')) :=
  fun Af cf At ct w' h hf hcf ht hct => (HM.out Af 2 cf 257 (by unfold i64; decide) webN A2 c2 B2 0 d2 At 2 ct w' hf hcf (R3.out.fr0 h.2.2.2.2) (F3.out.fr0 h.2.2.2.2) ht hct (by decide) (by decide)).mono fun r w'' ⟨⟨A', c', S, cs, h1, _, _, h4, h5, h6, h7⟩, h2⟩ => by
   rw [fif_srcs] at h5
   obtain ⟨ad, hS, _⟩ := h5.2 (by decide)
   subst hS
   exact ⟨⟨A', c', ad, cs, h1, h4, h5, h6, h7⟩, Fr.b0 h2, HS.out w'' (h.2.2.2.2.trans (Fr.b0 h2) (fun _ h => h.elim))⟩
 have HA : Hid (∀ w', (w'.cell? ⟨w2.heap.size, 0, none⟩ = some (.int .i64 257) ∧ w'.cell? ⟨w2.heap.size, 1, none⟩ = some (.string webN) ∧ w'.cell? ⟨w2.heap.size, 2, none⟩ = some (.slice A2 2 c2) ∧ w'.cell? ⟨w2.heap.size, 3, none⟩ = some (.slice B2 0 d2) ∧ Fr (fun _ => False) W1 w') → ∀ o, ((w'.alloc o).cell? ⟨w2.heap.size, 0, none⟩ = some (.int .i64 257) ∧ (w'.alloc o).cell? ⟨w2.heap.size, 1, none⟩ = some (.string webN) ∧ (w'.alloc o).cell? ⟨w2.heap.size, 2, none⟩ = some (.slice A2 2 c2) ∧ (w'.alloc o).cell? ⟨w2.heap.size, 3, none⟩ = some (.slice B2 0 d2) ∧ Fr (fun _ => False) W1 (w'.alloc o))) :=
  fun w' h o => HS.out _ (h.2.2.2.2.alloc o)
 have S0 := Lib.hid (HS.out W1.drew ((Fr.refl _ W1).drew))
 have Hb := Lib.hid hb
 clear hW1 hb c0 c1 c2' c3 HW HX HM
 go_cut [2, 3] (fun s2 s3 wx => ∃ (g : Nat) (At : Option Addr) (ct : Nat) (S : Addr) (cs : Nat), s2 = .pointer (some ⟨g, 0, none⟩) ∧ s3 = .int .i64 0 ∧ Blk wx g 76 #[.string fifN, .slice At 2 ct, .slice (some S) 2 cs] ∧ Rd wx 4 At 2 (tcells fifT) ∧ Rd wx 1 (some S) 2 (ints [0, 1]) ∧ Fr (fun _ => False) W1 wx)
 case first =>
  go_region_held3 (fun w' => w'.cell? ⟨w2.heap.size, 0, none⟩ = some (.int .i64 257) ∧ w'.cell? ⟨w2.heap.size, 1, none⟩ = some (.string webN) ∧ w'.cell? ⟨w2.heap.size, 2, none⟩ = some (.slice A2 2 c2) ∧ w'.cell? ⟨w2.heap.size, 3, none⟩ = some (.slice B2 0 d2) ∧ Fr (fun _ => False) W1 w') (first | exact S0.out | assumption | exact HA.out _ (by assumption) _ | exact HS.out _ (((hS7.2.2.2.2.setCell (.inr (by show W1.heap.size ≤ _; first | exact Nat.le_refl _ | omega)) _).setCell (.inr (by show W1.heap.size ≤ _; first | exact Nat.le_refl _ | omega)) _).setCell (.inr (by show W1.heap.size ≤ _; first | exact Nat.le_refl _ | omega)) _)) (first | (go_at_call 39; refine (HW2.out _ (by first | exact S0.out | assumption)).mono ?_; rintro r w5 ⟨⟨⟨A5, c5, rfl, hc5, r5⟩, f5⟩, hS5⟩; have z5 := f5.size; (try simp at z5); have y5 := hS5.2.2.2.2.size) | (go_at_call 112; refine (HX2.out _ (by first | exact S0.out | assumption)).mono ?_; rintro r w6 ⟨⟨⟨A6, c6, rfl, hc6, r6⟩, f6⟩, hS6⟩; have z6 := f6.size; (try simp at z6); have y6 := hS6.2.2.2.2.size) | (go_at_call 33; refine (HM2.out _ _ _ _ _ (by assumption) (by first | exact r5.fr0 f6 | exact (r5.alloc _).fr0 f6 | exact (r5.fr0 f6).alloc _) hc5 (by first | exact r6 | exact r6.alloc _) hc6).mono ?_; rintro r w7 ⟨⟨A7, c7, S7, cs7, rfl, r7, s7, n7, m7⟩, f7, hS7⟩; have z7 := f7.size; (try simp at z7); have y7 := hS7.2.2.2.2.size; (try (have B7 : Blk w7 _ 76 #[.string { data := #[] }, .slice none 0 0, .slice none 0 0] := (by first | exact (Blk.new w6 _ _).fr f7 (fun h => h) | exact ((Blk.new w5 _ _).fr f6 (fun h => h)).fr f7 (fun h => h) | exact ((((Blk.new W1 _ _).drew).fr f5 (fun h => h)).fr f6 (fun h => h)).fr f7 (fun h => h) | exact (((Blk.new W1.drew _ _).fr f5 (fun h => h)).fr f6 (fun h => h)).fr f7 (fun h => h)); have e0 := B7.cell 0; have e1 := B7.cell 1; have e2 := B7.cell 2; have g0 := B7.frozen 0; have g1 := B7.frozen 1; have g2 := B7.frozen 2; simp only [List.getElem?_toArray, List.getElem?_cons_succ, List.getElem?_cons_zero] at e0 e1 e2; have B7' := Lib.hid B7; clear B7))))
  all_goals go_wp2_with fail
  all_goals go_meet
  all_goals first
   | exact ⟨w7.heap.size, A7, c7, S7, cs7, rfl, rfl, Blk.new _ _ _, r7.alloc _, s7.alloc _, hS7.2.2.2.2.alloc _⟩
   | exact ⟨_, A7, c7, S7, cs7, rfl, rfl, B7'.out.set3, r7.fr ((Fr.refl (fun k => k = _) w7).set3 (.inl rfl) _ _ _) (fun k hk hg => by have := n7 k hk; (try simp at this); omega), s7.fr ((Fr.refl (fun k => k = _) w7).set3 (.inl rfl) _ _ _) (fun k hk hg => by have := m7 k hk; (try simp at this); omega), hS7.2.2.2.2.set3 (.inr (by first | exact Nat.le_refl _ | omega)) _ _ _⟩
 case rest =>
  obtain ⟨g, At, ct, S, cs, rfl, rfl, hbp, hrt, hrs, hfr⟩ := hcut
  have O4 := Lib.hid (O3.out.skip hfr)
  have R4 := Lib.hid hrt
  have RS := Lib.hid hrs
  have BP := Lib.hid hbp
  have Hfr := Lib.hid hfr
  have s0 := (hrs.2 (by decide))
  obtain ⟨_, e, hc⟩ := s0
  injection e with e
  subst e
  have s0 := hc 0 _ rfl
  have s1 := hc 1 _ rfl
  have s0' : wc.cell? S = some (.int .i64 0) := by have := s0; simp only [Addr.add, if_true] at this; exact this
  have s1' : wc.cell? ⟨S.block, S.off + 1, none⟩ = some (.int .i64 1) := by have := s1; rw [add_pos _ _ (by decide)] at this; exact this
  have e0 := hbp.cell 0
  have e1 := hbp.cell 1
  have e2 := hbp.cell 2
  simp only [List.getElem?_toArray, List.getElem?_cons_succ, List.getElem?_cons_zero] at e0 e1 e2
  clear hbp hrt hrs hfr hc S0 HA HM2 HX2 HW2 HS
  go_wp2_with fail
  have HT := Lib.hid (steps_any fifN fifT At 2 ct (some S) 2 cs wc R4.out (by decide) sh_fif)
  rw [fif_steps] at HT
  unfold planV at HT
  refine (HT.out).mono ?_
  rintro r w8 ⟨rfl, b8⟩
  have O5 := Lib.hid (O4.out.below b8)
  have R5 := Lib.hid (R4.out.below b8)
  have RS5 := Lib.hid (RS.out.below b8)
  have BP5 := Lib.hid (BP.out.below b8)
  have f5 := Lib.hid (Hfr.out.trans (Fr.b0 b8) (fun _ h => h.elim))
  clear HT b8 e0 e1 e2 s0 s1 s0' s1'
  have e0 := BP5.out.cell 0
  have e1 := BP5.out.cell 1
  have e2 := BP5.out.cell 2
  simp only [List.getElem?_toArray, List.getElem?_cons_succ, List.getElem?_cons_zero] at e0 e1 e2
  have HT := Lib.hid (at_any fifN fifT At 2 ct (some S) 2 cs 1 (by unfold i64; decide) w8 R5.out (by decide) sh_fif)
  rw [fif_at] at HT
  unfold planV stepVal at HT
  go_wp2_with fail
  refine (HT.out).mono ?_
  rintro r w9 ⟨rfl, b9⟩
  have O6 := Lib.hid (O5.out.below b9)
  have R6 := Lib.hid ((R5.out.below b9).alloc (.cells #[.int .i64 1, .int .i64 1, .int .i64 0] 150))
  have RS6 := Lib.hid ((RS5.out.below b9).alloc (.cells #[.int .i64 1, .int .i64 1, .int .i64 0] 150))
  have BP6 := Lib.hid ((BP5.out.below b9).alloc (.cells #[.int .i64 1, .int .i64 1, .int .i64 0] 150))
  have f6 := Lib.hid (f5.out.trans ((Fr.b0 b9).alloc (.cells #[.int .i64 1, .int .i64 1, .int .i64 0] 150)) (fun _ h => h.elim))
  clear HT b9 e0 e1 e2
  have e0 := BP6.out.cell 0
  have e1 := BP6.out.cell 1
  have e2 := BP6.out.cell 2
  have BR := Hb.out.fr f6.out (fun h => h)
  have c0 := BR.cell 0
  have c1 := BR.cell 1
  have c2' := BR.cell 2
  have c3 := BR.cell 3
  have d0 := cell_head
  simp only [List.getElem?_toArray, List.getElem?_cons_succ, List.getElem?_cons_zero] at e0 e1 e2 c0 c1 c2' c3
  clear BR
  go_wp2_with fail
  have HT := Lib.hid (bases_any fifN fifT At 2 ct [0, 1] (some S) cs 257 (by unfold i64; decide) webN webT A2 2 c2 [] B2 0 d2 _ R6.out RS6.out (R3.out.fr0 f6.out) (F3.out.fr0 f6.out) wf_fif wf_web (by simp) (by decide) (by decide))
  rw [fif_bases] at HT
  unfold planV reachV at HT
  refine (HT.out).mono ?_
  rintro r w10 ⟨⟨Ab, cb, rfl, hcb, rb, nb⟩, b10⟩
  have O7 := Lib.hid ((O6.out.skip (Fr.none_alloc _ (.cells #[.int .i64 1, .int .i64 1, .int .i64 0] 150))).below b10)
  have R7 := Lib.hid (R6.out.below b10)
  have BP7 := Lib.hid (BP6.out.below b10)
  have BS7 := (Blk.new w9 150 #[.int .i64 1, .int .i64 1, .int .i64 0]).below b10
  obtain ⟨ad, rfl, hc⟩ := rb.2 (by decide)
  have s0 := hc 0 _ rfl
  have s1 := hc 1 _ rfl
  have s0' : w10.cell? ad = some (.int .i64 150) := by have := s0; simp only [Addr.add, if_true] at this; exact this
  have s1' : w10.cell? ⟨ad.block, ad.off + 1, none⟩ = some (.int .i64 0) := by have := s1; rw [add_pos _ _ (by decide)] at this; exact this
  clear HT b10 e0 e1 e2 c0 c1 c2' c3 d0 rb nb hc s0 s1
  have e0 := BP7.out.cell 0
  have e1 := BP7.out.cell 1
  have e2 := BP7.out.cell 2
  have d0 := BS7.cell 0
  have d1 := BS7.cell 1
  have d2' := BS7.cell 2
  simp only [List.getElem?_toArray, List.getElem?_cons_succ, List.getElem?_cons_zero] at e0 e1 e2 d0 d1 d2'
  have HT := Lib.hid (bound_any fifN fifT At 2 ct (some S) 2 cs 5 (by decide) (by decide) w10 R7.out (by decide) sh_fif)
  rw [fif_fills] at HT
  unfold planV at HT
  clear BS7
  go_wp2_with fail
  refine (HT.out).mono ?_
  rintro r w11 ⟨rfl, b11⟩
  have O8 := Lib.hid (O7.out.below b11)
  clear HT b11 e0 e1 e2 d0 d1 d2' s0' s1'
  go_wp2_with fail
  go_ret
  exact ⟨rfl, O8.out.bel⟩
end Go.Proofs.YtbblmmneeafhgaaGreat
