/- Walk of shadow: Begin. -/
import Derived.Test.YtfhhepfkjndkgaaGreatShResume
import Derived.Test.YtfhhepfkjndkgaaGreatTioR
import Derived.Test.YtfhhepfkjndkgaaGreatTk
namespace Go.Proofs.YtfhhepfkjndkgaaGreat
set_option linter.all false
open Go.RowKit

theorem ShIn.down {w : World} {t base b : Nat} {X : ShX} {A B T : Option Addr} {c d ct : Nat} {tb : List (Nat × Nat)} (h : ShIn w t base X A c B d T ct tb) (hb : b ≤ base) : ShIn w t b X A c B d T ct tb :=
  ⟨h.blk, own_le h.tiers hb, own_le h.srcs hb, own_le h.row hb, h.tlen, h.tab, h.nodup, fun p hp => ⟨Nat.le_trans hb (h.ge p hp).1, Nat.le_trans hb (h.ge p hp).2⟩, Nat.le_trans hb h.tge⟩
theorem ShAt.down {w : World} {t base b : Nat} {X : ShX} (h : ShAt w t base X) (hb : b ≤ base) : ShAt w t b X := by
  obtain ⟨A, c, B, d, T, ct, tb, hi⟩ := h
  exact ⟨A, c, B, d, T, ct, tb, hi.down hb⟩
theorem ShOn.down {w : World} {t base b : Nat} {X : ShX} {F : Nat → Prop} (h : ShOn w t base X F) (hb : b ≤ base) : ShOn w t b X F := by
  obtain ⟨A, c, B, d, T, ct, tb, hi, e⟩ := h
  exact ⟨A, c, B, d, T, ct, tb, hi.down hb, e⟩
theorem sum_le_mul {L : List Nat} {k : Nat} (h : ∀ x ∈ L, x ≤ k) : L.sum ≤ L.length * k := by
  induction L with
  | nil => simp
  | cons a L ih =>
    have h1 := ih (fun x hx => h x (List.mem_cons_of_mem _ hx))
    have h2 := h a (by simp)
    rw [List.sum_cons, List.length_cons, Nat.succ_mul]
    omega
/-- Tiers of so few records need so few blocks. -/
theorem need_small {nm : ByteArray} {l : List TierV} {fl : List Int} {X : TiersX} {c : Nat} (p : PolOk nm l) (hg : GoodX nm l fl X c) (hc : c ≤ 1000000) : needX X ≤ 1000000000 := by
  unfold needX
  have h := sum_le_mul (L := needsX X) (k := 8 * (1000000 + 2)) (fun x hx => by
    obtain ⟨k, hk⟩ := List.getElem?_of_mem hx
    unfold needsX at hk
    rw [List.getElem?_zipWith_eq_some] at hk
    obtain ⟨a, b, ha, hb, rfl⟩ := hk
    rw [hg.tiers] at ha
    have h8 := (check_mem p.ck (mem_of_get ha)).2.2.2.2.2
    have h9 := needV_le (max a.shards 1) (by omega) b
    have h10 := hg.len b (mem_of_get hb)
    omega)
  have hl : (needsX X).length ≤ 5 := by
    unfold needsX
    rw [List.length_zipWith, hg.tiers]
    have := p.five
    omega
  have : (needsX X).length * (8 * (1000000 + 2)) ≤ 5 * (8 * (1000000 + 2)) := Nat.mul_le_mul_right _ hl
  omega
set_option maxRecDepth 100000 in
set_option maxHeartbeats 8000000 in
theorem begin_tio {nm nm2 : ByteArray} {l lt : List TierV} {fl : List Int} {lo : Nat} {W : World} {t : Nat} {X : TiersX} {F : Nat → Prop} {cc : Nat} (p : PolOk nm l) (hnm : nm.size ≤ maxLen) (hnm2 : nm2.size ≤ maxLen) (h : Tio nm l fl lo W t X F cc) (hc : cc ≤ 1000000) (hfl : ∀ f ∈ fl, 0 ≤ f ∧ f ≤ 2199023255552) (A2 : Option Addr) (cc2 : Nat) (ht2 : Rd W 4 A2 lt.length (tcells lt)) (hnc2 : lt.length ≤ cc2) (hwf2 : ∀ t ∈ lt, t.wf) :
    Calls Tryz.prog 12 #[.pointer (some ⟨t, 0, none⟩), .agg #[.string nm2, .slice A2 lt.length cc2]] W fun r w' => ((checkB nm2 lt = true → ∃ s, r = .returned (.tuple #[.pointer (some ⟨s, 0, none⟩), .int .i64 0]) ∧ ShAt w' s W.heap.size ⟨nm2, lt, srcs X.now l fl lt, 2 * ((needX (buildX X nm2 lt (srcs X.now l fl lt)) : Nat) : Int) + fillsV lt, 0, lt.map fun _ => []⟩) ∧ (checkB nm2 lt = false → r = .returned (.tuple #[.pointer none, .int .i64 23]))) ∧ Below W.heap.size W w' := by
  obtain ⟨n, hnl⟩ : ∃ n, l.length = n := ⟨_, rfl⟩
  obtain ⟨mf, hmf⟩ : ∃ m, fl.length = m := ⟨_, rfl⟩
  obtain ⟨n2, hn2⟩ : ∃ m, lt.length = m := ⟨_, rfl⟩
  rw [hn2] at ht2 hnc2 ⊢
  have Hnl := Lib.hid hnl
  have Hmf := Lib.hid hmf
  have Hn2 := Lib.hid hn2
  have hfive := p.five
  obtain ⟨tA, tc, tB, td, hR⟩ := h.reach
  have HR := Lib.hid hR
  have HT := Lib.hid h
  have hX0 : 0 ≤ X.now ∧ X.now ≤ 1099511627776 := h.good.now
  have Ht2 := Lib.hid ht2
  obtain ⟨W0, hW0⟩ : ∃ W0, W0 = W.alloc (.cells #[.string nm2, .slice A2 n2 cc2] 24) := ⟨_, rfl⟩
  have HW0 := Lib.hid hW0
  have F0 : Hid (Fr (fun _ => False) W W0) := by show Fr _ _ _; rw [hW0]; exact Fr.none_alloc _ _
  have B0 : Hid (Blk W0 W.heap.size 24 #[.string nm2, .slice A2 n2 cc2]) := by show Blk _ _ _ _; rw [hW0]; exact Blk.new _ _ _
  have HC0 : Hid (∀ W', Fr (fun _ => False) W0 W' → W'.cell? ⟨W.heap.size, 0, none⟩ = some (.string nm2) ∧ W'.cell? ⟨W.heap.size, 1, none⟩ = some (.slice A2 n2 cc2) ∧ W'.cell? ⟨t, 0, none⟩ = some (.int .i64 X.now) ∧ W'.cell? ⟨t, 1, none⟩ = some (.string nm) ∧ W'.cell? ⟨t, 2, none⟩ = some (.slice tA n tc) ∧ W'.cell? ⟨t, 3, none⟩ = some (.slice tB mf td)) := fun W' f => by
    have b := B0.out.fr f (fun h => h)
    have h := HR.out.fr0 (F0.out.trans f (fun _ h => h.elim))
    have h2 := h.c2
    have h3 := h.c3
    rw [Hnl.out] at h2
    rw [Hmf.out] at h3
    exact ⟨b.cell 0, b.cell 1, h.c0, h.c1, h2, h3⟩
  have HRt : Hid (∀ W', Fr (fun _ => False) W0 W' → Rd W' 4 tA n (tcells l) ∧ Rd W' 1 tB mf (ints fl)) := fun W' f => by
    have h := HR.out.fr0 (F0.out.trans f (fun _ h => h.elim))
    have h1 := h.rt
    have h2 := h.rf
    rw [Hnl.out] at h1
    rw [Hmf.out] at h2
    exact ⟨h1, h2⟩
  have htc : n ≤ tc := by have := hR.le; omega
  obtain ⟨x0, hx0⟩ : ∃ v, X.now = v := ⟨_, rfl⟩
  rw [hx0] at HC0 hX0
  clear hW0 h ht2 hR
  cases hck2 : checkB nm2 lt with
  | false =>
    have HMk : Hid (∀ W', Fr (fun _ => False) W0 W' → Calls Tryz.prog 56 #[.agg #[.string nm, .slice tA n tc], .agg #[.int .i64 x0, .string nm, .slice tA n tc, .slice tB mf td], .agg #[.string nm2, .slice A2 n2 cc2]] W' fun r w' => r = .returned (.tuple #[.agg #[.string ByteArray.empty, .slice none 0 0, .slice none 0 0], .int .i64 23]) ∧ Below W'.heap.size W' w') := fun W' f =>
      make_bad nm l tA n tc x0 nm tA n tc tB mf td nm2 lt A2 n2 cc2 W' (HRt.out W' f).1 htc (Ht2.out.fr0 (F0.out.trans f (fun _ h => h.elim))) hnc2 p.wf hwf2 hnm hnm2 (by rw [hck2, Bool.and_false])
    clear hck2 hx0
    go_enter Tryz.func12, Tryz.ntmps12
    go_wp2_with fail
    rw [← HW0.out]
    go_cut [6, 7] (fun s6 s7 wx => (∃ g, s6 = .pointer (some ⟨g, 0, none⟩)) ∧ s7 = .int .i64 23 ∧ Fr (fun _ => False) W0 wx)
    case first =>
      refine wp_region_held_drew (S := fun W => Fr (fun _ => False) W0 W) (by kernel_rfl) ((Fr.refl _ W0).drew) (fun hHeld => ?_)
      refine tk 0 ⟨some 12, .move (.tmp 0), 34, _, _, none⟩ ?vq1 rfl (by kernel_rfl) (.inl ⟨by rfl, ?hq1⟩) ?rq1
      case hq1 => intro W hSw; go_simp; (try with_reducible rfl)
      try simp only [Act.put, List.setIfInBounds_toArray, List.set_cons_zero, List.set_cons_succ]
      refine tk 1 ⟨some 13, .nilCheck (.tmp 12), 0, _, _, none⟩ ?vq2 rfl (by kernel_rfl) (.inl ⟨by rfl, ?hq2⟩) ?rq2
      case hq2 => intro W hSw; go_simp; (try with_reducible rfl)
      try simp only [Act.put, List.setIfInBounds_toArray, List.set_cons_zero, List.set_cons_succ]
      refine tk 2 ⟨some 14, .fieldAddr 59 (.tmp 13) 0, 0, _, _, none⟩ ?vq3 rfl (by kernel_rfl) (.inl ⟨by rfl, ?hq3⟩) ?rq3
      case hq3 => intro W hSw; go_simp; (try with_reducible rfl)
      try simp only [Act.put, List.setIfInBounds_toArray, List.set_cons_zero, List.set_cons_succ]
      refine tk 3 ⟨some 15, .fieldAddr 57 (.tmp 14) 1, 0, _, _, none⟩ ?vq4 rfl (by kernel_rfl) (.inl ⟨by rfl, ?hq4⟩) ?rq4
      case hq4 => intro W hSw; go_simp; (try with_reducible rfl)
      try simp only [Act.put, List.setIfInBounds_toArray, List.set_cons_zero, List.set_cons_succ]
      refine tk 4 ⟨some 16, .load 24 (.tmp 15), 24, _, _, none⟩ ?vq5 rfl (by kernel_rfl) (.inl ⟨by rfl, ?hq5⟩) ?rq5
      case hq5 => intro W hSw; (try obtain ⟨p0, p1, t0, t1, t2, t3⟩ := HC0.out W hSw); go_simp; (try with_reducible rfl)
      try simp only [Act.put, List.setIfInBounds_toArray, List.set_cons_zero, List.set_cons_succ]
      refine tk 5 ⟨some 17, .move (.tmp 0), 34, _, _, none⟩ ?vq6 rfl (by kernel_rfl) (.inl ⟨by rfl, ?hq6⟩) ?rq6
      case hq6 => intro W hSw; go_simp; (try with_reducible rfl)
      try simp only [Act.put, List.setIfInBounds_toArray, List.set_cons_zero, List.set_cons_succ]
      refine tk 6 ⟨some 18, .nilCheck (.tmp 17), 0, _, _, none⟩ ?vq7 rfl (by kernel_rfl) (.inl ⟨by rfl, ?hq7⟩) ?rq7
      case hq7 => intro W hSw; go_simp; (try with_reducible rfl)
      try simp only [Act.put, List.setIfInBounds_toArray, List.set_cons_zero, List.set_cons_succ]
      refine tk 7 ⟨some 19, .fieldAddr 59 (.tmp 18) 0, 0, _, _, none⟩ ?vq8 rfl (by kernel_rfl) (.inl ⟨by rfl, ?hq8⟩) ?rq8
      case hq8 => intro W hSw; go_simp; (try with_reducible rfl)
      try simp only [Act.put, List.setIfInBounds_toArray, List.set_cons_zero, List.set_cons_succ]
      refine tk 8 ⟨some 20, .load 57 (.tmp 19), 57, _, _, none⟩ ?vq9 rfl (by kernel_rfl) (.inl ⟨by rfl, ?hq9⟩) ?rq9
      case hq9 => intro W hSw; (try obtain ⟨p0, p1, t0, t1, t2, t3⟩ := HC0.out W hSw); go_simp; (try with_reducible rfl)
      try simp only [Act.put, List.setIfInBounds_toArray, List.set_cons_zero, List.set_cons_succ]
      refine tk 9 ⟨some 21, .load 24 (.tmp 3), 24, _, _, none⟩ ?vq10 rfl (by kernel_rfl) (.inl ⟨by rfl, ?hq10⟩) ?rq10
      case hq10 => intro W hSw; (try obtain ⟨p0, p1, t0, t1, t2, t3⟩ := HC0.out W hSw); go_simp; (try with_reducible rfl)
      try simp only [Act.put, List.setIfInBounds_toArray, List.set_cons_zero, List.set_cons_succ]
      refine wpAnyH_ready (rs := [10, 14]) (by kernel_rfl) (by simp) ?_
      refine AllReadyH.cons (o := ⟨some 22, .call ⟨.value (.func 56), #[.tmp 16, .tmp 20, .tmp 21], #[24, 57, 24]⟩, 127, _, _, none⟩) rfl (fun K hK => ?_) ?_
      · go_simp
        go_wp2_with (first | (go_at_call 56; refine (HMk.out _ hHeld).mono ?_; rintro r wm ⟨rfl, b5⟩))
        refine hK.out _ _ (hHeld.trans (Fr.b0 b5) (fun _ h => h.elim)) (fun hHeld => ?_)
        clear hK K
        try simp only [Act.put, List.setIfInBounds_toArray, List.set_cons_zero, List.set_cons_succ]
        refine tk 11 ⟨some 11, .move (.tmp 22), 127, _, _, none⟩ ?vq11 rfl (by kernel_rfl) (.inl ⟨by rfl, ?hq11⟩) ?rq11
        case hq11 => intro W hSw; go_simp; (try with_reducible rfl)
        try simp only [Act.put, List.setIfInBounds_toArray, List.set_cons_zero, List.set_cons_succ]
        refine tk 12 ⟨some 23, .extract (.tmp 11) 0, 45, _, _, none⟩ ?vq12 rfl (by kernel_rfl) (.inl ⟨by rfl, ?hq12⟩) ?rq12
        case hq12 => intro W hSw; (try obtain ⟨p0, p1, t0, t1, t2, t3⟩ := HC0.out W hSw); go_simp; (try with_reducible rfl)
        try simp only [Act.put, List.setIfInBounds_toArray, List.set_cons_zero, List.set_cons_succ]
        refine tk 13 ⟨some 24, .extract (.tmp 11) 1, 39, _, _, none⟩ ?vq13 rfl (by kernel_rfl) (.inl ⟨by rfl, ?hq13⟩) ?rq13
        case hq13 => intro W hSw; (try obtain ⟨p0, p1, t0, t1, t2, t3⟩ := HC0.out W hSw); go_simp; (try with_reducible rfl)
        try simp only [Act.put, List.setIfInBounds_toArray, List.set_cons_zero, List.set_cons_succ]
        refine wpAnyH_ready (rs := [14]) (by kernel_rfl) (by simp) ?_
        refine AllReadyH.cons (o := ⟨some 6, .alloc 45, 0, _, _, none⟩) rfl (fun K hK => ?_) AllReadyH.nil
        go_simp
        have hHm := hHeld
        refine hK.out _ _ (hHm.trans (Fr.none_alloc _ _) (fun _ h => h.elim)) (fun hHeld => ?_)
        clear hK K
        try simp only [Act.put, List.setIfInBounds_toArray, List.set_cons_zero, List.set_cons_succ]
        refine wpAnyH_ready (rs := [15]) (by kernel_rfl) (by simp) ?_
        refine AllReadyH.cons (o := ⟨none, .store 45 (.tmp 6) (.tmp 23), 0, _, _, none⟩) rfl (fun K hK => ?_) AllReadyH.nil
        go_simp
        refine hK.out _ _ (hHm.trans (Fr.none_alloc _ _) (fun _ h => h.elim)) (fun hHeld => ?_)
        clear hK K
        try simp only [Act.put, List.setIfInBounds_toArray, List.set_cons_zero, List.set_cons_succ]
        refine tk 16 ⟨some 7, .assign (.tmp 24), 39, _, _, none⟩ ?vq14 rfl (by kernel_rfl) (.inl ⟨by rfl, ?hq14⟩) ?rq14
        case hq14 => intro W hSw; (try obtain ⟨p0, p1, t0, t1, t2, t3⟩ := HC0.out W hSw); go_simp; (try with_reducible rfl)
        try simp only [Act.put, List.setIfInBounds_toArray, List.set_cons_zero, List.set_cons_succ]
        refine wpAnyH_done (by kernel_rfl) ?_ _
        go_wp2_with fail
        go_meet
        exact ⟨⟨_, rfl⟩, rfl, hHeld⟩
      refine AllReadyH.cons (o := ⟨some 6, .alloc 45, 0, _, _, none⟩) rfl (fun K hK => ?_) AllReadyH.nil
      go_simp
      have BPz := Lib.hid (Blk.new W0 45 #[.string ByteArray.empty, .slice none 0 0, .slice none 0 0]).drew
      refine hK.out _ _ (by first | exact ((Fr.refl _ W0).alloc _).drew | exact hHeld.alloc _) (fun hHeld => ?_)
      clear hK K
      try simp only [Act.put, List.setIfInBounds_toArray, List.set_cons_zero, List.set_cons_succ]
      refine wpAnyH_ready (rs := [10]) (by kernel_rfl) (by simp) ?_
      refine AllReadyH.cons (o := ⟨some 22, .call ⟨.value (.func 56), #[.tmp 16, .tmp 20, .tmp 21], #[24, 57, 24]⟩, 127, _, _, none⟩) rfl (fun K hK => ?_) AllReadyH.nil
      go_simp
      go_wp2_with (first | (go_at_call 56; refine (HMk.out _ hHeld).mono ?_; rintro r wm ⟨rfl, b5⟩))
      have BPm := Lib.hid (BPz.out.below b5)
      have g0 := BPm.out.frozen 0
      have g1 := BPm.out.frozen 1
      have g2 := BPm.out.frozen 2
      have q0 := BPm.out.cell 0
      have q1 := BPm.out.cell 1
      have q2 := BPm.out.cell 2
      simp only [List.getElem?_toArray, List.getElem?_cons_succ, List.getElem?_cons_zero] at q0 q1 q2
      refine hK.out _ _ (hHeld.trans (Fr.b0 b5) (fun _ h => h.elim)) (fun hHeld => ?_)
      clear hK K
      try simp only [Act.put, List.setIfInBounds_toArray, List.set_cons_zero, List.set_cons_succ]
      refine tk 11 ⟨some 11, .move (.tmp 22), 127, _, _, none⟩ ?vq15 rfl (by kernel_rfl) (.inl ⟨by rfl, ?hq15⟩) ?rq15
      case hq15 => intro W hSw; go_simp; (try with_reducible rfl)
      try simp only [Act.put, List.setIfInBounds_toArray, List.set_cons_zero, List.set_cons_succ]
      refine tk 12 ⟨some 23, .extract (.tmp 11) 0, 45, _, _, none⟩ ?vq16 rfl (by kernel_rfl) (.inl ⟨by rfl, ?hq16⟩) ?rq16
      case hq16 => intro W hSw; (try obtain ⟨p0, p1, t0, t1, t2, t3⟩ := HC0.out W hSw); go_simp; (try with_reducible rfl)
      try simp only [Act.put, List.setIfInBounds_toArray, List.set_cons_zero, List.set_cons_succ]
      refine tk 13 ⟨some 24, .extract (.tmp 11) 1, 39, _, _, none⟩ ?vq17 rfl (by kernel_rfl) (.inl ⟨by rfl, ?hq17⟩) ?rq17
      case hq17 => intro W hSw; (try obtain ⟨p0, p1, t0, t1, t2, t3⟩ := HC0.out W hSw); go_simp; (try with_reducible rfl)
      try simp only [Act.put, List.setIfInBounds_toArray, List.set_cons_zero, List.set_cons_succ]
      refine wpAnyH_ready (rs := [15]) (by kernel_rfl) (by simp) ?_
      refine AllReadyH.cons (o := ⟨none, .store 45 (.tmp 6) (.tmp 23), 0, _, _, none⟩) rfl (fun K hK => ?_) AllReadyH.nil
      go_simp
      refine hK.out _ _ (hHeld.set3 (.inr (Nat.le_refl _)) _ _ _) (fun hHeld => ?_)
      clear hK K
      try simp only [Act.put, List.setIfInBounds_toArray, List.set_cons_zero, List.set_cons_succ]
      refine tk 16 ⟨some 7, .assign (.tmp 24), 39, _, _, none⟩ ?vq18 rfl (by kernel_rfl) (.inl ⟨by rfl, ?hq18⟩) ?rq18
      case hq18 => intro W hSw; (try obtain ⟨p0, p1, t0, t1, t2, t3⟩ := HC0.out W hSw); go_simp; (try with_reducible rfl)
      try simp only [Act.put, List.setIfInBounds_toArray, List.set_cons_zero, List.set_cons_succ]
      refine wpAnyH_done (by kernel_rfl) ?_ _
      go_wp2_with fail
      go_meet
      exact ⟨⟨_, rfl⟩, rfl, hHeld⟩
    case rest =>
      obtain ⟨⟨pg, rfl⟩, rfl, hf5⟩ := hcut
      have F5 := Lib.hid hf5
      clear hf5
      go_wp2_with fail
      go_ret2
      exact ⟨⟨fun h => absurd h (by simp), fun _ => rfl⟩, (F0.out.trans F5.out (fun _ h => h.elim)).below (fun _ h => h.elim)⟩
  | true =>
  have P2 := Lib.hid (show PolOk nm2 lt from ⟨hck2, hwf2⟩)
  have hfive2 := P2.out.five
  have HMk : Hid (∀ W', Fr (fun _ => False) W0 W' → Calls Tryz.prog 56 #[.agg #[.string nm, .slice tA n tc], .agg #[.int .i64 x0, .string nm, .slice tA n tc, .slice tB mf td], .agg #[.string nm2, .slice A2 n2 cc2]] W' fun r w' => (∃ A' c' S cs, r = .returned (.tuple #[.agg #[.string nm2, .slice A' n2 c', .slice S n2 cs], .int .i64 0]) ∧ n2 ≤ c' ∧ ∀ wx, Fr (fun k => k < W'.heap.size) w' wx → Rd wx 4 A' n2 (tcells lt) ∧ Rd wx 1 S n2 (ints (srcs x0 l fl lt))) ∧ Below W'.heap.size W' w') := fun W' f => by
    have h0 : 0 ≤ X.now ∧ X.now ≤ 1099511627776 := by rw [hx0]; exact hX0
    have := tio_make p P2.out hnm hnm2 (HR.out.fr0 (F0.out.trans f (fun _ h => h.elim))) h0 tA tc (HR.out.fr0 (F0.out.trans f (fun _ h => h.elim))).rt (by rw [hnl]; exact htc) A2 cc2 (by rw [hn2]; exact Ht2.out.fr0 (F0.out.trans f (fun _ h => h.elim))) (by rw [hn2]; exact hnc2)
    rw [hnl, hmf, hn2, hx0] at this
    exact this
  have HBu : Hid (∀ W' A' c' S cs, Fr (fun _ => False) W0 W' → n2 ≤ c' → Rd W' 4 A' n2 (tcells lt) → Rd W' 1 S n2 (ints (srcs x0 l fl lt)) → Calls Tryz.prog 15 #[.agg #[.string nm2, .slice A' n2 c', .slice S n2 cs], .pointer (some ⟨t, 0, none⟩)] W' fun r w' => (∃ t' F', r = .returned (.tuple #[.pointer (some ⟨t', 0, none⟩), .int .i64 0]) ∧ Tio nm2 lt (basesV X.now l fl (srcs X.now l fl lt) lt) W.heap.size w' t' (buildX X nm2 lt (srcs X.now l fl lt)) F' cc ∧ ∀ j, F' j → W'.heap.size ≤ j) ∧ Below W'.heap.size W' w') := fun W' A' c' S cs f hc' h1 h2 => by
    rw [← hx0] at h2
    exact tio_build p P2.out hnm2 (HT.out.fr0 (F0.out.trans f (fun _ h => h.elim))) hc hfl A' n2 c' S cs h1 hc' h2 W.heap.size (F0.out.trans f (fun _ h => h.elim)).size
  obtain ⟨bs, hbs⟩ : ∃ v, basesV X.now l fl (srcs X.now l fl lt) lt = v := ⟨_, rfl⟩
  obtain ⟨Y, hY⟩ : ∃ v, buildX X nm2 lt (srcs X.now l fl lt) = v := ⟨_, rfl⟩
  obtain ⟨ss, hss⟩ : ∃ v, srcs X.now l fl lt = v := ⟨_, rfl⟩
  have hss2 : srcs x0 l fl lt = ss := by rw [← hss, hx0]
  rw [hbs, hY] at HBu
  rw [hss2] at HBu HMk
  rw [hY, hss]
  have HNe : Hid (∀ W' (u : Nat) (F' : Nat → Prop), Tio nm2 lt bs W.heap.size W' u Y F' cc → Calls Tryz.prog 35 #[.pointer (some ⟨u, 0, none⟩)] W' fun r w' => r = .returned (.int .i64 (needX Y : Nat)) ∧ Below W'.heap.size W' w') := fun W' u F' hT => tio_need P2.out hT hc
  have hne0 : needX Y ≤ 1000000000 := by
    rw [← hY]
    exact need_small P2.out (build_goodX p.ck HT.out.good hfl P2.out.ck) hc
  obtain ⟨N, hN⟩ : ∃ v, needX Y = v := ⟨_, rfl⟩
  rw [hN] at HNe hne0 ⊢
  have h8 : ∀ t ∈ lt, t.shards ≤ 8 := fun t ht => (check_mem P2.out.ck ht).2.2.2.2.2
  have h1s : ∀ t ∈ lt, 0 ≤ t.shards := fun t ht => by have := check_mem P2.out.ck ht; omega
  have hfi := fillsV_in h8
  have HBo : Hid (∀ W' A' c' S cs, Rd W' 4 A' n2 (tcells lt) → Calls Tryz.prog 57 #[.agg #[.string nm2, .slice A' n2 c', .slice S n2 cs], .int .i64 (N : Nat)] W' fun r w' => r = .returned (.int .i64 (2 * (N : Nat) + fillsV lt)) ∧ Below W'.heap.size W' w') := fun W' A' c' S cs h1 => bound_any nm2 lt A' n2 c' S n2 cs (N : Nat) (by omega) (by omega) W' h1 (by omega) h8
  obtain ⟨bd, hbd⟩ : ∃ v, 2 * ((N : Nat) : Int) + fillsV lt = v := ⟨_, rfl⟩
  rw [hbd] at HBo ⊢
  have hbd0 : 0 ≤ bd := by omega
  have hst : resOk lt bd 0 := by
    have hne : lt ≠ [] := by rintro rfl; have := P2.out.pos; simp at this
    have hst2 : stepsV lt = fillsV lt + 2 := by simp [stepsV, hne]
    unfold resOk
    omega
  have HRe : Hid (∀ W' A' c' S cs, Rd W' 4 A' n2 (tcells lt) → Rd W' 1 S n2 (ints ss) → Calls Tryz.prog 24 #[.agg #[.string nm2, .slice A' n2 c', .slice S n2 cs], .int .i64 bd, .int .i64 0] W' fun r w' => (∃ s, r = .returned (.tuple #[.pointer (some ⟨s, 0, none⟩), .int .i64 0]) ∧ ShAt w' s W'.heap.size ⟨nm2, lt, ss, bd, 0, lt.map fun _ => []⟩) ∧ Below W'.heap.size W' w') := fun W' A' c' S cs h1 h2 => by
    refine (resume_any nm2 lt A' n2 c' ss S n2 cs bd 0 W' h1 (by omega) h8 (fun t ht => (check_mem P2.out.ck ht).1) h2 (by omega)).mono ?_
    rintro r w' ⟨⟨h3, _⟩, hb⟩
    exact ⟨h3 hst, hb⟩
  clear hx0 hbs hss hY hss2 hck2 hN hbd hst
  go_enter Tryz.func12, Tryz.ntmps12
  go_wp2_with fail
  rw [← HW0.out]
  go_cut [6, 7] (fun s6 s7 wx => ∃ (g : Nat) (A' : Option Addr) (c' : Nat) (S : Option Addr) (cs : Nat), s6 = .pointer (some ⟨g, 0, none⟩) ∧ s7 = .int .i64 0 ∧ Blk wx g 45 #[.string nm2, .slice A' n2 c', .slice S n2 cs] ∧ n2 ≤ c' ∧ Rd wx 4 A' n2 (tcells lt) ∧ Rd wx 1 S n2 (ints ss) ∧ Fr (fun _ => False) W0 wx)
  case first =>
    refine wp_region_held_drew (S := fun W => Fr (fun _ => False) W0 W) (by kernel_rfl) ((Fr.refl _ W0).drew) (fun hHeld => ?_)
    refine tk 0 ⟨some 12, .move (.tmp 0), 34, _, _, none⟩ ?vq19 rfl (by kernel_rfl) (.inl ⟨by rfl, ?hq19⟩) ?rq19
    case hq19 => intro W hSw; go_simp; (try with_reducible rfl)
    try simp only [Act.put, List.setIfInBounds_toArray, List.set_cons_zero, List.set_cons_succ]
    refine tk 1 ⟨some 13, .nilCheck (.tmp 12), 0, _, _, none⟩ ?vq20 rfl (by kernel_rfl) (.inl ⟨by rfl, ?hq20⟩) ?rq20
    case hq20 => intro W hSw; go_simp; (try with_reducible rfl)
    try simp only [Act.put, List.setIfInBounds_toArray, List.set_cons_zero, List.set_cons_succ]
    refine tk 2 ⟨some 14, .fieldAddr 59 (.tmp 13) 0, 0, _, _, none⟩ ?vq21 rfl (by kernel_rfl) (.inl ⟨by rfl, ?hq21⟩) ?rq21
    case hq21 => intro W hSw; go_simp; (try with_reducible rfl)
    try simp only [Act.put, List.setIfInBounds_toArray, List.set_cons_zero, List.set_cons_succ]
    refine tk 3 ⟨some 15, .fieldAddr 57 (.tmp 14) 1, 0, _, _, none⟩ ?vq22 rfl (by kernel_rfl) (.inl ⟨by rfl, ?hq22⟩) ?rq22
    case hq22 => intro W hSw; go_simp; (try with_reducible rfl)
    try simp only [Act.put, List.setIfInBounds_toArray, List.set_cons_zero, List.set_cons_succ]
    refine tk 4 ⟨some 16, .load 24 (.tmp 15), 24, _, _, none⟩ ?vq23 rfl (by kernel_rfl) (.inl ⟨by rfl, ?hq23⟩) ?rq23
    case hq23 => intro W hSw; (try obtain ⟨p0, p1, t0, t1, t2, t3⟩ := HC0.out W hSw); go_simp; (try with_reducible rfl)
    try simp only [Act.put, List.setIfInBounds_toArray, List.set_cons_zero, List.set_cons_succ]
    refine tk 5 ⟨some 17, .move (.tmp 0), 34, _, _, none⟩ ?vq24 rfl (by kernel_rfl) (.inl ⟨by rfl, ?hq24⟩) ?rq24
    case hq24 => intro W hSw; go_simp; (try with_reducible rfl)
    try simp only [Act.put, List.setIfInBounds_toArray, List.set_cons_zero, List.set_cons_succ]
    refine tk 6 ⟨some 18, .nilCheck (.tmp 17), 0, _, _, none⟩ ?vq25 rfl (by kernel_rfl) (.inl ⟨by rfl, ?hq25⟩) ?rq25
    case hq25 => intro W hSw; go_simp; (try with_reducible rfl)
    try simp only [Act.put, List.setIfInBounds_toArray, List.set_cons_zero, List.set_cons_succ]
    refine tk 7 ⟨some 19, .fieldAddr 59 (.tmp 18) 0, 0, _, _, none⟩ ?vq26 rfl (by kernel_rfl) (.inl ⟨by rfl, ?hq26⟩) ?rq26
    case hq26 => intro W hSw; go_simp; (try with_reducible rfl)
    try simp only [Act.put, List.setIfInBounds_toArray, List.set_cons_zero, List.set_cons_succ]
    refine tk 8 ⟨some 20, .load 57 (.tmp 19), 57, _, _, none⟩ ?vq27 rfl (by kernel_rfl) (.inl ⟨by rfl, ?hq27⟩) ?rq27
    case hq27 => intro W hSw; (try obtain ⟨p0, p1, t0, t1, t2, t3⟩ := HC0.out W hSw); go_simp; (try with_reducible rfl)
    try simp only [Act.put, List.setIfInBounds_toArray, List.set_cons_zero, List.set_cons_succ]
    refine tk 9 ⟨some 21, .load 24 (.tmp 3), 24, _, _, none⟩ ?vq28 rfl (by kernel_rfl) (.inl ⟨by rfl, ?hq28⟩) ?rq28
    case hq28 => intro W hSw; (try obtain ⟨p0, p1, t0, t1, t2, t3⟩ := HC0.out W hSw); go_simp; (try with_reducible rfl)
    try simp only [Act.put, List.setIfInBounds_toArray, List.set_cons_zero, List.set_cons_succ]
    refine wpAnyH_ready (rs := [10, 14]) (by kernel_rfl) (by simp) ?_
    refine AllReadyH.cons (o := ⟨some 22, .call ⟨.value (.func 56), #[.tmp 16, .tmp 20, .tmp 21], #[24, 57, 24]⟩, 127, _, _, none⟩) rfl (fun K hK => ?_) ?_
    · go_simp
      go_wp2_with (first | (go_at_call 56; refine (HMk.out _ hHeld).mono ?_; rintro r wm ⟨⟨A5, c5, S5, cs5, rfl, hc5, rr5⟩, b5⟩))
      have rr5 := Lib.hid rr5
      refine hK.out _ _ (hHeld.trans (Fr.b0 b5) (fun _ h => h.elim)) (fun hHeld => ?_)
      clear hK K
      try simp only [Act.put, List.setIfInBounds_toArray, List.set_cons_zero, List.set_cons_succ]
      refine tk 11 ⟨some 11, .move (.tmp 22), 127, _, _, none⟩ ?vq29 rfl (by kernel_rfl) (.inl ⟨by rfl, ?hq29⟩) ?rq29
      case hq29 => intro W hSw; go_simp; (try with_reducible rfl)
      try simp only [Act.put, List.setIfInBounds_toArray, List.set_cons_zero, List.set_cons_succ]
      refine tk 12 ⟨some 23, .extract (.tmp 11) 0, 45, _, _, none⟩ ?vq30 rfl (by kernel_rfl) (.inl ⟨by rfl, ?hq30⟩) ?rq30
      case hq30 => intro W hSw; (try obtain ⟨p0, p1, t0, t1, t2, t3⟩ := HC0.out W hSw); go_simp; (try with_reducible rfl)
      try simp only [Act.put, List.setIfInBounds_toArray, List.set_cons_zero, List.set_cons_succ]
      refine tk 13 ⟨some 24, .extract (.tmp 11) 1, 39, _, _, none⟩ ?vq31 rfl (by kernel_rfl) (.inl ⟨by rfl, ?hq31⟩) ?rq31
      case hq31 => intro W hSw; (try obtain ⟨p0, p1, t0, t1, t2, t3⟩ := HC0.out W hSw); go_simp; (try with_reducible rfl)
      try simp only [Act.put, List.setIfInBounds_toArray, List.set_cons_zero, List.set_cons_succ]
      refine wpAnyH_ready (rs := [14]) (by kernel_rfl) (by simp) ?_
      refine AllReadyH.cons (o := ⟨some 6, .alloc 45, 0, _, _, none⟩) rfl (fun K hK => ?_) AllReadyH.nil
      go_simp
      have hHm := hHeld
      refine hK.out _ _ (hHm.trans (Fr.none_alloc _ _) (fun _ h => h.elim)) (fun hHeld => ?_)
      clear hK K
      try simp only [Act.put, List.setIfInBounds_toArray, List.set_cons_zero, List.set_cons_succ]
      refine wpAnyH_ready (rs := [15]) (by kernel_rfl) (by simp) ?_
      refine AllReadyH.cons (o := ⟨none, .store 45 (.tmp 6) (.tmp 23), 0, _, _, none⟩) rfl (fun K hK => ?_) AllReadyH.nil
      go_simp
      refine hK.out _ _ (hHm.trans (Fr.none_alloc _ _) (fun _ h => h.elim)) (fun hHeld => ?_)
      clear hK K
      try simp only [Act.put, List.setIfInBounds_toArray, List.set_cons_zero, List.set_cons_succ]
      refine tk 16 ⟨some 7, .assign (.tmp 24), 39, _, _, none⟩ ?vq32 rfl (by kernel_rfl) (.inl ⟨by rfl, ?hq32⟩) ?rq32
      case hq32 => intro W hSw; (try obtain ⟨p0, p1, t0, t1, t2, t3⟩ := HC0.out W hSw); go_simp; (try with_reducible rfl)
      try simp only [Act.put, List.setIfInBounds_toArray, List.set_cons_zero, List.set_cons_succ]
      refine wpAnyH_done (by kernel_rfl) ?_ _
      go_wp2_with fail
      go_meet
      exact ⟨wm.heap.size, A5, c5, S5, cs5, rfl, rfl, Blk.new _ _ _, hc5, (rr5.out _ ((Fr.none_alloc _ _).mono (fun _ h => h.elim))).1, (rr5.out _ ((Fr.none_alloc _ _).mono (fun _ h => h.elim))).2, hHeld⟩
    refine AllReadyH.cons (o := ⟨some 6, .alloc 45, 0, _, _, none⟩) rfl (fun K hK => ?_) AllReadyH.nil
    go_simp
    have BPz := Lib.hid (Blk.new W0 45 #[.string ByteArray.empty, .slice none 0 0, .slice none 0 0]).drew
    refine hK.out _ _ (by first | exact ((Fr.refl _ W0).alloc _).drew | exact hHeld.alloc _) (fun hHeld => ?_)
    clear hK K
    try simp only [Act.put, List.setIfInBounds_toArray, List.set_cons_zero, List.set_cons_succ]
    refine wpAnyH_ready (rs := [10]) (by kernel_rfl) (by simp) ?_
    refine AllReadyH.cons (o := ⟨some 22, .call ⟨.value (.func 56), #[.tmp 16, .tmp 20, .tmp 21], #[24, 57, 24]⟩, 127, _, _, none⟩) rfl (fun K hK => ?_) AllReadyH.nil
    go_simp
    go_wp2_with (first | (go_at_call 56; refine (HMk.out _ hHeld).mono ?_; rintro r wm ⟨⟨A5, c5, S5, cs5, rfl, hc5, rr5⟩, b5⟩))
    have rr5 := Lib.hid rr5
    have BPm := Lib.hid (BPz.out.below b5)
    have g0 := BPm.out.frozen 0
    have g1 := BPm.out.frozen 1
    have g2 := BPm.out.frozen 2
    have q0 := BPm.out.cell 0
    have q1 := BPm.out.cell 1
    have q2 := BPm.out.cell 2
    simp only [List.getElem?_toArray, List.getElem?_cons_succ, List.getElem?_cons_zero] at q0 q1 q2
    refine hK.out _ _ (hHeld.trans (Fr.b0 b5) (fun _ h => h.elim)) (fun hHeld => ?_)
    clear hK K
    try simp only [Act.put, List.setIfInBounds_toArray, List.set_cons_zero, List.set_cons_succ]
    refine tk 11 ⟨some 11, .move (.tmp 22), 127, _, _, none⟩ ?vq33 rfl (by kernel_rfl) (.inl ⟨by rfl, ?hq33⟩) ?rq33
    case hq33 => intro W hSw; go_simp; (try with_reducible rfl)
    try simp only [Act.put, List.setIfInBounds_toArray, List.set_cons_zero, List.set_cons_succ]
    refine tk 12 ⟨some 23, .extract (.tmp 11) 0, 45, _, _, none⟩ ?vq34 rfl (by kernel_rfl) (.inl ⟨by rfl, ?hq34⟩) ?rq34
    case hq34 => intro W hSw; (try obtain ⟨p0, p1, t0, t1, t2, t3⟩ := HC0.out W hSw); go_simp; (try with_reducible rfl)
    try simp only [Act.put, List.setIfInBounds_toArray, List.set_cons_zero, List.set_cons_succ]
    refine tk 13 ⟨some 24, .extract (.tmp 11) 1, 39, _, _, none⟩ ?vq35 rfl (by kernel_rfl) (.inl ⟨by rfl, ?hq35⟩) ?rq35
    case hq35 => intro W hSw; (try obtain ⟨p0, p1, t0, t1, t2, t3⟩ := HC0.out W hSw); go_simp; (try with_reducible rfl)
    try simp only [Act.put, List.setIfInBounds_toArray, List.set_cons_zero, List.set_cons_succ]
    refine wpAnyH_ready (rs := [15]) (by kernel_rfl) (by simp) ?_
    refine AllReadyH.cons (o := ⟨none, .store 45 (.tmp 6) (.tmp 23), 0, _, _, none⟩) rfl (fun K hK => ?_) AllReadyH.nil
    go_simp
    refine hK.out _ _ (hHeld.set3 (.inr (Nat.le_refl _)) _ _ _) (fun hHeld => ?_)
    clear hK K
    try simp only [Act.put, List.setIfInBounds_toArray, List.set_cons_zero, List.set_cons_succ]
    refine tk 16 ⟨some 7, .assign (.tmp 24), 39, _, _, none⟩ ?vq36 rfl (by kernel_rfl) (.inl ⟨by rfl, ?hq36⟩) ?rq36
    case hq36 => intro W hSw; (try obtain ⟨p0, p1, t0, t1, t2, t3⟩ := HC0.out W hSw); go_simp; (try with_reducible rfl)
    try simp only [Act.put, List.setIfInBounds_toArray, List.set_cons_zero, List.set_cons_succ]
    refine wpAnyH_done (by kernel_rfl) ?_ _
    go_wp2_with fail
    go_meet
    exact ⟨W0.heap.size, A5, c5, S5, cs5, rfl, rfl, BPm.out.set3, hc5, (rr5.out _ ((Fr.refl _ wm).set3 (.inl (by simp)) _ _ _)).1, (rr5.out _ ((Fr.refl _ wm).set3 (.inl (by simp)) _ _ _)).2, hHeld⟩
  case rest =>
    obtain ⟨pg, A5, c5, S5, cs5, rfl, rfl, hb5, hc5, ra5, rs5, hf5⟩ := hcut
    have F5 := Lib.hid hf5
    have B5 := Lib.hid hb5
    have Ra5 := Lib.hid ra5
    have Rs5 := Lib.hid rs5
    have p0 := hb5.cell 0
    have p1 := hb5.cell 1
    have p2 := hb5.cell 2
    simp only [List.getElem?_toArray, List.getElem?_cons_succ, List.getElem?_cons_zero] at p0 p1 p2
    have HB6 := Lib.hid (HBu.out _ A5 c5 S5 cs5 F5.out hc5 ra5 rs5)
    clear hb5 ra5 rs5 hf5 HBu HMk
    go_wp2_with fail
    refine HB6.out.mono ?_
    rintro r w6 ⟨⟨tt, FF, rfl, T6, _⟩, b6⟩
    have F6 : Hid (Fr (fun _ => False) W0 w6) := F5.out.trans (Fr.b0 b6) (fun _ h => h.elim)
    have HNe6 : Hid (∀ W', Fr (fun _ => False) w6 W' → Calls Tryz.prog 35 #[.pointer (some ⟨tt, 0, none⟩)] W' fun r w' => r = .returned (.int .i64 (N : Nat)) ∧ Below W'.heap.size W' w') := fun W' f => HNe.out W' tt FF (T6.fr0 f)
    have HC6 : Hid (∀ W', Fr (fun _ => False) w6 W' → W'.cell? ⟨pg, 0, none⟩ = some (.string nm2) ∧ W'.cell? ⟨pg, 1, none⟩ = some (.slice A5 n2 c5) ∧ W'.cell? ⟨pg, 2, none⟩ = some (.slice S5 n2 cs5)) := fun W' f => by
      have b := (B5.out.below b6).fr f (fun h => h)
      exact ⟨b.cell 0, b.cell 1, b.cell 2⟩
    have HBo6 : Hid (∀ W', Fr (fun _ => False) w6 W' → Calls Tryz.prog 57 #[.agg #[.string nm2, .slice A5 n2 c5, .slice S5 n2 cs5], .int .i64 (N : Nat)] W' fun r w' => r = .returned (.int .i64 bd) ∧ Below W'.heap.size W' w') := fun W' f => HBo.out W' A5 c5 S5 cs5 ((Ra5.out.below b6).fr0 f)
    have HRe6 : Hid (∀ W', Fr (fun _ => False) w6 W' → Calls Tryz.prog 24 #[.agg #[.string nm2, .slice A5 n2 c5, .slice S5 n2 cs5], .int .i64 bd, .int .i64 0] W' fun r w' => (∃ s, r = .returned (.tuple #[.pointer (some ⟨s, 0, none⟩), .int .i64 0]) ∧ ShAt w' s W'.heap.size ⟨nm2, lt, ss, bd, 0, lt.map fun _ => []⟩) ∧ Below W'.heap.size W' w') := fun W' f => HRe.out W' A5 c5 S5 cs5 ((Ra5.out.below b6).fr0 f) ((Rs5.out.below b6).fr0 f)
    clear T6 b6 HNe HBo HRe p0 p1 p2 HB6
    go_wp2_with fail
    refine wp_region_held_drew (S := fun W => Fr (fun _ => False) w6 W) (by kernel_rfl) ((Fr.refl _ w6).drew) (fun hHeld => ?_)
    refine tk 0 ⟨some 37, .load 45 (.tmp 6), 45, _, _, none⟩ ?vq37 rfl (by kernel_rfl) (.inl ⟨by rfl, ?hq37⟩) ?rq37
    case hq37 => intro W hSw; (try obtain ⟨q0, q1, q2⟩ := HC6.out W hSw); go_simp; (try with_reducible rfl)
    try simp only [Act.put, List.setIfInBounds_toArray, List.set_cons_zero, List.set_cons_succ]
    refine tk 1 ⟨some 38, .load 45 (.tmp 6), 45, _, _, none⟩ ?vq38 rfl (by kernel_rfl) (.inl ⟨by rfl, ?hq38⟩) ?rq38
    case hq38 => intro W hSw; (try obtain ⟨q0, q1, q2⟩ := HC6.out W hSw); go_simp; (try with_reducible rfl)
    try simp only [Act.put, List.setIfInBounds_toArray, List.set_cons_zero, List.set_cons_succ]
    refine tk 2 ⟨some 39, .move (.tmp 8), 34, _, _, none⟩ ?vq39 rfl (by kernel_rfl) (.inl ⟨by rfl, ?hq39⟩) ?rq39
    case hq39 => intro W hSw; go_simp; (try with_reducible rfl)
    try simp only [Act.put, List.setIfInBounds_toArray, List.set_cons_zero, List.set_cons_succ]
    refine wpAnyH_ready (rs := [3]) (by kernel_rfl) (by simp) ?_
    refine AllReadyH.cons (o := ⟨some 40, .call ⟨.value (.func 35), #[.tmp 39], #[34]⟩, 3, _, _, none⟩) rfl (fun K hK => ?_) AllReadyH.nil
    go_simp
    go_wp2_with (first | (go_at_call 35; refine (HNe6.out _ hHeld).mono ?_; rintro r wa ⟨rfl, ba⟩))
    refine hK.out _ _ (hHeld.trans (Fr.b0 ba) (fun _ h => h.elim)) (fun hHeld => ?_)
    clear hK K
    try simp only [Act.put, List.setIfInBounds_toArray, List.set_cons_zero, List.set_cons_succ]
    refine wpAnyH_ready (rs := [4]) (by kernel_rfl) (by simp) ?_
    refine AllReadyH.cons (o := ⟨some 41, .call ⟨.value (.func 57), #[.tmp 38, .tmp 40], #[45, 3]⟩, 3, _, _, none⟩) rfl (fun K hK => ?_) AllReadyH.nil
    go_simp
    go_wp2_with (first | (go_at_call 57; refine (HBo6.out _ hHeld).mono ?_; rintro r wb ⟨rfl, bb⟩))
    refine hK.out _ _ (hHeld.trans (Fr.b0 bb) (fun _ h => h.elim)) (fun hHeld => ?_)
    clear hK K
    try simp only [Act.put, List.setIfInBounds_toArray, List.set_cons_zero, List.set_cons_succ]
    refine wpAnyH_ready (rs := [5]) (by kernel_rfl) (by simp) ?_
    refine AllReadyH.cons (o := ⟨some 42, .call ⟨.value (.func 24), #[.tmp 37, .tmp 41, .const (.int .i64 0)], #[45, 3, 3]⟩, 40, _, _, none⟩) rfl (fun K hK => ?_) AllReadyH.nil
    go_simp
    go_wp2_with (first | (go_at_call 24; refine (HRe6.out _ hHeld).mono ?_; rintro r wc ⟨⟨sp, rfl, hs⟩, bc'⟩))
    have Hs := Lib.hid hs
    have hwb := hHeld.size
    refine hK.out _ _ (hHeld.trans (Fr.b0 bc') (fun _ h => h.elim)) (fun hHeld => ?_)
    clear hK K
    try simp only [Act.put, List.setIfInBounds_toArray, List.set_cons_zero, List.set_cons_succ]
    refine tk 6 ⟨some 43, .extract (.tmp 42) 0, 38, _, _, none⟩ ?vq40 rfl (by kernel_rfl) (.inl ⟨by rfl, ?hq40⟩) ?rq40
    case hq40 => intro W hSw; (try obtain ⟨q0, q1, q2⟩ := HC6.out W hSw); go_simp; (try with_reducible rfl)
    try simp only [Act.put, List.setIfInBounds_toArray, List.set_cons_zero, List.set_cons_succ]
    refine tk 7 ⟨some 44, .extract (.tmp 42) 1, 39, _, _, none⟩ ?vq41 rfl (by kernel_rfl) (.inl ⟨by rfl, ?hq41⟩) ?rq41
    case hq41 => intro W hSw; (try obtain ⟨q0, q1, q2⟩ := HC6.out W hSw); go_simp; (try with_reducible rfl)
    try simp only [Act.put, List.setIfInBounds_toArray, List.set_cons_zero, List.set_cons_succ]
    refine tk 8 ⟨some 4, .assign (.tmp 43), 38, _, _, none⟩ ?vq42 rfl (by kernel_rfl) (.inl ⟨by rfl, ?hq42⟩) ?rq42
    case hq42 => intro W hSw; (try obtain ⟨q0, q1, q2⟩ := HC6.out W hSw); go_simp; (try with_reducible rfl)
    try simp only [Act.put, List.setIfInBounds_toArray, List.set_cons_zero, List.set_cons_succ]
    refine tk 9 ⟨some 5, .assign (.tmp 44), 39, _, _, none⟩ ?vq43 rfl (by kernel_rfl) (.inl ⟨by rfl, ?hq43⟩) ?rq43
    case hq43 => intro W hSw; (try obtain ⟨q0, q1, q2⟩ := HC6.out W hSw); go_simp; (try with_reducible rfl)
    try simp only [Act.put, List.setIfInBounds_toArray, List.set_cons_zero, List.set_cons_succ]
    refine wpAnyH_done (by kernel_rfl) ?_ _
    have F7 : Hid (Fr (fun _ => False) W W0) := F0.out
    have Fl : Hid (Fr (fun _ => False) w6 wc) := hHeld
    have hsz : W.heap.size ≤ wb.heap.size := Nat.le_trans (F0.out.trans F6.out (fun _ h => h.elim)).size hwb
    clear hHeld hs bc'
    go_wp2_with fail
    go_ret2
    exact ⟨⟨fun _ => ⟨sp, rfl, Hs.out.down hsz⟩, fun h => absurd h (by simp)⟩, ((F0.out.trans F6.out (fun _ h => h.elim)).trans Fl.out (fun _ h => h.elim)).below (fun _ h => h.elim)⟩
end Go.Proofs.YtfhhepfkjndkgaaGreat
