/- Walk of cat.Put. -/
import Derived.Test.YteajonicnkpbbaaGreatDoorCatA
import Derived.Test.YteajonicnkpbbaaGreatDoorPrint
import Derived.Test.YteajonicnkpbbaaGreatDoorSame
import Derived.Test.YteajonicnkpbbaaGreatDoorTiersP
namespace Go.Proofs.YteajonicnkpbbaaGreatDoor
set_option linter.all false
open Go.RowKit

theorem PS.none {w W : World} {g : Nat} {l : List UInt8} (h : PS w W g (fun k => k < w.heap.size) l) : Fr (fun _ => False) w W := h.fr.mono (fun k hk => .inr (Nat.le_of_not_lt hk))
theorem smB_len (k : Nat) (vs : List Int) : (smB k vs).length = k * vs.length := by
  induction vs with
  | nil => rfl
  | cons v vs ih =>
    unfold smB at ih ⊢
    rw [List.flatMap_cons, List.length_append, le_length, ih, List.length_cons, Nat.mul_add]
    omega
theorem textB_len (s : ByteArray) : (textB s).length = 2 + s.size := by
  unfold textB
  rw [List.length_append, le_length, ba_len]
theorem print_le {nm : ByteArray} {l : List TierV} (h : checkB nm l = true) (hw : ∀ t ∈ l, t.wf) : (printV nm l).size ≤ 1150 := by
  have h1 := print_size h
  have h2 := print_len nm l (fun t ht => ⟨h1.2.2 t ht, hw t ht⟩)
  have h3 : (printV nm l).size = (printL nm l).length := rfl
  omega
theorem cat_facts {c : CatV} (h : catB c = true) : checkB c.nm c.pl = true ∧ c.fl.length ≤ 5 ∧ c.src.length ≤ 5 ∧ (∀ s ∈ c.src, 0 ≤ s ∧ s < 256) ∧ (pendB c = true → checkB c.nm2 c.pl2 = true) ∧ c.es.length ≤ 90 ∧ c.es.all (entryB c.id) = true := by
  unfold catB at h
  simp only [Bool.and_eq_true, decide_eq_true_eq] at h
  obtain ⟨h1, h2, h3, h4, h5, h6⟩ := h
  unfold plainB at h1
  simp only [Bool.and_eq_true, decide_eq_true_eq] at h1
  obtain ⟨⟨g1, g2, g3, g4⟩, g5⟩ := h1
  have hl := check_len g3
  refine ⟨g3, by omega, ?_, ?_, ?_, h3, h4⟩
  · unfold changeB at h2
    split at h2
    · simp only [Bool.and_eq_true, decide_eq_true_eq] at h2
      have := check_len h2.2.1
      omega
    · simp only [Bool.and_eq_true, decide_eq_true_eq] at h2
      omega
  · intro s hs
    unfold changeB at h2
    split at h2
    · simp only [Bool.and_eq_true, decide_eq_true_eq] at h2
      have := List.all_eq_true.1 h2.1 s hs
      unfold inB at this
      simp only [Bool.and_eq_true, decide_eq_true_eq] at this
      omega
    · simp only [Bool.and_eq_true, decide_eq_true_eq] at h2
      have := List.length_eq_zero_iff.1 h2.2.2
      rw [this] at hs
      cases hs
  · intro hp
    unfold changeB at h2
    rw [if_pos hp] at h2
    simp only [Bool.and_eq_true, decide_eq_true_eq] at h2
    exact h2.2.1
theorem ent_facts {cid : Int} {x : EntV} (h : entryB cid x = true) : (0 ≤ x.tier ∧ x.tier < 256) ∧ (0 ≤ x.shard ∧ x.shard < 256) ∧ x.bl.length ≤ 4096 ∧ ∀ v ∈ x.bl, 0 ≤ v ∧ v < 65536 := by
  unfold entryB inB at h
  simp only [Bool.and_eq_true, decide_eq_true_eq, List.all_eq_true] at h
  obtain ⟨h0, ⟨h1, h2, h3⟩, h4, h5, h6, h7⟩ := h
  refine ⟨by omega, by omega, by omega, fun v hv => ?_⟩
  have := h0 v hv
  omega
theorem ents_len9 {cid : Int} {l : List EntV} (h : l.all (entryB cid) = true) : (l.flatMap entH).length ≤ 8300 * l.length := by
  induction l with
  | nil => simp
  | cons x l ih =>
    rw [List.all_cons, Bool.and_eq_true] at h
    have a := ih h.2
    have b := (ent_facts h.1).2.2.1
    rw [List.flatMap_cons, List.length_append, List.length_cons]
    have hx : (entH x).length ≤ 8300 := by
      unfold entH
      rw [List.length_append, List.length_append, List.length_append, smB_len, smB_len, smB_len, smB_len]
      simp only [List.length_cons, List.length_nil]
      omega
    omega
section
variable {w : World} {c : CatV} {a : CatA}
set_option maxRecDepth 100000 in
set_option maxHeartbeats 8000000 in
theorem cput_any (h : CatIn w c a) (hti : Tab w) : Calls Tryz.prog 12 #[.agg #[.int .u64 c.gen, .int .u64 c.id, .int .i64 c.now, .string c.nm, .slice a.pA a.pn a.pc, .slice a.fA a.fn a.fc, .string c.nm2, .slice a.tA a.tn a.tc, .slice a.sA a.sn a.sc, .int .i64 c.bound, .int .i64 c.done, .slice a.eA a.en a.ec]] w fun r w' => r = .returned (.tuple #[.string (putV c).1, .int .i64 (putV c).2]) ∧ Below w.heap.size w w' := by
  obtain ⟨pA, pn, pc, fA, fn, fc, tA, tn, tc, sA, sn, sc, eA, en, ec⟩ := a
  dsimp only
  obtain ⟨W1, hW1⟩ : ∃ W1, W1 = w.alloc (.cells #[.int .u64 c.gen, .int .u64 c.id, .int .i64 c.now, .string c.nm, .slice pA pn pc, .slice fA fn fc, .string c.nm2, .slice tA tn tc, .slice sA sn sc, .int .i64 c.bound, .int .i64 c.done, .slice eA en ec] 29) := ⟨_, rfl⟩
  have HW1 := Lib.hid hW1
  have F1 : Hid (Fr (fun _ => False) w W1) := by show Fr _ _ _; rw [hW1]; exact Fr.none_alloc _ _
  have X1 : Hid (Blk W1 w.heap.size 29 #[.int .u64 c.gen, .int .u64 c.id, .int .i64 c.now, .string c.nm, .slice pA pn pc, .slice fA fn fc, .string c.nm2, .slice tA tn tc, .slice sA sn sc, .int .i64 c.bound, .int .i64 c.done, .slice eA en ec]) := by show Blk _ _ _ _; rw [hW1]; exact Blk.new _ _ _
  have HC : Hid (∀ W, Fr (fun _ => False) W1 W → W.cell? ⟨w.heap.size, 0, none⟩ = some (.int .u64 c.gen) ∧ W.cell? ⟨w.heap.size, 1, none⟩ = some (.int .u64 c.id) ∧ W.cell? ⟨w.heap.size, 2, none⟩ = some (.int .i64 c.now) ∧ W.cell? ⟨w.heap.size, 3, none⟩ = some (.string c.nm) ∧ W.cell? ⟨w.heap.size, 4, none⟩ = some (.slice pA pn pc) ∧ W.cell? ⟨w.heap.size, 5, none⟩ = some (.slice fA fn fc) ∧ W.cell? ⟨w.heap.size, 6, none⟩ = some (.string c.nm2) ∧ W.cell? ⟨w.heap.size, 7, none⟩ = some (.slice tA tn tc) ∧ W.cell? ⟨w.heap.size, 8, none⟩ = some (.slice sA sn sc) ∧ W.cell? ⟨w.heap.size, 9, none⟩ = some (.int .i64 c.bound) ∧ W.cell? ⟨w.heap.size, 10, none⟩ = some (.int .i64 c.done) ∧ W.cell? ⟨w.heap.size, 11, none⟩ = some (.slice eA en ec)) := fun W f => by
    have b := X1.out.fr f (fun h => h)
    exact ⟨b.cell 0, b.cell 1, b.cell 2, b.cell 3, b.cell 4, b.cell 5, b.cell 6, b.cell 7, b.cell 8, b.cell 9, b.cell 10, b.cell 11⟩
  have HV := Lib.hid (cvalid_any (h.fr0 F1.out))
  have HQ := Lib.hid (fun (W : World) (f : Fr (fun _ => False) W1 W) => cpend_any ((h.fr0 F1.out).fr0 f))
  have HIn0 := Lib.hid h
  have HIn : Hid (∀ W, Fr (fun _ => False) w W → CatIn W c ⟨pA, pn, pc, fA, fn, fc, tA, tn, tc, sA, sn, sc, eA, en, ec⟩) := fun W f => h.fr0 f
  have HT : Hid (∀ W, Fr (fun _ => False) W1 W → Tab W) := fun W f => hti.below ((F1.out.trans f (fun _ h => h.elim)).below (fun _ h => h.elim))
  clear hti hW1
  cases e1 : catB c
  · have hr : Hid (putV c = (ByteArray.empty, 1)) := by show _ = _; unfold putV; rw [e1]; rfl
    have H1 := Lib.hid e1
    clear e1 h
    go_enter Tryz.func12, Tryz.ntmps12
    go_upto_region 1 with fail
    rw [← HW1.out]
    obtain ⟨x0, x1, x2, x3, x4, x5, x6, x7, x8, x9, x10, x11⟩ := HC.out _ (Fr.refl _ W1)
    go_wp2_with fail
    refine HV.out.mono ?_
    rw [H1.out]
    rintro r w1 ⟨rfl, b1⟩
    have F2 := Lib.hid (Fr.b0 b1)
    clear b1
    clear x0 x1 x2 x3 x4 x5 x6 x7 x8 x9 x10 x11
    go_wp2_with fail
    go_ret2
    exact ⟨by rw [hr.out]; rfl, (F1.out.trans F2.out (fun _ h => h.elim)).below (fun _ h => h.elim)⟩
  obtain ⟨q1, q2, q3, q4, q5, q6, q7⟩ := cat_facts e1
  have hle : c.es.length = en := h.le
  have hlf : c.fl.length = fn := h.lf
  have hls : c.src.length = sn := h.ls
  have HP1 : Hid (∀ W, Fr (fun _ => False) W1 W → Calls Tryz.prog 39 #[polV c.nm pA pn pc] W fun r w' => r = .returned (.tuple #[.string (printV c.nm c.pl), .int .i64 0]) ∧ Below W.heap.size W w') := fun W f => by
    have := print_any c.nm h.nm c.pl pA pn pc W ((h.rp.fr0 F1.out).fr0 f) h.cp.1 h.wp (HT.out W f)
    rw [q1] at this
    exact this
  have HP2 : Hid (pendB c = true → ∀ W, Fr (fun _ => False) W1 W → Calls Tryz.prog 39 #[polV c.nm2 tA tn tc] W fun r w' => r = .returned (.tuple #[.string (printV c.nm2 c.pl2), .int .i64 0]) ∧ Below W.heap.size W w') := fun hp W f => by
    have := print_any c.nm2 h.nm2 c.pl2 tA tn tc W ((h.rt.fr0 F1.out).fr0 f) h.ct.1 h.wt (HT.out W f)
    rw [q5 hp] at this
    exact this
  have HT1 : Hid ((printV c.nm c.pl).size ≤ 1150) := print_le q1 (fun t ht => h.wp t ht)
  have HT2 : Hid ((toText c).size ≤ 1150) := by
    show (toText c).size ≤ 1150
    unfold toText
    split
    · rename_i hp
      exact print_le (q5 hp) (fun t ht => h.wt t ht)
    · exact Nat.zero_le _
  have HRf : Hid (∀ W, Fr (fun _ => False) W1 W → Rd W 1 fA fn (ints c.fl)) := fun W f => Rd.fr0 (Rd.fr0 h.rf F1.out) f
  have HRs : Hid (∀ W, Fr (fun _ => False) W1 W → Rd W 1 sA sn (ints c.src)) := fun W f => Rd.fr0 (Rd.fr0 h.rs F1.out) f
  have HAf : Hid (∀ k, adF fA fn k → k < W1.heap.size) := fun k hk => Nat.lt_of_lt_of_le (Rd.adlt h.rf (by decide) k hk) F1.out.size
  have HAs : Hid (∀ k, adF sA sn k → k < W1.heap.size) := fun k hk => Nat.lt_of_lt_of_le (Rd.adlt h.rs (by decide) k hk) F1.out.size
  have HG : Hid (∀ x ∈ [c.gen, c.id], 0 ≤ x) := by
    intro x hx
    simp only [List.mem_cons, List.not_mem_nil, or_false] at hx
    rcases hx with rfl | rfl
    · exact h.gen.1
    · exact h.id.1
  have Hef : Hid (∀ v ∈ [(en : Int)], fitsB 2 v = true) := by
    intro v hv
    rw [List.mem_singleton] at hv
    rw [hv]
    exact hfits2 (by omega)
  have Hfn : Hid (fn ≤ 5) := by show _ ≤ _; omega
  have Hsn : Hid (sn ≤ 5) := by show _ ≤ _; omega
  have Hn9 : Hid (en ≤ 90) := by show _ ≤ _; omega
  have Hsf : Hid (∀ v ∈ c.src, fitsB 1 v = true) := fun v hv => hfits1 (q4 v hv)
  have Hen := Lib.hid q7
  have Hlf := Lib.hid hlf
  have Hls := Lib.hid hls
  have Hle := Lib.hid hle
  have H1 := Lib.hid e1
  clear h q1 q2 q3 q4 q5 q6 q7 hle hlf hls
  unfold polV at HP1 HP2
  have hr : putV c = if 40000 < (putL c).length then (ByteArray.empty, 2) else (bstr (putL c), 0) := by unfold putV; rw [if_pos e1]
  have HR0 := Lib.hid hr
  clear hr e1
  cases hp : pendB c <;> (
    have Hp := Lib.hid hp
    clear hp
    go_enter Tryz.func12, Tryz.ntmps12
    go_upto_region 1 with fail
    rw [← HW1.out]
    obtain ⟨x0, x1, x2, x3, x4, x5, x6, x7, x8, x9, x10, x11⟩ := HC.out _ (Fr.refl _ W1)
    go_wp2_with fail
    refine HV.out.mono ?_
    rw [H1.out]
    rintro r w1 ⟨rfl, b1⟩
    have F2 := Lib.hid (Fr.b0 b1)
    clear b1
    clear x0 x1 x2 x3 x4 x5 x6 x7 x8 x9 x10 x11
    obtain ⟨x0, x1, x2, x3, x4, x5, x6, x7, x8, x9, x10, x11⟩ := HC.out _ F2.out
    go_wp2_with fail
    refine (HP1.out _ F2.out).mono ?_
    rintro r w2 ⟨rfl, b2⟩
    have F3 : Hid (Fr (fun _ => False) W1 w2) := F2.out.trans (Fr.b0 b2) (fun _ h => h.elim)
    clear b2
    clear x0 x1 x2 x3 x4 x5 x6 x7 x8 x9 x10 x11
    obtain ⟨x0, x1, x2, x3, x4, x5, x6, x7, x8, x9, x10, x11⟩ := HC.out _ F3.out
    go_wp2_with fail
    refine (HQ.out _ F3.out).mono ?_
    rw [Hp.out]
    rintro r w3 ⟨rfl, b3⟩
    have F3b : Hid (Fr (fun _ => False) W1 w3) := F3.out.trans (Fr.b0 b3) (fun _ h => h.elim)
    clear b3
    clear x0 x1 x2 x3 x4 x5 x6 x7 x8 x9 x10 x11
    obtain ⟨x0, x1, x2, x3, x4, x5, x6, x7, x8, x9, x10, x11⟩ := HC.out _ F3b.out
    first
      | (go_upto_region 7 with fail
         obtain ⟨u0, hu0⟩ : ∃ u, u = w3 := ⟨_, rfl⟩
         rw [← hu0]
         have F4 : Hid (Fr (fun _ => False) W1 u0) := by show Fr _ _ _; rw [hu0]; exact F3b.out
         clear hu0
         rw [show (⟨#[]⟩ : ByteArray) = toText c by unfold toText; rw [Hp.out]; rfl])
      | (go_wp2_with fail
         refine (HP2.out Hp.out _ F3b.out).mono ?_
         rintro r u0 ⟨rfl, b4⟩
         have F4 : Hid (Fr (fun _ => False) W1 u0) := F3b.out.trans (Fr.b0 b4) (fun _ h => h.elim)
         clear b4
         go_upto_region 7 with fail
         rw [show printV c.nm2 c.pl2 = toText c by unfold toText; rw [if_pos Hp.out]])
    clear x0 x1 x2 x3 x4 x5 x6 x7 x8 x9 x10 x11
    have H0 : Hid (PS W1 (u0.alloc (.cells #[.int .i64 0, .slice none 0 0] 106)) u0.heap.size (fun k => k < W1.heap.size) []) := PS.new (F4.out.mono (fun _ h => h.elim)) (fun k hk => Nat.lt_of_lt_of_le hk F4.out.size)
    go_upto_region 8 with fail
    obtain ⟨g, hg⟩ : ∃ g, g = u0.heap.size := ⟨_, rfl⟩
    obtain ⟨Wk, hWk⟩ : ∃ Wk, Wk = u0.alloc (.cells #[.int .i64 0, .slice none 0 0] 106) := ⟨_, rfl⟩
    rw [← hWk, ← hg] at H0
    rw [← hWk, ← hg]
    obtain ⟨l0, hl0⟩ : ∃ l : List UInt8, l = [] := ⟨_, rfl⟩
    rw [← hl0] at H0
    have B0 : Hid (l0.length ≤ 0) := by show _ ≤ _; rw [hl0]; exact Nat.le_refl _
    have L0 := Lib.hid hl0
    clear hg hWk hl0
    have hw := ps_words H0.out [c.gen, c.id] 2 rfl HG.out (by have := B0.out; omega)
    simp only [List.map_cons, List.map_nil] at hw
    have HW0 := Lib.hid hw
    clear hw
    obtain ⟨x0, x1, _, _, _, _, _, _, _, _, _, _⟩ := HC.out _ H0.out.none
    go_wp2_with fail
    refine (show Calls _ _ _ _ _ from HW0.out).mono ?_
    rintro r u1 ⟨rfl, hp⟩
    obtain ⟨l1, hl⟩ : ∃ l, l = l0 ++ smB 8 [c.gen, c.id] := ⟨_, rfl⟩
    have H1 : Hid (PS W1 u1 g (fun k => k < W1.heap.size) l1) := by show PS _ _ _ _ _; rw [hl]; exact hp
    have B1 : Hid (l1.length ≤ 16) := by
      show _ ≤ _
      rw [hl, List.length_append]
      have h1 := B0.out
      have h2 : (smB 8 [c.gen, c.id]).length ≤ 16 := by rw [smB_len]; exact Nat.le_refl _
      omega
    have L1 : Hid (l1 = l0 ++ smB 8 [c.gen, c.id]) := hl
    clear hp hl HW0 x0 x1
    have hw := ps_ints H1.out [c.now] 1 rfl (by have := B1.out; omega)
    simp only [List.map_cons, List.map_nil] at hw
    have HW1 := Lib.hid hw
    clear hw
    obtain ⟨_, _, x2, _, _, _, _, _, _, _, _, _⟩ := HC.out _ H1.out.none
    go_wp2_with fail
    refine (show Calls _ _ _ _ _ from HW1.out).mono ?_
    rintro r u2 ⟨rfl, hp⟩
    obtain ⟨l2, hl⟩ : ∃ l, l = l1 ++ le8 [c.now] := ⟨_, rfl⟩
    have H2 : Hid (PS W1 u2 g (fun k => k < W1.heap.size) l2) := by show PS _ _ _ _ _; rw [hl]; exact hp
    have B2 : Hid (l2.length ≤ 24) := by
      show _ ≤ _
      rw [hl, List.length_append]
      have h1 := B1.out
      have h2 : (le8 [c.now]).length ≤ 8 := by rw [le8_len]; exact Nat.le_refl _
      omega
    have L2 : Hid (l2 = l1 ++ le8 [c.now]) := hl
    clear hp hl HW1 x2
    have hw := ps_text H2.out (printV c.nm c.pl) (by have := B2.out; omega) (by have := HT1.out; omega)
    have HW2 := Lib.hid hw
    clear hw
    go_wp2_with fail
    refine (show Calls _ _ _ _ _ from HW2.out).mono ?_
    rintro r u3 ⟨rfl, hp⟩
    obtain ⟨l3, hl⟩ : ∃ l, l = l2 ++ textB (printV c.nm c.pl) := ⟨_, rfl⟩
    have H3 : Hid (PS W1 u3 g (fun k => k < W1.heap.size) l3) := by show PS _ _ _ _ _; rw [hl]; exact hp
    have B3 : Hid (l3.length ≤ 1224) := by
      show _ ≤ _
      rw [hl, List.length_append]
      have h1 := B2.out
      have h2 : (textB (printV c.nm c.pl)).length ≤ 1200 := by rw [textB_len]; have := HT1.out; omega
      omega
    have L3 : Hid (l3 = l2 ++ textB (printV c.nm c.pl)) := hl
    clear hp hl HW2
    have hw := ps_ints_at H3.out c.fl fA fn fc (HRf.out _ H3.out.none) HAf.out (by have := B3.out; have := Hfn.out; omega)
    have HW3 := Lib.hid hw
    clear hw
    obtain ⟨_, _, _, _, _, x5, _, _, _, _, _, _⟩ := HC.out _ H3.out.none
    go_wp2_with fail
    refine (show Calls _ _ _ _ _ from HW3.out).mono ?_
    rintro r u4 ⟨rfl, hp⟩
    obtain ⟨l4, hl⟩ : ∃ l, l = l3 ++ le8 c.fl := ⟨_, rfl⟩
    have H4 : Hid (PS W1 u4 g (fun k => k < W1.heap.size) l4) := by show PS _ _ _ _ _; rw [hl]; exact hp
    have B4 : Hid (l4.length ≤ 1264) := by
      show _ ≤ _
      rw [hl, List.length_append]
      have h1 := B3.out
      have h2 : (le8 c.fl).length ≤ 40 := by rw [le8_len, Hlf.out]; have := Hfn.out; omega
      omega
    have L4 : Hid (l4 = l3 ++ le8 c.fl) := hl
    clear hp hl HW3 x5
    have hw := ps_text H4.out (toText c) (by have := B4.out; omega) (by have := HT2.out; omega)
    have HW4 := Lib.hid hw
    clear hw
    go_wp2_with fail
    refine (show Calls _ _ _ _ _ from HW4.out).mono ?_
    rintro r u5 ⟨rfl, hp⟩
    obtain ⟨l5, hl⟩ : ∃ l, l = l4 ++ textB (toText c) := ⟨_, rfl⟩
    have H5 : Hid (PS W1 u5 g (fun k => k < W1.heap.size) l5) := by show PS _ _ _ _ _; rw [hl]; exact hp
    have B5 : Hid (l5.length ≤ 2464) := by
      show _ ≤ _
      rw [hl, List.length_append]
      have h1 := B4.out
      have h2 : (textB (toText c)).length ≤ 1200 := by rw [textB_len]; have := HT2.out; omega
      omega
    have L5 : Hid (l5 = l4 ++ textB (toText c)) := hl
    clear hp hl HW4
    have hw := ps_small_at H5.out 1 c.src sA sn sc (HRs.out _ H5.out.none) HAs.out rfl Hsf.out (by have := B5.out; have := Hsn.out; omega)
    have HW5 := Lib.hid hw
    clear hw
    obtain ⟨_, _, _, _, _, _, _, _, x8, _, _, _⟩ := HC.out _ H5.out.none
    go_wp2_with fail
    refine (show Calls _ _ _ _ _ from HW5.out).mono ?_
    rintro r u6 ⟨rfl, hp⟩
    obtain ⟨l6, hl⟩ : ∃ l, l = l5 ++ smB 1 c.src := ⟨_, rfl⟩
    have H6 : Hid (PS W1 u6 g (fun k => k < W1.heap.size) l6) := by show PS _ _ _ _ _; rw [hl]; exact hp
    have B6 : Hid (l6.length ≤ 2469) := by
      show _ ≤ _
      rw [hl, List.length_append]
      have h1 := B5.out
      have h2 : (smB 1 c.src).length ≤ 5 := by rw [smB_len, Hls.out]; have := Hsn.out; omega
      omega
    have L6 : Hid (l6 = l5 ++ smB 1 c.src) := hl
    clear hp hl HW5 x8
    have hw := ps_ints H6.out [c.bound, c.done] 2 rfl (by have := B6.out; omega)
    simp only [List.map_cons, List.map_nil] at hw
    have HW6 := Lib.hid hw
    clear hw
    obtain ⟨_, _, _, _, _, _, _, _, _, x9, x10, _⟩ := HC.out _ H6.out.none
    go_wp2_with fail
    refine (show Calls _ _ _ _ _ from HW6.out).mono ?_
    rintro r u7 ⟨rfl, hp⟩
    obtain ⟨l7, hl⟩ : ∃ l, l = l6 ++ le8 [c.bound, c.done] := ⟨_, rfl⟩
    have H7 : Hid (PS W1 u7 g (fun k => k < W1.heap.size) l7) := by show PS _ _ _ _ _; rw [hl]; exact hp
    have B7 : Hid (l7.length ≤ 2485) := by
      show _ ≤ _
      rw [hl, List.length_append]
      have h1 := B6.out
      have h2 : (le8 [c.bound, c.done]).length ≤ 16 := by rw [le8_len]; exact Nat.le_refl _
      omega
    have L7 : Hid (l7 = l6 ++ le8 [c.bound, c.done]) := hl
    clear hp hl HW6 x9 x10
    have hw := ps_small H7.out 2 [(en : Int)] 1 rfl rfl Hef.out (by have := B7.out; omega)
    simp only [List.map_cons, List.map_nil] at hw
    have HW7 := Lib.hid hw
    clear hw
    obtain ⟨_, _, _, _, _, _, _, _, _, _, _, x11⟩ := HC.out _ H7.out.none
    go_wp2_with fail
    refine (show Calls _ _ _ _ _ from HW7.out).mono ?_
    rintro r u8 ⟨rfl, hp⟩
    obtain ⟨l8, hl⟩ : ∃ l, l = l7 ++ smB 2 [(en : Int)] := ⟨_, rfl⟩
    have H8 : Hid (PS W1 u8 g (fun k => k < W1.heap.size) l8) := by show PS _ _ _ _ _; rw [hl]; exact hp
    have B8 : Hid (l8.length ≤ 2487) := by
      show _ ≤ _
      rw [hl, List.length_append]
      have h1 := B7.out
      have h2 : (smB 2 [(en : Int)]).length ≤ 2 := by rw [smB_len]; exact Nat.le_refl _
      omega
    have L8 : Hid (l8 = l7 ++ smB 2 [(en : Int)]) := hl
    clear hp hl HW7 x11
    obtain ⟨_, _, _, _, _, _, _, _, _, _, _, x11⟩ := HC.out _ H8.out.none
    go_wp2_with fail
    clear x11
    go_loopw [61] (fun s wr => ∃ k : Nat, k ≤ en ∧ s = .int .i64 k ∧ PS W1 wr g (fun k => k < W1.heap.size) (l8 ++ (c.es.take k).flatMap entH)) (fun s _ => en - (intOf s).toNat)
    case atStart => exact ⟨0, Nat.zero_le _, rfl, by rw [List.take_zero, List.flatMap_nil, List.append_nil]; exact H8.out⟩
    case round =>
      obtain ⟨k, hk, rfl, hps⟩ := hrel
      have Hps := Lib.hid hps
      have FW := Lib.hid hps.none
      have Fw : Hid (Fr (fun _ => False) w wr) := F1.out.trans hps.none (fun _ h => h.elim)
      clear hps
      by_cases hlt : k < en
      · obtain ⟨ad, ⟨id, tier, shard, place, of_, ba, bn, bc, bl⟩, rfl, hu, d0, d1, d2, d3, d4, d5⟩ := (HIn.out _ Fw.out).re.ent hlt
        dsimp only at d0 d1 d2 d3 d4 d5
        have Hu := Lib.hid hu
        have hokw := HIn0.out.we _ (mem_of_get hu)
        have hen := List.all_eq_true.1 Hen.out _ (mem_of_get hu)
        clear hu
        obtain ⟨e1, e2, e3, e4⟩ := ent_facts hen
        have HI : Hid (∀ x ∈ [id], 0 ≤ x) := by
          intro x hx
          rw [List.mem_singleton] at hx
          rw [hx]
          exact hokw.id.1
        have Hts : Hid (∀ v ∈ [tier, shard], fitsB 1 v = true) := by
          intro v hv
          simp only [List.mem_cons, List.not_mem_nil, or_false] at hv
          rcases hv with rfl | rfl
          · exact hfits1 e1
          · exact hfits1 e2
        have hblen : bl.length = bn := hokw.blen
        have hbn4 : bn ≤ 4096 := by rw [← hblen]; exact e3
        have Hbn : Hid (∀ v ∈ [(bn : Int)], fitsB 2 v = true) := by
          intro v hv
          rw [List.mem_singleton] at hv
          rw [hv]
          exact hfits2 (by omega)
        have Hbl : Hid (∀ v ∈ bl, fitsB 2 v = true) := fun v hv => hfits2 (e4 v hv)
        have Hlb := Lib.hid hblen
        have HB := Lib.hid hbn4
        have hRb : Rd w 1 ba bn (ints bl) := hokw.b
        have HAb : Hid (∀ j, adF ba bn j → j < W1.heap.size ∨ j = wr.heap.size) := fun j hj => .inl (Nat.lt_of_lt_of_le (hRb.adlt (by decide) j hj) F1.out.size)
        have HRb0 := Lib.hid hRb
        clear hokw hen e1 e2 e3 e4 hblen hbn4 hRb
        go_upto_region 19 with fail
        obtain ⟨W3, hW3⟩ : ∃ W3, W3 = wr.alloc (.cells #[.int .u64 id, .int .i64 tier, .int .i64 shard, .int .i64 place, .int .i64 of_, .slice ba bn bc] 56) := ⟨_, rfl⟩
        rw [← hW3]
        have F3 : Hid (Fr (fun _ => False) wr W3) := by show Fr _ _ _; rw [hW3]; exact Fr.none_alloc _ _
        have X3 : Hid (Blk W3 wr.heap.size 56 #[.int .u64 id, .int .i64 tier, .int .i64 shard, .int .i64 place, .int .i64 of_, .slice ba bn bc]) := by show Blk _ _ _ _; rw [hW3]; exact Blk.new _ _ _
        have HE : Hid (∀ W, Fr (fun j => ¬ (j < W1.heap.size ∨ j = wr.heap.size)) W3 W → W.cell? ⟨wr.heap.size, 0, none⟩ = some (.int .u64 id) ∧ W.cell? ⟨wr.heap.size, 1, none⟩ = some (.int .i64 tier) ∧ W.cell? ⟨wr.heap.size, 2, none⟩ = some (.int .i64 shard) ∧ W.cell? ⟨wr.heap.size, 3, none⟩ = some (.int .i64 place) ∧ W.cell? ⟨wr.heap.size, 4, none⟩ = some (.int .i64 of_) ∧ W.cell? ⟨wr.heap.size, 5, none⟩ = some (.slice ba bn bc)) := fun W f => by
          have b := X3.out.fr f (fun h => h (.inr rfl))
          exact ⟨b.cell 0, b.cell 1, b.cell 2, b.cell 3, b.cell 4, b.cell 5⟩
        have HRb : Hid (∀ W, Fr (fun j => ¬ (j < W1.heap.size ∨ j = wr.heap.size)) W3 W → Rd W 1 ba bn (ints bl)) := fun W f => ((HRb0.out.fr0 Fw.out).fr0 F3.out).fr f (fun j hj h => h (HAb.out j hj))
        obtain ⟨m0, hm0⟩ : ∃ m, m = l8 ++ (c.es.take k).flatMap entH := ⟨_, rfl⟩
        have G0 : Hid (PS W3 W3 g (fun k => k < W1.heap.size ∨ k = wr.heap.size) m0) := by show PS _ _ _ _ _; rw [hW3, hm0]; exact Hps.out.base _
        have C0 : Hid (m0.length ≤ 2487 + 8300 * k) := by
          show _ ≤ _
          rw [hm0, List.length_append]
          have h1 := B8.out
          have h2 := ents_len9 (cid := c.id) (l := c.es.take k) (by
            rw [List.all_eq_true]
            intro x hx
            exact List.all_eq_true.1 Hen.out _ (List.mem_of_mem_take hx))
          rw [List.length_take] at h2
          omega
        have M0 := Lib.hid hm0
        have hk90 : k ≤ 90 := by have := Hn9.out; omega
        clear hW3 d0 d1 d2 d3 d4 d5 hm0
        have hw := ps_words G0.out [id] 1 rfl HI.out (by have := C0.out; omega)
        simp only [List.map_cons, List.map_nil] at hw
        have HW := Lib.hid hw
        clear hw
        obtain ⟨z0, _, _, _, _, _⟩ := HE.out _ G0.out.fr
        go_wp2_with fail
        refine (show Calls _ _ _ _ _ from HW.out).mono ?_
        rintro r v1 ⟨rfl, hp⟩
        obtain ⟨m1, hl⟩ : ∃ l, l = m0 ++ smB 8 [id] := ⟨_, rfl⟩
        have G1 : Hid (PS W3 v1 g (fun k => k < W1.heap.size ∨ k = wr.heap.size) m1) := by show PS _ _ _ _ _; rw [hl]; exact hp
        have C1 : Hid (m1.length ≤ 2487 + 8300 * k + 8) := by
          show _ ≤ _
          rw [hl, List.length_append]
          have h1 := C0.out
          have h2 : (smB 8 [id]).length ≤ 8 := by rw [smB_len]; exact Nat.le_refl _
          omega
        have M1 : Hid (m1 = m0 ++ smB 8 [id]) := hl
        clear hp hl HW z0
        have hw := ps_small G1.out 1 [tier, shard] 2 rfl rfl Hts.out (by have := C1.out; omega)
        simp only [List.map_cons, List.map_nil] at hw
        have HW := Lib.hid hw
        clear hw
        obtain ⟨_, z1, z2, _, _, _⟩ := HE.out _ G1.out.fr
        go_wp2_with fail
        refine (show Calls _ _ _ _ _ from HW.out).mono ?_
        rintro r v2 ⟨rfl, hp⟩
        obtain ⟨m2, hl⟩ : ∃ l, l = m1 ++ smB 1 [tier, shard] := ⟨_, rfl⟩
        have G2 : Hid (PS W3 v2 g (fun k => k < W1.heap.size ∨ k = wr.heap.size) m2) := by show PS _ _ _ _ _; rw [hl]; exact hp
        have C2 : Hid (m2.length ≤ 2487 + 8300 * k + 10) := by
          show _ ≤ _
          rw [hl, List.length_append]
          have h1 := C1.out
          have h2 : (smB 1 [tier, shard]).length ≤ 2 := by rw [smB_len]; exact Nat.le_refl _
          omega
        have M2 : Hid (m2 = m1 ++ smB 1 [tier, shard]) := hl
        clear hp hl HW z1 z2
        have hw := ps_small G2.out 2 [(bn : Int)] 1 rfl rfl Hbn.out (by have := C2.out; omega)
        simp only [List.map_cons, List.map_nil] at hw
        have HW := Lib.hid hw
        clear hw
        obtain ⟨_, _, _, _, _, z5⟩ := HE.out _ G2.out.fr
        go_wp2_with fail
        refine (show Calls _ _ _ _ _ from HW.out).mono ?_
        rintro r v3 ⟨rfl, hp⟩
        obtain ⟨m3, hl⟩ : ∃ l, l = m2 ++ smB 2 [(bn : Int)] := ⟨_, rfl⟩
        have G3 : Hid (PS W3 v3 g (fun k => k < W1.heap.size ∨ k = wr.heap.size) m3) := by show PS _ _ _ _ _; rw [hl]; exact hp
        have C3 : Hid (m3.length ≤ 2487 + 8300 * k + 12) := by
          show _ ≤ _
          rw [hl, List.length_append]
          have h1 := C2.out
          have h2 : (smB 2 [(bn : Int)]).length ≤ 2 := by rw [smB_len]; exact Nat.le_refl _
          omega
        have M3 : Hid (m3 = m2 ++ smB 2 [(bn : Int)]) := hl
        clear hp hl HW z5
        have hw := ps_small_at G3.out 2 bl ba bn bc (HRb.out _ G3.out.fr) HAb.out rfl Hbl.out (by have := C3.out; have := HB.out; omega)
        have HW := Lib.hid hw
        clear hw
        obtain ⟨_, _, _, _, _, z5⟩ := HE.out _ G3.out.fr
        go_wp2_with fail
        refine (show Calls _ _ _ _ _ from HW.out).mono ?_
        rintro r v4 ⟨rfl, hp⟩
        obtain ⟨m4, hl⟩ : ∃ l, l = m3 ++ smB 2 bl := ⟨_, rfl⟩
        have G4 : Hid (PS W3 v4 g (fun k => k < W1.heap.size ∨ k = wr.heap.size) m4) := by show PS _ _ _ _ _; rw [hl]; exact hp
        have C4 : Hid (m4.length ≤ 2487 + 8300 * k + 8204) := by
          show _ ≤ _
          rw [hl, List.length_append]
          have h1 := C3.out
          have h2 : (smB 2 bl).length ≤ 8192 := by rw [smB_len, Hlb.out]; have := HB.out; omega
          omega
        have M4 : Hid (m4 = m3 ++ smB 2 bl) := hl
        clear hp hl HW z5
        have hpe : m4 = l8 ++ (c.es.take (k + 1)).flatMap entH := by
          rw [M4.out, M3.out, M2.out, M1.out, M0.out, take_snoc Hu.out, List.flatMap_append]
          simp [entH, Hlb.out, List.append_assoc]
        have G5 : Hid (PS W1 v4 g (fun j => j < W1.heap.size) (l8 ++ (c.es.take (k + 1)).flatMap entH)) := by
          show PS _ _ _ _ _
          rw [← hpe]
          exact G4.out.back (Hps.out.fr.trans F3.out (fun _ h => h.elim)) (fun j h => .inl h) (fun j hj => Nat.lt_of_lt_of_le hj (Nat.le_trans FW.out.size F3.out.size))
        clear hpe
        go_wp2_with fail
        go_roundw
        case rel => exact ⟨k + 1, by omega, by go_num, G5.out⟩
        case measure => simp [intOf]; omega
      · obtain rfl : en = k := by omega
        have hpl : l8 ++ (c.es.take en).flatMap entH = putL c := by
          rw [L8.out, L7.out, L6.out, L5.out, L4.out, L3.out, L2.out, L1.out, L0.out, List.take_of_length_le (by rw [Hle.out]; exact Nat.le_refl _)]
          unfold putL headH
          rw [Hle.out, List.nil_append]
        have hb : (putL c).length ≤ 1000000 := by
          rw [← hpl, List.length_append, List.take_of_length_le (by rw [Hle.out]; exact Nat.le_refl _)]
          have h1 := B8.out
          have h2 := ents_len9 Hen.out
          rw [Hle.out] at h2
          have := Hn9.out
          omega
        have HPS := Hps.out
        rw [hpl] at HPS
        have HR1 := Lib.hid HR0.out
        obtain ⟨P, hP⟩ : ∃ P, P = putL c := ⟨_, rfl⟩
        rw [← hP] at hb HPS HR1
        have HLn := Lib.hid (ps_len HPS (by omega))
        have HDn := Lib.hid (ps_done HPS)
        obtain ⟨pn_, hpn⟩ : ∃ m, m = P.length := ⟨_, rfl⟩
        rw [← hpn] at HLn HR1
        clear hpl hb HPS hP hpn
        by_cases hgt : 40000 < pn_
        · have hgi : (40000 : Int) < (pn_ : Int) := by omega
          have HG2 := Lib.hid hgt
          clear hgt
          go_wp2_with fail
          refine HLn.out.mono ?_
          rintro r w8 ⟨rfl, rfl⟩
          go_wp2_with fail
          go_ret2
          exact ⟨by rw [HR1.out, if_pos HG2.out]; rfl, Fw.out.below (fun _ h => h.elim)⟩
        · have hgi : (pn_ : Int) ≤ 40000 := by omega
          have HG2 := Lib.hid hgt
          clear hgt
          go_wp2_with fail
          refine HLn.out.mono ?_
          rintro r w8 ⟨rfl, rfl⟩
          go_wp2_with fail
          refine HDn.out.mono ?_
          rintro r w8 ⟨rfl, rfl⟩
          go_wp2_with fail
          go_ret2
          exact ⟨by rw [HR1.out, if_neg HG2.out]; rfl, Fw.out.below (fun _ h => h.elim)⟩)
end
end Go.Proofs.YteajonicnkpbbaaGreatDoor
namespace Go.Proofs.YteajonicnkpbbaaGreatDoor
set_option linter.all false
open Go.RowKit

structure EntP where
  id : Int
  tier : Int
  shard : Int
  place : Int
  of_ : Int
  bl : List Int
def EntV.p (x : EntV) : EntP := ⟨x.id, x.tier, x.shard, x.place, x.of_, x.bl⟩
structure CatQ where
  gen : Int
  id : Int
  now : Int
  nm : ByteArray
  pl : List TierV
  fl : List Int
  nm2 : ByteArray
  pl2 : List TierV
  src : List Int
  bound : Int
  done : Int
  es : List EntP
def CatV.p (c : CatV) : CatQ := ⟨c.gen, c.id, c.now, c.nm, c.pl, c.fl, c.nm2, c.pl2, c.src, c.bound, c.done, c.es.map EntV.p⟩
def rEnt : RS → RS × EntP := rbind rWord fun id => rbind (rSmall 1) fun tier => rbind (rSmall 1) fun shard => rbind (rSmall 2) fun n => rbind (rWhile (rSmall 2) n.toNat) fun bl => rret ⟨id, tier, shard, 0, n, bl⟩
def pol2 (e : Int) (t : ByteArray) : Int × ByteArray × List TierV := if t.size = 0 then (e, ByteArray.empty, []) else readV t
def readR : RS → RS × (Int × Int × CatQ) :=
  rbind rWord fun gen => rbind rWord fun id => rbind rInt fun now => rbind rText fun t1 => rbind (rMany rInt (readV t1).2.2.length) fun fl => rbind rText fun t2 =>
  rbind (rMany (rSmall 1) (pol2 (readV t1).1 t2).2.2.length) fun src => rbind rInt fun bound => rbind rInt fun done => rbind (rSmall 2) fun n => rbind (rWhile rEnt n.toNat) fun es =>
  rret ((readV t1).1, (pol2 (readV t1).1 t2).1, ⟨gen, id, now, (readV t1).2.1, (readV t1).2.2, fl, (pol2 (readV t1).1 t2).2.1, (pol2 (readV t1).1 t2).2.2, src, bound, done, es⟩)
theorem fits1_0 : fitsB 1 0 = true := rfl
theorem fits2_0 : fitsB 2 0 = true := rfl
theorem Good.ent : Good rEnt :=
  Good.bind Good.word fun _ => Good.bind (Good.small fits1_0) fun _ => Good.bind (Good.small fits1_0) fun _ => Good.bind (Good.small fits2_0) fun _ => Good.bind (Good.while_ (Good.small fits2_0) _) fun _ => Good.ret _
theorem Good.read : Good readR :=
  Good.bind Good.word fun _ => Good.bind Good.word fun _ => Good.bind Good.int fun _ => Good.bind Good.text fun _ => Good.bind (Good.many Good.int _) fun _ => Good.bind Good.text fun _ =>
  Good.bind (Good.many (Good.small fits1_0) _) fun _ => Good.bind Good.int fun _ => Good.bind Good.int fun _ => Good.bind (Good.small fits2_0) fun _ => Good.bind (Good.while_ Good.ent _) fun _ => Good.ret _
theorem Enc.to {α : Type} {R : RS → RS × α} {l m : List UInt8} {a b : α} (h : Enc R l a) (hl : m = l) (ha : b = a) : Enc R m b := by rw [hl, ha]; exact h
theorem Enc.ent {cid : Int} {x : EntV} (h : entryB cid x = true) (hi : 0 ≤ x.id ∧ x.id < 18446744073709551616) : Enc rEnt (entH x) x.p := by
  obtain ⟨h1, h2, h3, h4⟩ := ent_facts h
  have hp : x.place = 0 ∧ x.of_ = x.bl.length := by
    unfold entryB at h
    simp only [Bool.and_eq_true, decide_eq_true_eq] at h
    exact ⟨h.2.2.1, h.2.2.2.1⟩
  have hm : Enc (rWhile (rSmall 2) (x.bl.length : Int).toNat) (smB 2 x.bl) x.bl := Enc.while_ (Good.small fits2_0) (Enc.many (fun v hv => Enc.small (hfits2 (h4 v hv))))
  refine Enc.to (Enc.bind (Enc.word hi) (Enc.bind (Enc.small (k := 1) (hfits1 h1)) (Enc.bind (Enc.small (k := 1) (hfits1 h2)) (Enc.bind (Enc.small (k := 2) (v := (x.bl.length : Int)) (hfits2 (by omega))) (Enc.bind hm (Enc.ret _)))))) ?_ ?_
  · unfold entH smB
    simp
  · unfold EntV.p
    rw [hp.1, hp.2]
theorem print_ne (nm : ByteArray) (l : List TierV) : (printV nm l).size ≠ 0 := by
  have h : (printV nm l).size = (printL nm l).length := rfl
  rw [h]
  unfold printL
  simp [joinW]
theorem Enc.read {c : CatV} (h : catB c = true) (hg : 0 ≤ c.gen ∧ c.gen < 18446744073709551616) (hi : 0 ≤ c.id ∧ c.id < 18446744073709551616) (hw : ∀ t ∈ c.pl, t.wf) (hw2 : ∀ t ∈ c.pl2, t.wf) (hx : ∀ x ∈ c.es, 0 ≤ x.id ∧ x.id < 18446744073709551616) :
    Enc readR (putL c) (0, 0, c.p) := by
  obtain ⟨q1, q2, q3, q4, q5, q6, q7⟩ := cat_facts h
  have hb := h
  unfold catB at hb
  simp only [Bool.and_eq_true, decide_eq_true_eq] at hb
  obtain ⟨b1, b2, _⟩ := hb
  unfold plainB at b1
  simp only [Bool.and_eq_true, decide_eq_true_eq, List.all_eq_true] at b1
  obtain ⟨⟨_, g2, _, g4⟩, g5⟩ := b1
  have hin : ∀ {n m : Int}, inB n m = true → m ≤ 9223372036854775807 → in64 n := fun {n m} h hm => by
    unfold inB at h
    simp only [Bool.and_eq_true, decide_eq_true_eq] at h
    exact ⟨by omega, by omega⟩
  have hs1 : (printL c.nm c.pl).length ≤ 1150 := print_le q1 hw
  have r1 : readV (printV c.nm c.pl) = (0, c.nm, c.pl) := read_print q1 (by omega)
  have r2 : pol2 (readV (printV c.nm c.pl)).1 (toText c) = (0, c.nm2, c.pl2) := by
    unfold pol2 toText
    by_cases hp : pendB c = true
    · rw [if_pos hp, if_neg (print_ne _ _)]
      exact read_print (q5 hp) (by have : (printL c.nm2 c.pl2).length ≤ 1150 := print_le (q5 hp) hw2; omega)
    · rw [if_neg hp, if_pos (show ByteArray.empty.size = 0 from rfl), r1]
      unfold pendB at hp
      simp at hp
      have e1 : c.nm2 = ByteArray.empty := hp.1
      rw [e1, hp.2]
  have hbd : in64 c.bound ∧ in64 c.done := by
    unfold changeB at b2
    split at b2
    · simp only [Bool.and_eq_true, decide_eq_true_eq] at b2
      exact ⟨hin b2.2.2.2.1 (by decide), hin b2.2.2.2.2 (by decide)⟩
    · simp only [Bool.and_eq_true, decide_eq_true_eq] at b2
      rw [b2.1, b2.2.1]
      exact ⟨⟨by decide, by decide⟩, ⟨by decide, by decide⟩⟩
  have hsl : c.src.length = c.pl2.length := by
    unfold changeB at b2
    by_cases hp : pendB c = true
    · rw [if_pos hp] at b2
      simp only [Bool.and_eq_true, decide_eq_true_eq] at b2
      exact b2.2.2.1
    · rw [if_neg hp] at b2
      simp only [Bool.and_eq_true, decide_eq_true_eq] at b2
      unfold pendB at hp
      simp at hp
      rw [b2.2.2, hp.2]; rfl
  have hts : (toText c).size ≤ 60000 := by
    unfold toText
    split
    · rename_i hp
      have := print_le (q5 hp) hw2
      omega
    · exact Nat.zero_le _
  have m1 : Enc (rMany rInt (readV (printV c.nm c.pl)).2.2.length) (le8 c.fl) c.fl := by
    rw [r1]
    show Enc (rMany rInt c.pl.length) _ _
    rw [← g4]
    exact Enc.many (fun v hv => Enc.int (hin (g5 v hv) (by decide)))
  have m2 : Enc (rMany (rSmall 1) (pol2 (readV (printV c.nm c.pl)).1 (toText c)).2.2.length) (smB 1 c.src) c.src := by
    rw [r2]
    show Enc (rMany (rSmall 1) c.pl2.length) _ _
    rw [← hsl]
    exact Enc.many (fun v hv => Enc.small (hfits1 (q4 v hv)))
  have m3 : Enc (rWhile rEnt (c.es.length : Int).toNat) (c.es.flatMap entH) (c.es.map EntV.p) := by
    refine Enc.while_ Good.ent ?_
    show Enc (rMany rEnt c.es.length) _ _
    have : ∀ l : List EntV, (∀ x ∈ l, entryB c.id x = true ∧ (0 ≤ x.id ∧ x.id < 18446744073709551616)) → Enc (rMany rEnt l.length) (l.flatMap entH) (l.map EntV.p) := by
      intro l
      induction l with
      | nil => intro _; exact Enc.ret _
      | cons x l ih =>
        intro h
        have h1 := ih (fun y hy => h y (List.mem_cons_of_mem _ hy))
        have h2 := Enc.bind (f := fun a => rbind (rMany rEnt l.length) fun l => rret (a :: l)) (Enc.ent (h x (by simp)).1 (h x (by simp)).2) (Enc.bind (f := fun l => rret (x.p :: l)) h1 (Enc.ret _))
        rw [List.append_nil] at h2
        exact h2
    exact this _ (fun x hx2 => ⟨List.all_eq_true.1 q7 x hx2, hx x hx2⟩)
  refine Enc.to (Enc.bind (Enc.word hg) (Enc.bind (Enc.word hi) (Enc.bind (Enc.int (hin g2 (by decide))) (Enc.bind (Enc.text (s := printV c.nm c.pl) (by have : (printV c.nm c.pl).size = (printL c.nm c.pl).length := rfl; omega)) (Enc.bind m1 (Enc.bind (Enc.text hts) (Enc.bind m2 (Enc.bind (Enc.int hbd.1) (Enc.bind (Enc.int hbd.2) (Enc.bind (Enc.small (k := 2) (v := (c.es.length : Int)) (hfits2 (by omega))) (Enc.bind m3 (Enc.ret _)))))))))))) ?_ ?_
  · unfold putL headH smB le8
    simp
  · rw [r2, r1]
    rfl
end Go.Proofs.YteajonicnkpbbaaGreatDoor
namespace Go.Proofs.YteajonicnkpbbaaGreatDoor
set_option linter.all false
open Go.RowKit

def entryQ (cid : Int) (x : EntP) : Bool :=
  x.bl.all (fun b => inB b 4095) && ((inB x.tier 9 && (inB x.shard 7 && (decide (1 ≤ x.id) && decide (x.id ≤ cid)))) && (decide (x.place = 0) && (decide (x.of_ = x.bl.length) && (decide (1 ≤ x.of_) && decide (x.of_ ≤ 4096)))))
def pendQ (c : CatQ) : Bool := !decide (c.nm2.size = 0) || decide (0 < c.pl2.length)
def catQ (c : CatQ) : Bool :=
  ((!decide (c.gen = 0) && (inB c.now 1099511627776 && (checkB c.nm c.pl && decide (c.fl.length = c.pl.length)))) && c.fl.all (fun f => inB f 4611686018427387904)) &&
  ((if pendQ c = true then c.src.all (fun s => inB s ((c.pl.length : Int) - 1)) && (checkB c.nm2 c.pl2 && (decide (c.src.length = c.pl2.length) && (inB c.bound 4096 && inB c.done 100)))
    else decide (c.bound = 0) && (decide (c.done = 0) && decide (c.src.length = 0))) &&
  (decide (c.es.length ≤ 90) && (c.es.all (entryQ c.id) && (decide (c.es.map fun x => (x.tier, x.shard)).Nodup && decide (c.es.flatMap EntP.bl).Nodup))))
def entQ (x : EntP) : List UInt8 := smB 8 [x.id] ++ (smB 1 [x.tier, x.shard] ++ (smB 2 [(x.bl.length : Int)] ++ smB 2 x.bl))
def putQ (c : CatQ) : List UInt8 := smB 8 [c.gen, c.id] ++ le8 [c.now] ++ textB (printV c.nm c.pl) ++ le8 c.fl ++ textB (if pendQ c = true then printV c.nm2 c.pl2 else ByteArray.empty) ++ smB 1 c.src ++ le8 [c.bound, c.done] ++ smB 2 [(c.es.length : Int)] ++ c.es.flatMap entQ
theorem catB_q (c : CatV) : catB c = catQ c.p := by
  unfold catB catQ plainB changeB placesOf blocksOf CatV.p pendQ pendB
  simp only [List.length_map, List.all_map, List.map_map, List.flatMap_map]
  rfl
theorem putL_q (c : CatV) : putL c = putQ c.p := by
  unfold putL putQ headH toText CatV.p pendQ pendB
  simp only [List.length_map, List.flatMap_map]
  rfl
structure CatV.rng (c : CatV) : Prop where
  gen : 0 ≤ c.gen ∧ c.gen < 18446744073709551616
  id : 0 ≤ c.id ∧ c.id < 18446744073709551616
  pl : ∀ t ∈ c.pl, t.wf
  pl2 : ∀ t ∈ c.pl2, t.wf
  es : ∀ x ∈ c.es, 0 ≤ x.id ∧ x.id < 18446744073709551616
theorem CatIn.rng {w : World} {c : CatV} {a : CatA} (h : CatIn w c a) : c.rng := ⟨h.gen, h.id, h.wp, h.wt, fun x hx => (h.we x hx).id⟩
theorem CatV.rng.read {c : CatV} (h : c.rng) (hb : catB c = true) : Enc readR (putL c) (0, 0, c.p) := Enc.read hb h.gen h.id h.pl h.pl2 h.es
def gotB (b : List UInt8) (q : CatQ) : Prop := (readR ⟨0, b⟩).1.e = 0 ∧ (readR ⟨0, b⟩).2 = (0, 0, q) ∧ catQ q = true ∧ (putQ q).length ≤ 40000 ∧ putQ q = b
theorem gotB.of {c : CatV} (hc : c.rng) (hb : catB c = true) (hl : (putL c).length ≤ 40000) : gotB (putL c) c.p := by
  have h := hc.read hb []
  rw [List.append_nil] at h
  exact ⟨by rw [h], by rw [h], by rw [← catB_q]; exact hb, by rw [← putL_q]; exact hl, (putL_q c).symm⟩
end Go.Proofs.YteajonicnkpbbaaGreatDoor
namespace Go.Proofs.YteajonicnkpbbaaGreatDoor
set_option linter.all false
open Go.RowKit

def UQ (W : World) (g : Nat) (s : RS) : Prop := Up W g s.e s.b ∧ s.b.length ≤ 1099511627776
section
variable {W W' : World} {g : Nat} {s : RS} {F : Nat → Prop}
theorem UQ.fr (h : UQ W g s) (f : Fr F W W') (hn : ¬ F g) : UQ W' g s := ⟨Blk.fr h.1 f hn, h.2⟩
theorem UQ.fr0 (h : UQ W g s) (f : Fr (fun _ => False) W W') : UQ W' g s := h.fr f (fun h => h)
theorem uSmall_rest (k e : Int) (b : List UInt8) : (uSmall k e b).2.1.length ≤ b.length := by
  unfold uSmall
  split
  · split
    · exact uTake_rest 0 b _
    · exact Nat.le_refl _
  · exact Nat.le_refl _
theorem uText_rest (e : Int) (b : List UInt8) : (uText e b).2.1.length ≤ b.length := by
  unfold uText
  split
  · split
    · exact Nat.le_refl _
    · split
      · exact Nat.le_refl _
      · rw [List.length_drop]; omega
  · exact Nat.le_refl _
theorem uText_size (e : Int) (b : List UInt8) : (uText e b).2.2.length ≤ 65535 := by
  unfold uText
  split
  · split
    · simp
    · split
      · simp
      · have h1 := ofLe_lt (b.take 2)
        rw [List.length_take, Nat.min_eq_left (by omega)] at h1
        have : (256 : Nat) ^ 2 = 65536 := by decide
        rw [List.length_take]
        omega
  · simp
theorem rSmall_val (k : Int) (s : RS) (K : Nat) (hk : (256 : Nat) ^ k.toNat = K) : 0 ≤ (rSmall k s).2 ∧ (rSmall k s).2 < K := by
  subst hk
  unfold rSmall
  dsimp only
  have hp : 0 < (256 : Nat) ^ k.toNat := Nat.pow_pos (by decide)
  have : (uSmall k s.e s.b).2.2 < 256 ^ k.toNat := by
    unfold uSmall
    split
    · split
      · have h1 := ofLe_lt (uTake 0 s.b k.toNat).2.2
        have h2 := Nat.pow_le_pow_right (show 256 > 0 by decide) (uTake_len 0 s.b k.toNat)
        dsimp only
        omega
      · exact hp
    · exact hp
  exact ⟨by omega, by omega⟩
theorem rSmall1_val (s : RS) : 0 ≤ (rSmall 1 s).2 ∧ (rSmall 1 s).2 < 256 := rSmall_val 1 s 256 (by decide)
theorem rSmall2_val (s : RS) : 0 ≤ (rSmall 2 s).2 ∧ (rSmall 2 s).2 < 65536 := rSmall_val 2 s 65536 (by decide)
theorem ofLe_take8 (e : Int) (b : List UInt8) : ofLe (uTake e b 8).2.2 < 18446744073709551616 := by
  have h1 := ofLe_lt (uTake e b 8).2.2
  have h2 := Nat.pow_le_pow_right (show 256 > 0 by decide) (uTake_len e b 8)
  rw [pow8] at h2
  omega
theorem rWord_val (s : RS) : 0 ≤ (rWord s).2 ∧ (rWord s).2 < 18446744073709551616 := by
  have h := ofLe_take8 s.e s.b
  have e : (rWord s).2 = ((ofLe (uTake s.e s.b 8).2.2 : Nat) : Int) := rfl
  rw [e]
  exact ⟨by omega, by omega⟩
theorem rInt_val (s : RS) : in64 (rInt s).2 := by
  have h := ofLe_take8 s.e s.b
  have e : (rInt s).2 = sgn (ofLe (uTake s.e s.b 8).2.2) := rfl
  rw [e]
  unfold sgn in64
  split <;> exact ⟨by omega, by omega⟩
theorem rText_size (s : RS) : (rText s).2.size ≤ 65535 := by
  show (bstr _).size ≤ _
  rw [bstr_size]
  exact uText_size s.e s.b
theorem uq_word (h : UQ W g s) : Calls Tryz.prog 51 #[.pointer (some ⟨g, 0, none⟩)] W fun r w' => r = .returned (.int .u64 (rWord s).2) ∧ UQ w' g (rWord s).1 ∧ Fr (fun k => k = g) W w' := by
  refine (word_any g s.e s.b W h.1 h.2).mono ?_
  rintro r w' ⟨rfl, hu, hf⟩
  exact ⟨rfl, ⟨hu, Nat.le_trans (uTake_rest s.e s.b 8) h.2⟩, hf⟩
theorem uq_int (h : UQ W g s) : Calls Tryz.prog 52 #[.pointer (some ⟨g, 0, none⟩)] W fun r w' => r = .returned (.int .i64 (rInt s).2) ∧ UQ w' g (rInt s).1 ∧ Fr (fun k => k = g) W w' := by
  refine (int_any g s.e s.b W h.1 h.2).mono ?_
  rintro r w' ⟨rfl, hu, hf⟩
  exact ⟨rfl, ⟨hu, Nat.le_trans (uTake_rest s.e s.b 8) h.2⟩, hf⟩
theorem uq_small (k : Int) (h : UQ W g s) : Calls Tryz.prog 56 #[.pointer (some ⟨g, 0, none⟩), .int .i64 k] W fun r w' => r = .returned (.int .i64 (rSmall k s).2) ∧ UQ w' g (rSmall k s).1 ∧ Fr (fun k => k = g) W w' := by
  refine (usmall_any g s.e k s.b W h.1 h.2).mono ?_
  rintro r w' ⟨rfl, hu, hf⟩
  exact ⟨rfl, ⟨hu, Nat.le_trans (uSmall_rest k s.e s.b) h.2⟩, hf⟩
theorem uq_text (h : UQ W g s) : Calls Tryz.prog 54 #[.pointer (some ⟨g, 0, none⟩)] W fun r w' => r = .returned (.string (rText s).2) ∧ UQ w' g (rText s).1 ∧ Fr (fun k => k = g) W w' := by
  refine (utext_any g s.e s.b W h.1 h.2).mono ?_
  rintro r w' ⟨rfl, hu, hf⟩
  exact ⟨rfl, ⟨hu, Nat.le_trans (uText_rest s.e s.b) h.2⟩, hf⟩
theorem uq_bad (h : UQ W g s) : Calls Tryz.prog 55 #[.pointer (some ⟨g, 0, none⟩)] W fun r w' => r = .returned (.int .i64 s.e) ∧ W = w' := bad_any g s.e s.b W h.1
end
def WAt {α : Type} (R : RS → RS × α) (o : RS × List α) (m : Nat) (s : RS) (L : List α) : Prop := o = ((rWhile R m s).1, L ++ (rWhile R m s).2)
def MAt {α : Type} (R : RS → RS × α) (o : RS × List α) (m : Nat) (s : RS) (L : List α) : Prop := o = ((rMany R m s).1, L ++ (rMany R m s).2)
section
variable {α : Type} {R : RS → RS × α} {o : RS × List α} {m : Nat} {s : RS} {L : List α}
theorem WAt.start : WAt R (rWhile R m s) m s [] := rfl
theorem MAt.start : MAt R (rMany R m s) m s [] := rfl
theorem WAt.step (h : WAt R o (m + 1) s L) (he : s.e = 0) : WAt R o m (R s).1 (L ++ [(R s).2]) := by
  unfold WAt at h ⊢
  have e : rWhile R (m + 1) s = ((rWhile R m (R s).1).1, (R s).2 :: (rWhile R m (R s).1).2) := by
    show (if s.e = 0 then _ else _) = _
    rw [if_pos he]
    rfl
  rw [h, e, List.append_assoc]
  rfl
theorem MAt.step (h : MAt R o (m + 1) s L) : MAt R o m (R s).1 (L ++ [(R s).2]) := by
  unfold MAt at h ⊢
  have e : rMany R (m + 1) s = ((rMany R m (R s).1).1, (R s).2 :: (rMany R m (R s).1).2) := rfl
  rw [h, e, List.append_assoc]
  rfl
theorem WAt.stop (h : WAt R o m s L) (he : ¬ s.e = 0) : o = (s, L) := by
  unfold WAt at h
  cases m with
  | zero => rw [h]; unfold rWhile; rw [List.append_nil]
  | succ m =>
    have e : rWhile R (m + 1) s = (s, []) := by
      show (if s.e = 0 then _ else _) = _
      rw [if_neg he]
    rw [h, e, List.append_nil]
theorem WAt.end_ (h : WAt R o 0 s L) : o = (s, L) := by
  unfold WAt rWhile at h
  rw [h, List.append_nil]
theorem MAt.end_ (h : MAt R o 0 s L) : o = (s, L) := by
  unfold MAt rMany rret at h
  rw [h, List.append_nil]
end
def rEnts : RS → RS × List EntP := rbind (rSmall 2) fun n => rWhile rEnt n.toNat
def EntV.row (x : EntV) : Value := .slice x.ba x.bn x.bc
structure EntsOwn (w : World) (lo : Nat) (es : List EntV) (A : Option Addr) (n c : Nat) : Prop where
  row : w.ownsRow lo 56 6 (.slice A n c) n (encells es)
  ok : ∀ x ∈ es, x.ok w
  own : ∀ x ∈ es, w.ownsRow lo 3 1 x.row x.bn (ints x.bl)
  apart : es.Pairwise fun a b => ∀ k, rowF a.row k → ¬ rowF b.row k
theorem EntsOwn.nil (w : World) (lo : Nat) : EntsOwn w lo [] none 0 0 := ⟨World.ownsRow_nil _ _ _ _, fun x hx => (by cases hx), fun x hx => (by cases hx), List.Pairwise.nil⟩
theorem EntsOwn.fr {w w' : World} {lo : Nat} {es : List EntV} {A : Option Addr} {n c : Nat} {F : Nat → Prop} (h : EntsOwn w lo es A n c) (f : Fr F w w') (hr : ∀ k, rowF (.slice A n c) k → ¬ F k) (hx : ∀ x ∈ es, ∀ k, rowF x.row k → ¬ F k) : EntsOwn w' lo es A n c :=
  ⟨own_fr h.row f hr, fun x hm => by
    have k := h.ok x hm
    exact ⟨k.id, k.tier, k.shard, k.place, k.of_, Rd.of_own (own_fr (h.own x hm) f (hx x hm)), k.blen, k.ble, k.bmax, k.bwf⟩, fun x hm => own_fr (h.own x hm) f (hx x hm), h.apart⟩
theorem EntsOwn.fr0 {w w' : World} {lo : Nat} {es : List EntV} {A : Option Addr} {n c : Nat} (h : EntsOwn w lo es A n c) (f : Fr (fun _ => False) w w') : EntsOwn w' lo es A n c := h.fr f (fun _ _ h => h) (fun _ _ _ _ h => h)
theorem EntsOwn.snoc {w w' : World} {lo m : Nat} {es : List EntV} {A A' : Option Addr} {n c c' : Nat} {x : EntV} (h : EntsOwn w lo es A n c) (hlo : lo ≤ m)
    (hb : ∀ y ∈ es, ∀ k, rowF y.row k → k < m) (hx : w.ownsRow m 3 1 x.row x.bn (ints x.bl)) (ho : x.ok w)
    (hr : w'.ownsRow lo 56 6 (.slice A' (n + 1) c') (n + 1) (encells es ++ x.cells)) (mv : Mv (rowF (.slice A n c)) (rowF (.slice A' (n + 1) c')) w w') : EntsOwn w' lo (es ++ [x]) A' (n + 1) c' := by
  have hk : ∀ y ∈ es ++ [x], w.ownsRow lo 3 1 y.row y.bn (ints y.bl) := fun y hy => by
    rcases List.mem_append.1 hy with hy | hy
    · exact h.own y hy
    · rw [List.mem_singleton] at hy; rw [hy]; exact own_le hx hlo
  have hk2 : ∀ y ∈ es ++ [x], w'.ownsRow lo 3 1 y.row y.bn (ints y.bl) := fun y hy => own_fr (hk y hy) mv.fr (fun k a b => own_ty_ne (hk y hy) h.row (by decide) k a b)
  have ho2 : ∀ y ∈ es ++ [x], y.ok w := fun y hy => by
    rcases List.mem_append.1 hy with hy | hy
    · exact h.ok y hy
    · rw [List.mem_singleton] at hy; rw [hy]; exact ho
  refine ⟨?_, fun y hy => ?_, hk2, ?_⟩
  · unfold encells at hr ⊢
    rw [List.flatMap_append, List.flatMap_singleton]
    exact hr
  · have k := ho2 y hy
    exact ⟨k.id, k.tier, k.shard, k.place, k.of_, Rd.of_own (hk2 y hy), k.blen, k.ble, k.bmax, k.bwf⟩
  · rw [List.pairwise_append]
    refine ⟨h.apart, List.pairwise_singleton _ _, fun a ha b hb' k h1 h2 => ?_⟩
    rw [List.mem_singleton] at hb'
    subst hb'
    have := hb a ha k h1
    have := (hx.lt k h2).1
    omega
end Go.Proofs.YteajonicnkpbbaaGreatDoor
namespace Go.Proofs.YteajonicnkpbbaaGreatDoor
set_option linter.all false
open Go.RowKit

theorem rbind_eq {α β : Type} {R : RS → RS × α} {f : α → RS → RS × β} {s s' : RS} {a : α} (h : R s = (s', a)) : rbind R f s = f a s' := by
  show f (R s).2 (R s).1 = _
  rw [h]
theorem Good.e {α : Type} {R : RS → RS × α} {s s' : RS} {a : α} (h : Good R) (q : R s = (s', a)) (hz : s'.e = 0) : s.e = 0 := (h s (by rw [q]; exact hz)).1
theorem Good.ents : Good rEnts := Good.bind (Good.small fits2_0) fun _ => Good.while_ Good.ent _
section
variable {s0 s1 s2 s3 s4 s5 s6 s7 s8 s9 s10 : RS} {gen id now bound done e1 e2 : Int} {t1 t2 nm nm2 : ByteArray} {pl pl2 : List TierV} {fl src : List Int} {es : List EntP}
theorem readR_e1 (h1 : rWord s0 = (s1, gen)) (h2 : rWord s1 = (s2, id)) (h3 : rInt s2 = (s3, now)) (h4 : rText s3 = (s4, t1)) (hV : readV t1 = (e1, nm, pl)) : (readR s0).2.1 = e1 := by
  have h : (readR s0).2.1 = (readV (rText (rInt (rWord (rWord s0).1).1).1).2).1 := rfl
  rw [h]
  simp only [h1, h2, h3, h4, hV]
theorem readR_e2 (h1 : rWord s0 = (s1, gen)) (h2 : rWord s1 = (s2, id)) (h3 : rInt s2 = (s3, now)) (h4 : rText s3 = (s4, t1)) (hV : readV t1 = (e1, nm, pl)) (h5 : rMany rInt pl.length s4 = (s5, fl)) (h6 : rText s5 = (s6, t2)) (hp : pol2 e1 t2 = (e2, nm2, pl2)) : (readR s0).2.2.1 = e2 := by
  unfold readR
  rw [rbind_eq h1, rbind_eq h2, rbind_eq h3, rbind_eq h4]
  simp only [hV]
  rw [rbind_eq h5, rbind_eq h6]
  simp only [hp]
  rfl
theorem readR_eq (h1 : rWord s0 = (s1, gen)) (h2 : rWord s1 = (s2, id)) (h3 : rInt s2 = (s3, now)) (h4 : rText s3 = (s4, t1)) (hV : readV t1 = (e1, nm, pl)) (h5 : rMany rInt pl.length s4 = (s5, fl)) (h6 : rText s5 = (s6, t2)) (hp : pol2 e1 t2 = (e2, nm2, pl2))
    (h7 : rMany (rSmall 1) pl2.length s6 = (s7, src)) (h8 : rInt s7 = (s8, bound)) (h9 : rInt s8 = (s9, done)) (h10 : rEnts s9 = (s10, es)) : readR s0 = (s10, (e1, e2, ⟨gen, id, now, nm, pl, fl, nm2, pl2, src, bound, done, es⟩)) := by
  unfold readR
  rw [rbind_eq h1, rbind_eq h2, rbind_eq h3, rbind_eq h4]
  simp only [hV]
  rw [rbind_eq h5, rbind_eq h6]
  simp only [hp]
  rw [rbind_eq h7, rbind_eq h8, rbind_eq h9]
  have h : ∀ (K : List EntP → RS → RS × (Int × Int × CatQ)), rbind (rSmall 2) (fun n => rbind (rWhile rEnt n.toNat) K) s9 = K (rEnts s9).2 (rEnts s9).1 := fun _ => rfl
  rw [h, h10]
  rfl
end
theorem got_e1 {b : List UInt8} {q : CatQ} (h : gotB b q) : (readR ⟨0, b⟩).2.1 = 0 := by rw [h.2.1]
theorem got_e2 {b : List UInt8} {q : CatQ} (h : gotB b q) : (readR ⟨0, b⟩).2.2.1 = 0 := by rw [h.2.1]
theorem got_one {b : List UInt8} {q q' : CatQ} (h : gotB b q) (h' : gotB b q') : q = q' := by
  have := h.2.1
  rw [h'.2.1] at this
  simp only [Prod.mk.injEq, true_and] at this
  exact this.symm
def zeroCat : Value := .agg #[.int .u64 0, .int .u64 0, .int .i64 0, .string ByteArray.empty, .slice none 0 0, .slice none 0 0, .string ByteArray.empty, .slice none 0 0, .slice none 0 0, .int .i64 0, .int .i64 0, .slice none 0 0]
structure GotIn (w : World) (lo : Nat) (c : CatV) (a : CatA) : Prop where
  gen : 0 ≤ c.gen ∧ c.gen < 18446744073709551616
  id : 0 ≤ c.id ∧ c.id < 18446744073709551616
  now : in64 c.now
  bound : in64 c.bound
  done : in64 c.done
  nm : c.nm.size ≤ maxLen
  nm2 : c.nm2.size ≤ maxLen
  op : w.ownsRow lo 99 4 (.slice a.pA a.pn a.pc) a.pn (tcells c.pl)
  ot : w.ownsRow lo 99 4 (.slice a.tA a.tn a.tc) a.tn (tcells c.pl2)
  of_ : w.ownsRow lo 3 1 (.slice a.fA a.fn a.fc) a.fn (ints c.fl)
  os : w.ownsRow lo 3 1 (.slice a.sA a.sn a.sc) a.sn (ints c.src)
  ents : EntsOwn w lo c.es a.eA a.en a.ec
  lp : c.pl.length = a.pn
  lf : c.fl.length = a.fn
  lt : c.pl2.length = a.tn
  ls : c.src.length = a.sn
  le : c.es.length = a.en
  wp : ∀ t ∈ c.pl, t.wf
  wt : ∀ t ∈ c.pl2, t.wf
  wf : ∀ x ∈ c.fl, in64 x
  ws : ∀ x ∈ c.src, in64 x
  fs : ∀ k, rowF (.slice a.fA a.fn a.fc) k → ¬ rowF (.slice a.sA a.sn a.sc) k
  fe : ∀ x ∈ c.es, ∀ k, rowF (.slice a.fA a.fn a.fc) k → ¬ rowF x.row k
  se : ∀ x ∈ c.es, ∀ k, rowF (.slice a.sA a.sn a.sc) k → ¬ rowF x.row k
theorem own_caps {w : World} {lo n c size : Nat} {e : TypeId} {A : Option Addr} {xs : List Value} (h : w.ownsRow lo e size (.slice A n c) n xs) : n ≤ c ∧ c ≤ maxLen := by
  obtain ⟨_, _, e, h1, h2, _⟩ := own_slice h
  injection e with e1 e2 e3
  subst e3
  exact ⟨h1, h2⟩
theorem GotIn.cin {w : World} {lo : Nat} {c : CatV} {a : CatA} (h : GotIn w lo c a) : CatIn w c a :=
  ⟨h.gen, h.id, h.now, h.bound, h.done, h.nm, h.nm2, Rd.of_own h.op, Rd.of_own h.of_, Rd.of_own h.ot, Rd.of_own h.os, Rd.of_own h.ents.row, h.lp, h.lf, h.lt, h.ls, h.le, own_caps h.op, own_caps h.of_, own_caps h.ot, own_caps h.os, own_caps h.ents.row, h.wp, h.wt, h.wf, h.ws, h.ents.ok⟩
theorem GotIn.fr {w w' : World} {lo : Nat} {c : CatV} {a : CatA} {F : Nat → Prop} (h : GotIn w lo c a) (f : Fr F w w') (hF : ∀ k, lo ≤ k → ¬ F k) : GotIn w' lo c a :=
  { h with
    op := own_fr h.op f (fun k hk => hF k (h.op.lt k hk).1)
    ot := own_fr h.ot f (fun k hk => hF k (h.ot.lt k hk).1)
    of_ := own_fr h.of_ f (fun k hk => hF k (h.of_.lt k hk).1)
    os := own_fr h.os f (fun k hk => hF k (h.os.lt k hk).1)
    ents := h.ents.fr f (fun k hk => hF k (h.ents.row.lt k hk).1) (fun x hx k hk => hF k ((h.ents.own x hx).lt k hk).1) }
theorem got_main {b : List UInt8} {s10 : RS} {e1 e2 : Int} {c : CatV} {pt : ByteArray} {pe : Int} (h : readR ⟨0, b⟩ = (s10, (e1, e2, c.p))) (he : s10.e = 0) (hes : e1 = 0 ∧ e2 = 0) (hp : putV c = (pt, pe)) :
    (∀ q, gotB b q → pe = 0 ∧ pt = bstr b) ∧ (pe = 0 → pt = bstr b → gotB b c.p) := by
  obtain ⟨rfl, rfl⟩ := hes
  unfold putV at hp
  refine ⟨fun q hq => ?_, fun h0 h1 => ?_⟩
  · have h2 := hq.2.1
    rw [h] at h2
    simp only [Prod.mk.injEq, true_and] at h2
    subst h2
    have h3 := hq.2.2.1
    rw [← catB_q] at h3
    have h4 := hq.2.2.2.1
    have h5 := hq.2.2.2.2
    rw [← putL_q] at h4 h5
    rw [if_pos h3, if_neg (by omega), h5] at hp
    have hp2 := Prod.mk.inj hp
    exact ⟨hp2.2.symm, hp2.1.symm⟩
  · subst h0 h1
    by_cases hc : catB c = true
    · rw [if_pos hc] at hp
      by_cases h4 : 40000 < (putL c).length
      · rw [if_pos h4] at hp
        exact absurd (Prod.mk.inj hp).2 (by decide)
      · rw [if_neg h4] at hp
        have a1 := (Prod.mk.inj hp).1
        have h5 : putL c = b := by
          have := congrArg (fun s : ByteArray => s.data.toList) a1
          simpa [bstr_list] using this
        exact ⟨by rw [h]; exact he, by rw [h], by rw [← catB_q]; exact hc, by rw [← putL_q]; omega, by rw [← putL_q]; exact h5⟩
    · rw [if_neg hc] at hp
      exact absurd (Prod.mk.inj hp).2 (by decide)
def GetR (b : List UInt8) (lo : Nat) (r : Ending) (w' : World) : Prop :=
  (∃ c a, r = .returned (.tuple #[.agg (catCells c a), .int .i64 0]) ∧ GotIn w' lo c a ∧ gotB b c.p) ∨
  (∃ e, e ≠ 0 ∧ r = .returned (.tuple #[zeroCat, .int .i64 e]) ∧ ∀ q, ¬ gotB b q)
end Go.Proofs.YteajonicnkpbbaaGreatDoor
