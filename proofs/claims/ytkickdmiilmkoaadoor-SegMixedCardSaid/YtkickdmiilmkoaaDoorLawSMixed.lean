/- The statement SegMixed: the walk. -/
import Derived.Test.YtkickdmiilmkoaaDoorAlive17
import Derived.Test.YtkickdmiilmkoaaDoorSame
namespace Go.Proofs.YtkickdmiilmkoaaDoor
open Go.RowKit

/-- Is the j-th block to be taken from the other segment? -/
def wB (ws : List Int) (j : Nat) : Bool := match ws[j]? with | some x => decide (bits BinOp.and IntKind.i64 x 1 = 1) | none => false
def mixS (xs ys : List (List UInt8)) (ws : List Int) : Nat → List (List UInt8)
  | 0 => xs
  | k + 1 => bif wB ws k then (mixS xs ys ws k).set k (ys.getD k []) else mixS xs ys ws k
def mixB (ws : List Int) (k : Nat) : Bool := (List.range k).any (wB ws)
section
variable {xs ys : List (List UInt8)} {ws : List Int}
theorem mixB_snoc (k : Nat) : mixB ws (k + 1) = (mixB ws k || wB ws k) := by simp [mixB, List.range_succ]
theorem mixS_len : ∀ k, (mixS xs ys ws k).length = xs.length
  | 0 => rfl
  | k + 1 => by
    unfold mixS
    cases wB ws k
    · exact mixS_len k
    · rw [cond_true, List.length_set]; exact mixS_len k
theorem mixS_no : ∀ k, mixB ws k = false → mixS xs ys ws k = xs
  | 0, _ => rfl
  | k + 1, h => by
    rw [mixB_snoc] at h
    simp only [Bool.or_eq_false_iff] at h
    unfold mixS
    rw [h.2]
    exact mixS_no k h.1
theorem mixS_at : ∀ k j, j < k → wB ws j = true → j < xs.length → (mixS xs ys ws k)[j]? = some (ys.getD j [])
  | 0, _, h, _, _ => absurd h (by omega)
  | k + 1, j, h, hw, hx => by
    unfold mixS
    rcases Nat.lt_or_ge j k with h1 | h1
    · cases wB ws k
      · exact mixS_at k j h1 hw hx
      · rw [cond_true, List.getElem?_set_ne (by omega)]; exact mixS_at k j h1 hw hx
    · obtain rfl : j = k := by omega
      rw [hw, cond_true, List.getElem?_set_self (by rw [mixS_len]; exact hx)]
theorem mixS_mem : ∀ k, k ≤ ys.length → ∀ b ∈ mixS xs ys ws k, b ∈ xs ∨ b ∈ ys
  | 0, _, _, h => .inl h
  | k + 1, hk, b, h => by
    unfold mixS at h
    cases hw : wB ws k
    · rw [hw] at h; exact mixS_mem k (by omega) b h
    · rw [hw, cond_true] at h
      rcases List.mem_or_eq_of_mem_set h with h1 | h1
      · exact mixS_mem k (by omega) b h1
      · subst h1
        right
        rw [List.getD_eq_getElem?_getD, List.getElem?_eq_getElem (by omega), Option.getD_some]
        exact List.getElem_mem _
theorem mixB_some {k : Nat} (h : mixB ws k = true) : ∃ j, j < k ∧ wB ws j = true := by
  unfold mixB at h
  rw [List.any_eq_true] at h
  obtain ⟨j, hj, hw⟩ := h
  exact ⟨j, List.mem_range.1 hj, hw⟩
end
theorem strs_set (bs : List (List UInt8)) (k : Nat) (b : List UInt8) : strs (bs.set k b) = (strs bs).set k (.string (bstr b)) := by unfold strs; rw [List.map_set]
/-- A mixed segment is none. -/
theorem mixed_none {a b : Int} {la lb : List RecV} {ws : List Int} {k : Nat} (ha : a < 18446744073709551616) (hb : b < 18446744073709551616) (ra : rightB a 1 2 = true) (rb : rightB b 1 2 = true) (na : la.length ≤ 12288) (nb : lb.length ≤ 12288) (sa : segOk la = true) (sb : segOk lb = true) (hab : a ≠ b)
    (ka : k ≤ blocksV la.length) (kb : k ≤ blocksV lb.length) (hm : mixB ws k = true) :
    getsL a 1 2 (mixS (blocksL a 1 2 la) (blocksL b 1 2 lb) ws k) = false ∧ readsL (mixS (blocksL a 1 2 la) (blocksL b 1 2 lb) ws k) = true := by
  refine ⟨?_, ?_⟩
  · obtain ⟨j, hj, hw⟩ := mixB_some hm
    have h1 := mixS_at (xs := blocksL a 1 2 la) (ys := blocksL b 1 2 lb) k j hj hw (by rw [blocksL_len]; omega)
    have h2 := blocksL_at (id := b) (ti := 1) (sh := 2) (l := lb) (k := j) (by omega)
    rw [List.getD_eq_getElem?_getD, h2, Option.getD_some] at h1
    refine gets_head h1 ?_
    rw [hdRd_block (headK_good hb rb nb (by omega))]
    intro h
    exact hab h.1.symm
  · unfold readsL
    rw [List.all_eq_true]
    intro x hx
    refine decide_eq_true ?_
    rcases mixS_mem k (by rw [blocksL_len]; exact kb) x hx with h | h
    · exact readsL_blocks ha ra na (segOk_recs sa) h
    · exact readsL_blocks hb rb nb (segOk_recs sb) h

set_option maxRecDepth 100000 in
set_option maxHeartbeats 8000000 in
theorem smixed_walk (a b : Int) (la lb : List RecV) (ws : List Int) (A B D : Option Addr) (na ca nb cb nw cw : Nat) (w : World) (ha : 0 ≤ a ∧ a < 18446744073709551616) (hb : 0 ≤ b ∧ b < 18446744073709551616) (ra : Rd w 7 A na (rcells la)) (rb : Rd w 7 B nb (rcells lb)) (rw_ : Rd w 1 D nw (ws.map (Value.int .i64))) (wa : ∀ r ∈ la, r.wf) (wb : ∀ r ∈ lb, r.wf) (ca1 : na ≤ ca) (cb1 : nb ≤ cb) (h1 : na ≤ 9223372036854775807) (h2 : nb ≤ 9223372036854775807) (h3 : nw ≤ 9223372036854775807) :
    Calls Tryd.prog 8 #[.int .u64 a, .int .u64 b, .slice A na ca, .slice B nb cb, .slice D nw cw] w fun r w' => r = .returned (.bool true) ∧ Below w.heap.size w w' := by
  have F1 := Lib.hid (few_any 40 (by decide) la (fun r h => (wa r h).2.2) A na ca w ra h1)
  have F2 := Lib.hid (few_any 40 (by decide) lb (fun r h => (wb r h).2.2) B nb cb w rb h2)
  have AL := Lib.hid (fun w' => alive17_any w')
  have HL0 := Lib.hid ra
  have HM0 := Lib.hid rb
  have HW0 := Lib.hid rw_
  have Hla := Lib.hid ra.recs_len
  have Hlb := Lib.hid rb.recs_len
  have Hlw := Lib.hid rw_.len_map
  have Ha := Lib.hid ha
  have Hb := Lib.hid hb
  have Wa := Lib.hid wa
  have Wb := Lib.hid wb
  clear ra rb wa wb ha hb rw_
  go_enter Tryd.func8, Tryd.ntmps8
  go_wp2_with fail
  refine (F1.out).mono ?_
  rintro r w1 ⟨⟨b1, rfl, q1⟩, rfl⟩
  cases b1
  · clear q1
    go_wp2_with fail
    refine (AL.out _).mono ?_
    rintro r w2 ⟨rfl, b2⟩
    have B2 := Lib.hid b2
    clear b2
    go_wp2_with fail
    go_ret
    exact ⟨rfl, B2.out⟩
  replace q1 := q1 rfl
  go_wp2_with fail
  refine (F2.out).mono ?_
  rintro r w1 ⟨⟨b1, rfl, q2⟩, rfl⟩
  cases b1
  · clear q2
    go_wp2_with fail
    refine (AL.out _).mono ?_
    rintro r w2 ⟨rfl, b2⟩
    have B2 := Lib.hid b2
    clear b2
    go_wp2_with fail
    go_ret
    exact ⟨rfl, B2.out⟩
  replace q2 := q2 rfl
  have HNA := Lib.hid q1
  have HNB := Lib.hid q2
  clear F1 F2
  by_cases hw20 : (20 : Int) < (nw : Int)
  · have hwd : decide ((20 : Int) < (nw : Int)) = true := decide_eq_true hw20
    go_wp2_with fail
    refine (AL.out _).mono ?_
    rintro r w2 ⟨rfl, b2⟩
    have B2 := Lib.hid b2
    clear b2
    go_wp2_with fail
    go_ret
    exact ⟨rfl, B2.out⟩
  have hwd : decide ((20 : Int) < (nw : Int)) = false := decide_eq_false hw20
  by_cases hab : a = b
  · have hab1 : (a == b) = true := by simpa using hab
    have hab2 : decide (a = b) = true := decide_eq_true hab
    go_wp2_with fail
    refine (AL.out _).mono ?_
    rintro r w2 ⟨rfl, b2⟩
    have B2 := Lib.hid b2
    clear b2
    go_wp2_with fail
    go_ret
    exact ⟨rfl, B2.out⟩
  have hab1 : (a == b) = false := by simpa using hab
  have hab2 : decide (a = b) = false := decide_eq_false hab
  have HAB := Lib.hid hab
  go_wp2_with fail
  clear hwd hab1 hab2 hab
  refine (segput_any a 1 2 Ha.out la Wa.out A na ca w HL0.out (by omega) ca1).mono ?_
  rintro r w2 ⟨p1, p2, b2⟩
  have O2 := Lib.hid ((Own.start w).below b2)
  have HL2 := Lib.hid (HL0.out.below b2)
  have HM2 := Lib.hid (HM0.out.below b2)
  have HW2 := Lib.hid (HW0.out.below b2)
  cases hPA : (rightB a 1 2 && segOk la)
  · obtain rfl := p2 hPA
    clear p1 p2 b2 hPA
    go_wp2_with fail
    refine (segput_any b 1 2 Hb.out lb Wb.out B nb cb w2 HM2.out (by omega) cb1).mono ?_
    rintro r w3 ⟨p1, p2, b3⟩
    have O3 := Lib.hid (O2.out.below b3)
    clear b3
    cases hPB : (rightB b 1 2 && segOk lb)
    · obtain rfl := p2 hPB
      clear p1 p2 hPB
      go_wp2_with fail
      refine (AL.out _).mono ?_
      rintro r w4 ⟨rfl, b4⟩
      have O4 := Lib.hid (O3.out.below b4)
      clear b4
      go_wp2_with fail
      go_ret
      exact ⟨rfl, O4.out.bel⟩
    · obtain ⟨RB, rcb, rfl, _⟩ := p1 hPB
      clear p1 p2 hPB
      go_wp2_with fail
      refine (AL.out _).mono ?_
      rintro r w4 ⟨rfl, b4⟩
      have O4 := Lib.hid (O3.out.below b4)
      clear b4
      go_wp2_with fail
      go_ret
      exact ⟨rfl, O4.out.bel⟩
  obtain ⟨RA, rca, rfl, oa⟩ := p1 hPA
  have OA := Lib.hid (Rd.of_own oa)
  have HPA := Lib.hid hPA
  clear p1 p2 b2 oa hPA
  go_wp2_with fail
  refine (segput_any b 1 2 Hb.out lb Wb.out B nb cb w2 HM2.out (by omega) cb1).mono ?_
  rintro r w3 ⟨p1, p2, b3⟩
  have O3 := Lib.hid (O2.out.below b3)
  have HL3 := Lib.hid (HL2.out.below b3)
  have HW3 := Lib.hid (HW2.out.below b3)
  have HX3 := Lib.hid (OA.out.below b3)
  cases hPB : (rightB b 1 2 && segOk lb)
  · obtain rfl := p2 hPB
    clear p1 p2 b3 hPB
    go_wp2_with fail
    refine (AL.out _).mono ?_
    rintro r w4 ⟨rfl, b4⟩
    have O4 := Lib.hid (O3.out.below b4)
    clear b4
    go_wp2_with fail
    go_ret
    exact ⟨rfl, O4.out.bel⟩
  obtain ⟨RB, rcb, rfl, ob⟩ := p1 hPB
  have HY3 := Lib.hid (Rd.of_own ob)
  have HPB := Lib.hid hPB
  clear p1 p2 b3 ob hPB OA HL2 HM2 HW2
  have ra : Hid (rightB a 1 2 = true ∧ segOk la = true) := by show _ ∧ _; have := HPA.out; simpa using this
  have rb : Hid (rightB b 1 2 = true ∧ segOk lb = true) := by show _ ∧ _; have := HPB.out; simpa using this
  have HXl : Hid ((blocksL a 1 2 la).length = blocksV na) := by show _ = _; rw [blocksL_len, Hla.out]
  have HYl : Hid ((blocksL b 1 2 lb).length = blocksV nb) := by show _ = _; rw [blocksL_len, Hlb.out]
  have hva : blocksV na ≤ 40 := by unfold blocksV; omega
  have hvb : blocksV nb ≤ 40 := by unfold blocksV; omega
  have HNV : Hid (blocksV na = 0 → na = 0) := fun h => by unfold blocksV at h; omega
  have HMix := Lib.hid (fun (k : Nat) (ka : k ≤ blocksV na) (kb : k ≤ blocksV nb) hm => mixed_none (la := la) (lb := lb) (ws := ws) (k := k) Ha.out.2 Hb.out.2 ra.out.1 rb.out.1 (by rw [Hla.out]; omega) (by rw [Hlb.out]; omega) ra.out.2 rb.out.2 HAB.out (by rw [Hla.out]; exact ka) (by rw [Hlb.out]; exact kb) hm)
  have HGX : Hid (getsL a 1 2 (blocksL a 1 2 la) = true) := gets_blocks Ha.out.2 ra.out.1 (by rw [Hla.out]; omega) Wa.out ra.out.2
  have HOX : Hid (outL (blocksL a 1 2 la) = la) := outL_blocks Ha.out.2 ra.out.1 (by rw [Hla.out]; omega) Wa.out (segOk_recs ra.out.2)
  have HB256 : Hid (∀ x ∈ blocksL a 1 2 la, x.length = 256) := fun x hx => (hdE_good (readsL_blocks Ha.out.2 ra.out.1 (by rw [Hla.out]; omega) (segOk_recs ra.out.2) hx)).1
  have HC256 : Hid (∀ x ∈ blocksL b 1 2 lb, x.length = 256) := fun x hx => (hdE_good (readsL_blocks Hb.out.2 rb.out.1 (by rw [Hlb.out]; omega) (segOk_recs rb.out.2) hx)).1
  obtain ⟨xs, hxs⟩ : ∃ xs, blocksL a 1 2 la = xs := ⟨_, rfl⟩
  obtain ⟨ys, hys⟩ : ∃ ys, blocksL b 1 2 lb = ys := ⟨_, rfl⟩
  rw [hxs] at HX3 HXl HMix HGX HOX HB256
  rw [hys] at HY3 HYl HMix HC256
  obtain ⟨va, hvae⟩ : ∃ v, blocksV na = v := ⟨_, rfl⟩
  obtain ⟨vb, hvbe⟩ : ∃ v, blocksV nb = v := ⟨_, rfl⟩
  rw [hvae] at HX3 hva HXl HMix HNV ⊢
  rw [hvbe] at HY3 hvb HYl HMix ⊢
  obtain ⟨i0, hi, hz0, hz1, hz2⟩ := info_parts info_str
  clear hxs hys hvae hvbe
  go_wp2_with (at_builtin; refine wpList_app2 rfl _ _ 47 rfl 9 i0 _ 1 16 Tryd.underlying47 hi hz0 hz1 hz2 rfl (by decide) (.slice none 0 0) 0 [] rfl w3.heap.size (Nat.le_refl _) (World.ownsRow_nil _ _ _ _) RA va rca (strs xs) rfl HX3.out (by unfold strs; intro u hu; rw [List.mem_map] at hu; obtain ⟨x, _, rfl⟩ := hu; rfl) ?q1 ?q2 ?_)
  case q1 => unfold maxLen; omega
  case q2 => omega
  intro Z cz w5 ho5 hm5 _
  try rw [Nat.zero_add, List.nil_append] at ho5
  try rw [Nat.zero_add] at hm5
  try rw [Nat.zero_add]
  have HO5 := Lib.hid ho5
  have O5 := Lib.hid ((((Own.start w3).also (G := rowF (.slice none 0 0)) (fun k hk => by cases hk))).mv hm5)
  clear ho5 hm5
  go_wp2_with fail
  go_loopw [16, 17] (fun mx i wr => ∃ k : Nat, k ≤ va ∧ k ≤ vb ∧ k ≤ nw ∧ i = .int .i64 k ∧ mx = .bool (mixB ws k) ∧ wr.ownsRow w3.heap.size 9 1 (.slice Z va cz) va (strs (mixS xs ys ws k)) ∧ Own w3 wr (rowF (.slice Z va cz))) (fun _ i _ => va - (intOf i).toNat)
  case atStart => exact ⟨0, Nat.zero_le _, Nat.zero_le _, Nat.zero_le _, rfl, rfl, HO5.out, O5.out⟩
  case round =>
    obtain ⟨k, ka, kb, kw, rfl, rfl, hrow, ho⟩ := hrel
    have Hrow := Lib.hid hrow
    have Ho := Lib.hid ho
    have HYr := Lib.hid (HY3.out.below ho.bel)
    have HWr := Lib.hid (HW3.out.below ho.bel)
    have HLr := Lib.hid (HL3.out.below ho.bel)
    clear hrow ho
    by_cases hlt : k < va ∧ k < vb ∧ k < nw
    · obtain ⟨k1, k2, k3⟩ := hlt
      have i1 : (k : Int) < (va : Int) := by omega
      have i2 : (k : Int) < (vb : Int) := by omega
      have i3 : (k : Int) < (nw : Int) := by omega
      obtain ⟨wd, x, rfl, hx, c1⟩ := HWr.out.at_map k3
      obtain ⟨yd, y, rfl, hy, c2⟩ := HYr.out.at_map k2
      have hwk : Hid (wB ws k = decide (bits BinOp.and IntKind.i64 x 1 = 1)) := by show _ = _; unfold wB; rw [hx]
      have HB1 := Lib.hid (mixB_snoc (ws := ws) k)
      have hyd : ys.getD k [] = y := by rw [List.getD_eq_getElem?_getD, hy]; rfl
      obtain ⟨MB, hMB⟩ : ∃ MB, mixB ws k = MB := ⟨_, rfl⟩
      rw [hMB] at HB1 ⊢
      by_cases hbit : bits BinOp.and IntKind.i64 x 1 = 1
      · have hw1 : wB ws k = true := by rw [hwk.out]; exact decide_eq_true hbit
        have hS : Hid (mixS xs ys ws (k + 1) = (mixS xs ys ws k).set k y) := by show _ = _; rw [← hyd]; show (bif wB ws k then _ else _) = _; rw [hw1]; rfl
        have hB : Hid (mixB ws (k + 1) = true) := by show _ = _; rw [HB1.out, hw1, Bool.or_true]
        have hbit2 : (bits BinOp.and IntKind.i64 x 1 == 1) = true := by simpa using hbit
        have hbit3 : decide (bits BinOp.and IntKind.i64 x 1 = 1) = true := decide_eq_true hbit
        obtain ⟨g, cap, hv, hbg, _⟩ := Hrow.out.form (by omega)
        injection hv with hv1 _ hv3
        subst hv1
        subst hv3
        have hBlk : ∃ cur, Blk wr g 9 cur := by
          rcases Hrow.out.2 with ⟨h0, _⟩ | ⟨g', cap', cur, e, _, hg, _⟩
          · cases h0
          · injection e with e1 _ _
            injection e1 with e1
            injection e1 with e1 _ _
            subst e1
            exact ⟨cur, hg⟩
        obtain ⟨cur, hBk⟩ := hBlk
        have z0 := hBk.frozen k
        have cz0 := Hrow.out.cells (g := g) rfl k (.string (bstr ((mixS xs ys ws k)[k]'(by rw [mixS_len, HXl.out]; exact k1)))) (by unfold strs; rw [List.getElem?_map, List.getElem?_eq_getElem (by rw [mixS_len, HXl.out]; exact k1)]; rfl)
        rw [add_lit, Nat.zero_add] at cz0
        have hst := (Hrow.out.stored k (.string (bstr y))).1
        rw [← strs_set, ← hS.out] at hst
        have HSt := Lib.hid hst
        have HF : Hid (Own w3 (wr.setCell ⟨g, k, none⟩ (.string (bstr y))) (rowF (.slice (some ⟨g, 0, none⟩) va cz))) := Ho.out.fr ((Fr.refl (rowF (.slice (some ⟨g, 0, none⟩) va cz)) wr).setCell (p := ⟨g, k, none⟩) (.inl rfl) _)
        clear hx hy hbit hw1 hBk hst hyd hMB hbg
        go_wp2
        go_roundw
        case rel => exact ⟨k + 1, by omega, by omega, by omega, by go_num, by rw [hB.out], HSt.out, HF.out⟩
        case measure => simp [intOf]; omega
      · have hw1 : wB ws k = false := by rw [hwk.out]; exact decide_eq_false hbit
        have hS : Hid (mixS xs ys ws (k + 1) = mixS xs ys ws k) := by show (bif wB ws k then _ else _) = _; rw [hw1]; rfl
        have hB : Hid (mixB ws (k + 1) = MB) := by show _ = _; rw [HB1.out, hw1, Bool.or_false]
        have hbit2 : (bits BinOp.and IntKind.i64 x 1 == 1) = false := by simpa using hbit
        have hbit3 : decide (bits BinOp.and IntKind.i64 x 1 = 1) = false := decide_eq_false hbit
        clear hx hy hw1 hyd hMB
        go_wp2
        go_roundw
        case rel => exact ⟨k + 1, by omega, by omega, by omega, by go_num, by rw [hB.out], by rw [hS.out]; exact Hrow.out, Ho.out⟩
        case measure => simp [intOf]; omega
    · have hj : (¬ k < va) ∨ (k < va ∧ ¬ k < vb) ∨ (k < va ∧ k < vb ∧ ¬ k < nw) := by omega
      have HRz := Lib.hid (Rd.of_own Hrow.out)
      have HGet := Lib.hid (segget_any a 1 2 Ha.out (mixS xs ys ws k) (fun x hx => by
        rcases mixS_mem k (by rw [HYl.out]; exact kb) x hx with h | h
        · rw [HB256.out x h]; decide
        · rw [HC256.out x h]; decide) Z va cz wr HRz.out (by omega))
      have HM1 := Lib.hid (HMix.out k ka kb)
      have HM0' := Lib.hid (mixS_no (xs := xs) (ys := ys) (ws := ws) k)
      have HM2 : Hid (va = 0 → mixB ws k = false) := fun h => by obtain rfl : k = 0 := by omega
                                                                 rfl
      obtain ⟨zs, hzs⟩ : ∃ zs, mixS xs ys ws k = zs := ⟨_, rfl⟩
      rw [hzs] at HGet HM1 HM0'
      obtain ⟨MB, hMB⟩ : ∃ MB, mixB ws k = MB := ⟨_, rfl⟩
      rw [hMB] at HM1 HM0' HM2 ⊢
      clear hlt hzs hMB
      have hgo : (¬ (k : Int) < (va : Int)) ∨ ((k : Int) < (va : Int) ∧ ¬ (k : Int) < (vb : Int)) ∨ ((k : Int) < (va : Int) ∧ (k : Int) < (vb : Int) ∧ ¬ (k : Int) < (nw : Int)) := by omega
      clear hj
      rcases hgo with g1 | ⟨g1, g2⟩ | ⟨g1, g2, g3⟩
      all_goals
        go_wp2_with fail
        refine (HGet.out).mono ?_
        rintro r w6 ⟨e1, e2, e3, b6⟩
        have O6 := Lib.hid (Ho.out.below b6)
        have HL6 := Lib.hid (HLr.out.below b6)
        cases MB
        · have hz := HM0'.out rfl
          subst hz
          rcases Nat.eq_zero_or_pos va with rfl | hpos
          · obtain rfl := e3 rfl
            obtain rfl := HNV.out rfl
            clear e1 e2 e3 b6
            go_wp2_with fail
            refine (AL.out _).mono ?_
            rintro r w7 ⟨rfl, b7⟩
            have O7 := Lib.hid (O6.out.below b7)
            have HL7 := Lib.hid (HL6.out.below b7)
            have hlnil : la = [] := List.eq_nil_of_length_eq_zero Hla.out
            have HLN := Lib.hid hlnil
            clear b7 hlnil
            go_wp2_with fail
            refine (samerecs_any [] la none 0 0 A 0 ca w7 Rd.nil_ HL7.out (by decide) (by decide)).mono ?_
            rintro r w8 ⟨rfl, b8⟩
            have O8 := Lib.hid (O7.out.below b8)
            rw [HLN.out, decide_eq_true rfl]
            clear b8
            go_wp2_with fail
            go_ret
            exact ⟨rfl, O3.out.bel.trans (O8.out.bel.mono O3.out.bel.size)⟩
          · obtain ⟨R6, m6, c6, rfl, ho6⟩ := e1 (by omega) HGX.out
            rw [HOX.out] at ho6
            have HR6 := Lib.hid (Rd.of_own ho6)
            have hm6 : m6 = na := by have h1 := HR6.out.recs_len; rw [Hla.out] at h1; omega
            subst hm6
            clear e1 e2 e3 b6 ho6
            go_wp2_with fail
            refine (AL.out _).mono ?_
            rintro r w7 ⟨rfl, b7⟩
            have O7 := Lib.hid (O6.out.below b7)
            have HL7 := Lib.hid (HL6.out.below b7)
            have HR7 := Lib.hid (HR6.out.below b7)
            clear b7
            go_wp2_with fail
            refine (samerecs_any la la R6 m6 c6 A m6 ca w7 HR7.out HL7.out (by have := HNA.out; omega) (by have := HNA.out; omega)).mono ?_
            rintro r w8 ⟨rfl, b8⟩
            have O8 := Lib.hid (O7.out.below b8)
            rw [decide_eq_true rfl]
            clear b8
            go_wp2_with fail
            go_ret
            exact ⟨rfl, O3.out.bel.trans (O8.out.bel.mono O3.out.bel.size)⟩
        · have hpos : va ≠ 0 := fun h => by have := HM2.out h; cases this
          obtain ⟨m1, m2⟩ := HM1.out rfl
          obtain ⟨e, rfl, he, he6⟩ := e2 hpos m1
          obtain rfl := he6 m2
          clear e1 e2 e3 b6 he he6 m1 m2
          go_wp2_with fail
          refine (AL.out _).mono ?_
          rintro r w7 ⟨rfl, b7⟩
          have O7 := Lib.hid (O6.out.below b7)
          clear b7
          go_wp2_with fail
          go_ret
          exact ⟨rfl, O3.out.bel.trans (O7.out.bel.mono O3.out.bel.size)⟩
end Go.Proofs.YtkickdmiilmkoaaDoor
