/- The statement SegBytes: the walk. -/
import Derived.Test.YtkickdmiilmkoaaDoorAlive17
import Derived.Test.YtkickdmiilmkoaaDoorSameT
import Derived.Test.YtkickdmiilmkoaaDoorShort
namespace Go.Proofs.YtkickdmiilmkoaaDoor
open Go.RowKit

theorem strs_is (bs : List (List UInt8)) : strs bs = (bs.map bstr).map Value.string := by simp [strs]
theorem strs_of (ss : List ByteArray) : strs (ss.map fun s => s.data.toList) = ss.map Value.string := by
  unfold strs
  rw [List.map_map]
  exact List.map_congr_left fun s _ => by show Value.string (bstr s.data.toList) = _; rw [bstr_toList]
/-- Is the k-th block as it should be? -/
def goodK (id ti sh : Int) (n k : Nat) (b : List UInt8) : Bool := decide (hdE b = 0) && hdEq (hdV b) ⟨id, ti, sh, (k : Nat), (n : Nat), 0⟩
def goodN (id ti sh : Int) (bs : List (List UInt8)) (k : Nat) : Bool := (List.range k).all fun j => match bs[j]? with | some b => goodK id ti sh bs.length j b | none => true
theorem goodN_snoc {id ti sh : Int} {bs : List (List UInt8)} {k : Nat} {b : List UInt8} (h : bs[k]? = some b) : goodN id ti sh bs (k + 1) = (goodN id ti sh bs k && goodK id ti sh bs.length k b) := by
  unfold goodN
  rw [List.range_succ, List.all_append]
  simp [h]
theorem goodN_gets {id ti sh : Int} {bs : List (List UInt8)} (h : getsL id ti sh bs = true) : goodN id ti sh bs bs.length = true := by
  obtain ⟨h1, h2, _, _, _⟩ := gets_parts h
  unfold goodN
  rw [List.all_eq_true]
  intro j hj
  have hjl := List.mem_range.1 hj
  have hb : bs[j]? = some bs[j] := List.getElem?_eq_getElem hjl
  rw [hb]
  simp only
  unfold readsL at h1
  rw [List.all_eq_true] at h1 h2
  have e0 : hdE bs[j] = 0 := of_decide_eq_true (h1 bs[j] (List.getElem_mem _))
  have e1 := h2 j hj
  rw [okAt_some hb] at e1
  unfold okBlk at e1
  simp only [Bool.and_eq_true] at e1
  unfold goodK
  rw [hdE_V e0, e1.1, decide_eq_true e0]
  rfl
theorem hdE_len {b : List UInt8} (h : b.length ≠ 256) : hdE b = 5 := by unfold hdE; rw [if_neg h]
theorem hdE_256 {b : List UInt8} (h : b.length = 256) : hdE b = 0 ∨ hdE b = 6 := by
  unfold hdE
  rw [if_pos h]
  cases goodB (hdRd b) && decide (headB (hdRd b) = b.take 48)
  · exact .inr rfl
  · exact .inl rfl
theorem hdV_bad {b : List UInt8} (h : hdE b ≠ 0) : hdV b = head0 := by unfold hdV; rw [if_neg h]

set_option maxRecDepth 100000 in
set_option maxHeartbeats 8000000 in
theorem sbytes_walk (id ti sh : Int) (bs : List (List UInt8)) (A : Option Addr) (n c : Nat) (w : World) (hid : 0 ≤ id ∧ id < 18446744073709551616) (hr : Rd w 1 A n (strs bs)) (hbs : ∀ b ∈ bs, b.length ≤ maxLen) (h1 : n ≤ 9223372036854775807) :
    Calls Tryd.prog 6 #[.int .u64 id, .int .i64 ti, .int .i64 sh, .slice A n c] w fun r w' => r = .returned (.bool true) ∧ Below w.heap.size w w' := by
  have HS := Lib.hid (short_any 20 6000 (bs.map bstr) A n c w (by rw [← strs_is]; exact hr) (by decide) (by decide) (by decide) (fun s hs => by
    rw [List.mem_map] at hs
    obtain ⟨b, hb, rfl⟩ := hs
    rw [bstr_size]; exact hbs b hb))
  have AL := Lib.hid (fun w' => alive17_any w')
  have HA0 := Lib.hid hr
  have hlen : bs.length = n := by have := hr.1; rw [strs_len] at this; omega
  have Hlen := Lib.hid hlen
  have Hid_ := Lib.hid hid
  clear hr hbs hlen hid
  go_enter Tryd.func6, Tryd.ntmps6
  go_wp2_with fail
  refine (HS.out).mono ?_
  rintro r w1 ⟨b, rfl, hq, b1⟩
  have O1 := Lib.hid ((Own.start w).below b1)
  cases b
  · clear hq b1
    go_wp2_with fail
    refine (AL.out _).mono ?_
    rintro r w2 ⟨rfl, b2⟩
    have O2 := Lib.hid (O1.out.below b2)
    clear b2
    go_wp2_with fail
    go_ret
    exact ⟨rfl, O2.out.bel⟩
  obtain ⟨hn, hsz⟩ := hq rfl
  have hn20 : n ≤ 20 := by omega
  have HZ : Hid (∀ b ∈ bs, b.length ≤ 6000) := fun b hb => by
    have := hsz (bstr b) (List.mem_map_of_mem hb)
    rw [bstr_size] at this; omega
  clear hq b1 hn hsz HS
  go_wp2_with fail
  go_loopw [9, 10] (fun g i wr => ∃ k : Nat, k ≤ n ∧ i = .int .i64 k ∧ g = .bool (goodN id ti sh bs k) ∧ Own w wr (fun _ => False)) (fun _ i _ => n - (intOf i).toNat)
  case atStart => exact ⟨0, Nat.zero_le _, rfl, rfl, O1.out⟩
  case round =>
    obtain ⟨k, hk, rfl, rfl, ho⟩ := hrel
    have Ho := Lib.hid ho
    have HA := Lib.hid (HA0.out.below ho.bel)
    clear ho
    by_cases hlt : k < n
    · obtain ⟨ad, b, rfl, hb, hc⟩ := HA.out.at_map hlt
      have hbl := HZ.out b (mem_of_get hb)
      have HGH := Lib.hid (fun w' => gethead_any b (by omega) w')
      have HG1 := Lib.hid (goodN_snoc (id := id) (ti := ti) (sh := sh) hb)
      have HEQ := Lib.hid (fun w' => run_eqhead (hdV b) ⟨id, ti, sh, (k : Nat), (n : Nat), 0⟩ w')
      have hK : Hid (goodK id ti sh bs.length k b = (decide (hdE b = 0) && hdEq (hdV b) ⟨id, ti, sh, (k : Nat), (n : Nat), 0⟩)) := by show _ = _; unfold goodK; rw [Hlen.out]
      rw [hK.out] at HG1
      obtain ⟨GK, hGK⟩ : ∃ G, goodN id ti sh bs k = G := ⟨_, rfl⟩
      rw [hGK] at HG1 ⊢
      obtain ⟨EQ, hEQ⟩ : ∃ G, hdEq (hdV b) ⟨id, ti, sh, (k : Nat), (n : Nat), 0⟩ = G := ⟨_, rfl⟩
      rw [hEQ] at HEQ HG1
      have hbz := bstr_size b
      have Hc := Lib.hid hc
      by_cases h256 : b.length = 256
      · have hz1 : ((bstr b).size : Int) = 256 := by omega
        rcases hdE_256 h256 with hE | hE
        · rw [hE] at HG1 HGH
          obtain ⟨⟨id2, ti2, sh2, pl2, of2, rc2⟩, hh⟩ : ∃ h, hdV b = h := ⟨_, rfl⟩
          rw [hh] at HGH HEQ
          unfold HeadV.hval at HGH HEQ
          obtain ⟨S, hS⟩ : ∃ S, bstr b = S := ⟨_, rfl⟩
          rw [hS] at HGH hc hz1 Hc
          have q := HEQ.out
          clear hb hbl hGK hEQ hbz h256 hE hh hS hK
          go_wp2_with fail
          refine (HGH.out _).mono ?_
          rintro r w2 ⟨rfl, b2⟩
          have O2 := Lib.hid (Ho.out.below b2)
          have k1 := fun o => ((Fr.b0 b2).trans (Fr.none_alloc w2 o) (fun _ h => h.elim)).cell Hc.out (fun h => h)
          clear b2 hc
          cases GK
          · go_wp2
            go_roundw
            case rel => exact ⟨k + 1, by omega, by go_num, by rw [HG1.out]; rfl, O2.out.skip (Fr.none_alloc _ _)⟩
            case measure => simp [intOf]; omega
          · go_wp2
            go_roundw
            case rel => exact ⟨k + 1, by omega, by go_num, by rw [HG1.out]; first | rfl | simp, O2.out.skip (Fr.none_alloc _ _)⟩
            case measure => simp [intOf]; omega
        · have hV := hdV_bad (b := b) (by rw [hE]; decide)
          rw [hE] at HG1 HGH
          rw [hV] at HGH HEQ
          unfold HeadV.hval head0 at HGH HEQ
          have q0 : ∀ w, (binOp .neq 50 (.agg #[.int .u64 0, .int .i64 0, .int .i64 0, .int .i64 0, .int .i64 0]) (.agg #[.int .u64 0, .int .i64 0, .int .i64 0, .int .i64 0, .int .i64 0])).run Tryd.prog w = .ok (.bool false) w := fun w => run_neqhead head0 head0 w
          obtain ⟨S, hS⟩ : ∃ S, bstr b = S := ⟨_, rfl⟩
          rw [hS] at HGH hc hz1 Hc
          clear hb hbl hGK hEQ hbz h256 hE hS hK hV
          go_wp2_with fail
          refine (HGH.out _).mono ?_
          rintro r w2 ⟨rfl, b2⟩
          have O2 := Lib.hid (Ho.out.below b2)
          have k1 := fun o => ((Fr.b0 b2).trans (Fr.none_alloc w2 o) (fun _ h => h.elim)).cell Hc.out (fun h => h)
          clear b2 hc
          cases GK
          · go_wp2
            go_roundw
            case rel => exact ⟨k + 1, by omega, by go_num, by rw [HG1.out]; rfl, O2.out.skip (Fr.none_alloc _ _)⟩
            case measure => simp [intOf]; omega
          · go_wp2
            go_roundw
            case rel => exact ⟨k + 1, by omega, by go_num, by rw [HG1.out]; rfl, O2.out.skip (Fr.none_alloc _ _)⟩
            case measure => simp [intOf]; omega
      · have hz0 : ¬ ((bstr b).size : Int) = 256 := by omega
        have hz1 : (((bstr b).size : Int) != 256) = true := by simpa using hz0
        have hz2 : (((bstr b).size : Int) == 256) = false := by simpa using hz0
        have hE := hdE_len h256
        have hV := hdV_bad (b := b) (by rw [hE]; decide)
        rw [hE] at HG1 HGH
        rw [hV] at HGH HEQ
        unfold HeadV.hval head0 at HGH HEQ
        have q0 : ∀ w, (binOp .neq 50 (.agg #[.int .u64 0, .int .i64 0, .int .i64 0, .int .i64 0, .int .i64 0]) (.agg #[.int .u64 0, .int .i64 0, .int .i64 0, .int .i64 0, .int .i64 0])).run Tryd.prog w = .ok (.bool false) w := fun w => run_neqhead head0 head0 w
        obtain ⟨S, hS⟩ : ∃ S, bstr b = S := ⟨_, rfl⟩
        rw [hS] at HGH hc hz0 hz1 hz2 Hc
        clear hb hbl hGK hEQ hbz h256 hE hS hK hV
        go_wp2_with fail
        refine (HGH.out _).mono ?_
        rintro r w2 ⟨rfl, b2⟩
        have O2 := Lib.hid (Ho.out.below b2)
        have k1 := fun o => ((Fr.b0 b2).trans (Fr.none_alloc w2 o) (fun _ h => h.elim)).cell Hc.out (fun h => h)
        clear b2 hc
        cases GK
        · go_wp2
          go_roundw
          case rel => exact ⟨k + 1, by omega, by go_num, by rw [HG1.out]; rfl, O2.out.skip (Fr.none_alloc _ _)⟩
          case measure => simp [intOf]; omega
        · go_wp2
          go_roundw
          case rel => exact ⟨k + 1, by omega, by go_num, by rw [HG1.out]; rfl, O2.out.skip (Fr.none_alloc _ _)⟩
          case measure => simp [intOf]; omega
    · obtain rfl : k = n := by omega
      have HGet := Lib.hid (segget_any id ti sh Hid_.out bs (fun b hb => by have := HZ.out b hb; omega) A k c wr HA.out (by omega))
      go_wp2_with fail
      refine (HGet.out).mono ?_
      rintro r w2 ⟨g1, g2, g3, b2⟩
      have O2 := Lib.hid (Ho.out.below b2)
      have HA2 := Lib.hid (HA.out.below b2)
      rcases Nat.eq_zero_or_pos k with rfl | hpos
      · obtain rfl := g3 rfl
        clear g1 g2 g3 b2
        have HP := Lib.hid (fun w' => segput_any id ti sh Hid_.out [] (by intro r hr; cases hr) none 0 0 w' Rd.nil_ (by decide) (Nat.le_refl _))
        go_wp2_with fail
        refine (HP.out _).mono ?_
        rintro r w3 ⟨p1, p2, b3⟩
        have O3 := Lib.hid (O2.out.below b3)
        cases hP : (rightB id ti sh && segOk [])
        · obtain rfl := p2 hP
          clear p1 p2 b3 hP
          go_wp2_with fail
          refine (AL.out _).mono ?_
          rintro r w4 ⟨rfl, b4⟩
          have O4 := Lib.hid (O3.out.below b4)
          clear b4
          go_wp2_with fail
          go_ret
          exact ⟨rfl, O4.out.bel⟩
        · obtain ⟨R, cs, rfl, _⟩ := p1 hP
          clear p1 p2 b3 hP
          go_wp2_with fail
          refine (AL.out _).mono ?_
          rintro r w4 ⟨rfl, b4⟩
          have O4 := Lib.hid (O3.out.below b4)
          clear b4
          go_wp2_with fail
          go_ret
          exact ⟨rfl, O4.out.bel⟩
      · have hz0 : ¬ (k : Int) = 0 := by omega
        have hz1 : ((k : Int) == 0) = false := by simpa using hz0
        cases hG : getsL id ti sh bs
        · obtain ⟨e, rfl, he, _⟩ := g2 (by omega) hG
          have he1 : (e != 0) = true := by simpa using he
          have he2 : (e == 0) = false := by simpa using he
          clear g1 g2 g3 b2 hG
          go_wp2_with fail
          refine (AL.out _).mono ?_
          rintro r w4 ⟨rfl, b4⟩
          have O4 := Lib.hid (O2.out.below b4)
          clear b4
          go_wp2_with fail
          go_ret
          exact ⟨rfl, O4.out.bel⟩
        · obtain ⟨R, m, cs, rfl, ho⟩ := g1 (by omega) hG
          have hgn := goodN_gets hG
          rw [Hlen.out] at hgn
          rw [hgn]
          obtain ⟨_, _, gr, gs, gb⟩ := gets_parts hG
          obtain ⟨RA, rc, hRA, hrc1, _, hrd⟩ := own_slice ho
          injection hRA with hRA1 hRA2 hRA3
          subst hRA1
          subst hRA3
          have hml := hrd.recs_len
          have hbl : (blocksL id ti sh (outL bs)).length = blocksV m := by rw [blocksL_len, hml]
          rw [gb, Hlen.out] at hbl
          have HP := Lib.hid (segput_any id ti sh Hid_.out (outL bs) (outL_wf bs) R m cs w2 hrd (by unfold blocksV at hbl; omega) hrc1)
          rw [gr, gs, gb, ← hbl] at HP
          clear g1 g2 g3 b2 hG hgn ho hrd hml gr gs gb hbl
          go_wp2_with fail
          refine (HP.out).mono ?_
          rintro r w3 ⟨p1, _, b3⟩
          obtain ⟨R3, c3, rfl, o3⟩ := p1 rfl
          have O3 := Lib.hid (O2.out.below b3)
          have HA3 := Lib.hid (HA2.out.below b3)
          have HC3 := Lib.hid (Rd.of_own o3)
          clear p1 b3 o3 HP
          go_wp2_with fail
          refine (AL.out _).mono ?_
          rintro r w4 ⟨rfl, b4⟩
          have O4 := Lib.hid (O3.out.below b4)
          have HA4 := Lib.hid (HA3.out.below b4)
          have HC4 := Lib.hid (HC3.out.below b4)
          clear b4
          go_wp2_with fail
          refine (sametexts_any (bs.map bstr) (bs.map bstr) R3 k c3 A k c w4 (by rw [← strs_is]; exact HC4.out) (by rw [← strs_is]; exact HA4.out) (by omega) (by omega)).mono ?_
          rintro r w5 ⟨rfl, b5⟩
          have O5 := Lib.hid (O4.out.below b5)
          clear b5
          rw [decide_eq_true rfl]
          go_wp2_with fail
          go_ret
          exact ⟨rfl, O5.out.bel⟩
end Go.Proofs.YtkickdmiilmkoaaDoor
