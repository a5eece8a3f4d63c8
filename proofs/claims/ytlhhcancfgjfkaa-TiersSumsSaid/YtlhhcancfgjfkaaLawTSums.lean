/- TiersSums' walk: each tier has all samples. -/
import Derived.Test.YtlhhcancfgjfkaaAlive11
import Derived.Test.YtlhhcancfgjfkaaSumLaw
import Derived.Test.YtlhhcancfgjfkaaFew
namespace Go.Proofs.Ytlhhcancfgjfkaa
set_option linter.all false
open Go.RowKit

theorem cnt_snoc {l : List RecV} {q : Nat} {x : RecV} (h : l[q]? = some x) : cntL (l.take (q + 1)) = cntL (l.take q) + x.agg.count := by
  rw [take_snoc h]
  unfold cntL
  rw [List.map_append, List.sum_append]
  simp
theorem lo_snoc {l : List RecV} {q : Nat} {x : RecV} (h : l[q]? = some x) : loS (l.take (q + 1)) = loS (l.take q) + x.agg.lo := by
  rw [take_snoc h]
  unfold loS
  rw [List.map_append, List.sum_append]
  simp
theorem cnt_take : ∀ {l : List RecV} (q : Nat), okL l → 0 ≤ cntL (l.take q) ∧ cntL (l.take q) ≤ cntL l
  | [], q, _ => by simp [cntL]
  | r :: l, 0, h => by
    have := okL_cnt h
    simp only [List.take_zero]
    have e : cntL [] = 0 := rfl
    rw [List.length_cons] at this
    omega
  | r :: l, q + 1, h => by
    have h1 := (aggOk_pos (h r (by simp))).1
    have h2 := cnt_take (l := l) q (fun x hx => h x (List.mem_cons_of_mem _ hx))
    rw [List.take_succ_cons, cntL_cons, cntL_cons]
    omega

set_option maxRecDepth 100000 in
set_option maxHeartbeats 8000000 in
theorem tsums_walk (l : List SampV) (A : Option Addr) (n c : Nat) (w : World) (hr : Rd w 3 A n (scells l)) (hwf : ∀ s ∈ l, s.wf) (hn : n ≤ 9223372036854775807) :
    Calls Try.prog 3 #[.slice A n c] w fun e w' => e = .returned (.bool true) ∧ Below w.heap.size w w' := by
  have HAl := Lib.hid alive11_any
  have HSm := Lib.hid (some_any 40 (by omega) l (fun s hs => (hwf s hs).2.2) A n c w hr hn)
  have HN : Hid (∀ A c w, Rd w 4 A 3 (tcells sumT) → 3 ≤ c → Calls Try.prog 12 #[.agg #[.string sumN, .slice A 3 c], .int .i64 800, .slice none 0 0] w fun r w' => (∃ t, r = .returned (.tuple #[.pointer (some ⟨t, 0, none⟩), .int .i64 0]) ∧ TiersAt w' t w.heap.size (newX sumN sumT 800 [])) ∧ Below w.heap.size w w') := fun A c w hr hc => by
    refine (tnew_any sumN (by decide) sumT A 3 c 800 (by unfold i64; omega) [] none 0 0 w hr hc wf_sum (by omega) Rd.nil_ (by omega)).mono ?_
    rintro r w' ⟨⟨h, _⟩, hb⟩
    exact ⟨h sum_new, hb⟩
  have HP : Hid (∀ X (n : Nat) S t base F W (s : SampV) A c, Summed X n S → n ≤ 100 → s.wf → TiersOn W t base X F → Rd W 3 A 1 (scells [s]) → Calls Try.prog 13 #[.pointer (some ⟨t, 0, none⟩), .slice A 1 c] W fun r w' => r = .returned (.int .i64 (takesV 800 sumT [] s)) ∧ TiersOn w' t base (putX X [s]) F ∧ Fr F W w') := fun X n S t base F W s A c hS hn hs h hr => by
    refine (tput_any t base X F [s] A 1 c W h (by rw [hS.tiers]; decide) (by rw [hS.tiers]; decide) (fun m hm => by have := hS.short m hm; omega) (by rw [hS.now]; omega) (by rw [hS.tiers]; exact wf_sum) hr (fun y hy => by rw [List.mem_singleton] at hy; rw [hy]; exact hs)).mono ?_
    rintro r w' ⟨rfl, h1, h2⟩
    exact ⟨by rw [putE_1, hS.now, hS.tiers, hS.floors], h1, h2.mono (fun _ h => .inl h.1)⟩
  have HRec : Hid (∀ X (n : Nat) S t base W (k : Nat) x L, Summed X n S → n ≤ 100 → TiersAt W t base X → X.tiers[k]? = some x → X.tabs[k]? = some L → Calls Try.prog 14 #[.pointer (some ⟨t, 0, none⟩), .int .i64 k] W fun r w' => (∃ A c, r = .returned (.slice A L.length c) ∧ Rd w' 7 A L.length (rcells L)) ∧ Below W.heap.size W w') := fun X n S t base W k x L hS hn h hx hL => by
    refine (trecords_in t base X k x L W h hx hL (by have := hS.short L (mem_of_get hL); omega)).mono ?_
    rintro r w' ⟨⟨A, c, rfl, ho⟩, hb⟩
    exact ⟨⟨A, c, rfl, (own_any ho).2.2.1⟩, hb⟩
  have Hr := Lib.hid hr
  have Hln := Lib.hid hr.samps_len
  have Hwf := Lib.hid hwf
  clear hr hwf
  go_enter Try.func3, Try.ntmps3
  go_wp2_with fail
  refine HSm.out.mono ?_
  rintro r w0 ⟨⟨b, rfl, hb⟩, rfl⟩
  cases b with
  | false =>
    go_wp2_with fail
    refine (HAl.out _).mono ?_
    rintro r w1 ⟨rfl, b1⟩
    go_wp2_with fail
    go_ret
    exact ⟨rfl, b1⟩
  | true =>
    have hn40 : n ≤ 40 := hb rfl
    clear hb
    go_wp2_with fail
    have F0 := Lib.hid (Fr.none_alloc w (.cells (tcells sumT).toArray 30))
    refine (HN.out _ _ _ (Rd.newS rfl (tcells sumT) _ 3 4 rfl) (by omega)).mono ?_
    rintro r w1 ⟨⟨t, rfl, T1⟩, b1⟩
    obtain ⟨F, T1⟩ := T1.on
    obtain ⟨base, hbase⟩ : ∃ base, (w.alloc (.cells (tcells sumT).toArray 30)).heap.size = base := ⟨_, rfl⟩
    have hbw : Hid (w.heap.size ≤ base) := by show _ ≤ _; rw [← hbase]; simp
    have O1 : Hid (Below w.heap.size w w1) := (F0.out.below (fun _ h => h.elim)).trans (b1.mono (by simp))
    have Hge : Hid (∀ j, F j → base ≤ j) := fun j hj => by rw [← hbase]; exact (T1.ge j hj).1
    have HT1 : Hid (TiersOn w1 t base (newX sumN sumT 800 []) F) := by show TiersOn _ _ _ _ _; rw [← hbase]; exact T1
    clear T1 b1 F0 hbase HN
    go_wp2_with fail
    go_loopw [5, 6, 7] (fun a b i wr => ∃ (k m : Nat) (S : Int) (X : TiersX), k ≤ n ∧ a = .int .i64 m ∧ b = .int .u64 (S % 18446744073709551616) ∧ i = .int .i64 k ∧ m ≤ k ∧ Hid (Summed X m S) ∧ TiersOn wr t base X F ∧ Below w.heap.size w wr) (fun _ _ i _ => n - (intOf i).toNat)
    case atStart => exact ⟨0, 0, 0, _, Nat.zero_le _, rfl, rfl, rfl, Nat.le_refl _, sum_start, HT1.out, O1.out⟩
    case round =>
      obtain ⟨k, m, S, X, hk, rfl, rfl, rfl, hm, hS, hT, ho⟩ := hrel
      have HT := Lib.hid hT
      have Ho := Lib.hid ho
      have Hm := Lib.hid hm
      clear hT ho hm
      by_cases hlt : k < n
      · obtain ⟨ad, y, rfl, hy, a0, a1, a2⟩ := (Hr.out.below Ho.out).samp_ hlt
        have hywf := Lib.hid (Hwf.out y (mem_of_get hy))
        have Hy := Lib.hid hy
        have hkw : IntKind.i64.wrap ((k : Int) + 1) = (k : Int) + 1 := by simp [IntKind.wrap, IntKind.signed, IntKind.bits]; omega
        have hmw : IntKind.i64.wrap ((m : Int) + 1) = (m : Int) + 1 := by have := Hm.out; simp [IntKind.wrap, IntKind.signed, IntKind.bits]; omega
        have hu : IntKind.u64.wrap y.value = y.value % 18446744073709551616 := by simp [IntKind.wrap, IntKind.signed, IntKind.bits]
        have hsum : IntKind.u64.wrap (S % 18446744073709551616 + y.value % 18446744073709551616) = (S + y.value) % 18446744073709551616 := by simp [IntKind.wrap, IntKind.signed, IntKind.bits]
        go_wp2_with fail
        have F2 := Lib.hid (Fr.none_alloc wr (.cells #[.string y.name, .int .i64 y.time, .int .i64 y.value] 37))
        have HPk := Lib.hid (HP.out X m S t base F _ y _ 1 hS.out (by have := Hm.out; omega) hywf.out (HT.out.fr0 F2.out) (Rd.newS rfl _ _ 1 3 rfl))
        clear a0 a1 a2 hy
        by_cases htk : takesV 800 sumT [] y = 0
        · rw [htk] at HPk
          refine HPk.out.mono ?_
          rintro r w3 ⟨rfl, T3, f3⟩
          have O3 : Hid (Below w.heap.size w w3) := Ho.out.trans ((F2.out.below_of Ho.out.size (fun _ h => h.elim)).trans (f3.below_of (Nat.le_trans Ho.out.size (by simp)) (fun j hj => Nat.le_trans hbw.out (Hge.out j hj))))
          have S3 := Lib.hid (hS.out.put (by have := Hm.out; omega) y htk)
          have HT3 := Lib.hid T3
          clear T3 f3 HPk F2
          obtain ⟨ad', y', e, hy, a0, a1, a2⟩ := (Hr.out.below O3.out).samp_ hlt
          injection e with e
          subst e
          obtain rfl : y = y' := by
            have h := Hy.out
            rw [hy] at h
            exact (Option.some.inj h).symm
          clear hy
          go_wp2_with fail
          go_roundw
          case rel => exact ⟨k + 1, m + 1, S + y.value, _, by omega, by go_num, by first | rfl | go_num, by go_num, by have := Hm.out; omega, S3.out, HT3.out, O3.out⟩
          case measure => simp [intOf]; omega
        · obtain ⟨E, hE⟩ : ∃ E, takesV 800 sumT [] y = E := ⟨_, rfl⟩
          rw [hE] at htk HPk
          have htk2 : (E == 0) = false := by simpa using htk
          have htk3 : decide (E = 0) = false := decide_eq_false htk
          have hkeep := hS.out.keep y (by rw [hE]; exact htk)
          rw [hkeep] at HPk
          clear hE hkeep
          refine HPk.out.mono ?_
          rintro r w3 ⟨rfl, T3, f3⟩
          have O3 : Hid (Below w.heap.size w w3) := Ho.out.trans ((F2.out.below_of Ho.out.size (fun _ h => h.elim)).trans (f3.below_of (Nat.le_trans Ho.out.size (by simp)) (fun j hj => Nat.le_trans hbw.out (Hge.out j hj))))
          have HT3 := Lib.hid T3
          clear T3 f3 HPk F2
          go_wp2_with fail
          go_roundw
          case rel => exact ⟨k + 1, m, S, X, by omega, rfl, rfl, by go_num, by have := Hm.out; omega, hS.out, HT3.out, O3.out⟩
          case measure => simp [intOf]; omega
      · obtain rfl : k = n := by omega
        have Hsum := Lib.hid hS.out.lo
        have Hcnt := Lib.hid hS.out.cnt
        have Hok := Lib.hid hS.out.ok
        have Htt := Lib.hid hS.out.tiers
        have Htl := Lib.hid hS.out.len
        go_wp2_with fail
        go_loopw [8] (fun i ws => ∃ j : Nat, j ≤ 3 ∧ i = .int .i64 j ∧ Fr (fun _ => False) wr ws) (fun i _ => 3 - (intOf i).toNat)
        case atStart => exact ⟨0, by omega, rfl, Fr.refl _ _⟩
        case round =>
          obtain ⟨j, hj, rfl, fs⟩ := hrel
          have Fs := Lib.hid fs
          clear fs
          by_cases hj3 : j < 3
          · obtain ⟨x, hx⟩ : ∃ x, X.tiers[j]? = some x := by rw [Htt.out]; exact ⟨_, List.getElem?_eq_getElem (show j < sumT.length from hj3)⟩
            obtain ⟨L, hL⟩ : ∃ L, X.tabs[j]? = some L := ⟨_, List.getElem?_eq_getElem (by rw [Htl.out]; exact hj3)⟩
            have HLm := Lib.hid (mem_of_get hL)
            have hRk := Lib.hid (HRec.out X m S t base wr j x L hS.out (by have := Hm.out; omega) (HT.out.fr0 Fs.out).at_ hx hL)
            have hLn : L.length ≤ 40 := by have := hS.out.short L HLm.out; have := Hm.out; omega
            have Hcl := Lib.hid (Hcnt.out L HLm.out)
            have Hll := Lib.hid (Hsum.out L HLm.out)
            have Hokl := Lib.hid (Hok.out L HLm.out)
            have hm40 : m ≤ 40 := by have := Hm.out; omega
            clear hx hL
            have hjw : IntKind.i64.wrap ((j : Int) + 1) = (j : Int) + 1 := by simp [IntKind.wrap, IntKind.signed, IntKind.bits]; omega
            go_wp2_with fail
            refine hRk.out.mono ?_
            rintro r w5 ⟨⟨A5, c5, rfl, r5⟩, b5⟩
            have R5 := Lib.hid r5
            have F5 := Lib.hid (Fs.out.trans (Fr.b0 b5) (fun _ h => h.elim))
            clear r5 b5 hRk
            obtain ⟨ln, hln⟩ : ∃ ln, L.length = ln := ⟨_, rfl⟩
            rw [hln] at R5 hLn ⊢
            have Hln5 := Lib.hid hln
            clear hln
            go_wp2_with fail
            go_loop [10, 11, 12] (fun a b i => ∃ (q : Nat) (y z : Int), q ≤ ln ∧ a = .int .i64 y ∧ b = .int .u64 z ∧ i = .int .i64 q ∧ Hid (y = cntL (L.take q)) ∧ Hid (z = loS (L.take q) % 18446744073709551616)) (fun _ _ i => ln - (intOf i).toNat)
            case atStart => exact ⟨0, 0, 0, Nat.zero_le _, rfl, rfl, rfl, rfl, rfl⟩
            case round =>
              obtain ⟨q, y, z, hq, rfl, rfl, rfl, Hy, Hz⟩ := hrel
              by_cases hlq : q < ln
              · obtain ⟨ae, v, rfl, hv, d0, d1, d2, d3, d4, d5, d6⟩ := R5.out.rec_ hlq
                have hy2 : Hid (y + v.agg.count = cntL (L.take (q + 1))) := by show _ = _; rw [cnt_snoc hv, Hy.out]
                have hz2 : Hid ((z + v.agg.lo) % 18446744073709551616 = loS (L.take (q + 1)) % 18446744073709551616) := by show _ = _; rw [lo_snoc hv, Hz.out]; omega
                have hyw : IntKind.i64.wrap (y + v.agg.count) = y + v.agg.count := by
                  have h1 := cnt_take (q + 1) Hokl.out
                  rw [← hy2.out, Hcl.out] at h1
                  simp [IntKind.wrap, IntKind.signed, IntKind.bits]; omega
                have hqw : IntKind.i64.wrap ((q : Int) + 1) = (q : Int) + 1 := by simp [IntKind.wrap, IntKind.signed, IntKind.bits]; omega
                have hzw : IntKind.u64.wrap (z + v.agg.lo) = (z + v.agg.lo) % 18446744073709551616 := by simp [IntKind.wrap, IntKind.signed, IntKind.bits]
                clear hv
                go_wp2_with fail
                go_round
                case rel => exact ⟨q + 1, y + v.agg.count, (z + v.agg.lo) % 18446744073709551616, by omega, by first | rfl | go_num, by first | rfl | go_num, by go_num, hy2.out, hz2.out⟩
                case measure => simp [intOf]; omega
              · obtain rfl : q = ln := by omega
                have hym : y = (m : Int) := by rw [Hy.out, take_all (by rw [Hln5.out]; exact Nat.le_refl _), Hcl.out]
                have hzm : z = S % 18446744073709551616 := by rw [Hz.out, take_all (by rw [Hln5.out]; exact Nat.le_refl _), Hll.out]
                subst hym
                subst hzm
                go_wp2_with fail
                go_roundw
                case rel => exact ⟨j + 1, by omega, by go_num, F5.out⟩
                case measure => simp [intOf]; omega
          · obtain rfl : j = 3 := by omega
            go_wp2_with fail
            refine (HAl.out _).mono ?_
            rintro r w9 ⟨rfl, b9⟩
            have O9 : Hid (Below w.heap.size w w9) := (Ho.out.trans (Fs.out.below_of Ho.out.size (fun _ h => h.elim))).trans (b9.mono (Nat.le_trans Ho.out.size Fs.out.size))
            go_wp2_with fail
            go_ret
            exact ⟨rfl, O9.out⟩
end Go.Proofs.Ytlhhcancfgjfkaa
