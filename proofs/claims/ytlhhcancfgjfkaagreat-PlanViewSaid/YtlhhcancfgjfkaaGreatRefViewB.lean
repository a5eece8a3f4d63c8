/- Walk of the document: View. -/
import Derived.Test.YtlhhcancfgjfkaaGreatRefView
import Derived.Test.YtlhhcancfgjfkaaGreatRefAdd
import Derived.Test.YtlhhcancfgjfkaaGreatTk
namespace Go.Proofs.YtlhhcancfgjfkaaGreat
set_option linter.all false
open Go.RowKit

def viewI (X : TiersX) (i : Int) (all : List SampV) : List RecV := if 0 ≤ i ∧ i < (X.tiers.length : Int) then viewL X i.toNat all else []
def ViewR (L : List RecV) (r : Ending) (w' : World) : Prop := ∃ A' c', r = .returned (.slice A' L.length c') ∧ Rd w' 7 A' L.length (rcells L)
set_option maxRecDepth 100000 in
set_option maxHeartbeats 6000000 in
theorem rview_any (now : Int) (hnow : i64 now) (nm : ByteArray) (l : List TierV) (A : Option Addr) (n c : Nat) (fl : List Int) (B : Option Addr) (mf df : Nat) (X : TiersX) (hXn : X.now = now) (hXt : X.tiers = l) (hXf : X.floors = fl) (hev : ∀ x ∈ l, 1 ≤ x.every) (i : Int) (all : List SampV) (D : Option Addr) (m d : Nat) (w : World) (hr : Rd w 4 A n (tcells l)) (hf : Rd w 1 B mf (ints fl)) (hwf : ∀ t ∈ l, t.wf) (hn : n ≤ 1099511627776) (hs : Rd w 3 D m (scells all)) (hsw : ∀ s ∈ all, s.wf) (hm : m ≤ 1000000) :
    Calls Tryz.prog 15 #[reachV now nm A n c B mf df, .int .i64 i, .slice D m d] w fun r w' => ViewR (viewI X i all) r w' ∧ Below w.heap.size w w' := by
  unfold reachV
  have hl := hr.tiers_len
  have F1 := Lib.hid (Fr.none_alloc w (.cells #[.int .i64 now, .string nm, .slice A n c, .slice B mf df] 46))
  have B1 := Lib.hid (Blk.new w 46 #[.int .i64 now, .string nm, .slice A n c, .slice B mf df])
  have p0 := B1.out.cell 0
  have p1 := B1.out.cell 1
  have p2 := B1.out.cell 2
  have p3 := B1.out.cell 3
  simp only [List.getElem?_toArray, List.getElem?_cons_succ, List.getElem?_cons_zero] at p0 p1 p2 p3
  by_cases hi : 0 ≤ i ∧ i < (n : Int)
  case neg =>
    have hv : viewI X i all = [] := by unfold viewI; rw [if_neg (by rw [hXt, hl]; exact hi)]
    rw [hv]
    by_cases h1 : i < 0
    · have d1 : decide (i < 0) = true := decide_eq_true h1
      clear hv hr hf hs
      go_enter Tryz.func15, Tryz.ntmps15
      go_wp2_with fail
      go_ret
      exact ⟨⟨none, 0, rfl, Rd.nil_⟩, F1.out.below (fun _ h => h.elim)⟩
    · have d1 : decide (i < 0) = false := decide_eq_false h1
      have d2 : decide ((n : Int) ≤ i) = true := decide_eq_true (by omega)
      clear hv hr hf hs
      go_enter Tryz.func15, Tryz.ntmps15
      go_wp2_with fail
      go_ret
      exact ⟨⟨none, 0, rfl, Rd.nil_⟩, F1.out.below (fun _ h => h.elim)⟩
  case pos =>
  obtain ⟨hi0, hin⟩ := hi
  obtain ⟨k, rfl⟩ := Int.eq_ofNat_of_zero_le hi0
  have hk : k < n := by omega
  obtain ⟨ad, x, rfl, hx, _, x1, _⟩ := (hr.fr0 F1.out).tier hk
  have hv : viewI X k all = viewG X k [] all := by unfold viewI; rw [if_pos (by rw [hXt, hl]; exact ⟨hi0, hin⟩), Int.toNat_natCast]; rfl
  rw [hv]
  have hxe := hev x (mem_of_get hx)
  have Hx := Lib.hid hx
  obtain ⟨xe, hxe2⟩ : ∃ v, x.every = v := ⟨_, rfl⟩
  rw [hxe2] at x1 hxe
  have Hxe := Lib.hid hxe2
  have d1 : decide ((k : Int) < 0) = false := decide_eq_false (by omega)
  have d2 : decide ((n : Int) ≤ (k : Int)) = false := decide_eq_false (by omega)
  have d3 : decide (n ≤ k) = false := decide_eq_false (by omega)
  have d5 : 0 ≤ (k : Int) ∧ (k : Int) < (n : Int) := by omega
  have Hr := Lib.hid hr
  have Hf := Lib.hid hf
  have Hwf := Lib.hid hwf
  have Hs := Lib.hid hs
  have Hsw := Lib.hid hsw
  have Hsl := Lib.hid hs.samps_len
  clear hr hf hwf hs hsw hx hxe2 hv hi0 hin
  go_enter Tryz.func15, Tryz.ntmps15
  go_wp2_with fail
  obtain ⟨rb, hrb⟩ : ∃ v, w.heap.size = v := ⟨_, rfl⟩
  obtain ⟨W1, hW1⟩ : ∃ W1, W1 = (w.alloc (.cells #[.int .i64 now, .string nm, .slice (some ad) n c, .slice B mf df] 46)).alloc (.cells #[.int .i64 xe, .slice none 0 0] 124) := ⟨_, rfl⟩
  rw [← hW1]
  have G1 : Hid (Fr (fun _ => False) w W1) := hW1 ▸ F1.out.trans (Fr.none_alloc _ _) (fun _ h => h.elim)
  have C1 : Hid (Blk W1 rb 46 #[.int .i64 now, .string nm, .slice (some ad) n c, .slice B mf df]) := by show Blk _ _ _ _; rw [hW1, ← hrb]; exact B1.out.alloc _
  have T1 : Hid (Blk W1 (rb + 1) 124 #[.int .i64 xe, .slice none 0 0]) := by show Blk _ _ _ _; rw [hW1, ← hrb]; exact Blk.new' (by simp) _ _
  try rw [hrb]
  obtain ⟨g, hg⟩ : ∃ v, rb + 1 = v := ⟨_, rfl⟩
  rw [hg] at T1
  try rw [hg]
  have hgr : g ≠ rb := by omega
  have hgw : Hid (w.heap.size ≤ g) := by show _ ≤ _; omega
  have HT1 : Hid (RTabOn W1 g w.heap.size xe []) := ⟨⟨none, 0, T1.out, World.ownsRow_nil _ _ _ _⟩, (fun _ h => by cases h), Sorted.nil, hgw.out⟩
  clear hW1 hg p0 p1 p2 p3 x1 B1 F1 T1
  go_wp2_with fail
  go_loopw [8] (fun s8 wr => ∃ q : Nat, q ≤ m ∧ s8 = .int .i64 q ∧ RTabOn wr g w.heap.size xe (viewG X k [] (all.take q)) ∧ (viewG X k [] (all.take q)).length ≤ q ∧ Fr (fun j => j = g) W1 wr) (fun s8 _ => m - (intOf s8).toNat)
  case atStart => exact ⟨0, Nat.zero_le _, rfl, HT1.out, Nat.le_refl _, Fr.refl _ _⟩
  case round =>
    obtain ⟨q, hq, rfl, ht, hln, fq⟩ := hrel
    have HT := Lib.hid ht
    have Fq := Lib.hid fq
    have Hln := Lib.hid hln
    have GW : Hid (Fr (fun j => j = g) w wr) := (G1.out.mono (fun _ h => h.elim)).trans fq (fun _ h => .inl h)
    have GB : Hid (Fr (fun _ => False) w wr) := GW.out.mono (fun i hi => .inr (by rw [hi]; exact hgw.out))
    clear ht fq hln HT1
    by_cases hlt : q < m
    · obtain ⟨sa, s, rfl, hs, d0, d6, d7⟩ := (Hs.out.fr0 GB.out).samp_ hlt
      have hsw := Hsw.out s (mem_of_get hs)
      have hqI : 0 ≤ (q : Int) ∧ (q : Int) < (m : Int) := by omega
      have hqw : IntKind.i64.wrap ((q : Int) + 1) = (q : Int) + 1 := by simp [IntKind.wrap, IntKind.signed, IntKind.bits]; omega
      have hst : viewG X k [] (all.take (q + 1)) = stepL X s k (viewG X k [] (all.take q)) := by rw [take_snoc hs, viewG_app]; rfl
      have HNm : Hid (∀ W, Calls Tryz.prog 60 #[.string s.name] W fun r w' => r = .returned (.bool (validB s.name)) ∧ W = w') := fun W => rvalid_any s.name hsw.2.2 W
      have HSt : Hid (∀ W, Fr (fun j => j = g) wr W → Calls Tryz.prog 61 #[.agg #[.int .i64 now, .string nm, .slice (some ad) n c, .slice B mf df], .int .i64 k, .int .i64 s.time] W fun r w' => r = .returned (.tuple #[.int .i64 (startV now l fl k s.time).1, .bool (startV now l fl k s.time).2]) ∧ Below W.heap.size W w') := fun W f => by
        have f2 := (GW.out.trans f (fun _ h => .inl h)).mono (G := fun _ => False) (fun i hi => .inr (by rw [hi]; exact hgw.out))
        exact rstart_any now hnow nm l (some ad) n c fl B mf df k s.time hsw.1 W (Hr.out.fr0 f2) (Hf.out.fr0 f2) Hwf.out hn
      have HOn : Hid (∀ W, Calls Tryz.prog 63 #[.int .i64 s.value] W fun r w' => r = .returned (aggOne s.value).val ∧ Below W.heap.size W w') := fun W => rone_any s.value hsw.2.1 W
      have C1q := C1.out.fr Fq.out hgr.symm
      have hsag : (sa.add (q * 3)).block ≠ g := fun e => by
        obtain ⟨_, hcc⟩ := Hs.out
        have := (Hs.out.adlt (by decide)) sa.block ⟨by omega, sa, rfl, rfl⟩
        rw [block_of_add] at e
        have := hgw.out
        omega
      have HC : Hid (∀ W, Fr (fun j => j = g) wr W → W.cell? ⟨rb, 0, none⟩ = some (.int .i64 now) ∧ W.cell? ⟨rb, 1, none⟩ = some (.string nm) ∧ W.cell? ⟨rb, 2, none⟩ = some (.slice (some ad) n c) ∧ W.cell? ⟨rb, 3, none⟩ = some (.slice B mf df) ∧ W.cell? (sa.add (q * 3)) = some (.string s.name) ∧ W.cell? ⟨(sa.add (q * 3)).block, (sa.add (q * 3)).off + 1, none⟩ = some (.int .i64 s.time) ∧ W.cell? ⟨(sa.add (q * 3)).block, (sa.add (q * 3)).off + 2, none⟩ = some (.int .i64 s.value)) := fun W f => by
        have b := C1q.fr f hgr.symm
        exact ⟨b.cell 0, b.cell 1, b.cell 2, b.cell 3, f.cell d0 hsag, f.cell d6 hsag, f.cell d7 hsag⟩
      have Hs1 := Lib.hid hs
      obtain ⟨L, hL⟩ : ∃ L, viewG X k [] (all.take q) = L := ⟨_, rfl⟩
      rw [hL] at HT Hln hst
      have Hst := Lib.hid hst
      obtain ⟨vb, hvb⟩ : ∃ b, validB s.name = b := ⟨_, rfl⟩
      rw [hvb] at HNm
      have Hvb := Lib.hid hvb
      have hxX : X.tiers[k]? = some x := by rw [hXt]; exact Hx.out
      clear hs hL hst hvb C1q
      cases vb with
      | false =>
        have hsk : stepL X s k L = L := by
          unfold stepL
          rw [hxX]
          simp only
          split
          · unfold addV rightR
            rw [Hvb.out]
            rfl
          · rfl
        rw [hsk] at Hst
        clear hxX hsk
        go_wp2_with fail
        refine (HNm.out _).mono ?_
        rintro r w3 ⟨rfl, rfl⟩
        go_wp2_with fail
        go_roundw
        case rel => exact ⟨q + 1, by omega, by go_num, by rw [Hst.out]; exact HT.out, by rw [Hst.out]; exact Nat.le_succ_of_le Hln.out, Fq.out⟩
        case measure => simp [intOf]; omega
      | true =>
        have hsk : stepL X s k L = if (startV now l fl k s.time).2 then addV xe L ⟨s.name, (startV now l fl k s.time).1, aggOne s.value⟩ else L := by
          unfold stepL
          rw [hxX, hXn, hXt, hXf]
          simp only
          rw [Hxe.out]
        rw [hsk] at Hst
        have hsin : in64 (startV now l fl k s.time).1 := by
          unfold startV
          split
          · split
            · exact floor_in hsw.1.1 hsw.1.2
            · simp [in64]
          · simp [in64]
        by_cases ht0 : s.time < 0
        · have d9 : decide (s.time < 0) = true := decide_eq_true ht0
          have hst2 : (startV now l fl k s.time).2 = false := by
            unfold startV
            rw [if_neg (fun h => by omega)]
          rw [hst2, if_neg (by simp)] at Hst
          clear hxX hsk hsin hst2
          go_wp2_with fail
          refine (HNm.out _).mono ?_
          rintro r w3 ⟨rfl, rfl⟩
          go_wp2_with fail
          go_roundw
          case rel => exact ⟨q + 1, by omega, by go_num, by rw [Hst.out]; exact HT.out, by rw [Hst.out]; exact Nat.le_succ_of_le Hln.out, Fq.out⟩
          case measure => simp [intOf]; omega
        · have d9 : decide (s.time < 0) = false := decide_eq_false ht0
          obtain ⟨sv, hsv⟩ : ∃ v, (startV now l fl k s.time).1 = v := ⟨_, rfl⟩
          obtain ⟨bv, hbv⟩ : ∃ v, (startV now l fl k s.time).2 = v := ⟨_, rfl⟩
          rw [hsv, hbv] at HSt Hst
          rw [hsv] at hsin
          have hag := aggOne_wf hsw.2.1
          have HAd : Hid (∀ W, RTabOn W g w.heap.size xe L → w.heap.size ≤ W.heap.size → Calls Tryz.prog 62 #[.pointer (some ⟨g, 0, none⟩), (⟨s.name, sv, aggOne s.value⟩ : RecV).val] W fun r' w' => r' = .returned (.bool (rightR xe ⟨s.name, sv, aggOne s.value⟩)) ∧ RTabOn w' g w.heap.size xe (addV xe L ⟨s.name, sv, aggOne s.value⟩) ∧ Fr (fun j => j = g) W w') := fun W h h2 => radd_any g w.heap.size xe L _ ⟨hsin, hag, hsw.2.2⟩ W h h2 (Nat.le_trans Hln.out (by omega))
          obtain ⟨ag, hag2⟩ : ∃ v, aggOne s.value = v := ⟨_, rfl⟩
          rw [hag2] at HAd Hst HOn
          obtain ⟨a1, a2, a3, a4, a5⟩ := ag
          unfold RecV.val at HAd
          unfold AggV.val at HOn
          simp only at HAd HOn
          have Hl1 : Hid ((addV xe L ⟨s.name, sv, ⟨a1, a2, a3, a4, a5⟩⟩).length ≤ q + 1) := Nat.le_trans (addV_len_le _ _ _) (Nat.succ_le_succ Hln.out)
          obtain ⟨s0, hs0⟩ : ∃ v, s.name = v := ⟨_, rfl⟩
          obtain ⟨s1, hs1⟩ : ∃ v, s.time = v := ⟨_, rfl⟩
          obtain ⟨s2, hs2⟩ : ∃ v, s.value = v := ⟨_, rfl⟩
          rw [hs0, hs1, hs2] at HC
          rw [hs0] at HAd Hst HNm d0 Hl1
          rw [hs1] at HSt d6 d9 ht0
          rw [hs2] at HOn d7
          clear hxX hsk hsin hsv hbv hag hag2 hs0 hs1 hs2 hsw
          go_wp2_with fail
          refine (HNm.out _).mono ?_
          rintro r w3 ⟨rfl, rfl⟩
          go_wp2_with fail
          refine wp_region_held_drew (S := fun W => Fr (fun j => j = g) wr W) (by kernel_rfl) ((Fr.refl _ wr).drew) (fun hHeld => ?_)
          refine tk 0 ⟨some 52, .load 46 (.tmp 3), 46, _, _, none⟩ ?vq1 rfl (by kernel_rfl) (.inl ⟨by rfl, ?hq1⟩) ?rq1
          case hq1 => intro W hSw; (try obtain ⟨r0, r1, r2, r3, y0, y1, y2⟩ := HC.out W hSw); go_simp; (try with_reducible rfl)
          refine tk 1 ⟨some 53, .move (.tmp 1), 3, _, _, none⟩ ?vq2 rfl (by kernel_rfl) (.inl ⟨by rfl, ?hq2⟩) ?rq2
          case hq2 => intro W hSw; go_simp; (try with_reducible rfl)
          refine tk 2 ⟨some 54, .move (.tmp 2), 33, _, _, none⟩ ?vq3 rfl (by kernel_rfl) (.inl ⟨by rfl, ?hq3⟩) ?rq3
          case hq3 => intro W hSw; go_simp; (try with_reducible rfl)
          refine tk 3 ⟨some 55, .move (.tmp 8), 3, _, _, none⟩ ?vq4 rfl (by kernel_rfl) (.inl ⟨by rfl, ?hq4⟩) ?rq4
          case hq4 => intro W hSw; go_simp; (try with_reducible rfl)
          refine tk 4 ⟨some 56, .indexAddr 33 (.tmp 54) (.tmp 55), 0, _, _, none⟩ ?vq5 rfl (by kernel_rfl) (.inl ⟨by rfl, ?hq5⟩) ?rq5
          case hq5 => intro W hSw; (try obtain ⟨r0, r1, r2, r3, y0, y1, y2⟩ := HC.out W hSw); go_simp; (try with_reducible rfl)
          refine tk 5 ⟨some 57, .fieldAddr 103 (.tmp 56) 1, 0, _, _, none⟩ ?vq6 rfl (by kernel_rfl) (.inl ⟨by rfl, ?hq6⟩) ?rq6
          case hq6 => intro W hSw; go_simp; (try with_reducible rfl)
          refine tk 6 ⟨some 58, .load 3 (.tmp 57), 3, _, _, none⟩ ?vq7 rfl (by kernel_rfl) (.inl ⟨by rfl, ?hq7⟩) ?rq7
          case hq7 => intro W hSw; (try obtain ⟨r0, r1, r2, r3, y0, y1, y2⟩ := HC.out W hSw); go_simp; (try with_reducible rfl)
          try simp only [Act.put, List.setIfInBounds_toArray, List.set_cons_zero, List.set_cons_succ]
          refine wpAnyH_ready (rs := [7]) (by kernel_rfl) (by simp) ?_
          refine AllReadyH.cons (o := ⟨some 59, .call ⟨.value (.func 61), #[.tmp 52, .tmp 53, .tmp 58], #[46, 3, 3]⟩, 118, _, _, none⟩) rfl (fun K hK => ?_) AllReadyH.nil
          go_simp
          go_wp2_with (first | (go_at_call 61; refine (HSt.out _ hHeld).mono ?_; rintro r wa ⟨rfl, ba⟩))
          refine hK.out _ _ (hHeld.trans (Fr.b0 ba) (fun _ h => h.elim)) (fun hHeld => ?_)
          clear hK K
          refine tk 8 ⟨some 51, .move (.tmp 59), 118, _, _, none⟩ ?vq8 rfl (by kernel_rfl) (.inl ⟨by rfl, ?hq8⟩) ?rq8
          case hq8 => intro W hSw; go_simp; (try with_reducible rfl)
          refine tk 9 ⟨some 60, .extract (.tmp 51) 0, 3, _, _, none⟩ ?vq9 rfl (by kernel_rfl) (.inl ⟨by rfl, ?hq9⟩) ?rq9
          case hq9 => intro W hSw; (try obtain ⟨r0, r1, r2, r3, y0, y1, y2⟩ := HC.out W hSw); go_simp; (try with_reducible rfl)
          refine tk 10 ⟨some 61, .extract (.tmp 51) 1, 4, _, _, none⟩ ?vq10 rfl (by kernel_rfl) (.inl ⟨by rfl, ?hq10⟩) ?rq10
          case hq10 => intro W hSw; (try obtain ⟨r0, r1, r2, r3, y0, y1, y2⟩ := HC.out W hSw); go_simp; (try with_reducible rfl)
          refine tk 11 ⟨some 9, .assign (.tmp 60), 3, _, _, none⟩ ?vq11 rfl (by kernel_rfl) (.inl ⟨by rfl, ?hq11⟩) ?rq11
          case hq11 => intro W hSw; (try obtain ⟨r0, r1, r2, r3, y0, y1, y2⟩ := HC.out W hSw); go_simp; (try with_reducible rfl)
          refine tk 12 ⟨some 10, .assign (.tmp 61), 4, _, _, none⟩ ?vq12 rfl (by kernel_rfl) (.inl ⟨by rfl, ?hq12⟩) ?rq12
          case hq12 => intro W hSw; (try obtain ⟨r0, r1, r2, r3, y0, y1, y2⟩ := HC.out W hSw); go_simp; (try with_reducible rfl)
          try simp only [Act.put, List.setIfInBounds_toArray, List.set_cons_zero, List.set_cons_succ]
          refine wpAnyH_done (by kernel_rfl) ?_ _
          have f8 : Fr (fun _ => False) wr wa := (Fr.refl _ wr).drew.trans (Fr.b0 ba) (fun _ h => h.elim)
          have F8 := Lib.hid f8
          clear hHeld ba f8 d0 d6 d7
          cases bv with
          | false =>
            rw [if_neg (by simp)] at Hst
            go_wp2_with fail
            go_roundw
            case rel =>
              obtain ⟨⟨A', c', e1, e2⟩, e3, e4, e5⟩ := HT.out
              exact ⟨q + 1, by omega, by go_num, by rw [Hst.out]; exact ⟨⟨A', c', e1.fr F8.out (fun h => h), own_fr0 e2 F8.out⟩, e3, e4, e5⟩, by rw [Hst.out]; exact Nat.le_succ_of_le Hln.out, Fq.out.trans F8.out (fun _ h => h.elim)⟩
            case measure => simp [intOf]; omega
          | true =>
            rw [if_pos rfl] at Hst
            go_wp2_with fail
            obtain ⟨wA, hwA⟩ : ∃ wA, wA = wa := ⟨_, rfl⟩
            rw [← hwA] at F8 ⊢
            clear hwA
            have HTf : Hid (∀ W, Fr (fun _ => False) wr W → RTabOn W g w.heap.size xe L) := fun W f => by
              obtain ⟨⟨A', c', e1, e2⟩, e3, e4, e5⟩ := HT.out
              exact ⟨⟨A', c', e1.fr f (fun h => h), own_fr0 e2 f⟩, e3, e4, e5⟩
            have HC2 : Hid (∀ W, Fr (fun j => j = g) wA W → W.cell? (sa.add (q * 3)) = some (.string s0) ∧ W.cell? ⟨(sa.add (q * 3)).block, (sa.add (q * 3)).off + 2, none⟩ = some (.int .i64 s2)) := fun W f => by
              obtain ⟨_, _, _, _, y0, _, y2⟩ := HC.out W ((F8.out.mono (fun _ h => h.elim)).trans f (fun _ h => .inl h))
              exact ⟨y0, y2⟩
            refine wp_region_held_drew (S := fun W => Fr (fun j => j = g) wA W) (by kernel_rfl) ((Fr.refl _ wA).drew) (fun hHeld => ?_)
            refine tk 0 ⟨some 63, .move (.tmp 7), 122, _, _, none⟩ ?vq13 rfl (by kernel_rfl) (.inl ⟨by rfl, ?hq13⟩) ?rq13
            case hq13 => intro W hSw; go_simp; (try with_reducible rfl)
            refine tk 1 ⟨some 64, .move (.tmp 2), 33, _, _, none⟩ ?vq14 rfl (by kernel_rfl) (.inl ⟨by rfl, ?hq14⟩) ?rq14
            case hq14 => intro W hSw; go_simp; (try with_reducible rfl)
            refine tk 2 ⟨some 65, .move (.tmp 8), 3, _, _, none⟩ ?vq15 rfl (by kernel_rfl) (.inl ⟨by rfl, ?hq15⟩) ?rq15
            case hq15 => intro W hSw; go_simp; (try with_reducible rfl)
            refine tk 3 ⟨some 66, .indexAddr 33 (.tmp 64) (.tmp 65), 0, _, _, none⟩ ?vq16 rfl (by kernel_rfl) (.inl ⟨by rfl, ?hq16⟩) ?rq16
            case hq16 => intro W hSw; (try obtain ⟨y0, y2⟩ := HC2.out W hSw); go_simp; (try with_reducible rfl)
            refine tk 4 ⟨some 67, .fieldAddr 103 (.tmp 66) 0, 0, _, _, none⟩ ?vq17 rfl (by kernel_rfl) (.inl ⟨by rfl, ?hq17⟩) ?rq17
            case hq17 => intro W hSw; go_simp; (try with_reducible rfl)
            refine tk 5 ⟨some 68, .load 9 (.tmp 67), 9, _, _, none⟩ ?vq18 rfl (by kernel_rfl) (.inl ⟨by rfl, ?hq18⟩) ?rq18
            case hq18 => intro W hSw; (try obtain ⟨y0, y2⟩ := HC2.out W hSw); go_simp; (try with_reducible rfl)
            refine tk 6 ⟨some 69, .move (.tmp 9), 3, _, _, none⟩ ?vq19 rfl (by kernel_rfl) (.inl ⟨by rfl, ?hq19⟩) ?rq19
            case hq19 => intro W hSw; go_simp; (try with_reducible rfl)
            refine tk 7 ⟨some 70, .move (.tmp 2), 33, _, _, none⟩ ?vq20 rfl (by kernel_rfl) (.inl ⟨by rfl, ?hq20⟩) ?rq20
            case hq20 => intro W hSw; go_simp; (try with_reducible rfl)
            refine tk 8 ⟨some 71, .move (.tmp 8), 3, _, _, none⟩ ?vq21 rfl (by kernel_rfl) (.inl ⟨by rfl, ?hq21⟩) ?rq21
            case hq21 => intro W hSw; go_simp; (try with_reducible rfl)
            refine tk 9 ⟨some 72, .indexAddr 33 (.tmp 70) (.tmp 71), 0, _, _, none⟩ ?vq22 rfl (by kernel_rfl) (.inl ⟨by rfl, ?hq22⟩) ?rq22
            case hq22 => intro W hSw; (try obtain ⟨y0, y2⟩ := HC2.out W hSw); go_simp; (try with_reducible rfl)
            refine tk 10 ⟨some 73, .fieldAddr 103 (.tmp 72) 2, 0, _, _, none⟩ ?vq23 rfl (by kernel_rfl) (.inl ⟨by rfl, ?hq23⟩) ?rq23
            case hq23 => intro W hSw; go_simp; (try with_reducible rfl)
            refine tk 11 ⟨some 74, .load 3 (.tmp 73), 3, _, _, none⟩ ?vq24 rfl (by kernel_rfl) (.inl ⟨by rfl, ?hq24⟩) ?rq24
            case hq24 => intro W hSw; (try obtain ⟨y0, y2⟩ := HC2.out W hSw); go_simp; (try with_reducible rfl)
            try simp only [Act.put, List.setIfInBounds_toArray, List.set_cons_zero, List.set_cons_succ]
            refine wpAnyH_ready (rs := [12]) (by kernel_rfl) (by simp) ?_
            refine AllReadyH.cons (o := ⟨some 75, .call ⟨.value (.func 63), #[.tmp 74], #[3]⟩, 106, _, _, none⟩) rfl (fun K hK => ?_) AllReadyH.nil
            go_simp
            go_wp2_with (first | (go_at_call 63; refine (HOn.out _).mono ?_; rintro r wb ⟨rfl, bb⟩))
            have fb : Fr (fun _ => False) wA wb := (Fr.refl _ wA).drew.trans (Fr.b0 bb) (fun _ h => h.elim)
            refine hK.out _ _ (hHeld.trans (Fr.b0 bb) (fun _ h => h.elim)) (fun hHeld => ?_)
            clear hK K
            refine tk 13 ⟨some 76, .build 108 #[(0, .tmp 68), (1, .tmp 69), (2, .tmp 75)], 108, _, _, none⟩ ?vq25 rfl (by kernel_rfl) (.inl ⟨by rfl, ?hq25⟩) ?rq25
            case hq25 => intro W hSw; (try obtain ⟨y0, y2⟩ := HC2.out W hSw); go_simp; (try with_reducible rfl)
            try simp only [Act.put, List.setIfInBounds_toArray, List.set_cons_zero, List.set_cons_succ]
            refine wpAnyH_ready (rs := [14]) (by kernel_rfl) (by simp) ?_
            refine AllReadyH.cons (o := ⟨some 77, .call ⟨.value (.func 62), #[.tmp 63, .tmp 76], #[122, 108]⟩, 4, _, _, none⟩) rfl (fun K hK => ?_) AllReadyH.nil
            go_simp
            go_wp2_with (first | (go_at_call 62; refine (HAd.out _ (HTf.out _ (F8.out.trans fb (fun _ h => h.elim))) (Nat.le_trans (Nat.le_trans GB.out.size F8.out.size) fb.size)).mono ?_; rintro r wc ⟨rfl, tc2, fc⟩))
            have tc2 := Lib.hid tc2
            refine hK.out _ _ (hHeld.trans fc (fun _ h => .inl h)) (fun hHeld => ?_)
            clear hK K
            try simp only [Act.put, List.setIfInBounds_toArray, List.set_cons_zero, List.set_cons_succ]
            refine wpAnyH_done (by kernel_rfl) ?_ _
            have Fh := Lib.hid hHeld
            clear hHeld fc bb
            go_wp2_with fail
            go_roundw
            case rel => exact ⟨q + 1, by omega, by go_num, by rw [Hst.out]; exact tc2.out, by rw [Hst.out]; exact Hl1.out, (Fq.out.trans F8.out (fun _ h => h.elim)).trans Fh.out (fun _ h => .inl h)⟩
            case measure => simp [intOf]; omega
    · obtain rfl : m = q := by omega
      have hql : all.take m = all := take_all (by rw [Hsl.out]; exact Nat.le_refl _)
      rw [hql] at HT
      obtain ⟨⟨A', c', e1, e2⟩, _, _, _⟩ := HT.out
      have t1 := e1.cell 1
      simp only [List.getElem?_toArray, List.getElem?_cons_succ, List.getElem?_cons_zero] at t1
      have E2 := Lib.hid (own_any e2).2.2.1
      clear hql e1 e2
      go_wp2_with fail
      go_ret
      exact ⟨⟨A', c', rfl, E2.out⟩, GB.out.below (fun _ h => h.elim)⟩
end Go.Proofs.YtlhhcancfgjfkaaGreat
