/- Walks of sedimentbook: grow, marked of Tiers. -/
import Derived.Test.YtbdhmoeadakipaaGreatBookTiersB
namespace Go.Proofs.YtbdhmoeadakipaaGreat
open Go.RowKit

set_option maxRecDepth 100000 in
set_option maxHeartbeats 4000000 in
theorem markedT_any (O : Option Addr) (co m : Nat) (gs : List (HV TierV)) (w : World) (hr : Rd w 1 O m (gs.map HV.v)) (hn : m ≤ 1000)
    (hg : ∀ h ∈ gs, Reads TierV.cells w 4 h) (hl : ∀ h ∈ gs, h.l.length ≤ 2000000) (hmk : ∀ (i : Nat) (h : HV TierV), gs[i]? = some h → h.l = marksT i 0 h.l.length) :
    Calls Tryz.prog 68 #[.slice O m co] w fun r w' => r = .returned (.bool true) ∧ Below w.heap.size w w' := by
  have HR := Lib.hid hr
  have HG := Lib.hid hg
  have HL := Lib.hid hl
  have HMk := Lib.hid hmk
  clear hr hg hl hmk
  go_enter Tryz.func68, Tryz.ntmps68
  go_wp2_with fail
  go_loopw [3] (fun i wr => ∃ k : Nat, k ≤ m ∧ i = .int .i64 k ∧ Own w wr (fun _ => False)) (fun i _ => m - (intOf i).toNat)
  case atStart => exact ⟨0, Nat.zero_le _, rfl, Own.start w⟩
  case round =>
    obtain ⟨k, hk, rfl, ho⟩ := hrel
    have Ho := Lib.hid ho
    by_cases hlt : k < m
    · obtain ⟨ad, x, rfl, hx, d0⟩ := (HR.out.fr0 (Fr.b0 ho.bel)).at_map hlt
      have hlx := HL.out x (mem_of_get hx)
      have hxl := HMk.out k x hx
      obtain ⟨Ax, cx, hv, hrx, _⟩ := (HG.out x (mem_of_get hx)).fr0 (Fr.b0 ho.bel)
      obtain ⟨vx, lx⟩ := x
      simp only at hv hlx hxl hrx d0
      subst hv
      obtain ⟨nx, hnx⟩ : ∃ nx, lx.length = nx := ⟨_, rfl⟩
      rw [hnx] at hlx hxl hrx d0
      subst hxl
      have HRX := Lib.hid hrx
      have hlt2 : (k : Int) < (m : Int) := by omega
      have HM : Hid (∀ W, W.cell? (ad.add k) = some (.slice Ax nx cx) ∧ Fr (fun _ => False) wr W → Calls Tryz.prog 95 #[.int .i64 (k : Int), .int .i64 0, .int .i64 (nx : Int)] W fun r w'' => ∃ A c, r = .returned (.slice A nx c) ∧ w''.ownsRow wr.heap.size 69 4 (.slice A nx c) nx (tcells (marksT k 0 nx)) ∧ w''.cell? (ad.add k) = some (.slice Ax nx cx) ∧ Fr (fun _ => False) wr w'') := fun W hW => by
        refine (markT_any k 0 nx (by omega) (by omega) (by omega) W).mono ?_
        rintro r w'' ⟨A, c, e, ho, b⟩
        exact ⟨A, c, e, own_le ho hW.2.size, (Fr.b0 b).cell hW.1 (fun h => h), hW.2.trans (Fr.b0 b) (fun _ h => h.elim)⟩
      have HS : Hid (∀ W A c, Fr (fun _ => False) wr W → W.ownsRow wr.heap.size 69 4 (.slice A nx c) nx (tcells (marksT k 0 nx)) → Calls Tryz.prog 86 #[.slice Ax nx cx, .slice A nx c] W fun r w'' => r = .returned (.bool true) ∧ w''.cell? (ad.add k) = some (.slice Ax nx cx) ∧ Fr (fun _ => False) wr w'') := fun W A c hf h => by
        refine (sametiers_eq (marksT k 0 nx) _ _ _ _ _ W (HRX.out.fr0 hf) (Rd.of_own h) (by omega)).mono ?_
        rintro r w'' ⟨e, b⟩
        have hf2 : Fr (fun _ => False) wr w'' := hf.trans (Fr.b0 b) (fun _ h => h.elim)
        exact ⟨e, hf2.cell d0 (fun h => h), hf2⟩
      clear hx hnx hrx ho
      go_wp2_with fail
      go_region_held3 (fun w' => w'.cell? (ad.add k) = some (.slice Ax nx cx) ∧ Fr (fun _ => False) wr w') (first | exact ⟨d0, (Fr.refl _ wr).drew⟩ | assumption | exact ⟨by assumption, by assumption⟩) (first | (go_at_call 95; refine (HM.out _ (by first | assumption | exact ⟨by assumption, by assumption⟩)).mono ?_; rintro r w5 ⟨M, cm, rfl, om, q5, f5⟩) | (go_at_call 86; refine (HS.out _ _ _ (by assumption) (by assumption)).mono ?_; rintro r w6 ⟨rfl, q6, f6⟩))
      go_wp2
      go_roundw
      case rel => exact ⟨k + 1, by omega, by go_num, Ho.out.skip (by assumption)⟩
      case measure => simp [intOf]; omega
    · obtain rfl : k = m := by omega
      clear ho
      go_wp2_with fail
      go_ret
      exact ⟨rfl, Ho.out.bel⟩

set_option maxRecDepth 100000 in
set_option maxHeartbeats 8000000 in
theorem growT_any (g : Nat) (cs : Array Value) (base : Nat) (V : Value) (hs : List (HV TierV)) (w : World) (hb : Blk w g 45 cs) (hV : cs[8]? = some V) (hbase : base ≤ w.heap.size)
    (hL : Lists TierV.cells w base 69 4 hs) (hrow : w.ownsRow base 22 1 V hs.length (hs.map HV.v)) (hn : hs.length ≤ 1000) (hl : ∀ h ∈ hs, h.l.length ≤ 1000000)
    (hmk : ∀ (i : Nat) (h : HV TierV), hs[i]? = some h → h.l = marksT i 0 h.l.length) :
    Calls Tryz.prog 60 #[.pointer (some ⟨g, 0, none⟩)] w fun r w' => ∃ (O : Option Addr) (co : Nat) (gs : List (HV TierV)), r = .returned (.slice O hs.length co) ∧ w'.ownsRow w.heap.size 22 1 (.slice O hs.length co) hs.length (gs.map HV.v) ∧ gs.length = hs.length ∧ (∀ h ∈ gs, Reads TierV.cells w' 4 h) ∧ (∀ h ∈ hs, Reads TierV.cells w' 4 h) ∧
      (∀ h ∈ gs, h.l.length ≤ 1000072) ∧ (∀ (i : Nat) (h : HV TierV), gs[i]? = some h → h.l = marksT i 0 h.l.length) ∧ (∀ h ∈ gs, ∀ b, rowF h.v b → listsF hs b ∨ w.heap.size ≤ b) ∧ Fr (listsF hs) w w' := by
  obtain ⟨RA, rc, rfl, _, _, hR⟩ := own_slice hrow
  have HB := Lib.hid hb
  have HLs := Lib.hid hL
  have HRow := Lib.hid hrow
  have HL := Lib.hid hl
  have HMk := Lib.hid hmk
  obtain ⟨m, hm⟩ : ∃ m, hs.length = m := ⟨_, rfl⟩
  rw [hm] at HRow hn hV ⊢
  have HV0 := Lib.hid hV
  have HBs := Lib.hid hbase
  have OB := Lib.hid (Off.lists hL (ts := [45, 22]) (by decide))
  obtain ⟨i0, hi0, hz0, hz1, hz2⟩ := info_parts info_sT
  obtain ⟨j0, hj0, hy0, hy1, hy2⟩ := info_parts info_tier
  have HLen := Lib.hid hm
  clear hb hV hL hrow hl hR hm hbase hmk
  go_enter Tryz.func60, Tryz.ntmps60
  go_wp2_with fail
  go_loopw [3, 4] (fun o i wr => ∃ (k : Nat) (O : Option Addr) (co : Nat) (gs : List (HV TierV)), k ≤ m ∧ i = .int .i64 k ∧ o = .slice O k co ∧ Hid (gs.length = k) ∧ wr.ownsRow w.heap.size 22 1 (.slice O k co) k (gs.map HV.v) ∧ Grown TierV.cells wr base 69 4 (fun i n => marksT i 0 n) w.heap.size hs gs ∧
      Hid (∀ (i : Nat) (h : HV TierV), k ≤ i → hs[i]? = some h → wr.ownsRow base 69 4 h.v h.l.length (h.l.flatMap TierV.cells)) ∧ Fr (listsF hs) w wr) (fun _ i _ => m - (intOf i).toNat)
  case atStart => exact ⟨0, none, 0, [], Nat.zero_le _, rfl, rfl, rfl, World.ownsRow_nil _ _ _ _, Grown.start fun h hh => Reads.of_own (HLs.out.own h hh), fun i h _ hh => HLs.out.own h (mem_of_get hh), Fr.refl _ _⟩
  case round =>
    obtain ⟨k, O, co, gs, hk, rfl, rfl, hgl, hrow, hgr, hown, hf2⟩ := hrel
    have HO2 := Lib.hid hrow
    have HG := Lib.hid hgr
    have HF2 := Lib.hid hf2
    have hB := OB.out.blkf HB.out (by decide) hf2
    have hR2 := OB.out.own HRow.out (by decide) hf2
    have c0 := hB.cell 8
    rw [HV0.out] at c0
    have HB2 := Lib.hid hB
    clear hB hrow hgr hf2
    by_cases hlt : k < m
    · obtain ⟨ad, x, rfl, hx, d0⟩ := (Rd.of_own hR2).at_map hlt
      have hlx := HL.out x (mem_of_get hx)
      have ox := hown.out k x (Nat.le_refl _) hx
      have hxl := HMk.out k x hx
      have HX := Lib.hid hx
      obtain ⟨vx, lx⟩ := x
      simp only at d0 ox hlx hxl
      obtain ⟨Ax, cx, rfl, hcx, hcx2, _⟩ := own_slice ox
      obtain ⟨nx, hnx⟩ : ∃ nx, lx.length = nx := ⟨_, rfl⟩
      rw [hnx] at d0 ox hlx hcx hxl HX
      subst hxl
      have HOX := Lib.hid ox
      have hhx := Lib.hid (own_head ox)
      have HMK : Hid (∀ (j q : Nat) w', j ≤ 1001000 → q ≤ 1000 → Calls Tryz.prog 95 #[.int .i64 (k : Int), .int .i64 (j : Int), .int .i64 (q : Int)] w' fun r w'' => ∃ A c, r = .returned (.slice A q c) ∧ w''.ownsRow w'.heap.size 69 4 (.slice A q c) q (tcells (marksT k j q)) ∧ Below w'.heap.size w' w'') := fun j q w' hj hq => markT_any k j q (by omega) (by omega) (by omega) w'
      obtain ⟨wo, hwo⟩ : ∃ wo : World, wo = wr := ⟨_, rfl⟩
      have hlt2 : (k : Int) < (m : Int) := by omega
      clear hx ox hR2
      go_wp2_with fail
      rw [← hwo] at HO2 HG hown HF2 HB2 HOX ⊢
      clear c0 d0 hwo
      go_loopw [5, 6] (fun l j wr => ∃ (jj q : Nat) (A : Option Addr) (c : Nat), jj ≤ 12 ∧ j = .int .i64 jj ∧ q ≤ 1000012 ∧ Hid (q = nx + jj) ∧ l = .slice A q c ∧ wr.ownsRow base 69 4 (.slice A q c) q ((marksT k 0 q).flatMap TierV.cells) ∧ Rd wr 4 Ax nx ((marksT k 0 nx).flatMap TierV.cells) ∧ Mv (rowF (.slice Ax nx cx)) (rowF (.slice A q c)) wo wr) (fun _ j _ => 12 - (intOf j).toNat)
      case atStart => exact ⟨0, nx, Ax, cx, by omega, rfl, by omega, rfl, rfl, HOX.out, Rd.of_own HOX.out, Mv.refl _ _⟩
      case round =>
        obtain ⟨jj, q, A, c, hjj, rfl, hq, hqn, rfl, hol, hrx, hmv⟩ := hrel
        have HOL := Lib.hid hol
        have HRX := Lib.hid hrx
        have HMV := Lib.hid hmv
        have hha := Lib.hid (own_head hol)
        have hbs := Lib.hid hmv.size
        have hbw : Hid (base ≤ wo.heap.size) := by have := HF2.out.size; have := HBs.out; show _ ≤ _; omega
        clear hol hrx hmv
        by_cases hlj : jj < 12
        · have hmk1 : Hid ((marksT k 0 (q + 1)).flatMap TierV.cells = (marksT k 0 q).flatMap TierV.cells ++ tcells (marksT k q 1)) := by
            show _ = _
            rw [marksT_add, List.flatMap_append, Nat.zero_add]; rfl
          have hpre : Hid (((marksT k 0 q).flatMap TierV.cells).take (nx * 4) = (marksT k 0 nx).flatMap TierV.cells) := by
            show _ = _
            rw [hqn.out, marksT_add, List.flatMap_append, List.take_left' (by rw [vflat_len tier_len, marksT_len])]
          go_wp2_with fail
          refine (HMK.out q 1 wr (by omega) (by omega)).mono ?_
          rintro r w5 ⟨M, cm, rfl, om, b5⟩
          have OM := Lib.hid om
          have B5 := Lib.hid b5
          have hs5 := Lib.hid b5.size
          clear om b5
          go_wp2_with (at_builtin; refine wpList_app2 rfl _ _ 22 rfl 69 j0 _ 4 40 Tryz.underlying22 hj0 hy0 hy1 hy2 rfl (by decide) (.slice A q c) q _ rfl base (by have := hs5.out; have := hbs.out; have := hbw.out; omega) (own_fr0 HOL.out (Fr.b0 B5.out)) M 1 cm (tcells (marksT k q 1)) rfl (Rd.of_own OM.out) (tcells_one _) ?q1 ?q2 ?_)
          case q1 => unfold maxLen; omega
          case q2 => omega
          intro A6 c6 w6 ho6 hm6 hk6
          have HO6 := Lib.hid ho6
          have HM6 := Lib.hid hm6
          have HK6 := Lib.hid hk6
          clear ho6 hm6 hk6
          go_wp2
          go_roundw
          case rel =>
            refine ⟨jj + 1, q + 1, A6, c6, by omega, by go_num, by have := hqn.out; omega, by have := hqn.out; show _ = _; omega, by go_num, ?_, ?_, (HMV.out.skip (Fr.b0 B5.out)).trans HM6.out⟩
            · rw [hmk1.out]; exact HO6.out
            · exact keep_head hhx.out (HRX.out.fr0 (Fr.b0 B5.out)) hha.out HM6.out.fr HK6.out (by have := hqn.out; omega) hpre.out
          case measure => simp [intOf]; omega
        · obtain rfl : jj = 12 := by omega
          have hmk1 : Hid ((marksT k 0 (q + 60)).flatMap TierV.cells = (marksT k 0 q).flatMap TierV.cells ++ tcells (marksT k q 60)) := by
            show _ = _
            rw [marksT_add, List.flatMap_append, Nat.zero_add]; rfl
          have hpre : Hid (((marksT k 0 q).flatMap TierV.cells).take (nx * 4) = (marksT k 0 nx).flatMap TierV.cells) := by
            show _ = _
            rw [hqn.out, marksT_add, List.flatMap_append, List.take_left' (by rw [vflat_len tier_len, marksT_len])]
          go_wp2_with fail
          refine (HMK.out q 60 wr (by omega) (by omega)).mono ?_
          rintro r w5 ⟨M, cm, rfl, om, b5⟩
          have OM := Lib.hid om
          have B5 := Lib.hid b5
          have hs5 := Lib.hid b5.size
          clear om b5
          go_wp2_with (at_builtin; refine wpList_app2 rfl (.tmp 34) (.tmp 38) 22 rfl 69 j0 _ 4 40 Tryz.underlying22 hj0 hy0 hy1 hy2 rfl (by decide) (.slice A q c) q _ rfl base (by have := hs5.out; have := hbs.out; have := hbw.out; omega) (own_fr0 HOL.out (Fr.b0 B5.out)) M 60 cm (tcells (marksT k q 60)) rfl (Rd.of_own OM.out) (tcells_one _) ?q1 ?q2 ?_)
          case q1 => unfold maxLen; omega
          case q2 => omega
          intro A7 c7 w7 ho7 hm7 hk7
          have HM7 := Lib.hid ((HMV.out.skip (Fr.b0 B5.out)).trans hm7)
          have HX7 : Hid (Rd w7 4 Ax nx ((marksT k 0 nx).flatMap TierV.cells)) := keep_head hhx.out (HRX.out.fr0 (Fr.b0 B5.out)) hha.out hm7.fr hk7 (by have := hqn.out; omega) hpre.out
          have HO7 : Hid (w7.ownsRow base 69 4 (.slice A7 (q + 60) c7) (q + 60) ((marksT k 0 (q + 60)).flatMap TierV.cells)) := by show World.ownsRow _ _ _ _ _ _ _; rw [hmk1.out]; exact ho7
          have HR7 : Hid (w7.ownsRow w.heap.size 22 1 (.slice O k co) k (gs.map HV.v)) := (Off.row HOX.out (ts := [22]) (by decide)).own HO2.out (by decide) HM7.out.fr
          have hs7 := Lib.hid HM7.out.size
          have hw0 := Lib.hid HF2.out.size
          have HG7 : Hid (Grown TierV.cells w7 base 69 4 (fun i n => marksT i 0 n) w.heap.size hs (gs ++ [⟨.slice A7 (q + 60) c7, marksT k 0 (q + 60)⟩])) := by
            refine HG.out.step HX.out hgl.out HLs.out.apart (fun i hi => ?_) hw0.out HM7.out ?_ ?_ ?_ ?_
            · exact own_lt (HLs.out.own _ (mem_of_get HX.out)) i hi
            · refine ⟨Ax, cx, ?_, ?_, hhx.out⟩
              · simp only [marksT_len]
              · simp only [marksT_len]; exact HX7.out
            · simp only [marksT_len]; exact HO7.out
            · simp only [marksT_len]; have := hqn.out; omega
            · simp only [marksT_len]
          clear ho7 hm7 hk7
          go_wp2_with (at_builtin; refine wpList_app2 rfl (.tmp 33) (.tmp 40) 40 rfl 22 i0 _ 1 24 Tryz.underlying40 hi0 hz0 hz1 hz2 rfl (by decide) (.slice O k co) k _ rfl w.heap.size (by have := hs7.out; have := hw0.out; simp; omega) (own_fr0 HR7.out (Fr.none_alloc _ _)) (some ⟨w7.heap.size, 0, none⟩) 1 1 [.slice A7 (q + 60) c7] rfl (Rd.newS (by simp) _ _ _ _ rfl) (by simp [Value.oneCell']) ?q1 ?q2 ?_)
          case q1 => unfold maxLen; omega
          case q2 => omega
          intro O8 c8 w8 ho8 hm8 _
          have HO8 := Lib.hid ho8
          have F8 : Fr (rowF (.slice O k co)) w7 w8 := ((Fr.none_alloc w7 (.cells #[.slice A7 (q + 60) c7] 22)).mono (fun _ h => h.elim)).trans hm8.fr (fun i hi => .inl hi)
          have HG8 : Hid (Grown TierV.cells w8 base 69 4 (fun i n => marksT i 0 n) w.heap.size hs (gs ++ [⟨.slice A7 (q + 60) c7, marksT k 0 (q + 60)⟩])) := by
            refine HG7.out.fr F8 (Off.row HR7.out (by decide)) (fun i hi => (HR7.out.lt i hi).1) (fun i ⟨x, hx, hi⟩ => own_lt (HLs.out.own x hx) i hi)
          have HF8 : Hid (Fr (listsF hs) w w8) := (HF2.out.trans HM7.out.fr (fun i hi => .inl ⟨_, mem_of_get HX.out, hi⟩)).trans F8 (fun i hi => .inr (HR7.out.lt i hi).1)
          have HW8 : Hid (∀ (i : Nat) (h : HV TierV), k + 1 ≤ i → hs[i]? = some h → w8.ownsRow base 69 4 h.v h.l.length (h.l.flatMap TierV.cells)) := fun i h hik hi => by
            refine (Off.row HR7.out (ts := [69]) (by decide)).own ?_ (by decide) F8
            exact own_fr (hown.out i h (by omega) hi) HM7.out.fr (apart_ne HLs.out.apart hi HX.out (by omega))
          have hgl2 : Hid ((gs ++ [(⟨.slice A7 (q + 60) c7, marksT k 0 (q + 60)⟩ : HV TierV)]).length = k + 1) := by show _ = _; rw [List.length_append, hgl.out]; rfl
          clear ho8 hm8 F8
          go_wp2
          go_roundw
          case rel =>
            refine ⟨k + 1, O8, c8, gs ++ [⟨.slice A7 (q + 60) c7, marksT k 0 (q + 60)⟩], by omega, by go_num, by go_num, hgl2, ?_, HG8.out, HW8.out, HF8.out⟩
            simpa using HO8.out
          case measure => simp [intOf]; omega
    · obtain rfl : k = m := by omega
      go_wp2_with fail
      go_ret
      exact ⟨O, co, gs, rfl, HO2.out, by rw [hgl.out], fun h hh => Reads.of_own (HG.out.2.1 h hh), HG.out.1, HG.out.2.2.1 (fun h hh => HL.out h hh), HG.out.2.2.2.1, HG.out.whence (by rw [hgl.out, HLen.out]), HF2.out⟩
end Go.Proofs.YtbdhmoeadakipaaGreat
