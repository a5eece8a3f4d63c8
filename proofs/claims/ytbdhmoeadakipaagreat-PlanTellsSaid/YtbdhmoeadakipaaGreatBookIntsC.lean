/- Walks of sedimentbook: grow, marked of Ints. -/
import Derived.Test.YtbdhmoeadakipaaGreatBookIntsB
namespace Go.Proofs.YtbdhmoeadakipaaGreat
open Go.RowKit

set_option maxRecDepth 100000 in
set_option maxHeartbeats 4000000 in
theorem markedI_any (O : Option Addr) (co m : Nat) (gs : List (HV Int)) (w : World) (hr : Rd w 1 O m (gs.map HV.v)) (hn : m ≤ 1000)
    (hg : ∀ h ∈ gs, Reads icell w 1 h) (hl : ∀ h ∈ gs, h.l.length ≤ 2000000) (hmk : ∀ (i : Nat) (h : HV Int), gs[i]? = some h → h.l = marksI i 0 h.l.length) :
    Calls Tryz.prog 65 #[.slice O m co] w fun r w' => r = .returned (.bool true) ∧ Below w.heap.size w w' := by
  have HR := Lib.hid hr
  have HG := Lib.hid hg
  have HL := Lib.hid hl
  have HMk := Lib.hid hmk
  clear hr hg hl hmk
  go_enter Tryz.func65, Tryz.ntmps65
  go_wp2_with fail
  go_loopw [3] (fun i wr => ∃ k : Nat, k ≤ m ∧ i = .int .i64 k ∧ Own w wr (fun _ => False)) (fun i _ => m - (intOf i).toNat)
  case atStart => exact ⟨0, Nat.zero_le _, rfl, Own.start w⟩
  case round =>
    obtain ⟨k, hk, rfl, ho⟩ := hrel
    have Ho := Lib.hid ho
    by_cases hlt : k < m
    · obtain ⟨ad, x, rfl, hx, d0⟩ := (HR.out.fr0 (Fr.b0 ho.bel)).at_map hlt
      have hlx := HL.out x (mem_of_get hx)
      have hxl := HMk.out k x hx
      obtain ⟨Ax, cx, hv, hrx, _⟩ := (HG.out x (mem_of_get hx)).fr0 (Fr.b0 ho.bel)
      obtain ⟨vx, lx⟩ := x
      simp only at hv hlx hxl hrx d0
      subst hv
      obtain ⟨nx, hnx⟩ : ∃ nx, lx.length = nx := ⟨_, rfl⟩
      rw [hnx] at hlx hxl hrx d0
      subst hxl
      have HRX := Lib.hid hrx
      have hlt2 : (k : Int) < (m : Int) := by omega
      have HM : Hid (∀ W, W.cell? (ad.add k) = some (.slice Ax nx cx) ∧ Fr (fun _ => False) wr W → Calls Tryz.prog 92 #[.int .i64 (k : Int), .int .i64 0, .int .i64 (nx : Int)] W fun r w'' => ∃ A c, r = .returned (.slice A nx c) ∧ w''.ownsRow wr.heap.size 3 1 (.slice A nx c) nx (icells (marksI k 0 nx)) ∧ w''.cell? (ad.add k) = some (.slice Ax nx cx) ∧ Fr (fun _ => False) wr w'') := fun W hW => by
        refine (markI_any k 0 nx (by omega) (by omega) (by omega) W).mono ?_
        rintro r w'' ⟨A, c, e, ho, b⟩
        exact ⟨A, c, e, own_le ho hW.2.size, (Fr.b0 b).cell hW.1 (fun h => h), hW.2.trans (Fr.b0 b) (fun _ h => h.elim)⟩
      have HS : Hid (∀ W A c, Fr (fun _ => False) wr W → W.ownsRow wr.heap.size 3 1 (.slice A nx c) nx (icells (marksI k 0 nx)) → Calls Tryz.prog 11 #[.slice Ax nx cx, .slice A nx c] W fun r w'' => r = .returned (.bool true) ∧ w''.cell? (ad.add k) = some (.slice Ax nx cx) ∧ Fr (fun _ => False) wr w'') := fun W A c hf h => by
        refine (sameints_eq (marksI k 0 nx) _ _ _ _ _ W (HRX.out.fr0 hf) (Rd.of_own h) (by omega)).mono ?_
        rintro r w'' ⟨e, b⟩
        have hf2 : Fr (fun _ => False) wr w'' := hf.trans (Fr.b0 b) (fun _ h => h.elim)
        exact ⟨e, hf2.cell d0 (fun h => h), hf2⟩
      clear hx hnx hrx ho
      go_wp2_with fail
      go_region_held3 (fun w' => w'.cell? (ad.add k) = some (.slice Ax nx cx) ∧ Fr (fun _ => False) wr w') (first | exact ⟨d0, (Fr.refl _ wr).drew⟩ | assumption | exact ⟨by assumption, by assumption⟩) (first | (go_at_call 92; refine (HM.out _ (by first | assumption | exact ⟨by assumption, by assumption⟩)).mono ?_; rintro r w5 ⟨M, cm, rfl, om, q5, f5⟩) | (go_at_call 11; refine (HS.out _ _ _ (by assumption) (by assumption)).mono ?_; rintro r w6 ⟨rfl, q6, f6⟩))
      go_wp2
      go_roundw
      case rel => exact ⟨k + 1, by omega, by go_num, Ho.out.skip (by assumption)⟩
      case measure => simp [intOf]; omega
    · obtain rfl : k = m := by omega
      clear ho
      go_wp2_with fail
      go_ret
      exact ⟨rfl, Ho.out.bel⟩

set_option maxRecDepth 100000 in
set_option maxHeartbeats 8000000 in
theorem growI_any (g : Nat) (cs : Array Value) (base : Nat) (V : Value) (hs : List (HV Int)) (w : World) (hb : Blk w g 45 cs) (hV : cs[2]? = some V) (hbase : base ≤ w.heap.size)
    (hL : Lists icell w base 3 1 hs) (hrow : w.ownsRow base 25 1 V hs.length (hs.map HV.v)) (hn : hs.length ≤ 1000) (hl : ∀ h ∈ hs, h.l.length ≤ 1000000)
    (hmk : ∀ (i : Nat) (h : HV Int), hs[i]? = some h → h.l = marksI i 0 h.l.length) :
    Calls Tryz.prog 57 #[.pointer (some ⟨g, 0, none⟩)] w fun r w' => ∃ (O : Option Addr) (co : Nat) (gs : List (HV Int)), r = .returned (.slice O hs.length co) ∧ w'.ownsRow w.heap.size 25 1 (.slice O hs.length co) hs.length (gs.map HV.v) ∧ gs.length = hs.length ∧ (∀ h ∈ gs, Reads icell w' 1 h) ∧ (∀ h ∈ hs, Reads icell w' 1 h) ∧
      (∀ h ∈ gs, h.l.length ≤ 1000072) ∧ (∀ (i : Nat) (h : HV Int), gs[i]? = some h → h.l = marksI i 0 h.l.length) ∧ (∀ h ∈ gs, ∀ b, rowF h.v b → listsF hs b ∨ w.heap.size ≤ b) ∧ Fr (listsF hs) w w' := by
  obtain ⟨RA, rc, rfl, _, _, hR⟩ := own_slice hrow
  have HB := Lib.hid hb
  have HLs := Lib.hid hL
  have HRow := Lib.hid hrow
  have HL := Lib.hid hl
  have HMk := Lib.hid hmk
  obtain ⟨m, hm⟩ : ∃ m, hs.length = m := ⟨_, rfl⟩
  rw [hm] at HRow hn hV ⊢
  have HV0 := Lib.hid hV
  have HBs := Lib.hid hbase
  have OB := Lib.hid (Off.lists hL (ts := [45, 25]) (by decide))
  obtain ⟨i0, hi0, hz0, hz1, hz2⟩ := info_parts info_sI
  obtain ⟨j0, hj0, hy0, hy1, hy2⟩ := info_parts info_int
  have HLen := Lib.hid hm
  clear hb hV hL hrow hl hR hm hbase hmk
  go_enter Tryz.func57, Tryz.ntmps57
  go_wp2_with fail
  go_loopw [3, 4] (fun o i wr => ∃ (k : Nat) (O : Option Addr) (co : Nat) (gs : List (HV Int)), k ≤ m ∧ i = .int .i64 k ∧ o = .slice O k co ∧ Hid (gs.length = k) ∧ wr.ownsRow w.heap.size 25 1 (.slice O k co) k (gs.map HV.v) ∧ Grown icell wr base 3 1 (fun i n => marksI i 0 n) w.heap.size hs gs ∧
      Hid (∀ (i : Nat) (h : HV Int), k ≤ i → hs[i]? = some h → wr.ownsRow base 3 1 h.v h.l.length (h.l.flatMap icell)) ∧ Fr (listsF hs) w wr) (fun _ i _ => m - (intOf i).toNat)
  case atStart => exact ⟨0, none, 0, [], Nat.zero_le _, rfl, rfl, rfl, World.ownsRow_nil _ _ _ _, Grown.start fun h hh => Reads.of_own (HLs.out.own h hh), fun i h _ hh => HLs.out.own h (mem_of_get hh), Fr.refl _ _⟩
  case round =>
    obtain ⟨k, O, co, gs, hk, rfl, rfl, hgl, hrow, hgr, hown, hf2⟩ := hrel
    have HO2 := Lib.hid hrow
    have HG := Lib.hid hgr
    have HF2 := Lib.hid hf2
    have hB := OB.out.blkf HB.out (by decide) hf2
    have hR2 := OB.out.own HRow.out (by decide) hf2
    have c0 := hB.cell 2
    rw [HV0.out] at c0
    have HB2 := Lib.hid hB
    clear hB hrow hgr hf2
    by_cases hlt : k < m
    · obtain ⟨ad, x, rfl, hx, d0⟩ := (Rd.of_own hR2).at_map hlt
      have hlx := HL.out x (mem_of_get hx)
      have ox := hown.out k x (Nat.le_refl _) hx
      have hxl := HMk.out k x hx
      have HX := Lib.hid hx
      obtain ⟨vx, lx⟩ := x
      simp only at d0 ox hlx hxl
      obtain ⟨Ax, cx, rfl, hcx, hcx2, _⟩ := own_slice ox
      obtain ⟨nx, hnx⟩ : ∃ nx, lx.length = nx := ⟨_, rfl⟩
      rw [hnx] at d0 ox hlx hcx hxl HX
      subst hxl
      have HOX := Lib.hid ox
      have hhx := Lib.hid (own_head ox)
      have HMK : Hid (∀ (j q : Nat) w', j ≤ 1001000 → q ≤ 1000 → Calls Tryz.prog 92 #[.int .i64 (k : Int), .int .i64 (j : Int), .int .i64 (q : Int)] w' fun r w'' => ∃ A c, r = .returned (.slice A q c) ∧ w''.ownsRow w'.heap.size 3 1 (.slice A q c) q (icells (marksI k j q)) ∧ Below w'.heap.size w' w'') := fun j q w' hj hq => markI_any k j q (by omega) (by omega) (by omega) w'
      obtain ⟨wo, hwo⟩ : ∃ wo : World, wo = wr := ⟨_, rfl⟩
      have hlt2 : (k : Int) < (m : Int) := by omega
      clear hx ox hR2
      go_wp2_with fail
      rw [← hwo] at HO2 HG hown HF2 HB2 HOX ⊢
      clear c0 d0 hwo
      go_loopw [5, 6] (fun l j wr => ∃ (jj q : Nat) (A : Option Addr) (c : Nat), jj ≤ 12 ∧ j = .int .i64 jj ∧ q ≤ 1000012 ∧ Hid (q = nx + jj) ∧ l = .slice A q c ∧ wr.ownsRow base 3 1 (.slice A q c) q ((marksI k 0 q).flatMap icell) ∧ Rd wr 1 Ax nx ((marksI k 0 nx).flatMap icell) ∧ Mv (rowF (.slice Ax nx cx)) (rowF (.slice A q c)) wo wr) (fun _ j _ => 12 - (intOf j).toNat)
      case atStart => exact ⟨0, nx, Ax, cx, by omega, rfl, by omega, rfl, rfl, HOX.out, Rd.of_own HOX.out, Mv.refl _ _⟩
      case round =>
        obtain ⟨jj, q, A, c, hjj, rfl, hq, hqn, rfl, hol, hrx, hmv⟩ := hrel
        have HOL := Lib.hid hol
        have HRX := Lib.hid hrx
        have HMV := Lib.hid hmv
        have hha := Lib.hid (own_head hol)
        have hbs := Lib.hid hmv.size
        have hbw : Hid (base ≤ wo.heap.size) := by have := HF2.out.size; have := HBs.out; show _ ≤ _; omega
        clear hol hrx hmv
        by_cases hlj : jj < 12
        · have hmk1 : Hid ((marksI k 0 (q + 1)).flatMap icell = (marksI k 0 q).flatMap icell ++ icells (marksI k q 1)) := by
            show _ = _
            rw [marksI_add, List.flatMap_append, Nat.zero_add]; rfl
          have hpre : Hid (((marksI k 0 q).flatMap icell).take (nx * 1) = (marksI k 0 nx).flatMap icell) := by
            show _ = _
            rw [hqn.out, marksI_add, List.flatMap_append, List.take_left' (by rw [vflat_len icell_len, marksI_len])]
          go_wp2_with fail
          refine (HMK.out q 1 wr (by omega) (by omega)).mono ?_
          rintro r w5 ⟨M, cm, rfl, om, b5⟩
          have OM := Lib.hid om
          have B5 := Lib.hid b5
          have hs5 := Lib.hid b5.size
          clear om b5
          go_wp2_with (at_builtin; refine wpList_app2 rfl _ _ 25 rfl 3 j0 _ 1 8 Tryz.underlying25 hj0 hy0 hy1 hy2 rfl (by decide) (.slice A q c) q _ rfl base (by have := hs5.out; have := hbs.out; have := hbw.out; omega) (own_fr0 HOL.out (Fr.b0 B5.out)) M 1 cm (icells (marksI k q 1)) rfl (Rd.of_own OM.out) (icells_one _) ?q1 ?q2 ?_)
          case q1 => unfold maxLen; omega
          case q2 => omega
          intro A6 c6 w6 ho6 hm6 hk6
          have HO6 := Lib.hid ho6
          have HM6 := Lib.hid hm6
          have HK6 := Lib.hid hk6
          clear ho6 hm6 hk6
          go_wp2
          go_roundw
          case rel =>
            refine ⟨jj + 1, q + 1, A6, c6, by omega, by go_num, by have := hqn.out; omega, by have := hqn.out; show _ = _; omega, by go_num, ?_, ?_, (HMV.out.skip (Fr.b0 B5.out)).trans HM6.out⟩
            · rw [hmk1.out]; exact HO6.out
            · exact keep_head hhx.out (HRX.out.fr0 (Fr.b0 B5.out)) hha.out HM6.out.fr HK6.out (by have := hqn.out; omega) hpre.out
          case measure => simp [intOf]; omega
        · obtain rfl : jj = 12 := by omega
          have hmk1 : Hid ((marksI k 0 (q + 60)).flatMap icell = (marksI k 0 q).flatMap icell ++ icells (marksI k q 60)) := by
            show _ = _
            rw [marksI_add, List.flatMap_append, Nat.zero_add]; rfl
          have hpre : Hid (((marksI k 0 q).flatMap icell).take (nx * 1) = (marksI k 0 nx).flatMap icell) := by
            show _ = _
            rw [hqn.out, marksI_add, List.flatMap_append, List.take_left' (by rw [vflat_len icell_len, marksI_len])]
          go_wp2_with fail
          refine (HMK.out q 60 wr (by omega) (by omega)).mono ?_
          rintro r w5 ⟨M, cm, rfl, om, b5⟩
          have OM := Lib.hid om
          have B5 := Lib.hid b5
          have hs5 := Lib.hid b5.size
          clear om b5
          go_wp2_with (at_builtin; refine wpList_app2 rfl (.tmp 34) (.tmp 38) 25 rfl 3 j0 _ 1 8 Tryz.underlying25 hj0 hy0 hy1 hy2 rfl (by decide) (.slice A q c) q _ rfl base (by have := hs5.out; have := hbs.out; have := hbw.out; omega) (own_fr0 HOL.out (Fr.b0 B5.out)) M 60 cm (icells (marksI k q 60)) rfl (Rd.of_own OM.out) (icells_one _) ?q1 ?q2 ?_)
          case q1 => unfold maxLen; omega
          case q2 => omega
          intro A7 c7 w7 ho7 hm7 hk7
          have HM7 := Lib.hid ((HMV.out.skip (Fr.b0 B5.out)).trans hm7)
          have HX7 : Hid (Rd w7 1 Ax nx ((marksI k 0 nx).flatMap icell)) := keep_head hhx.out (HRX.out.fr0 (Fr.b0 B5.out)) hha.out hm7.fr hk7 (by have := hqn.out; omega) hpre.out
          have HO7 : Hid (w7.ownsRow base 3 1 (.slice A7 (q + 60) c7) (q + 60) ((marksI k 0 (q + 60)).flatMap icell)) := by show World.ownsRow _ _ _ _ _ _ _; rw [hmk1.out]; exact ho7
          have HR7 : Hid (w7.ownsRow w.heap.size 25 1 (.slice O k co) k (gs.map HV.v)) := (Off.row HOX.out (ts := [25]) (by decide)).own HO2.out (by decide) HM7.out.fr
          have hs7 := Lib.hid HM7.out.size
          have hw0 := Lib.hid HF2.out.size
          have HG7 : Hid (Grown icell w7 base 3 1 (fun i n => marksI i 0 n) w.heap.size hs (gs ++ [⟨.slice A7 (q + 60) c7, marksI k 0 (q + 60)⟩])) := by
            refine HG.out.step HX.out hgl.out HLs.out.apart (fun i hi => ?_) hw0.out HM7.out ?_ ?_ ?_ ?_
            · exact own_lt (HLs.out.own _ (mem_of_get HX.out)) i hi
            · refine ⟨Ax, cx, ?_, ?_, hhx.out⟩
              · simp only [marksI_len]
              · simp only [marksI_len]; exact HX7.out
            · simp only [marksI_len]; exact HO7.out
            · simp only [marksI_len]; have := hqn.out; omega
            · simp only [marksI_len]
          clear ho7 hm7 hk7
          go_wp2_with (at_builtin; refine wpList_app2 rfl (.tmp 33) (.tmp 40) 37 rfl 25 i0 _ 1 24 Tryz.underlying37 hi0 hz0 hz1 hz2 rfl (by decide) (.slice O k co) k _ rfl w.heap.size (by have := hs7.out; have := hw0.out; simp; omega) (own_fr0 HR7.out (Fr.none_alloc _ _)) (some ⟨w7.heap.size, 0, none⟩) 1 1 [.slice A7 (q + 60) c7] rfl (Rd.newS (by simp) _ _ _ _ rfl) (by simp [Value.oneCell']) ?q1 ?q2 ?_)
          case q1 => unfold maxLen; omega
          case q2 => omega
          intro O8 c8 w8 ho8 hm8 _
          have HO8 := Lib.hid ho8
          have F8 : Fr (rowF (.slice O k co)) w7 w8 := ((Fr.none_alloc w7 (.cells #[.slice A7 (q + 60) c7] 25)).mono (fun _ h => h.elim)).trans hm8.fr (fun i hi => .inl hi)
          have HG8 : Hid (Grown icell w8 base 3 1 (fun i n => marksI i 0 n) w.heap.size hs (gs ++ [⟨.slice A7 (q + 60) c7, marksI k 0 (q + 60)⟩])) := by
            refine HG7.out.fr F8 (Off.row HR7.out (by decide)) (fun i hi => (HR7.out.lt i hi).1) (fun i ⟨x, hx, hi⟩ => own_lt (HLs.out.own x hx) i hi)
          have HF8 : Hid (Fr (listsF hs) w w8) := (HF2.out.trans HM7.out.fr (fun i hi => .inl ⟨_, mem_of_get HX.out, hi⟩)).trans F8 (fun i hi => .inr (HR7.out.lt i hi).1)
          have HW8 : Hid (∀ (i : Nat) (h : HV Int), k + 1 ≤ i → hs[i]? = some h → w8.ownsRow base 3 1 h.v h.l.length (h.l.flatMap icell)) := fun i h hik hi => by
            refine (Off.row HR7.out (ts := [3]) (by decide)).own ?_ (by decide) F8
            exact own_fr (hown.out i h (by omega) hi) HM7.out.fr (apart_ne HLs.out.apart hi HX.out (by omega))
          have hgl2 : Hid ((gs ++ [(⟨.slice A7 (q + 60) c7, marksI k 0 (q + 60)⟩ : HV Int)]).length = k + 1) := by show _ = _; rw [List.length_append, hgl.out]; rfl
          clear ho8 hm8 F8
          go_wp2
          go_roundw
          case rel =>
            refine ⟨k + 1, O8, c8, gs ++ [⟨.slice A7 (q + 60) c7, marksI k 0 (q + 60)⟩], by omega, by go_num, by go_num, hgl2, ?_, HG8.out, HW8.out, HF8.out⟩
            simpa using HO8.out
          case measure => simp [intOf]; omega
    · obtain rfl : k = m := by omega
      go_wp2_with fail
      go_ret
      exact ⟨O, co, gs, rfl, HO2.out, by rw [hgl.out], fun h hh => Reads.of_own (HG.out.2.1 h hh), HG.out.1, HG.out.2.2.1 (fun h hh => HL.out h hh), HG.out.2.2.2.1, HG.out.whence (by rw [hgl.out, HLen.out]), HF2.out⟩
end Go.Proofs.YtbdhmoeadakipaaGreat
