/- Walks of sedimentbook: put, grow, marked of Ints. -/
import Derived.Test.YtbdhmoeadakipaaGreatBookInts
namespace Go.Proofs.YtbdhmoeadakipaaGreat
open Go.RowKit

theorem marksI_get (i b n j : Nat) (h : j < n) : (marksI i b n)[j]? = some (mrkI i (b + j)) := by
  unfold marksI; rw [List.getElem?_map, List.getElem?_range h]; rfl
set_option maxRecDepth 100000 in
set_option maxHeartbeats 8000000 in
theorem putI_any (g : Nat) (cs : Array Value) (base : Nat) (V : Value) (hs : List (HV Int)) (w : World) (hb : Blk w g 45 cs) (hV : cs[2]? = some V) (hbase : base ≤ w.heap.size)
    (hL : Lists icell w base 3 1 hs) (hrow : w.ownsRow base 25 1 V hs.length (hs.map HV.v)) (hn : hs.length ≤ 1000) (hl : ∀ h ∈ hs, h.l.length ≤ 1000000) :
    Calls Tryz.prog 50 #[.pointer (some ⟨g, 0, none⟩)] w fun r w' => r = .returned (.tuple #[]) ∧ Lists icell w' base 3 1 (markedTo (fun i n => marksI i 0 n) hs.length hs) ∧ Fr (listsF hs) w w' := by
  obtain ⟨RA, rc, rfl, _, _, hR⟩ := own_slice hrow
  have HB := Lib.hid hb
  have HLs := Lib.hid hL
  have HRow := Lib.hid hrow
  have HL := Lib.hid hl
  obtain ⟨m, hm⟩ : ∃ m, hs.length = m := ⟨_, rfl⟩
  rw [hm] at HRow hn hV hR ⊢
  have HV0 := Lib.hid hV
  have HR := Lib.hid hR
  have HBs := Lib.hid hbase
  have OB := Lib.hid (Off.lists hL (ts := [45, 25]) (by decide))
  have HMk := Lib.hid (fun i n => marksI_len i 0 n)
  clear hb hV hL hrow hl hR hm hbase
  go_enter Tryz.func50, Tryz.ntmps50
  go_wp2_with fail
  go_loopw [2] (fun i wr => ∃ k : Nat, k ≤ m ∧ i = .int .i64 k ∧ Lists icell wr base 3 1 (markedTo (fun i n => marksI i 0 n) k hs) ∧ Fr (listsF hs) w wr) (fun i _ => m - (intOf i).toNat)
  case atStart => exact ⟨0, Nat.zero_le _, rfl, by rw [markedTo_zero]; exact HLs.out, Fr.refl _ _⟩
  case round =>
    obtain ⟨k, hk, rfl, hl2, hf2⟩ := hrel
    have HL2 := Lib.hid hl2
    have HF2 := Lib.hid hf2
    have hB := OB.out.blkf HB.out (by decide) hf2
    have hR2 := OB.out.own HRow.out (by decide) hf2
    have c0 := hB.cell 2
    rw [HV0.out] at c0
    have HB2 := Lib.hid hB
    have HR2 := Lib.hid hR2
    clear hB hl2 hf2
    by_cases hlt : k < m
    · obtain ⟨ad, x, rfl, hx, d0⟩ := (Rd.of_own hR2).at_map hlt
      have hlx := HL.out x (mem_of_get hx)
      have ox : wr.ownsRow base 3 1 x.v x.l.length (x.l.flatMap icell) := HL2.out.own x (by
        have := markedTo_get (mk := fun i n => marksI i 0 n) (k := k) hx
        rw [if_neg (Nat.lt_irrefl k)] at this
        exact mem_of_get this)
      have hxF : ∀ i, rowF x.v i → listsF hs i := fun i hi => ⟨x, mem_of_get hx, hi⟩
      have HX := Lib.hid hx
      obtain ⟨vx, lx⟩ := x
      simp only at d0 ox hlx hxF
      obtain ⟨Ax, cx, rfl, hcx, hcx2, _⟩ := own_slice ox
      obtain ⟨nx, hnx⟩ : ∃ nx, lx.length = nx := ⟨_, rfl⟩
      rw [hnx] at d0 ox hlx hcx hxF HX
      have HOX := Lib.hid ox
      have HNX := Lib.hid hnx
      have HXF := Lib.hid hxF
      have HMK : Hid (∀ w', Calls Tryz.prog 92 #[.int .i64 (k : Int), .int .i64 0, .int .i64 (nx : Int)] w' fun r w'' => ∃ A c, r = .returned (.slice A nx c) ∧ w''.ownsRow w'.heap.size 3 1 (.slice A nx c) nx (icells (marksI k 0 nx)) ∧ Below w'.heap.size w' w'') := fun w' => by
        have := markI_any k 0 nx (by omega) (by omega) (by omega) w'
        exact this
      have hlt2 : (k : Int) < (m : Int) := by omega
      clear hx ox hnx hxF hR2
      go_wp2_with fail
      refine (HMK.out wr).mono ?_
      rintro r w5 ⟨M, cm, rfl, om, b5⟩
      have OM := Lib.hid om
      have B5 := Lib.hid (HB2.out.below b5)
      have R5 := Lib.hid (own_fr0 HR2.out (Fr.b0 b5))
      have OX5 := Lib.hid (own_fr0 HOX.out (Fr.b0 b5))
      have F5 := Lib.hid (HF2.out.trans (Fr.b0 b5) (fun _ h => h.elim))
      have BB5 := Lib.hid b5
      have hMX : Hid (∀ i, rowF (.slice M nx cm) i → ¬ rowF (.slice Ax nx cx) i) := fun i h1 h2 => by
        have := own_lt HOX.out i h2
        have := (OM.out.lt i h1).1
        omega
      clear om b5 c0 d0 HB2 HR2
      go_wp2_with fail
      go_loopw [4] (fun j w2 => ∃ jj : Nat, jj ≤ nx ∧ j = .int .i64 jj ∧ w2.ownsRow base 3 1 (.slice Ax nx cx) nx (((marksI k 0 nx).take jj ++ lx.drop jj).flatMap icell) ∧ Fr (rowF (.slice Ax nx cx)) w5 w2) (fun j _ => nx - (intOf j).toNat)
      case atStart => exact ⟨0, Nat.zero_le _, rfl, by simpa using OX5.out, Fr.refl _ _⟩
      case round =>
        obtain ⟨jj, hjj, rfl, ho2, hf3⟩ := hrel
        have HX2 := Lib.hid ho2
        have HF3 := Lib.hid hf3
        have RX5 : Off w5 (rowF (.slice Ax nx cx)) [45, 25] := Off.row OX5.out (by decide)
        have B6 := RX5.blkf B5.out (by decide) hf3
        have R6 := RX5.own R5.out (by decide) hf3
        have M6 := own_fr OM.out hf3 hMX.out
        clear RX5
        by_cases hlj : jj < nx
        · have c0 := B6.cell 2
          rw [HV0.out] at c0
          obtain ⟨ad2, x2, e2, hx2, d0⟩ := (Rd.of_own R6).at_map hlt
          injection e2 with e2
          subst e2
          have hx3 := HX.out
          rw [hx2] at hx3
          injection hx3 with hx3
          subst hx3
          obtain ⟨md, y, rfl, hy, e0⟩ := (Rd.of_own M6).icell_ hlj
          have HY := Lib.hid hy
          obtain ⟨gx, cap, hform, hgx, _⟩ := HX2.out.form (by omega)
          injection hform with h1 h2 h3
          subst h1
          subst h3
          have hlenX : (((marksI k 0 nx).take jj ++ lx.drop jj).flatMap icell).length = nx * 1 := HX2.out.1
          obtain ⟨q0, hq0⟩ : ∃ q, (((marksI k 0 nx).take jj ++ lx.drop jj).flatMap icell)[jj * 1]? = some q := ⟨_, List.getElem?_eq_getElem (by rw [hlenX]; omega)⟩
          have s0 := HX2.out.cellAt (jj * 1) (by omega)
          rw [hq0] at s0
          have z0 := HX2.out.frozenAt (jj * 1)
          clear hq0
          have HZ : Hid (∀ W, W = setRun wr.drew gx (jj * 1) [.int .i64 y] → W.ownsRow base 3 1 (.slice (some ⟨gx, 0, none⟩) nx cx) nx (((marksI k 0 nx).take (jj + 1) ++ lx.drop (jj + 1)).flatMap icell) ∧ Fr (rowF (.slice (some ⟨gx, 0, none⟩) nx cx)) w5 W) := fun W hW => by
            subst hW
            have hlx : ∃ z, lx[jj]? = some z := ⟨lx[jj]'(by rw [HNX.out]; exact hlj), List.getElem?_eq_getElem _⟩
            obtain ⟨z, hz⟩ := hlx
            have h1 := setRun_own [.int .i64 y] (jj * 1) wr.drew _ (own_fr0 HX2.out ((Fr.refl (fun _ => False) wr).drew))
            have h2 := flat_put icell_len _ _ HY.out hz
            refine ⟨?_, (HF3.out.drew).trans (setRun_fr [.int .i64 y] (jj * 1) wr.drew) (fun i hi => .inl (by subst hi; rfl))⟩
            rw [← h2]
            exact h1
          clear hx2 hy B6 R6 M6 hlenX ho2 hf3
          go_wp2_with fail
          go_still_tail 13, (by kernel_rfl)
          repeat still_step
          try refine wpStill_nil ?_
          change wpList _ _ _ _ _ wr.drew
          obtain ⟨W2, hW2⟩ : ∃ W2, W2 = wr.drew := ⟨_, rfl⟩
          change wr.drew.cell? _ = _ at s0
          change wr.drew.frozen? _ = _ at z0
          rw [← hW2] at HZ s0 z0 ⊢
          rw [Nat.mul_one] at HZ s0 z0
          have hp : True := trivial
          clear c0 d0 e0 hW2 hp
          go_wp2
          go_roundw
          case rel => exact ⟨jj + 1, by omega, by go_num, (HZ.out _ rfl).1, (HZ.out _ rfl).2⟩
          case measure => simp [intOf]; omega
        · obtain rfl : jj = nx := by omega
          have HE : Hid (Lists icell wr base 3 1 (markedTo (fun i n => marksI i 0 n) (k + 1) hs) ∧ Fr (listsF hs) w wr) := by
            have hL5 := (HL2.out.fr0 (Fr.b0 BB5.out))
            have ho3 : wr.ownsRow base 3 1 (.slice Ax jj cx) jj ((marksI k 0 jj).flatMap icell) := by
              have := HX2.out
              rwa [take_all (by rw [marksI_len]; exact Nat.le_refl _), List.drop_eq_nil_of_le (by rw [HNX.out]; exact Nat.le_refl _), List.append_nil] at this
            refine ⟨hL5.mark HX.out HMk.out HF3.out ?_, F5.out.trans HF3.out (fun i hi => .inl (HXF.out i hi))⟩
            rw [HNX.out]
            exact ho3
          clear ho2 hf3 B6 R6 M6
          go_wp2
          go_roundw
          case rel => exact ⟨k + 1, by omega, by go_num, HE.out.1, HE.out.2⟩
          case measure => simp [intOf]; omega
    · obtain rfl : k = m := by omega
      go_wp2_with fail
      go_end0
      exact ⟨rfl, HL2.out, HF2.out⟩
end Go.Proofs.YtbdhmoeadakipaaGreat
