/- Walks of sedimentbook: marks, copies, still, put, grow, marked of Ints. -/
import Derived.Test.YtbdhmoeadakipaaGreatSameTI
import Derived.Test.YtbdhmoeadakipaaGreatBook
namespace Go.Proofs.YtbdhmoeadakipaaGreat
open Go.RowKit
/-- A mark. -/
def mrkI (i k : Nat) : Int := -1000000 * (i : Int) - (k : Int) - 7
theorem info_sI : (Tryz.prog.info? 25).map (fun i => (i.zero, i.size, i.bytes)) = some (some (.slice none 0 0), 1, 24) := by kernel_rfl
def marksI (i b n : Nat) : List Int := (List.range n).map fun j => mrkI i (b + j)
theorem marksI_len (i b n : Nat) : (marksI i b n).length = n := by simp [marksI]
theorem marksI_snoc (i b n : Nat) : marksI i b (n + 1) = marksI i b n ++ [mrkI i (b + n)] := by simp [marksI, List.range_succ]
theorem marksI_add (i b m : Nat) : ∀ n, marksI i b (m + n) = marksI i b m ++ marksI i (b + m) n
  | 0 => by simp [marksI]
  | n + 1 => by rw [← Nat.add_assoc, marksI_snoc, marksI_add i b m n, marksI_snoc, List.append_assoc, Nat.add_assoc]
theorem csI_len (l : List Int) : (icells l).length = l.length * 1 := vflat_len icell_len l

set_option maxRecDepth 100000 in
set_option maxHeartbeats 4000000 in
theorem markI_any (i b n : Nat) (hi : i ≤ 1000) (hb : b ≤ 17179869184) (hn : n ≤ 17179869184) (w : World) :
    Calls Tryz.prog 92 #[.int .i64 (i : Int), .int .i64 (b : Int), .int .i64 (n : Int)] w fun r w' => ∃ A c, r = .returned (.slice A n c) ∧ w'.ownsRow w.heap.size 3 1 (.slice A n c) n (icells (marksI i b n)) ∧ Below w.heap.size w w' := by
  obtain ⟨i0, hi0, hz0, hz1, hz2⟩ := info_parts info_int
  go_enter Tryz.func92, Tryz.ntmps92
  go_wp2_with fail
  go_loopw [7, 8] (fun o i' wr => ∃ (k j : Nat) (R : Option Addr) (cs : Nat), k ≤ n ∧ i' = .int .i64 j ∧ Hid (j = b + k) ∧ o = .slice R k cs ∧ wr.ownsRow w.heap.size 3 1 (.slice R k cs) k (icells (marksI i b k)) ∧ Own w wr (rowF (.slice R k cs))) (fun _ i' _ => b + n - (intOf i').toNat)
  case atStart => exact ⟨0, b, none, 0, Nat.zero_le _, rfl, rfl, rfl, World.ownsRow_nil _ _ _ _, (Own.start w).also (fun k hk => by cases hk)⟩
  case round =>
    obtain ⟨k, j, R, cs, hk, rfl, hj, rfl, hrow, ho⟩ := hrel
    have Hrow := Lib.hid hrow
    have Ho := Lib.hid ho
    have hwr := Lib.hid ho.bel.size
    clear hrow ho
    have hjb : j ≤ 34359738368 := by have := hj.out; omega
    by_cases hlt : k < n
    · have hjn : (j : Int) < (b : Int) + (n : Int) := by have := hj.out; omega
      have Hs : Hid (icells (marksI i b (k + 1)) = icells (marksI i b k) ++ [.int .i64 (-1000000 * (i : Int) - (j : Int) - 7)]) := by
        show _ = _
        rw [marksI_snoc, hj.out.symm]; unfold icells; rw [List.flatMap_append]; simp [mrkI, icell]
      go_wp2_with (at_builtin; refine wpList_app2 rfl _ _ 25 rfl 3 i0 _ 1 8 Tryz.underlying25 hi0 hz0 hz1 hz2 rfl (by decide) (.slice R k cs) k _ rfl w.heap.size (by have := hwr.out; simp; omega) (own_fr0 Hrow.out (Fr.none_alloc _ _)) (some ⟨wr.heap.size, 0, none⟩) 1 1 [.int .i64 (-1000000 * (i : Int) - (j : Int) - 7)] rfl (Rd.newS (by simp) _ _ _ _ rfl) (by simp [Value.oneCell']) ?q1 ?q2 ?_)
      case q1 => unfold maxLen; omega
      case q2 => omega
      intro R6 c6 w6 ho6 hm6 _
      have Ho6 := Lib.hid ho6
      have Hm6 := Lib.hid hm6
      clear ho6 hm6
      go_wp2
      go_roundw
      case rel =>
        refine ⟨k + 1, j + 1, R6, c6, by omega, by go_num, by have := hj.out; show _ = _; omega, by go_num, ?_, (Ho.out.skip (Fr.none_alloc _ _)).mv Hm6.out⟩
        rw [Hs.out]
        exact Ho6.out
      case measure => simp [intOf]; omega
    · obtain rfl : k = n := by omega
      have hje : ¬ (j : Int) < (b : Int) + (k : Int) := by have := hj.out; omega
      go_wp2_with fail
      go_ret
      exact ⟨R, cs, rfl, Hrow.out, Ho.out.bel⟩

set_option maxHeartbeats 1000000 in
theorem copyI_any (l : List Int) (A : Option Addr) (n c : Nat) (w : World) (hr : Rd w 1 A n (icells l)) (hn : n ≤ 17179869184) :
    Calls Tryz.prog 32 #[.slice A n c] w fun r w' => ∃ B d, r = .returned (.slice B n d) ∧ w'.ownsRow w.heap.size 3 1 (.slice B n d) n (icells l) ∧ Below w.heap.size w w' := by
  obtain ⟨i0, hi0, hz0, hz1, hz2⟩ := info_parts info_int
  have Hr := Lib.hid hr
  clear hr
  go_enter Tryz.func32, Tryz.ntmps32
  go_wp2_with (at_builtin; refine wpList_app2 rfl _ _ 25 rfl 3 i0 _ 1 8 Tryz.underlying25 hi0 hz0 hz1 hz2 rfl (by decide) (.slice none 0 0) 0 [] rfl w.heap.size (Nat.le_refl _) (World.ownsRow_nil _ _ _ _) A n c (icells l) rfl Hr.out (icells_one l) ?q1 ?q2 ?_)
  case q1 => unfold maxLen; omega
  case q2 => omega
  intro R6 c6 w6 ho6 hm6 _
  (try simp only [Nat.zero_add, List.nil_append] at ho6)
  (try simp only [Nat.zero_add] at hm6)
  (try rw [Nat.zero_add])
  have Ho6 := Lib.hid ho6
  have Hm6 := Lib.hid hm6
  clear ho6 hm6
  go_wp2_with fail
  go_ret
  exact ⟨R6, c6, rfl, Ho6.out, (((Own.start w).also (G := rowF (.slice none 0 0)) (fun k hk => by cases hk)).mv Hm6.out).bel⟩

set_option maxRecDepth 100000 in
set_option maxHeartbeats 4000000 in
theorem stillI_any (g : Nat) (cs : Array Value) (base : Nat) (V U : Value) (hs us : List (HV Int)) (w : World) (hb : Blk w g 45 cs) (hV : cs[2]? = some V) (hU : cs[3]? = some U)
    (hk : Kind icell w base 25 3 1 V U hs us) (hn : hs.length ≤ 1000) (hl : ∀ h ∈ hs, h.l.length ≤ 1000000) :
    Calls Tryz.prog 41 #[.pointer (some ⟨g, 0, none⟩)] w fun r w' => r = .returned (.bool true) ∧ Below w.heap.size w w' := by
  have HB := Lib.hid hb
  have HV0 := Lib.hid hV
  have HU0 := Lib.hid hU
  have HK := Lib.hid hk
  have HL := Lib.hid hl
  have hln := hk.len
  obtain ⟨RA, rc, rfl, _, _, hR⟩ := own_slice hk.row
  obtain ⟨UA, uc, rfl, _, _, hU2⟩ := own_slice hk.wrow
  rw [hln] at hU2 HU0 HK
  have HR := Lib.hid hR
  have HU := Lib.hid hU2
  obtain ⟨m, hm⟩ : ∃ m, hs.length = m := ⟨_, rfl⟩
  rw [hm] at HR HU HV0 HU0 HK hn
  have Hm := Lib.hid hm
  have Hln := Lib.hid hln
  clear hb hV hU hk hl hR hU2 hm hln
  go_enter Tryz.func41, Tryz.ntmps41
  go_wp2_with fail
  go_loopw [3] (fun i wr => ∃ k : Nat, k ≤ m ∧ i = .int .i64 k ∧ Own w wr (fun _ => False)) (fun i _ => m - (intOf i).toNat)
  case atStart => exact ⟨0, Nat.zero_le _, rfl, Own.start w⟩
  case round =>
    obtain ⟨k, hk, rfl, ho⟩ := hrel
    have Ho := Lib.hid ho
    have hB := HB.out.below ho.bel
    have c0 := hB.cell 2
    have c1 := hB.cell 3
    rw [HV0.out] at c0
    rw [HU0.out] at c1
    clear hB
    by_cases hlt : k < m
    · obtain ⟨ad, x, rfl, hx, d0⟩ := (HR.out.fr0 (Fr.b0 ho.bel)).at_map hlt
      obtain ⟨bd, y, rfl, hy, d1⟩ := (HU.out.fr0 (Fr.b0 ho.bel)).at_map hlt
      have hlx := HL.out x (mem_of_get hx)
      have hyx : y.l = x.l := by
        have h1 : (us.map HV.l)[k]? = (hs.map HV.l)[k]? := by rw [HK.out.same]
        rw [List.getElem?_map, List.getElem?_map, hx, hy] at h1
        exact Option.some.inj h1
      have ox := own_fr0 (HK.out.lists.own x (mem_of_get hx)) (Fr.b0 ho.bel)
      have oy := own_fr0 (HK.out.was y (mem_of_get hy)) (Fr.b0 ho.bel)
      obtain ⟨vx, lx⟩ := x
      obtain ⟨vy, ly⟩ := y
      simp only at hyx d0 d1 ox oy hlx
      subst hyx
      obtain ⟨Ax, cx, rfl, _, _, rx⟩ := own_slice ox
      obtain ⟨Ay, cy, rfl, _, _, ry⟩ := own_slice oy
      have RX := Lib.hid (Rd.drew rx)
      have RY := Lib.hid (Rd.drew ry)
      have hlt2 : (k : Int) < (m : Int) := by omega
      clear hx hy ox oy rx ry ho
      go_wp2_with fail
      go_still_tail 14, (by kernel_rfl)
      repeat still_step
      try refine wpStill_nil ?_
      change wpList _ _ _ _ _ wr.drew
      have o1 := Lib.hid (Ho.out.skip ((Fr.refl _ wr).drew))
      clear c0 c1 d0 d1
      go_wp2_with fail
      refine (sameints_eq ly _ _ _ _ _ wr.drew RX.out RY.out (by omega)).mono ?_
      rintro r w5 ⟨rfl, b5⟩
      have o5 := Lib.hid (o1.out.below b5)
      clear b5
      go_wp2
      go_roundw
      case rel => exact ⟨k + 1, by omega, by go_num, o5.out⟩
      case measure => simp [intOf]; omega
    · obtain rfl : k = m := by omega
      clear ho
      go_wp2_with fail
      go_ret
      exact ⟨rfl, Ho.out.bel⟩

set_option maxRecDepth 100000 in
set_option maxHeartbeats 4000000 in
theorem addI_any (g : Nat) (cs : Array Value) (base : Nat) (V U : Value) (hs us : List (HV Int)) (l : List Int) (A : Option Addr) (n c : Nat) (w : World) (hb : Blk w g 45 cs) (hV : cs[2]? = some V) (hU : cs[3]? = some U)
    (hk : Kind icell w base 25 3 1 V U hs us) (hn : hs.length < 250) (ho : w.ownsRow base 3 1 (.slice A n c) n (icells l)) (hl : n ≤ 1000000) (hbase : base ≤ w.heap.size) (hd : ∀ h ∈ hs, ∀ k, rowF h.v k → ¬ rowF (.slice A n c) k) :
    Calls Tryz.prog 9 #[.pointer (some ⟨g, 0, none⟩), .slice A n c] w fun r w' => r = .returned (.tuple #[]) ∧ ∃ V' U' B d, Blk w' g 45 ((cs.setIfInBounds 2 V').setIfInBounds 3 U') ∧ Kind icell w' base 25 3 1 V' U' (hs ++ [⟨.slice A n c, l⟩]) (us ++ [⟨.slice B n d, l⟩]) ∧ Fr (fun k => k = g ∨ rowF V k ∨ rowF U k) w w' := by
  have hln := hk.len
  have hsz : l.length = n := by have := ho.1; rw [csI_len] at this; omega
  obtain ⟨RA, rc, rfl, hrc1, hrc2, _⟩ := own_slice hk.row
  obtain ⟨UA, uc, rfl, huc1, huc2, _⟩ := own_slice hk.wrow
  have Hlen := Lib.hid hln
  obtain ⟨m, hm⟩ : ∃ m, hs.length = m := ⟨_, rfl⟩
  have HK := Lib.hid hk
  have HU0 := Lib.hid hk.row
  have HW0 := Lib.hid hk.wrow
  rw [hln] at HK HW0 hU
  rw [hm] at HK HU0 HW0 hn hV hU
  have Hm := Lib.hid hm
  have Hsz := Lib.hid hsz
  have HO := Lib.hid ho
  have HD := Lib.hid hd
  have HBs := Lib.hid hbase
  have HB := Lib.hid hb
  have c0 := hb.cell 2
  have f0 := hb.frozen 2
  rw [hV] at c0
  have hcs0 : 2 < cs.size := (Array.getElem?_eq_some_iff.1 hV).1
  have HUU := Lib.hid hU
  have HVV := Lib.hid hV
  obtain ⟨i0, hi0, hz0, hz1, hz2⟩ := info_parts info_sI
  clear hb hV hU hk ho hd hm hln hsz hbase
  go_enter Tryz.func9, Tryz.ntmps9
  go_wp2_with (at_builtin; refine wpList_app2 rfl _ _ 37 rfl 25 i0 _ 1 24 Tryz.underlying37 hi0 hz0 hz1 hz2 rfl (by decide) (.slice RA m rc) m _ rfl base (by have := HBs.out; simp; omega) (own_fr0 HU0.out (Fr.none_alloc _ _)) (some ⟨w.heap.size, 0, none⟩) 1 1 [.slice A n c] rfl (Rd.newS (by simp) _ _ _ _ rfl) (by simp [Value.oneCell']) ?q1 ?q2 ?_)
  case q1 => unfold maxLen; omega
  case q2 => omega
  intro R2 c2 w2 ho2 hm2 _
  have HO2 := Lib.hid ho2
  have HM2 := Lib.hid hm2
  have gV : ¬ rowF (.slice RA m rc) g := own_blk_ne HU0.out HB.out (by decide)
  have gU : ¬ rowF (.slice UA m uc) g := own_blk_ne HW0.out HB.out (by decide)
  have B2 := (HB.out.alloc (.cells #[.slice A n c] 25)).fr hm2.fr gV
  have gV2 : ¬ rowF (.slice R2 (m + 1) c2) g := own_blk_ne ho2 B2 (by decide)
  have c2' := B2.cell 2
  have f2' := B2.frozen 2
  rw [HVV.out] at c2'
  have HB2 := Lib.hid B2
  have GV := Lib.hid gV
  have GU := Lib.hid gU
  have GV2 := Lib.hid gV2
  have hc0 := Lib.hid hcs0
  clear ho2 hm2 gV gU gV2 B2 c0 f0 hcs0
  go_wp2_with fail
  obtain ⟨W3, hW3⟩ : ∃ W3, W3 = w2.setCell ⟨g, 2, none⟩ (.slice R2 (m + 1) c2) := ⟨_, rfl⟩
  rw [← hW3]
  have B3 : Blk W3 g 45 (cs.setIfInBounds 2 (.slice R2 (m + 1) c2)) := hW3 ▸ HB2.out.set_ 2 _
  have F3 : Fr (fun k => k = g ∨ rowF (.slice RA m rc) k ∨ rowF (.slice UA m uc) k) w W3 := by
    rw [hW3]
    exact (((Fr.none_alloc w (.cells #[.slice A n c] 25)).mono (fun _ h => h.elim)).trans HM2.out.fr (fun i hi => .inl (.inr (.inl hi)))).setCell (p := ⟨g, 2, none⟩) (.inl (.inl rfl)) _
  have R3 : W3.ownsRow base 25 1 (.slice R2 (m + 1) c2) (m + 1) (hs.map HV.v ++ [.slice A n c]) := by
    rw [hW3]
    exact own_fr HO2.out ((Fr.refl (fun k => k = g) w2).setCell (p := ⟨g, 2, none⟩) (.inl rfl) _) (fun k hk e => GV2.out (e ▸ hk))
  have U3 : W3.ownsRow base 25 1 (.slice UA m uc) m (us.map HV.v) := by
    refine own_fr (own_fr (own_fr0 HW0.out (Fr.none_alloc w (.cells #[.slice A n c] 25))) HM2.out.fr (fun k hk e => HK.out.uv k e hk)) (?_ : Fr (fun k => k = g) w2 W3) (fun k hk e => GU.out (e ▸ hk))
    rw [hW3]
    exact (Fr.refl (fun k => k = g) w2).setCell (p := ⟨g, 2, none⟩) (.inl rfl) _
  have V3 : ∀ k, rowF (.slice R2 (m + 1) c2) k → ¬ rowF (.slice UA m uc) k := fun k h1 h2 => by
    rcases HM2.out.sub k h1 with h3 | h3
    · exact HK.out.uv k h3 h2
    · have := own_lt HW0.out k h2
      simp at h3
      omega
  have L3 : W3.ownsRow base 3 1 (.slice A n c) n (icells l) := by
    refine (Off.or (Off.blk HB.out (by decide)) (Off.or (Off.row HU0.out (by decide)) (Off.row HW0.out (by decide)))).own (ts := [3]) HO.out (by decide) F3
  have e1 : W3.drew.cell? ⟨g, 3, none⟩ = some (.slice UA m uc) := by
    have := B3.cell 3
    rwa [Array.getElem?_setIfInBounds_ne (by decide), HUU.out] at this
  have HB3 := Lib.hid (show Blk W3.drew g 45 (cs.setIfInBounds 2 (.slice R2 (m + 1) c2)) from B3)
  have HF3 := Lib.hid (F3.drew)
  have HR3 := Lib.hid (show W3.drew.ownsRow base 25 1 (.slice R2 (m + 1) c2) (m + 1) (hs.map HV.v ++ [.slice A n c]) from own_fr0 R3 ((Fr.refl (fun _ => False) W3).drew))
  have HU3 := Lib.hid (show W3.drew.ownsRow base 25 1 (.slice UA m uc) m (us.map HV.v) from own_fr0 U3 ((Fr.refl (fun _ => False) W3).drew))
  have HL3 := Lib.hid (show W3.drew.ownsRow base 3 1 (.slice A n c) n (icells l) from own_fr0 L3 ((Fr.refl (fun _ => False) W3).drew))
  have HV3 := Lib.hid V3
  have hbs3 := Lib.hid (show base ≤ W3.drew.heap.size by have := F3.size; have := HBs.out; show base ≤ W3.heap.size; omega)
  clear hW3 B3 F3 R3 U3 V3 L3 c2' f2'
  have hU1 : 3 < cs.size := (Array.getElem?_eq_some_iff.1 HUU.out).1
  have HP5 : Hid (∀ w5, Below W3.drew.heap.size W3.drew w5 → w5.cell? ⟨g, 3, none⟩ = some (.slice UA m uc)) := fun w5 h => (HB3.out.below h).cell 3 |>.trans (by rw [Array.getElem?_setIfInBounds_ne (by decide), HUU.out])
  have HP5' : Hid (∀ w5, Below W3.drew.heap.size W3.drew w5 → ∀ o, (w5.alloc o).cell? ⟨g, 3, none⟩ = some (.slice UA m uc)) := fun w5 h o => ((HB3.out.below h).alloc o).cell 3 |>.trans (by rw [Array.getElem?_setIfInBounds_ne (by decide), HUU.out])
  have HB6 : Hid (∀ w5, Below W3.drew.heap.size W3.drew w5 → ∀ o A6 c6 w6, Mv (rowF (.slice UA m uc)) (rowF (.slice A6 (m + 1) c6)) (w5.alloc o) w6 → Blk w6 g 45 (cs.setIfInBounds 2 (.slice R2 (m + 1) c2))) := fun w5 h o A6 c6 w6 hm => ((HB3.out.below h).alloc o).fr hm.fr GU.out
  have HP6 : Hid (∀ w5, Below W3.drew.heap.size W3.drew w5 → ∀ o A6 c6 w6, Mv (rowF (.slice UA m uc)) (rowF (.slice A6 (m + 1) c6)) (w5.alloc o) w6 → w6.cell? ⟨g, 3, none⟩ = some (.slice UA m uc)) := fun w5 h o A6 c6 w6 hm => (HB6.out w5 h o A6 c6 w6 hm).cell 3 |>.trans (by rw [Array.getElem?_setIfInBounds_ne (by decide), HUU.out])
  have HF6 : Hid (∀ w5, Below W3.drew.heap.size W3.drew w5 → ∀ o A6 c6 w6, Mv (rowF (.slice UA m uc)) (rowF (.slice A6 (m + 1) c6)) (w5.alloc o) w6 → w6.frozen? ⟨g, 3, none⟩ = false) := fun w5 h o A6 c6 w6 hm => (HB6.out w5 h o A6 c6 w6 hm).frozen 3
  have HZ : Hid (∀ w5, Below W3.drew.heap.size W3.drew w5 → ∀ B d, w5.ownsRow W3.drew.heap.size 3 1 (.slice B n d) n (icells l) → ∀ o A6 c6 w6, w6.ownsRow base 25 1 (.slice A6 (m + 1) c6) (m + 1) (us.map HV.v ++ [.slice B n d]) → Mv (rowF (.slice UA m uc)) (rowF (.slice A6 (m + 1) c6)) (w5.alloc o) w6 →
      Blk (w6.setCell ⟨g, 3, none⟩ (.slice A6 (m + 1) c6)) g 45 ((cs.setIfInBounds 2 (.slice R2 (m + 1) c2)).setIfInBounds 3 (.slice A6 (m + 1) c6)) ∧ Kind icell (w6.setCell ⟨g, 3, none⟩ (.slice A6 (m + 1) c6)) base 25 3 1 (.slice R2 (m + 1) c2) (.slice A6 (m + 1) c6) (hs ++ [⟨.slice A n c, l⟩]) (us ++ [⟨.slice B n d, l⟩]) ∧ Fr (fun k => k = g ∨ rowF (.slice RA m rc) k ∨ rowF (.slice UA m uc) k) w (w6.setCell ⟨g, 3, none⟩ (.slice A6 (m + 1) c6))) := by
    intro w5 h5 B d hB5 o A6 c6 w6 hown hm
    have hb6 := HB6.out w5 h5 o A6 c6 w6 hm
    have hne : ¬ rowF (.slice A6 (m + 1) c6) g := own_blk_ne hown hb6 (by decide)
    have hs7 : Fr (fun j => j = g) w6 (w6.setCell ⟨g, 3, none⟩ (.slice A6 (m + 1) c6)) := (Fr.refl (fun j => j = g) w6).setCell (p := ⟨g, 3, none⟩) (.inl rfl) _
    have f5 : Fr (fun _ => False) W3.drew (w5.alloc o) := (Fr.b0 h5).alloc o
    have f57 : Fr (fun k => k = g ∨ rowF (.slice UA m uc) k) (w5.alloc o) (w6.setCell ⟨g, 3, none⟩ (.slice A6 (m + 1) c6)) := (hm.fr.mono (fun i hi => .inl (.inr hi))).trans hs7 (fun i hi => .inl (.inl hi))
    have f37 : Fr (fun k => k = g ∨ rowF (.slice UA m uc) k) W3.drew (w6.setCell ⟨g, 3, none⟩ (.slice A6 (m + 1) c6)) := (f5.mono (fun _ h => h.elim)).trans f57 (fun i hi => .inl hi)
    have f07 : Fr (fun k => k = g ∨ rowF (.slice RA m rc) k ∨ rowF (.slice UA m uc) k) w (w6.setCell ⟨g, 3, none⟩ (.slice A6 (m + 1) c6)) := HF3.out.trans f37 (fun i hi => .inl (hi.imp id .inr))
    have off0 : Off w (fun k => k = g ∨ rowF (.slice RA m rc) k ∨ rowF (.slice UA m uc) k) [3] := Off.or (Off.blk HB.out (by decide)) (Off.or (Off.row HU0.out (by decide)) (Off.row HW0.out (by decide)))
    have off5 : Off (w5.alloc o) (fun k => k = g ∨ rowF (.slice UA m uc) k) [3] := Off.or (Off.blk ((HB3.out.below h5).alloc o) (by decide)) (Off.row (own_fr0 HU3.out f5) (by decide))
    refine ⟨hb6.set_ 3 _, Kind.add HK.out ?_ ?_ ?_ ?_ ?_ f07 off0 HD.out, f07⟩
    · rw [Hm.out]
      refine own_fr (own_fr0 HR3.out f5) f57 (fun k hk e => ?_)
      rcases e with e | e
      · exact absurd (e ▸ hk) (own_blk_ne HR3.out HB3.out (by decide))
      · exact HV3.out k hk e
    · rw [Hlen.out, Hm.out]
      exact own_fr hown hs7 (fun k hk e => hne (e ▸ hk))
    · intro k h1 h2
      rcases hm.sub k h2 with h3 | h3
      · exact HV3.out k h1 h3
      · have := own_lt (own_fr0 HR3.out f5) k h1
        omega
    · rw [Hsz.out]
      exact off0.own HO.out (by decide) f07
    · rw [Hsz.out]
      exact own_le (off5.own (own_fr0 hB5 (Fr.none_alloc _ _)) (by decide) f57) hbs3.out
  have HC5 := Lib.hid (fun (_ : Unit) => copyI_any l A n c W3.drew (Rd.of_own HL3.out) (by omega))
  have hq1 : m + 1 ≤ maxLen := by unfold maxLen; omega
  have hq2 : (m + 1) * 24 ≤ 140737488355328 := by omega
  go_region_law (first
    | (refine step_app2 rfl (.tmp 24) (.tmp 27) 37 rfl 25 i0 (.slice none 0 0) 1 24 Tryz.underlying37 hi0 hz0 hz1 hz2 rfl (by decide) (.slice UA m uc) m _ rfl base (by have := hbs3.out; have := b5.size; simp; omega)
        (own_fr0 (own_fr0 HU3.out (Fr.b0 b5)) (Fr.none_alloc _ _)) (some ⟨w5.heap.size, 0, none⟩) 1 1 [.slice B n d] rfl (Rd.new w5 [.slice B n d] _ 1 rfl) (by simp [Value.oneCell']) hq1 hq2 ?_; intro A6 c6 w6 ho6 hm6 _; have q6 := HP6.out w5 b5 _ _ _ _ hm6; have f6 := HF6.out w5 b5 _ _ _ _ hm6)
    | (go_simp; go_at_call 32; refine (HC5.out ()).mono ?_; rintro r w5 ⟨B, d, rfl, ho5, b5⟩; have q5 := HP5.out w5 b5; have q5' := HP5'.out w5 b5; try dsimp only))
  all_goals (
    have hz := Lib.hid (HZ.out w5 b5 _ _ ho5 _ _ _ _ ho6 hm6)
    clear e1 q5 q5' q6 f6 ho6 hm6 b5 ho5
    go_wp2
    go_end0
    exact ⟨rfl, .slice R2 (m + 1) c2, .slice A6 (m + 1) c6, B, d, by rw [Hlen.out, Hm.out]; exact hz.out⟩)
end Go.Proofs.YtbdhmoeadakipaaGreat
